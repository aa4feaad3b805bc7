/- The law QueueOrder, walked. -/
import Derived.Test.YtnhfholodillaaaQg
import Derived.Test.YtnhfholodillaaaR
set_option linter.unusedVariables false
set_option linter.unusedSimpArgs false
namespace Go.Proofs.Ytnhfholodillaaa
open Go.RowKit

def El63 (cs : List Value) : Prop := ∃ (a b : Bool) (x y : Int), cs = [.bool a, .bool b, .int .u32 x, .int .u8 y] ∧ (0 ≤ x ∧ x ≤ 4294967295) ∧ (0 ≤ y ∧ y ≤ 255)

theorem own_below {w w' : World} {base e n : Nat} {v : Value} {xs : List Value} (h : w.ownsRow base e 1 v n xs) (hb : Below w.heap.size w w') : w'.ownsRow base e 1 v n xs :=
  h.kept (row := none) ⟨hb.os, hb.tape, hb.output, hb.size, fun k hk _ => hb.block k hk⟩ (by cases v.ownBlock <;> simp)
theorem own_only {w w' : World} {base e n B : Nat} {v : Value} {xs : List Value} (h : w.ownsRow base e 1 v n xs) (ho : Only B w w') (hB : B < base) : w'.ownsRow base e 1 v n xs :=
  h.kept (row := some B) ⟨ho.os, ho.tape, ho.output, ho.size, fun k hk hne => ho.block k hk (fun e => hne (by rw [e]))⟩ (by
    right
    intro e
    have := h.lt B e
    omega)

set_option maxRecDepth 100000 in
set_option maxHeartbeats 1000000 in
theorem number_any (dr bb : Bool) (tx y : Int) {v : Value} {ls : List Int} (w : World) (hy : 0 ≤ y ∧ y ≤ 255) (hU : U32At w v ls) :
    Calls Try.prog 35 #[.agg #[.bool dr, .bool bb, .int .u32 tx, .int .u8 y], v] w fun e' w' => ∃ t, e' = .returned (.int .u32 t) ∧ Below w.heap.size w w' := by
  obtain ⟨hy0, hy1⟩ := hy
  obtain ⟨A, c, rfl, h2, h3, h4⟩ := hU
  have H4 := Lib.hid h4
  clear h4
  unfold maxLen at h3
  cases bb with
  | false =>
    go_enter Try.func35, Try.ntmps35
    go_wp2_with fail
    go_ret
    exact ⟨_, rfl, (by repeat (first | assumption | exact Below.refl _ _ | refine balloc ?_ _ | refine bdrew ?_ | refine bset ?_ (by first | (simp; done) | (simp; omega)) _ | refine bstep ?_ (by assumption)))⟩
  | true =>
    generalize ls.length = n at *
    by_cases hl : n = 0
    · subst hl
      go_enter Try.func35, Try.ntmps35
      go_wp2_with fail
      go_ret
      exact ⟨_, rfl, (by repeat (first | assumption | exact Below.refl _ _ | refine balloc ?_ _ | refine bdrew ?_ | refine bset ?_ (by first | (simp; done) | (simp; omega)) _ | refine bstep ?_ (by assumption)))⟩
    · have hpos : 0 < n := by omega
      have hpos1 : (1 : Int) ≤ (n : Int) := by omega
      have hpos2 : (0 : Int) < (n : Int) := by omega
      clear hl
      obtain ⟨K, hK⟩ := Int.eq_ofNat_of_zero_le (Int.emod_nonneg y (show (n : Int) ≠ 0 by omega))
      have hK2 : (K : Int) < (n : Int) := by rw [← hK]; exact Int.emod_lt_of_pos _ (by omega)
      have hK0 : (0 : Int) ≤ (K : Int) := by omega
      obtain ⟨b, o, ea, d, f⟩ := H4.out K (by omega)
      subst ea
      have d1 : (w.alloc (.cells #[.bool dr, .bool true, .int .u32 tx, .int .u8 y] 63)).cell? ⟨b, o + K, none⟩ = some (.int .u32 (ls.getD K 0)) := keep (balloc (Below.refl _ _) _) d
      generalize ls.getD K 0 = u at *
      clear H4
      go_enter Try.func35, Try.ntmps35
      go_wp2_with fail
      go_ret
      exact ⟨_, rfl, (by repeat (first | assumption | exact Below.refl _ _ | refine balloc ?_ _ | refine bdrew ?_ | refine bset ?_ (by first | (simp; done) | (simp; omega)) _ | refine bstep ?_ (by assumption)))⟩

theorem firstL_any {B r : Nat} {l : Int} {ls : List Int} (w : World) (h : QL w B r l ls) :
    Calls Try.prog 36 #[.pointer (some ⟨B, 0, none⟩)] w fun e' w' => ∃ f b, e' = .returned (.tuple #[.int .u32 f, .bool b]) ∧ Below w.heap.size w w' := by
  cases ls with
  | nil => exact (firstL_nil w h).mono fun e w' ⟨h1, h2⟩ => ⟨_, _, h1, h2⟩
  | cons x s => exact (firstL_cons w h).mono fun e w' ⟨h1, h2⟩ => ⟨_, _, h1, h2⟩
end Go.Proofs.Ytnhfholodillaaa
