/- Contracts of package txid: the greatest number that records reserve, and numbers opened behind records. -/
import Derived.Test.YtnhfholodillaaaX
import Derived.Test.YtnhfholodillaaaI
set_option linter.unusedVariables false
set_option linter.unusedSimpArgs false
namespace Go.Proofs.Ytnhfholodillaaa
open Go.RowKit

/-- Records in a row: of each its kind and its number. -/
def El28 (r : Int × Int) (cs : List Value) : Prop := ∃ (c : Int) (d : Bool) (T : Option Addr) (m j : Nat), cs = [.int .u8 r.1, .int .u32 r.2, .int .u8 c, .bool d, .slice T m j]
def gr (R : Nat → Int × Int) : Nat → Int → Int
  | 0, l => l
  | k + 1, l => if (R k).1 == 1 then max (gr R k l) (R k).2 else gr R k l

set_option maxRecDepth 100000 in
set_option maxHeartbeats 1000000 in
theorem greatest_any (A : Option Addr) (n cap : Nat) (l : Int) (R : Nat → Int × Int) (w : World) (hn : n ≤ maxLen) (hv : RowsI w A n 5 (fun i => El28 (R i))) :
    Calls Try.prog 42 #[.slice A n cap, .int .u32 l, .func (.func 43) #[] #[]] w fun e' w' => e' = .returned (.int .u32 (gr R n l)) ∧ Below w.heap.size w w' := by
  unfold maxLen at hn
  have HV := Lib.hid hv
  clear hv
  go_enter Try.func42, Try.ntmps42
  go_wp2_with fail
  go_loopw [1, 13] (fun u i wr => ∃ k : Nat, k ≤ n ∧ i = .int .i64 k ∧ u = .int .u32 (gr R k l) ∧ Below w.heap.size w wr) (fun _ i _ => n - (intOf i).toNat)
  case atStart => exact ⟨0, by omega, rfl, rfl, Below.refl _ _⟩
  case round =>
    obtain ⟨k, hk, rfl, rfl, hBel⟩ := hrel
    have hwr := hBel.size
    by_cases hlt : k < n
    · obtain ⟨b, off, cs, hA, _, ⟨c, d, T, m, j, rfl⟩, hc⟩ := HV.out.at (by omega) hlt
      subst hA
      have d0 : wr.cell? ⟨b, off + k * 5, none⟩ = some (.int .u8 (R k).1) := by
        have := hc 0 (by omega)
        rw [hBel.cell (p := ⟨b, off + k * 5, none⟩) (cell_lt this)]; exact this
      have d1 : wr.cell? ⟨b, off + k * 5 + 1, none⟩ = some (.int .u32 (R k).2) := by
        have := hc 1 (by omega)
        rw [hBel.cell (p := ⟨b, off + k * 5 + 1, none⟩) (cell_lt this)]; exact this
      have d2 : wr.cell? ⟨b, off + k * 5 + 2, none⟩ = some (.int .u8 c) := by
        have := hc 2 (by omega)
        rw [hBel.cell (p := ⟨b, off + k * 5 + 2, none⟩) (cell_lt this)]; exact this
      have d3 : wr.cell? ⟨b, off + k * 5 + 3, none⟩ = some (.bool d) := by
        have := hc 3 (by omega)
        rw [hBel.cell (p := ⟨b, off + k * 5 + 3, none⟩) (cell_lt this)]; exact this
      have d4 : wr.cell? ⟨b, off + k * 5 + 4, none⟩ = some (.slice T m j) := by
        have := hc 4 (by omega)
        rw [hBel.cell (p := ⟨b, off + k * 5 + 4, none⟩) (cell_lt this)]; exact this
      clear hc
      cases hR : ((R k).1 == 1)
      all_goals
        have HG : Hid (gr R (k + 1) l = if (R k).1 == 1 then max (gr R k l) (R k).2 else gr R k l) := Lib.hid rfl
        go_wp2_with fail
        with_reducible refine (reserving_any _ _ _ _ _ _ _ _).mono ?_
        rintro e3 w3 ⟨rfl, hb3⟩
        have yw3 : w.heap.size ≤ w3.heap.size := by (have := hb3.size; (try simp at this); omega)
        have c3_0 : w3.cell? ⟨wr.heap.size, 0, none⟩ = some (.int .u8 (R k).1) := keep hb3 (by go_simp)
        have f3_0 : w3.frozen? ⟨wr.heap.size, 0, none⟩ = false := keepF hb3 (.int .u8 (R k).1) (by go_simp) (by go_simp)
        have zw3_0 := cell_lt c3_0
        have c3_1 : w3.cell? ⟨wr.heap.size, 1, none⟩ = some (.int .u32 (R k).2) := keep hb3 (by go_simp)
        have f3_1 : w3.frozen? ⟨wr.heap.size, 1, none⟩ = false := keepF hb3 (.int .u32 (R k).2) (by go_simp) (by go_simp)
        have c3_2 : w3.cell? ⟨wr.heap.size, 2, none⟩ = some (.int .u8 c) := keep hb3 (by go_simp)
        have f3_2 : w3.frozen? ⟨wr.heap.size, 2, none⟩ = false := keepF hb3 (.int .u8 c) (by go_simp) (by go_simp)
        have c3_3 : w3.cell? ⟨wr.heap.size, 3, none⟩ = some (.bool d) := keep hb3 (by go_simp)
        have f3_3 : w3.frozen? ⟨wr.heap.size, 3, none⟩ = false := keepF hb3 (.bool d) (by go_simp) (by go_simp)
        have c3_4 : w3.cell? ⟨wr.heap.size, 4, none⟩ = some (.slice T m j) := keep hb3 (by go_simp)
        have f3_4 : w3.frozen? ⟨wr.heap.size, 4, none⟩ = false := keepF hb3 (.slice T m j) (by go_simp) (by go_simp)
        go_wp2_with fail
        go_roundw
        case rel => exact ⟨k + 1, by omega, by go_num, by rw [HG.out, hR]; rfl, (by repeat (first | assumption | exact Below.refl _ _ | refine balloc ?_ _ | refine bset ?_ (by first | (simp; done) | (simp; omega)) _ | refine bdrew ?_ | refine bstep ?_ (by assumption)))⟩
        case measure => (try simp [intOf]); omega
    · have hkN : k = n := by omega
      subst hkN
      go_wp2_with fail
      go_ret
      exact ⟨rfl, hBel⟩

set_option maxHeartbeats 400000 in
theorem open_any (A : Option Addr) (n cap : Nat) (R : Nat → Int × Int) (w : World) (hn : n ≤ maxLen) (hv : RowsI w A n 5 (fun i => El28 (R i))) :
    Calls Try.prog 12 #[.slice A n cap] w fun e' w' => e' = .returned (.agg #[.int .u32 (gr R n 1), .int .u32 (gr R n 1)]) ∧ Below w.heap.size w w' := by
  have HN := Lib.hid hn
  have HV := Lib.hid (hv.alloc (.cells #[.int .u32 0, .int .u32 0] 24))
  clear hv hn
  go_enter Try.func12, Try.ntmps12
  go_wp2_with fail
  with_reducible refine (greatest_any A n cap 1 R _ HN.out HV.out).mono ?_
  rintro e1 w1 ⟨rfl, hb1⟩
  have c0 : w1.cell? ⟨w.heap.size, 0, none⟩ = some (.int .u32 0) := keep hb1 (by go_simp)
  have c1 : w1.cell? ⟨w.heap.size, 1, none⟩ = some (.int .u32 0) := keep hb1 (by go_simp)
  have f0 : w1.frozen? ⟨w.heap.size, 0, none⟩ = false := keepF hb1 (.int .u32 0) (by go_simp) (by go_simp)
  have f1 : w1.frozen? ⟨w.heap.size, 1, none⟩ = false := keepF hb1 (.int .u32 0) (by go_simp) (by go_simp)
  go_wp2_with fail
  exact bodyPost_ret (v := .agg #[.int .u32 (gr R n 1), .int .u32 (gr R n 1)]) (by simp [results, Try.results12, go_sem, *]) rfl ⟨rfl, (by repeat (first | assumption | exact Below.refl _ _ | refine balloc ?_ _ | refine bset ?_ (by first | (simp; done) | (simp; omega)) _ | refine bdrew ?_ | refine bstep ?_ (by assumption)))⟩
end Go.Proofs.Ytnhfholodillaaa
