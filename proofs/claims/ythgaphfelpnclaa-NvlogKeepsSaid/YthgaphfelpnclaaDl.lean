/- The disk's laws: an operation, and whether operations are light. -/
import Derived.Test.YthgaphfelpnclaaDg
import Derived.Test.YthgaphfelpnclaaRb
import Derived.Test.YthgaphfelpnclaaDap
set_option linter.unusedVariables false
set_option linter.unusedSimpArgs false
namespace Go.Proofs.Ythgaphfelpnclaa
open Go.RowKit

def Dsk.doOp (d : Dsk) (wh : Int) (ls : List Int) (n : Int) : Dsk × Int :=
  if wh % 5 = 0 then d.app ls else if wh % 5 = 1 then d.sync else if wh % 5 = 2 then d.cut n else if wh % 5 = 3 then (d.sparks n, 0) else (d.crash n, 0)

set_option maxRecDepth 100000 in
set_option maxHeartbeats 1000000 in
theorem doD {base B : Nat} {v u : Value} {d : Dsk} {ls : List Int} {wh n : Int} (w : World) (h : DS w base B v d) (hu : BAt w u ls) (ha : ls ≠ [] → Apart B v u) (hw : 0 ≤ wh ∧ wh ≤ 255) (hn : n ≤ 9223372036854775807) :
    Calls Try.prog 35 #[.pointer (some ⟨B, 0, none⟩), .agg #[.int .u8 wh, u, .int .i64 n]] w fun e' w' => ∃ v2, e' = .returned (.int .i64 (d.doOp wh ls n).2) ∧ DS w' base B v2 (d.doOp wh ls n).1 ∧ Step B v v2 w w' := by
  have HU := Lib.hid hu
  obtain ⟨A, c, rfl, hu2⟩ := hu
  clear hu2
  have hb := h.below (balloc (Below.refl _ w) (.cells #[.int .u8 wh, .slice A ls.length c, .int .i64 n] 52))
  have hbw : Below w.heap.size w (w.alloc (.cells #[.int .u8 wh, .slice A ls.length c, .int .i64 n] 52)) := balloc (Below.refl _ w) _
  have hc : wh % 5 = 0 ∨ wh % 5 = 1 ∨ wh % 5 = 2 ∨ wh % 5 = 3 ∨ wh % 5 = 4 := by omega
  rcases hc with hm | hm | hm | hm | hm
  · rw [show d.doOp wh ls n = d.app ls from by simp [Dsk.doOp, hm]]
    go_enter Try.func35, Try.ntmps35
    go_wp2_with fail
    with_reducible refine Calls.mono (appD _ hb (HU.out.below hbw) ha) ?_
    rintro e1 w1 ⟨v2, rfl, h1, s1⟩
    go_wp2_with fail
    go_ret
    exact ⟨v2, rfl, h1, (Step.of_below hbw).trans s1⟩
  · rw [show d.doOp wh ls n = d.sync from by simp [Dsk.doOp, hm]]
    go_enter Try.func35, Try.ntmps35
    go_wp2_with fail
    with_reducible refine Calls.mono (syncD _ hb) ?_
    rintro e1 w1 ⟨v2, rfl, h1, s1⟩
    go_wp2_with fail
    go_ret
    exact ⟨v2, rfl, h1, (Step.of_below hbw).trans s1⟩
  · rw [show d.doOp wh ls n = d.cut n from by simp [Dsk.doOp, hm]]
    go_enter Try.func35, Try.ntmps35
    go_wp2_with fail
    with_reducible refine Calls.mono (cutD _ hb n) ?_
    rintro e1 w1 ⟨v2, rfl, h1, s1⟩
    go_wp2_with fail
    go_ret
    exact ⟨v2, rfl, h1, (Step.of_below hbw).trans s1⟩
  · rw [show d.doOp wh ls n = (d.sparks n, 0) from by simp [Dsk.doOp, hm]]
    go_enter Try.func35, Try.ntmps35
    go_wp2_with fail
    with_reducible refine Calls.mono (sparksD _ hb n hn) ?_
    rintro e1 w1 ⟨rfl, h1, s1⟩
    go_wp2_with fail
    go_ret
    exact ⟨v, rfl, h1, (Step.of_below hbw).trans s1⟩
  · rw [show d.doOp wh ls n = (d.crash n, 0) from by simp [Dsk.doOp, hm]]
    go_enter Try.func35, Try.ntmps35
    go_wp2_with fail
    with_reducible refine Calls.mono (crashD _ hb n) ?_
    rintro e1 w1 ⟨v2, rfl, h1, s1⟩
    go_wp2_with fail
    go_ret
    exact ⟨v2, rfl, h1, (Step.of_below hbw).trans s1⟩

/-- An operation as it lies: what, bytes, a number. -/
def ElOp (w : World) (cs : List Value) : Prop :=
  ∃ (wh : Int) (u : Value) (ls : List Int) (x : Int), cs = [.int .u8 wh, u, .int .i64 x] ∧ (0 ≤ wh ∧ wh ≤ 255) ∧ (-9223372036854775808 ≤ x ∧ x ≤ 9223372036854775807) ∧ BAt w u ls ∧ ∀ n ∈ ls, 0 ≤ n ∧ n ≤ 255
/-- The i-th one of a row of operations, in a world that has all that was there. -/
theorem op_at {w w' : World} {A : Option Addr} {n : Nat} (h : RowsV w A n 3 (ElOp w)) (hb : Below w.heap.size w w') {i : Nat} (hi : i < n) :
    ∃ (b o : Nat) (wh : Int) (u : Value) (ls : List Int) (x : Int), A = some ⟨b, o, none⟩ ∧ w'.cell? ⟨b, o + i * 3, none⟩ = some (.int .u8 wh) ∧ w'.cell? ⟨b, o + i * 3 + 1, none⟩ = some u ∧ w'.cell? ⟨b, o + i * 3 + 2, none⟩ = some (.int .i64 x) ∧
      (0 ≤ wh ∧ wh ≤ 255) ∧ (-9223372036854775808 ≤ x ∧ x ≤ 9223372036854775807) ∧ BAt w u ls ∧ (∀ n ∈ ls, 0 ≤ n ∧ n ≤ 255) ∧ w.cell? ⟨b, o + i * 3 + 1, none⟩ = some u := by
  obtain ⟨b, o, cs, hA, _, ⟨wh, u, ls, x, rfl, h1, h2, h3, h4⟩, hc⟩ := h.at (by omega) hi
  have c0 := hc 0 (by omega)
  have c1 := hc 1 (by omega)
  have c2 := hc 2 (by omega)
  simp at c0 c1 c2
  exact ⟨b, o, wh, u, ls, x, hA, keep hb c0, keep hb c1, keep hb c2, h1, h2, h3, h4, c1⟩
/-- No text of the first m is longer than 200. -/
def Light (w : World) (A : Option Addr) (m : Nat) : Prop := ∀ i, i < m → ∀ (b o : Nat) (u : Value) (ls : List Int), A = some ⟨b, o, none⟩ → w.cell? ⟨b, o + i * 3 + 1, none⟩ = some u → BAt w u ls → ls.length ≤ 200

set_option maxRecDepth 100000 in
set_option maxHeartbeats 1000000 in
theorem lightD {A : Option Addr} {n cap : Nat} (w : World) (hn : n ≤ cap) (hcap : cap ≤ maxLen) (h : RowsV w A n 3 (ElOp w)) :
    Calls Try.prog 25 #[.slice A n cap] w fun e' w' => Below w.heap.size w w' ∧ (e' = .returned (.tuple #[.slice none 0 0, .bool false]) ∨ (Light w A (min n 60) ∧ e' = .returned (.tuple #[.slice A (min n 60) cap, .bool true]))) := by
  have HV := Lib.hid h
  clear h
  unfold maxLen at hcap
  obtain ⟨M, hM3⟩ : ∃ M : Nat, min n 60 = M := ⟨_, rfl⟩
  rw [hM3]
  go_enter Try.func25, Try.ntmps25
  have hM : 0 ≤ min (n : Int) 60 ∧ min (n : Int) 60 ≤ cap := by omega
  go_wp2_with fail
  have hM2 : min (n : Int) 60 = (M : Int) := by omega
  rw [hM2, show max (M : Int) 0 = M from by omega, Int.toNat_natCast]
  have hMn : M ≤ n := by omega
  go_loopw [13] (fun i wr => ∃ k : Nat, k ≤ M ∧ i = .int .i64 k ∧ Below w.heap.size w wr ∧ Light w A k) (fun i _ => M - (intOf i).toNat)
  case atStart => exact ⟨0, by omega, rfl, Below.refl _ _, fun i hi => absurd hi (by omega)⟩
  case round =>
    obtain ⟨k, hk, rfl, hBel, hlt0⟩ := hrel
    have SB := Lib.hid hBel
    have SL := Lib.hid hlt0
    have hwr := hBel.size
    clear hBel hlt0
    by_cases hlt : k < M
    · obtain ⟨b, o, wh, u, ls, x, rfl, c0, c1, c2, hw0, hx0, hu, hr, cu⟩ := op_at HV.out SB.out (show k < n by omega)
      have hu9 := hu
      obtain ⟨A2, c9, rfl, hcc, hcm, _⟩ := hu
      unfold maxLen at hcm
      by_cases h200 : (200 : Int) < ls.length
      · have hd : decide ((200 : Int) < ls.length) = true := by simpa using h200
        go_wp2_with fail
        refine bodyPost_ret (v := .tuple #[.slice none 0 0, .bool false]) (by simp [results, Try.results25, go_sem, *]) rfl ⟨?_, .inl rfl⟩
        repeat (first | exact SB.out | refine bset ?_ (by simp; omega) _ | refine balloc ?_ _)
      · have hd : decide ((200 : Int) < ls.length) = false := by simpa using h200
        go_wp2_with fail
        go_roundw
        case rel =>
          refine ⟨k + 1, by omega, by go_num, by repeat (first | exact SB.out | refine bset ?_ (by simp; omega) _ | refine balloc ?_ _), ?_⟩
          intro i hi b2 o2 u2 ls2 hA2 hc2 hb2
          by_cases hik : i < k
          · exact SL.out i hik b2 o2 u2 ls2 hA2 hc2 hb2
          · obtain rfl : i = k := by omega
            simp only [Option.some.injEq, Addr.mk.injEq, and_true] at hA2
            obtain ⟨rfl, rfl⟩ := hA2
            rw [cu] at hc2
            obtain ⟨A3, c3, e3, _⟩ := hb2
            simp only [Option.some.injEq] at hc2
            rw [← hc2, Value.slice.injEq] at e3
            omega
        case measure => (try simp [intOf]) <;> omega
    · obtain rfl : k = M := by omega
      go_wp2_with fail
      refine bodyPost_ret (v := .tuple #[.slice A k cap, .bool true]) (by simp [results, Try.results25, go_sem, *]) rfl ⟨SB.out, .inr ⟨SL.out, rfl⟩⟩
end Go.Proofs.Ythgaphfelpnclaa
