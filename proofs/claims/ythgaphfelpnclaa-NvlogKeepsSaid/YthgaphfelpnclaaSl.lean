/- Parts of a row of bytes. -/
import Derived.Test.YthgaphfelpnclaaAn
set_option linter.unusedVariables false
set_option linter.unusedSimpArgs false
namespace Go.Proofs.Ythgaphfelpnclaa
open Go.RowKit
theorem size_of5 (w : World) : (sizeOf 5).run Try.prog w = .ok 1 w := by
  obtain ⟨i0, hi, _, hz1, _⟩ := info_parts info5
  simp [sizeOf, typeInfo, hi, hz1]
theorem elem_24 : Try.prog.elem 24 = 5 := by kernel_rfl
theorem bat_part {A : Option Addr} {n c j k : Nat} (hj : j ≤ k) (hk : k ≤ n) (hn : n ≤ c) (hc : c ≤ maxLen) {w' : World} {ls : List Int} (hb : BAt w' (.slice A n c) ls) :
    BAt w' (.slice (if c = j then A else A.map (·.add j)) (k - j) (c - j)) ((ls.drop j).take (k - j)) := by
  obtain ⟨A2, c2, e, h2, h3, h4⟩ := hb
  simp only [Value.slice.injEq] at e
  obtain ⟨rfl, rfl, rfl⟩ := e
  have hl : ((ls.drop j).take (k - j)).length = k - j := by rw [List.length_take, List.length_drop]; omega
  refine ⟨_, c - j, by rw [hl], by omega, by unfold maxLen at h3 ⊢; omega, fun i hi => ?_⟩
  rw [hl] at hi
  obtain ⟨b, o, rfl, e2⟩ := h4 (j + i) (by omega)
  refine ⟨b, o + j, by rw [if_neg (by omega)]; simp [add_flat], ?_⟩
  rw [Nat.add_assoc, e2]
  congr 2
  simp [List.getD, List.getElem?_drop, List.getElem?_take, hi]
set_option maxRecDepth 100000 in
/-- b[j:k]. -/
theorem slice_mid {A : Option Addr} {n c : Nat} (j k : Nat) (xj xk : Int) (ej : xj = j) (ek : xk = k) (hj : j ≤ k) (hk : k ≤ n) (hn : n ≤ c) (hc : c ≤ maxLen) :
    ∃ V, (∀ w', (Instr.slice 24 (.slice A n c) (some (.int .i64 xj)) (some (.int .i64 xk)) none).run Try.prog w' = .ok V w') ∧ (∀ w' ls, BAt w' (.slice A n c) ls → BAt w' V ((ls.drop j).take (k - j))) := by
  have hc2 : c ≤ 9223372036854775807 := by unfold maxLen at hc; omega
  subst ej ek
  refine ⟨_, fun w' => ?_, fun w' ls hb => bat_part hj hk hn hc hb⟩
  rw [run_slice_lh (P := Try.prog) w' 24 A n c Try.underlying24 .i64 .i64 j k (by omega) (by omega) (by omega), elem_24, size_of5]
  simp [sliced, Result.andThen]
set_option maxRecDepth 100000 in
/-- b[j:]. -/
theorem slice_low {A : Option Addr} {n c : Nat} (j : Nat) (xj : Int) (ej : xj = j) (hj : j ≤ n) (hn : n ≤ c) (hc : c ≤ maxLen) :
    ∃ V, (∀ w', (Instr.slice 24 (.slice A n c) (some (.int .i64 xj)) none none).run Try.prog w' = .ok V w') ∧ (∀ w' ls, BAt w' (.slice A n c) ls → BAt w' V (ls.drop j)) := by
  have hc2 : c ≤ 9223372036854775807 := by unfold maxLen at hc; omega
  subst ej
  refine ⟨.slice (if c = j then A else A.map (·.add j)) (n - j) (c - j), fun w' => ?_, fun w' ls hb => ?_⟩
  rotate_left
  · have h9 := bat_part (j := j) (k := n) hj (Nat.le_refl _) hn hc hb
    obtain ⟨A2, c2, e, h2, h3, h4⟩ := hb
    simp only [Value.slice.injEq] at e
    rw [List.take_of_length_le (by rw [List.length_drop]; omega)] at h9
    exact h9
  · rw [run_slice_l (P := Try.prog) w' 24 A n c Try.underlying24 .i64 j (by omega) (by omega), elem_24, size_of5]
    simp [sliced, Result.andThen]
set_option maxRecDepth 100000 in
/-- b[:k]. -/
theorem slice_high {A : Option Addr} {n c : Nat} (k : Nat) (xk : Int) (ek : xk = k) (hk : k ≤ n) (hn : n ≤ c) (hc : c ≤ maxLen) :
    ∃ V, (∀ w', (Instr.slice 24 (.slice A n c) none (some (.int .i64 xk)) none).run Try.prog w' = .ok V w') ∧ (∀ w' ls, BAt w' (.slice A n c) ls → BAt w' V (ls.take k)) := by
  have hc2 : c ≤ 9223372036854775807 := by unfold maxLen at hc; omega
  subst ek
  refine ⟨.slice A k c, fun w' => ?_, fun w' ls hb => ?_⟩
  · rw [run_slice_h (P := Try.prog) w' 24 A n c Try.underlying24 .i64 k (by omega) (by omega), elem_24, size_of5]
    simp [sliced, Result.andThen]
    intro _
    rcases A with _ | a
    · rfl
    · simp [Addr.add]
  · obtain ⟨A2, c2, e, h2, h3, h4⟩ := hb
    simp only [Value.slice.injEq] at e
    obtain ⟨rfl, rfl, rfl⟩ := e
    have hl : (ls.take k).length = k := by rw [List.length_take]; omega
    refine ⟨A, c, by rw [hl], by omega, h3, fun i hi => ?_⟩
    rw [hl] at hi
    obtain ⟨b, o, e1, e2⟩ := h4 i (by omega)
    refine ⟨b, o, e1, ?_⟩
    rw [e2]
    congr 2
    simp [List.getD, List.getElem?_take, hi]
end Go.Proofs.Ythgaphfelpnclaa
