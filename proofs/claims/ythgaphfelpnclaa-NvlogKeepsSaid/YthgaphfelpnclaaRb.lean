/- A slice of bytes, out of its reading as data. -/
import Derived.Test.YthgaphfelpnclaaR
import Derived.Test.YthgaphfelpnclaaDa
set_option linter.unusedVariables false
set_option linter.unusedSimpArgs false
namespace Go.Proofs.Ythgaphfelpnclaa
open Go.ChangeShapes Go.WideShapes Go.ChangeAt Go.RowKit Go.Deep

theorem q5_ : Try.prog.cellsOf 5 = 1 := by kernel_rfl
theorem bat_of_trod {H : Type} {enc : TypeId × Value → H} {W : World} {sp : Nat → Bool} {held : Bool} {m : Nat} {v : Value} {x : DataW H × List MemPlace} (h : DataW.trod enc Try.prog W 0 sp held m 24 [v] = some x) :
    ∃ ls : List Int, BAt W v ls ∧ ∀ n ∈ ls, 0 ≤ n ∧ n ≤ 255 := by
  rcases open_ints Try.underlying24 Try.underlying5 q5_ h with ⟨hcs, _⟩ | ⟨a, len, cap, zs, hcs, _, hl, hm, hz, _, hcell, hwz⟩
  · simp at hcs
    subst hcs
    exact ⟨[], ⟨none, 0, rfl, Nat.le_refl _, by unfold maxLen; omega, fun i hi => absurd hi (by simp)⟩, fun _ h => by cases h⟩
  · simp at hcs
    subst hcs
    have hzl : len ≤ zs.length := by rw [hz]; split <;> omega
    refine ⟨zs.take len, ⟨some a, cap, ?_, ?_, hm, fun i hi => ?_⟩, fun n hn => wf_u8 (hwz n (List.mem_of_mem_take hn))⟩
    · rw [List.length_take]; congr 1; omega
    · rw [List.length_take]; omega
    · rw [List.length_take] at hi
      have h1 := hcell i (by omega)
      have h0 := hcell 0 (by omega)
      have ha := spot_none (a := a) (by simpa [Addr.add] using h0)
      rw [ha, add_flat] at h1
      refine ⟨a.block, a.off, congrArg some ha, ?_⟩
      rw [h1]
      congr 2
      simp [List.getD, List.getElem?_take, show i < len by omega]
set_option maxRecDepth 100000 in
theorem open_bytes {H : Type} {enc : TypeId × Value → H} {W : World} {base : Nat} {r : Reach} {sp : Nat → Bool} {held : Bool} {v : Value} {d : DataW H} {ps : List MemPlace} (hv : Value.okWide Try.prog W r base 24 v) (h : DataW.Trod enc Try.prog W 0 sp held 24 v d ps) :
    ∃ ls : List Int, BAt W v ls ∧ ∀ n ∈ ls, 0 ≤ n ∧ n ≤ 255 := by
  obtain ⟨a0, len0, cap0, rfl⟩ := okWide_slice Try.underlying24 hv
  obtain ⟨fuel, hf⟩ := h
  exact bat_of_trod (v := .slice a0 len0 cap0) hf
end Go.Proofs.Ythgaphfelpnclaa
