/- What becomes of a lease that is right, whatever is done with it. -/
import Derived.Test.YtnhfholodillaaaHolds
set_option linter.unusedVariables false
set_option linter.unusedSimpArgs false
namespace Go.Proofs.Ytnhfholodillaaa
open Go.RowKit

theorem fre_rgt {a b : Int} (h : rgt a b = true) : fre a b = (a == 0) := by simp [fre, h]
theorem rgt_cases {a b : Int} (h : rgt a b = true) : (a = 0 ∧ b = 0) ∨ (¬ a = 0 ∧ (1 ≤ b ∨ b = -1)) := by
  simp [rgt] at h; omega
theorem rgt_run {a b : Int} (ha : ¬ a = 0) (hb : 1 ≤ b ∨ b = -1) : rgt a b = true := by
  simp [rgt, ha]; omega
theorem rgt_zero : rgt 0 0 = true := by decide
/-- What becomes of a lease that is right. -/
theorem doz_right (q x t a b : Int) (h : rgt a b = true) (hb : b ≤ 9223372036854775807) (ht : t ≤ 9223372036854775807) :
    ∃ yo yl e, doz q x t a b = (yo, yl, e) ∧ rgt yo yl = true ∧ yl ≤ 9223372036854775807 ∧ -1 ≤ yl ∧
      ((¬ e = 0 ∧ yo = a ∧ yl = b) ∨ (e = 0 ∧ a = 0 ∧ yo = 0) ∨ (e = 0 ∧ a = 0 ∧ ¬ yo = 0 ∧ q % 5 = 0 ∧ yo = x) ∨ (e = 0 ∧ ¬ a = 0 ∧ yo = 0 ∧ q % 5 = 2 ∧ x = a) ∨ (e = 0 ∧ ¬ a = 0 ∧ yo = 0 ∧ ¬ q % 5 = 2) ∨ (e = 0 ∧ ¬ a = 0 ∧ yo = a)) := by
  have hf := fre_rgt h
  have key : ∀ yo yl e : Int, (∃ yo' yl' e', (yo, yl, e) = (yo', yl', e') ∧ rgt yo' yl' = true ∧ yl' ≤ 9223372036854775807 ∧ -1 ≤ yl' ∧
      ((¬ e' = 0 ∧ yo' = a ∧ yl' = b) ∨ (e' = 0 ∧ a = 0 ∧ yo' = 0) ∨ (e' = 0 ∧ a = 0 ∧ ¬ yo' = 0 ∧ q % 5 = 0 ∧ yo' = x) ∨ (e' = 0 ∧ ¬ a = 0 ∧ yo' = 0 ∧ q % 5 = 2 ∧ x = a) ∨ (e' = 0 ∧ ¬ a = 0 ∧ yo' = 0 ∧ ¬ q % 5 = 2) ∨ (e' = 0 ∧ ¬ a = 0 ∧ yo' = a))) ↔ (rgt yo yl = true ∧ yl ≤ 9223372036854775807 ∧ -1 ≤ yl ∧
      ((¬ e = 0 ∧ yo = a ∧ yl = b) ∨ (e = 0 ∧ a = 0 ∧ yo = 0) ∨ (e = 0 ∧ a = 0 ∧ ¬ yo = 0 ∧ q % 5 = 0 ∧ yo = x) ∨ (e = 0 ∧ ¬ a = 0 ∧ yo = 0 ∧ q % 5 = 2 ∧ x = a) ∨ (e = 0 ∧ ¬ a = 0 ∧ yo = 0 ∧ ¬ q % 5 = 2) ∨ (e = 0 ∧ ¬ a = 0 ∧ yo = a))) := by
    intro yo yl e
    constructor
    · rintro ⟨_, _, _, h1, h2⟩; cases h1; exact h2
    · intro h2; exact ⟨_, _, _, rfl, h2⟩
  have kf : kept a b 2 = (a, b, 2) ∧ kept a b 22 = (a, b, 22) := by
    rcases rgt_cases h with ⟨h1, h2⟩ | ⟨h1, h2⟩
    · subst h1; subst h2; exact ⟨by decide, by decide⟩
    · have : fre a b = false := by rw [hf]; simpa using h1
      simp [kept, this]
  obtain ⟨k2, k22⟩ := kf
  unfold doz
  split
  · rename_i hq
    have hq : q % 5 = 0 := by simpa using hq
    unfold tak
    split
    · rw [k2, key]; rcases rgt_cases h with ⟨h1, h2⟩ | ⟨h1, h2⟩ <;> refine ⟨h, hb, by omega, .inl ⟨by omega, rfl, rfl⟩⟩
    · rename_i hox
      simp only [Bool.or_eq_true, beq_iff_eq, Bool.not_eq_true', decide_eq_false_iff_not, not_or, Decidable.not_not] at hox
      split
      · rw [k22, key]; rcases rgt_cases h with ⟨h1, h2⟩ | ⟨h1, h2⟩ <;> refine ⟨h, hb, by omega, .inl ⟨by omega, rfl, rfl⟩⟩
      · rename_i hfa
        split
        · rename_i hh
          rw [key]
          rcases rgt_cases h with ⟨h1, h2⟩ | ⟨h1, h2⟩
          · subst h1; simp [hasB, hf] at hh
          · exact ⟨h, hb, by omega, by omega⟩
        · rw [key]
          refine ⟨rgt_run hox.1 (.inl hox.2), ht, by omega, ?_⟩
          rcases rgt_cases h with ⟨h1, h2⟩ | ⟨h1, h2⟩
          · exact .inr (.inr (.inl ⟨rfl, h1, hox.1, hq, rfl⟩))
          · have h0 : fre a b = false := by rw [hf]; simpa using h1
            simp [h0] at hfa
            exact .inr (.inr (.inr (.inr (.inr ⟨rfl, h1, by omega⟩))))
  · split
    · rename_i hq
      have hq : q % 5 = 1 := by simpa using hq
      unfold own
      split
      · rw [k2, key]; rcases rgt_cases h with ⟨h1, h2⟩ | ⟨h1, h2⟩ <;> refine ⟨h, hb, by omega, .inl ⟨by omega, rfl, rfl⟩⟩
      · split
        · rename_i ho hh
          simp [hasB, hf] at hh
          rw [key]
          exact ⟨rgt_run (by omega) (.inr rfl), by omega, by omega, by omega⟩
        · rw [k22, key]; rcases rgt_cases h with ⟨h1, h2⟩ | ⟨h1, h2⟩ <;> refine ⟨h, hb, by omega, .inl ⟨by omega, rfl, rfl⟩⟩
    · split
      · rename_i hq
        have hq : q % 5 = 2 := by simpa using hq
        unfold own
        split
        · rw [k2, key]; rcases rgt_cases h with ⟨h1, h2⟩ | ⟨h1, h2⟩ <;> refine ⟨h, hb, by omega, .inl ⟨by omega, rfl, rfl⟩⟩
        · split
          · rename_i ho hh
            simp [hasB, hf] at hh
            rw [key]
            exact ⟨rgt_zero, by omega, by omega, by omega⟩
          · rw [k22, key]; rcases rgt_cases h with ⟨h1, h2⟩ | ⟨h1, h2⟩ <;> refine ⟨h, hb, by omega, .inl ⟨by omega, rfl, rfl⟩⟩
      · rename_i hq2
        have hq2 : ¬ q % 5 = 2 := by simpa using hq2
        split
        · unfold tik
          rw [key]
          rcases rgt_cases h with ⟨h1, h2⟩ | ⟨h1, h2⟩
          · have h0 : fre a b = true := by rw [hf]; simpa using h1
            simp [h0, rgt_zero]; omega
          · have h0 : fre a b = false := by rw [hf]; simpa using h1
            simp only [h0, Bool.false_eq_true, if_false]
            split
            · exact ⟨h, hb, by simp; omega, .inr (.inr (.inr (.inr (.inr ⟨by trivial, h1, by trivial⟩))))⟩
            · rename_i h3
              have h3 : ¬ b = -1 := by simpa using h3
              split
              · exact ⟨rgt_zero, by simp, by simp, .inr (.inr (.inr (.inr (.inl ⟨by trivial, h1, by trivial, hq2⟩))))⟩
              · rename_i h4
                have h4 : ¬ b = 1 := by simpa using h4
                dsimp only
                exact ⟨rgt_run h1 (by omega), by omega, by omega, .inr (.inr (.inr (.inr (.inr ⟨by trivial, h1, by trivial⟩))))⟩
        · unfold boo
          rw [key]
          split
          · exact ⟨rgt_zero, by simp, by simp, by simp; omega⟩
          · rename_i h3
            simp at h3
            rcases rgt_cases h with ⟨h1, h2⟩ | ⟨h1, h2⟩
            · omega
            · exact ⟨h, hb, by simp; omega, by simp; omega⟩

end Go.Proofs.Ytnhfholodillaaa
