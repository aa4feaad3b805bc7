/- Package queue's methods over the list of who waits. -/
import Derived.Test.YtnhfholodillaaaQe
set_option linter.unusedVariables false
set_option linter.unusedSimpArgs false
namespace Go.Proofs.Ytnhfholodillaaa
open Go.RowKit

/-- Block B is a queue of that room, whose greatest number ever was l, in which those of ls wait. -/
def QL (w : World) (B r : Nat) (l : Int) (ls : List Int) : Prop :=
  ∃ (g : Nat → Int) (a : Nat), a < 32 ∧ ls.length ≤ r ∧ 0 < r ∧ r ≤ 32 ∧ QS w B g a ls.length r l ∧ ∀ i, i < ls.length → g ((a + i) % 32) = ls.getD i 0

theorem QL.below {w w' : World} {B r : Nat} {l : Int} {ls : List Int} (h : QL w B r l ls) (hb : Below w.heap.size w w') : QL w' B r l ls := by
  obtain ⟨g, a, h1, h2, h3, h4, h5, h6⟩ := h
  exact ⟨g, a, h1, h2, h3, h4, h5.below hb, h6⟩
theorem QL.lt {w : World} {B r : Nat} {l : Int} {ls : List Int} (h : QL w B r l ls) : B < w.heap.size := by
  obtain ⟨g, a, h1, h2, h3, h4, h5, h6⟩ := h
  exact h5.lt
theorem QL.len {w : World} {B r : Nat} {l : Int} {ls : List Int} (h : QL w B r l ls) : ls.length ≤ r ∧ 0 < r ∧ r ≤ 32 := by
  obtain ⟨g, a, h1, h2, h3, h4, h5, h6⟩ := h
  exact ⟨h2, h3, h4⟩

theorem newL (r : Nat) {i : Int} (w : World) (hi : i = (r : Int)) (h1 : 1 ≤ r) (h2 : r ≤ 32) :
    Calls Try.prog 33 #[.int .i64 i] w fun e' w' => e' = .returned (.tuple #[.pointer (some ⟨w.heap.size, 0, none⟩), .int .i64 0]) ∧ Below w.heap.size w w' ∧ QL w' w.heap.size r 0 [] := by
  subst hi
  exact (new_ok r w h1 h2).mono fun e w' ⟨h3, h4, h5⟩ => ⟨h3, h4, fun _ => 0, 0, by omega, by simp, by omega, h2, h5, fun i hi => absurd hi (by simp)⟩

theorem lenL {B r : Nat} {l : Int} {ls : List Int} (w : World) (h : QL w B r l ls) :
    Calls Try.prog 40 #[.pointer (some ⟨B, 0, none⟩)] w fun e' w' => e' = .returned (.int .i64 ls.length) ∧ Below w.heap.size w w' := by
  obtain ⟨g, a, h1, h2, h3, h4, h5, h6⟩ := h
  exact len_any w h5 h3

theorem firstL_nil {B r : Nat} {l : Int} (w : World) (h : QL w B r l []) :
    Calls Try.prog 36 #[.pointer (some ⟨B, 0, none⟩)] w fun e' w' => e' = .returned (.tuple #[.int .u32 0, .bool false]) ∧ Below w.heap.size w w' := by
  obtain ⟨g, a, h1, h2, h3, h4, h5, h6⟩ := h
  exact first_none w h5 h3
theorem firstL_cons {B r : Nat} {l x : Int} {ls : List Int} (w : World) (h : QL w B r l (x :: ls)) :
    Calls Try.prog 36 #[.pointer (some ⟨B, 0, none⟩)] w fun e' w' => e' = .returned (.tuple #[.int .u32 x, .bool true]) ∧ Below w.heap.size w w' := by
  obtain ⟨g, a, h1, h2, h3, h4, h5, h6⟩ := h
  have := first_some w h5 h3 h1 (by simp)
  have e := h6 0 (by simp)
  simp only [Nat.add_zero, Nat.mod_eq_of_lt h1, List.getD_cons_zero] at e
  rw [e] at this
  exact this

theorem putL_low {B r : Nat} {l x : Int} {ls : List Int} (w : World) (h : QL w B r l ls) (hx : x ≤ l) :
    Calls Try.prog 37 #[.pointer (some ⟨B, 0, none⟩), .int .u32 x] w fun e' w' => e' = .returned (.int .i64 2) ∧ Below w.heap.size w w' := by
  obtain ⟨g, a, h1, h2, h3, h4, h5, h6⟩ := h
  exact put_low x w h5 h3 hx
theorem putL_full {B r : Nat} {l x : Int} {ls : List Int} (w : World) (h : QL w B r l ls) (hx : ¬ x ≤ l) (hm : ls.length = r) :
    Calls Try.prog 37 #[.pointer (some ⟨B, 0, none⟩), .int .u32 x] w fun e' w' => e' = .returned (.int .i64 5) ∧ Below w.heap.size w w' := by
  obtain ⟨g, a, h1, h2, h3, h4, h5, h6⟩ := h
  exact put_full x w h5 h3 hx hm
theorem putL_ok {B r : Nat} {l x : Int} {ls : List Int} (w : World) (h : QL w B r l ls) (hx : ¬ x ≤ l) (hm : ls.length < r) :
    Calls Try.prog 37 #[.pointer (some ⟨B, 0, none⟩), .int .u32 x] w fun e' w' => e' = .returned (.int .i64 0) ∧ Only B w w' ∧ QL w' B r x (ls ++ [x]) := by
  obtain ⟨g, a, h1, h2, h3, h4, h5, h6⟩ := h
  refine (put_ok x w h5 h3 h4 h1 hx hm).mono fun e w' ⟨e1, e2, e3⟩ => ⟨e1, e2, _, a, h1, by simp; omega, h3, h4, by simpa using e3, fun i hi => ?_⟩
  simp only [List.length_append, List.length_singleton] at hi
  unfold upd
  by_cases e : i = ls.length
  · subst e
    rw [if_pos rfl]
    simp [List.getD]
  · rw [if_neg (by omega), h6 i (by omega)]
    have : i < ls.length := by omega
    simp [List.getD, List.getElem?_append_left this]

theorem dropL_no {B r : Nat} {l x : Int} {ls : List Int} (w : World) (h : QL w B r l ls) (hx : x ∉ ls) :
    Calls Try.prog 38 #[.pointer (some ⟨B, 0, none⟩), .int .u32 x] w fun e' w' => e' = .returned (.bool false) ∧ Below w.heap.size w w' := by
  obtain ⟨g, a, h1, h2, h3, h4, h5, h6⟩ := h
  refine drop_no x w h5 h3 h1 (by omega) fun j hj e => hx ?_
  rw [← e, h6 j hj]
  simp [List.getD, hj]
theorem dropL_yes {B r : Nat} {l x : Int} {p s : List Int} (w : World) (h : QL w B r l (p ++ x :: s)) (hx : x ∉ p) :
    Calls Try.prog 38 #[.pointer (some ⟨B, 0, none⟩), .int .u32 x] w fun e' w' => e' = .returned (.bool true) ∧ Only B w w' ∧ QL w' B r l (p ++ s) := by
  obtain ⟨g, a, h1, h2, h3, h4, h5, h6⟩ := h
  have hlen : (p ++ x :: s).length = p.length + s.length + 1 := by simp; omega
  by_cases hp : p = []
  · subst hp
    have e0 := h6 0 (by simp)
    simp only [Nat.add_zero, Nat.mod_eq_of_lt h1] at e0
    refine (drop_first x w h5 h3 h1 (by omega) (by simp) (by simpa [List.getD] using e0)).mono fun e w' ⟨e1, e2, e3⟩ => ⟨e1, e2, g, (a + 1) % 32, by omega, ?_, h3, h4, ?_, fun i hi => ?_⟩
    · simp at h2 ⊢; omega
    · simpa using e3
    · have := h6 (i + 1) (by simp at hi ⊢; omega)
      rw [show ((a + 1) % 32 + i) % 32 = (a + (i + 1)) % 32 from by omega, this]
      simp [List.getD]
  · have hpl : 0 < p.length := List.length_pos_iff.2 hp
    refine (drop_mid x p.length w h5 h3 h1 (by omega) hpl (by omega) (fun j hj e => hx ?_) ?_).mono fun e w' ⟨e1, e2, g', e3, e4⟩ => ⟨e1, e2, g', a, h1, ?_, h3, h4, ?_, fun i hi => ?_⟩
    · rw [← e, h6 j (by omega)]
      simp [List.getD, List.getElem?_append_left hj, List.getElem?_eq_getElem hj]
    · rw [h6 p.length (by omega)]
      simp [List.getD]
    · simp at h2 ⊢; omega
    · have : (p ++ x :: s).length - 1 = (p ++ s).length := by simp
      rw [← this]; exact e3
    · have hi2 : i < p.length + s.length := by simpa using hi
      rw [e4 i (by omega)]
      by_cases c : i < p.length
      · rw [if_pos c, h6 i (by omega)]
        simp [List.getD, List.getElem?_append_left c]
      · rw [if_neg c, h6 (i + 1) (by omega)]
        have c1 : p.length ≤ i := by omega
        have c2 : p.length ≤ i + 1 := by omega
        simp only [List.getD, List.getElem?_append_right c1, List.getElem?_append_right c2]
        rw [show i + 1 - p.length = (i - p.length) + 1 from by omega, List.getElem?_cons_succ]

theorem listL {B r : Nat} {l : Int} {ls : List Int} (w : World) (h : QL w B r l ls) :
    Calls Try.prog 34 #[.pointer (some ⟨B, 0, none⟩)] w fun e' w' => ∃ v, e' = .returned v ∧ w'.ownsRow w.heap.size 22 1 v ls.length (ls.map (Value.int .u32)) ∧ Below w.heap.size w w' := by
  obtain ⟨g, a, h1, h2, h3, h4, h5, h6⟩ := h
  have e : ((List.range ls.length).map fun t => Value.int .u32 (g ((a + t) % 32))) = ls.map (Value.int .u32) := by
    apply List.ext_getElem?
    intro i
    by_cases hi : i < ls.length
    · simp [hi, h6 i hi, List.getD]
    · simp [hi]
  have := list_any w h5 h3 h1 (by omega)
  rw [e] at this
  exact this
end Go.Proofs.Ytnhfholodillaaa
