/- A slice of operations, out of its reading as data. -/
import Derived.Test.YthgaphfelpnclaaRr
import Derived.Test.YthgaphfelpnclaaLl
set_option linter.unusedVariables false
set_option linter.unusedSimpArgs false
namespace Go.Proofs.Ythgaphfelpnclaa
open Go.ChangeShapes Go.WideShapes Go.ChangeAt Go.RowKit Go.Deep
theorem q75_ : Try.prog.cellsOf 75 = 7 := by kernel_rfl
theorem q3_ : Try.prog.cellsOf 3 = 1 := by kernel_rfl
def ElOpr (w : World) (cs : List Value) : Prop :=
  ∃ (p : Opr) (u : Value), cs = [.int .u8 p.wh, .int .u8 p.x.wh, .int .u32 p.x.tx, .int .u8 p.x.who, .bool p.x.yes, u, .int .i64 p.n] ∧ p.ok ∧ BAt w u p.x.text
theorem elOpr_of {H : Type} {enc : TypeId × Value → H} {w : World} {sp : Nat → Bool} {held : Bool} {m : Nat} {cs : List Value} {x : DataW H × List MemPlace} (h : DataW.trod enc Try.prog w 0 sp held m 75 cs = some x) : ElOpr w cs := by
  obtain ⟨xs, m2, _, _, hl, hlen, hf⟩ := DataW.trod_struct Try.underlying75 h
  rw [q75_] at hl
  have hlen : xs.length = 3 := hlen
  obtain ⟨c0, c1, c2, c3, c4, c5, c6, rfl⟩ := list_7 hl
  have g0 := hf 0 _ rfl
  rw [List.getElem?_eq_getElem (by omega)] at g0
  have g1 := hf 1 _ rfl
  rw [List.getElem?_eq_getElem (by omega)] at g1
  have g2 := hf 2 _ rfl
  rw [List.getElem?_eq_getElem (by omega)] at g2
  obtain ⟨a0, e0, _, w0⟩ := DataW.trod_int Try.underlying5 g0
  obtain rfl : c0 = .int .u8 a0 := by simpa [q5_] using e0
  obtain ⟨r, u, e1, hok, hbt⟩ := elRec_of (cs := [c1, c2, c3, c4, c5]) (by simpa [q34_] using g1)
  simp only [List.cons.injEq, and_true] at e1
  obtain ⟨rfl, rfl, rfl, rfl, rfl⟩ := e1
  obtain ⟨a2, e2, _, w2⟩ := DataW.trod_int Try.underlying3 g2
  obtain rfl : c6 = .int .i64 a2 := by simpa [q3_] using e2
  exact ⟨⟨a0, r, a2⟩, _, rfl, ⟨wf_u8 w0, hok, wf_i64 w2⟩, hbt⟩
theorem rowsOpr {H : Type} {enc : TypeId × Value → H} {w : World} {sp : Nat → Bool} {held : Bool} {v : Value}
    (h : v = .slice none 0 0 ∨ ∃ (a : Addr) (len cap : Nat), v = .slice (some a) len cap ∧ len ≤ cap ∧ cap ≤ maxLen ∧
      ∀ i, i < len → ∃ (cs : List Value) (n : Nat) (x : DataW H × List MemPlace), cs.length = Try.prog.cellsOf 75 ∧ (∀ j, j < Try.prog.cellsOf 75 → w.cell? (a.add (i * Try.prog.cellsOf 75 + j)) = cs[j]?) ∧ DataW.trod enc Try.prog w 0 sp held n 75 cs = some x) :
    ∃ (A : Option Addr) (cap : Nat) (os : List Opr), v = .slice A os.length cap ∧ os.length ≤ cap ∧ cap ≤ maxLen ∧ OpsAt w A os ∧ ∀ p ∈ os, p.ok := by
  have h9 : ∃ (A : Option Addr) (n cap : Nat), v = .slice A n cap ∧ n ≤ cap ∧ cap ≤ maxLen ∧ (A = none → cap = 0) ∧ RowsV w A n 7 (ElOpr w) := by
    refine rows_of ?_
    rcases h with h | ⟨a, len, cap, h1, h2, h3, h4⟩
    · exact .inl h
    · refine .inr ⟨a, len, cap, h1, h2, h3, fun i hi => ?_⟩
      obtain ⟨cs, m, x, e1, e2, e3⟩ := h4 i hi
      rw [q75_] at e1 e2
      exact ⟨cs, e1, e2, elOpr_of e3⟩
  obtain ⟨A, n, cap, rfl, h1, h2, _, h4⟩ := h9
  have key : ∀ m, m ≤ n → ∃ os : List Opr, os.length = m ∧ (∀ p ∈ os, p.ok) ∧ OpsAt w A os := by
    intro m
    induction m with
    | zero => exact fun _ => ⟨[], rfl, by simp, fun i p hi => by simp at hi⟩
    | succ m ih =>
      intro hm
      obtain ⟨os, r1, r2, r3⟩ := ih (by omega)
      obtain ⟨b, o, cs, hA, _, ⟨p, u, rfl, hok, hbt⟩, hc⟩ := h4.at (by omega) (show m < n by omega)
      have c0 := hc 0 (by omega)
      have c1 := hc 1 (by omega)
      have c2 := hc 2 (by omega)
      have c3 := hc 3 (by omega)
      have c4 := hc 4 (by omega)
      have c5 := hc 5 (by omega)
      have c6 := hc 6 (by omega)
      simp at c0 c1 c2 c3 c4 c5 c6
      refine ⟨os ++ [p], by simp [r1], fun q hq => ?_, fun i q hi => ?_⟩
      · rcases List.mem_append.1 hq with hq | hq
        · exact r2 q hq
        · obtain rfl : q = p := by simpa using hq
          exact hok
      · by_cases him : i < os.length
        · rw [List.getElem?_append_left him] at hi
          exact r3 i q hi
        · rw [List.getElem?_append_right (by omega)] at hi
          have hi0 : i - os.length = 0 := by
            by_cases h0 : i - os.length = 0
            · exact h0
            · rw [List.getElem?_eq_none (by simp; omega)] at hi; cases hi
          rw [hi0] at hi
          simp at hi
          subst hi
          obtain rfl : i = m := by omega
          exact ⟨b, o, u, hA, c0, c1, c2, c3, c4, c5, c6, hbt⟩
  obtain ⟨os, r1, r2, r3⟩ := key n (Nat.le_refl _)
  exact ⟨A, cap, os, by rw [r1], by omega, h2, r3, r2⟩
end Go.Proofs.Ythgaphfelpnclaa
