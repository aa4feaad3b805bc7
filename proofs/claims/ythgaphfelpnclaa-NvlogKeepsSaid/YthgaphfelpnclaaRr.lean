/- A slice of records, out of its reading as data. -/
import Derived.Test.YthgaphfelpnclaaNk
set_option linter.unusedVariables false
set_option linter.unusedSimpArgs false
namespace Go.Proofs.Ythgaphfelpnclaa
open Go.ChangeShapes Go.WideShapes Go.ChangeAt Go.RowKit Go.Deep
theorem q34_ : Try.prog.cellsOf 34 = 5 := by kernel_rfl
theorem q32_ : Try.prog.cellsOf 32 = 1 := by kernel_rfl
theorem q4_ : Try.prog.cellsOf 4 = 1 := by kernel_rfl
theorem q24_ : Try.prog.cellsOf 24 = 1 := by kernel_rfl
def ElRec (w : World) (cs : List Value) : Prop :=
  ∃ (r : Rc) (u : Value), cs = [.int .u8 r.wh, .int .u32 r.tx, .int .u8 r.who, .bool r.yes, u] ∧ r.ok ∧ BAt w u r.text
theorem elRec_of {H : Type} {enc : TypeId × Value → H} {w : World} {sp : Nat → Bool} {held : Bool} {m : Nat} {cs : List Value} {x : DataW H × List MemPlace} (h : DataW.trod enc Try.prog w 0 sp held m 34 cs = some x) : ElRec w cs := by
  obtain ⟨xs, m2, _, _, hl, hlen, hf⟩ := DataW.trod_struct Try.underlying34 h
  rw [q34_] at hl
  have hlen : xs.length = 5 := hlen
  obtain ⟨c0, c1, c2, c3, c4, rfl⟩ := list_5 hl
  have g0 := hf 0 _ rfl
  rw [List.getElem?_eq_getElem (by omega)] at g0
  have g1 := hf 1 _ rfl
  rw [List.getElem?_eq_getElem (by omega)] at g1
  have g2 := hf 2 _ rfl
  rw [List.getElem?_eq_getElem (by omega)] at g2
  have g3 := hf 3 _ rfl
  rw [List.getElem?_eq_getElem (by omega)] at g3
  have g4 := hf 4 _ rfl
  rw [List.getElem?_eq_getElem (by omega)] at g4
  obtain ⟨a0, e0, _, w0⟩ := DataW.trod_int Try.underlying5 g0
  obtain rfl : c0 = .int .u8 a0 := by simpa [q5_] using e0
  obtain ⟨a1, e1, _, w1⟩ := DataW.trod_int Try.underlying32 g1
  obtain rfl : c1 = .int .u32 a1 := by simpa [q32_] using e1
  obtain ⟨a2, e2, _, w2⟩ := DataW.trod_int Try.underlying5 g2
  obtain rfl : c2 = .int .u8 a2 := by simpa [q5_] using e2
  obtain ⟨a3, e3, _⟩ := DataW.trod_bool Try.underlying4 g3
  obtain rfl : c3 = .bool a3 := by simpa [q4_] using e3
  obtain ⟨ls, hb, hr⟩ := bat_of_trod (v := c4) (by simpa [q24_] using g4)
  exact ⟨⟨a0, a1, a2, a3, ls⟩, c4, rfl, ⟨wf_u8 w0, wf_u32 w1, wf_u8 w2, hr⟩, hb⟩
theorem rowsRec {H : Type} {enc : TypeId × Value → H} {w : World} {sp : Nat → Bool} {held : Bool} {v : Value}
    (h : v = .slice none 0 0 ∨ ∃ (a : Addr) (len cap : Nat), v = .slice (some a) len cap ∧ len ≤ cap ∧ cap ≤ maxLen ∧
      ∀ i, i < len → ∃ (cs : List Value) (n : Nat) (x : DataW H × List MemPlace), cs.length = Try.prog.cellsOf 34 ∧ (∀ j, j < Try.prog.cellsOf 34 → w.cell? (a.add (i * Try.prog.cellsOf 34 + j)) = cs[j]?) ∧ DataW.trod enc Try.prog w 0 sp held n 34 cs = some x) :
    ∃ rs : List Rc, RecsAt w v rs ∧ ∀ r ∈ rs, r.ok := by
  have h9 : ∃ (A : Option Addr) (n cap : Nat), v = .slice A n cap ∧ n ≤ cap ∧ cap ≤ maxLen ∧ (A = none → cap = 0) ∧ RowsV w A n 5 (ElRec w) := by
    refine rows_of ?_
    rcases h with h | ⟨a, len, cap, h1, h2, h3, h4⟩
    · exact .inl h
    · refine .inr ⟨a, len, cap, h1, h2, h3, fun i hi => ?_⟩
      obtain ⟨cs, m, x, e1, e2, e3⟩ := h4 i hi
      rw [q34_] at e1 e2
      exact ⟨cs, e1, e2, elRec_of e3⟩
  obtain ⟨A, n, cap, rfl, h1, h2, _, h4⟩ := h9
  have key : ∀ m, m ≤ n → ∃ rs : List Rc, rs.length = m ∧ (∀ r ∈ rs, r.ok) ∧ ∀ i r, rs[i]? = some r → ∃ b o u, A = some ⟨b, o, none⟩ ∧ RecAt w b (o + i * 5) r u := by
    intro m
    induction m with
    | zero => exact fun _ => ⟨[], rfl, by simp, by simp⟩
    | succ m ih =>
      intro hm
      obtain ⟨rs, r1, r2, r3⟩ := ih (by omega)
      obtain ⟨b, o, cs, hA, _, ⟨r, u, rfl, hok, hbt⟩, hc⟩ := h4.at (by omega) (show m < n by omega)
      have c0 := hc 0 (by omega)
      have c1 := hc 1 (by omega)
      have c2 := hc 2 (by omega)
      have c3 := hc 3 (by omega)
      have c4 := hc 4 (by omega)
      simp at c0 c1 c2 c3 c4
      refine ⟨rs ++ [r], by simp [r1], fun q hq => ?_, fun i q hi => ?_⟩
      · rcases List.mem_append.1 hq with hq | hq
        · exact r2 q hq
        · obtain rfl : q = r := by simpa using hq
          exact hok
      · by_cases him : i < rs.length
        · rw [List.getElem?_append_left him] at hi
          exact r3 i q hi
        · rw [List.getElem?_append_right (by omega)] at hi
          have hi0 : i - rs.length = 0 := by
            by_cases h0 : i - rs.length = 0
            · exact h0
            · rw [List.getElem?_eq_none (by simp; omega)] at hi; cases hi
          rw [hi0] at hi
          simp at hi
          subst hi
          obtain rfl : i = m := by omega
          exact ⟨b, o, u, hA, c0, c1, c2, c3, c4, hbt⟩
  obtain ⟨rs, r1, r2, r3⟩ := key n (Nat.le_refl _)
  exact ⟨rs, ⟨A, cap, by rw [r1], by omega, h2, r3⟩, r2⟩
end Go.Proofs.Ythgaphfelpnclaa
