/- What a law's arguments are, out of their reading as data: a struct by value, a slice of structs of plain fields. -/
import Derived.WalkKit
import Derived.ProofKit
import Derived.OpenShut
import Derived.ShutString
import Derived.ChangeOld
import Derived.Below
import Derived.SizedLaws
import Derived.Deep.Slices
set_option linter.unusedVariables false
set_option linter.unusedSimpArgs false
namespace Go.Proofs.Ythgaphfelpnclaa
open Go.ChangeShapes Go.WideShapes Go.ChangeAt Go.RowKit Go.Deep

section
variable {H : Type} {enc : TypeId × Value → H} {P : Program} {w W : World} {base : Nat} {sp : Nat → Bool} {held : Bool}

/-- A struct by value: its cells, each field's own reading. -/
theorem open_agg {T : TypeId} {fs : Array Field} {v : Value} {d : DataW H} {ps : List MemPlace} {r : Reach} (ht : P.underlying T = some (.struct fs)) (hv : Value.okWide P W r base T v) (h : DataW.Trod enc P w 0 sp held T v d ps) :
    ∃ (cs : List Value) (xs : List (DataW H × List MemPlace)) (n : Nat), v = .agg cs.toArray ∧ cs.length = P.cellsOf T ∧ xs.length = fs.size ∧
      ∀ (i : Nat) (f : Field), fs[i]? = some f → DataW.trod enc P w 0 sp held n f.type ((cs.drop f.offset).take (P.cellsOf f.type)) = xs[i]? := by
  unfold Value.okWide at hv
  rw [ht] at hv
  obtain ⟨cs, rfl, hsz, _⟩ := hv
  obtain ⟨fuel, hf⟩ := h
  obtain ⟨xs, n, _, _, hl, hlen, hfs⟩ := DataW.trod_struct ht hf
  refine ⟨cs.toList, xs, n, by simp, by simpa using hsz, hlen, fun i f hi => by simpa [Value.cells] using hfs i f hi⟩

/-- A slice: nil, or so many elements in a row, each with its own reading. -/
theorem open_rows {t e : TypeId} {v : Value} {d : DataW H} {ps : List MemPlace} {r : Reach} (ht : P.underlying t = some (.slice e)) (hv : Value.okWide P W r base t v) (h : DataW.Trod enc P w 0 sp held t v d ps) :
    v = .slice none 0 0 ∨ ∃ (a : Addr) (len cap : Nat), v = .slice (some a) len cap ∧ len ≤ cap ∧ cap ≤ maxLen ∧
      ∀ i, i < len → ∃ (cs : List Value) (n : Nat) (x : DataW H × List MemPlace), cs.length = P.cellsOf e ∧ (∀ j, j < P.cellsOf e → w.cell? (a.add (i * P.cellsOf e + j)) = cs[j]?) ∧ DataW.trod enc P w 0 sp held n e cs = some x := by
  obtain ⟨a0, len0, cap0, rfl⟩ := okWide_slice ht hv
  obtain ⟨fuel, hf⟩ := h
  rcases open_slice ht hf with ⟨hcs, _⟩ | ⟨a, len, cap, m, n, D, Pl, hcs, _, hl, hm, hmm, _, hall⟩
  · left; simpa [Value.cells] using hcs
  · right
    refine ⟨a, len, cap, by simpa [Value.cells] using hcs, hl, hm, fun i hi => ?_⟩
    have him : i < m := by rw [hmm]; split <;> omega
    obtain ⟨cs, hc, htr⟩ := hall i him
    obtain ⟨_, hlen, hcell⟩ := World.cells?_some hc
    refine ⟨cs, n, _, hlen, fun j hj => ?_, htr⟩
    rw [← hcell j hj, add_add]

end
theorem add_flat (b o j : Nat) : (⟨b, o, none⟩ : Addr).add j = ⟨b, o + j, none⟩ := by
  unfold Addr.add
  by_cases h : j = 0 <;> simp [h]
theorem spot_none {w : World} {a : Addr} {v : Value} (h : w.cell? a = some v) : a = ⟨a.block, a.off, none⟩ := by
  obtain ⟨b, o, sp⟩ := a
  cases sp with
  | none => rfl
  | some s =>
    exfalso
    unfold World.cell? at h
    split at h
    · simp at h
    · cases h
/-- A slice's elements, 'sz' cells each, of each of which 'El' holds. -/
def RowsV (w : World) (A : Option Addr) (n sz : Nat) (El : List Value → Prop) : Prop :=
  (A = none ∧ n = 0) ∨ ∃ a, A = some a ∧ ∀ i, i < n → ∃ cs : List Value, cs.length = sz ∧ El cs ∧ ∀ j, j < sz → w.cell? (a.add (i * sz + j)) = cs[j]?
theorem RowsV.at {w : World} {A : Option Addr} {n sz : Nat} {El : List Value → Prop} (h : RowsV w A n sz El) (hs : 0 < sz) {i : Nat} (hi : i < n) :
    ∃ (b o : Nat) (cs : List Value), A = some ⟨b, o, none⟩ ∧ cs.length = sz ∧ El cs ∧ ∀ j, j < sz → w.cell? ⟨b, o + i * sz + j, none⟩ = cs[j]? := by
  rcases h with ⟨_, h0⟩ | ⟨a, ha, hall⟩
  · omega
  · obtain ⟨cs, hl, he, hc⟩ := hall i hi
    obtain ⟨cs0, hl0, _, hc0⟩ := hall 0 (by omega)
    have h0 := hc0 0 hs
    rw [List.getElem?_eq_getElem (by omega)] at h0
    have ha2 := spot_none (a := a) (by simpa [Addr.add] using h0)
    refine ⟨a.block, a.off, cs, by rw [ha]; exact congrArg some ha2, hl, he, fun j hj => ?_⟩
    have := hc j hj
    rw [ha2, add_flat] at this
    rw [← this, Nat.add_assoc]
theorem RowsV.none {w : World} {A : Option Addr} {n sz : Nat} {El : List Value → Prop} (h : RowsV w A n sz El) (hA : A = .none) : n = 0 := by
  rcases h with ⟨_, h0⟩ | ⟨a, ha, _⟩
  · exact h0
  · rw [hA] at ha; cases ha
theorem rows_of {w : World} {v : Value} {sz : Nat} {El : List Value → Prop}
    (h : v = .slice none 0 0 ∨ ∃ (a : Addr) (len cap : Nat), v = .slice (some a) len cap ∧ len ≤ cap ∧ cap ≤ maxLen ∧
      ∀ i, i < len → ∃ (cs : List Value), cs.length = sz ∧ (∀ j, j < sz → w.cell? (a.add (i * sz + j)) = cs[j]?) ∧ El cs) :
    ∃ (A : Option Addr) (n cap : Nat), v = .slice A n cap ∧ n ≤ cap ∧ cap ≤ maxLen ∧ (A = none → cap = 0) ∧ RowsV w A n sz El := by
  rcases h with rfl | ⟨a, len, cap, rfl, hl, hm, hall⟩
  · exact ⟨none, 0, 0, rfl, by simp, by unfold maxLen; omega, fun _ => rfl, .inl ⟨rfl, rfl⟩⟩
  · exact ⟨some a, len, cap, rfl, hl, hm, fun h => by simp at h, .inr ⟨a, rfl, fun i hi => by obtain ⟨cs, h1, h2, h3⟩ := hall i hi; exact ⟨cs, h1, h3, h2⟩⟩⟩
theorem list_1 {α : Type} : ∀ {l : List α}, l.length = 1 → ∃ x0, l = [x0]
  | [x0], _ => ⟨_, rfl⟩
theorem list_2 {α : Type} : ∀ {l : List α}, l.length = 2 → ∃ x0 x1, l = [x0, x1]
  | [x0, x1], _ => ⟨_, _, rfl⟩
theorem list_3 {α : Type} : ∀ {l : List α}, l.length = 3 → ∃ x0 x1 x2, l = [x0, x1, x2]
  | [x0, x1, x2], _ => ⟨_, _, _, rfl⟩
theorem list_4 {α : Type} : ∀ {l : List α}, l.length = 4 → ∃ x0 x1 x2 x3, l = [x0, x1, x2, x3]
  | [x0, x1, x2, x3], _ => ⟨_, _, _, _, rfl⟩
theorem list_5 {α : Type} : ∀ {l : List α}, l.length = 5 → ∃ x0 x1 x2 x3 x4, l = [x0, x1, x2, x3, x4]
  | [x0, x1, x2, x3, x4], _ => ⟨_, _, _, _, _, rfl⟩
theorem list_6 {α : Type} : ∀ {l : List α}, l.length = 6 → ∃ x0 x1 x2 x3 x4 x5, l = [x0, x1, x2, x3, x4, x5]
  | [x0, x1, x2, x3, x4, x5], _ => ⟨_, _, _, _, _, _, rfl⟩
theorem list_7 {α : Type} : ∀ {l : List α}, l.length = 7 → ∃ x0 x1 x2 x3 x4 x5 x6, l = [x0, x1, x2, x3, x4, x5, x6]
  | [x0, x1, x2, x3, x4, x5, x6], _ => ⟨_, _, _, _, _, _, _, rfl⟩
theorem list_8 {α : Type} : ∀ {l : List α}, l.length = 8 → ∃ x0 x1 x2 x3 x4 x5 x6 x7, l = [x0, x1, x2, x3, x4, x5, x6, x7]
  | [x0, x1, x2, x3, x4, x5, x6, x7], _ => ⟨_, _, _, _, _, _, _, _, rfl⟩
theorem list_9 {α : Type} : ∀ {l : List α}, l.length = 9 → ∃ x0 x1 x2 x3 x4 x5 x6 x7 x8, l = [x0, x1, x2, x3, x4, x5, x6, x7, x8]
  | [x0, x1, x2, x3, x4, x5, x6, x7, x8], _ => ⟨_, _, _, _, _, _, _, _, _, rfl⟩
theorem list_10 {α : Type} : ∀ {l : List α}, l.length = 10 → ∃ x0 x1 x2 x3 x4 x5 x6 x7 x8 x9, l = [x0, x1, x2, x3, x4, x5, x6, x7, x8, x9]
  | [x0, x1, x2, x3, x4, x5, x6, x7, x8, x9], _ => ⟨_, _, _, _, _, _, _, _, _, _, rfl⟩
theorem list_11 {α : Type} : ∀ {l : List α}, l.length = 11 → ∃ x0 x1 x2 x3 x4 x5 x6 x7 x8 x9 x10, l = [x0, x1, x2, x3, x4, x5, x6, x7, x8, x9, x10]
  | [x0, x1, x2, x3, x4, x5, x6, x7, x8, x9, x10], _ => ⟨_, _, _, _, _, _, _, _, _, _, _, rfl⟩
theorem list_12 {α : Type} : ∀ {l : List α}, l.length = 12 → ∃ x0 x1 x2 x3 x4 x5 x6 x7 x8 x9 x10 x11, l = [x0, x1, x2, x3, x4, x5, x6, x7, x8, x9, x10, x11]
  | [x0, x1, x2, x3, x4, x5, x6, x7, x8, x9, x10, x11], _ => ⟨_, _, _, _, _, _, _, _, _, _, _, _, rfl⟩
theorem wf_i64 {n : Int} (h : (Lit.int .i64 n).wf = true) : -9223372036854775808 ≤ n ∧ n ≤ 9223372036854775807 := bounds_i64 h
theorem wf_u16 {n : Int} (h : (Lit.int .u16 n).wf = true) : 0 ≤ n ∧ n ≤ 65535 := bounds_u16 h
theorem wf_u8 {n : Int} (h : (Lit.int .u8 n).wf = true) : 0 ≤ n ∧ n ≤ 255 := bounds_u8 h
theorem wf_u32 {n : Int} (h : (Lit.int .u32 n).wf = true) : 0 ≤ n ∧ n ≤ 4294967295 := bounds_u32 h
end Go.Proofs.Ythgaphfelpnclaa
