/- Rows of structs, where what holds of an element hangs on its place. -/
import Derived.Test.YtnhfholodillaaaR
set_option linter.unusedVariables false
set_option linter.unusedSimpArgs false
namespace Go.Proofs.Ytnhfholodillaaa
open Go.ChangeShapes Go.WideShapes Go.ChangeAt Go.RowKit Go.Deep

/-- The same, where what holds of an element hangs on its place. -/
def RowsI (w : World) (A : Option Addr) (n sz : Nat) (El : Nat → List Value → Prop) : Prop :=
  (A = none ∧ n = 0) ∨ ∃ a, A = some a ∧ ∀ i, i < n → ∃ cs : List Value, cs.length = sz ∧ El i cs ∧ ∀ j, j < sz → w.cell? (a.add (i * sz + j)) = cs[j]?
theorem RowsI.at {w : World} {A : Option Addr} {n sz : Nat} {El : Nat → List Value → Prop} (h : RowsI w A n sz El) (hs : 0 < sz) {i : Nat} (hi : i < n) :
    ∃ (b o : Nat) (cs : List Value), A = some ⟨b, o, none⟩ ∧ cs.length = sz ∧ El i cs ∧ ∀ j, j < sz → w.cell? ⟨b, o + i * sz + j, none⟩ = cs[j]? := by
  rcases h with ⟨_, h0⟩ | ⟨a, ha, hall⟩
  · omega
  · obtain ⟨cs, hl, he, hc⟩ := hall i hi
    obtain ⟨cs0, hl0, _, hc0⟩ := hall 0 (by omega)
    have h0 := hc0 0 hs
    rw [List.getElem?_eq_getElem (by omega)] at h0
    have ha2 := spot_none (a := a) (by simpa [Addr.add] using h0)
    refine ⟨a.block, a.off, cs, by rw [ha]; exact congrArg some ha2, hl, he, fun j hj => ?_⟩
    have := hc j hj
    rw [ha2, add_flat] at this
    rw [← this, Nat.add_assoc]
theorem RowsI.mk {w : World} {b o n sz : Nat} {El : Nat → List Value → Prop} (h : ∀ i, i < n → ∃ cs : List Value, cs.length = sz ∧ El i cs ∧ ∀ j, j < sz → w.cell? ⟨b, o + i * sz + j, none⟩ = cs[j]?) : RowsI w (some ⟨b, o, none⟩) n sz El :=
  .inr ⟨_, rfl, fun i hi => by obtain ⟨cs, h1, h2, h3⟩ := h i hi; exact ⟨cs, h1, h2, fun j hj => by rw [add_flat, ← Nat.add_assoc]; exact h3 j hj⟩⟩
theorem RowsI.none {w : World} {sz : Nat} {El : Nat → List Value → Prop} : RowsI w .none 0 sz El := .inl ⟨rfl, rfl⟩
theorem RowsI.carry {w w' : World} {A : Option Addr} {n sz : Nat} {El : Nat → List Value → Prop} (h : RowsI w A n sz El) (hk : ∀ (a : Addr) (v : Value), w.cell? a = some v → w'.cell? a = some v) : RowsI w' A n sz El := by
  rcases h with h | ⟨a, ha, hall⟩
  · exact .inl h
  · refine .inr ⟨a, ha, fun i hi => ?_⟩
    obtain ⟨cs, h1, h2, h3⟩ := hall i hi
    refine ⟨cs, h1, h2, fun j hj => ?_⟩
    have := h3 j hj
    rw [List.getElem?_eq_getElem (by omega)] at this ⊢
    exact hk _ _ this
theorem cell_block_lt {w : World} {a : Addr} {v : Value} (h : w.cell? a = some v) : a.block < w.heap.size := by
  unfold World.cell? at h
  by_cases hb : a.block < w.heap.size
  · exact hb
  · simp [Array.getElem?_eq_none (Nat.le_of_not_lt hb)] at h
theorem RowsI.alloc {w : World} {A : Option Addr} {n sz : Nat} {El : Nat → List Value → Prop} (h : RowsI w A n sz El) (o : Obj) : RowsI (w.alloc o) A n sz El :=
  h.carry fun a v hv => by rw [((Below.refl w.heap.size w).alloc (Nat.le_refl _) o).cell (cell_block_lt hv)]; exact hv
theorem RowsI.below {w w' : World} {A : Option Addr} {n sz : Nat} {El : Nat → List Value → Prop} (h : RowsI w A n sz El) (hb : Below w.heap.size w w') : RowsI w' A n sz El :=
  h.carry fun a v hv => by rw [hb.cell (cell_block_lt hv)]; exact hv
end Go.Proofs.Ytnhfholodillaaa
