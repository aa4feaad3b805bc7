/- Words that all walks of this seat share: what stays as it was below a block; a region that draws its order, walked once in the order of the text while its operations write nothing that was there. -/
import Derived.WalkKit
import Derived.WalkLawsBesides
import Derived.KernelRfl
import Derived.Lib.Hide
import Derived.Deep.Light
import Derived.Deep.QuietTactic
set_option linter.unusedVariables false
set_option linter.unusedSimpArgs false
namespace Go.Proofs.Ythgaphfelpnclaa
open Go.RowKit

theorem cell_lt {W : World} {b o : Nat} {v : Value} (h : W.cell? ⟨b, o, none⟩ = some v) : b < W.heap.size := by
  unfold World.cell? at h
  by_cases hb : b < W.heap.size
  · exact hb
  · simp [Array.getElem?_eq_none (Nat.le_of_not_lt hb)] at h
theorem keep {W w1 : World} (hb : Below W.heap.size W w1) {b o : Nat} {v : Value} (h : W.cell? ⟨b, o, none⟩ = some v) : w1.cell? ⟨b, o, none⟩ = some v := by
  rw [hb.cell (p := ⟨b, o, none⟩) (cell_lt h)]; exact h
theorem keepF {W w1 : World} (hb : Below W.heap.size W w1) {b o : Nat} (v : Value) (h : W.cell? ⟨b, o, none⟩ = some v) (hf : W.frozen? ⟨b, o, none⟩ = false) : w1.frozen? ⟨b, o, none⟩ = false := by
  rw [hb.frozen (p := ⟨b, o, none⟩) (cell_lt h)]; exact hf
theorem bstep {w W w1 : World} (h : Below w.heap.size w W) (hb : Below W.heap.size W w1) : Below w.heap.size w w1 := h.trans (hb.mono h.size)
theorem balloc {w W : World} (h : Below w.heap.size w W) (o : Obj) : Below w.heap.size w (W.alloc o) := h.alloc h.size o
theorem bset {w W : World} (h : Below w.heap.size w W) {p : Addr} (hp : w.heap.size ≤ p.block) (u : Value) : Below w.heap.size w (W.setCell p u) := h.setCell hp u
theorem bdrew {w W : World} (h : Below w.heap.size w W) : Below w.heap.size w W.drew := h.drew

/-- The worlds that have all that W has, as it was. -/
def BelowC (W : World) : World → Prop := fun w' => Below W.heap.size W w'
theorem BelowC.keep {W w1 : World} (hb : BelowC W w1) {b o : Nat} {v : Value} (h : W.cell? ⟨b, o, none⟩ = some v) : w1.cell? ⟨b, o, none⟩ = some v := Go.Proofs.Ythgaphfelpnclaa.keep hb h
theorem BelowC.step {W w1 w2 : World} (h : BelowC W w1) (hb : Below w1.heap.size w1 w2) : BelowC W w2 := bstep h hb
theorem BelowC.refl (W : World) : BelowC W W := Below.refl _ _
theorem BelowC.drew (W : World) : BelowC W { W with drawn := W.drawn + 1 } := (Below.refl _ _).drew

section
variable {P : Program} {ops : Array Oper} {C : World → Prop} {Q : Act → Prop} {a : Act} {o : Oper} {rest : List Oper}
theorem quiet_do (v : Value) (hw : Region.wanted o (yielded ops a.tmps) = true) (h : ∀ w, C w → o.quietAt P a C w v) (hr : wpQuiet P ops C Q rest (a.put o.dst v)) : wpQuiet P ops C Q (o :: rest) a := by
  unfold wpQuiet
  rw [if_pos hw]
  exact ⟨v, h, hr⟩
theorem quiet_not (hw : Region.wanted o (yielded ops a.tmps) = false) (hr : wpQuiet P ops C Q rest (a.put o.dst undef)) : wpQuiet P ops C Q (o :: rest) a := by
  unfold wpQuiet
  rw [if_neg (by rw [hw]; exact Bool.false_ne_true)]
  exact hr
end

theorem wp_region_below {P : Program} {id : Nat} {Q : Exit → Act → World → Prop} {a : Act} {w : World} {l : List Oper} (hm : P.follows .mixedOrders = true) (hB : Region.lexB .any l.toArray = true)
    (h : wpQuiet P l.toArray (BelowC w) (fun a' => ∀ w', BelowC w w' → Q .normal a' w') l a) : (Code.region id l.toArray true).wp P Q a w :=
  wp_region_quiet (C := BelowC w) hm hB (BelowC.drew w) (by simpa using h)

theorem obj_twice (f g : Obj → Obj) (w : Array Obj) (b : Nat) : (w.modify b f).modify b g = w.modify b (fun o => g (f o)) := by
  apply Array.ext
  · simp
  · intro i h1 h2
    simp only [Array.getElem_modify]
    split <;> rfl
theorem setCell_twice (w : World) (a : Addr) (u v : Value) : (w.setCell a u).setCell a v = w.setCell a v := by
  unfold World.setCell
  simp only [obj_twice]
  congr 2
  funext o
  cases o <;> simp
  split <;> simp
attribute [go_sem] setCell_twice
/-- The walk of a region in the text's order, shut: no tactic lays it open by itself. -/
def wpQ (P : Program) (ops : Array Oper) (C : World → Prop) (Q : Act → Prop) (l : List Oper) (a : Act) : Prop := wpQuiet P ops C Q l a
section
variable {P : Program} {ops : Array Oper} {C : World → Prop} {Q : Act → Prop} {a : Act} {o : Oper} {rest : List Oper}
theorem wpQ_do (v : Value) (hw : Region.wanted o (yielded ops a.tmps) = true) (h : ∀ w, C w → o.quietAt P a C w v) (hr : wpQ P ops C Q rest (a.put o.dst v)) : wpQ P ops C Q (o :: rest) a :=
  quiet_do v hw h hr
theorem wpQ_not (hw : Region.wanted o (yielded ops a.tmps) = false) (hr : wpQ P ops C Q rest (a.put o.dst undef)) : wpQ P ops C Q (o :: rest) a :=
  quiet_not hw hr
theorem wpQ_nil (h : Q a) : wpQ P ops C Q [] a := h
end
theorem wpQ_region {P : Program} {id : Nat} {Q : Exit → Act → World → Prop} {a : Act} {w : World} {l : List Oper} (hm : P.follows .mixedOrders = true) (hB : Region.lexB .any l.toArray = true)
    (h : wpQ P l.toArray (BelowC w) (fun a' => ∀ w', BelowC w w' → Q .normal a' w') l a) : (Code.region id l.toArray true).wp P Q a w :=
  wp_region_below hm hB h
attribute [irreducible] wpQ

theorem max_of (k k' : IntKind) (x y : Int) : Builtin.max2 (.int k x) (.int k' y) = pure (.int k (max x y)) := by
  simp only [Builtin.max2]; congr 2; split <;> omega
theorem min_of (k k' : IntKind) (x y : Int) : Builtin.min2 (.int k x) (.int k' y) = pure (.int k (min x y)) := by
  simp only [Builtin.min2]; congr 2; split <;> omega
theorem max_two (ats : Array TypeId) (ty : TypeId) (k k' : IntKind) (x y : Int) : Builtin.max_ ats ty #[.int k x, .int k' y] = pure (.int k (max x y)) := by
  simp only [Builtin.max_, List.foldlM_cons, List.foldlM_nil, max_of, pure_bind]
theorem min_two (ats : Array TypeId) (ty : TypeId) (k k' : IntKind) (x y : Int) : Builtin.min_ ats ty #[.int k x, .int k' y] = pure (.int k (min x y)) := by
  simp only [Builtin.min_, List.foldlM_cons, List.foldlM_nil, min_of, pure_bind]
attribute [go_sem ↓ high] max_of min_of max_two min_two

end Go.Proofs.Ythgaphfelpnclaa
