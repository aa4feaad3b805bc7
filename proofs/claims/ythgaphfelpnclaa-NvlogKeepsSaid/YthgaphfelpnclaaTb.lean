/- Parts of a row of bytes. -/
import Derived.Test.YthgaphfelpnclaaDl
set_option linter.unusedVariables false
set_option linter.unusedSimpArgs false
namespace Go.Proofs.Ythgaphfelpnclaa
open Go.RowKit
theorem take_bat2 {w : World} {A : Option Addr} {n c m : Nat} {ls : List Int} (h : BAt w (.slice A n c) ls) (hm : m ≤ ls.length) : BAt w (.slice A m c) (ls.take m) := by
  obtain ⟨A2, c2, e, h2, h3, h4⟩ := h
  simp only [Value.slice.injEq] at e
  obtain ⟨rfl, _, rfl⟩ := e
  have hl : (ls.take m).length = m := by rw [List.length_take]; omega
  refine ⟨A, c, by rw [hl], by omega, h3, fun i hi => ?_⟩
  obtain ⟨b, o, e1, e2⟩ := h4 i (by omega)
  refine ⟨b, o, e1, ?_⟩
  rw [e2]
  congr 2
  simp [List.getD, List.getElem?_take, show i < m by omega]
theorem bat_set {w : World} {v : Value} {ls : List Int} (h : BAt w v ls) {p : Addr} (hp : v.ownBlock ≠ some p.block) (u : Value) : BAt (w.setCell p u) v ls := by
  obtain ⟨A, c, rfl, h2, h3, h4⟩ := h
  refine ⟨A, c, rfl, h2, h3, fun i hi => ?_⟩
  obtain ⟨b, o, rfl, e2⟩ := h4 i hi
  refine ⟨b, o, rfl, ?_⟩
  rw [World.cell?_of_block (w := w) (a := ⟨b, o + i, none⟩) (Below.heap_setCell _ _ _ _ (fun x => hp (by simp [Value.ownBlock]; exact x)))]
  exact e2
theorem bat_setB {w : World} {v : Value} {ls : List Int} {lo : Nat} (h : BAt w v ls) (hnb : ∀ k, v.ownBlock = some k → lo ≤ k) {p : Addr} (hp : p.block < lo) (u : Value) : BAt (w.setCell p u) v ls :=
  bat_set h (fun e => by have := hnb _ e; omega) u
theorem bat_alloc {w : World} {v : Value} {ls : List Int} (h : BAt w v ls) (o : Obj) : BAt (w.alloc o) v ls := h.below (balloc (Below.refl _ _) o)
end Go.Proofs.Ythgaphfelpnclaa
