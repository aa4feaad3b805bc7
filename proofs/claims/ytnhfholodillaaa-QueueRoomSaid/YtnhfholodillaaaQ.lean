/- A queue in memory, and the contracts of its small methods. -/
import Derived.Test.YtnhfholodillaaaProg
import Derived.Test.YtnhfholodillaaaK
set_option linter.unusedVariables false
set_option linter.unusedSimpArgs false
namespace Go.Proofs.Ytnhfholodillaaa
open Go.RowKit

/-- Block B is a queue: its ring g, where it begins, how many wait, its room, the greatest number. -/
structure QS (w : World) (B : Nat) (g : Nat → Int) (a m r : Nat) (l : Int) : Prop where
  ring : ∀ j, j < 32 → w.cell? ⟨B, j, none⟩ = some (.int .u32 (g j))
  ca : w.cell? ⟨B, 32, none⟩ = some (.int .i64 a)
  cm : w.cell? ⟨B, 33, none⟩ = some (.int .i64 m)
  cr : w.cell? ⟨B, 34, none⟩ = some (.int .i64 r)
  cl : w.cell? ⟨B, 35, none⟩ = some (.int .u32 l)
  fz : ∀ j, j < 36 → w.frozen? ⟨B, j, none⟩ = false
  lt : B < w.heap.size

theorem QS.below {w w' : World} {B : Nat} {g : Nat → Int} {a m r : Nat} {l : Int} (h : QS w B g a m r l) (hb : Below w.heap.size w w') : QS w' B g a m r l :=
  ⟨fun j hj => keep hb (h.ring j hj), keep hb h.ca, keep hb h.cm, keep hb h.cr, keep hb h.cl, fun j hj => by rw [hb.frozen (p := ⟨B, j, none⟩) h.lt]; exact h.fz j hj, Nat.lt_of_lt_of_le h.lt hb.size⟩

def upd (g : Nat → Int) (k : Nat) (v : Int) : Nat → Int := fun j => if j = k then v else g j
theorem cell_set {w : World} {B i k : Nat} {u v : Value} (h : w.cell? ⟨B, i, none⟩ = some u) : (w.setCell ⟨B, k, none⟩ v).cell? ⟨B, i, none⟩ = some (if i = k then v else u) := by
  by_cases e : i = k
  · subst e; rw [if_pos rfl]; exact World.cell?_setCell_same _ _ _ h
  · rw [if_neg e, World.cell?_setCell_other]
    · exact h
    · intro h2; injection h2 with h3 h4; exact e h4.symm

theorem QS.put {w : World} {B : Nat} {g : Nat → Int} {a m r : Nat} {l : Int} (h : QS w B g a m r l) {k : Nat} (hk : k < 32) (v : Int) : QS (w.setCell ⟨B, k, none⟩ (.int .u32 v)) B (upd g k v) a m r l := by
  refine ⟨fun j hj => ?_, ?_, ?_, ?_, ?_, fun j hj => ?_, ?_⟩
  · rw [cell_set (h.ring j hj)]; unfold upd; split <;> rfl
  · rw [cell_set h.ca, if_neg (by omega)]
  · rw [cell_set h.cm, if_neg (by omega)]
  · rw [cell_set h.cr, if_neg (by omega)]
  · rw [cell_set h.cl, if_neg (by omega)]
  · rw [World.frozen?_setCell]; exact h.fz j hj
  · rw [World.size_setCell]; exact h.lt
theorem QS.setA {w : World} {B : Nat} {g : Nat → Int} {a m r : Nat} {l : Int} (h : QS w B g a m r l) (v : Nat) : QS (w.setCell ⟨B, 32, none⟩ (.int .i64 v)) B g v m r l := by
  refine ⟨fun j hj => ?_, ?_, ?_, ?_, ?_, fun j hj => ?_, ?_⟩
  · rw [cell_set (h.ring j hj), if_neg (by omega)]
  · rw [cell_set h.ca, if_pos rfl]
  · rw [cell_set h.cm, if_neg (by omega)]
  · rw [cell_set h.cr, if_neg (by omega)]
  · rw [cell_set h.cl, if_neg (by omega)]
  · rw [World.frozen?_setCell]; exact h.fz j hj
  · rw [World.size_setCell]; exact h.lt
theorem QS.setM {w : World} {B : Nat} {g : Nat → Int} {a m r : Nat} {l : Int} (h : QS w B g a m r l) (v : Nat) : QS (w.setCell ⟨B, 33, none⟩ (.int .i64 v)) B g a v r l := by
  refine ⟨fun j hj => ?_, ?_, ?_, ?_, ?_, fun j hj => ?_, ?_⟩
  · rw [cell_set (h.ring j hj), if_neg (by omega)]
  · rw [cell_set h.ca, if_neg (by omega)]
  · rw [cell_set h.cm, if_pos rfl]
  · rw [cell_set h.cr, if_neg (by omega)]
  · rw [cell_set h.cl, if_neg (by omega)]
  · rw [World.frozen?_setCell]; exact h.fz j hj
  · rw [World.size_setCell]; exact h.lt
theorem QS.setL {w : World} {B : Nat} {g : Nat → Int} {a m r : Nat} {l : Int} (h : QS w B g a m r l) (v : Int) : QS (w.setCell ⟨B, 35, none⟩ (.int .u32 v)) B g a m r v := by
  refine ⟨fun j hj => ?_, ?_, ?_, ?_, ?_, fun j hj => ?_, ?_⟩
  · rw [cell_set (h.ring j hj), if_neg (by omega)]
  · rw [cell_set h.ca, if_neg (by omega)]
  · rw [cell_set h.cm, if_neg (by omega)]
  · rw [cell_set h.cr, if_neg (by omega)]
  · rw [cell_set h.cl, if_pos rfl]
  · rw [World.frozen?_setCell]; exact h.fz j hj
  · rw [World.size_setCell]; exact h.lt

/-- But for block B all that was there is as it was. -/
structure Only (B : Nat) (w w' : World) : Prop where
  os : w'.os = w.os
  tape : w'.tape = w.tape
  output : w'.output = w.output
  size : w.heap.size ≤ w'.heap.size
  block : ∀ k, k < w.heap.size → k ≠ B → w'.heap[k]? = w.heap[k]?
theorem Only.refl (B : Nat) (w : World) : Only B w w := ⟨rfl, rfl, rfl, Nat.le_refl _, fun _ _ _ => rfl⟩
theorem Only.trans {B : Nat} {a b c : World} (h : Only B a b) (k : Only B b c) : Only B a c :=
  ⟨k.os.trans h.os, k.tape.trans h.tape, k.output.trans h.output, Nat.le_trans h.size k.size, fun i hi hB => (k.block i (Nat.lt_of_lt_of_le hi h.size) hB).trans (h.block i hi hB)⟩
theorem Only.of_below {B : Nat} {w w' : World} (h : Below w.heap.size w w') : Only B w w' := ⟨h.os, h.tape, h.output, h.size, fun k hk _ => h.block k hk⟩
theorem Only.set {B : Nat} {w W : World} (h : Only B w W) {p : Addr} (hp : p.block = B) (u : Value) : Only B w (W.setCell p u) :=
  h.trans ⟨rfl, rfl, rfl, by simp [World.setCell], fun k _ hB => Below.heap_setCell _ _ _ _ (by omega)⟩
theorem Only.drew {B : Nat} {w W : World} (h : Only B w W) : Only B w W.drew := h.trans ⟨rfl, rfl, rfl, Nat.le_refl _, fun _ _ _ => rfl⟩
theorem Only.step {B : Nat} {w W w1 : World} (h : Only B w W) (hb : Below W.heap.size W w1) : Only B w w1 := h.trans (.of_below hb)
/-- A queue that the call itself has made may be written. -/
theorem Only.toBelow {B : Nat} {w W w1 : World} (h : Below w.heap.size w W) (hB : w.heap.size ≤ B) (ho : Only B W w1) : Below w.heap.size w w1 :=
  h.trans ⟨ho.os, ho.tape, ho.output, ho.size, fun k hk => ho.block k (Nat.lt_of_lt_of_le hk h.size) (by omega)⟩
theorem Only.keep {B : Nat} {W w1 : World} (hb : Only B W w1) {b o : Nat} {v : Value} (h : W.cell? ⟨b, o, none⟩ = some v) (hB : b ≠ B) : w1.cell? ⟨b, o, none⟩ = some v := by
  rw [World.cell?_of_block (w := W) (a := ⟨b, o, none⟩) (hb.block b (cell_lt h) hB)]; exact h
theorem Only.keepF {B : Nat} {W w1 : World} (hb : Only B W w1) {b o : Nat} (v : Value) (h : W.cell? ⟨b, o, none⟩ = some v) (hf : W.frozen? ⟨b, o, none⟩ = false) (hB : b ≠ B) : w1.frozen? ⟨b, o, none⟩ = false := by
  rw [World.frozen?_of_block (w := W) (a := ⟨b, o, none⟩) (hb.block b (cell_lt h) hB)]; exact hf

set_option maxHeartbeats 1000000 in
theorem place_any {B : Nat} {g : Nat → Int} {a m r : Nat} {l : Int} (i : Nat) (w : World) (h : QS w B g a m r l) (ha : a < 32) (hi : i ≤ 32) :
    Calls Try.prog 49 #[.pointer (some ⟨B, 0, none⟩), .int .i64 i] w fun e' w' => e' = .returned (.pointer (some ⟨B, (a + i) % 32, none⟩)) ∧ Below w.heap.size w w' := by
  have cca := h.ca
  have fca := h.fz 32 (by omega)
  have H := Lib.hid h
  have e1 : IntKind.i64.wrap ((a : Int) + (i : Int)) = (a : Int) + (i : Int) := IntWalk.i64_in _ (by omega)
  have e2 : ((a : Int) + (i : Int)).tmod 32 = ((a : Int) + (i : Int)) % 32 := Int.tmod_eq_emod_of_nonneg (by omega)
  have e3 : 0 ≤ ((a : Int) + (i : Int)) % 32 := by omega
  have e4 : ((a : Int) + (i : Int)) % 32 < 32 := by omega
  have e5 : (((a : Int) + (i : Int)) % 32).toNat = (a + i) % 32 := by omega
  clear h
  go_enter Try.func49, Try.ntmps49
  go_wp2_with fail
  refine wpQ_region (by kernel_rfl) (by kernel_rfl) ?_
  apply wpQ_do
  · rfl
  · intro wq hC; go_light; first | (go_simp; first | done | rfl | exact ⟨rfl, rfl⟩) | (have k0 : wq.cell? ⟨B, 32, none⟩ = some (.int .i64 a) := hC.keep (by go_simp); go_simp; first | done | rfl | exact ⟨rfl, rfl⟩)
  simp only [Act.put, List.setIfInBounds_toArray, List.set_cons_zero, List.set_cons_succ]
  apply wpQ_do
  · rfl
  · intro wq hC; go_light; first | (go_simp; first | done | rfl | exact ⟨rfl, rfl⟩) | (have k0 : wq.cell? ⟨B, 32, none⟩ = some (.int .i64 a) := hC.keep (by go_simp); go_simp; first | done | rfl | exact ⟨rfl, rfl⟩)
  simp only [Act.put, List.setIfInBounds_toArray, List.set_cons_zero, List.set_cons_succ]
  apply wpQ_do
  · rfl
  · intro wq hC; go_light; first | (go_simp; first | done | rfl | exact ⟨rfl, rfl⟩) | (have k0 : wq.cell? ⟨B, 32, none⟩ = some (.int .i64 a) := hC.keep (by go_simp); go_simp; first | done | rfl | exact ⟨rfl, rfl⟩)
  simp only [Act.put, List.setIfInBounds_toArray, List.set_cons_zero, List.set_cons_succ]
  apply wpQ_do
  · rfl
  · intro wq hC; go_light; first | (go_simp; first | done | rfl | exact ⟨rfl, rfl⟩) | (have k0 : wq.cell? ⟨B, 32, none⟩ = some (.int .i64 a) := hC.keep (by go_simp); go_simp; first | done | rfl | exact ⟨rfl, rfl⟩)
  simp only [Act.put, List.setIfInBounds_toArray, List.set_cons_zero, List.set_cons_succ]
  apply wpQ_do
  · rfl
  · intro wq hC; go_light; first | (go_simp; first | done | rfl | exact ⟨rfl, rfl⟩) | (have k0 : wq.cell? ⟨B, 32, none⟩ = some (.int .i64 a) := hC.keep (by go_simp); go_simp; first | done | rfl | exact ⟨rfl, rfl⟩)
  simp only [Act.put, List.setIfInBounds_toArray, List.set_cons_zero, List.set_cons_succ]
  apply wpQ_do
  · rfl
  · intro wq hC; go_light; first | (go_simp; first | done | rfl | exact ⟨rfl, rfl⟩) | (have k0 : wq.cell? ⟨B, 32, none⟩ = some (.int .i64 a) := hC.keep (by go_simp); go_simp; first | done | rfl | exact ⟨rfl, rfl⟩)
  simp only [Act.put, List.setIfInBounds_toArray, List.set_cons_zero, List.set_cons_succ]
  apply wpQ_do
  · rfl
  · intro wq hC; go_light; first | (go_simp; first | done | rfl | exact ⟨rfl, rfl⟩) | (have k0 : wq.cell? ⟨B, 32, none⟩ = some (.int .i64 a) := hC.keep (by go_simp); go_simp; first | done | rfl | exact ⟨rfl, rfl⟩)
  simp only [Act.put, List.setIfInBounds_toArray, List.set_cons_zero, List.set_cons_succ]
  apply wpQ_do
  · rfl
  · intro wq hC; go_light; first | (go_simp; first | done | rfl | exact ⟨rfl, rfl⟩) | (have k0 : wq.cell? ⟨B, 32, none⟩ = some (.int .i64 a) := hC.keep (by go_simp); go_simp; first | done | rfl | exact ⟨rfl, rfl⟩)
  simp only [Act.put, List.setIfInBounds_toArray, List.set_cons_zero, List.set_cons_succ]
  apply wpQ_do
  · rfl
  · intro wq hC; go_light; first | (go_simp; first | done | rfl | exact ⟨rfl, rfl⟩) | (have k0 : wq.cell? ⟨B, 32, none⟩ = some (.int .i64 a) := hC.keep (by go_simp); go_simp; first | done | rfl | exact ⟨rfl, rfl⟩)
  simp only [Act.put, List.setIfInBounds_toArray, List.set_cons_zero, List.set_cons_succ]
  apply wpQ_do
  · rfl
  · intro wq hC; go_light; first | (go_simp; first | done | rfl | exact ⟨rfl, rfl⟩) | (have k0 : wq.cell? ⟨B, 32, none⟩ = some (.int .i64 a) := hC.keep (by go_simp); go_simp; first | done | rfl | exact ⟨rfl, rfl⟩)
  simp only [Act.put, List.setIfInBounds_toArray, List.set_cons_zero, List.set_cons_succ]
  apply wpQ_do
  · rfl
  · intro wq hC; go_light; first | (go_simp; first | done | rfl | exact ⟨rfl, rfl⟩) | (have k0 : wq.cell? ⟨B, 32, none⟩ = some (.int .i64 a) := hC.keep (by go_simp); go_simp; first | done | rfl | exact ⟨rfl, rfl⟩)
  simp only [Act.put, List.setIfInBounds_toArray, List.set_cons_zero, List.set_cons_succ]
  apply wpQ_do
  · rfl
  · intro wq hC; go_light; first | (go_simp; first | done | rfl | exact ⟨rfl, rfl⟩) | (have k0 : wq.cell? ⟨B, 32, none⟩ = some (.int .i64 a) := hC.keep (by go_simp); go_simp; first | done | rfl | exact ⟨rfl, rfl⟩)
  simp only [Act.put, List.setIfInBounds_toArray, List.set_cons_zero, List.set_cons_succ]
  apply wpQ_nil
  intro w1 hb1
  have hb1 : Below _ _ _ := hb1
  have yw1 : w.heap.size ≤ w1.heap.size := by (have := hb1.size; (try simp at this); omega)
  have c1_0 : w1.cell? ⟨B, 32, none⟩ = some (.int .i64 a) := keep hb1 (by go_simp)
  have f1_0 : w1.frozen? ⟨B, 32, none⟩ = false := keepF hb1 (.int .i64 a) (by go_simp) (by go_simp)
  go_wp2_with fail
  go_ret
  exact ⟨rfl, (by repeat (first | exact Below.refl _ _ | refine balloc ?_ _ | refine bset ?_ (by first | (simp; done) | (simp; omega)) _ | refine bdrew ?_ | refine bstep ?_ (by assumption)))⟩

end Go.Proofs.Ytnhfholodillaaa
