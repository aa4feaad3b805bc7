/- The document's own disk (saucierref09): what each of its functions answers is what the disk does. -/
import Derived.Test.YthgaphfelpnclaaTb
set_option linter.unusedVariables false
set_option linter.unusedSimpArgs false
namespace Go.Proofs.Ythgaphfelpnclaa
open Go.RowKit

/-- The document's disk as a value: its bytes are the row v. -/
def rag (d : Dsk) (v : Value) : Value := .agg #[.int .i64 d.room, .int .i64 d.safe, .int .i64 d.left, v, .bool d.off]
set_option maxRecDepth 100000 in
theorem rspark_ok {A : Option Addr} {n c : Nat} {room safe left : Int} {off : Bool} (w : World) (h : left ≠ 0) (hl : -1 ≤ left ∧ left ≤ 9223372036854775807) :
    Calls Try.prog 71 #[.agg #[.int .i64 room, .int .i64 safe, .int .i64 left, .slice A n c, .bool off]] w fun e' w' => e' = .returned (.tuple #[.agg #[.int .i64 room, .int .i64 safe, .int .i64 (if left < 0 then left else left - 1), .slice A n c, .bool off], .bool true]) ∧ Below w.heap.size w w' := by
  have hz : (left == 0) = false := by simpa using h
  go_enter Try.func71, Try.ntmps71
  by_cases hp : 0 < left
  · have hw : IntKind.i64.wrap (left - 1) = left - 1 := IntWalk.i64_in _ (by omega)
    rw [if_neg (by omega)]
    go_wp2_with fail
    refine bodyPost_ret (v := .tuple #[.agg #[.int .i64 room, .int .i64 safe, .int .i64 (left - 1), .slice A n c, .bool off], .bool true]) (by simp [results, Try.results71, go_sem, *]) rfl ⟨rfl, ?_⟩
    repeat (first | exact Below.refl _ _ | refine bset ?_ (by simp) _ | refine balloc ?_ _)
  · rw [if_pos (by omega)]
    go_wp2_with fail
    refine bodyPost_ret (v := .tuple #[.agg #[.int .i64 room, .int .i64 safe, .int .i64 left, .slice A n c, .bool off], .bool true]) (by simp [results, Try.results71, go_sem, *]) rfl ⟨rfl, ?_⟩
    repeat (first | exact Below.refl _ _ | refine bset ?_ (by simp) _ | refine balloc ?_ _)
set_option maxRecDepth 100000 in
theorem rspark_no {A : Option Addr} {n c : Nat} {room safe : Int} {off : Bool} (w : World) :
    Calls Try.prog 71 #[.agg #[.int .i64 room, .int .i64 safe, .int .i64 0, .slice A n c, .bool off]] w fun e' w' => e' = .returned (.tuple #[.agg #[.int .i64 room, .int .i64 safe, .int .i64 0, .slice A n c, .bool true], .bool false]) ∧ Below w.heap.size w w' := by
  go_enter Try.func71, Try.ntmps71
  go_wp2_with fail
  refine bodyPost_ret (v := .tuple #[.agg #[.int .i64 room, .int .i64 safe, .int .i64 0, .slice A n c, .bool true], .bool false]) (by simp [results, Try.results71, go_sem, *]) rfl ⟨rfl, ?_⟩
  repeat (first | exact Below.refl _ _ | refine bset ?_ (by simp) _ | refine balloc ?_ _)
/-- What the document's functions hand back: the disk behind, its bytes the old row or one of its own. -/
def RPost (w w' : World) (v : Value) (d2 : Dsk) (r : Int) (e : Ending) : Prop :=
  ∃ v2, e = .returned (.tuple #[rag d2 v2, .int .i64 r]) ∧ BAt w' v2 d2.b ∧ Below w.heap.size w w' ∧ (v2 = v ∨ ∀ k, v2.ownBlock = some k → w.heap.size ≤ k)
/-- The same of a function that hands back the disk alone. -/
def RPost1 (w w' : World) (v : Value) (d2 : Dsk) (e : Ending) : Prop :=
  ∃ v2, e = .returned (rag d2 v2) ∧ BAt w' v2 d2.b ∧ Below w.heap.size w w' ∧ (v2 = v ∨ ∀ k, v2.ownBlock = some k → w.heap.size ≤ k)
set_option maxRecDepth 100000 in
set_option maxHeartbeats 1000000 in
theorem rspark_okE {A : Option Addr} {n c : Nat} {room safe left l2 : Int} {off : Bool} (w : World) (h : left ≠ 0) (hl : -1 ≤ left ∧ left ≤ 9223372036854775807) (e : (if left < 0 then left else left - 1) = l2) :
    Calls Try.prog 71 #[.agg #[.int .i64 room, .int .i64 safe, .int .i64 left, .slice A n c, .bool off]] w fun e' w' => e' = .returned (.tuple #[.agg #[.int .i64 room, .int .i64 safe, .int .i64 l2, .slice A n c, .bool off], .bool true]) ∧ Below w.heap.size w w' := by
  subst e
  exact rspark_ok w h hl
set_option maxRecDepth 100000 in
set_option maxHeartbeats 1000000 in
theorem rsync {v : Value} {d : Dsk} (w : World) (hv : BAt w v d.b) (hl : -1 ≤ d.left ∧ d.left ≤ 9223372036854775807) :
    Calls Try.prog 67 #[rag d v] w fun e' w' => RPost w w' v d.sync.1 d.sync.2 e' := by
  have HV := Lib.hid hv
  obtain ⟨A, c, rfl, h2, h3, _⟩ := hv
  unfold maxLen at h3
  unfold rag
  by_cases ho : d.off = true
  · rw [show d.sync = (d, 6) from by simp [Dsk.sync, ho]]
    go_enter Try.func67, Try.ntmps67
    go_wp2_with fail
    refine bodyPost_ret (v := .tuple #[.agg #[.int .i64 ↑d.room, .int .i64 ↑d.safe, .int .i64 d.left, .slice A d.b.length c, .bool d.off], .int .i64 6]) ?_ rfl ?_
    · simp [results, Try.results67, go_sem, *]
    · exact ⟨_, rfl, HV.out.below (by repeat (first | with_reducible exact Below.refl _ _ | with_reducible refine balloc ?_ _ | with_reducible refine bset ?_ (by first | (simp; done) | (simp; omega)) _)), (by repeat (first | with_reducible exact Below.refl _ _ | with_reducible refine balloc ?_ _ | with_reducible refine bset ?_ (by first | (simp; done) | (simp; omega)) _)), .inl rfl⟩
  · have ho : d.off = false := by simpa using ho
    by_cases hz : d.left = 0
    · rw [show d.sync = (d.dark, 6) from by simp [Dsk.sync, Dsk.syncOn, ho, hz]]
      go_enter Try.func67, Try.ntmps67
      go_wp2_with fail
      with_reducible refine Calls.mono (rspark_no _) ?_
      rintro e1 w1 ⟨rfl, hb1⟩
      have S1 := Lib.hid (bstep (show Below w.heap.size w _ from (balloc (balloc (Below.refl _ _) _) _)) hb1)
      have hs1 : w.heap.size + 1 + 1 ≤ w1.heap.size := by have := hb1.size; simp at this; omega
      have xc0 : w1.cell? ⟨w.heap.size + 1, 0, none⟩ = some (.int .i64 0) := keep hb1 (by go_simp)
      have xf0 : w1.frozen? ⟨w.heap.size + 1, 0, none⟩ = false := keepF hb1 (.int .i64 0) (by go_simp) (by go_simp)
      have xc1 : w1.cell? ⟨w.heap.size + 1, 1, none⟩ = some (.int .i64 0) := keep hb1 (by go_simp)
      have xf1 : w1.frozen? ⟨w.heap.size + 1, 1, none⟩ = false := keepF hb1 (.int .i64 0) (by go_simp) (by go_simp)
      have xc2 : w1.cell? ⟨w.heap.size + 1, 2, none⟩ = some (.int .i64 0) := keep hb1 (by go_simp)
      have xf2 : w1.frozen? ⟨w.heap.size + 1, 2, none⟩ = false := keepF hb1 (.int .i64 0) (by go_simp) (by go_simp)
      have xc3 : w1.cell? ⟨w.heap.size + 1, 3, none⟩ = some (.slice none 0 0) := keep hb1 (by go_simp)
      have xf3 : w1.frozen? ⟨w.heap.size + 1, 3, none⟩ = false := keepF hb1 (.slice none 0 0) (by go_simp) (by go_simp)
      have xc4 : w1.cell? ⟨w.heap.size + 1, 4, none⟩ = some (.bool false) := keep hb1 (by go_simp)
      have xf4 : w1.frozen? ⟨w.heap.size + 1, 4, none⟩ = false := keepF hb1 (.bool false) (by go_simp) (by go_simp)
      have xz := cell_lt xc0
      have yc0 : w1.cell? ⟨w.heap.size, 0, none⟩ = some (.int .i64 ↑d.room) := keep hb1 (by go_simp)
      have yf0 : w1.frozen? ⟨w.heap.size, 0, none⟩ = false := keepF hb1 (.int .i64 ↑d.room) (by go_simp) (by go_simp)
      have yc1 : w1.cell? ⟨w.heap.size, 1, none⟩ = some (.int .i64 ↑d.safe) := keep hb1 (by go_simp)
      have yf1 : w1.frozen? ⟨w.heap.size, 1, none⟩ = false := keepF hb1 (.int .i64 ↑d.safe) (by go_simp) (by go_simp)
      have yc2 : w1.cell? ⟨w.heap.size, 2, none⟩ = some (.int .i64 0) := keep hb1 (by go_simp)
      have yf2 : w1.frozen? ⟨w.heap.size, 2, none⟩ = false := keepF hb1 (.int .i64 0) (by go_simp) (by go_simp)
      have yc3 : w1.cell? ⟨w.heap.size, 3, none⟩ = some (.slice A d.b.length c) := keep hb1 (by go_simp)
      have yf3 : w1.frozen? ⟨w.heap.size, 3, none⟩ = false := keepF hb1 (.slice A d.b.length c) (by go_simp) (by go_simp)
      have yc4 : w1.cell? ⟨w.heap.size, 4, none⟩ = some (.bool false) := keep hb1 (by go_simp)
      have yf4 : w1.frozen? ⟨w.heap.size, 4, none⟩ = false := keepF hb1 (.bool false) (by go_simp) (by go_simp)
      have yz := cell_lt yc0
      clear hb1
      go_wp2_with fail
      refine bodyPost_ret (v := .tuple #[.agg #[.int .i64 ↑d.room, .int .i64 ↑d.safe, .int .i64 0, .slice A d.b.length c, .bool true], .int .i64 6]) ?_ rfl ?_
      · simp [results, Try.results67, go_sem, *]
      · exact ⟨_, (by simp [rag, Dsk.dark, hz]), HV.out.below (by repeat (first | with_reducible exact S1.out | with_reducible refine balloc ?_ _ | with_reducible refine bset ?_ (by first | (simp; done) | (simp; omega)) _)), (by repeat (first | with_reducible exact S1.out | with_reducible refine balloc ?_ _ | with_reducible refine bset ?_ (by first | (simp; done) | (simp; omega)) _)), .inl rfl⟩
    · rw [show d.sync = ({ d.dec with safe := d.b.length }, 0) from by simp [Dsk.sync, Dsk.syncOn, ho, hz]]
      go_enter Try.func67, Try.ntmps67
      go_wp2_with fail
      with_reducible refine Calls.mono (rspark_okE (l2 := d.dec.left) _ hz hl rfl) ?_
      rintro e1 w1 ⟨rfl, hb1⟩
      have S1 := Lib.hid (bstep (show Below w.heap.size w _ from (balloc (balloc (Below.refl _ _) _) _)) hb1)
      have hs1 : w.heap.size + 1 + 1 ≤ w1.heap.size := by have := hb1.size; simp at this; omega
      have xc0 : w1.cell? ⟨w.heap.size + 1, 0, none⟩ = some (.int .i64 0) := keep hb1 (by go_simp)
      have xf0 : w1.frozen? ⟨w.heap.size + 1, 0, none⟩ = false := keepF hb1 (.int .i64 0) (by go_simp) (by go_simp)
      have xc1 : w1.cell? ⟨w.heap.size + 1, 1, none⟩ = some (.int .i64 0) := keep hb1 (by go_simp)
      have xf1 : w1.frozen? ⟨w.heap.size + 1, 1, none⟩ = false := keepF hb1 (.int .i64 0) (by go_simp) (by go_simp)
      have xc2 : w1.cell? ⟨w.heap.size + 1, 2, none⟩ = some (.int .i64 0) := keep hb1 (by go_simp)
      have xf2 : w1.frozen? ⟨w.heap.size + 1, 2, none⟩ = false := keepF hb1 (.int .i64 0) (by go_simp) (by go_simp)
      have xc3 : w1.cell? ⟨w.heap.size + 1, 3, none⟩ = some (.slice none 0 0) := keep hb1 (by go_simp)
      have xf3 : w1.frozen? ⟨w.heap.size + 1, 3, none⟩ = false := keepF hb1 (.slice none 0 0) (by go_simp) (by go_simp)
      have xc4 : w1.cell? ⟨w.heap.size + 1, 4, none⟩ = some (.bool false) := keep hb1 (by go_simp)
      have xf4 : w1.frozen? ⟨w.heap.size + 1, 4, none⟩ = false := keepF hb1 (.bool false) (by go_simp) (by go_simp)
      have xz := cell_lt xc0
      have yc0 : w1.cell? ⟨w.heap.size, 0, none⟩ = some (.int .i64 ↑d.room) := keep hb1 (by go_simp)
      have yf0 : w1.frozen? ⟨w.heap.size, 0, none⟩ = false := keepF hb1 (.int .i64 ↑d.room) (by go_simp) (by go_simp)
      have yc1 : w1.cell? ⟨w.heap.size, 1, none⟩ = some (.int .i64 ↑d.safe) := keep hb1 (by go_simp)
      have yf1 : w1.frozen? ⟨w.heap.size, 1, none⟩ = false := keepF hb1 (.int .i64 ↑d.safe) (by go_simp) (by go_simp)
      have yc2 : w1.cell? ⟨w.heap.size, 2, none⟩ = some (.int .i64 d.left) := keep hb1 (by go_simp)
      have yf2 : w1.frozen? ⟨w.heap.size, 2, none⟩ = false := keepF hb1 (.int .i64 d.left) (by go_simp) (by go_simp)
      have yc3 : w1.cell? ⟨w.heap.size, 3, none⟩ = some (.slice A d.b.length c) := keep hb1 (by go_simp)
      have yf3 : w1.frozen? ⟨w.heap.size, 3, none⟩ = false := keepF hb1 (.slice A d.b.length c) (by go_simp) (by go_simp)
      have yc4 : w1.cell? ⟨w.heap.size, 4, none⟩ = some (.bool false) := keep hb1 (by go_simp)
      have yf4 : w1.frozen? ⟨w.heap.size, 4, none⟩ = false := keepF hb1 (.bool false) (by go_simp) (by go_simp)
      have yz := cell_lt yc0
      clear hb1
      go_wp2_with fail
      refine bodyPost_ret (v := .tuple #[.agg #[.int .i64 ↑d.room, .int .i64 d.b.length, .int .i64 d.dec.left, .slice A d.b.length c, .bool d.off], .int .i64 0]) ?_ rfl ?_
      · simp [results, Try.results67, go_sem, *]
      · exact ⟨_, rfl, HV.out.below (by repeat (first | with_reducible exact S1.out | with_reducible refine balloc ?_ _ | with_reducible refine bset ?_ (by first | (simp; done) | (simp; omega)) _)), (by repeat (first | with_reducible exact S1.out | with_reducible refine balloc ?_ _ | with_reducible refine bset ?_ (by first | (simp; done) | (simp; omega)) _)), .inl rfl⟩
set_option maxRecDepth 100000 in
set_option maxHeartbeats 1000000 in
theorem rcut {v : Value} {d : Dsk} (w : World) (hv : BAt w v d.b) (hl : -1 ≤ d.left ∧ d.left ≤ 9223372036854775807) (hlen : d.b.length ≤ 262144) (y : Int) :
    Calls Try.prog 68 #[rag d v, .int .i64 y] w fun e' w' => RPost w w' v (d.cut y).1 (d.cut y).2 e' := by
  have HV := Lib.hid hv
  obtain ⟨A, c, rfl, h2, h3, _⟩ := hv
  unfold maxLen at h3
  unfold rag
  by_cases ho : d.off = true
  · rw [show d.cut y = (d, 6) from by simp [Dsk.cut, ho]]
    go_enter Try.func68, Try.ntmps68
    go_wp2_with fail
    refine bodyPost_ret (v := .tuple #[.agg #[.int .i64 ↑d.room, .int .i64 ↑d.safe, .int .i64 d.left, .slice A d.b.length c, .bool d.off], .int .i64 6]) ?_ rfl ?_
    · simp [results, Try.results68, go_sem, *]
    · exact ⟨_, rfl, HV.out.below (by repeat (first | with_reducible exact Below.refl _ _ | with_reducible refine balloc ?_ _ | with_reducible refine bset ?_ (by first | (simp; done) | (simp; omega)) _)), (by repeat (first | with_reducible exact Below.refl _ _ | with_reducible refine balloc ?_ _ | with_reducible refine bset ?_ (by first | (simp; done) | (simp; omega)) _)), .inl rfl⟩
  · have ho : d.off = false := by simpa using ho
    by_cases hy : y < 0 ∨ (d.b.length : Int) < y
    · rw [show d.cut y = (d, 2) from by simp only [Dsk.cut, ho, Bool.false_eq_true, if_false, Dsk.cutOn, if_pos hy]]
      go_enter Try.func68, Try.ntmps68
      rcases hy with hy | hy
      · have e0 : decide (y < 0) = true := by simpa using hy
        go_wp2_with fail
        refine bodyPost_ret (v := .tuple #[.agg #[.int .i64 ↑d.room, .int .i64 ↑d.safe, .int .i64 d.left, .slice A d.b.length c, .bool d.off], .int .i64 2]) ?_ rfl ?_
        · simp [results, Try.results68, go_sem, *]
        · exact ⟨_, rfl, HV.out.below (by repeat (first | with_reducible exact Below.refl _ _ | with_reducible refine balloc ?_ _ | with_reducible refine bset ?_ (by first | (simp; done) | (simp; omega)) _)), (by repeat (first | with_reducible exact Below.refl _ _ | with_reducible refine balloc ?_ _ | with_reducible refine bset ?_ (by first | (simp; done) | (simp; omega)) _)), .inl rfl⟩
      · have e0 : decide (y < 0) = false := by simp; omega
        have e1 : decide ((d.b.length : Int) < y) = true := by simpa using hy
        go_wp2_with fail
        refine bodyPost_ret (v := .tuple #[.agg #[.int .i64 ↑d.room, .int .i64 ↑d.safe, .int .i64 d.left, .slice A d.b.length c, .bool d.off], .int .i64 2]) ?_ rfl ?_
        · simp [results, Try.results68, go_sem, *]
        · exact ⟨_, rfl, HV.out.below (by repeat (first | with_reducible exact Below.refl _ _ | with_reducible refine balloc ?_ _ | with_reducible refine bset ?_ (by first | (simp; done) | (simp; omega)) _)), (by repeat (first | with_reducible exact Below.refl _ _ | with_reducible refine balloc ?_ _ | with_reducible refine bset ?_ (by first | (simp; done) | (simp; omega)) _)), .inl rfl⟩
    · have e0 : decide (y < 0) = false := by simp; omega
      have e1 : decide ((d.b.length : Int) < y) = false := by simp; omega
      obtain ⟨m, rfl⟩ := Int.eq_ofNat_of_zero_le (show 0 ≤ y by omega)
      have hmc : (m : Int) ≤ (c : Int) := by omega
      by_cases hz : d.left = 0
      · rw [show d.cut m = (d.dark, 6) from by simp only [Dsk.cut, ho, Bool.false_eq_true, if_false, Dsk.cutOn, if_neg hy, if_pos hz]]
        go_enter Try.func68, Try.ntmps68
        go_wp2_with fail
        with_reducible refine Calls.mono (rspark_no _) ?_
        rintro e1 w1 ⟨rfl, hb1⟩
        have S1 := Lib.hid (bstep (show Below w.heap.size w _ from (balloc (balloc (Below.refl _ _) _) _)) hb1)
        have hs1 : w.heap.size + 1 + 1 ≤ w1.heap.size := by have := hb1.size; simp at this; omega
        have xc0 : w1.cell? ⟨w.heap.size + 1, 0, none⟩ = some (.int .i64 0) := keep hb1 (by go_simp)
        have xf0 : w1.frozen? ⟨w.heap.size + 1, 0, none⟩ = false := keepF hb1 (.int .i64 0) (by go_simp) (by go_simp)
        have xc1 : w1.cell? ⟨w.heap.size + 1, 1, none⟩ = some (.int .i64 0) := keep hb1 (by go_simp)
        have xf1 : w1.frozen? ⟨w.heap.size + 1, 1, none⟩ = false := keepF hb1 (.int .i64 0) (by go_simp) (by go_simp)
        have xc2 : w1.cell? ⟨w.heap.size + 1, 2, none⟩ = some (.int .i64 0) := keep hb1 (by go_simp)
        have xf2 : w1.frozen? ⟨w.heap.size + 1, 2, none⟩ = false := keepF hb1 (.int .i64 0) (by go_simp) (by go_simp)
        have xc3 : w1.cell? ⟨w.heap.size + 1, 3, none⟩ = some (.slice none 0 0) := keep hb1 (by go_simp)
        have xf3 : w1.frozen? ⟨w.heap.size + 1, 3, none⟩ = false := keepF hb1 (.slice none 0 0) (by go_simp) (by go_simp)
        have xc4 : w1.cell? ⟨w.heap.size + 1, 4, none⟩ = some (.bool false) := keep hb1 (by go_simp)
        have xf4 : w1.frozen? ⟨w.heap.size + 1, 4, none⟩ = false := keepF hb1 (.bool false) (by go_simp) (by go_simp)
        have xz := cell_lt xc0
        have yc0 : w1.cell? ⟨w.heap.size, 0, none⟩ = some (.int .i64 ↑d.room) := keep hb1 (by go_simp)
        have yf0 : w1.frozen? ⟨w.heap.size, 0, none⟩ = false := keepF hb1 (.int .i64 ↑d.room) (by go_simp) (by go_simp)
        have yc1 : w1.cell? ⟨w.heap.size, 1, none⟩ = some (.int .i64 ↑d.safe) := keep hb1 (by go_simp)
        have yf1 : w1.frozen? ⟨w.heap.size, 1, none⟩ = false := keepF hb1 (.int .i64 ↑d.safe) (by go_simp) (by go_simp)
        have yc2 : w1.cell? ⟨w.heap.size, 2, none⟩ = some (.int .i64 0) := keep hb1 (by go_simp)
        have yf2 : w1.frozen? ⟨w.heap.size, 2, none⟩ = false := keepF hb1 (.int .i64 0) (by go_simp) (by go_simp)
        have yc3 : w1.cell? ⟨w.heap.size, 3, none⟩ = some (.slice A d.b.length c) := keep hb1 (by go_simp)
        have yf3 : w1.frozen? ⟨w.heap.size, 3, none⟩ = false := keepF hb1 (.slice A d.b.length c) (by go_simp) (by go_simp)
        have yc4 : w1.cell? ⟨w.heap.size, 4, none⟩ = some (.bool false) := keep hb1 (by go_simp)
        have yf4 : w1.frozen? ⟨w.heap.size, 4, none⟩ = false := keepF hb1 (.bool false) (by go_simp) (by go_simp)
        have yz := cell_lt yc0
        clear hb1
        go_wp2_with fail
        refine bodyPost_ret (v := .tuple #[.agg #[.int .i64 ↑d.room, .int .i64 ↑d.safe, .int .i64 0, .slice A d.b.length c, .bool true], .int .i64 6]) ?_ rfl ?_
        · simp [results, Try.results68, go_sem, *]
        · exact ⟨_, (by simp [rag, Dsk.dark, hz]), HV.out.below (by repeat (first | with_reducible exact S1.out | with_reducible refine balloc ?_ _ | with_reducible refine bset ?_ (by first | (simp; done) | (simp; omega)) _)), (by repeat (first | with_reducible exact S1.out | with_reducible refine balloc ?_ _ | with_reducible refine bset ?_ (by first | (simp; done) | (simp; omega)) _)), .inl rfl⟩
      · rw [show d.cut m = ({ d.dec with b := d.b.take m, safe := min d.safe m }, 0) from by simp only [Dsk.cut, ho, Bool.false_eq_true, if_false, Dsk.cutOn, if_neg hy, if_neg hz, Int.toNat_natCast]]
        go_enter Try.func68, Try.ntmps68
        go_wp2_with fail
        with_reducible refine Calls.mono (rspark_okE (l2 := d.dec.left) _ hz hl rfl) ?_
        rintro e1 w1 ⟨rfl, hb1⟩
        have S1 := Lib.hid (bstep (show Below w.heap.size w _ from (balloc (balloc (Below.refl _ _) _) _)) hb1)
        have hs1 : w.heap.size + 1 + 1 ≤ w1.heap.size := by have := hb1.size; simp at this; omega
        have xc0 : w1.cell? ⟨w.heap.size + 1, 0, none⟩ = some (.int .i64 0) := keep hb1 (by go_simp)
        have xf0 : w1.frozen? ⟨w.heap.size + 1, 0, none⟩ = false := keepF hb1 (.int .i64 0) (by go_simp) (by go_simp)
        have xc1 : w1.cell? ⟨w.heap.size + 1, 1, none⟩ = some (.int .i64 0) := keep hb1 (by go_simp)
        have xf1 : w1.frozen? ⟨w.heap.size + 1, 1, none⟩ = false := keepF hb1 (.int .i64 0) (by go_simp) (by go_simp)
        have xc2 : w1.cell? ⟨w.heap.size + 1, 2, none⟩ = some (.int .i64 0) := keep hb1 (by go_simp)
        have xf2 : w1.frozen? ⟨w.heap.size + 1, 2, none⟩ = false := keepF hb1 (.int .i64 0) (by go_simp) (by go_simp)
        have xc3 : w1.cell? ⟨w.heap.size + 1, 3, none⟩ = some (.slice none 0 0) := keep hb1 (by go_simp)
        have xf3 : w1.frozen? ⟨w.heap.size + 1, 3, none⟩ = false := keepF hb1 (.slice none 0 0) (by go_simp) (by go_simp)
        have xc4 : w1.cell? ⟨w.heap.size + 1, 4, none⟩ = some (.bool false) := keep hb1 (by go_simp)
        have xf4 : w1.frozen? ⟨w.heap.size + 1, 4, none⟩ = false := keepF hb1 (.bool false) (by go_simp) (by go_simp)
        have xz := cell_lt xc0
        have yc0 : w1.cell? ⟨w.heap.size, 0, none⟩ = some (.int .i64 ↑d.room) := keep hb1 (by go_simp)
        have yf0 : w1.frozen? ⟨w.heap.size, 0, none⟩ = false := keepF hb1 (.int .i64 ↑d.room) (by go_simp) (by go_simp)
        have yc1 : w1.cell? ⟨w.heap.size, 1, none⟩ = some (.int .i64 ↑d.safe) := keep hb1 (by go_simp)
        have yf1 : w1.frozen? ⟨w.heap.size, 1, none⟩ = false := keepF hb1 (.int .i64 ↑d.safe) (by go_simp) (by go_simp)
        have yc2 : w1.cell? ⟨w.heap.size, 2, none⟩ = some (.int .i64 d.left) := keep hb1 (by go_simp)
        have yf2 : w1.frozen? ⟨w.heap.size, 2, none⟩ = false := keepF hb1 (.int .i64 d.left) (by go_simp) (by go_simp)
        have yc3 : w1.cell? ⟨w.heap.size, 3, none⟩ = some (.slice A d.b.length c) := keep hb1 (by go_simp)
        have yf3 : w1.frozen? ⟨w.heap.size, 3, none⟩ = false := keepF hb1 (.slice A d.b.length c) (by go_simp) (by go_simp)
        have yc4 : w1.cell? ⟨w.heap.size, 4, none⟩ = some (.bool false) := keep hb1 (by go_simp)
        have yf4 : w1.frozen? ⟨w.heap.size, 4, none⟩ = false := keepF hb1 (.bool false) (by go_simp) (by go_simp)
        have yz := cell_lt yc0
        clear hb1
        have HT := Lib.hid (take_bat2 (HV.out.below S1.out) (show m ≤ d.b.length by omega))
        go_wp2_with (at_builtin; refine wpList_append_from _ rfl _ _ rfl w1.heap.size (.slice (some ⟨w1.heap.size + 1, 0, none⟩) 0 0) (.slice A m c) 0 [] (d.b.take m) rfl rfl (own_made5 _ _ _ (by simp) (by simp)) (HT.out.below (balloc (balloc (Below.refl _ _) _) _)) (by rw [List.length_take]; omega) (by (try simp); omega) ?_)
        intro v2 w2 o2 g2 f2
        have hl9 : (d.b.take m).length = m := by rw [List.length_take]; omega
        have o2 : w2.ownsRow w1.heap.size 5 1 v2 m (u8s (d.b.take m)) := by have h9 := o2; (try rw [show min m d.b.length = m by omega] at h9); exact h9
        have B2 := Lib.hid (BAt.of_own (Eq.mpr (congrArg (fun q => w2.ownsRow w1.heap.size 5 1 v2 q (u8s (d.b.take m))) hl9) o2))
        have hnb : ∀ k, v2.ownBlock = some k → w1.heap.size + 1 ≤ k := by
          intro k hk
          rcases f2 k hk with h9 | h9
          · simp [Value.ownBlock] at h9; omega
          · omega
        have hs2 : w1.heap.size + 1 + 1 ≤ w2.heap.size := by have := g2.size; simp at this; omega
        have S2 := Lib.hid (below_grown (show Below w.heap.size w _ from (balloc (balloc S1.out _) _)) g2 (fun k hk => by simp [Value.ownBlock] at hk; omega))
        have zc0 : w2.cell? ⟨w1.heap.size, 0, none⟩ = some (.int .i64 ↑d.room) := g2.cell (by go_simp) (by simp [Value.ownBlock])
        have zf0 : w2.frozen? ⟨w1.heap.size, 0, none⟩ = false := grown_frozen g2 (a := ⟨w1.heap.size, 0, none⟩) (v := .int .i64 ↑d.room) (by go_simp) (by go_simp) (by simp [Value.ownBlock])
        have zc1 : w2.cell? ⟨w1.heap.size, 1, none⟩ = some (.int .i64 ↑d.safe) := g2.cell (by go_simp) (by simp [Value.ownBlock])
        have zf1 : w2.frozen? ⟨w1.heap.size, 1, none⟩ = false := grown_frozen g2 (a := ⟨w1.heap.size, 1, none⟩) (v := .int .i64 ↑d.safe) (by go_simp) (by go_simp) (by simp [Value.ownBlock])
        have zc2 : w2.cell? ⟨w1.heap.size, 2, none⟩ = some (.int .i64 d.dec.left) := g2.cell (by go_simp) (by simp [Value.ownBlock])
        have zf2 : w2.frozen? ⟨w1.heap.size, 2, none⟩ = false := grown_frozen g2 (a := ⟨w1.heap.size, 2, none⟩) (v := .int .i64 d.dec.left) (by go_simp) (by go_simp) (by simp [Value.ownBlock])
        have zc3 : w2.cell? ⟨w1.heap.size, 3, none⟩ = some (.slice A d.b.length c) := g2.cell (by go_simp) (by simp [Value.ownBlock])
        have zf3 : w2.frozen? ⟨w1.heap.size, 3, none⟩ = false := grown_frozen g2 (a := ⟨w1.heap.size, 3, none⟩) (v := .slice A d.b.length c) (by go_simp) (by go_simp) (by simp [Value.ownBlock])
        have zc4 : w2.cell? ⟨w1.heap.size, 4, none⟩ = some (.bool false) := g2.cell (by go_simp) (by simp [Value.ownBlock])
        have zf4 : w2.frozen? ⟨w1.heap.size, 4, none⟩ = false := grown_frozen g2 (a := ⟨w1.heap.size, 4, none⟩) (v := .bool false) (by go_simp) (by go_simp) (by simp [Value.ownBlock])
        have xc0 : w2.cell? ⟨w.heap.size + 1, 0, none⟩ = some (.int .i64 0) := g2.cell (by go_simp) (by simp [Value.ownBlock]; omega)
        have xf0 : w2.frozen? ⟨w.heap.size + 1, 0, none⟩ = false := grown_frozen g2 (a := ⟨w.heap.size + 1, 0, none⟩) (v := .int .i64 0) (by go_simp) (by go_simp) (by simp [Value.ownBlock]; omega)
        have xc1 : w2.cell? ⟨w.heap.size + 1, 1, none⟩ = some (.int .i64 0) := g2.cell (by go_simp) (by simp [Value.ownBlock]; omega)
        have xf1 : w2.frozen? ⟨w.heap.size + 1, 1, none⟩ = false := grown_frozen g2 (a := ⟨w.heap.size + 1, 1, none⟩) (v := .int .i64 0) (by go_simp) (by go_simp) (by simp [Value.ownBlock]; omega)
        have xc2 : w2.cell? ⟨w.heap.size + 1, 2, none⟩ = some (.int .i64 0) := g2.cell (by go_simp) (by simp [Value.ownBlock]; omega)
        have xf2 : w2.frozen? ⟨w.heap.size + 1, 2, none⟩ = false := grown_frozen g2 (a := ⟨w.heap.size + 1, 2, none⟩) (v := .int .i64 0) (by go_simp) (by go_simp) (by simp [Value.ownBlock]; omega)
        have xc3 : w2.cell? ⟨w.heap.size + 1, 3, none⟩ = some (.slice none 0 0) := g2.cell (by go_simp) (by simp [Value.ownBlock]; omega)
        have xf3 : w2.frozen? ⟨w.heap.size + 1, 3, none⟩ = false := grown_frozen g2 (a := ⟨w.heap.size + 1, 3, none⟩) (v := .slice none 0 0) (by go_simp) (by go_simp) (by simp [Value.ownBlock]; omega)
        have xc4 : w2.cell? ⟨w.heap.size + 1, 4, none⟩ = some (.bool false) := g2.cell (by go_simp) (by simp [Value.ownBlock]; omega)
        have xf4 : w2.frozen? ⟨w.heap.size + 1, 4, none⟩ = false := grown_frozen g2 (a := ⟨w.heap.size + 1, 4, none⟩) (v := .bool false) (by go_simp) (by go_simp) (by simp [Value.ownBlock]; omega)
        have xz : w.heap.size + 1 < w2.heap.size := cell_lt xc0
        clear g2 f2
        obtain ⟨A2, c2, rfl⟩ := len_of_own o2
        clear o2
        by_cases hms : m < d.safe
        · have e3 : decide ((m : Int) < (d.safe : Int)) = true := by simpa using hms
          go_wp2_with fail
          refine bodyPost_ret (v := .tuple #[.agg #[.int .i64 ↑d.room, .int .i64 ↑m, .int .i64 d.dec.left, .slice A2 m c2, .bool d.off], .int .i64 0]) ?_ rfl ?_
          · simp [results, Try.results68, go_sem, *]
          · exact ⟨.slice A2 m c2, by first | rfl | (simp [rag, Dsk.dec]; omega), (by repeat (first | with_reducible exact B2.out | with_reducible refine bat_alloc ?_ _ | with_reducible refine bat_setB ?_ hnb (by first | (simp; done) | (simp; omega)) _)), (by repeat (first | with_reducible exact S2.out | with_reducible refine balloc ?_ _ | with_reducible refine bset ?_ (by first | (simp; done) | (simp; omega)) _)), .inr (fun k hk => by have := hnb k hk; omega)⟩
        · have e3 : decide ((m : Int) < (d.safe : Int)) = false := by simp; omega
          go_wp2_with fail
          refine bodyPost_ret (v := .tuple #[.agg #[.int .i64 ↑d.room, .int .i64 ↑d.safe, .int .i64 d.dec.left, .slice A2 m c2, .bool d.off], .int .i64 0]) ?_ rfl ?_
          · simp [results, Try.results68, go_sem, *]
          · exact ⟨.slice A2 m c2, by first | rfl | (simp [rag, Dsk.dec]; omega), (by repeat (first | with_reducible exact B2.out | with_reducible refine bat_alloc ?_ _ | with_reducible refine bat_setB ?_ hnb (by first | (simp; done) | (simp; omega)) _)), (by repeat (first | with_reducible exact S2.out | with_reducible refine balloc ?_ _ | with_reducible refine bset ?_ (by first | (simp; done) | (simp; omega)) _)), .inr (fun k hk => by have := hnb k hk; omega)⟩
set_option maxRecDepth 100000 in
set_option maxHeartbeats 1000000 in
theorem rcrash {v : Value} {d : Dsk} (w : World) (hv : BAt w v d.b) (hs : d.safe ≤ d.b.length) (hlen : d.b.length ≤ 262144) (y : Int) :
    Calls Try.prog 50 #[rag d v, .int .i64 y] w fun e' w' => RPost1 w w' v (d.crash y) e' := by
  have HV := Lib.hid hv
  obtain ⟨A, c, rfl, h2, h3, _⟩ := hv
  unfold maxLen at h3
  unfold rag
  have e2 : IntKind.i64.wrap ((d.b.length : Int) - d.safe) = (d.b.length : Int) - d.safe := IntWalk.i64_in _ (by omega)
  by_cases hy : y < 0
  · have e0 : decide (y < 0) = true := by simpa using hy
    have e1 : decide ((d.b.length : Int) - d.safe < 0) = false := by simp; omega
    have e3 : IntKind.i64.wrap ((d.safe : Int)) = (d.safe : Int) := IntWalk.i64_in _ (by omega)
    have e4 : (d.safe : Int) ≤ (c : Int) := by omega
    have hkeep : d.keep y = d.safe := by simp only [Dsk.keep]; omega
    skip
    have HT := Lib.hid (take_bat2 (HV.out.below (balloc (balloc (balloc (Below.refl w.heap.size w) (.cells #[.int .i64 d.room, .int .i64 d.safe, .int .i64 d.left, .slice A d.b.length c, .bool d.off] 58)) (.cells #[.int .i64 0, .int .i64 0, .int .i64 0, .slice none 0 0, .bool false] 58)) (.cells #[] 5))) (show d.safe ≤ d.b.length by omega))
    go_enter Try.func50, Try.ntmps50
    go_wp2_with (at_builtin; refine wpList_append_from _ rfl _ _ rfl (w.heap.size + 1 + 1) (.slice (some ⟨w.heap.size + 1 + 1, 0, none⟩) 0 0) (.slice A (d.safe) c) 0 [] (d.b.take d.safe) rfl rfl (own_made5 _ _ _ (by simp) (by simp)) HT.out (by rw [List.length_take]; omega) (by (try simp); try omega) ?_)
    intro v2 w2 o2 g2 f2
    have hl9 : (d.b.take d.safe).length = d.safe := by rw [List.length_take]; omega
    have o2 : w2.ownsRow (w.heap.size + 1 + 1) 5 1 v2 (d.safe) (u8s (d.b.take d.safe)) := by have h9 := o2; (try rw [show min d.safe d.b.length = d.safe by omega] at h9); first | exact h9 | simpa using h9
    have B2 := Lib.hid (BAt.of_own (Eq.mpr (congrArg (fun qq => w2.ownsRow (w.heap.size + 1 + 1) 5 1 v2 qq (u8s (d.b.take d.safe))) hl9) o2))
    have hnb : ∀ k, v2.ownBlock = some k → w.heap.size + 1 + 1 ≤ k := fun k hk => (o2.lt k hk).1
    have hs2 : w.heap.size + 1 + 1 + 1 ≤ w2.heap.size := by have := g2.size; simp at this; omega
    have S2 := Lib.hid (below_grown (show Below w.heap.size w _ from (balloc (balloc (balloc (Below.refl _ _) _) _) _)) g2 (fun k hk => by simp [Value.ownBlock] at hk; omega))
    have zc0 : w2.cell? ⟨w.heap.size, 0, none⟩ = some (.int .i64 ↑d.room) := g2.cell (by go_simp) (by simp [Value.ownBlock]; try omega)
    have zf0 : w2.frozen? ⟨w.heap.size, 0, none⟩ = false := grown_frozen g2 (a := ⟨w.heap.size, 0, none⟩) (v := .int .i64 ↑d.room) (by go_simp) (by go_simp) (by simp [Value.ownBlock]; try omega)
    have zc1 : w2.cell? ⟨w.heap.size, 1, none⟩ = some (.int .i64 ↑d.safe) := g2.cell (by go_simp) (by simp [Value.ownBlock]; try omega)
    have zf1 : w2.frozen? ⟨w.heap.size, 1, none⟩ = false := grown_frozen g2 (a := ⟨w.heap.size, 1, none⟩) (v := .int .i64 ↑d.safe) (by go_simp) (by go_simp) (by simp [Value.ownBlock]; try omega)
    have zc2 : w2.cell? ⟨w.heap.size, 2, none⟩ = some (.int .i64 d.left) := g2.cell (by go_simp) (by simp [Value.ownBlock]; try omega)
    have zf2 : w2.frozen? ⟨w.heap.size, 2, none⟩ = false := grown_frozen g2 (a := ⟨w.heap.size, 2, none⟩) (v := .int .i64 d.left) (by go_simp) (by go_simp) (by simp [Value.ownBlock]; try omega)
    have zc3 : w2.cell? ⟨w.heap.size, 3, none⟩ = some (.slice A d.b.length c) := g2.cell (by go_simp) (by simp [Value.ownBlock]; try omega)
    have zf3 : w2.frozen? ⟨w.heap.size, 3, none⟩ = false := grown_frozen g2 (a := ⟨w.heap.size, 3, none⟩) (v := .slice A d.b.length c) (by go_simp) (by go_simp) (by simp [Value.ownBlock]; try omega)
    have zc4 : w2.cell? ⟨w.heap.size, 4, none⟩ = some (.bool d.off) := g2.cell (by go_simp) (by simp [Value.ownBlock]; try omega)
    have zf4 : w2.frozen? ⟨w.heap.size, 4, none⟩ = false := grown_frozen g2 (a := ⟨w.heap.size, 4, none⟩) (v := .bool d.off) (by go_simp) (by go_simp) (by simp [Value.ownBlock]; try omega)
    have xc0 : w2.cell? ⟨w.heap.size + 1, 0, none⟩ = some (.int .i64 0) := g2.cell (by go_simp) (by simp [Value.ownBlock]; try omega)
    have xf0 : w2.frozen? ⟨w.heap.size + 1, 0, none⟩ = false := grown_frozen g2 (a := ⟨w.heap.size + 1, 0, none⟩) (v := .int .i64 0) (by go_simp) (by go_simp) (by simp [Value.ownBlock]; try omega)
    have xc1 : w2.cell? ⟨w.heap.size + 1, 1, none⟩ = some (.int .i64 0) := g2.cell (by go_simp) (by simp [Value.ownBlock]; try omega)
    have xf1 : w2.frozen? ⟨w.heap.size + 1, 1, none⟩ = false := grown_frozen g2 (a := ⟨w.heap.size + 1, 1, none⟩) (v := .int .i64 0) (by go_simp) (by go_simp) (by simp [Value.ownBlock]; try omega)
    have xc2 : w2.cell? ⟨w.heap.size + 1, 2, none⟩ = some (.int .i64 0) := g2.cell (by go_simp) (by simp [Value.ownBlock]; try omega)
    have xf2 : w2.frozen? ⟨w.heap.size + 1, 2, none⟩ = false := grown_frozen g2 (a := ⟨w.heap.size + 1, 2, none⟩) (v := .int .i64 0) (by go_simp) (by go_simp) (by simp [Value.ownBlock]; try omega)
    have xc3 : w2.cell? ⟨w.heap.size + 1, 3, none⟩ = some (.slice none 0 0) := g2.cell (by go_simp) (by simp [Value.ownBlock]; try omega)
    have xf3 : w2.frozen? ⟨w.heap.size + 1, 3, none⟩ = false := grown_frozen g2 (a := ⟨w.heap.size + 1, 3, none⟩) (v := .slice none 0 0) (by go_simp) (by go_simp) (by simp [Value.ownBlock]; try omega)
    have xc4 : w2.cell? ⟨w.heap.size + 1, 4, none⟩ = some (.bool false) := g2.cell (by go_simp) (by simp [Value.ownBlock]; try omega)
    have xf4 : w2.frozen? ⟨w.heap.size + 1, 4, none⟩ = false := grown_frozen g2 (a := ⟨w.heap.size + 1, 4, none⟩) (v := .bool false) (by go_simp) (by go_simp) (by simp [Value.ownBlock]; try omega)
    have xz : w.heap.size + 1 < w2.heap.size := cell_lt xc0
    clear g2 f2
    obtain ⟨A2, c2, rfl⟩ := len_of_own o2
    clear o2
    go_wp2_with fail
    refine bodyPost_ret (v := .agg #[.int .i64 ↑d.room, .int .i64 ((d.safe : Nat) : Int), .int .i64 (-1), .slice A2 (d.safe) c2, .bool false]) ?_ rfl ?_
    · simp [results, Try.results50, go_sem, *]
    · exact ⟨.slice A2 (d.safe) c2, by simp [rag, Dsk.crash, hkeep], (by show BAt _ _ (d.b.take (d.keep y)); rw [hkeep]; exact (by repeat (first | with_reducible exact B2.out | with_reducible refine bat_alloc ?_ _ | with_reducible refine bat_setB ?_ hnb (by first | (simp; done) | (simp; omega)) _))), (by repeat (first | with_reducible exact S2.out | with_reducible refine balloc ?_ _ | with_reducible refine bset ?_ (by first | (simp; done) | (simp; omega)) _)), .inr (fun k hk => by have := hnb k hk; omega)⟩
  · have e0 : decide (y < 0) = false := by simp; omega
    by_cases hy2 : (d.b.length : Int) - d.safe < y
    · have e1 : decide ((d.b.length : Int) - d.safe < y) = true := by simpa using hy2
      have e3 : IntKind.i64.wrap ((d.safe : Int) + ((d.b.length : Int) - d.safe)) = (d.b.length : Int) := by rw [IntWalk.i64_in _ (by omega)]; omega
      have e4 : (d.b.length : Int) ≤ (c : Int) := by omega
      have hkeep : d.keep y = d.b.length := by simp only [Dsk.keep]; omega
      skip
      have HT := Lib.hid (take_bat2 (HV.out.below (balloc (balloc (balloc (Below.refl w.heap.size w) (.cells #[.int .i64 d.room, .int .i64 d.safe, .int .i64 d.left, .slice A d.b.length c, .bool d.off] 58)) (.cells #[.int .i64 0, .int .i64 0, .int .i64 0, .slice none 0 0, .bool false] 58)) (.cells #[] 5))) (show d.b.length ≤ d.b.length by omega))
      go_enter Try.func50, Try.ntmps50
      go_wp2_with (at_builtin; refine wpList_append_from _ rfl _ _ rfl (w.heap.size + 1 + 1) (.slice (some ⟨w.heap.size + 1 + 1, 0, none⟩) 0 0) (.slice A (d.b.length) c) 0 [] (d.b.take d.b.length) rfl rfl (own_made5 _ _ _ (by simp) (by simp)) HT.out (by rw [List.length_take]; omega) (by (try simp); try omega) ?_)
      intro v2 w2 o2 g2 f2
      have hl9 : (d.b.take d.b.length).length = d.b.length := by rw [List.length_take]; omega
      have o2 : w2.ownsRow (w.heap.size + 1 + 1) 5 1 v2 (d.b.length) (u8s (d.b.take d.b.length)) := by have h9 := o2; (try rw [show min d.b.length d.b.length = d.b.length by omega] at h9); first | exact h9 | simpa using h9
      have B2 := Lib.hid (BAt.of_own (Eq.mpr (congrArg (fun qq => w2.ownsRow (w.heap.size + 1 + 1) 5 1 v2 qq (u8s (d.b.take d.b.length))) hl9) o2))
      have hnb : ∀ k, v2.ownBlock = some k → w.heap.size + 1 + 1 ≤ k := fun k hk => (o2.lt k hk).1
      have hs2 : w.heap.size + 1 + 1 + 1 ≤ w2.heap.size := by have := g2.size; simp at this; omega
      have S2 := Lib.hid (below_grown (show Below w.heap.size w _ from (balloc (balloc (balloc (Below.refl _ _) _) _) _)) g2 (fun k hk => by simp [Value.ownBlock] at hk; omega))
      have zc0 : w2.cell? ⟨w.heap.size, 0, none⟩ = some (.int .i64 ↑d.room) := g2.cell (by go_simp) (by simp [Value.ownBlock]; try omega)
      have zf0 : w2.frozen? ⟨w.heap.size, 0, none⟩ = false := grown_frozen g2 (a := ⟨w.heap.size, 0, none⟩) (v := .int .i64 ↑d.room) (by go_simp) (by go_simp) (by simp [Value.ownBlock]; try omega)
      have zc1 : w2.cell? ⟨w.heap.size, 1, none⟩ = some (.int .i64 ↑d.safe) := g2.cell (by go_simp) (by simp [Value.ownBlock]; try omega)
      have zf1 : w2.frozen? ⟨w.heap.size, 1, none⟩ = false := grown_frozen g2 (a := ⟨w.heap.size, 1, none⟩) (v := .int .i64 ↑d.safe) (by go_simp) (by go_simp) (by simp [Value.ownBlock]; try omega)
      have zc2 : w2.cell? ⟨w.heap.size, 2, none⟩ = some (.int .i64 d.left) := g2.cell (by go_simp) (by simp [Value.ownBlock]; try omega)
      have zf2 : w2.frozen? ⟨w.heap.size, 2, none⟩ = false := grown_frozen g2 (a := ⟨w.heap.size, 2, none⟩) (v := .int .i64 d.left) (by go_simp) (by go_simp) (by simp [Value.ownBlock]; try omega)
      have zc3 : w2.cell? ⟨w.heap.size, 3, none⟩ = some (.slice A d.b.length c) := g2.cell (by go_simp) (by simp [Value.ownBlock]; try omega)
      have zf3 : w2.frozen? ⟨w.heap.size, 3, none⟩ = false := grown_frozen g2 (a := ⟨w.heap.size, 3, none⟩) (v := .slice A d.b.length c) (by go_simp) (by go_simp) (by simp [Value.ownBlock]; try omega)
      have zc4 : w2.cell? ⟨w.heap.size, 4, none⟩ = some (.bool d.off) := g2.cell (by go_simp) (by simp [Value.ownBlock]; try omega)
      have zf4 : w2.frozen? ⟨w.heap.size, 4, none⟩ = false := grown_frozen g2 (a := ⟨w.heap.size, 4, none⟩) (v := .bool d.off) (by go_simp) (by go_simp) (by simp [Value.ownBlock]; try omega)
      have xc0 : w2.cell? ⟨w.heap.size + 1, 0, none⟩ = some (.int .i64 0) := g2.cell (by go_simp) (by simp [Value.ownBlock]; try omega)
      have xf0 : w2.frozen? ⟨w.heap.size + 1, 0, none⟩ = false := grown_frozen g2 (a := ⟨w.heap.size + 1, 0, none⟩) (v := .int .i64 0) (by go_simp) (by go_simp) (by simp [Value.ownBlock]; try omega)
      have xc1 : w2.cell? ⟨w.heap.size + 1, 1, none⟩ = some (.int .i64 0) := g2.cell (by go_simp) (by simp [Value.ownBlock]; try omega)
      have xf1 : w2.frozen? ⟨w.heap.size + 1, 1, none⟩ = false := grown_frozen g2 (a := ⟨w.heap.size + 1, 1, none⟩) (v := .int .i64 0) (by go_simp) (by go_simp) (by simp [Value.ownBlock]; try omega)
      have xc2 : w2.cell? ⟨w.heap.size + 1, 2, none⟩ = some (.int .i64 0) := g2.cell (by go_simp) (by simp [Value.ownBlock]; try omega)
      have xf2 : w2.frozen? ⟨w.heap.size + 1, 2, none⟩ = false := grown_frozen g2 (a := ⟨w.heap.size + 1, 2, none⟩) (v := .int .i64 0) (by go_simp) (by go_simp) (by simp [Value.ownBlock]; try omega)
      have xc3 : w2.cell? ⟨w.heap.size + 1, 3, none⟩ = some (.slice none 0 0) := g2.cell (by go_simp) (by simp [Value.ownBlock]; try omega)
      have xf3 : w2.frozen? ⟨w.heap.size + 1, 3, none⟩ = false := grown_frozen g2 (a := ⟨w.heap.size + 1, 3, none⟩) (v := .slice none 0 0) (by go_simp) (by go_simp) (by simp [Value.ownBlock]; try omega)
      have xc4 : w2.cell? ⟨w.heap.size + 1, 4, none⟩ = some (.bool false) := g2.cell (by go_simp) (by simp [Value.ownBlock]; try omega)
      have xf4 : w2.frozen? ⟨w.heap.size + 1, 4, none⟩ = false := grown_frozen g2 (a := ⟨w.heap.size + 1, 4, none⟩) (v := .bool false) (by go_simp) (by go_simp) (by simp [Value.ownBlock]; try omega)
      have xz : w.heap.size + 1 < w2.heap.size := cell_lt xc0
      clear g2 f2
      obtain ⟨A2, c2, rfl⟩ := len_of_own o2
      clear o2
      go_wp2_with fail
      refine bodyPost_ret (v := .agg #[.int .i64 ↑d.room, .int .i64 ((d.b.length : Nat) : Int), .int .i64 (-1), .slice A2 (d.b.length) c2, .bool false]) ?_ rfl ?_
      · simp [results, Try.results50, go_sem, *]
      · exact ⟨.slice A2 (d.b.length) c2, by simp [rag, Dsk.crash, hkeep], (by show BAt _ _ (d.b.take (d.keep y)); rw [hkeep]; exact (by repeat (first | with_reducible exact B2.out | with_reducible refine bat_alloc ?_ _ | with_reducible refine bat_setB ?_ hnb (by first | (simp; done) | (simp; omega)) _))), (by repeat (first | with_reducible exact S2.out | with_reducible refine balloc ?_ _ | with_reducible refine bset ?_ (by first | (simp; done) | (simp; omega)) _)), .inr (fun k hk => by have := hnb k hk; omega)⟩
    · have e1 : decide ((d.b.length : Int) - d.safe < y) = false := by simp; omega
      obtain ⟨q, rfl⟩ := Int.eq_ofNat_of_zero_le (show 0 ≤ y by omega)
      have e3 : IntKind.i64.wrap ((d.safe : Int) + (q : Int)) = ((d.safe + q : Nat) : Int) := by rw [IntWalk.i64_in _ (by omega)]; omega
      have e4 : ((d.safe + q : Nat) : Int) ≤ (c : Int) := by omega
      have hkeep : d.keep q = d.safe + q := by simp only [Dsk.keep]; omega
      skip
      have HT := Lib.hid (take_bat2 (HV.out.below (balloc (balloc (balloc (Below.refl w.heap.size w) (.cells #[.int .i64 d.room, .int .i64 d.safe, .int .i64 d.left, .slice A d.b.length c, .bool d.off] 58)) (.cells #[.int .i64 0, .int .i64 0, .int .i64 0, .slice none 0 0, .bool false] 58)) (.cells #[] 5))) (show d.safe + q ≤ d.b.length by omega))
      go_enter Try.func50, Try.ntmps50
      go_wp2_with (at_builtin; refine wpList_append_from _ rfl _ _ rfl (w.heap.size + 1 + 1) (.slice (some ⟨w.heap.size + 1 + 1, 0, none⟩) 0 0) (.slice A (d.safe + q) c) 0 [] (d.b.take (d.safe + q)) rfl rfl (own_made5 _ _ _ (by simp) (by simp)) HT.out (by rw [List.length_take]; omega) (by (try simp); try omega) ?_)
      intro v2 w2 o2 g2 f2
      have hl9 : (d.b.take (d.safe + q)).length = d.safe + q := by rw [List.length_take]; omega
      have o2 : w2.ownsRow (w.heap.size + 1 + 1) 5 1 v2 (d.safe + q) (u8s (d.b.take (d.safe + q))) := by have h9 := o2; (try rw [show min (d.safe + q) d.b.length = d.safe + q by omega] at h9); first | exact h9 | simpa using h9
      have B2 := Lib.hid (BAt.of_own (Eq.mpr (congrArg (fun qq => w2.ownsRow (w.heap.size + 1 + 1) 5 1 v2 qq (u8s (d.b.take (d.safe + q)))) hl9) o2))
      have hnb : ∀ k, v2.ownBlock = some k → w.heap.size + 1 + 1 ≤ k := fun k hk => (o2.lt k hk).1
      have hs2 : w.heap.size + 1 + 1 + 1 ≤ w2.heap.size := by have := g2.size; simp at this; omega
      have S2 := Lib.hid (below_grown (show Below w.heap.size w _ from (balloc (balloc (balloc (Below.refl _ _) _) _) _)) g2 (fun k hk => by simp [Value.ownBlock] at hk; omega))
      have zc0 : w2.cell? ⟨w.heap.size, 0, none⟩ = some (.int .i64 ↑d.room) := g2.cell (by go_simp) (by simp [Value.ownBlock]; try omega)
      have zf0 : w2.frozen? ⟨w.heap.size, 0, none⟩ = false := grown_frozen g2 (a := ⟨w.heap.size, 0, none⟩) (v := .int .i64 ↑d.room) (by go_simp) (by go_simp) (by simp [Value.ownBlock]; try omega)
      have zc1 : w2.cell? ⟨w.heap.size, 1, none⟩ = some (.int .i64 ↑d.safe) := g2.cell (by go_simp) (by simp [Value.ownBlock]; try omega)
      have zf1 : w2.frozen? ⟨w.heap.size, 1, none⟩ = false := grown_frozen g2 (a := ⟨w.heap.size, 1, none⟩) (v := .int .i64 ↑d.safe) (by go_simp) (by go_simp) (by simp [Value.ownBlock]; try omega)
      have zc2 : w2.cell? ⟨w.heap.size, 2, none⟩ = some (.int .i64 d.left) := g2.cell (by go_simp) (by simp [Value.ownBlock]; try omega)
      have zf2 : w2.frozen? ⟨w.heap.size, 2, none⟩ = false := grown_frozen g2 (a := ⟨w.heap.size, 2, none⟩) (v := .int .i64 d.left) (by go_simp) (by go_simp) (by simp [Value.ownBlock]; try omega)
      have zc3 : w2.cell? ⟨w.heap.size, 3, none⟩ = some (.slice A d.b.length c) := g2.cell (by go_simp) (by simp [Value.ownBlock]; try omega)
      have zf3 : w2.frozen? ⟨w.heap.size, 3, none⟩ = false := grown_frozen g2 (a := ⟨w.heap.size, 3, none⟩) (v := .slice A d.b.length c) (by go_simp) (by go_simp) (by simp [Value.ownBlock]; try omega)
      have zc4 : w2.cell? ⟨w.heap.size, 4, none⟩ = some (.bool d.off) := g2.cell (by go_simp) (by simp [Value.ownBlock]; try omega)
      have zf4 : w2.frozen? ⟨w.heap.size, 4, none⟩ = false := grown_frozen g2 (a := ⟨w.heap.size, 4, none⟩) (v := .bool d.off) (by go_simp) (by go_simp) (by simp [Value.ownBlock]; try omega)
      have xc0 : w2.cell? ⟨w.heap.size + 1, 0, none⟩ = some (.int .i64 0) := g2.cell (by go_simp) (by simp [Value.ownBlock]; try omega)
      have xf0 : w2.frozen? ⟨w.heap.size + 1, 0, none⟩ = false := grown_frozen g2 (a := ⟨w.heap.size + 1, 0, none⟩) (v := .int .i64 0) (by go_simp) (by go_simp) (by simp [Value.ownBlock]; try omega)
      have xc1 : w2.cell? ⟨w.heap.size + 1, 1, none⟩ = some (.int .i64 0) := g2.cell (by go_simp) (by simp [Value.ownBlock]; try omega)
      have xf1 : w2.frozen? ⟨w.heap.size + 1, 1, none⟩ = false := grown_frozen g2 (a := ⟨w.heap.size + 1, 1, none⟩) (v := .int .i64 0) (by go_simp) (by go_simp) (by simp [Value.ownBlock]; try omega)
      have xc2 : w2.cell? ⟨w.heap.size + 1, 2, none⟩ = some (.int .i64 0) := g2.cell (by go_simp) (by simp [Value.ownBlock]; try omega)
      have xf2 : w2.frozen? ⟨w.heap.size + 1, 2, none⟩ = false := grown_frozen g2 (a := ⟨w.heap.size + 1, 2, none⟩) (v := .int .i64 0) (by go_simp) (by go_simp) (by simp [Value.ownBlock]; try omega)
      have xc3 : w2.cell? ⟨w.heap.size + 1, 3, none⟩ = some (.slice none 0 0) := g2.cell (by go_simp) (by simp [Value.ownBlock]; try omega)
      have xf3 : w2.frozen? ⟨w.heap.size + 1, 3, none⟩ = false := grown_frozen g2 (a := ⟨w.heap.size + 1, 3, none⟩) (v := .slice none 0 0) (by go_simp) (by go_simp) (by simp [Value.ownBlock]; try omega)
      have xc4 : w2.cell? ⟨w.heap.size + 1, 4, none⟩ = some (.bool false) := g2.cell (by go_simp) (by simp [Value.ownBlock]; try omega)
      have xf4 : w2.frozen? ⟨w.heap.size + 1, 4, none⟩ = false := grown_frozen g2 (a := ⟨w.heap.size + 1, 4, none⟩) (v := .bool false) (by go_simp) (by go_simp) (by simp [Value.ownBlock]; try omega)
      have xz : w.heap.size + 1 < w2.heap.size := cell_lt xc0
      clear g2 f2
      obtain ⟨A2, c2, rfl⟩ := len_of_own o2
      clear o2
      go_wp2_with fail
      refine bodyPost_ret (v := .agg #[.int .i64 ↑d.room, .int .i64 ((d.safe + q : Nat) : Int), .int .i64 (-1), .slice A2 (d.safe + q) c2, .bool false]) ?_ rfl ?_
      · simp [results, Try.results50, go_sem, *]
      · exact ⟨.slice A2 (d.safe + q) c2, by simp [rag, Dsk.crash, hkeep], (by show BAt _ _ (d.b.take (d.keep q)); rw [hkeep]; exact (by repeat (first | with_reducible exact B2.out | with_reducible refine bat_alloc ?_ _ | with_reducible refine bat_setB ?_ hnb (by first | (simp; done) | (simp; omega)) _))), (by repeat (first | with_reducible exact S2.out | with_reducible refine balloc ?_ _ | with_reducible refine bset ?_ (by first | (simp; done) | (simp; omega)) _)), .inr (fun k hk => by have := hnb k hk; omega)⟩
set_option maxRecDepth 100000 in
set_option maxHeartbeats 1000000 in
theorem rsparks {v : Value} {d : Dsk} (w : World) (hv : BAt w v d.b) (y : Int) :
    Calls Try.prog 49 #[rag d v, .int .i64 y] w fun e' w' => RPost1 w w' v (d.sparks y) e' := by
  have HV := Lib.hid hv
  obtain ⟨A, c, rfl, h2, h3, _⟩ := hv
  unfold maxLen at h3
  unfold rag
  by_cases hy : y < 0
  · have e0 : decide (y < 0) = true := by simpa using hy
    go_enter Try.func49, Try.ntmps49
    go_wp2_with fail
    refine bodyPost_ret (v := .agg #[.int .i64 ↑d.room, .int .i64 ↑d.safe, .int .i64 (-1), .slice A d.b.length c, .bool d.off]) ?_ rfl ?_
    · simp [results, Try.results49, go_sem, *]
    · exact ⟨_, by simp [rag, Dsk.sparks]; omega, HV.out.below (by repeat (first | with_reducible exact Below.refl _ _ | with_reducible refine balloc ?_ _ | with_reducible refine bset ?_ (by first | (simp; done) | (simp; omega)) _)), (by repeat (first | with_reducible exact Below.refl _ _ | with_reducible refine balloc ?_ _ | with_reducible refine bset ?_ (by first | (simp; done) | (simp; omega)) _)), .inl rfl⟩
  · have e0 : decide (y < 0) = false := by simp; omega
    go_enter Try.func49, Try.ntmps49
    go_wp2_with fail
    refine bodyPost_ret (v := .agg #[.int .i64 ↑d.room, .int .i64 ↑d.safe, .int .i64 y, .slice A d.b.length c, .bool d.off]) ?_ rfl ?_
    · simp [results, Try.results49, go_sem, *]
    · exact ⟨_, by simp [rag, Dsk.sparks]; omega, HV.out.below (by repeat (first | with_reducible exact Below.refl _ _ | with_reducible refine balloc ?_ _ | with_reducible refine bset ?_ (by first | (simp; done) | (simp; omega)) _)), (by repeat (first | with_reducible exact Below.refl _ _ | with_reducible refine balloc ?_ _ | with_reducible refine bset ?_ (by first | (simp; done) | (simp; omega)) _)), .inl rfl⟩
theorem rnew (room : Nat) (w : World) : Calls Try.prog 33 #[.int .i64 room] w fun e' w' => e' = .returned (rag ⟨[], 0, -1, false, room⟩ (.slice none 0 0)) ∧ Below w.heap.size w w' := by
  unfold rag
  go_enter Try.func33, Try.ntmps33
  go_wp2_with fail
  refine bodyPost_ret (v := .agg #[.int .i64 room, .int .i64 0, .int .i64 (-1), .slice none 0 0, .bool false]) ?_ rfl ?_
  · simp [results, Try.results33, go_sem, *]
  · exact ⟨rfl, (by repeat (first | with_reducible exact Below.refl _ _ | with_reducible refine balloc ?_ _ | with_reducible refine bset ?_ (by first | (simp; done) | (simp; omega)) _))⟩
end Go.Proofs.Ythgaphfelpnclaa
