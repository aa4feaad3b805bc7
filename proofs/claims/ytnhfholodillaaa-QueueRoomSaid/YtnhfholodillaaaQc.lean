/- Contracts of package queue: Drop of who waits first, or of none. -/
import Derived.Test.YtnhfholodillaaaQb
import Derived.RegionTactic
import Derived.BigRegion
set_option linter.unusedVariables false
set_option linter.unusedSimpArgs false
namespace Go.Proofs.Ytnhfholodillaaa
open Go.RowKit

set_option maxHeartbeats 1000000 in
theorem drop_nil (x : Int) (w : World) :
    Calls Try.prog 38 #[.pointer none, .int .u32 x] w fun e' w' => e' = .returned (.bool false) ∧ Below w.heap.size w w' := by
  go_enter Try.func38, Try.ntmps38
  go_wp2_with fail
  with_reducible refine (none_nil _).mono ?_
  rintro e1 w1 ⟨rfl, hb1⟩
  have yw1 : w.heap.size ≤ w1.heap.size := by (have := hb1.size; (try simp at this); omega)
  go_wp2_with fail
  go_ret
  exact ⟨rfl, (by repeat (first | assumption | exact Below.refl _ _ | refine balloc ?_ _ | refine bdrew ?_ | refine bstep ?_ (by assumption)))⟩

set_option maxHeartbeats 1000000 in
theorem drop_zero {B : Nat} (x : Int) (w : World) (h : w.cell? ⟨B, 34, none⟩ = some (.int .i64 0)) :
    Calls Try.prog 38 #[.pointer (some ⟨B, 0, none⟩), .int .u32 x] w fun e' w' => e' = .returned (.bool false) ∧ Below w.heap.size w w' := by
  go_enter Try.func38, Try.ntmps38
  go_wp2_with fail
  with_reducible refine (none_zero _ h).mono ?_
  rintro e1 w1 ⟨rfl, hb1⟩
  have yw1 : w.heap.size ≤ w1.heap.size := by (have := hb1.size; (try simp at this); omega)
  go_wp2_with fail
  go_ret
  exact ⟨rfl, (by repeat (first | assumption | exact Below.refl _ _ | refine balloc ?_ _ | refine bdrew ?_ | refine bstep ?_ (by assumption)))⟩

set_option maxHeartbeats 1000000 in
theorem drop_no (x : Int) {B : Nat} {g : Nat → Int} {a m r : Nat} {l : Int} (w : World) (h : QS w B g a m r l) (hr : 0 < r) (ha : a < 32) (hm : m ≤ 32) (hx : ∀ j, j < m → ¬ g ((a + j) % 32) = x) :
    Calls Try.prog 38 #[.pointer (some ⟨B, 0, none⟩), .int .u32 x] w fun e' w' => e' = .returned (.bool false) ∧ Below w.heap.size w w' := by
  have HX := Lib.hid hx
  clear hx
  have k32 := h.ca
  have k33 := h.cm
  have k34 := h.cr
  have k35 := h.cl
  have j32 := h.fz 32 (by omega)
  have j33 := h.fz 33 (by omega)
  have j34 := h.fz 34 (by omega)
  have j35 := h.fz 35 (by omega)
  have zB := h.lt
  have H := Lib.hid h
  clear h
  go_enter Try.func38, Try.ntmps38
  go_wp2_with fail
  with_reducible refine (none_no _ H.out hr).mono ?_
  rintro e1 w1 ⟨rfl, hb1⟩
  have yw1 : w.heap.size ≤ w1.heap.size := by (have := hb1.size; (try simp at this); omega)
  have c1_0 : w1.cell? ⟨B, 32, none⟩ = some (.int .i64 a) := keep hb1 (by go_simp)
  have f1_0 : w1.frozen? ⟨B, 32, none⟩ = false := keepF hb1 (.int .i64 a) (by go_simp) (by go_simp)
  have c1_1 : w1.cell? ⟨B, 33, none⟩ = some (.int .i64 m) := keep hb1 (by go_simp)
  have f1_1 : w1.frozen? ⟨B, 33, none⟩ = false := keepF hb1 (.int .i64 m) (by go_simp) (by go_simp)
  have c1_2 : w1.cell? ⟨B, 34, none⟩ = some (.int .i64 r) := keep hb1 (by go_simp)
  have f1_2 : w1.frozen? ⟨B, 34, none⟩ = false := keepF hb1 (.int .i64 r) (by go_simp) (by go_simp)
  have c1_3 : w1.cell? ⟨B, 35, none⟩ = some (.int .u32 l) := keep hb1 (by go_simp)
  have f1_3 : w1.frozen? ⟨B, 35, none⟩ = false := keepF hb1 (.int .u32 l) (by go_simp) (by go_simp)
  clear k32 k33 k34 k35 j32 j33 j34 j35
  go_wp2_with fail
  with_reducible refine (find_no x _ (H.out.below hb1) ha hm HX.out).mono ?_
  rintro e2 w2 ⟨rfl, hb2⟩
  have yw2 : w.heap.size ≤ w2.heap.size := by (have := hb2.size; (try simp at this); omega)
  have c2_0 : w2.cell? ⟨B, 32, none⟩ = some (.int .i64 a) := keep hb2 (by go_simp)
  have f2_0 : w2.frozen? ⟨B, 32, none⟩ = false := keepF hb2 (.int .i64 a) (by go_simp) (by go_simp)
  have c2_1 : w2.cell? ⟨B, 33, none⟩ = some (.int .i64 m) := keep hb2 (by go_simp)
  have f2_1 : w2.frozen? ⟨B, 33, none⟩ = false := keepF hb2 (.int .i64 m) (by go_simp) (by go_simp)
  have c2_2 : w2.cell? ⟨B, 34, none⟩ = some (.int .i64 r) := keep hb2 (by go_simp)
  have f2_2 : w2.frozen? ⟨B, 34, none⟩ = false := keepF hb2 (.int .i64 r) (by go_simp) (by go_simp)
  have c2_3 : w2.cell? ⟨B, 35, none⟩ = some (.int .u32 l) := keep hb2 (by go_simp)
  have f2_3 : w2.frozen? ⟨B, 35, none⟩ = false := keepF hb2 (.int .u32 l) (by go_simp) (by go_simp)
  clear c1_0 f1_0 c1_1 f1_1 c1_2 f1_2 c1_3 f1_3
  go_wp2_with fail
  go_ret
  exact ⟨rfl, (by repeat (first | assumption | exact Below.refl _ _ | refine balloc ?_ _ | refine bdrew ?_ | refine bstep ?_ (by assumption)))⟩

theorem find_yes0 (x : Int) {B : Nat} {g : Nat → Int} {a m r : Nat} {l : Int} (w : World) (h : QS w B g a m r l) (ha : a < 32) (hm : m ≤ 32) (ht : 0 < m) (he : g a = x) :
    Calls Try.prog 50 #[.pointer (some ⟨B, 0, none⟩), .int .u32 x] w fun e' w' => e' = .returned (.tuple #[.int .i64 0, .bool true]) ∧ Below w.heap.size w w' := by
  have := find_yes x 0 w h ha hm ht (fun j hj => by omega) (by simpa [Nat.mod_eq_of_lt ha] using he)
  simpa using this

set_option maxHeartbeats 1000000 in
theorem drop_first (x : Int) {B : Nat} {g : Nat → Int} {a m r : Nat} {l : Int} (w : World) (h : QS w B g a m r l) (hr : 0 < r) (ha : a < 32) (hm : m ≤ 32) (h0 : 0 < m) (he : g a = x) :
    Calls Try.prog 38 #[.pointer (some ⟨B, 0, none⟩), .int .u32 x] w fun e' w' => e' = .returned (.bool true) ∧ Only B w w' ∧ QS w' B g ((a + 1) % 32) (m - 1) r l := by
  have HX := Lib.hid he
  clear he
  have e1 : IntKind.i64.wrap ((a : Int) + 1) = (a : Int) + 1 := IntWalk.i64_in _ (by omega)
  have e2 : ((a : Int) + 1).tmod 32 = ((a : Int) + 1) % 32 := Int.tmod_eq_emod_of_nonneg (by omega)
  have e6 : IntKind.i64.wrap ((m : Int) - 1) = (m : Int) - 1 := IntWalk.i64_in _ (by omega)
  have k32 := h.ca
  have k33 := h.cm
  have k34 := h.cr
  have k35 := h.cl
  have j32 := h.fz 32 (by omega)
  have j33 := h.fz 33 (by omega)
  have j34 := h.fz 34 (by omega)
  have j35 := h.fz 35 (by omega)
  have zB := h.lt
  have H := Lib.hid h
  clear h
  go_enter Try.func38, Try.ntmps38
  go_wp2_with fail
  with_reducible refine (none_no _ H.out hr).mono ?_
  rintro e1 w1 ⟨rfl, hb1⟩
  have yw1 : w.heap.size ≤ w1.heap.size := by (have := hb1.size; (try simp at this); omega)
  have c1_0 : w1.cell? ⟨B, 32, none⟩ = some (.int .i64 a) := keep hb1 (by go_simp)
  have f1_0 : w1.frozen? ⟨B, 32, none⟩ = false := keepF hb1 (.int .i64 a) (by go_simp) (by go_simp)
  have c1_1 : w1.cell? ⟨B, 33, none⟩ = some (.int .i64 m) := keep hb1 (by go_simp)
  have f1_1 : w1.frozen? ⟨B, 33, none⟩ = false := keepF hb1 (.int .i64 m) (by go_simp) (by go_simp)
  have c1_2 : w1.cell? ⟨B, 34, none⟩ = some (.int .i64 r) := keep hb1 (by go_simp)
  have f1_2 : w1.frozen? ⟨B, 34, none⟩ = false := keepF hb1 (.int .i64 r) (by go_simp) (by go_simp)
  have c1_3 : w1.cell? ⟨B, 35, none⟩ = some (.int .u32 l) := keep hb1 (by go_simp)
  have f1_3 : w1.frozen? ⟨B, 35, none⟩ = false := keepF hb1 (.int .u32 l) (by go_simp) (by go_simp)
  clear k32 k33 k34 k35 j32 j33 j34 j35
  go_wp2_with fail
  with_reducible refine (find_yes0 x _ (H.out.below hb1) ha hm h0 HX.out).mono ?_
  rintro e2 w2 ⟨rfl, hb2⟩
  have yw2 : w.heap.size ≤ w2.heap.size := by (have := hb2.size; (try simp at this); omega)
  have c2_0 : w2.cell? ⟨B, 32, none⟩ = some (.int .i64 a) := keep hb2 (by go_simp)
  have f2_0 : w2.frozen? ⟨B, 32, none⟩ = false := keepF hb2 (.int .i64 a) (by go_simp) (by go_simp)
  have c2_1 : w2.cell? ⟨B, 33, none⟩ = some (.int .i64 m) := keep hb2 (by go_simp)
  have f2_1 : w2.frozen? ⟨B, 33, none⟩ = false := keepF hb2 (.int .i64 m) (by go_simp) (by go_simp)
  have c2_2 : w2.cell? ⟨B, 34, none⟩ = some (.int .i64 r) := keep hb2 (by go_simp)
  have f2_2 : w2.frozen? ⟨B, 34, none⟩ = false := keepF hb2 (.int .i64 r) (by go_simp) (by go_simp)
  have c2_3 : w2.cell? ⟨B, 35, none⟩ = some (.int .u32 l) := keep hb2 (by go_simp)
  have f2_3 : w2.frozen? ⟨B, 35, none⟩ = false := keepF hb2 (.int .u32 l) (by go_simp) (by go_simp)
  clear c1_0 f1_0 c1_1 f1_1 c1_2 f1_2 c1_3 f1_3
  have HQ := Lib.hid ((H.out.below hb1).below hb2)
  go_wp2_with fail
  go_region
  go_wp2_with fail
  go_ret
  have e7 : ((a : Int) + 1) % 32 = (((a + 1) % 32 : Nat) : Int) := by omega
  have e8 : (m : Int) - 1 = ((m - 1 : Nat) : Int) := by omega
  rw [e7, e8]
  exact ⟨rfl, (by repeat (first | assumption | exact Only.refl _ _ | refine Only.drew ?_ | refine Only.set ?_ (by rfl) _ | refine Only.step ?_ (by assumption))), ((HQ.out.below (Below.refl _ _).drew).setA _).setM _⟩
end Go.Proofs.Ytnhfholodillaaa
