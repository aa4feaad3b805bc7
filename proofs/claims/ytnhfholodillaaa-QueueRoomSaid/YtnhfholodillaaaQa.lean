/- Contracts of package queue: none, Len, First, Put. -/
import Derived.Test.YtnhfholodillaaaQ
set_option linter.unusedVariables false
set_option linter.unusedSimpArgs false
namespace Go.Proofs.Ytnhfholodillaaa
open Go.RowKit

set_option maxHeartbeats 1000000 in
theorem none_no {B : Nat} {g : Nat → Int} {a m r : Nat} {l : Int} (w : World) (h : QS w B g a m r l) (hr : 0 < r) :
    Calls Try.prog 48 #[.pointer (some ⟨B, 0, none⟩)] w fun e' w' => e' = .returned (.bool false) ∧ Below w.heap.size w w' := by
  have k32 := h.ca
  have k33 := h.cm
  have k34 := h.cr
  have k35 := h.cl
  have j32 := h.fz 32 (by omega)
  have j33 := h.fz 33 (by omega)
  have j34 := h.fz 34 (by omega)
  have j35 := h.fz 35 (by omega)
  have zB := h.lt
  have H := Lib.hid h
  clear h
  have e1 : ((r : Int) == 0) = false := by simp; omega
  go_enter Try.func48, Try.ntmps48
  go_wp2_with fail
  go_ret
  exact ⟨rfl, (by repeat (first | assumption | exact Below.refl _ _ | refine balloc ?_ _ | refine bdrew ?_ | refine bstep ?_ (by assumption)))⟩

set_option maxHeartbeats 1000000 in
theorem none_nil (w : World) :
    Calls Try.prog 48 #[.pointer none] w fun e' w' => e' = .returned (.bool true) ∧ Below w.heap.size w w' := by
  go_enter Try.func48, Try.ntmps48
  go_wp2_with fail
  go_ret
  exact ⟨rfl, (by repeat (first | assumption | exact Below.refl _ _ | refine balloc ?_ _ | refine bdrew ?_ | refine bstep ?_ (by assumption)))⟩

set_option maxHeartbeats 1000000 in
theorem none_zero {B : Nat} (w : World) (h : w.cell? ⟨B, 34, none⟩ = some (.int .i64 0)) :
    Calls Try.prog 48 #[.pointer (some ⟨B, 0, none⟩)] w fun e' w' => e' = .returned (.bool true) ∧ Below w.heap.size w w' := by
  go_enter Try.func48, Try.ntmps48
  go_wp2_with fail
  go_ret
  exact ⟨rfl, (by repeat (first | assumption | exact Below.refl _ _ | refine balloc ?_ _ | refine bdrew ?_ | refine bstep ?_ (by assumption)))⟩

set_option maxHeartbeats 1000000 in
theorem len_any {B : Nat} {g : Nat → Int} {a m r : Nat} {l : Int} (w : World) (h : QS w B g a m r l) (hr : 0 < r) :
    Calls Try.prog 40 #[.pointer (some ⟨B, 0, none⟩)] w fun e' w' => e' = .returned (.int .i64 m) ∧ Below w.heap.size w w' := by
  have k32 := h.ca
  have k33 := h.cm
  have k34 := h.cr
  have k35 := h.cl
  have j32 := h.fz 32 (by omega)
  have j33 := h.fz 33 (by omega)
  have j34 := h.fz 34 (by omega)
  have j35 := h.fz 35 (by omega)
  have zB := h.lt
  have H := Lib.hid h
  clear h
  go_enter Try.func40, Try.ntmps40
  go_wp2_with fail
  with_reducible refine (none_no _ H.out hr).mono ?_
  rintro e1 w1 ⟨rfl, hb1⟩
  have yw1 : w.heap.size ≤ w1.heap.size := by (have := hb1.size; (try simp at this); omega)
  have c1_0 : w1.cell? ⟨B, 32, none⟩ = some (.int .i64 a) := keep hb1 (by go_simp)
  have f1_0 : w1.frozen? ⟨B, 32, none⟩ = false := keepF hb1 (.int .i64 a) (by go_simp) (by go_simp)
  have c1_1 : w1.cell? ⟨B, 33, none⟩ = some (.int .i64 m) := keep hb1 (by go_simp)
  have f1_1 : w1.frozen? ⟨B, 33, none⟩ = false := keepF hb1 (.int .i64 m) (by go_simp) (by go_simp)
  have c1_2 : w1.cell? ⟨B, 34, none⟩ = some (.int .i64 r) := keep hb1 (by go_simp)
  have f1_2 : w1.frozen? ⟨B, 34, none⟩ = false := keepF hb1 (.int .i64 r) (by go_simp) (by go_simp)
  have c1_3 : w1.cell? ⟨B, 35, none⟩ = some (.int .u32 l) := keep hb1 (by go_simp)
  have f1_3 : w1.frozen? ⟨B, 35, none⟩ = false := keepF hb1 (.int .u32 l) (by go_simp) (by go_simp)
  clear k32 k33 k34 k35 j32 j33 j34 j35
  go_wp2_with fail
  go_ret
  exact ⟨rfl, (by repeat (first | assumption | exact Below.refl _ _ | refine balloc ?_ _ | refine bdrew ?_ | refine bstep ?_ (by assumption)))⟩

set_option maxHeartbeats 1000000 in
theorem len_nil (w : World) :
    Calls Try.prog 40 #[.pointer none] w fun e' w' => e' = .returned (.int .i64 0) ∧ Below w.heap.size w w' := by
  go_enter Try.func40, Try.ntmps40
  go_wp2_with fail
  with_reducible refine (none_nil _).mono ?_
  rintro e1 w1 ⟨rfl, hb1⟩
  have yw1 : w.heap.size ≤ w1.heap.size := by (have := hb1.size; (try simp at this); omega)
  go_wp2_with fail
  go_ret
  exact ⟨rfl, (by repeat (first | assumption | exact Below.refl _ _ | refine balloc ?_ _ | refine bdrew ?_ | refine bstep ?_ (by assumption)))⟩

set_option maxHeartbeats 1000000 in
theorem len_zero {B : Nat} (w : World) (h : w.cell? ⟨B, 34, none⟩ = some (.int .i64 0)) :
    Calls Try.prog 40 #[.pointer (some ⟨B, 0, none⟩)] w fun e' w' => e' = .returned (.int .i64 0) ∧ Below w.heap.size w w' := by
  go_enter Try.func40, Try.ntmps40
  go_wp2_with fail
  with_reducible refine (none_zero _ h).mono ?_
  rintro e1 w1 ⟨rfl, hb1⟩
  have yw1 : w.heap.size ≤ w1.heap.size := by (have := hb1.size; (try simp at this); omega)
  go_wp2_with fail
  go_ret
  exact ⟨rfl, (by repeat (first | assumption | exact Below.refl _ _ | refine balloc ?_ _ | refine bdrew ?_ | refine bstep ?_ (by assumption)))⟩

set_option maxHeartbeats 1000000 in
theorem first_nil (w : World) :
    Calls Try.prog 36 #[.pointer none] w fun e' w' => e' = .returned (.tuple #[.int .u32 0, .bool false]) ∧ Below w.heap.size w w' := by
  go_enter Try.func36, Try.ntmps36
  go_wp2_with fail
  with_reducible refine (none_nil _).mono ?_
  rintro e1 w1 ⟨rfl, hb1⟩
  have yw1 : w.heap.size ≤ w1.heap.size := by (have := hb1.size; (try simp at this); omega)
  go_wp2_with fail
  go_ret2
  exact ⟨rfl, (by repeat (first | assumption | exact Below.refl _ _ | refine balloc ?_ _ | refine bdrew ?_ | refine bstep ?_ (by assumption)))⟩

set_option maxHeartbeats 1000000 in
theorem first_zero {B : Nat} (w : World) (h : w.cell? ⟨B, 34, none⟩ = some (.int .i64 0)) :
    Calls Try.prog 36 #[.pointer (some ⟨B, 0, none⟩)] w fun e' w' => e' = .returned (.tuple #[.int .u32 0, .bool false]) ∧ Below w.heap.size w w' := by
  go_enter Try.func36, Try.ntmps36
  go_wp2_with fail
  with_reducible refine (none_zero _ h).mono ?_
  rintro e1 w1 ⟨rfl, hb1⟩
  have yw1 : w.heap.size ≤ w1.heap.size := by (have := hb1.size; (try simp at this); omega)
  go_wp2_with fail
  go_ret2
  exact ⟨rfl, (by repeat (first | assumption | exact Below.refl _ _ | refine balloc ?_ _ | refine bdrew ?_ | refine bstep ?_ (by assumption)))⟩

set_option maxHeartbeats 1000000 in
theorem first_none {B : Nat} {g : Nat → Int} {a r : Nat} {l : Int} (w : World) (h : QS w B g a 0 r l) (hr : 0 < r) :
    Calls Try.prog 36 #[.pointer (some ⟨B, 0, none⟩)] w fun e' w' => e' = .returned (.tuple #[.int .u32 0, .bool false]) ∧ Below w.heap.size w w' := by
  have k32 := h.ca
  have k33 := h.cm
  have k34 := h.cr
  have k35 := h.cl
  have j32 := h.fz 32 (by omega)
  have j33 := h.fz 33 (by omega)
  have j34 := h.fz 34 (by omega)
  have j35 := h.fz 35 (by omega)
  have zB := h.lt
  have H := Lib.hid h
  clear h
  go_enter Try.func36, Try.ntmps36
  go_wp2_with fail
  with_reducible refine (none_no _ H.out hr).mono ?_
  rintro e1 w1 ⟨rfl, hb1⟩
  have yw1 : w.heap.size ≤ w1.heap.size := by (have := hb1.size; (try simp at this); omega)
  have c1_0 : w1.cell? ⟨B, 32, none⟩ = some (.int .i64 a) := keep hb1 (by go_simp)
  have f1_0 : w1.frozen? ⟨B, 32, none⟩ = false := keepF hb1 (.int .i64 a) (by go_simp) (by go_simp)
  have c1_1 : w1.cell? ⟨B, 33, none⟩ = some (.int .i64 0) := keep hb1 (by go_simp)
  have f1_1 : w1.frozen? ⟨B, 33, none⟩ = false := keepF hb1 (.int .i64 0) (by go_simp) (by go_simp)
  have c1_2 : w1.cell? ⟨B, 34, none⟩ = some (.int .i64 r) := keep hb1 (by go_simp)
  have f1_2 : w1.frozen? ⟨B, 34, none⟩ = false := keepF hb1 (.int .i64 r) (by go_simp) (by go_simp)
  have c1_3 : w1.cell? ⟨B, 35, none⟩ = some (.int .u32 l) := keep hb1 (by go_simp)
  have f1_3 : w1.frozen? ⟨B, 35, none⟩ = false := keepF hb1 (.int .u32 l) (by go_simp) (by go_simp)
  clear k32 k33 k34 k35 j32 j33 j34 j35
  go_wp2_with fail
  go_ret2
  exact ⟨rfl, (by repeat (first | assumption | exact Below.refl _ _ | refine balloc ?_ _ | refine bdrew ?_ | refine bstep ?_ (by assumption)))⟩

theorem place_zero {B : Nat} {g : Nat → Int} {a m r : Nat} {l : Int} (w : World) (h : QS w B g a m r l) (ha : a < 32) :
    Calls Try.prog 49 #[.pointer (some ⟨B, 0, none⟩), .int .i64 0] w fun e' w' => e' = .returned (.pointer (some ⟨B, a, none⟩)) ∧ Below w.heap.size w w' := by
  have := place_any 0 w h ha (by omega)
  simpa [Nat.mod_eq_of_lt ha] using this

set_option maxHeartbeats 1000000 in
theorem first_some {B : Nat} {g : Nat → Int} {a m r : Nat} {l : Int} (w : World) (h : QS w B g a m r l) (hr : 0 < r) (ha : a < 32) (hm : 0 < m) :
    Calls Try.prog 36 #[.pointer (some ⟨B, 0, none⟩)] w fun e' w' => e' = .returned (.tuple #[.int .u32 (g a), .bool true]) ∧ Below w.heap.size w w' := by
  have k32 := h.ca
  have k33 := h.cm
  have k34 := h.cr
  have k35 := h.cl
  have j32 := h.fz 32 (by omega)
  have j33 := h.fz 33 (by omega)
  have j34 := h.fz 34 (by omega)
  have j35 := h.fz 35 (by omega)
  have zB := h.lt
  have kr := h.ring a (by omega)
  have jr := h.fz a (by omega)
  have H := Lib.hid h
  clear h
  have e1 : ((m : Int) == 0) = false := by simp; omega
  go_enter Try.func36, Try.ntmps36
  go_wp2_with fail
  with_reducible refine (none_no _ H.out hr).mono ?_
  rintro e1 w1 ⟨rfl, hb1⟩
  have yw1 : w.heap.size ≤ w1.heap.size := by (have := hb1.size; (try simp at this); omega)
  have c1_0 : w1.cell? ⟨B, 32, none⟩ = some (.int .i64 a) := keep hb1 (by go_simp)
  have f1_0 : w1.frozen? ⟨B, 32, none⟩ = false := keepF hb1 (.int .i64 a) (by go_simp) (by go_simp)
  have c1_1 : w1.cell? ⟨B, 33, none⟩ = some (.int .i64 m) := keep hb1 (by go_simp)
  have f1_1 : w1.frozen? ⟨B, 33, none⟩ = false := keepF hb1 (.int .i64 m) (by go_simp) (by go_simp)
  have c1_2 : w1.cell? ⟨B, 34, none⟩ = some (.int .i64 r) := keep hb1 (by go_simp)
  have f1_2 : w1.frozen? ⟨B, 34, none⟩ = false := keepF hb1 (.int .i64 r) (by go_simp) (by go_simp)
  have c1_3 : w1.cell? ⟨B, 35, none⟩ = some (.int .u32 l) := keep hb1 (by go_simp)
  have f1_3 : w1.frozen? ⟨B, 35, none⟩ = false := keepF hb1 (.int .u32 l) (by go_simp) (by go_simp)
  have c1_4 : w1.cell? ⟨B, a, none⟩ = some (.int .u32 (g a)) := keep hb1 (by go_simp)
  have f1_4 : w1.frozen? ⟨B, a, none⟩ = false := keepF hb1 (.int .u32 (g a)) (by go_simp) (by go_simp)
  clear k32 k33 k34 k35 j32 j33 j34 j35 kr jr
  go_wp2_with fail
  with_reducible refine (place_zero _ ((H.out.below hb1)) ha).mono ?_
  rintro e2 w2 ⟨rfl, hb2⟩
  have yw2 : w.heap.size ≤ w2.heap.size := by (have := hb2.size; (try simp at this); omega)
  have c2_0 : w2.cell? ⟨B, 32, none⟩ = some (.int .i64 a) := keep hb2 (by go_simp)
  have f2_0 : w2.frozen? ⟨B, 32, none⟩ = false := keepF hb2 (.int .i64 a) (by go_simp) (by go_simp)
  have c2_1 : w2.cell? ⟨B, 33, none⟩ = some (.int .i64 m) := keep hb2 (by go_simp)
  have f2_1 : w2.frozen? ⟨B, 33, none⟩ = false := keepF hb2 (.int .i64 m) (by go_simp) (by go_simp)
  have c2_2 : w2.cell? ⟨B, 34, none⟩ = some (.int .i64 r) := keep hb2 (by go_simp)
  have f2_2 : w2.frozen? ⟨B, 34, none⟩ = false := keepF hb2 (.int .i64 r) (by go_simp) (by go_simp)
  have c2_3 : w2.cell? ⟨B, 35, none⟩ = some (.int .u32 l) := keep hb2 (by go_simp)
  have f2_3 : w2.frozen? ⟨B, 35, none⟩ = false := keepF hb2 (.int .u32 l) (by go_simp) (by go_simp)
  have c2_4 : w2.cell? ⟨B, a, none⟩ = some (.int .u32 (g a)) := keep hb2 (by go_simp)
  have f2_4 : w2.frozen? ⟨B, a, none⟩ = false := keepF hb2 (.int .u32 (g a)) (by go_simp) (by go_simp)
  clear c1_0 f1_0 c1_1 f1_1 c1_2 f1_2 c1_3 f1_3 c1_4 f1_4
  go_wp2_with fail
  go_ret2
  exact ⟨rfl, (by repeat (first | assumption | exact Below.refl _ _ | refine balloc ?_ _ | refine bdrew ?_ | refine bstep ?_ (by assumption)))⟩

set_option maxHeartbeats 1000000 in
theorem put_nil (x : Int) (w : World) :
    Calls Try.prog 37 #[.pointer none, .int .u32 x] w fun e' w' => e' = .returned (.int .i64 1) ∧ Below w.heap.size w w' := by
  go_enter Try.func37, Try.ntmps37
  go_wp2_with fail
  with_reducible refine (none_nil _).mono ?_
  rintro e1 w1 ⟨rfl, hb1⟩
  have yw1 : w.heap.size ≤ w1.heap.size := by (have := hb1.size; (try simp at this); omega)
  go_wp2_with fail
  go_ret
  exact ⟨rfl, (by repeat (first | assumption | exact Below.refl _ _ | refine balloc ?_ _ | refine bdrew ?_ | refine bstep ?_ (by assumption)))⟩

set_option maxHeartbeats 1000000 in
theorem put_zero {B : Nat} (x : Int) (w : World) (h : w.cell? ⟨B, 34, none⟩ = some (.int .i64 0)) :
    Calls Try.prog 37 #[.pointer (some ⟨B, 0, none⟩), .int .u32 x] w fun e' w' => e' = .returned (.int .i64 1) ∧ Below w.heap.size w w' := by
  go_enter Try.func37, Try.ntmps37
  go_wp2_with fail
  with_reducible refine (none_zero _ h).mono ?_
  rintro e1 w1 ⟨rfl, hb1⟩
  have yw1 : w.heap.size ≤ w1.heap.size := by (have := hb1.size; (try simp at this); omega)
  go_wp2_with fail
  go_ret
  exact ⟨rfl, (by repeat (first | assumption | exact Below.refl _ _ | refine balloc ?_ _ | refine bdrew ?_ | refine bstep ?_ (by assumption)))⟩

set_option maxHeartbeats 1000000 in
theorem put_low (x : Int) {B : Nat} {g : Nat → Int} {a m r : Nat} {l : Int} (w : World) (h : QS w B g a m r l) (hr : 0 < r) (hx : x ≤ l) :
    Calls Try.prog 37 #[.pointer (some ⟨B, 0, none⟩), .int .u32 x] w fun e' w' => e' = .returned (.int .i64 2) ∧ Below w.heap.size w w' := by
  have k32 := h.ca
  have k33 := h.cm
  have k34 := h.cr
  have k35 := h.cl
  have j32 := h.fz 32 (by omega)
  have j33 := h.fz 33 (by omega)
  have j34 := h.fz 34 (by omega)
  have j35 := h.fz 35 (by omega)
  have zB := h.lt
  have H := Lib.hid h
  clear h
  go_enter Try.func37, Try.ntmps37
  go_wp2_with fail
  with_reducible refine (none_no _ H.out hr).mono ?_
  rintro e1 w1 ⟨rfl, hb1⟩
  have yw1 : w.heap.size ≤ w1.heap.size := by (have := hb1.size; (try simp at this); omega)
  have c1_0 : w1.cell? ⟨B, 32, none⟩ = some (.int .i64 a) := keep hb1 (by go_simp)
  have f1_0 : w1.frozen? ⟨B, 32, none⟩ = false := keepF hb1 (.int .i64 a) (by go_simp) (by go_simp)
  have c1_1 : w1.cell? ⟨B, 33, none⟩ = some (.int .i64 m) := keep hb1 (by go_simp)
  have f1_1 : w1.frozen? ⟨B, 33, none⟩ = false := keepF hb1 (.int .i64 m) (by go_simp) (by go_simp)
  have c1_2 : w1.cell? ⟨B, 34, none⟩ = some (.int .i64 r) := keep hb1 (by go_simp)
  have f1_2 : w1.frozen? ⟨B, 34, none⟩ = false := keepF hb1 (.int .i64 r) (by go_simp) (by go_simp)
  have c1_3 : w1.cell? ⟨B, 35, none⟩ = some (.int .u32 l) := keep hb1 (by go_simp)
  have f1_3 : w1.frozen? ⟨B, 35, none⟩ = false := keepF hb1 (.int .u32 l) (by go_simp) (by go_simp)
  clear k32 k33 k34 k35 j32 j33 j34 j35
  go_wp2_with fail
  go_ret
  exact ⟨rfl, (by repeat (first | assumption | exact Below.refl _ _ | refine balloc ?_ _ | refine bdrew ?_ | refine bstep ?_ (by assumption)))⟩

set_option maxHeartbeats 1000000 in
theorem put_full (x : Int) {B : Nat} {g : Nat → Int} {a m r : Nat} {l : Int} (w : World) (h : QS w B g a m r l) (hr : 0 < r) (hx : ¬ x ≤ l) (hm : m = r) :
    Calls Try.prog 37 #[.pointer (some ⟨B, 0, none⟩), .int .u32 x] w fun e' w' => e' = .returned (.int .i64 5) ∧ Below w.heap.size w w' := by
  have k32 := h.ca
  have k33 := h.cm
  have k34 := h.cr
  have k35 := h.cl
  have j32 := h.fz 32 (by omega)
  have j33 := h.fz 33 (by omega)
  have j34 := h.fz 34 (by omega)
  have j35 := h.fz 35 (by omega)
  have zB := h.lt
  have H := Lib.hid h
  clear h
  have e1 : ((m : Int) == (r : Int)) = true := by simp; omega
  clear hm
  go_enter Try.func37, Try.ntmps37
  go_wp2_with fail
  with_reducible refine (none_no _ H.out hr).mono ?_
  rintro e1 w1 ⟨rfl, hb1⟩
  have yw1 : w.heap.size ≤ w1.heap.size := by (have := hb1.size; (try simp at this); omega)
  have c1_0 : w1.cell? ⟨B, 32, none⟩ = some (.int .i64 a) := keep hb1 (by go_simp)
  have f1_0 : w1.frozen? ⟨B, 32, none⟩ = false := keepF hb1 (.int .i64 a) (by go_simp) (by go_simp)
  have c1_1 : w1.cell? ⟨B, 33, none⟩ = some (.int .i64 m) := keep hb1 (by go_simp)
  have f1_1 : w1.frozen? ⟨B, 33, none⟩ = false := keepF hb1 (.int .i64 m) (by go_simp) (by go_simp)
  have c1_2 : w1.cell? ⟨B, 34, none⟩ = some (.int .i64 r) := keep hb1 (by go_simp)
  have f1_2 : w1.frozen? ⟨B, 34, none⟩ = false := keepF hb1 (.int .i64 r) (by go_simp) (by go_simp)
  have c1_3 : w1.cell? ⟨B, 35, none⟩ = some (.int .u32 l) := keep hb1 (by go_simp)
  have f1_3 : w1.frozen? ⟨B, 35, none⟩ = false := keepF hb1 (.int .u32 l) (by go_simp) (by go_simp)
  clear k32 k33 k34 k35 j32 j33 j34 j35
  go_wp2_with fail
  refine wpQ_region (by kernel_rfl) (by kernel_rfl) ?_
  apply wpQ_do
  · rfl
  · intro wq hC; go_light; first | (go_simp; first | done | rfl | exact ⟨rfl, rfl⟩) | (have k0 : wq.cell? ⟨B, 32, none⟩ = some (.int .i64 a) := hC.keep (by go_simp); have k1 : wq.cell? ⟨B, 33, none⟩ = some (.int .i64 m) := hC.keep (by go_simp); have k2 : wq.cell? ⟨B, 34, none⟩ = some (.int .i64 r) := hC.keep (by go_simp); have k3 : wq.cell? ⟨B, 35, none⟩ = some (.int .u32 l) := hC.keep (by go_simp); go_simp; first | done | rfl | exact ⟨rfl, rfl⟩)
  simp only [Act.put, List.setIfInBounds_toArray, List.set_cons_zero, List.set_cons_succ]
  apply wpQ_do
  · rfl
  · intro wq hC; go_light; first | (go_simp; first | done | rfl | exact ⟨rfl, rfl⟩) | (have k0 : wq.cell? ⟨B, 32, none⟩ = some (.int .i64 a) := hC.keep (by go_simp); have k1 : wq.cell? ⟨B, 33, none⟩ = some (.int .i64 m) := hC.keep (by go_simp); have k2 : wq.cell? ⟨B, 34, none⟩ = some (.int .i64 r) := hC.keep (by go_simp); have k3 : wq.cell? ⟨B, 35, none⟩ = some (.int .u32 l) := hC.keep (by go_simp); go_simp; first | done | rfl | exact ⟨rfl, rfl⟩)
  simp only [Act.put, List.setIfInBounds_toArray, List.set_cons_zero, List.set_cons_succ]
  apply wpQ_do
  · rfl
  · intro wq hC; go_light; first | (go_simp; first | done | rfl | exact ⟨rfl, rfl⟩) | (have k0 : wq.cell? ⟨B, 32, none⟩ = some (.int .i64 a) := hC.keep (by go_simp); have k1 : wq.cell? ⟨B, 33, none⟩ = some (.int .i64 m) := hC.keep (by go_simp); have k2 : wq.cell? ⟨B, 34, none⟩ = some (.int .i64 r) := hC.keep (by go_simp); have k3 : wq.cell? ⟨B, 35, none⟩ = some (.int .u32 l) := hC.keep (by go_simp); go_simp; first | done | rfl | exact ⟨rfl, rfl⟩)
  simp only [Act.put, List.setIfInBounds_toArray, List.set_cons_zero, List.set_cons_succ]
  apply wpQ_do
  · rfl
  · intro wq hC; go_light; first | (go_simp; first | done | rfl | exact ⟨rfl, rfl⟩) | (have k0 : wq.cell? ⟨B, 32, none⟩ = some (.int .i64 a) := hC.keep (by go_simp); have k1 : wq.cell? ⟨B, 33, none⟩ = some (.int .i64 m) := hC.keep (by go_simp); have k2 : wq.cell? ⟨B, 34, none⟩ = some (.int .i64 r) := hC.keep (by go_simp); have k3 : wq.cell? ⟨B, 35, none⟩ = some (.int .u32 l) := hC.keep (by go_simp); go_simp; first | done | rfl | exact ⟨rfl, rfl⟩)
  simp only [Act.put, List.setIfInBounds_toArray, List.set_cons_zero, List.set_cons_succ]
  apply wpQ_do
  · rfl
  · intro wq hC; go_light; first | (go_simp; first | done | rfl | exact ⟨rfl, rfl⟩) | (have k0 : wq.cell? ⟨B, 32, none⟩ = some (.int .i64 a) := hC.keep (by go_simp); have k1 : wq.cell? ⟨B, 33, none⟩ = some (.int .i64 m) := hC.keep (by go_simp); have k2 : wq.cell? ⟨B, 34, none⟩ = some (.int .i64 r) := hC.keep (by go_simp); have k3 : wq.cell? ⟨B, 35, none⟩ = some (.int .u32 l) := hC.keep (by go_simp); go_simp; first | done | rfl | exact ⟨rfl, rfl⟩)
  simp only [Act.put, List.setIfInBounds_toArray, List.set_cons_zero, List.set_cons_succ]
  apply wpQ_do
  · rfl
  · intro wq hC; go_light; first | (go_simp; first | done | rfl | exact ⟨rfl, rfl⟩) | (have k0 : wq.cell? ⟨B, 32, none⟩ = some (.int .i64 a) := hC.keep (by go_simp); have k1 : wq.cell? ⟨B, 33, none⟩ = some (.int .i64 m) := hC.keep (by go_simp); have k2 : wq.cell? ⟨B, 34, none⟩ = some (.int .i64 r) := hC.keep (by go_simp); have k3 : wq.cell? ⟨B, 35, none⟩ = some (.int .u32 l) := hC.keep (by go_simp); go_simp; first | done | rfl | exact ⟨rfl, rfl⟩)
  simp only [Act.put, List.setIfInBounds_toArray, List.set_cons_zero, List.set_cons_succ]
  apply wpQ_do
  · rfl
  · intro wq hC; go_light; first | (go_simp; first | done | rfl | exact ⟨rfl, rfl⟩) | (have k0 : wq.cell? ⟨B, 32, none⟩ = some (.int .i64 a) := hC.keep (by go_simp); have k1 : wq.cell? ⟨B, 33, none⟩ = some (.int .i64 m) := hC.keep (by go_simp); have k2 : wq.cell? ⟨B, 34, none⟩ = some (.int .i64 r) := hC.keep (by go_simp); have k3 : wq.cell? ⟨B, 35, none⟩ = some (.int .u32 l) := hC.keep (by go_simp); go_simp; first | done | rfl | exact ⟨rfl, rfl⟩)
  simp only [Act.put, List.setIfInBounds_toArray, List.set_cons_zero, List.set_cons_succ]
  apply wpQ_do
  · rfl
  · intro wq hC; go_light; first | (go_simp; first | done | rfl | exact ⟨rfl, rfl⟩) | (have k0 : wq.cell? ⟨B, 32, none⟩ = some (.int .i64 a) := hC.keep (by go_simp); have k1 : wq.cell? ⟨B, 33, none⟩ = some (.int .i64 m) := hC.keep (by go_simp); have k2 : wq.cell? ⟨B, 34, none⟩ = some (.int .i64 r) := hC.keep (by go_simp); have k3 : wq.cell? ⟨B, 35, none⟩ = some (.int .u32 l) := hC.keep (by go_simp); go_simp; first | done | rfl | exact ⟨rfl, rfl⟩)
  simp only [Act.put, List.setIfInBounds_toArray, List.set_cons_zero, List.set_cons_succ]
  apply wpQ_do
  · rfl
  · intro wq hC; go_light; first | (go_simp; first | done | rfl | exact ⟨rfl, rfl⟩) | (have k0 : wq.cell? ⟨B, 32, none⟩ = some (.int .i64 a) := hC.keep (by go_simp); have k1 : wq.cell? ⟨B, 33, none⟩ = some (.int .i64 m) := hC.keep (by go_simp); have k2 : wq.cell? ⟨B, 34, none⟩ = some (.int .i64 r) := hC.keep (by go_simp); have k3 : wq.cell? ⟨B, 35, none⟩ = some (.int .u32 l) := hC.keep (by go_simp); go_simp; first | done | rfl | exact ⟨rfl, rfl⟩)
  simp only [Act.put, List.setIfInBounds_toArray, List.set_cons_zero, List.set_cons_succ]
  apply wpQ_do
  · rfl
  · intro wq hC; go_light; first | (go_simp; first | done | rfl | exact ⟨rfl, rfl⟩) | (have k0 : wq.cell? ⟨B, 32, none⟩ = some (.int .i64 a) := hC.keep (by go_simp); have k1 : wq.cell? ⟨B, 33, none⟩ = some (.int .i64 m) := hC.keep (by go_simp); have k2 : wq.cell? ⟨B, 34, none⟩ = some (.int .i64 r) := hC.keep (by go_simp); have k3 : wq.cell? ⟨B, 35, none⟩ = some (.int .u32 l) := hC.keep (by go_simp); go_simp; first | done | rfl | exact ⟨rfl, rfl⟩)
  simp only [Act.put, List.setIfInBounds_toArray, List.set_cons_zero, List.set_cons_succ]
  apply wpQ_nil
  intro w2 hb2
  have hb2 : Below _ _ _ := hb2
  have yw2 : w.heap.size ≤ w2.heap.size := by (have := hb2.size; (try simp at this); omega)
  have c2_0 : w2.cell? ⟨B, 32, none⟩ = some (.int .i64 a) := keep hb2 (by go_simp)
  have f2_0 : w2.frozen? ⟨B, 32, none⟩ = false := keepF hb2 (.int .i64 a) (by go_simp) (by go_simp)
  have c2_1 : w2.cell? ⟨B, 33, none⟩ = some (.int .i64 m) := keep hb2 (by go_simp)
  have f2_1 : w2.frozen? ⟨B, 33, none⟩ = false := keepF hb2 (.int .i64 m) (by go_simp) (by go_simp)
  have c2_2 : w2.cell? ⟨B, 34, none⟩ = some (.int .i64 r) := keep hb2 (by go_simp)
  have f2_2 : w2.frozen? ⟨B, 34, none⟩ = false := keepF hb2 (.int .i64 r) (by go_simp) (by go_simp)
  have c2_3 : w2.cell? ⟨B, 35, none⟩ = some (.int .u32 l) := keep hb2 (by go_simp)
  have f2_3 : w2.frozen? ⟨B, 35, none⟩ = false := keepF hb2 (.int .u32 l) (by go_simp) (by go_simp)
  clear c1_0 f1_0 c1_1 f1_1 c1_2 f1_2 c1_3 f1_3
  go_wp2_with fail
  go_ret
  exact ⟨rfl, (by repeat (first | assumption | exact Below.refl _ _ | refine balloc ?_ _ | refine bdrew ?_ | refine bstep ?_ (by assumption)))⟩

set_option maxHeartbeats 1000000 in
theorem put_ok (x : Int) {B : Nat} {g : Nat → Int} {a m r : Nat} {l : Int} (w : World) (h : QS w B g a m r l) (hr : 0 < r) (hr2 : r ≤ 32) (ha : a < 32) (hx : ¬ x ≤ l) (hm : m < r) :
    Calls Try.prog 37 #[.pointer (some ⟨B, 0, none⟩), .int .u32 x] w fun e' w' => e' = .returned (.int .i64 0) ∧ Only B w w' ∧ QS w' B (upd g ((a + m) % 32) x) a (m + 1) r x := by
  have k32 := h.ca
  have k33 := h.cm
  have k34 := h.cr
  have k35 := h.cl
  have j32 := h.fz 32 (by omega)
  have j33 := h.fz 33 (by omega)
  have j34 := h.fz 34 (by omega)
  have j35 := h.fz 35 (by omega)
  have zB := h.lt
  have kr := h.ring ((a + m) % 32) (by omega)
  have jr := h.fz ((a + m) % 32) (by omega)
  have H := Lib.hid h
  clear h
  have e1 : ((m : Int) == (r : Int)) = false := by simp; omega
  have e2 : ¬ (a + m) % 32 = 33 := by omega
  have e3 : ¬ (a + m) % 32 = 35 := by omega
  go_enter Try.func37, Try.ntmps37
  go_wp2_with fail
  with_reducible refine (none_no _ H.out hr).mono ?_
  rintro e1 w1 ⟨rfl, hb1⟩
  have yw1 : w.heap.size ≤ w1.heap.size := by (have := hb1.size; (try simp at this); omega)
  have c1_0 : w1.cell? ⟨B, 32, none⟩ = some (.int .i64 a) := keep hb1 (by go_simp)
  have f1_0 : w1.frozen? ⟨B, 32, none⟩ = false := keepF hb1 (.int .i64 a) (by go_simp) (by go_simp)
  have c1_1 : w1.cell? ⟨B, 33, none⟩ = some (.int .i64 m) := keep hb1 (by go_simp)
  have f1_1 : w1.frozen? ⟨B, 33, none⟩ = false := keepF hb1 (.int .i64 m) (by go_simp) (by go_simp)
  have c1_2 : w1.cell? ⟨B, 34, none⟩ = some (.int .i64 r) := keep hb1 (by go_simp)
  have f1_2 : w1.frozen? ⟨B, 34, none⟩ = false := keepF hb1 (.int .i64 r) (by go_simp) (by go_simp)
  have c1_3 : w1.cell? ⟨B, 35, none⟩ = some (.int .u32 l) := keep hb1 (by go_simp)
  have f1_3 : w1.frozen? ⟨B, 35, none⟩ = false := keepF hb1 (.int .u32 l) (by go_simp) (by go_simp)
  have c1_4 : w1.cell? ⟨B, ((a + m) % 32), none⟩ = some (.int .u32 (g ((a + m) % 32))) := keep hb1 (by go_simp)
  have f1_4 : w1.frozen? ⟨B, ((a + m) % 32), none⟩ = false := keepF hb1 (.int .u32 (g ((a + m) % 32))) (by go_simp) (by go_simp)
  clear k32 k33 k34 k35 j32 j33 j34 j35 kr jr
  go_wp2_with fail
  refine wpQ_region (by kernel_rfl) (by kernel_rfl) ?_
  apply wpQ_do
  · rfl
  · intro wq hC; go_light; first | (go_simp; first | done | rfl | exact ⟨rfl, rfl⟩) | (have k0 : wq.cell? ⟨B, 32, none⟩ = some (.int .i64 a) := hC.keep (by go_simp); have k1 : wq.cell? ⟨B, 33, none⟩ = some (.int .i64 m) := hC.keep (by go_simp); have k2 : wq.cell? ⟨B, 34, none⟩ = some (.int .i64 r) := hC.keep (by go_simp); have k3 : wq.cell? ⟨B, 35, none⟩ = some (.int .u32 l) := hC.keep (by go_simp); have k4 : wq.cell? ⟨B, ((a + m) % 32), none⟩ = some (.int .u32 (g ((a + m) % 32))) := hC.keep (by go_simp); go_simp; first | done | rfl | exact ⟨rfl, rfl⟩)
  simp only [Act.put, List.setIfInBounds_toArray, List.set_cons_zero, List.set_cons_succ]
  apply wpQ_do
  · rfl
  · intro wq hC; go_light; first | (go_simp; first | done | rfl | exact ⟨rfl, rfl⟩) | (have k0 : wq.cell? ⟨B, 32, none⟩ = some (.int .i64 a) := hC.keep (by go_simp); have k1 : wq.cell? ⟨B, 33, none⟩ = some (.int .i64 m) := hC.keep (by go_simp); have k2 : wq.cell? ⟨B, 34, none⟩ = some (.int .i64 r) := hC.keep (by go_simp); have k3 : wq.cell? ⟨B, 35, none⟩ = some (.int .u32 l) := hC.keep (by go_simp); have k4 : wq.cell? ⟨B, ((a + m) % 32), none⟩ = some (.int .u32 (g ((a + m) % 32))) := hC.keep (by go_simp); go_simp; first | done | rfl | exact ⟨rfl, rfl⟩)
  simp only [Act.put, List.setIfInBounds_toArray, List.set_cons_zero, List.set_cons_succ]
  apply wpQ_do
  · rfl
  · intro wq hC; go_light; first | (go_simp; first | done | rfl | exact ⟨rfl, rfl⟩) | (have k0 : wq.cell? ⟨B, 32, none⟩ = some (.int .i64 a) := hC.keep (by go_simp); have k1 : wq.cell? ⟨B, 33, none⟩ = some (.int .i64 m) := hC.keep (by go_simp); have k2 : wq.cell? ⟨B, 34, none⟩ = some (.int .i64 r) := hC.keep (by go_simp); have k3 : wq.cell? ⟨B, 35, none⟩ = some (.int .u32 l) := hC.keep (by go_simp); have k4 : wq.cell? ⟨B, ((a + m) % 32), none⟩ = some (.int .u32 (g ((a + m) % 32))) := hC.keep (by go_simp); go_simp; first | done | rfl | exact ⟨rfl, rfl⟩)
  simp only [Act.put, List.setIfInBounds_toArray, List.set_cons_zero, List.set_cons_succ]
  apply wpQ_do
  · rfl
  · intro wq hC; go_light; first | (go_simp; first | done | rfl | exact ⟨rfl, rfl⟩) | (have k0 : wq.cell? ⟨B, 32, none⟩ = some (.int .i64 a) := hC.keep (by go_simp); have k1 : wq.cell? ⟨B, 33, none⟩ = some (.int .i64 m) := hC.keep (by go_simp); have k2 : wq.cell? ⟨B, 34, none⟩ = some (.int .i64 r) := hC.keep (by go_simp); have k3 : wq.cell? ⟨B, 35, none⟩ = some (.int .u32 l) := hC.keep (by go_simp); have k4 : wq.cell? ⟨B, ((a + m) % 32), none⟩ = some (.int .u32 (g ((a + m) % 32))) := hC.keep (by go_simp); go_simp; first | done | rfl | exact ⟨rfl, rfl⟩)
  simp only [Act.put, List.setIfInBounds_toArray, List.set_cons_zero, List.set_cons_succ]
  apply wpQ_do
  · rfl
  · intro wq hC; go_light; first | (go_simp; first | done | rfl | exact ⟨rfl, rfl⟩) | (have k0 : wq.cell? ⟨B, 32, none⟩ = some (.int .i64 a) := hC.keep (by go_simp); have k1 : wq.cell? ⟨B, 33, none⟩ = some (.int .i64 m) := hC.keep (by go_simp); have k2 : wq.cell? ⟨B, 34, none⟩ = some (.int .i64 r) := hC.keep (by go_simp); have k3 : wq.cell? ⟨B, 35, none⟩ = some (.int .u32 l) := hC.keep (by go_simp); have k4 : wq.cell? ⟨B, ((a + m) % 32), none⟩ = some (.int .u32 (g ((a + m) % 32))) := hC.keep (by go_simp); go_simp; first | done | rfl | exact ⟨rfl, rfl⟩)
  simp only [Act.put, List.setIfInBounds_toArray, List.set_cons_zero, List.set_cons_succ]
  apply wpQ_do
  · rfl
  · intro wq hC; go_light; first | (go_simp; first | done | rfl | exact ⟨rfl, rfl⟩) | (have k0 : wq.cell? ⟨B, 32, none⟩ = some (.int .i64 a) := hC.keep (by go_simp); have k1 : wq.cell? ⟨B, 33, none⟩ = some (.int .i64 m) := hC.keep (by go_simp); have k2 : wq.cell? ⟨B, 34, none⟩ = some (.int .i64 r) := hC.keep (by go_simp); have k3 : wq.cell? ⟨B, 35, none⟩ = some (.int .u32 l) := hC.keep (by go_simp); have k4 : wq.cell? ⟨B, ((a + m) % 32), none⟩ = some (.int .u32 (g ((a + m) % 32))) := hC.keep (by go_simp); go_simp; first | done | rfl | exact ⟨rfl, rfl⟩)
  simp only [Act.put, List.setIfInBounds_toArray, List.set_cons_zero, List.set_cons_succ]
  apply wpQ_do
  · rfl
  · intro wq hC; go_light; first | (go_simp; first | done | rfl | exact ⟨rfl, rfl⟩) | (have k0 : wq.cell? ⟨B, 32, none⟩ = some (.int .i64 a) := hC.keep (by go_simp); have k1 : wq.cell? ⟨B, 33, none⟩ = some (.int .i64 m) := hC.keep (by go_simp); have k2 : wq.cell? ⟨B, 34, none⟩ = some (.int .i64 r) := hC.keep (by go_simp); have k3 : wq.cell? ⟨B, 35, none⟩ = some (.int .u32 l) := hC.keep (by go_simp); have k4 : wq.cell? ⟨B, ((a + m) % 32), none⟩ = some (.int .u32 (g ((a + m) % 32))) := hC.keep (by go_simp); go_simp; first | done | rfl | exact ⟨rfl, rfl⟩)
  simp only [Act.put, List.setIfInBounds_toArray, List.set_cons_zero, List.set_cons_succ]
  apply wpQ_do
  · rfl
  · intro wq hC; go_light; first | (go_simp; first | done | rfl | exact ⟨rfl, rfl⟩) | (have k0 : wq.cell? ⟨B, 32, none⟩ = some (.int .i64 a) := hC.keep (by go_simp); have k1 : wq.cell? ⟨B, 33, none⟩ = some (.int .i64 m) := hC.keep (by go_simp); have k2 : wq.cell? ⟨B, 34, none⟩ = some (.int .i64 r) := hC.keep (by go_simp); have k3 : wq.cell? ⟨B, 35, none⟩ = some (.int .u32 l) := hC.keep (by go_simp); have k4 : wq.cell? ⟨B, ((a + m) % 32), none⟩ = some (.int .u32 (g ((a + m) % 32))) := hC.keep (by go_simp); go_simp; first | done | rfl | exact ⟨rfl, rfl⟩)
  simp only [Act.put, List.setIfInBounds_toArray, List.set_cons_zero, List.set_cons_succ]
  apply wpQ_do
  · rfl
  · intro wq hC; go_light; first | (go_simp; first | done | rfl | exact ⟨rfl, rfl⟩) | (have k0 : wq.cell? ⟨B, 32, none⟩ = some (.int .i64 a) := hC.keep (by go_simp); have k1 : wq.cell? ⟨B, 33, none⟩ = some (.int .i64 m) := hC.keep (by go_simp); have k2 : wq.cell? ⟨B, 34, none⟩ = some (.int .i64 r) := hC.keep (by go_simp); have k3 : wq.cell? ⟨B, 35, none⟩ = some (.int .u32 l) := hC.keep (by go_simp); have k4 : wq.cell? ⟨B, ((a + m) % 32), none⟩ = some (.int .u32 (g ((a + m) % 32))) := hC.keep (by go_simp); go_simp; first | done | rfl | exact ⟨rfl, rfl⟩)
  simp only [Act.put, List.setIfInBounds_toArray, List.set_cons_zero, List.set_cons_succ]
  apply wpQ_do
  · rfl
  · intro wq hC; go_light; first | (go_simp; first | done | rfl | exact ⟨rfl, rfl⟩) | (have k0 : wq.cell? ⟨B, 32, none⟩ = some (.int .i64 a) := hC.keep (by go_simp); have k1 : wq.cell? ⟨B, 33, none⟩ = some (.int .i64 m) := hC.keep (by go_simp); have k2 : wq.cell? ⟨B, 34, none⟩ = some (.int .i64 r) := hC.keep (by go_simp); have k3 : wq.cell? ⟨B, 35, none⟩ = some (.int .u32 l) := hC.keep (by go_simp); have k4 : wq.cell? ⟨B, ((a + m) % 32), none⟩ = some (.int .u32 (g ((a + m) % 32))) := hC.keep (by go_simp); go_simp; first | done | rfl | exact ⟨rfl, rfl⟩)
  simp only [Act.put, List.setIfInBounds_toArray, List.set_cons_zero, List.set_cons_succ]
  apply wpQ_nil
  intro w2 hb2
  have hb2 : Below _ _ _ := hb2
  have yw2 : w.heap.size ≤ w2.heap.size := by (have := hb2.size; (try simp at this); omega)
  have c2_0 : w2.cell? ⟨B, 32, none⟩ = some (.int .i64 a) := keep hb2 (by go_simp)
  have f2_0 : w2.frozen? ⟨B, 32, none⟩ = false := keepF hb2 (.int .i64 a) (by go_simp) (by go_simp)
  have c2_1 : w2.cell? ⟨B, 33, none⟩ = some (.int .i64 m) := keep hb2 (by go_simp)
  have f2_1 : w2.frozen? ⟨B, 33, none⟩ = false := keepF hb2 (.int .i64 m) (by go_simp) (by go_simp)
  have c2_2 : w2.cell? ⟨B, 34, none⟩ = some (.int .i64 r) := keep hb2 (by go_simp)
  have f2_2 : w2.frozen? ⟨B, 34, none⟩ = false := keepF hb2 (.int .i64 r) (by go_simp) (by go_simp)
  have c2_3 : w2.cell? ⟨B, 35, none⟩ = some (.int .u32 l) := keep hb2 (by go_simp)
  have f2_3 : w2.frozen? ⟨B, 35, none⟩ = false := keepF hb2 (.int .u32 l) (by go_simp) (by go_simp)
  have c2_4 : w2.cell? ⟨B, ((a + m) % 32), none⟩ = some (.int .u32 (g ((a + m) % 32))) := keep hb2 (by go_simp)
  have f2_4 : w2.frozen? ⟨B, ((a + m) % 32), none⟩ = false := keepF hb2 (.int .u32 (g ((a + m) % 32))) (by go_simp) (by go_simp)
  clear c1_0 f1_0 c1_1 f1_1 c1_2 f1_2 c1_3 f1_3 c1_4 f1_4
  go_wp2_with fail
  with_reducible refine (place_any m _ ((H.out.below hb1).below hb2) ha (by omega)).mono ?_
  rintro e3 w3 ⟨rfl, hb3⟩
  have yw3 : w.heap.size ≤ w3.heap.size := by (have := hb3.size; (try simp at this); omega)
  have c3_0 : w3.cell? ⟨B, 32, none⟩ = some (.int .i64 a) := keep hb3 (by go_simp)
  have f3_0 : w3.frozen? ⟨B, 32, none⟩ = false := keepF hb3 (.int .i64 a) (by go_simp) (by go_simp)
  have c3_1 : w3.cell? ⟨B, 33, none⟩ = some (.int .i64 m) := keep hb3 (by go_simp)
  have f3_1 : w3.frozen? ⟨B, 33, none⟩ = false := keepF hb3 (.int .i64 m) (by go_simp) (by go_simp)
  have c3_2 : w3.cell? ⟨B, 34, none⟩ = some (.int .i64 r) := keep hb3 (by go_simp)
  have f3_2 : w3.frozen? ⟨B, 34, none⟩ = false := keepF hb3 (.int .i64 r) (by go_simp) (by go_simp)
  have c3_3 : w3.cell? ⟨B, 35, none⟩ = some (.int .u32 l) := keep hb3 (by go_simp)
  have f3_3 : w3.frozen? ⟨B, 35, none⟩ = false := keepF hb3 (.int .u32 l) (by go_simp) (by go_simp)
  have c3_4 : w3.cell? ⟨B, ((a + m) % 32), none⟩ = some (.int .u32 (g ((a + m) % 32))) := keep hb3 (by go_simp)
  have f3_4 : w3.frozen? ⟨B, ((a + m) % 32), none⟩ = false := keepF hb3 (.int .u32 (g ((a + m) % 32))) (by go_simp) (by go_simp)
  clear c2_0 f2_0 c2_1 f2_1 c2_2 f2_2 c2_3 f2_3 c2_4 f2_4
  have HQ := Lib.hid (((H.out.below hb1).below hb2).below hb3)
  go_wp2_with fail
  go_ret
  exact ⟨rfl, (by repeat (first | assumption | exact Only.refl _ _ | refine Only.drew ?_ | refine Only.set ?_ (by rfl) _ | refine Only.step ?_ (by assumption))), ((HQ.out.put (by omega) x).setM (m + 1)).setL x⟩
end Go.Proofs.Ytnhfholodillaaa
