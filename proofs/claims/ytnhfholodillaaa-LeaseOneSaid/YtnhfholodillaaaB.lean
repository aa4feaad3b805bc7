/- Contracts of package lease, second part: Take, Hold, Leave, Tick, Boot. -/
import Derived.Test.YtnhfholodillaaaA
import Derived.Deep.Light
namespace Go.Proofs.Ytnhfholodillaaa
open Go.RowKit

set_option maxHeartbeats 400000 in
theorem own_any (a b o n m : Int) (w : World) :
    Calls Try.prog 47 #[.agg #[.int .u16 a, .int .i64 b], .int .u16 o, .agg #[.int .u16 n, .int .i64 m]] w fun e' w' => e' = .returned (.tuple #[.agg #[.int .u16 (own a b o n m).1, .int .i64 (own a b o n m).2.1], .int .i64 (own a b o n m).2.2]) ∧ Below w.heap.size w w' := by
  go_enter Try.func47, Try.ntmps47
  go_wp2_with (first | (go_at_call 44; refine (kept_any _ _ _ _).mono ?_; rintro e1 w1 ⟨rfl, hb1⟩; have c1_0 : w1.cell? ⟨w.heap.size + 2, 0, none⟩ = some (.int .u16 0) := keep hb1 (by go_simp); have f1_0 : w1.frozen? ⟨w.heap.size + 2, 0, none⟩ = false := keepF hb1 (.int .u16 0) (by go_simp) (by go_simp); have c1_1 : w1.cell? ⟨w.heap.size + 2, 1, none⟩ = some (.int .i64 0) := keep hb1 (by go_simp); have f1_1 : w1.frozen? ⟨w.heap.size + 2, 1, none⟩ = false := keepF hb1 (.int .i64 0) (by go_simp) (by go_simp)) | (go_at_call 45; refine (has_any _ _ _ _).mono ?_; rintro e2 w2 ⟨rfl, hb2⟩; have c2_0 : w2.cell? ⟨w.heap.size, 0, none⟩ = some (.int .u16 a) := keep hb2 (by go_simp); have f2_0 : w2.frozen? ⟨w.heap.size, 0, none⟩ = false := keepF hb2 (.int .u16 a) (by go_simp) (by go_simp); have c2_1 : w2.cell? ⟨w.heap.size, 1, none⟩ = some (.int .i64 b) := keep hb2 (by go_simp); have f2_1 : w2.frozen? ⟨w.heap.size, 1, none⟩ = false := keepF hb2 (.int .i64 b) (by go_simp) (by go_simp); have c2_2 : w2.cell? ⟨w.heap.size + 1, 0, none⟩ = some (.int .u16 n) := keep hb2 (by go_simp); have f2_2 : w2.frozen? ⟨w.heap.size + 1, 0, none⟩ = false := keepF hb2 (.int .u16 n) (by go_simp) (by go_simp); have c2_3 : w2.cell? ⟨w.heap.size + 1, 1, none⟩ = some (.int .i64 m) := keep hb2 (by go_simp); have f2_3 : w2.frozen? ⟨w.heap.size + 1, 1, none⟩ = false := keepF hb2 (.int .i64 m) (by go_simp) (by go_simp); have c2_4 : w2.cell? ⟨w.heap.size + 2, 0, none⟩ = some (.int .u16 0) := keep hb2 (by go_simp); have f2_4 : w2.frozen? ⟨w.heap.size + 2, 0, none⟩ = false := keepF hb2 (.int .u16 0) (by go_simp) (by go_simp); have c2_5 : w2.cell? ⟨w.heap.size + 2, 1, none⟩ = some (.int .i64 0) := keep hb2 (by go_simp); have f2_5 : w2.frozen? ⟨w.heap.size + 2, 1, none⟩ = false := keepF hb2 (.int .i64 0) (by go_simp) (by go_simp)))
  all_goals go_light
  all_goals exact bodyPost_ret (v := (.tuple #[.agg #[.int .u16 (own a b o n m).1, .int .i64 (own a b o n m).2.1], .int .i64 (own a b o n m).2.2])) (by simp [results, Try.results47, go_sem, *] <;> simp_all [own]) rfl ⟨rfl, (by repeat (first | exact Below.refl _ _ | refine balloc ?_ _ | refine bset ?_ (by first | (simp; done) | (simp; omega)) _ | refine bdrew ?_ | refine bstep ?_ (by assumption)))⟩

set_option maxHeartbeats 400000 in
theorem tak_any (a b o t : Int) (w : World) :
    Calls Try.prog 17 #[.agg #[.int .u16 a, .int .i64 b], .int .u16 o, .int .i64 t] w fun e' w' => e' = .returned (.tuple #[.agg #[.int .u16 (tak a b o t).1, .int .i64 (tak a b o t).2.1], .int .i64 (tak a b o t).2.2]) ∧ Below w.heap.size w w' := by
  go_enter Try.func17, Try.ntmps17
  go_wp2_with (first | (go_at_call 44; refine (kept_any _ _ _ _).mono ?_; rintro e1 w1 ⟨rfl, hb1⟩; have c1_0 : w1.cell? ⟨w.heap.size + 1, 0, none⟩ = some (.int .u16 0) := keep hb1 (by go_simp); have f1_0 : w1.frozen? ⟨w.heap.size + 1, 0, none⟩ = false := keepF hb1 (.int .u16 0) (by go_simp) (by go_simp); have c1_1 : w1.cell? ⟨w.heap.size + 1, 1, none⟩ = some (.int .i64 0) := keep hb1 (by go_simp); have f1_1 : w1.frozen? ⟨w.heap.size + 1, 1, none⟩ = false := keepF hb1 (.int .i64 0) (by go_simp) (by go_simp)) | (go_at_call 27; refine (free_any _ _ _).mono ?_; rintro e2 w2 ⟨rfl, hb2⟩; have c2_0 : w2.cell? ⟨w.heap.size, 0, none⟩ = some (.int .u16 a) := keep hb2 (by go_simp); have f2_0 : w2.frozen? ⟨w.heap.size, 0, none⟩ = false := keepF hb2 (.int .u16 a) (by go_simp) (by go_simp); have c2_1 : w2.cell? ⟨w.heap.size, 1, none⟩ = some (.int .i64 b) := keep hb2 (by go_simp); have f2_1 : w2.frozen? ⟨w.heap.size, 1, none⟩ = false := keepF hb2 (.int .i64 b) (by go_simp) (by go_simp); have c2_2 : w2.cell? ⟨w.heap.size + 1, 0, none⟩ = some (.int .u16 0) := keep hb2 (by go_simp); have f2_2 : w2.frozen? ⟨w.heap.size + 1, 0, none⟩ = false := keepF hb2 (.int .u16 0) (by go_simp) (by go_simp); have c2_3 : w2.cell? ⟨w.heap.size + 1, 1, none⟩ = some (.int .i64 0) := keep hb2 (by go_simp); have f2_3 : w2.frozen? ⟨w.heap.size + 1, 1, none⟩ = false := keepF hb2 (.int .i64 0) (by go_simp) (by go_simp)) | (go_at_call 45; refine (has_any _ _ _ _).mono ?_; rintro e3 w3 ⟨rfl, hb3⟩; have c3_0 : w3.cell? ⟨w.heap.size, 0, none⟩ = some (.int .u16 a) := keep hb3 (by go_simp); have f3_0 : w3.frozen? ⟨w.heap.size, 0, none⟩ = false := keepF hb3 (.int .u16 a) (by go_simp) (by go_simp); have c3_1 : w3.cell? ⟨w.heap.size, 1, none⟩ = some (.int .i64 b) := keep hb3 (by go_simp); have f3_1 : w3.frozen? ⟨w.heap.size, 1, none⟩ = false := keepF hb3 (.int .i64 b) (by go_simp) (by go_simp); have c3_2 : w3.cell? ⟨w.heap.size + 1, 0, none⟩ = some (.int .u16 0) := keep hb3 (by go_simp); have f3_2 : w3.frozen? ⟨w.heap.size + 1, 0, none⟩ = false := keepF hb3 (.int .u16 0) (by go_simp) (by go_simp); have c3_3 : w3.cell? ⟨w.heap.size + 1, 1, none⟩ = some (.int .i64 0) := keep hb3 (by go_simp); have f3_3 : w3.frozen? ⟨w.heap.size + 1, 1, none⟩ = false := keepF hb3 (.int .i64 0) (by go_simp) (by go_simp)))
  all_goals go_light
  all_goals exact bodyPost_ret (v := (.tuple #[.agg #[.int .u16 (tak a b o t).1, .int .i64 (tak a b o t).2.1], .int .i64 (tak a b o t).2.2])) (by simp [results, Try.results17, go_sem, *] <;> simp_all [tak]) rfl ⟨rfl, (by repeat (first | exact Below.refl _ _ | refine balloc ?_ _ | refine bset ?_ (by first | (simp; done) | (simp; omega)) _ | refine bdrew ?_ | refine bstep ?_ (by assumption)))⟩

set_option maxHeartbeats 400000 in
theorem hold_any (a b o : Int) (w : World) :
    Calls Try.prog 19 #[.agg #[.int .u16 a, .int .i64 b], .int .u16 o] w fun e' w' => e' = .returned (.tuple #[.agg #[.int .u16 (own a b o o (-1)).1, .int .i64 (own a b o o (-1)).2.1], .int .i64 (own a b o o (-1)).2.2]) ∧ Below w.heap.size w w' := by
  go_enter Try.func19, Try.ntmps19
  go_wp2_with (first | (go_at_call 47; refine (own_any _ _ _ _ _ _).mono ?_; rintro e1 w1 ⟨rfl, hb1⟩; have c1_0 : w1.cell? ⟨w.heap.size + 1, 0, none⟩ = some (.int .u16 0) := keep hb1 (by go_simp); have f1_0 : w1.frozen? ⟨w.heap.size + 1, 0, none⟩ = false := keepF hb1 (.int .u16 0) (by go_simp) (by go_simp); have c1_1 : w1.cell? ⟨w.heap.size + 1, 1, none⟩ = some (.int .i64 0) := keep hb1 (by go_simp); have f1_1 : w1.frozen? ⟨w.heap.size + 1, 1, none⟩ = false := keepF hb1 (.int .i64 0) (by go_simp) (by go_simp)))
  all_goals go_light
  all_goals exact bodyPost_ret (v := (.tuple #[.agg #[.int .u16 (own a b o o (-1)).1, .int .i64 (own a b o o (-1)).2.1], .int .i64 (own a b o o (-1)).2.2])) (by simp [results, Try.results19, go_sem, *] <;> simp_all []) rfl ⟨rfl, (by repeat (first | exact Below.refl _ _ | refine balloc ?_ _ | refine bset ?_ (by first | (simp; done) | (simp; omega)) _ | refine bdrew ?_ | refine bstep ?_ (by assumption)))⟩

set_option maxHeartbeats 400000 in
theorem leave_any (a b o : Int) (w : World) :
    Calls Try.prog 21 #[.agg #[.int .u16 a, .int .i64 b], .int .u16 o] w fun e' w' => e' = .returned (.tuple #[.agg #[.int .u16 (own a b o 0 0).1, .int .i64 (own a b o 0 0).2.1], .int .i64 (own a b o 0 0).2.2]) ∧ Below w.heap.size w w' := by
  go_enter Try.func21, Try.ntmps21
  go_wp2_with (first | (go_at_call 47; refine (own_any _ _ _ _ _ _).mono ?_; rintro e1 w1 ⟨rfl, hb1⟩; have c1_0 : w1.cell? ⟨w.heap.size + 1, 0, none⟩ = some (.int .u16 0) := keep hb1 (by go_simp); have f1_0 : w1.frozen? ⟨w.heap.size + 1, 0, none⟩ = false := keepF hb1 (.int .u16 0) (by go_simp) (by go_simp); have c1_1 : w1.cell? ⟨w.heap.size + 1, 1, none⟩ = some (.int .i64 0) := keep hb1 (by go_simp); have f1_1 : w1.frozen? ⟨w.heap.size + 1, 1, none⟩ = false := keepF hb1 (.int .i64 0) (by go_simp) (by go_simp)))
  all_goals go_light
  all_goals exact bodyPost_ret (v := (.tuple #[.agg #[.int .u16 (own a b o 0 0).1, .int .i64 (own a b o 0 0).2.1], .int .i64 (own a b o 0 0).2.2])) (by simp [results, Try.results21, go_sem, *] <;> simp_all []) rfl ⟨rfl, (by repeat (first | exact Below.refl _ _ | refine balloc ?_ _ | refine bset ?_ (by first | (simp; done) | (simp; omega)) _ | refine bdrew ?_ | refine bstep ?_ (by assumption)))⟩

theorem fre_no {a b : Int} (h : fre a b = false) : b = -1 ∨ 1 ≤ b := by
  simp [fre, rgt] at h; omega

set_option maxHeartbeats 400000 in
theorem tick_any (a b : Int) (w : World) (hlo : -9223372036854775808 ≤ b) (hhi : b ≤ 9223372036854775807) :
    Calls Try.prog 23 #[.agg #[.int .u16 a, .int .i64 b]] w fun e' w' => e' = .returned (.tuple #[.agg #[.int .u16 (tik a b).1, .int .i64 (tik a b).2.1], .bool (tik a b).2.2]) ∧ Below w.heap.size w w' := by
  have hw : fre a b = false → ¬ b = -1 → wrap64 (b - 1) = b - 1 := by
    intro h1 h2
    have := fre_no h1
    unfold wrap64
    omega
  go_enter Try.func23, Try.ntmps23
  go_wp2_with (first | (go_at_call 27; refine (free_any _ _ _).mono ?_; rintro e1 w1 ⟨rfl, hb1⟩; have c1_0 : w1.cell? ⟨w.heap.size, 0, none⟩ = some (.int .u16 a) := keep hb1 (by go_simp); have f1_0 : w1.frozen? ⟨w.heap.size, 0, none⟩ = false := keepF hb1 (.int .u16 a) (by go_simp) (by go_simp); have c1_1 : w1.cell? ⟨w.heap.size, 1, none⟩ = some (.int .i64 b) := keep hb1 (by go_simp); have f1_1 : w1.frozen? ⟨w.heap.size, 1, none⟩ = false := keepF hb1 (.int .i64 b) (by go_simp) (by go_simp); have c1_2 : w1.cell? ⟨w.heap.size + 1, 0, none⟩ = some (.int .u16 0) := keep hb1 (by go_simp); have f1_2 : w1.frozen? ⟨w.heap.size + 1, 0, none⟩ = false := keepF hb1 (.int .u16 0) (by go_simp) (by go_simp); have c1_3 : w1.cell? ⟨w.heap.size + 1, 1, none⟩ = some (.int .i64 0) := keep hb1 (by go_simp); have f1_3 : w1.frozen? ⟨w.heap.size + 1, 1, none⟩ = false := keepF hb1 (.int .i64 0) (by go_simp) (by go_simp)))
  all_goals go_light
  all_goals exact bodyPost_ret (v := (.tuple #[.agg #[.int .u16 (tik a b).1, .int .i64 (tik a b).2.1], .bool (tik a b).2.2])) (by simp [results, Try.results23, go_sem, *] <;> simp_all [tik]) rfl ⟨rfl, (by repeat (first | exact Below.refl _ _ | refine balloc ?_ _ | refine bset ?_ (by first | (simp; done) | (simp; omega)) _ | refine bdrew ?_ | refine bstep ?_ (by assumption)))⟩

set_option maxHeartbeats 400000 in
theorem boot_any (a b : Int) (w : World) :
    Calls Try.prog 29 #[.agg #[.int .u16 a, .int .i64 b]] w fun e' w' => e' = .returned (.agg #[.int .u16 (boo a b).1, .int .i64 (boo a b).2]) ∧ Below w.heap.size w w' := by
  go_enter Try.func29, Try.ntmps29
  go_wp2_with (first | (go_at_call 27; refine (free_any _ _ _).mono ?_; rintro e1 w1 ⟨rfl, hb1⟩; have c1_0 : w1.cell? ⟨w.heap.size, 0, none⟩ = some (.int .u16 a) := keep hb1 (by go_simp); have f1_0 : w1.frozen? ⟨w.heap.size, 0, none⟩ = false := keepF hb1 (.int .u16 a) (by go_simp) (by go_simp); have c1_1 : w1.cell? ⟨w.heap.size, 1, none⟩ = some (.int .i64 b) := keep hb1 (by go_simp); have f1_1 : w1.frozen? ⟨w.heap.size, 1, none⟩ = false := keepF hb1 (.int .i64 b) (by go_simp) (by go_simp); have c1_2 : w1.cell? ⟨w.heap.size + 1, 0, none⟩ = some (.int .u16 0) := keep hb1 (by go_simp); have f1_2 : w1.frozen? ⟨w.heap.size + 1, 0, none⟩ = false := keepF hb1 (.int .u16 0) (by go_simp) (by go_simp); have c1_3 : w1.cell? ⟨w.heap.size + 1, 1, none⟩ = some (.int .i64 0) := keep hb1 (by go_simp); have f1_3 : w1.frozen? ⟨w.heap.size + 1, 1, none⟩ = false := keepF hb1 (.int .i64 0) (by go_simp) (by go_simp)))
  all_goals go_light
  all_goals exact bodyPost_ret (v := .agg #[.int .u16 (boo a b).1, .int .i64 (boo a b).2]) (by simp [results, Try.results29, go_sem, *] <;> simp_all [boo]) rfl ⟨rfl, (by repeat (first | exact Below.refl _ _ | refine balloc ?_ _ | refine bset ?_ (by first | (simp; done) | (simp; omega)) _ | refine bdrew ?_ | refine bstep ?_ (by assumption)))⟩
end Go.Proofs.Ytnhfholodillaaa
