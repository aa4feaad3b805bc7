/- Contracts of what is done with a lease (Op.does) and of the chapter's examples (awake). -/
import Derived.Test.YtnhfholodillaaaB
namespace Go.Proofs.Ytnhfholodillaaa
open Go.RowKit

def doz (k o t a b : Int) : Int × Int × Int :=
  if k % 5 == 0 then tak a b o t else if k % 5 == 1 then own a b o o (-1) else if k % 5 == 2 then own a b o 0 0 else if k % 5 == 3 then ((tik a b).1, (tik a b).2.1, 0) else ((boo a b).1, (boo a b).2, 0)

set_option maxHeartbeats 400000 in
theorem does_any (k o t a b : Int) (w : World) (hk : 0 ≤ k) (hlo : -9223372036854775808 ≤ b) (hhi : b ≤ 9223372036854775807) :
    Calls Try.prog 32 #[.agg #[.int .u8 k, .int .u16 o, .int .i64 t], .agg #[.int .u16 a, .int .i64 b]] w fun e' w' => e' = .returned (.tuple #[.agg #[.int .u16 (doz k o t a b).1, .int .i64 (doz k o t a b).2.1], .int .i64 (doz k o t a b).2.2]) ∧ Below w.heap.size w w' := by
  go_enter Try.func32, Try.ntmps32
  go_wp2_with (first | (go_at_call 17; refine (tak_any _ _ _ _ _).mono ?_; rintro e1 w1 ⟨rfl, hb1⟩; have c1_0 : w1.cell? ⟨w.heap.size + 2, 0, none⟩ = some (.int .u16 0) := keep hb1 (by go_simp); have f1_0 : w1.frozen? ⟨w.heap.size + 2, 0, none⟩ = false := keepF hb1 (.int .u16 0) (by go_simp) (by go_simp); have c1_1 : w1.cell? ⟨w.heap.size + 2, 1, none⟩ = some (.int .i64 0) := keep hb1 (by go_simp); have f1_1 : w1.frozen? ⟨w.heap.size + 2, 1, none⟩ = false := keepF hb1 (.int .i64 0) (by go_simp) (by go_simp)) | (go_at_call 19; refine (hold_any _ _ _ _).mono ?_; rintro e2 w2 ⟨rfl, hb2⟩; have c2_0 : w2.cell? ⟨w.heap.size + 2, 0, none⟩ = some (.int .u16 0) := keep hb2 (by go_simp); have f2_0 : w2.frozen? ⟨w.heap.size + 2, 0, none⟩ = false := keepF hb2 (.int .u16 0) (by go_simp) (by go_simp); have c2_1 : w2.cell? ⟨w.heap.size + 2, 1, none⟩ = some (.int .i64 0) := keep hb2 (by go_simp); have f2_1 : w2.frozen? ⟨w.heap.size + 2, 1, none⟩ = false := keepF hb2 (.int .i64 0) (by go_simp) (by go_simp)) | (go_at_call 21; refine (leave_any _ _ _ _).mono ?_; rintro e3 w3 ⟨rfl, hb3⟩; have c3_0 : w3.cell? ⟨w.heap.size + 2, 0, none⟩ = some (.int .u16 0) := keep hb3 (by go_simp); have f3_0 : w3.frozen? ⟨w.heap.size + 2, 0, none⟩ = false := keepF hb3 (.int .u16 0) (by go_simp) (by go_simp); have c3_1 : w3.cell? ⟨w.heap.size + 2, 1, none⟩ = some (.int .i64 0) := keep hb3 (by go_simp); have f3_1 : w3.frozen? ⟨w.heap.size + 2, 1, none⟩ = false := keepF hb3 (.int .i64 0) (by go_simp) (by go_simp)) | (go_at_call 23; refine (tick_any _ _ _ hlo hhi).mono ?_; rintro e4 w4 ⟨rfl, hb4⟩; have c4_0 : w4.cell? ⟨w.heap.size + 2, 0, none⟩ = some (.int .u16 0) := keep hb4 (by go_simp); have f4_0 : w4.frozen? ⟨w.heap.size + 2, 0, none⟩ = false := keepF hb4 (.int .u16 0) (by go_simp) (by go_simp); have c4_1 : w4.cell? ⟨w.heap.size + 2, 1, none⟩ = some (.int .i64 0) := keep hb4 (by go_simp); have f4_1 : w4.frozen? ⟨w.heap.size + 2, 1, none⟩ = false := keepF hb4 (.int .i64 0) (by go_simp) (by go_simp); have z4 : w.heap.size + 2 < w4.heap.size := by (have := hb4.size; (try simp at this); omega)) | (go_at_call 29; refine (boot_any _ _ _).mono ?_; rintro e5 w5 ⟨rfl, hb5⟩; have c5_0 : w5.cell? ⟨w.heap.size + 2, 0, none⟩ = some (.int .u16 0) := keep hb5 (by go_simp); have f5_0 : w5.frozen? ⟨w.heap.size + 2, 0, none⟩ = false := keepF hb5 (.int .u16 0) (by go_simp) (by go_simp); have c5_1 : w5.cell? ⟨w.heap.size + 2, 1, none⟩ = some (.int .i64 0) := keep hb5 (by go_simp); have f5_1 : w5.frozen? ⟨w.heap.size + 2, 1, none⟩ = false := keepF hb5 (.int .i64 0) (by go_simp) (by go_simp)))
  all_goals go_light
  all_goals exact bodyPost_ret (v := (.tuple #[.agg #[.int .u16 (doz k o t a b).1, .int .i64 (doz k o t a b).2.1], .int .i64 (doz k o t a b).2.2])) (by simp [results, Try.results32, go_sem, *] <;> simp_all [doz]) rfl ⟨rfl, (by repeat (first | exact Below.refl _ _ | refine balloc ?_ _ | refine bset ?_ (by first | (simp; done) | (simp; omega)) _ | refine bdrew ?_ | refine bstep ?_ (by assumption)))⟩

theorem tak_at {a b o t x y z : Int} (h : tak a b o t = (x, y, z)) (w : World) :
    Calls Try.prog 17 #[.agg #[.int .u16 a, .int .i64 b], .int .u16 o, .int .i64 t] w fun e' w' => e' = .returned (.tuple #[.agg #[.int .u16 x, .int .i64 y], .int .i64 z]) ∧ Below w.heap.size w w' := by
  have := tak_any a b o t w
  rw [h] at this; exact this

theorem hold_at {a b o x y z : Int} (h : own a b o o (-1) = (x, y, z)) (w : World) :
    Calls Try.prog 19 #[.agg #[.int .u16 a, .int .i64 b], .int .u16 o] w fun e' w' => e' = .returned (.tuple #[.agg #[.int .u16 x, .int .i64 y], .int .i64 z]) ∧ Below w.heap.size w w' := by
  have := hold_any a b o w
  rw [h] at this; exact this

theorem leave_at {a b o x y z : Int} (h : own a b o 0 0 = (x, y, z)) (w : World) :
    Calls Try.prog 21 #[.agg #[.int .u16 a, .int .i64 b], .int .u16 o] w fun e' w' => e' = .returned (.tuple #[.agg #[.int .u16 x, .int .i64 y], .int .i64 z]) ∧ Below w.heap.size w w' := by
  have := leave_any a b o w
  rw [h] at this; exact this

theorem tick_at {a b x y : Int} {z : Bool} (h : tik a b = (x, y, z)) (hlo : -9223372036854775808 ≤ b) (hhi : b ≤ 9223372036854775807) (w : World) :
    Calls Try.prog 23 #[.agg #[.int .u16 a, .int .i64 b]] w fun e' w' => e' = .returned (.tuple #[.agg #[.int .u16 x, .int .i64 y], .bool z]) ∧ Below w.heap.size w w' := by
  have := tick_any a b w hlo hhi
  rw [h] at this; exact this
theorem boot_at {a b x y : Int} (h : boo a b = (x, y)) (w : World) :
    Calls Try.prog 29 #[.agg #[.int .u16 a, .int .i64 b]] w fun e' w' => e' = .returned (.agg #[.int .u16 x, .int .i64 y]) ∧ Below w.heap.size w w' := by
  have := boot_any a b w
  rw [h] at this; exact this
theorem free_at {a b : Int} {z : Bool} (h : fre a b = z) (w : World) :
    Calls Try.prog 27 #[.agg #[.int .u16 a, .int .i64 b]] w fun e' w' => e' = .returned (.bool z) ∧ Below w.heap.size w w' := by
  have := free_any a b w
  rw [h] at this; exact this
theorem right_at {a b : Int} {z : Bool} (h : rgt a b = z) (w : World) :
    Calls Try.prog 25 #[.agg #[.int .u16 a, .int .i64 b]] w fun e' w' => e' = .returned (.bool z) ∧ Below w.heap.size w w' := by
  have := right_any a b w
  rw [h] at this; exact this

set_option maxHeartbeats 1000000 in
theorem awake18_any (w : World) : Calls Try.prog 31 #[] w fun e' w' => e' = .returned (.bool true) ∧ Below w.heap.size w w' := by
  go_enter Try.func31, Try.ntmps31
  go_wp2_with fail
  refine (tak_at (x := 7) (y := 3) (z := 0) (by decide) _).mono ?_
  rintro e1 w1 ⟨rfl, hb1⟩
  have y1 : w.heap.size ≤ w1.heap.size := by (have := hb1.size; (try simp at this); omega)
  go_wp2_with fail
  refine (tak_at (x := 7) (y := 3) (z := 22) (by decide) _).mono ?_
  rintro e2 w2 ⟨rfl, hb2⟩
  have y2 : w.heap.size ≤ w2.heap.size := by (have := hb2.size; (try simp at this); omega)
  have c2_0 : w2.cell? ⟨w1.heap.size, 0, none⟩ = some (.int .u16 7) := keep hb2 (by go_simp)
  have f2_0 : w2.frozen? ⟨w1.heap.size, 0, none⟩ = false := keepF hb2 (.int .u16 7) (by go_simp) (by go_simp)
  have z2_0 := cell_lt c2_0
  have c2_1 : w2.cell? ⟨w1.heap.size, 1, none⟩ = some (.int .i64 3) := keep hb2 (by go_simp)
  have f2_1 : w2.frozen? ⟨w1.heap.size, 1, none⟩ = false := keepF hb2 (.int .i64 3) (by go_simp) (by go_simp)
  go_wp2_with fail
  refine (tick_at (a := 7) (b := 3) (x := 7) (y := 2) (z := false) (by decide) (by decide) (by decide) _).mono ?_
  rintro e3 w3 ⟨rfl, hb3⟩
  have y3 : w.heap.size ≤ w3.heap.size := by (have := hb3.size; (try simp at this); omega)
  have c3_0 : w3.cell? ⟨w1.heap.size, 0, none⟩ = some (.int .u16 7) := keep hb3 (by go_simp)
  have f3_0 : w3.frozen? ⟨w1.heap.size, 0, none⟩ = false := keepF hb3 (.int .u16 7) (by go_simp) (by go_simp)
  have z3_0 := cell_lt c3_0
  have c3_1 : w3.cell? ⟨w1.heap.size, 1, none⟩ = some (.int .i64 3) := keep hb3 (by go_simp)
  have f3_1 : w3.frozen? ⟨w1.heap.size, 1, none⟩ = false := keepF hb3 (.int .i64 3) (by go_simp) (by go_simp)
  have c3_2 : w3.cell? ⟨w2.heap.size, 0, none⟩ = some (.int .u16 7) := keep hb3 (by go_simp)
  have f3_2 : w3.frozen? ⟨w2.heap.size, 0, none⟩ = false := keepF hb3 (.int .u16 7) (by go_simp) (by go_simp)
  have z3_2 := cell_lt c3_2
  have c3_3 : w3.cell? ⟨w2.heap.size, 1, none⟩ = some (.int .i64 3) := keep hb3 (by go_simp)
  have f3_3 : w3.frozen? ⟨w2.heap.size, 1, none⟩ = false := keepF hb3 (.int .i64 3) (by go_simp) (by go_simp)
  clear c2_0 f2_0 z2_0 c2_1 f2_1
  have n3_0 : ¬ w3.heap.size = w1.heap.size := by omega
  have m3_0 : ¬ w1.heap.size = w3.heap.size := by omega
  have n3_2 : ¬ w3.heap.size = w2.heap.size := by omega
  have m3_2 : ¬ w2.heap.size = w3.heap.size := by omega
  go_wp2_with fail
  refine (tick_at (a := 7) (b := 2) (x := 7) (y := 1) (z := false) (by decide) (by decide) (by decide) _).mono ?_
  rintro e4 w4 ⟨rfl, hb4⟩
  have y4 : w.heap.size ≤ w4.heap.size := by (have := hb4.size; (try simp at this); omega)
  have c4_0 : w4.cell? ⟨w1.heap.size, 0, none⟩ = some (.int .u16 7) := keep hb4 (by go_simp)
  have f4_0 : w4.frozen? ⟨w1.heap.size, 0, none⟩ = false := keepF hb4 (.int .u16 7) (by go_simp) (by go_simp)
  have z4_0 := cell_lt c4_0
  have c4_1 : w4.cell? ⟨w1.heap.size, 1, none⟩ = some (.int .i64 3) := keep hb4 (by go_simp)
  have f4_1 : w4.frozen? ⟨w1.heap.size, 1, none⟩ = false := keepF hb4 (.int .i64 3) (by go_simp) (by go_simp)
  have c4_2 : w4.cell? ⟨w2.heap.size, 0, none⟩ = some (.int .u16 7) := keep hb4 (by go_simp)
  have f4_2 : w4.frozen? ⟨w2.heap.size, 0, none⟩ = false := keepF hb4 (.int .u16 7) (by go_simp) (by go_simp)
  have z4_2 := cell_lt c4_2
  have c4_3 : w4.cell? ⟨w2.heap.size, 1, none⟩ = some (.int .i64 3) := keep hb4 (by go_simp)
  have f4_3 : w4.frozen? ⟨w2.heap.size, 1, none⟩ = false := keepF hb4 (.int .i64 3) (by go_simp) (by go_simp)
  have c4_4 : w4.cell? ⟨w3.heap.size, 0, none⟩ = some (.int .u16 7) := keep hb4 (by go_simp)
  have f4_4 : w4.frozen? ⟨w3.heap.size, 0, none⟩ = false := keepF hb4 (.int .u16 7) (by go_simp) (by go_simp)
  have z4_4 := cell_lt c4_4
  have c4_5 : w4.cell? ⟨w3.heap.size, 1, none⟩ = some (.int .i64 2) := keep hb4 (by go_simp)
  have f4_5 : w4.frozen? ⟨w3.heap.size, 1, none⟩ = false := keepF hb4 (.int .i64 2) (by go_simp) (by go_simp)
  clear c3_0 f3_0 z3_0 c3_1 f3_1 c3_2 f3_2 z3_2 c3_3 f3_3
  go_wp2_with fail
  refine (tak_at (x := 7) (y := 3) (z := 0) (by decide) _).mono ?_
  rintro e5 w5 ⟨rfl, hb5⟩
  have y5 : w.heap.size ≤ w5.heap.size := by (have := hb5.size; (try simp at this); omega)
  have c5_0 : w5.cell? ⟨w1.heap.size, 0, none⟩ = some (.int .u16 7) := keep hb5 (by go_simp)
  have f5_0 : w5.frozen? ⟨w1.heap.size, 0, none⟩ = false := keepF hb5 (.int .u16 7) (by go_simp) (by go_simp)
  have z5_0 := cell_lt c5_0
  have c5_1 : w5.cell? ⟨w1.heap.size, 1, none⟩ = some (.int .i64 3) := keep hb5 (by go_simp)
  have f5_1 : w5.frozen? ⟨w1.heap.size, 1, none⟩ = false := keepF hb5 (.int .i64 3) (by go_simp) (by go_simp)
  have c5_2 : w5.cell? ⟨w2.heap.size, 0, none⟩ = some (.int .u16 7) := keep hb5 (by go_simp)
  have f5_2 : w5.frozen? ⟨w2.heap.size, 0, none⟩ = false := keepF hb5 (.int .u16 7) (by go_simp) (by go_simp)
  have z5_2 := cell_lt c5_2
  have c5_3 : w5.cell? ⟨w2.heap.size, 1, none⟩ = some (.int .i64 3) := keep hb5 (by go_simp)
  have f5_3 : w5.frozen? ⟨w2.heap.size, 1, none⟩ = false := keepF hb5 (.int .i64 3) (by go_simp) (by go_simp)
  have c5_4 : w5.cell? ⟨w3.heap.size, 0, none⟩ = some (.int .u16 7) := keep hb5 (by go_simp)
  have f5_4 : w5.frozen? ⟨w3.heap.size, 0, none⟩ = false := keepF hb5 (.int .u16 7) (by go_simp) (by go_simp)
  have z5_4 := cell_lt c5_4
  have c5_5 : w5.cell? ⟨w3.heap.size, 1, none⟩ = some (.int .i64 1) := keep hb5 (by go_simp)
  have f5_5 : w5.frozen? ⟨w3.heap.size, 1, none⟩ = false := keepF hb5 (.int .i64 1) (by go_simp) (by go_simp)
  clear c4_0 f4_0 z4_0 c4_1 f4_1 c4_2 f4_2 z4_2 c4_3 f4_3 c4_4 f4_4 z4_4 c4_5 f4_5
  go_wp2_with fail
  refine (hold_at (x := 7) (y := -1) (z := 0) (by decide) _).mono ?_
  rintro e6 w6 ⟨rfl, hb6⟩
  have y6 : w.heap.size ≤ w6.heap.size := by (have := hb6.size; (try simp at this); omega)
  have c6_0 : w6.cell? ⟨w1.heap.size, 0, none⟩ = some (.int .u16 7) := keep hb6 (by go_simp)
  have f6_0 : w6.frozen? ⟨w1.heap.size, 0, none⟩ = false := keepF hb6 (.int .u16 7) (by go_simp) (by go_simp)
  have z6_0 := cell_lt c6_0
  have c6_1 : w6.cell? ⟨w1.heap.size, 1, none⟩ = some (.int .i64 3) := keep hb6 (by go_simp)
  have f6_1 : w6.frozen? ⟨w1.heap.size, 1, none⟩ = false := keepF hb6 (.int .i64 3) (by go_simp) (by go_simp)
  have c6_2 : w6.cell? ⟨w2.heap.size, 0, none⟩ = some (.int .u16 7) := keep hb6 (by go_simp)
  have f6_2 : w6.frozen? ⟨w2.heap.size, 0, none⟩ = false := keepF hb6 (.int .u16 7) (by go_simp) (by go_simp)
  have z6_2 := cell_lt c6_2
  have c6_3 : w6.cell? ⟨w2.heap.size, 1, none⟩ = some (.int .i64 3) := keep hb6 (by go_simp)
  have f6_3 : w6.frozen? ⟨w2.heap.size, 1, none⟩ = false := keepF hb6 (.int .i64 3) (by go_simp) (by go_simp)
  have c6_4 : w6.cell? ⟨w3.heap.size, 0, none⟩ = some (.int .u16 7) := keep hb6 (by go_simp)
  have f6_4 : w6.frozen? ⟨w3.heap.size, 0, none⟩ = false := keepF hb6 (.int .u16 7) (by go_simp) (by go_simp)
  have z6_4 := cell_lt c6_4
  have c6_5 : w6.cell? ⟨w3.heap.size, 1, none⟩ = some (.int .i64 1) := keep hb6 (by go_simp)
  have f6_5 : w6.frozen? ⟨w3.heap.size, 1, none⟩ = false := keepF hb6 (.int .i64 1) (by go_simp) (by go_simp)
  have c6_6 : w6.cell? ⟨w5.heap.size, 0, none⟩ = some (.int .u16 7) := keep hb6 (by go_simp)
  have f6_6 : w6.frozen? ⟨w5.heap.size, 0, none⟩ = false := keepF hb6 (.int .u16 7) (by go_simp) (by go_simp)
  have z6_6 := cell_lt c6_6
  have c6_7 : w6.cell? ⟨w5.heap.size, 1, none⟩ = some (.int .i64 3) := keep hb6 (by go_simp)
  have f6_7 : w6.frozen? ⟨w5.heap.size, 1, none⟩ = false := keepF hb6 (.int .i64 3) (by go_simp) (by go_simp)
  clear c5_0 f5_0 z5_0 c5_1 f5_1 c5_2 f5_2 z5_2 c5_3 f5_3 c5_4 f5_4 z5_4 c5_5 f5_5
  go_wp2_with fail
  refine (tick_at (a := 7) (b := -1) (x := 7) (y := -1) (z := false) (by decide) (by decide) (by decide) _).mono ?_
  rintro e7 w7 ⟨rfl, hb7⟩
  have y7 : w.heap.size ≤ w7.heap.size := by (have := hb7.size; (try simp at this); omega)
  have c7_0 : w7.cell? ⟨w1.heap.size, 0, none⟩ = some (.int .u16 7) := keep hb7 (by go_simp)
  have f7_0 : w7.frozen? ⟨w1.heap.size, 0, none⟩ = false := keepF hb7 (.int .u16 7) (by go_simp) (by go_simp)
  have z7_0 := cell_lt c7_0
  have c7_1 : w7.cell? ⟨w1.heap.size, 1, none⟩ = some (.int .i64 3) := keep hb7 (by go_simp)
  have f7_1 : w7.frozen? ⟨w1.heap.size, 1, none⟩ = false := keepF hb7 (.int .i64 3) (by go_simp) (by go_simp)
  have c7_2 : w7.cell? ⟨w2.heap.size, 0, none⟩ = some (.int .u16 7) := keep hb7 (by go_simp)
  have f7_2 : w7.frozen? ⟨w2.heap.size, 0, none⟩ = false := keepF hb7 (.int .u16 7) (by go_simp) (by go_simp)
  have z7_2 := cell_lt c7_2
  have c7_3 : w7.cell? ⟨w2.heap.size, 1, none⟩ = some (.int .i64 3) := keep hb7 (by go_simp)
  have f7_3 : w7.frozen? ⟨w2.heap.size, 1, none⟩ = false := keepF hb7 (.int .i64 3) (by go_simp) (by go_simp)
  have c7_4 : w7.cell? ⟨w3.heap.size, 0, none⟩ = some (.int .u16 7) := keep hb7 (by go_simp)
  have f7_4 : w7.frozen? ⟨w3.heap.size, 0, none⟩ = false := keepF hb7 (.int .u16 7) (by go_simp) (by go_simp)
  have z7_4 := cell_lt c7_4
  have c7_5 : w7.cell? ⟨w3.heap.size, 1, none⟩ = some (.int .i64 1) := keep hb7 (by go_simp)
  have f7_5 : w7.frozen? ⟨w3.heap.size, 1, none⟩ = false := keepF hb7 (.int .i64 1) (by go_simp) (by go_simp)
  have c7_6 : w7.cell? ⟨w5.heap.size, 0, none⟩ = some (.int .u16 7) := keep hb7 (by go_simp)
  have f7_6 : w7.frozen? ⟨w5.heap.size, 0, none⟩ = false := keepF hb7 (.int .u16 7) (by go_simp) (by go_simp)
  have z7_6 := cell_lt c7_6
  have c7_7 : w7.cell? ⟨w5.heap.size, 1, none⟩ = some (.int .i64 3) := keep hb7 (by go_simp)
  have f7_7 : w7.frozen? ⟨w5.heap.size, 1, none⟩ = false := keepF hb7 (.int .i64 3) (by go_simp) (by go_simp)
  have c7_8 : w7.cell? ⟨w6.heap.size, 0, none⟩ = some (.int .u16 7) := keep hb7 (by go_simp)
  have f7_8 : w7.frozen? ⟨w6.heap.size, 0, none⟩ = false := keepF hb7 (.int .u16 7) (by go_simp) (by go_simp)
  have z7_8 := cell_lt c7_8
  have c7_9 : w7.cell? ⟨w6.heap.size, 1, none⟩ = some (.int .i64 (-1)) := keep hb7 (by go_simp)
  have f7_9 : w7.frozen? ⟨w6.heap.size, 1, none⟩ = false := keepF hb7 (.int .i64 (-1)) (by go_simp) (by go_simp)
  clear c6_0 f6_0 z6_0 c6_1 f6_1 c6_2 f6_2 z6_2 c6_3 f6_3 c6_4 f6_4 z6_4 c6_5 f6_5 c6_6 f6_6 z6_6 c6_7 f6_7
  go_wp2_with fail
  refine (boot_at (x := 7) (y := -1) (by decide) _).mono ?_
  rintro e8 w8 ⟨rfl, hb8⟩
  have y8 : w.heap.size ≤ w8.heap.size := by (have := hb8.size; (try simp at this); omega)
  have c8_0 : w8.cell? ⟨w1.heap.size, 0, none⟩ = some (.int .u16 7) := keep hb8 (by go_simp)
  have f8_0 : w8.frozen? ⟨w1.heap.size, 0, none⟩ = false := keepF hb8 (.int .u16 7) (by go_simp) (by go_simp)
  have z8_0 := cell_lt c8_0
  have c8_1 : w8.cell? ⟨w1.heap.size, 1, none⟩ = some (.int .i64 3) := keep hb8 (by go_simp)
  have f8_1 : w8.frozen? ⟨w1.heap.size, 1, none⟩ = false := keepF hb8 (.int .i64 3) (by go_simp) (by go_simp)
  have c8_2 : w8.cell? ⟨w2.heap.size, 0, none⟩ = some (.int .u16 7) := keep hb8 (by go_simp)
  have f8_2 : w8.frozen? ⟨w2.heap.size, 0, none⟩ = false := keepF hb8 (.int .u16 7) (by go_simp) (by go_simp)
  have z8_2 := cell_lt c8_2
  have c8_3 : w8.cell? ⟨w2.heap.size, 1, none⟩ = some (.int .i64 3) := keep hb8 (by go_simp)
  have f8_3 : w8.frozen? ⟨w2.heap.size, 1, none⟩ = false := keepF hb8 (.int .i64 3) (by go_simp) (by go_simp)
  have c8_4 : w8.cell? ⟨w3.heap.size, 0, none⟩ = some (.int .u16 7) := keep hb8 (by go_simp)
  have f8_4 : w8.frozen? ⟨w3.heap.size, 0, none⟩ = false := keepF hb8 (.int .u16 7) (by go_simp) (by go_simp)
  have z8_4 := cell_lt c8_4
  have c8_5 : w8.cell? ⟨w3.heap.size, 1, none⟩ = some (.int .i64 1) := keep hb8 (by go_simp)
  have f8_5 : w8.frozen? ⟨w3.heap.size, 1, none⟩ = false := keepF hb8 (.int .i64 1) (by go_simp) (by go_simp)
  have c8_6 : w8.cell? ⟨w5.heap.size, 0, none⟩ = some (.int .u16 7) := keep hb8 (by go_simp)
  have f8_6 : w8.frozen? ⟨w5.heap.size, 0, none⟩ = false := keepF hb8 (.int .u16 7) (by go_simp) (by go_simp)
  have z8_6 := cell_lt c8_6
  have c8_7 : w8.cell? ⟨w5.heap.size, 1, none⟩ = some (.int .i64 3) := keep hb8 (by go_simp)
  have f8_7 : w8.frozen? ⟨w5.heap.size, 1, none⟩ = false := keepF hb8 (.int .i64 3) (by go_simp) (by go_simp)
  have c8_8 : w8.cell? ⟨w6.heap.size, 0, none⟩ = some (.int .u16 7) := keep hb8 (by go_simp)
  have f8_8 : w8.frozen? ⟨w6.heap.size, 0, none⟩ = false := keepF hb8 (.int .u16 7) (by go_simp) (by go_simp)
  have z8_8 := cell_lt c8_8
  have c8_9 : w8.cell? ⟨w6.heap.size, 1, none⟩ = some (.int .i64 (-1)) := keep hb8 (by go_simp)
  have f8_9 : w8.frozen? ⟨w6.heap.size, 1, none⟩ = false := keepF hb8 (.int .i64 (-1)) (by go_simp) (by go_simp)
  have c8_10 : w8.cell? ⟨w7.heap.size, 0, none⟩ = some (.int .u16 7) := keep hb8 (by go_simp)
  have f8_10 : w8.frozen? ⟨w7.heap.size, 0, none⟩ = false := keepF hb8 (.int .u16 7) (by go_simp) (by go_simp)
  have z8_10 := cell_lt c8_10
  have c8_11 : w8.cell? ⟨w7.heap.size, 1, none⟩ = some (.int .i64 (-1)) := keep hb8 (by go_simp)
  have f8_11 : w8.frozen? ⟨w7.heap.size, 1, none⟩ = false := keepF hb8 (.int .i64 (-1)) (by go_simp) (by go_simp)
  clear c7_0 f7_0 z7_0 c7_1 f7_1 c7_2 f7_2 z7_2 c7_3 f7_3 c7_4 f7_4 z7_4 c7_5 f7_5 c7_6 f7_6 z7_6 c7_7 f7_7 c7_8 f7_8 z7_8 c7_9 f7_9
  go_wp2_with fail
  refine (leave_at (x := 0) (y := 0) (z := 0) (by decide) _).mono ?_
  rintro e9 w9 ⟨rfl, hb9⟩
  have y9 : w.heap.size ≤ w9.heap.size := by (have := hb9.size; (try simp at this); omega)
  have c9_0 : w9.cell? ⟨w1.heap.size, 0, none⟩ = some (.int .u16 7) := keep hb9 (by go_simp)
  have f9_0 : w9.frozen? ⟨w1.heap.size, 0, none⟩ = false := keepF hb9 (.int .u16 7) (by go_simp) (by go_simp)
  have z9_0 := cell_lt c9_0
  have c9_1 : w9.cell? ⟨w1.heap.size, 1, none⟩ = some (.int .i64 3) := keep hb9 (by go_simp)
  have f9_1 : w9.frozen? ⟨w1.heap.size, 1, none⟩ = false := keepF hb9 (.int .i64 3) (by go_simp) (by go_simp)
  have c9_2 : w9.cell? ⟨w2.heap.size, 0, none⟩ = some (.int .u16 7) := keep hb9 (by go_simp)
  have f9_2 : w9.frozen? ⟨w2.heap.size, 0, none⟩ = false := keepF hb9 (.int .u16 7) (by go_simp) (by go_simp)
  have z9_2 := cell_lt c9_2
  have c9_3 : w9.cell? ⟨w2.heap.size, 1, none⟩ = some (.int .i64 3) := keep hb9 (by go_simp)
  have f9_3 : w9.frozen? ⟨w2.heap.size, 1, none⟩ = false := keepF hb9 (.int .i64 3) (by go_simp) (by go_simp)
  have c9_4 : w9.cell? ⟨w3.heap.size, 0, none⟩ = some (.int .u16 7) := keep hb9 (by go_simp)
  have f9_4 : w9.frozen? ⟨w3.heap.size, 0, none⟩ = false := keepF hb9 (.int .u16 7) (by go_simp) (by go_simp)
  have z9_4 := cell_lt c9_4
  have c9_5 : w9.cell? ⟨w3.heap.size, 1, none⟩ = some (.int .i64 1) := keep hb9 (by go_simp)
  have f9_5 : w9.frozen? ⟨w3.heap.size, 1, none⟩ = false := keepF hb9 (.int .i64 1) (by go_simp) (by go_simp)
  have c9_6 : w9.cell? ⟨w5.heap.size, 0, none⟩ = some (.int .u16 7) := keep hb9 (by go_simp)
  have f9_6 : w9.frozen? ⟨w5.heap.size, 0, none⟩ = false := keepF hb9 (.int .u16 7) (by go_simp) (by go_simp)
  have z9_6 := cell_lt c9_6
  have c9_7 : w9.cell? ⟨w5.heap.size, 1, none⟩ = some (.int .i64 3) := keep hb9 (by go_simp)
  have f9_7 : w9.frozen? ⟨w5.heap.size, 1, none⟩ = false := keepF hb9 (.int .i64 3) (by go_simp) (by go_simp)
  have c9_8 : w9.cell? ⟨w6.heap.size, 0, none⟩ = some (.int .u16 7) := keep hb9 (by go_simp)
  have f9_8 : w9.frozen? ⟨w6.heap.size, 0, none⟩ = false := keepF hb9 (.int .u16 7) (by go_simp) (by go_simp)
  have z9_8 := cell_lt c9_8
  have c9_9 : w9.cell? ⟨w6.heap.size, 1, none⟩ = some (.int .i64 (-1)) := keep hb9 (by go_simp)
  have f9_9 : w9.frozen? ⟨w6.heap.size, 1, none⟩ = false := keepF hb9 (.int .i64 (-1)) (by go_simp) (by go_simp)
  have c9_10 : w9.cell? ⟨w7.heap.size, 0, none⟩ = some (.int .u16 7) := keep hb9 (by go_simp)
  have f9_10 : w9.frozen? ⟨w7.heap.size, 0, none⟩ = false := keepF hb9 (.int .u16 7) (by go_simp) (by go_simp)
  have z9_10 := cell_lt c9_10
  have c9_11 : w9.cell? ⟨w7.heap.size, 1, none⟩ = some (.int .i64 (-1)) := keep hb9 (by go_simp)
  have f9_11 : w9.frozen? ⟨w7.heap.size, 1, none⟩ = false := keepF hb9 (.int .i64 (-1)) (by go_simp) (by go_simp)
  clear c8_0 f8_0 z8_0 c8_1 f8_1 c8_2 f8_2 z8_2 c8_3 f8_3 c8_4 f8_4 z8_4 c8_5 f8_5 c8_6 f8_6 z8_6 c8_7 f8_7 c8_8 f8_8 z8_8 c8_9 f8_9 c8_10 f8_10 z8_10 c8_11 f8_11
  go_wp2_with fail
  refine (free_at (z := true) (by decide) _).mono ?_
  rintro e10 w10 ⟨rfl, hb10⟩
  have y10 : w.heap.size ≤ w10.heap.size := by (have := hb10.size; (try simp at this); omega)
  have c10_0 : w10.cell? ⟨w1.heap.size, 0, none⟩ = some (.int .u16 7) := keep hb10 (by go_simp)
  have f10_0 : w10.frozen? ⟨w1.heap.size, 0, none⟩ = false := keepF hb10 (.int .u16 7) (by go_simp) (by go_simp)
  have z10_0 := cell_lt c10_0
  have c10_1 : w10.cell? ⟨w1.heap.size, 1, none⟩ = some (.int .i64 3) := keep hb10 (by go_simp)
  have f10_1 : w10.frozen? ⟨w1.heap.size, 1, none⟩ = false := keepF hb10 (.int .i64 3) (by go_simp) (by go_simp)
  have c10_2 : w10.cell? ⟨w2.heap.size, 0, none⟩ = some (.int .u16 7) := keep hb10 (by go_simp)
  have f10_2 : w10.frozen? ⟨w2.heap.size, 0, none⟩ = false := keepF hb10 (.int .u16 7) (by go_simp) (by go_simp)
  have z10_2 := cell_lt c10_2
  have c10_3 : w10.cell? ⟨w2.heap.size, 1, none⟩ = some (.int .i64 3) := keep hb10 (by go_simp)
  have f10_3 : w10.frozen? ⟨w2.heap.size, 1, none⟩ = false := keepF hb10 (.int .i64 3) (by go_simp) (by go_simp)
  have c10_4 : w10.cell? ⟨w3.heap.size, 0, none⟩ = some (.int .u16 7) := keep hb10 (by go_simp)
  have f10_4 : w10.frozen? ⟨w3.heap.size, 0, none⟩ = false := keepF hb10 (.int .u16 7) (by go_simp) (by go_simp)
  have z10_4 := cell_lt c10_4
  have c10_5 : w10.cell? ⟨w3.heap.size, 1, none⟩ = some (.int .i64 1) := keep hb10 (by go_simp)
  have f10_5 : w10.frozen? ⟨w3.heap.size, 1, none⟩ = false := keepF hb10 (.int .i64 1) (by go_simp) (by go_simp)
  have c10_6 : w10.cell? ⟨w5.heap.size, 0, none⟩ = some (.int .u16 7) := keep hb10 (by go_simp)
  have f10_6 : w10.frozen? ⟨w5.heap.size, 0, none⟩ = false := keepF hb10 (.int .u16 7) (by go_simp) (by go_simp)
  have z10_6 := cell_lt c10_6
  have c10_7 : w10.cell? ⟨w5.heap.size, 1, none⟩ = some (.int .i64 3) := keep hb10 (by go_simp)
  have f10_7 : w10.frozen? ⟨w5.heap.size, 1, none⟩ = false := keepF hb10 (.int .i64 3) (by go_simp) (by go_simp)
  have c10_8 : w10.cell? ⟨w6.heap.size, 0, none⟩ = some (.int .u16 7) := keep hb10 (by go_simp)
  have f10_8 : w10.frozen? ⟨w6.heap.size, 0, none⟩ = false := keepF hb10 (.int .u16 7) (by go_simp) (by go_simp)
  have z10_8 := cell_lt c10_8
  have c10_9 : w10.cell? ⟨w6.heap.size, 1, none⟩ = some (.int .i64 (-1)) := keep hb10 (by go_simp)
  have f10_9 : w10.frozen? ⟨w6.heap.size, 1, none⟩ = false := keepF hb10 (.int .i64 (-1)) (by go_simp) (by go_simp)
  have c10_10 : w10.cell? ⟨w7.heap.size, 0, none⟩ = some (.int .u16 7) := keep hb10 (by go_simp)
  have f10_10 : w10.frozen? ⟨w7.heap.size, 0, none⟩ = false := keepF hb10 (.int .u16 7) (by go_simp) (by go_simp)
  have z10_10 := cell_lt c10_10
  have c10_11 : w10.cell? ⟨w7.heap.size, 1, none⟩ = some (.int .i64 (-1)) := keep hb10 (by go_simp)
  have f10_11 : w10.frozen? ⟨w7.heap.size, 1, none⟩ = false := keepF hb10 (.int .i64 (-1)) (by go_simp) (by go_simp)
  have c10_12 : w10.cell? ⟨w9.heap.size, 0, none⟩ = some (.int .u16 0) := keep hb10 (by go_simp)
  have f10_12 : w10.frozen? ⟨w9.heap.size, 0, none⟩ = false := keepF hb10 (.int .u16 0) (by go_simp) (by go_simp)
  have z10_12 := cell_lt c10_12
  have c10_13 : w10.cell? ⟨w9.heap.size, 1, none⟩ = some (.int .i64 0) := keep hb10 (by go_simp)
  have f10_13 : w10.frozen? ⟨w9.heap.size, 1, none⟩ = false := keepF hb10 (.int .i64 0) (by go_simp) (by go_simp)
  clear c9_0 f9_0 z9_0 c9_1 f9_1 c9_2 f9_2 z9_2 c9_3 f9_3 c9_4 f9_4 z9_4 c9_5 f9_5 c9_6 f9_6 z9_6 c9_7 f9_7 c9_8 f9_8 z9_8 c9_9 f9_9 c9_10 f9_10 z9_10 c9_11 f9_11
  go_wp2_with fail
  go_ret
  exact ⟨rfl, (by repeat (first | exact Below.refl _ _ | refine balloc ?_ _ | refine bset ?_ (by first | (simp; done) | (simp; omega)) _ | refine bdrew ?_ | refine bstep ?_ (by assumption)))⟩
end Go.Proofs.Ytnhfholodillaaa
