/- The law TxidRows, walked: for any number to begin with and up to 100 taken it returns true and writes nothing that was there. -/
import Derived.Test.YtnhfholodillaaaY
set_option linter.unusedVariables false
set_option linter.unusedSimpArgs false
namespace Go.Proofs.Ytnhfholodillaaa
open Go.RowKit

theorem open_none (w : World) : Calls Try.prog 12 #[.slice none 0 0] w fun e' w' => e' = .returned (.agg #[.int .u32 1, .int .u32 1]) ∧ Below w.heap.size w w' :=
  open_any none 0 0 (fun _ => (0, 0)) w (by unfold maxLen; omega) .none
theorem open_one (b : Nat) (x : Int) (w : World) (h0 : w.cell? ⟨b, 0, none⟩ = some (.int .u8 1)) (h1 : w.cell? ⟨b, 1, none⟩ = some (.int .u32 x)) (h2 : w.cell? ⟨b, 2, none⟩ = some (.int .u8 0)) (h3 : w.cell? ⟨b, 3, none⟩ = some (.bool false)) (h4 : w.cell? ⟨b, 4, none⟩ = some (.slice none 0 0)) :
    Calls Try.prog 12 #[.slice (some ⟨b, 0, none⟩) 1 1] w fun e' w' => e' = .returned (.agg #[.int .u32 (max x 1), .int .u32 (max x 1)]) ∧ Below w.heap.size w w' := by
  have h := open_any (some ⟨b, 0, none⟩) 1 1 (fun _ => (1, x)) w (by unfold maxLen; omega) (RowsI.mk fun i hi => by
    obtain rfl : i = 0 := by omega
    refine ⟨[.int .u8 1, .int .u32 x, .int .u8 0, .bool false, .slice none 0 0], rfl, ⟨0, false, none, 0, 0, rfl⟩, fun j hj => ?_⟩
    match j, hj with
    | 0, _ => simpa using h0
    | 1, _ => simpa using h1
    | 2, _ => simpa using h2
    | 3, _ => simpa using h3
    | 4, _ => simpa using h4)
  have e : gr (fun _ => (1, x)) 1 1 = max x 1 := by simp [gr]; omega
  rw [e] at h
  exact h
theorem need_at {e t : Int} (h : min (e + 16) 4294967295 = t) (he : 0 ≤ e) (h2 : e < 4294967295) (w : World) :
    Calls Try.prog 13 #[.agg #[.int .u32 e, .int .u32 e]] w fun e' w' => e' = .returned (.tuple #[.agg #[.int .u8 1, .int .u32 t, .int .u8 0, .bool false, .slice none 0 0], .bool true]) ∧ Below w.heap.size w w' := by
  subst h; exact need_yes e w he h2
theorem reserved_at {e t : Int} (h : min (e + 16) 4294967295 = t) (he : 0 ≤ e) (h2 : e < 4294967295) (w : World) :
    Calls Try.prog 15 #[.agg #[.int .u32 e, .int .u32 e], .agg #[.int .u8 1, .int .u32 t, .int .u8 0, .bool false, .slice none 0 0]] w fun e' w' => e' = .returned (.tuple #[.agg #[.int .u32 e, .int .u32 t], .int .i64 0]) ∧ Below w.heap.size w w' := by
  subst h; exact reserved_ok e w he h2
theorem take_at {x e y : Int} (h0 : x + 1 = y) (h : ¬ x = 4294967295) (h2 : ¬ x = e) (hx : 0 ≤ x) (hx2 : x ≤ 4294967295) (w : World) :
    Calls Try.prog 14 #[.agg #[.int .u32 x, .int .u32 e]] w fun e' w' => e' = .returned (.tuple #[.agg #[.int .u32 y, .int .u32 e], .int .u32 x, .int .i64 0]) ∧ Below w.heap.size w w' := by
  subst h0; exact take_ok x e w h h2 hx hx2

set_option maxRecDepth 100000 in
set_option maxHeartbeats 2000000 in
theorem awake24_any (w : World) : Calls Try.prog 16 #[] w fun e' w' => e' = .returned (.bool true) ∧ Below w.heap.size w w' := by
  go_enter Try.func16, Try.ntmps16
  go_wp2_with fail
  with_reducible refine (open_none _).mono ?_
  rintro e1 w1 ⟨rfl, hb1⟩
  have yw1 : w.heap.size ≤ w1.heap.size := by (have := hb1.size; (try simp at this); omega)
  go_wp2_with fail
  with_reducible refine (need_at (e := 1) (t := 17) (by decide) (by decide) (by decide) _).mono ?_
  rintro e2 w2 ⟨rfl, hb2⟩
  have yw2 : w.heap.size ≤ w2.heap.size := by (have := hb2.size; (try simp at this); omega)
  have c2_0 : w2.cell? ⟨w1.heap.size, 0, none⟩ = some (.int .u32 1) := keep hb2 (by go_simp)
  have f2_0 : w2.frozen? ⟨w1.heap.size, 0, none⟩ = false := keepF hb2 (.int .u32 1) (by go_simp) (by go_simp)
  have zw2_0 := cell_lt c2_0
  have c2_1 : w2.cell? ⟨w1.heap.size, 1, none⟩ = some (.int .u32 1) := keep hb2 (by go_simp)
  have f2_1 : w2.frozen? ⟨w1.heap.size, 1, none⟩ = false := keepF hb2 (.int .u32 1) (by go_simp) (by go_simp)
  go_wp2_with fail
  with_reducible refine (reserved_at (e := 1) (t := 17) (by decide) (by decide) (by decide) _).mono ?_
  rintro e3 w3 ⟨rfl, hb3⟩
  have yw3 : w.heap.size ≤ w3.heap.size := by (have := hb3.size; (try simp at this); omega)
  have c3_0 : w3.cell? ⟨w1.heap.size, 0, none⟩ = some (.int .u32 1) := keep hb3 (by go_simp)
  have f3_0 : w3.frozen? ⟨w1.heap.size, 0, none⟩ = false := keepF hb3 (.int .u32 1) (by go_simp) (by go_simp)
  have zw3_0 := cell_lt c3_0
  have c3_1 : w3.cell? ⟨w1.heap.size, 1, none⟩ = some (.int .u32 1) := keep hb3 (by go_simp)
  have f3_1 : w3.frozen? ⟨w1.heap.size, 1, none⟩ = false := keepF hb3 (.int .u32 1) (by go_simp) (by go_simp)
  have c3_2 : w3.cell? ⟨w2.heap.size, 0, none⟩ = some (.int .u8 1) := keep hb3 (by go_simp)
  have f3_2 : w3.frozen? ⟨w2.heap.size, 0, none⟩ = false := keepF hb3 (.int .u8 1) (by go_simp) (by go_simp)
  have zw3_2 := cell_lt c3_2
  have c3_3 : w3.cell? ⟨w2.heap.size, 1, none⟩ = some (.int .u32 17) := keep hb3 (by go_simp)
  have f3_3 : w3.frozen? ⟨w2.heap.size, 1, none⟩ = false := keepF hb3 (.int .u32 17) (by go_simp) (by go_simp)
  have c3_4 : w3.cell? ⟨w2.heap.size, 2, none⟩ = some (.int .u8 0) := keep hb3 (by go_simp)
  have f3_4 : w3.frozen? ⟨w2.heap.size, 2, none⟩ = false := keepF hb3 (.int .u8 0) (by go_simp) (by go_simp)
  have c3_5 : w3.cell? ⟨w2.heap.size, 3, none⟩ = some (.bool false) := keep hb3 (by go_simp)
  have f3_5 : w3.frozen? ⟨w2.heap.size, 3, none⟩ = false := keepF hb3 (.bool false) (by go_simp) (by go_simp)
  have c3_6 : w3.cell? ⟨w2.heap.size, 4, none⟩ = some (.slice none 0 0) := keep hb3 (by go_simp)
  have f3_6 : w3.frozen? ⟨w2.heap.size, 4, none⟩ = false := keepF hb3 (.slice none 0 0) (by go_simp) (by go_simp)
  clear c2_0 f2_0 c2_1 f2_1
  go_wp2_with fail
  with_reducible refine (take_at (x := 1) (e := 17) (y := 2) (by decide) (by decide) (by decide) (by decide) (by decide) _).mono ?_
  rintro e4 w4 ⟨rfl, hb4⟩
  have yw4 : w.heap.size ≤ w4.heap.size := by (have := hb4.size; (try simp at this); omega)
  have c4_0 : w4.cell? ⟨w1.heap.size, 0, none⟩ = some (.int .u32 1) := keep hb4 (by go_simp)
  have f4_0 : w4.frozen? ⟨w1.heap.size, 0, none⟩ = false := keepF hb4 (.int .u32 1) (by go_simp) (by go_simp)
  have zw4_0 := cell_lt c4_0
  have c4_1 : w4.cell? ⟨w1.heap.size, 1, none⟩ = some (.int .u32 1) := keep hb4 (by go_simp)
  have f4_1 : w4.frozen? ⟨w1.heap.size, 1, none⟩ = false := keepF hb4 (.int .u32 1) (by go_simp) (by go_simp)
  have c4_2 : w4.cell? ⟨w2.heap.size, 0, none⟩ = some (.int .u8 1) := keep hb4 (by go_simp)
  have f4_2 : w4.frozen? ⟨w2.heap.size, 0, none⟩ = false := keepF hb4 (.int .u8 1) (by go_simp) (by go_simp)
  have zw4_2 := cell_lt c4_2
  have c4_3 : w4.cell? ⟨w2.heap.size, 1, none⟩ = some (.int .u32 17) := keep hb4 (by go_simp)
  have f4_3 : w4.frozen? ⟨w2.heap.size, 1, none⟩ = false := keepF hb4 (.int .u32 17) (by go_simp) (by go_simp)
  have c4_4 : w4.cell? ⟨w2.heap.size, 2, none⟩ = some (.int .u8 0) := keep hb4 (by go_simp)
  have f4_4 : w4.frozen? ⟨w2.heap.size, 2, none⟩ = false := keepF hb4 (.int .u8 0) (by go_simp) (by go_simp)
  have c4_5 : w4.cell? ⟨w2.heap.size, 3, none⟩ = some (.bool false) := keep hb4 (by go_simp)
  have f4_5 : w4.frozen? ⟨w2.heap.size, 3, none⟩ = false := keepF hb4 (.bool false) (by go_simp) (by go_simp)
  have c4_6 : w4.cell? ⟨w2.heap.size, 4, none⟩ = some (.slice none 0 0) := keep hb4 (by go_simp)
  have f4_6 : w4.frozen? ⟨w2.heap.size, 4, none⟩ = false := keepF hb4 (.slice none 0 0) (by go_simp) (by go_simp)
  have c4_7 : w4.cell? ⟨w3.heap.size, 0, none⟩ = some (.int .u32 1) := keep hb4 (by go_simp)
  have f4_7 : w4.frozen? ⟨w3.heap.size, 0, none⟩ = false := keepF hb4 (.int .u32 1) (by go_simp) (by go_simp)
  have zw4_7 := cell_lt c4_7
  have c4_8 : w4.cell? ⟨w3.heap.size, 1, none⟩ = some (.int .u32 17) := keep hb4 (by go_simp)
  have f4_8 : w4.frozen? ⟨w3.heap.size, 1, none⟩ = false := keepF hb4 (.int .u32 17) (by go_simp) (by go_simp)
  clear c3_0 f3_0 c3_1 f3_1 c3_2 f3_2 c3_3 f3_3 c3_4 f3_4 c3_5 f3_5 c3_6 f3_6
  go_wp2_with fail
  with_reducible refine (need_no2 4294967295 _ (by decide)).mono ?_
  rintro e5 w5 ⟨rfl, hb5⟩
  have yw5 : w.heap.size ≤ w5.heap.size := by (have := hb5.size; (try simp at this); omega)
  have c5_0 : w5.cell? ⟨w1.heap.size, 0, none⟩ = some (.int .u32 1) := keep hb5 (by go_simp)
  have f5_0 : w5.frozen? ⟨w1.heap.size, 0, none⟩ = false := keepF hb5 (.int .u32 1) (by go_simp) (by go_simp)
  have zw5_0 := cell_lt c5_0
  have c5_1 : w5.cell? ⟨w1.heap.size, 1, none⟩ = some (.int .u32 1) := keep hb5 (by go_simp)
  have f5_1 : w5.frozen? ⟨w1.heap.size, 1, none⟩ = false := keepF hb5 (.int .u32 1) (by go_simp) (by go_simp)
  have c5_2 : w5.cell? ⟨w2.heap.size, 0, none⟩ = some (.int .u8 1) := keep hb5 (by go_simp)
  have f5_2 : w5.frozen? ⟨w2.heap.size, 0, none⟩ = false := keepF hb5 (.int .u8 1) (by go_simp) (by go_simp)
  have zw5_2 := cell_lt c5_2
  have c5_3 : w5.cell? ⟨w2.heap.size, 1, none⟩ = some (.int .u32 17) := keep hb5 (by go_simp)
  have f5_3 : w5.frozen? ⟨w2.heap.size, 1, none⟩ = false := keepF hb5 (.int .u32 17) (by go_simp) (by go_simp)
  have c5_4 : w5.cell? ⟨w2.heap.size, 2, none⟩ = some (.int .u8 0) := keep hb5 (by go_simp)
  have f5_4 : w5.frozen? ⟨w2.heap.size, 2, none⟩ = false := keepF hb5 (.int .u8 0) (by go_simp) (by go_simp)
  have c5_5 : w5.cell? ⟨w2.heap.size, 3, none⟩ = some (.bool false) := keep hb5 (by go_simp)
  have f5_5 : w5.frozen? ⟨w2.heap.size, 3, none⟩ = false := keepF hb5 (.bool false) (by go_simp) (by go_simp)
  have c5_6 : w5.cell? ⟨w2.heap.size, 4, none⟩ = some (.slice none 0 0) := keep hb5 (by go_simp)
  have f5_6 : w5.frozen? ⟨w2.heap.size, 4, none⟩ = false := keepF hb5 (.slice none 0 0) (by go_simp) (by go_simp)
  have c5_7 : w5.cell? ⟨w3.heap.size, 0, none⟩ = some (.int .u32 1) := keep hb5 (by go_simp)
  have f5_7 : w5.frozen? ⟨w3.heap.size, 0, none⟩ = false := keepF hb5 (.int .u32 1) (by go_simp) (by go_simp)
  have zw5_7 := cell_lt c5_7
  have c5_8 : w5.cell? ⟨w3.heap.size, 1, none⟩ = some (.int .u32 17) := keep hb5 (by go_simp)
  have f5_8 : w5.frozen? ⟨w3.heap.size, 1, none⟩ = false := keepF hb5 (.int .u32 17) (by go_simp) (by go_simp)
  have c5_9 : w5.cell? ⟨w4.heap.size, 0, none⟩ = some (.int .u32 2) := keep hb5 (by go_simp)
  have f5_9 : w5.frozen? ⟨w4.heap.size, 0, none⟩ = false := keepF hb5 (.int .u32 2) (by go_simp) (by go_simp)
  have zw5_9 := cell_lt c5_9
  have c5_10 : w5.cell? ⟨w4.heap.size, 1, none⟩ = some (.int .u32 17) := keep hb5 (by go_simp)
  have f5_10 : w5.frozen? ⟨w4.heap.size, 1, none⟩ = false := keepF hb5 (.int .u32 17) (by go_simp) (by go_simp)
  clear c4_0 f4_0 c4_1 f4_1 c4_2 f4_2 c4_3 f4_3 c4_4 f4_4 c4_5 f4_5 c4_6 f4_6 c4_7 f4_7 c4_8 f4_8
  go_wp2_with fail
  with_reducible refine (take_spent 4294967295 4294967295 _ rfl).mono ?_
  rintro e6 w6 ⟨rfl, hb6⟩
  have yw6 : w.heap.size ≤ w6.heap.size := by (have := hb6.size; (try simp at this); omega)
  have c6_0 : w6.cell? ⟨w1.heap.size, 0, none⟩ = some (.int .u32 1) := keep hb6 (by go_simp)
  have f6_0 : w6.frozen? ⟨w1.heap.size, 0, none⟩ = false := keepF hb6 (.int .u32 1) (by go_simp) (by go_simp)
  have zw6_0 := cell_lt c6_0
  have c6_1 : w6.cell? ⟨w1.heap.size, 1, none⟩ = some (.int .u32 1) := keep hb6 (by go_simp)
  have f6_1 : w6.frozen? ⟨w1.heap.size, 1, none⟩ = false := keepF hb6 (.int .u32 1) (by go_simp) (by go_simp)
  have c6_2 : w6.cell? ⟨w2.heap.size, 0, none⟩ = some (.int .u8 1) := keep hb6 (by go_simp)
  have f6_2 : w6.frozen? ⟨w2.heap.size, 0, none⟩ = false := keepF hb6 (.int .u8 1) (by go_simp) (by go_simp)
  have zw6_2 := cell_lt c6_2
  have c6_3 : w6.cell? ⟨w2.heap.size, 1, none⟩ = some (.int .u32 17) := keep hb6 (by go_simp)
  have f6_3 : w6.frozen? ⟨w2.heap.size, 1, none⟩ = false := keepF hb6 (.int .u32 17) (by go_simp) (by go_simp)
  have c6_4 : w6.cell? ⟨w2.heap.size, 2, none⟩ = some (.int .u8 0) := keep hb6 (by go_simp)
  have f6_4 : w6.frozen? ⟨w2.heap.size, 2, none⟩ = false := keepF hb6 (.int .u8 0) (by go_simp) (by go_simp)
  have c6_5 : w6.cell? ⟨w2.heap.size, 3, none⟩ = some (.bool false) := keep hb6 (by go_simp)
  have f6_5 : w6.frozen? ⟨w2.heap.size, 3, none⟩ = false := keepF hb6 (.bool false) (by go_simp) (by go_simp)
  have c6_6 : w6.cell? ⟨w2.heap.size, 4, none⟩ = some (.slice none 0 0) := keep hb6 (by go_simp)
  have f6_6 : w6.frozen? ⟨w2.heap.size, 4, none⟩ = false := keepF hb6 (.slice none 0 0) (by go_simp) (by go_simp)
  have c6_7 : w6.cell? ⟨w3.heap.size, 0, none⟩ = some (.int .u32 1) := keep hb6 (by go_simp)
  have f6_7 : w6.frozen? ⟨w3.heap.size, 0, none⟩ = false := keepF hb6 (.int .u32 1) (by go_simp) (by go_simp)
  have zw6_7 := cell_lt c6_7
  have c6_8 : w6.cell? ⟨w3.heap.size, 1, none⟩ = some (.int .u32 17) := keep hb6 (by go_simp)
  have f6_8 : w6.frozen? ⟨w3.heap.size, 1, none⟩ = false := keepF hb6 (.int .u32 17) (by go_simp) (by go_simp)
  have c6_9 : w6.cell? ⟨w4.heap.size, 0, none⟩ = some (.int .u32 2) := keep hb6 (by go_simp)
  have f6_9 : w6.frozen? ⟨w4.heap.size, 0, none⟩ = false := keepF hb6 (.int .u32 2) (by go_simp) (by go_simp)
  have zw6_9 := cell_lt c6_9
  have c6_10 : w6.cell? ⟨w4.heap.size, 1, none⟩ = some (.int .u32 17) := keep hb6 (by go_simp)
  have f6_10 : w6.frozen? ⟨w4.heap.size, 1, none⟩ = false := keepF hb6 (.int .u32 17) (by go_simp) (by go_simp)
  clear c5_0 f5_0 c5_1 f5_1 c5_2 f5_2 c5_3 f5_3 c5_4 f5_4 c5_5 f5_5 c5_6 f5_6 c5_7 f5_7 c5_8 f5_8 c5_9 f5_9 c5_10 f5_10
  go_wp2_with fail
  with_reducible refine (need_at (e := 4294967291) (t := 4294967295) (by decide) (by decide) (by decide) _).mono ?_
  rintro e7 w7 ⟨rfl, hb7⟩
  have yw7 : w.heap.size ≤ w7.heap.size := by (have := hb7.size; (try simp at this); omega)
  have c7_0 : w7.cell? ⟨w1.heap.size, 0, none⟩ = some (.int .u32 1) := keep hb7 (by go_simp)
  have f7_0 : w7.frozen? ⟨w1.heap.size, 0, none⟩ = false := keepF hb7 (.int .u32 1) (by go_simp) (by go_simp)
  have zw7_0 := cell_lt c7_0
  have c7_1 : w7.cell? ⟨w1.heap.size, 1, none⟩ = some (.int .u32 1) := keep hb7 (by go_simp)
  have f7_1 : w7.frozen? ⟨w1.heap.size, 1, none⟩ = false := keepF hb7 (.int .u32 1) (by go_simp) (by go_simp)
  have c7_2 : w7.cell? ⟨w2.heap.size, 0, none⟩ = some (.int .u8 1) := keep hb7 (by go_simp)
  have f7_2 : w7.frozen? ⟨w2.heap.size, 0, none⟩ = false := keepF hb7 (.int .u8 1) (by go_simp) (by go_simp)
  have zw7_2 := cell_lt c7_2
  have c7_3 : w7.cell? ⟨w2.heap.size, 1, none⟩ = some (.int .u32 17) := keep hb7 (by go_simp)
  have f7_3 : w7.frozen? ⟨w2.heap.size, 1, none⟩ = false := keepF hb7 (.int .u32 17) (by go_simp) (by go_simp)
  have c7_4 : w7.cell? ⟨w2.heap.size, 2, none⟩ = some (.int .u8 0) := keep hb7 (by go_simp)
  have f7_4 : w7.frozen? ⟨w2.heap.size, 2, none⟩ = false := keepF hb7 (.int .u8 0) (by go_simp) (by go_simp)
  have c7_5 : w7.cell? ⟨w2.heap.size, 3, none⟩ = some (.bool false) := keep hb7 (by go_simp)
  have f7_5 : w7.frozen? ⟨w2.heap.size, 3, none⟩ = false := keepF hb7 (.bool false) (by go_simp) (by go_simp)
  have c7_6 : w7.cell? ⟨w2.heap.size, 4, none⟩ = some (.slice none 0 0) := keep hb7 (by go_simp)
  have f7_6 : w7.frozen? ⟨w2.heap.size, 4, none⟩ = false := keepF hb7 (.slice none 0 0) (by go_simp) (by go_simp)
  have c7_7 : w7.cell? ⟨w3.heap.size, 0, none⟩ = some (.int .u32 1) := keep hb7 (by go_simp)
  have f7_7 : w7.frozen? ⟨w3.heap.size, 0, none⟩ = false := keepF hb7 (.int .u32 1) (by go_simp) (by go_simp)
  have zw7_7 := cell_lt c7_7
  have c7_8 : w7.cell? ⟨w3.heap.size, 1, none⟩ = some (.int .u32 17) := keep hb7 (by go_simp)
  have f7_8 : w7.frozen? ⟨w3.heap.size, 1, none⟩ = false := keepF hb7 (.int .u32 17) (by go_simp) (by go_simp)
  have c7_9 : w7.cell? ⟨w4.heap.size, 0, none⟩ = some (.int .u32 2) := keep hb7 (by go_simp)
  have f7_9 : w7.frozen? ⟨w4.heap.size, 0, none⟩ = false := keepF hb7 (.int .u32 2) (by go_simp) (by go_simp)
  have zw7_9 := cell_lt c7_9
  have c7_10 : w7.cell? ⟨w4.heap.size, 1, none⟩ = some (.int .u32 17) := keep hb7 (by go_simp)
  have f7_10 : w7.frozen? ⟨w4.heap.size, 1, none⟩ = false := keepF hb7 (.int .u32 17) (by go_simp) (by go_simp)
  clear c6_0 f6_0 c6_1 f6_1 c6_2 f6_2 c6_3 f6_3 c6_4 f6_4 c6_5 f6_5 c6_6 f6_6 c6_7 f6_7 c6_8 f6_8 c6_9 f6_9 c6_10 f6_10
  go_wp2_with fail
  with_reducible refine (open_one _ 17 _ ?qc0 ?qc1 ?qc2 ?qc3 ?qc4).mono ?_
  case qc0 => go_simp
  case qc1 => go_simp
  case qc2 => go_simp
  case qc3 => go_simp
  case qc4 => go_simp
  rintro e8 w8 ⟨rfl, hb8⟩
  have yw8 : w.heap.size ≤ w8.heap.size := by (have := hb8.size; (try simp at this); omega)
  have c8_0 : w8.cell? ⟨w1.heap.size, 0, none⟩ = some (.int .u32 1) := keep hb8 (by go_simp)
  have f8_0 : w8.frozen? ⟨w1.heap.size, 0, none⟩ = false := keepF hb8 (.int .u32 1) (by go_simp) (by go_simp)
  have zw8_0 := cell_lt c8_0
  have c8_1 : w8.cell? ⟨w1.heap.size, 1, none⟩ = some (.int .u32 1) := keep hb8 (by go_simp)
  have f8_1 : w8.frozen? ⟨w1.heap.size, 1, none⟩ = false := keepF hb8 (.int .u32 1) (by go_simp) (by go_simp)
  have c8_2 : w8.cell? ⟨w2.heap.size, 0, none⟩ = some (.int .u8 1) := keep hb8 (by go_simp)
  have f8_2 : w8.frozen? ⟨w2.heap.size, 0, none⟩ = false := keepF hb8 (.int .u8 1) (by go_simp) (by go_simp)
  have zw8_2 := cell_lt c8_2
  have c8_3 : w8.cell? ⟨w2.heap.size, 1, none⟩ = some (.int .u32 17) := keep hb8 (by go_simp)
  have f8_3 : w8.frozen? ⟨w2.heap.size, 1, none⟩ = false := keepF hb8 (.int .u32 17) (by go_simp) (by go_simp)
  have c8_4 : w8.cell? ⟨w2.heap.size, 2, none⟩ = some (.int .u8 0) := keep hb8 (by go_simp)
  have f8_4 : w8.frozen? ⟨w2.heap.size, 2, none⟩ = false := keepF hb8 (.int .u8 0) (by go_simp) (by go_simp)
  have c8_5 : w8.cell? ⟨w2.heap.size, 3, none⟩ = some (.bool false) := keep hb8 (by go_simp)
  have f8_5 : w8.frozen? ⟨w2.heap.size, 3, none⟩ = false := keepF hb8 (.bool false) (by go_simp) (by go_simp)
  have c8_6 : w8.cell? ⟨w2.heap.size, 4, none⟩ = some (.slice none 0 0) := keep hb8 (by go_simp)
  have f8_6 : w8.frozen? ⟨w2.heap.size, 4, none⟩ = false := keepF hb8 (.slice none 0 0) (by go_simp) (by go_simp)
  have c8_7 : w8.cell? ⟨w3.heap.size, 0, none⟩ = some (.int .u32 1) := keep hb8 (by go_simp)
  have f8_7 : w8.frozen? ⟨w3.heap.size, 0, none⟩ = false := keepF hb8 (.int .u32 1) (by go_simp) (by go_simp)
  have zw8_7 := cell_lt c8_7
  have c8_8 : w8.cell? ⟨w3.heap.size, 1, none⟩ = some (.int .u32 17) := keep hb8 (by go_simp)
  have f8_8 : w8.frozen? ⟨w3.heap.size, 1, none⟩ = false := keepF hb8 (.int .u32 17) (by go_simp) (by go_simp)
  have c8_9 : w8.cell? ⟨w4.heap.size, 0, none⟩ = some (.int .u32 2) := keep hb8 (by go_simp)
  have f8_9 : w8.frozen? ⟨w4.heap.size, 0, none⟩ = false := keepF hb8 (.int .u32 2) (by go_simp) (by go_simp)
  have zw8_9 := cell_lt c8_9
  have c8_10 : w8.cell? ⟨w4.heap.size, 1, none⟩ = some (.int .u32 17) := keep hb8 (by go_simp)
  have f8_10 : w8.frozen? ⟨w4.heap.size, 1, none⟩ = false := keepF hb8 (.int .u32 17) (by go_simp) (by go_simp)
  have c8_11 : w8.cell? ⟨w7.heap.size, 0, none⟩ = some (.int .u8 1) := keep hb8 (by go_simp)
  have f8_11 : w8.frozen? ⟨w7.heap.size, 0, none⟩ = false := keepF hb8 (.int .u8 1) (by go_simp) (by go_simp)
  have zw8_11 := cell_lt c8_11
  have c8_12 : w8.cell? ⟨w7.heap.size, 1, none⟩ = some (.int .u32 4294967295) := keep hb8 (by go_simp)
  have f8_12 : w8.frozen? ⟨w7.heap.size, 1, none⟩ = false := keepF hb8 (.int .u32 4294967295) (by go_simp) (by go_simp)
  have c8_13 : w8.cell? ⟨w7.heap.size, 2, none⟩ = some (.int .u8 0) := keep hb8 (by go_simp)
  have f8_13 : w8.frozen? ⟨w7.heap.size, 2, none⟩ = false := keepF hb8 (.int .u8 0) (by go_simp) (by go_simp)
  have c8_14 : w8.cell? ⟨w7.heap.size, 3, none⟩ = some (.bool false) := keep hb8 (by go_simp)
  have f8_14 : w8.frozen? ⟨w7.heap.size, 3, none⟩ = false := keepF hb8 (.bool false) (by go_simp) (by go_simp)
  have c8_15 : w8.cell? ⟨w7.heap.size, 4, none⟩ = some (.slice none 0 0) := keep hb8 (by go_simp)
  have f8_15 : w8.frozen? ⟨w7.heap.size, 4, none⟩ = false := keepF hb8 (.slice none 0 0) (by go_simp) (by go_simp)
  clear c7_0 f7_0 c7_1 f7_1 c7_2 f7_2 c7_3 f7_3 c7_4 f7_4 c7_5 f7_5 c7_6 f7_6 c7_7 f7_7 c7_8 f7_8 c7_9 f7_9 c7_10 f7_10
  go_wp2_with fail
  go_ret
  exact ⟨rfl, (by repeat (first | assumption | exact Below.refl _ _ | refine balloc ?_ _ | refine bset ?_ (by first | (simp; done) | (simp; omega)) _ | refine bdrew ?_ | refine bstep ?_ (by assumption)))⟩

set_option maxRecDepth 100000 in
set_option maxHeartbeats 4000000 in
theorem rows_walk (f m : Int) (w : World) (hf : 0 ≤ f ∧ f ≤ 4294967295) (hm : 0 ≤ m ∧ m ≤ 255) :
    Calls Try.prog 3 #[.int .u32 f, .int .u8 m] w fun e' w' => e' = .returned (.bool true) ∧ Below w.heap.size w w' := by
  obtain ⟨hf0, hf1⟩ := hf
  obtain ⟨hm0, hm1⟩ := hm
  go_enter Try.func3, Try.ntmps3
  go_wp2_with fail
  with_reducible refine (open_one _ f _ ?qc0 ?qc1 ?qc2 ?qc3 ?qc4).mono ?_
  case qc0 => go_simp
  case qc1 => go_simp
  case qc2 => go_simp
  case qc3 => go_simp
  case qc4 => go_simp
  rintro e1 w1 ⟨rfl, hb1⟩
  have yw1 : w.heap.size ≤ w1.heap.size := by (have := hb1.size; (try simp at this); omega)
  have hb : 1 ≤ max f 1 ∧ max f 1 ≤ 4294967295 := by omega
  go_wp2_with fail
  generalize max f 1 = b at *
  obtain ⟨hb0, hb2⟩ := hb
  have hN : 0 ≤ m % 101 ∧ m % 101 ≤ 100 := by omega
  generalize m % 101 = N at *
  obtain ⟨hN0, hN1⟩ := hN
  go_loopw [33] (fun i wr => ∃ k X E : Int, 0 ≤ k ∧ k ≤ N ∧ i = .int .i64 k ∧ Hid (X = b + k ∧ E = min (b + 16 * ((k + 15) / 16)) 4294967295) ∧ X ≤ 4294967295 ∧ wr.cell? ⟨w1.heap.size, 0, none⟩ = some (.int .u32 (X)) ∧ wr.cell? ⟨w1.heap.size, 1, none⟩ = some (.int .u32 (E)) ∧ wr.frozen? ⟨w1.heap.size, 0, none⟩ = false ∧ wr.frozen? ⟨w1.heap.size, 1, none⟩ = false ∧ w1.heap.size < wr.heap.size ∧ Below w.heap.size w wr) (fun i _ => (N - intOf i).toNat)
  case atStart => exact ⟨0, b, b, by omega, by omega, rfl, Lib.hid ⟨by omega, by omega⟩, by omega, by go_simp, by go_simp, by go_simp, by go_simp, (by first | omega | (simp; done) | (simp; omega)), (by repeat (first | assumption | exact Below.refl _ _ | refine balloc ?_ _ | refine bset ?_ (by first | (simp; done) | (simp; omega)) _ | refine bdrew ?_ | refine bstep ?_ (by assumption)))⟩
  case round =>
    obtain ⟨k, X, E, hk0, hk1, rfl, HE, hX1, c0, c1, f0, f1, hz, hBel⟩ := hrel
    have hwr := hBel.size
    have hbk : b + k = X := HE.out.1.symm
    have hE := HE.out.2
    have hX0 : 1 ≤ X := by omega
    by_cases hlt : k < N
    · by_cases hX : X = 4294967295
      · subst hX
        obtain rfl : E = 4294967295 := by omega
        clear hE
        cases hkb : (k % 16 == 0)
        all_goals
          go_wp2_with fail
          with_reducible refine (need_no2 4294967295 _ (by decide)).mono ?_
          rintro e3 w3 ⟨rfl, hb3⟩
          have yw3 : w.heap.size ≤ w3.heap.size := by (have := hb3.size; (try simp at this); omega)
          have c3_0 : w3.cell? ⟨w1.heap.size, 0, none⟩ = some (.int .u32 4294967295) := keep hb3 (by go_simp)
          have f3_0 : w3.frozen? ⟨w1.heap.size, 0, none⟩ = false := keepF hb3 (.int .u32 4294967295) (by go_simp) (by go_simp)
          have zw3_0 := cell_lt c3_0
          have c3_1 : w3.cell? ⟨w1.heap.size, 1, none⟩ = some (.int .u32 4294967295) := keep hb3 (by go_simp)
          have f3_1 : w3.frozen? ⟨w1.heap.size, 1, none⟩ = false := keepF hb3 (.int .u32 4294967295) (by go_simp) (by go_simp)
          go_wp2_with fail
          with_reducible refine (take_spent 4294967295 4294967295 _ rfl).mono ?_
          rintro e4 w4 ⟨rfl, hb4⟩
          have yw4 : w.heap.size ≤ w4.heap.size := by (have := hb4.size; (try simp at this); omega)
          have c4_0 : w4.cell? ⟨w1.heap.size, 0, none⟩ = some (.int .u32 4294967295) := keep hb4 (by go_simp)
          have f4_0 : w4.frozen? ⟨w1.heap.size, 0, none⟩ = false := keepF hb4 (.int .u32 4294967295) (by go_simp) (by go_simp)
          have zw4_0 := cell_lt c4_0
          have c4_1 : w4.cell? ⟨w1.heap.size, 1, none⟩ = some (.int .u32 4294967295) := keep hb4 (by go_simp)
          have f4_1 : w4.frozen? ⟨w1.heap.size, 1, none⟩ = false := keepF hb4 (.int .u32 4294967295) (by go_simp) (by go_simp)
          have c4_2 : w4.cell? ⟨w3.heap.size, 0, none⟩ = some (.int .u8 0) := keep hb4 (by go_simp)
          have f4_2 : w4.frozen? ⟨w3.heap.size, 0, none⟩ = false := keepF hb4 (.int .u8 0) (by go_simp) (by go_simp)
          have zw4_2 := cell_lt c4_2
          have c4_3 : w4.cell? ⟨w3.heap.size, 1, none⟩ = some (.int .u32 0) := keep hb4 (by go_simp)
          have f4_3 : w4.frozen? ⟨w3.heap.size, 1, none⟩ = false := keepF hb4 (.int .u32 0) (by go_simp) (by go_simp)
          have c4_4 : w4.cell? ⟨w3.heap.size, 2, none⟩ = some (.int .u8 0) := keep hb4 (by go_simp)
          have f4_4 : w4.frozen? ⟨w3.heap.size, 2, none⟩ = false := keepF hb4 (.int .u8 0) (by go_simp) (by go_simp)
          have c4_5 : w4.cell? ⟨w3.heap.size, 3, none⟩ = some (.bool false) := keep hb4 (by go_simp)
          have f4_5 : w4.frozen? ⟨w3.heap.size, 3, none⟩ = false := keepF hb4 (.bool false) (by go_simp) (by go_simp)
          have c4_6 : w4.cell? ⟨w3.heap.size, 4, none⟩ = some (.slice none 0 0) := keep hb4 (by go_simp)
          have f4_6 : w4.frozen? ⟨w3.heap.size, 4, none⟩ = false := keepF hb4 (.slice none 0 0) (by go_simp) (by go_simp)
          clear c3_0 f3_0 c3_1 f3_1
          go_wp2_with fail
          with_reducible refine (awake24_any _).mono ?_
          rintro e5 w5 ⟨rfl, hb5⟩
          have yw5 : w.heap.size ≤ w5.heap.size := by (have := hb5.size; (try simp at this); omega)
          have c5_0 : w5.cell? ⟨w1.heap.size, 0, none⟩ = some (.int .u32 4294967295) := keep hb5 (by go_simp)
          have f5_0 : w5.frozen? ⟨w1.heap.size, 0, none⟩ = false := keepF hb5 (.int .u32 4294967295) (by go_simp) (by go_simp)
          have zw5_0 := cell_lt c5_0
          have c5_1 : w5.cell? ⟨w1.heap.size, 1, none⟩ = some (.int .u32 4294967295) := keep hb5 (by go_simp)
          have f5_1 : w5.frozen? ⟨w1.heap.size, 1, none⟩ = false := keepF hb5 (.int .u32 4294967295) (by go_simp) (by go_simp)
          have c5_2 : w5.cell? ⟨w3.heap.size, 0, none⟩ = some (.int .u8 0) := keep hb5 (by go_simp)
          have f5_2 : w5.frozen? ⟨w3.heap.size, 0, none⟩ = false := keepF hb5 (.int .u8 0) (by go_simp) (by go_simp)
          have zw5_2 := cell_lt c5_2
          have c5_3 : w5.cell? ⟨w3.heap.size, 1, none⟩ = some (.int .u32 0) := keep hb5 (by go_simp)
          have f5_3 : w5.frozen? ⟨w3.heap.size, 1, none⟩ = false := keepF hb5 (.int .u32 0) (by go_simp) (by go_simp)
          have c5_4 : w5.cell? ⟨w3.heap.size, 2, none⟩ = some (.int .u8 0) := keep hb5 (by go_simp)
          have f5_4 : w5.frozen? ⟨w3.heap.size, 2, none⟩ = false := keepF hb5 (.int .u8 0) (by go_simp) (by go_simp)
          have c5_5 : w5.cell? ⟨w3.heap.size, 3, none⟩ = some (.bool false) := keep hb5 (by go_simp)
          have f5_5 : w5.frozen? ⟨w3.heap.size, 3, none⟩ = false := keepF hb5 (.bool false) (by go_simp) (by go_simp)
          have c5_6 : w5.cell? ⟨w3.heap.size, 4, none⟩ = some (.slice none 0 0) := keep hb5 (by go_simp)
          have f5_6 : w5.frozen? ⟨w3.heap.size, 4, none⟩ = false := keepF hb5 (.slice none 0 0) (by go_simp) (by go_simp)
          have c5_7 : w5.cell? ⟨w4.heap.size, 0, none⟩ = some (.int .u32 4294967295) := keep hb5 (by go_simp)
          have f5_7 : w5.frozen? ⟨w4.heap.size, 0, none⟩ = false := keepF hb5 (.int .u32 4294967295) (by go_simp) (by go_simp)
          have zw5_7 := cell_lt c5_7
          have c5_8 : w5.cell? ⟨w4.heap.size, 1, none⟩ = some (.int .u32 4294967295) := keep hb5 (by go_simp)
          have f5_8 : w5.frozen? ⟨w4.heap.size, 1, none⟩ = false := keepF hb5 (.int .u32 4294967295) (by go_simp) (by go_simp)
          clear c4_0 f4_0 c4_1 f4_1 c4_2 f4_2 c4_3 f4_3 c4_4 f4_4 c4_5 f4_5 c4_6 f4_6
          go_wp2_with fail
          go_ret
          exact ⟨rfl, (by repeat (first | assumption | exact Below.refl _ _ | refine balloc ?_ _ | refine bset ?_ (by first | (simp; done) | (simp; omega)) _ | refine bdrew ?_ | refine bstep ?_ (by assumption)))⟩
      · have g1 : decide (X < 4294967295) = true := by simp; omega
        have g2 : decide (4294967295 ≤ X) = false := by simp; omega
        by_cases hk : k % 16 = 0
        · have hkb : (k % 16 == 0) = true := by simpa using hk
          obtain rfl : X = E := by omega
          obtain ⟨T, hT⟩ : ∃ T, min (X + 16) 4294967295 = T := ⟨_, rfl⟩
          have HT := Lib.hid hT
          have HK := Lib.hid hk
          have HEE := Lib.hid hE
          have HBK := Lib.hid hbk
          have hTE : X < T ∧ T ≤ 4294967295 := by omega
          obtain ⟨hTE1, hTE2⟩ := hTE
          clear hT hk hE
          go_wp2_with fail
          with_reducible refine (need_at (e := X) (t := T) HT.out (by omega) (by omega) _).mono ?_
          rintro e3 w3 ⟨rfl, hb3⟩
          have yw3 : w.heap.size ≤ w3.heap.size := by (have := hb3.size; (try simp at this); omega)
          have c3_0 : w3.cell? ⟨w1.heap.size, 0, none⟩ = some (.int .u32 X) := keep hb3 (by go_simp)
          have f3_0 : w3.frozen? ⟨w1.heap.size, 0, none⟩ = false := keepF hb3 (.int .u32 X) (by go_simp) (by go_simp)
          have zw3_0 := cell_lt c3_0
          have c3_1 : w3.cell? ⟨w1.heap.size, 1, none⟩ = some (.int .u32 X) := keep hb3 (by go_simp)
          have f3_1 : w3.frozen? ⟨w1.heap.size, 1, none⟩ = false := keepF hb3 (.int .u32 X) (by go_simp) (by go_simp)
          go_wp2_with fail
          with_reducible refine (take_res X _ (by omega)).mono ?_
          rintro e4 w4 ⟨rfl, hb4⟩
          have yw4 : w.heap.size ≤ w4.heap.size := by (have := hb4.size; (try simp at this); omega)
          have c4_0 : w4.cell? ⟨w1.heap.size, 0, none⟩ = some (.int .u32 X) := keep hb4 (by go_simp)
          have f4_0 : w4.frozen? ⟨w1.heap.size, 0, none⟩ = false := keepF hb4 (.int .u32 X) (by go_simp) (by go_simp)
          have zw4_0 := cell_lt c4_0
          have c4_1 : w4.cell? ⟨w1.heap.size, 1, none⟩ = some (.int .u32 X) := keep hb4 (by go_simp)
          have f4_1 : w4.frozen? ⟨w1.heap.size, 1, none⟩ = false := keepF hb4 (.int .u32 X) (by go_simp) (by go_simp)
          have c4_2 : w4.cell? ⟨w3.heap.size, 0, none⟩ = some (.int .u8 1) := keep hb4 (by go_simp)
          have f4_2 : w4.frozen? ⟨w3.heap.size, 0, none⟩ = false := keepF hb4 (.int .u8 1) (by go_simp) (by go_simp)
          have zw4_2 := cell_lt c4_2
          have c4_3 : w4.cell? ⟨w3.heap.size, 1, none⟩ = some (.int .u32 T) := keep hb4 (by go_simp)
          have f4_3 : w4.frozen? ⟨w3.heap.size, 1, none⟩ = false := keepF hb4 (.int .u32 T) (by go_simp) (by go_simp)
          have c4_4 : w4.cell? ⟨w3.heap.size, 2, none⟩ = some (.int .u8 0) := keep hb4 (by go_simp)
          have f4_4 : w4.frozen? ⟨w3.heap.size, 2, none⟩ = false := keepF hb4 (.int .u8 0) (by go_simp) (by go_simp)
          have c4_5 : w4.cell? ⟨w3.heap.size, 3, none⟩ = some (.bool false) := keep hb4 (by go_simp)
          have f4_5 : w4.frozen? ⟨w3.heap.size, 3, none⟩ = false := keepF hb4 (.bool false) (by go_simp) (by go_simp)
          have c4_6 : w4.cell? ⟨w3.heap.size, 4, none⟩ = some (.slice none 0 0) := keep hb4 (by go_simp)
          have f4_6 : w4.frozen? ⟨w3.heap.size, 4, none⟩ = false := keepF hb4 (.slice none 0 0) (by go_simp) (by go_simp)
          clear c3_0 f3_0 c3_1 f3_1
          go_wp2_with fail
          with_reducible refine (reserved_at (e := X) (t := T) HT.out (by omega) (by omega) _).mono ?_
          rintro e5 w5 ⟨rfl, hb5⟩
          have yw5 : w.heap.size ≤ w5.heap.size := by (have := hb5.size; (try simp at this); omega)
          have c5_0 : w5.cell? ⟨w1.heap.size, 0, none⟩ = some (.int .u32 X) := keep hb5 (by go_simp)
          have f5_0 : w5.frozen? ⟨w1.heap.size, 0, none⟩ = false := keepF hb5 (.int .u32 X) (by go_simp) (by go_simp)
          have zw5_0 := cell_lt c5_0
          have c5_1 : w5.cell? ⟨w1.heap.size, 1, none⟩ = some (.int .u32 X) := keep hb5 (by go_simp)
          have f5_1 : w5.frozen? ⟨w1.heap.size, 1, none⟩ = false := keepF hb5 (.int .u32 X) (by go_simp) (by go_simp)
          have c5_2 : w5.cell? ⟨w3.heap.size, 0, none⟩ = some (.int .u8 1) := keep hb5 (by go_simp)
          have f5_2 : w5.frozen? ⟨w3.heap.size, 0, none⟩ = false := keepF hb5 (.int .u8 1) (by go_simp) (by go_simp)
          have zw5_2 := cell_lt c5_2
          have c5_3 : w5.cell? ⟨w3.heap.size, 1, none⟩ = some (.int .u32 T) := keep hb5 (by go_simp)
          have f5_3 : w5.frozen? ⟨w3.heap.size, 1, none⟩ = false := keepF hb5 (.int .u32 T) (by go_simp) (by go_simp)
          have c5_4 : w5.cell? ⟨w3.heap.size, 2, none⟩ = some (.int .u8 0) := keep hb5 (by go_simp)
          have f5_4 : w5.frozen? ⟨w3.heap.size, 2, none⟩ = false := keepF hb5 (.int .u8 0) (by go_simp) (by go_simp)
          have c5_5 : w5.cell? ⟨w3.heap.size, 3, none⟩ = some (.bool false) := keep hb5 (by go_simp)
          have f5_5 : w5.frozen? ⟨w3.heap.size, 3, none⟩ = false := keepF hb5 (.bool false) (by go_simp) (by go_simp)
          have c5_6 : w5.cell? ⟨w3.heap.size, 4, none⟩ = some (.slice none 0 0) := keep hb5 (by go_simp)
          have f5_6 : w5.frozen? ⟨w3.heap.size, 4, none⟩ = false := keepF hb5 (.slice none 0 0) (by go_simp) (by go_simp)
          clear c4_0 f4_0 c4_1 f4_1 c4_2 f4_2 c4_3 f4_3 c4_4 f4_4 c4_5 f4_5 c4_6 f4_6
          go_wp2_with fail
          with_reducible refine (take_ok X T _ (by omega) (by omega) (by omega) (by omega)).mono ?_
          rintro e6 w6 ⟨rfl, hb6⟩
          have yw6 : w.heap.size ≤ w6.heap.size := by (have := hb6.size; (try simp at this); omega)
          have c6_0 : w6.cell? ⟨w1.heap.size, 0, none⟩ = some (.int .u32 X) := keep hb6 (by go_simp)
          have f6_0 : w6.frozen? ⟨w1.heap.size, 0, none⟩ = false := keepF hb6 (.int .u32 X) (by go_simp) (by go_simp)
          have zw6_0 := cell_lt c6_0
          have c6_1 : w6.cell? ⟨w1.heap.size, 1, none⟩ = some (.int .u32 T) := keep hb6 (by go_simp)
          have f6_1 : w6.frozen? ⟨w1.heap.size, 1, none⟩ = false := keepF hb6 (.int .u32 T) (by go_simp) (by go_simp)
          have c6_2 : w6.cell? ⟨w3.heap.size, 0, none⟩ = some (.int .u8 1) := keep hb6 (by go_simp)
          have f6_2 : w6.frozen? ⟨w3.heap.size, 0, none⟩ = false := keepF hb6 (.int .u8 1) (by go_simp) (by go_simp)
          have zw6_2 := cell_lt c6_2
          have c6_3 : w6.cell? ⟨w3.heap.size, 1, none⟩ = some (.int .u32 T) := keep hb6 (by go_simp)
          have f6_3 : w6.frozen? ⟨w3.heap.size, 1, none⟩ = false := keepF hb6 (.int .u32 T) (by go_simp) (by go_simp)
          have c6_4 : w6.cell? ⟨w3.heap.size, 2, none⟩ = some (.int .u8 0) := keep hb6 (by go_simp)
          have f6_4 : w6.frozen? ⟨w3.heap.size, 2, none⟩ = false := keepF hb6 (.int .u8 0) (by go_simp) (by go_simp)
          have c6_5 : w6.cell? ⟨w3.heap.size, 3, none⟩ = some (.bool false) := keep hb6 (by go_simp)
          have f6_5 : w6.frozen? ⟨w3.heap.size, 3, none⟩ = false := keepF hb6 (.bool false) (by go_simp) (by go_simp)
          have c6_6 : w6.cell? ⟨w3.heap.size, 4, none⟩ = some (.slice none 0 0) := keep hb6 (by go_simp)
          have f6_6 : w6.frozen? ⟨w3.heap.size, 4, none⟩ = false := keepF hb6 (.slice none 0 0) (by go_simp) (by go_simp)
          have c6_7 : w6.cell? ⟨w5.heap.size, 0, none⟩ = some (.int .u32 X) := keep hb6 (by go_simp)
          have f6_7 : w6.frozen? ⟨w5.heap.size, 0, none⟩ = false := keepF hb6 (.int .u32 X) (by go_simp) (by go_simp)
          have zw6_7 := cell_lt c6_7
          have c6_8 : w6.cell? ⟨w5.heap.size, 1, none⟩ = some (.int .u32 T) := keep hb6 (by go_simp)
          have f6_8 : w6.frozen? ⟨w5.heap.size, 1, none⟩ = false := keepF hb6 (.int .u32 T) (by go_simp) (by go_simp)
          clear c5_0 f5_0 c5_1 f5_1 c5_2 f5_2 c5_3 f5_3 c5_4 f5_4 c5_5 f5_5 c5_6 f5_6
          go_wp2_with fail
          go_roundw
          case rel => exact ⟨k + 1, X + 1, T, by omega, by omega, rfl, Lib.hid ⟨by have := HBK.out; omega, by have := HT.out; have := HK.out; have := HEE.out; have := HBK.out; omega⟩, by omega, by go_simp, by go_simp, by go_simp, by go_simp, (by first | omega | (simp; done) | (simp; omega)), (by repeat (first | assumption | exact Below.refl _ _ | refine balloc ?_ _ | refine bset ?_ (by first | (simp; done) | (simp; omega)) _ | refine bdrew ?_ | refine bstep ?_ (by assumption)))⟩
          case measure => (try simp [intOf]); omega
        · have hkb : (k % 16 == 0) = false := by simpa using hk
          have HK := Lib.hid hk
          have HEE := Lib.hid hE
          have HBK := Lib.hid hbk
          have hXE : X < E ∧ E ≤ 4294967295 := by omega
          obtain ⟨hXE1, hXE2⟩ := hXE
          clear hk hE
          go_wp2_with fail
          with_reducible refine (need_no1 X E _ ⟨by omega, by omega⟩ ⟨by omega, by omega⟩ (by omega)).mono ?_
          rintro e3 w3 ⟨rfl, hb3⟩
          have yw3 : w.heap.size ≤ w3.heap.size := by (have := hb3.size; (try simp at this); omega)
          have c3_0 : w3.cell? ⟨w1.heap.size, 0, none⟩ = some (.int .u32 X) := keep hb3 (by go_simp)
          have f3_0 : w3.frozen? ⟨w1.heap.size, 0, none⟩ = false := keepF hb3 (.int .u32 X) (by go_simp) (by go_simp)
          have zw3_0 := cell_lt c3_0
          have c3_1 : w3.cell? ⟨w1.heap.size, 1, none⟩ = some (.int .u32 E) := keep hb3 (by go_simp)
          have f3_1 : w3.frozen? ⟨w1.heap.size, 1, none⟩ = false := keepF hb3 (.int .u32 E) (by go_simp) (by go_simp)
          go_wp2_with fail
          with_reducible refine (take_ok X E _ (by omega) (by omega) (by omega) (by omega)).mono ?_
          rintro e4 w4 ⟨rfl, hb4⟩
          have yw4 : w.heap.size ≤ w4.heap.size := by (have := hb4.size; (try simp at this); omega)
          have c4_0 : w4.cell? ⟨w1.heap.size, 0, none⟩ = some (.int .u32 X) := keep hb4 (by go_simp)
          have f4_0 : w4.frozen? ⟨w1.heap.size, 0, none⟩ = false := keepF hb4 (.int .u32 X) (by go_simp) (by go_simp)
          have zw4_0 := cell_lt c4_0
          have c4_1 : w4.cell? ⟨w1.heap.size, 1, none⟩ = some (.int .u32 E) := keep hb4 (by go_simp)
          have f4_1 : w4.frozen? ⟨w1.heap.size, 1, none⟩ = false := keepF hb4 (.int .u32 E) (by go_simp) (by go_simp)
          clear c3_0 f3_0 c3_1 f3_1
          go_wp2_with fail
          go_roundw
          case rel => exact ⟨k + 1, X + 1, E, by omega, by omega, rfl, Lib.hid ⟨by have := HBK.out; omega, by have := HK.out; have := HEE.out; have := HBK.out; omega⟩, by omega, by go_simp, by go_simp, by go_simp, by go_simp, (by first | omega | (simp; done) | (simp; omega)), (by repeat (first | assumption | exact Below.refl _ _ | refine balloc ?_ _ | refine bset ?_ (by first | (simp; done) | (simp; omega)) _ | refine bdrew ?_ | refine bstep ?_ (by assumption)))⟩
          case measure => (try simp [intOf]); omega
    · have hkN : k = N := by omega
      clear hE hbk
      subst hkN
      go_wp2_with fail
      with_reducible refine (awake24_any _).mono ?_
      rintro e3 w3 ⟨rfl, hb3⟩
      have yw3 : w.heap.size ≤ w3.heap.size := by (have := hb3.size; (try simp at this); omega)
      have c3_0 : w3.cell? ⟨w1.heap.size, 0, none⟩ = some (.int .u32 X) := keep hb3 (by go_simp)
      have f3_0 : w3.frozen? ⟨w1.heap.size, 0, none⟩ = false := keepF hb3 (.int .u32 X) (by go_simp) (by go_simp)
      have zw3_0 := cell_lt c3_0
      have c3_1 : w3.cell? ⟨w1.heap.size, 1, none⟩ = some (.int .u32 E) := keep hb3 (by go_simp)
      have f3_1 : w3.frozen? ⟨w1.heap.size, 1, none⟩ = false := keepF hb3 (.int .u32 E) (by go_simp) (by go_simp)
      go_wp2_with fail
      go_ret
      exact ⟨rfl, (by repeat (first | assumption | exact Below.refl _ _ | refine balloc ?_ _ | refine bset ?_ (by first | (simp; done) | (simp; omega)) _ | refine bdrew ?_ | refine bstep ?_ (by assumption)))⟩
end Go.Proofs.Ytnhfholodillaaa
