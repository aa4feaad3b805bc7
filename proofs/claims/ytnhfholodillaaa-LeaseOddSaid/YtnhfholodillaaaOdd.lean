/- The law LeaseOdd, walked: for any lease, owner and ticks it returns true and writes nothing that was there. -/
import Derived.Test.YtnhfholodillaaaD
namespace Go.Proofs.Ytnhfholodillaaa
open Go.RowKit

theorem odd1 (a b t : Int) : ∃ x y, tak a b 0 t = (x, y, 2) := by
  simp [tak, kept]; split <;> exact ⟨_, _, rfl⟩

theorem odd2 (a b o t : Int) (h : t < 1) : ∃ x y, tak a b o t = (x, y, 2) := by
  have : decide (1 ≤ t) = false := by simp; omega
  simp only [tak, kept, this]; simp; split <;> exact ⟨_, _, rfl⟩
theorem odd3 (a b n m : Int) : ∃ x y, own a b 0 n m = (x, y, 2) := by
  simp [own, kept]; split <;> exact ⟨_, _, rfl⟩
theorem odd_fre {a b : Int} (h : rgt a b = true) : fre a b = (a == 0) := by simp [fre, h]
theorem odd_no {a b : Int} (h : rgt a b = false) : fre a b = true := by simp [fre, h]
theorem odd5 {a b : Int} (o t : Int) (h : rgt a b = false) : tak a b o t = tak 0 0 o t := by
  have hf := odd_no h
  have h0 : fre 0 0 = true := by decide
  simp [tak, kept, hasB, hf, h0]
theorem odd6 {a b : Int} (o n m : Int) (h : rgt a b = false) : ∃ x y z, own a b o n m = (x, y, z) ∧ (z != 0) = true := by
  have hf := odd_no h
  by_cases ho : (o == 0) = true
  · exact ⟨0, 0, 2, by simp only [own, kept, ho, hf]; rfl, rfl⟩
  · simp only [Bool.not_eq_true] at ho
    exact ⟨0, 0, 22, by simp only [own, kept, hasB, ho, hf]; rfl, rfl⟩

set_option maxHeartbeats 2000000 in
theorem odd_walk (a b o t : Int) (w : World) (hlo : -9223372036854775808 ≤ b) (hhi : b ≤ 9223372036854775807) :
    Calls Try.prog 8 #[.agg #[.int .u16 a, .int .i64 b], .int .u16 o, .int .i64 t] w fun e' w' => e' = .returned (.bool true) ∧ Below w.heap.size w w' := by
  obtain ⟨x1, y1, h1⟩ := odd1 a b t
  obtain ⟨x2, y2, h2⟩ := odd2 a b o (min t 0) (by omega)
  obtain ⟨x3, y3, h3⟩ := odd3 a b 0 (-1)
  obtain ⟨x4, y4, h4⟩ := odd3 a b 0 0
  have H1 := Lib.hid h1; have H2 := Lib.hid h2; have H3 := Lib.hid h3; have H4 := Lib.hid h4
  clear h1 h2 h3 h4
  go_enter Try.func8, Try.ntmps8
  go_wp2_with fail
  with_reducible refine (tak_at H1.out _).mono ?_
  rintro e1 w1 ⟨rfl, hb1⟩
  have yw1 : w.heap.size ≤ w1.heap.size := by (have := hb1.size; (try simp at this); omega)
  have c1_0 : w1.cell? ⟨w.heap.size, 0, none⟩ = some (.int .u16 a) := keep hb1 (by go_simp)
  have f1_0 : w1.frozen? ⟨w.heap.size, 0, none⟩ = false := keepF hb1 (.int .u16 a) (by go_simp) (by go_simp)
  have zw1_0 := cell_lt c1_0
  have c1_1 : w1.cell? ⟨w.heap.size, 1, none⟩ = some (.int .i64 b) := keep hb1 (by go_simp)
  have f1_1 : w1.frozen? ⟨w.heap.size, 1, none⟩ = false := keepF hb1 (.int .i64 b) (by go_simp) (by go_simp)
  go_wp2_with fail
  with_reducible refine (tak_at H2.out _).mono ?_
  rintro e2 w2 ⟨rfl, hb2⟩
  have yw2 : w.heap.size ≤ w2.heap.size := by (have := hb2.size; (try simp at this); omega)
  have c2_0 : w2.cell? ⟨w.heap.size, 0, none⟩ = some (.int .u16 a) := keep hb2 (by go_simp)
  have f2_0 : w2.frozen? ⟨w.heap.size, 0, none⟩ = false := keepF hb2 (.int .u16 a) (by go_simp) (by go_simp)
  have zw2_0 := cell_lt c2_0
  have c2_1 : w2.cell? ⟨w.heap.size, 1, none⟩ = some (.int .i64 b) := keep hb2 (by go_simp)
  have f2_1 : w2.frozen? ⟨w.heap.size, 1, none⟩ = false := keepF hb2 (.int .i64 b) (by go_simp) (by go_simp)
  clear c1_0 f1_0 c1_1 f1_1
  go_wp2_with fail
  with_reducible refine (hold_at H3.out _).mono ?_
  rintro e3 w3 ⟨rfl, hb3⟩
  have yw3 : w.heap.size ≤ w3.heap.size := by (have := hb3.size; (try simp at this); omega)
  have c3_0 : w3.cell? ⟨w.heap.size, 0, none⟩ = some (.int .u16 a) := keep hb3 (by go_simp)
  have f3_0 : w3.frozen? ⟨w.heap.size, 0, none⟩ = false := keepF hb3 (.int .u16 a) (by go_simp) (by go_simp)
  have zw3_0 := cell_lt c3_0
  have c3_1 : w3.cell? ⟨w.heap.size, 1, none⟩ = some (.int .i64 b) := keep hb3 (by go_simp)
  have f3_1 : w3.frozen? ⟨w.heap.size, 1, none⟩ = false := keepF hb3 (.int .i64 b) (by go_simp) (by go_simp)
  clear c2_0 f2_0 c2_1 f2_1
  go_wp2_with fail
  with_reducible refine (leave_at H4.out _).mono ?_
  rintro e4 w4 ⟨rfl, hb4⟩
  have yw4 : w.heap.size ≤ w4.heap.size := by (have := hb4.size; (try simp at this); omega)
  have c4_0 : w4.cell? ⟨w.heap.size, 0, none⟩ = some (.int .u16 a) := keep hb4 (by go_simp)
  have f4_0 : w4.frozen? ⟨w.heap.size, 0, none⟩ = false := keepF hb4 (.int .u16 a) (by go_simp) (by go_simp)
  have zw4_0 := cell_lt c4_0
  have c4_1 : w4.cell? ⟨w.heap.size, 1, none⟩ = some (.int .i64 b) := keep hb4 (by go_simp)
  have f4_1 : w4.frozen? ⟨w.heap.size, 1, none⟩ = false := keepF hb4 (.int .i64 b) (by go_simp) (by go_simp)
  clear c3_0 f3_0 c3_1 f3_1
  by_cases hr : rgt a b = true
  · have hf := Lib.hid (odd_fre hr)
    have Hr := Lib.hid hr
    clear hr
    go_wp2_with fail
    with_reducible refine (right_at Hr.out _).mono ?_
    rintro e5 w5 ⟨rfl, hb5⟩
    have yw5 : w.heap.size ≤ w5.heap.size := by (have := hb5.size; (try simp at this); omega)
    have c5_0 : w5.cell? ⟨w.heap.size, 0, none⟩ = some (.int .u16 a) := keep hb5 (by go_simp)
    have f5_0 : w5.frozen? ⟨w.heap.size, 0, none⟩ = false := keepF hb5 (.int .u16 a) (by go_simp) (by go_simp)
    have zw5_0 := cell_lt c5_0
    have c5_1 : w5.cell? ⟨w.heap.size, 1, none⟩ = some (.int .i64 b) := keep hb5 (by go_simp)
    have f5_1 : w5.frozen? ⟨w.heap.size, 1, none⟩ = false := keepF hb5 (.int .i64 b) (by go_simp) (by go_simp)
    clear c4_0 f4_0 c4_1 f4_1
    go_wp2_with fail
    refine wp_region_below (by kernel_rfl) (by kernel_rfl) ?_
    apply quiet_do
    · rfl
    · intro wq hC; have k0 : wq.cell? ⟨w.heap.size, 0, none⟩ = some (.int .u16 a) := hC.keep (by go_simp); have k1 : wq.cell? ⟨w.heap.size, 1, none⟩ = some (.int .i64 b) := hC.keep (by go_simp); go_simp; first | done | rfl | exact ⟨rfl, rfl⟩
    simp only [Act.put, List.setIfInBounds_toArray, List.set_cons_zero, List.set_cons_succ]
    apply quiet_do
    · rfl
    · intro wq hC; have k0 : wq.cell? ⟨w.heap.size, 0, none⟩ = some (.int .u16 a) := hC.keep (by go_simp); have k1 : wq.cell? ⟨w.heap.size, 1, none⟩ = some (.int .i64 b) := hC.keep (by go_simp); go_simp; refine (free_at hf.out _).mono ?_; rintro eq wq2 ⟨rfl, hbq⟩; exact ⟨rfl, hC.step hbq⟩
    simp only [Act.put, List.setIfInBounds_toArray, List.set_cons_zero, List.set_cons_succ]
    apply quiet_do
    · rfl
    · intro wq hC; have k0 : wq.cell? ⟨w.heap.size, 0, none⟩ = some (.int .u16 a) := hC.keep (by go_simp); have k1 : wq.cell? ⟨w.heap.size, 1, none⟩ = some (.int .i64 b) := hC.keep (by go_simp); go_simp; first | done | rfl | exact ⟨rfl, rfl⟩
    simp only [Act.put, List.setIfInBounds_toArray, List.set_cons_zero, List.set_cons_succ]
    apply quiet_do
    · rfl
    · intro wq hC; have k0 : wq.cell? ⟨w.heap.size, 0, none⟩ = some (.int .u16 a) := hC.keep (by go_simp); have k1 : wq.cell? ⟨w.heap.size, 1, none⟩ = some (.int .i64 b) := hC.keep (by go_simp); go_simp; first | done | rfl | exact ⟨rfl, rfl⟩
    simp only [Act.put, List.setIfInBounds_toArray, List.set_cons_zero, List.set_cons_succ]
    apply quiet_do
    · rfl
    · intro wq hC; have k0 : wq.cell? ⟨w.heap.size, 0, none⟩ = some (.int .u16 a) := hC.keep (by go_simp); have k1 : wq.cell? ⟨w.heap.size, 1, none⟩ = some (.int .i64 b) := hC.keep (by go_simp); go_simp; first | done | rfl | exact ⟨rfl, rfl⟩
    simp only [Act.put, List.setIfInBounds_toArray, List.set_cons_zero, List.set_cons_succ]
    apply quiet_do
    · rfl
    · intro wq hC; have k0 : wq.cell? ⟨w.heap.size, 0, none⟩ = some (.int .u16 a) := hC.keep (by go_simp); have k1 : wq.cell? ⟨w.heap.size, 1, none⟩ = some (.int .i64 b) := hC.keep (by go_simp); go_simp; first | done | rfl | exact ⟨rfl, rfl⟩
    simp only [Act.put, List.setIfInBounds_toArray, List.set_cons_zero, List.set_cons_succ]
    apply quiet_do
    · rfl
    · intro wq hC; have k0 : wq.cell? ⟨w.heap.size, 0, none⟩ = some (.int .u16 a) := hC.keep (by go_simp); have k1 : wq.cell? ⟨w.heap.size, 1, none⟩ = some (.int .i64 b) := hC.keep (by go_simp); go_simp; first | done | rfl | exact ⟨rfl, rfl⟩
    simp only [Act.put, List.setIfInBounds_toArray, List.set_cons_zero, List.set_cons_succ]
    apply quiet_do
    · rfl
    · intro wq hC; have k0 : wq.cell? ⟨w.heap.size, 0, none⟩ = some (.int .u16 a) := hC.keep (by go_simp); have k1 : wq.cell? ⟨w.heap.size, 1, none⟩ = some (.int .i64 b) := hC.keep (by go_simp); go_simp; refine (awake18_any _).mono ?_; rintro eq wq2 ⟨rfl, hbq⟩; exact ⟨rfl, hC.step hbq⟩
    simp only [Act.put, List.setIfInBounds_toArray, List.set_cons_zero, List.set_cons_succ]
    apply quiet_do
    · rfl
    · intro wq hC; have k0 : wq.cell? ⟨w.heap.size, 0, none⟩ = some (.int .u16 a) := hC.keep (by go_simp); have k1 : wq.cell? ⟨w.heap.size, 1, none⟩ = some (.int .i64 b) := hC.keep (by go_simp); go_simp; first | done | rfl | exact ⟨rfl, rfl⟩
    simp only [Act.put, List.setIfInBounds_toArray, List.set_cons_zero, List.set_cons_succ]
    apply quiet_do
    · rfl
    · intro wq hC; have k0 : wq.cell? ⟨w.heap.size, 0, none⟩ = some (.int .u16 a) := hC.keep (by go_simp); have k1 : wq.cell? ⟨w.heap.size, 1, none⟩ = some (.int .i64 b) := hC.keep (by go_simp); go_simp; first | done | rfl | exact ⟨rfl, rfl⟩
    simp only [Act.put, List.setIfInBounds_toArray, List.set_cons_zero, List.set_cons_succ]
    intro w6 hb6
    have hb6 : Below _ _ _ := hb6
    have yw6 : w.heap.size ≤ w6.heap.size := by (have := hb6.size; (try simp at this); omega)
    have c6_0 : w6.cell? ⟨w.heap.size, 0, none⟩ = some (.int .u16 a) := keep hb6 (by go_simp)
    have f6_0 : w6.frozen? ⟨w.heap.size, 0, none⟩ = false := keepF hb6 (.int .u16 a) (by go_simp) (by go_simp)
    have zw6_0 := cell_lt c6_0
    have c6_1 : w6.cell? ⟨w.heap.size, 1, none⟩ = some (.int .i64 b) := keep hb6 (by go_simp)
    have f6_1 : w6.frozen? ⟨w.heap.size, 1, none⟩ = false := keepF hb6 (.int .i64 b) (by go_simp) (by go_simp)
    clear c5_0 f5_0 c5_1 f5_1
    go_wp2_with fail
    go_ret
    exact ⟨rfl, (by repeat (first | exact Below.refl _ _ | refine balloc ?_ _ | refine bset ?_ (by first | (simp; done) | (simp; omega)) _ | refine bdrew ?_ | refine bstep ?_ (by assumption)))⟩
  · have hr : rgt a b = false := by simpa using hr
    have Hr := Lib.hid hr
    have hf := Lib.hid (odd_no hr)
    obtain ⟨x5, y5, z5, h5⟩ : ∃ x y z, tak a b o t = (x, y, z) := ⟨_, _, _, rfl⟩
    have H5 := Lib.hid h5
    have H5b : Hid (tak 0 0 o t = (x5, y5, z5)) := Lib.hid ((odd5 o t hr).symm.trans h5)
    obtain ⟨x6, y6, z6, h6, h6z⟩ := odd6 o o (-1) hr
    have H6 := Lib.hid h6
    have H7 : Hid (tik a b = (0, 0, false)) := Lib.hid (by simp [tik, hf.out])
    have H8 : Hid (boo a b = (0, 0)) := Lib.hid (by simp [boo, hf.out])
    clear hr h5 h6
    go_wp2_with fail
    with_reducible refine (right_at Hr.out _).mono ?_
    rintro e5 w5 ⟨rfl, hb5⟩
    have yw5 : w.heap.size ≤ w5.heap.size := by (have := hb5.size; (try simp at this); omega)
    have c5_0 : w5.cell? ⟨w.heap.size, 0, none⟩ = some (.int .u16 a) := keep hb5 (by go_simp)
    have f5_0 : w5.frozen? ⟨w.heap.size, 0, none⟩ = false := keepF hb5 (.int .u16 a) (by go_simp) (by go_simp)
    have zw5_0 := cell_lt c5_0
    have c5_1 : w5.cell? ⟨w.heap.size, 1, none⟩ = some (.int .i64 b) := keep hb5 (by go_simp)
    have f5_1 : w5.frozen? ⟨w.heap.size, 1, none⟩ = false := keepF hb5 (.int .i64 b) (by go_simp) (by go_simp)
    clear c4_0 f4_0 c4_1 f4_1
    go_wp2_with fail
    with_reducible refine (tak_at H5.out _).mono ?_
    rintro e6 w6 ⟨rfl, hb6⟩
    have yw6 : w.heap.size ≤ w6.heap.size := by (have := hb6.size; (try simp at this); omega)
    have c6_0 : w6.cell? ⟨w.heap.size, 0, none⟩ = some (.int .u16 a) := keep hb6 (by go_simp)
    have f6_0 : w6.frozen? ⟨w.heap.size, 0, none⟩ = false := keepF hb6 (.int .u16 a) (by go_simp) (by go_simp)
    have zw6_0 := cell_lt c6_0
    have c6_1 : w6.cell? ⟨w.heap.size, 1, none⟩ = some (.int .i64 b) := keep hb6 (by go_simp)
    have f6_1 : w6.frozen? ⟨w.heap.size, 1, none⟩ = false := keepF hb6 (.int .i64 b) (by go_simp) (by go_simp)
    clear c5_0 f5_0 c5_1 f5_1
    go_wp2_with fail
    with_reducible refine (tak_at H5b.out _).mono ?_
    rintro e7 w7 ⟨rfl, hb7⟩
    have yw7 : w.heap.size ≤ w7.heap.size := by (have := hb7.size; (try simp at this); omega)
    have c7_0 : w7.cell? ⟨w.heap.size, 0, none⟩ = some (.int .u16 a) := keep hb7 (by go_simp)
    have f7_0 : w7.frozen? ⟨w.heap.size, 0, none⟩ = false := keepF hb7 (.int .u16 a) (by go_simp) (by go_simp)
    have zw7_0 := cell_lt c7_0
    have c7_1 : w7.cell? ⟨w.heap.size, 1, none⟩ = some (.int .i64 b) := keep hb7 (by go_simp)
    have f7_1 : w7.frozen? ⟨w.heap.size, 1, none⟩ = false := keepF hb7 (.int .i64 b) (by go_simp) (by go_simp)
    have c7_2 : w7.cell? ⟨w6.heap.size, 0, none⟩ = some (.int .u16 x5) := keep hb7 (by go_simp)
    have f7_2 : w7.frozen? ⟨w6.heap.size, 0, none⟩ = false := keepF hb7 (.int .u16 x5) (by go_simp) (by go_simp)
    have zw7_2 := cell_lt c7_2
    have c7_3 : w7.cell? ⟨w6.heap.size, 1, none⟩ = some (.int .i64 y5) := keep hb7 (by go_simp)
    have f7_3 : w7.frozen? ⟨w6.heap.size, 1, none⟩ = false := keepF hb7 (.int .i64 y5) (by go_simp) (by go_simp)
    clear c6_0 f6_0 c6_1 f6_1
    go_wp2_with fail
    with_reducible refine (hold_at H6.out _).mono ?_
    rintro e8 w8 ⟨rfl, hb8⟩
    have yw8 : w.heap.size ≤ w8.heap.size := by (have := hb8.size; (try simp at this); omega)
    have c8_0 : w8.cell? ⟨w.heap.size, 0, none⟩ = some (.int .u16 a) := keep hb8 (by go_simp)
    have f8_0 : w8.frozen? ⟨w.heap.size, 0, none⟩ = false := keepF hb8 (.int .u16 a) (by go_simp) (by go_simp)
    have zw8_0 := cell_lt c8_0
    have c8_1 : w8.cell? ⟨w.heap.size, 1, none⟩ = some (.int .i64 b) := keep hb8 (by go_simp)
    have f8_1 : w8.frozen? ⟨w.heap.size, 1, none⟩ = false := keepF hb8 (.int .i64 b) (by go_simp) (by go_simp)
    have c8_2 : w8.cell? ⟨w6.heap.size, 0, none⟩ = some (.int .u16 x5) := keep hb8 (by go_simp)
    have f8_2 : w8.frozen? ⟨w6.heap.size, 0, none⟩ = false := keepF hb8 (.int .u16 x5) (by go_simp) (by go_simp)
    have zw8_2 := cell_lt c8_2
    have c8_3 : w8.cell? ⟨w6.heap.size, 1, none⟩ = some (.int .i64 y5) := keep hb8 (by go_simp)
    have f8_3 : w8.frozen? ⟨w6.heap.size, 1, none⟩ = false := keepF hb8 (.int .i64 y5) (by go_simp) (by go_simp)
    have c8_4 : w8.cell? ⟨w7.heap.size, 0, none⟩ = some (.int .u16 x5) := keep hb8 (by go_simp)
    have f8_4 : w8.frozen? ⟨w7.heap.size, 0, none⟩ = false := keepF hb8 (.int .u16 x5) (by go_simp) (by go_simp)
    have zw8_4 := cell_lt c8_4
    have c8_5 : w8.cell? ⟨w7.heap.size, 1, none⟩ = some (.int .i64 y5) := keep hb8 (by go_simp)
    have f8_5 : w8.frozen? ⟨w7.heap.size, 1, none⟩ = false := keepF hb8 (.int .i64 y5) (by go_simp) (by go_simp)
    clear c7_0 f7_0 c7_1 f7_1 c7_2 f7_2 c7_3 f7_3
    go_wp2_with fail
    with_reducible refine (tick_at H7.out hlo hhi _).mono ?_
    rintro e9 w9 ⟨rfl, hb9⟩
    have yw9 : w.heap.size ≤ w9.heap.size := by (have := hb9.size; (try simp at this); omega)
    have c9_0 : w9.cell? ⟨w.heap.size, 0, none⟩ = some (.int .u16 a) := keep hb9 (by go_simp)
    have f9_0 : w9.frozen? ⟨w.heap.size, 0, none⟩ = false := keepF hb9 (.int .u16 a) (by go_simp) (by go_simp)
    have zw9_0 := cell_lt c9_0
    have c9_1 : w9.cell? ⟨w.heap.size, 1, none⟩ = some (.int .i64 b) := keep hb9 (by go_simp)
    have f9_1 : w9.frozen? ⟨w.heap.size, 1, none⟩ = false := keepF hb9 (.int .i64 b) (by go_simp) (by go_simp)
    have c9_2 : w9.cell? ⟨w6.heap.size, 0, none⟩ = some (.int .u16 x5) := keep hb9 (by go_simp)
    have f9_2 : w9.frozen? ⟨w6.heap.size, 0, none⟩ = false := keepF hb9 (.int .u16 x5) (by go_simp) (by go_simp)
    have zw9_2 := cell_lt c9_2
    have c9_3 : w9.cell? ⟨w6.heap.size, 1, none⟩ = some (.int .i64 y5) := keep hb9 (by go_simp)
    have f9_3 : w9.frozen? ⟨w6.heap.size, 1, none⟩ = false := keepF hb9 (.int .i64 y5) (by go_simp) (by go_simp)
    have c9_4 : w9.cell? ⟨w7.heap.size, 0, none⟩ = some (.int .u16 x5) := keep hb9 (by go_simp)
    have f9_4 : w9.frozen? ⟨w7.heap.size, 0, none⟩ = false := keepF hb9 (.int .u16 x5) (by go_simp) (by go_simp)
    have zw9_4 := cell_lt c9_4
    have c9_5 : w9.cell? ⟨w7.heap.size, 1, none⟩ = some (.int .i64 y5) := keep hb9 (by go_simp)
    have f9_5 : w9.frozen? ⟨w7.heap.size, 1, none⟩ = false := keepF hb9 (.int .i64 y5) (by go_simp) (by go_simp)
    clear c8_0 f8_0 c8_1 f8_1 c8_2 f8_2 c8_3 f8_3 c8_4 f8_4 c8_5 f8_5
    go_wp2_with fail
    with_reducible refine (free_at hf.out _).mono ?_
    rintro e10 w10 ⟨rfl, hb10⟩
    have yw10 : w.heap.size ≤ w10.heap.size := by (have := hb10.size; (try simp at this); omega)
    have c10_0 : w10.cell? ⟨w.heap.size, 0, none⟩ = some (.int .u16 a) := keep hb10 (by go_simp)
    have f10_0 : w10.frozen? ⟨w.heap.size, 0, none⟩ = false := keepF hb10 (.int .u16 a) (by go_simp) (by go_simp)
    have zw10_0 := cell_lt c10_0
    have c10_1 : w10.cell? ⟨w.heap.size, 1, none⟩ = some (.int .i64 b) := keep hb10 (by go_simp)
    have f10_1 : w10.frozen? ⟨w.heap.size, 1, none⟩ = false := keepF hb10 (.int .i64 b) (by go_simp) (by go_simp)
    have c10_2 : w10.cell? ⟨w6.heap.size, 0, none⟩ = some (.int .u16 x5) := keep hb10 (by go_simp)
    have f10_2 : w10.frozen? ⟨w6.heap.size, 0, none⟩ = false := keepF hb10 (.int .u16 x5) (by go_simp) (by go_simp)
    have zw10_2 := cell_lt c10_2
    have c10_3 : w10.cell? ⟨w6.heap.size, 1, none⟩ = some (.int .i64 y5) := keep hb10 (by go_simp)
    have f10_3 : w10.frozen? ⟨w6.heap.size, 1, none⟩ = false := keepF hb10 (.int .i64 y5) (by go_simp) (by go_simp)
    have c10_4 : w10.cell? ⟨w7.heap.size, 0, none⟩ = some (.int .u16 x5) := keep hb10 (by go_simp)
    have f10_4 : w10.frozen? ⟨w7.heap.size, 0, none⟩ = false := keepF hb10 (.int .u16 x5) (by go_simp) (by go_simp)
    have zw10_4 := cell_lt c10_4
    have c10_5 : w10.cell? ⟨w7.heap.size, 1, none⟩ = some (.int .i64 y5) := keep hb10 (by go_simp)
    have f10_5 : w10.frozen? ⟨w7.heap.size, 1, none⟩ = false := keepF hb10 (.int .i64 y5) (by go_simp) (by go_simp)
    have c10_6 : w10.cell? ⟨w9.heap.size, 0, none⟩ = some (.int .u16 0) := keep hb10 (by go_simp)
    have f10_6 : w10.frozen? ⟨w9.heap.size, 0, none⟩ = false := keepF hb10 (.int .u16 0) (by go_simp) (by go_simp)
    have zw10_6 := cell_lt c10_6
    have c10_7 : w10.cell? ⟨w9.heap.size, 1, none⟩ = some (.int .i64 0) := keep hb10 (by go_simp)
    have f10_7 : w10.frozen? ⟨w9.heap.size, 1, none⟩ = false := keepF hb10 (.int .i64 0) (by go_simp) (by go_simp)
    clear c9_0 f9_0 c9_1 f9_1 c9_2 f9_2 c9_3 f9_3 c9_4 f9_4 c9_5 f9_5
    go_wp2_with fail
    with_reducible refine (boot_at H8.out _).mono ?_
    rintro e11 w11 ⟨rfl, hb11⟩
    have yw11 : w.heap.size ≤ w11.heap.size := by (have := hb11.size; (try simp at this); omega)
    have c11_0 : w11.cell? ⟨w.heap.size, 0, none⟩ = some (.int .u16 a) := keep hb11 (by go_simp)
    have f11_0 : w11.frozen? ⟨w.heap.size, 0, none⟩ = false := keepF hb11 (.int .u16 a) (by go_simp) (by go_simp)
    have zw11_0 := cell_lt c11_0
    have c11_1 : w11.cell? ⟨w.heap.size, 1, none⟩ = some (.int .i64 b) := keep hb11 (by go_simp)
    have f11_1 : w11.frozen? ⟨w.heap.size, 1, none⟩ = false := keepF hb11 (.int .i64 b) (by go_simp) (by go_simp)
    have c11_2 : w11.cell? ⟨w6.heap.size, 0, none⟩ = some (.int .u16 x5) := keep hb11 (by go_simp)
    have f11_2 : w11.frozen? ⟨w6.heap.size, 0, none⟩ = false := keepF hb11 (.int .u16 x5) (by go_simp) (by go_simp)
    have zw11_2 := cell_lt c11_2
    have c11_3 : w11.cell? ⟨w6.heap.size, 1, none⟩ = some (.int .i64 y5) := keep hb11 (by go_simp)
    have f11_3 : w11.frozen? ⟨w6.heap.size, 1, none⟩ = false := keepF hb11 (.int .i64 y5) (by go_simp) (by go_simp)
    have c11_4 : w11.cell? ⟨w7.heap.size, 0, none⟩ = some (.int .u16 x5) := keep hb11 (by go_simp)
    have f11_4 : w11.frozen? ⟨w7.heap.size, 0, none⟩ = false := keepF hb11 (.int .u16 x5) (by go_simp) (by go_simp)
    have zw11_4 := cell_lt c11_4
    have c11_5 : w11.cell? ⟨w7.heap.size, 1, none⟩ = some (.int .i64 y5) := keep hb11 (by go_simp)
    have f11_5 : w11.frozen? ⟨w7.heap.size, 1, none⟩ = false := keepF hb11 (.int .i64 y5) (by go_simp) (by go_simp)
    have c11_6 : w11.cell? ⟨w9.heap.size, 0, none⟩ = some (.int .u16 0) := keep hb11 (by go_simp)
    have f11_6 : w11.frozen? ⟨w9.heap.size, 0, none⟩ = false := keepF hb11 (.int .u16 0) (by go_simp) (by go_simp)
    have zw11_6 := cell_lt c11_6
    have c11_7 : w11.cell? ⟨w9.heap.size, 1, none⟩ = some (.int .i64 0) := keep hb11 (by go_simp)
    have f11_7 : w11.frozen? ⟨w9.heap.size, 1, none⟩ = false := keepF hb11 (.int .i64 0) (by go_simp) (by go_simp)
    clear c10_0 f10_0 c10_1 f10_1 c10_2 f10_2 c10_3 f10_3 c10_4 f10_4 c10_5 f10_5 c10_6 f10_6 c10_7 f10_7
    go_wp2_with fail
    with_reducible refine (awake18_any _).mono ?_
    rintro e12 w12 ⟨rfl, hb12⟩
    have yw12 : w.heap.size ≤ w12.heap.size := by (have := hb12.size; (try simp at this); omega)
    have c12_0 : w12.cell? ⟨w.heap.size, 0, none⟩ = some (.int .u16 a) := keep hb12 (by go_simp)
    have f12_0 : w12.frozen? ⟨w.heap.size, 0, none⟩ = false := keepF hb12 (.int .u16 a) (by go_simp) (by go_simp)
    have zw12_0 := cell_lt c12_0
    have c12_1 : w12.cell? ⟨w.heap.size, 1, none⟩ = some (.int .i64 b) := keep hb12 (by go_simp)
    have f12_1 : w12.frozen? ⟨w.heap.size, 1, none⟩ = false := keepF hb12 (.int .i64 b) (by go_simp) (by go_simp)
    have c12_2 : w12.cell? ⟨w6.heap.size, 0, none⟩ = some (.int .u16 x5) := keep hb12 (by go_simp)
    have f12_2 : w12.frozen? ⟨w6.heap.size, 0, none⟩ = false := keepF hb12 (.int .u16 x5) (by go_simp) (by go_simp)
    have zw12_2 := cell_lt c12_2
    have c12_3 : w12.cell? ⟨w6.heap.size, 1, none⟩ = some (.int .i64 y5) := keep hb12 (by go_simp)
    have f12_3 : w12.frozen? ⟨w6.heap.size, 1, none⟩ = false := keepF hb12 (.int .i64 y5) (by go_simp) (by go_simp)
    have c12_4 : w12.cell? ⟨w7.heap.size, 0, none⟩ = some (.int .u16 x5) := keep hb12 (by go_simp)
    have f12_4 : w12.frozen? ⟨w7.heap.size, 0, none⟩ = false := keepF hb12 (.int .u16 x5) (by go_simp) (by go_simp)
    have zw12_4 := cell_lt c12_4
    have c12_5 : w12.cell? ⟨w7.heap.size, 1, none⟩ = some (.int .i64 y5) := keep hb12 (by go_simp)
    have f12_5 : w12.frozen? ⟨w7.heap.size, 1, none⟩ = false := keepF hb12 (.int .i64 y5) (by go_simp) (by go_simp)
    have c12_6 : w12.cell? ⟨w9.heap.size, 0, none⟩ = some (.int .u16 0) := keep hb12 (by go_simp)
    have f12_6 : w12.frozen? ⟨w9.heap.size, 0, none⟩ = false := keepF hb12 (.int .u16 0) (by go_simp) (by go_simp)
    have zw12_6 := cell_lt c12_6
    have c12_7 : w12.cell? ⟨w9.heap.size, 1, none⟩ = some (.int .i64 0) := keep hb12 (by go_simp)
    have f12_7 : w12.frozen? ⟨w9.heap.size, 1, none⟩ = false := keepF hb12 (.int .i64 0) (by go_simp) (by go_simp)
    clear c11_0 f11_0 c11_1 f11_1 c11_2 f11_2 c11_3 f11_3 c11_4 f11_4 c11_5 f11_5 c11_6 f11_6 c11_7 f11_7
    go_wp2_with fail
    go_ret
    exact ⟨rfl, (by repeat (first | exact Below.refl _ _ | refine balloc ?_ _ | refine bset ?_ (by first | (simp; done) | (simp; omega)) _ | refine bdrew ?_ | refine bstep ?_ (by assumption)))⟩
end Go.Proofs.Ytnhfholodillaaa
