/- Contracts of package txid: Need, Take, Reserved, and what a record reserves. -/
import Derived.Test.YtnhfholodillaaaProg
import Derived.Test.YtnhfholodillaaaK
set_option linter.unusedVariables false
set_option linter.unusedSimpArgs false
namespace Go.Proofs.Ytnhfholodillaaa
open Go.RowKit

set_option maxHeartbeats 400000 in
theorem need_no1 (x e : Int) (w : World) (hx : 0 ≤ x ∧ x ≤ 4294967295) (he : 0 ≤ e ∧ e ≤ 4294967295) (h : ¬ x = e) :
    Calls Try.prog 13 #[.agg #[.int .u32 x, .int .u32 e]] w fun e' w' => e' = .returned (.tuple #[.agg #[.int .u8 0, .int .u32 0, .int .u8 0, .bool false, .slice none 0 0], .bool false]) ∧ Below w.heap.size w w' := by
  obtain ⟨hx0, hx1⟩ := hx
  obtain ⟨he0, he1⟩ := he
  have h1 : (x != e) = true := by simpa using h
  go_enter Try.func13, Try.ntmps13
  go_wp2
  exact bodyPost_ret (v := .tuple #[.agg #[.int .u8 0, .int .u32 0, .int .u8 0, .bool false, .slice none 0 0], .bool false]) (by simp [results, Try.results13, go_sem, *]) rfl ⟨rfl, (by repeat (first | exact Below.refl _ _ | refine balloc ?_ _ | refine bset ?_ (by first | (simp; done) | (simp; omega)) _ | refine bdrew ?_ | refine bstep ?_ (by assumption)))⟩

set_option maxHeartbeats 400000 in
theorem need_no2 (x : Int) (w : World) (h : 4294967295 ≤ x) :
    Calls Try.prog 13 #[.agg #[.int .u32 x, .int .u32 x]] w fun e' w' => e' = .returned (.tuple #[.agg #[.int .u8 0, .int .u32 0, .int .u8 0, .bool false, .slice none 0 0], .bool false]) ∧ Below w.heap.size w w' := by
  have h1 : (x != x) = false := by simp
  go_enter Try.func13, Try.ntmps13
  go_wp2
  exact bodyPost_ret (v := .tuple #[.agg #[.int .u8 0, .int .u32 0, .int .u8 0, .bool false, .slice none 0 0], .bool false]) (by simp [results, Try.results13, go_sem, *]) rfl ⟨rfl, (by repeat (first | exact Below.refl _ _ | refine balloc ?_ _ | refine bset ?_ (by first | (simp; done) | (simp; omega)) _ | refine bdrew ?_ | refine bstep ?_ (by assumption)))⟩

set_option maxHeartbeats 400000 in
theorem need_yes (e : Int) (w : World) (he : 0 ≤ e) (h : e < 4294967295) :
    Calls Try.prog 13 #[.agg #[.int .u32 e, .int .u32 e]] w fun e' w' => e' = .returned (.tuple #[.agg #[.int .u8 1, .int .u32 (min (e + 16) 4294967295), .int .u8 0, .bool false, .slice none 0 0], .bool true]) ∧ Below w.heap.size w w' := by
  have h1 : (e != e) = false := by simp
  have h2 : decide (4294967295 ≤ e) = false := by simp; omega
  go_enter Try.func13, Try.ntmps13
  go_wp2
  exact bodyPost_ret (v := .tuple #[.agg #[.int .u8 1, .int .u32 (min (e + 16) 4294967295), .int .u8 0, .bool false, .slice none 0 0], .bool true]) (by simp [results, Try.results13, go_sem, *]) rfl ⟨rfl, (by repeat (first | exact Below.refl _ _ | refine balloc ?_ _ | refine bset ?_ (by first | (simp; done) | (simp; omega)) _ | refine bdrew ?_ | refine bstep ?_ (by assumption)))⟩

set_option maxHeartbeats 400000 in
theorem take_spent (x e : Int) (w : World) (h : x = 4294967295) :
    Calls Try.prog 14 #[.agg #[.int .u32 x, .int .u32 e]] w fun e' w' => e' = .returned (.tuple #[.agg #[.int .u32 x, .int .u32 e], .int .u32 0, .int .i64 241]) ∧ Below w.heap.size w w' := by
  have h1 : (x == 4294967295) = true := by simpa using h
  clear h
  go_enter Try.func14, Try.ntmps14
  go_wp2
  exact bodyPost_ret (v := .tuple #[.agg #[.int .u32 x, .int .u32 e], .int .u32 0, .int .i64 241]) (by simp [results, Try.results14, go_sem, *]) rfl ⟨rfl, (by repeat (first | exact Below.refl _ _ | refine balloc ?_ _ | refine bset ?_ (by first | (simp; done) | (simp; omega)) _ | refine bdrew ?_ | refine bstep ?_ (by assumption)))⟩

set_option maxHeartbeats 400000 in
theorem take_res (x : Int) (w : World) (h : ¬ x = 4294967295) :
    Calls Try.prog 14 #[.agg #[.int .u32 x, .int .u32 x]] w fun e' w' => e' = .returned (.tuple #[.agg #[.int .u32 x, .int .u32 x], .int .u32 0, .int .i64 240]) ∧ Below w.heap.size w w' := by
  have h1 : (x == 4294967295) = false := by simpa using h
  have h2 : (x == x) = true := by simp
  go_enter Try.func14, Try.ntmps14
  go_wp2
  exact bodyPost_ret (v := .tuple #[.agg #[.int .u32 x, .int .u32 x], .int .u32 0, .int .i64 240]) (by simp [results, Try.results14, go_sem, *]) rfl ⟨rfl, (by repeat (first | exact Below.refl _ _ | refine balloc ?_ _ | refine bset ?_ (by first | (simp; done) | (simp; omega)) _ | refine bdrew ?_ | refine bstep ?_ (by assumption)))⟩

set_option maxHeartbeats 400000 in
theorem take_ok (x e : Int) (w : World) (h : ¬ x = 4294967295) (h2 : ¬ x = e) (hx : 0 ≤ x) (hx2 : x ≤ 4294967295) :
    Calls Try.prog 14 #[.agg #[.int .u32 x, .int .u32 e]] w fun e' w' => e' = .returned (.tuple #[.agg #[.int .u32 (x + 1), .int .u32 e], .int .u32 x, .int .i64 0]) ∧ Below w.heap.size w w' := by
  have h1 : (x == 4294967295) = false := by simpa using h
  have h3 : (x == e) = false := by simpa using h2
  have hlt : x < 4294967295 := by omega
  go_enter Try.func14, Try.ntmps14
  go_wp2
  exact bodyPost_ret (v := .tuple #[.agg #[.int .u32 (x + 1), .int .u32 e], .int .u32 x, .int .i64 0]) (by simp [results, Try.results14, go_sem, *]) rfl ⟨rfl, (by repeat (first | exact Below.refl _ _ | refine balloc ?_ _ | refine bset ?_ (by first | (simp; done) | (simp; omega)) _ | refine bdrew ?_ | refine bstep ?_ (by assumption)))⟩

set_option maxHeartbeats 1000000 in
theorem reserved_ok (e : Int) (w : World) (he : 0 ≤ e) (h : e < 4294967295) :
    Calls Try.prog 15 #[.agg #[.int .u32 e, .int .u32 e], .agg #[.int .u8 1, .int .u32 (min (e + 16) 4294967295), .int .u8 0, .bool false, .slice none 0 0]] w fun e' w' => e' = .returned (.tuple #[.agg #[.int .u32 e, .int .u32 (min (e + 16) 4294967295)], .int .i64 0]) ∧ Below w.heap.size w w' := by
  have h1 : (min (e + 16) 4294967295 != min (e + 16) 4294967295) = false := by simp
  go_enter Try.func15, Try.ntmps15
  go_wp2_with fail
  with_reducible refine (need_yes e _ he h).mono ?_
  rintro e1 w1 ⟨rfl, hb1⟩
  have yw1 : w.heap.size ≤ w1.heap.size := by (have := hb1.size; (try simp at this); omega)
  have c1_0 : w1.cell? ⟨w.heap.size, 0, none⟩ = some (.int .u32 e) := keep hb1 (by go_simp)
  have f1_0 : w1.frozen? ⟨w.heap.size, 0, none⟩ = false := keepF hb1 (.int .u32 e) (by go_simp) (by go_simp)
  have zw1_0 := cell_lt c1_0
  have c1_1 : w1.cell? ⟨w.heap.size, 1, none⟩ = some (.int .u32 e) := keep hb1 (by go_simp)
  have f1_1 : w1.frozen? ⟨w.heap.size, 1, none⟩ = false := keepF hb1 (.int .u32 e) (by go_simp) (by go_simp)
  have c1_2 : w1.cell? ⟨w.heap.size + 1, 0, none⟩ = some (.int .u8 1) := keep hb1 (by go_simp)
  have f1_2 : w1.frozen? ⟨w.heap.size + 1, 0, none⟩ = false := keepF hb1 (.int .u8 1) (by go_simp) (by go_simp)
  have zw1_2 := cell_lt c1_2
  have c1_3 : w1.cell? ⟨w.heap.size + 1, 1, none⟩ = some (.int .u32 (min (e + 16) 4294967295)) := keep hb1 (by go_simp)
  have f1_3 : w1.frozen? ⟨w.heap.size + 1, 1, none⟩ = false := keepF hb1 (.int .u32 (min (e + 16) 4294967295)) (by go_simp) (by go_simp)
  have c1_4 : w1.cell? ⟨w.heap.size + 1, 2, none⟩ = some (.int .u8 0) := keep hb1 (by go_simp)
  have f1_4 : w1.frozen? ⟨w.heap.size + 1, 2, none⟩ = false := keepF hb1 (.int .u8 0) (by go_simp) (by go_simp)
  have c1_5 : w1.cell? ⟨w.heap.size + 1, 3, none⟩ = some (.bool false) := keep hb1 (by go_simp)
  have f1_5 : w1.frozen? ⟨w.heap.size + 1, 3, none⟩ = false := keepF hb1 (.bool false) (by go_simp) (by go_simp)
  have c1_6 : w1.cell? ⟨w.heap.size + 1, 4, none⟩ = some (.slice none 0 0) := keep hb1 (by go_simp)
  have f1_6 : w1.frozen? ⟨w.heap.size + 1, 4, none⟩ = false := keepF hb1 (.slice none 0 0) (by go_simp) (by go_simp)
  have c1_7 : w1.cell? ⟨w.heap.size + 2, 0, none⟩ = some (.int .u32 0) := keep hb1 (by go_simp)
  have f1_7 : w1.frozen? ⟨w.heap.size + 2, 0, none⟩ = false := keepF hb1 (.int .u32 0) (by go_simp) (by go_simp)
  have zw1_7 := cell_lt c1_7
  have c1_8 : w1.cell? ⟨w.heap.size + 2, 1, none⟩ = some (.int .u32 0) := keep hb1 (by go_simp)
  have f1_8 : w1.frozen? ⟨w.heap.size + 2, 1, none⟩ = false := keepF hb1 (.int .u32 0) (by go_simp) (by go_simp)
  go_wp2
  exact bodyPost_ret (v := .tuple #[.agg #[.int .u32 e, .int .u32 (min (e + 16) 4294967295)], .int .i64 0]) (by simp [results, Try.results15, go_sem, *]) rfl ⟨rfl, (by repeat (first | exact Below.refl _ _ | refine balloc ?_ _ | refine bset ?_ (by first | (simp; done) | (simp; omega)) _ | refine bdrew ?_ | refine bstep ?_ (by assumption)))⟩

set_option maxHeartbeats 1000000 in
theorem reserving_any (a b c : Int) (d : Bool) (A : Option Addr) (n m : Nat) (w : World) :
    Calls Try.prog 43 #[.agg #[.int .u8 a, .int .u32 b, .int .u8 c, .bool d, .slice A n m]] w fun e' w' => e' = .returned (.tuple #[.int .u32 b, .bool (a == 1)]) ∧ Below w.heap.size w w' := by
  obtain ⟨s, hs⟩ : ∃ s : Value, s = .slice A n m := ⟨_, rfl⟩
  rw [← hs]
  have Hs := Lib.hid hs
  clear hs
  go_enter Try.func43, Try.ntmps43
  go_wp2_with fail
  refine wp_region_below (by kernel_rfl) (by kernel_rfl) ?_
  apply quiet_do
  · rfl
  · intro wq hC; have k0 : wq.cell? ⟨w.heap.size, 0, none⟩ = some (.int .u8 a) := hC.keep (by go_simp); have k1 : wq.cell? ⟨w.heap.size, 1, none⟩ = some (.int .u32 b) := hC.keep (by go_simp); have k2 : wq.cell? ⟨w.heap.size, 2, none⟩ = some (.int .u8 c) := hC.keep (by go_simp); have k3 : wq.cell? ⟨w.heap.size, 3, none⟩ = some (.bool d) := hC.keep (by go_simp); have k4 : wq.cell? ⟨w.heap.size, 4, none⟩ = some (s) := hC.keep (by go_simp); go_simp; first | done | rfl | exact ⟨rfl, rfl⟩
  simp only [Act.put, List.setIfInBounds_toArray, List.set_cons_zero, List.set_cons_succ]
  apply quiet_do
  · rfl
  · intro wq hC; have k0 : wq.cell? ⟨w.heap.size, 0, none⟩ = some (.int .u8 a) := hC.keep (by go_simp); have k1 : wq.cell? ⟨w.heap.size, 1, none⟩ = some (.int .u32 b) := hC.keep (by go_simp); have k2 : wq.cell? ⟨w.heap.size, 2, none⟩ = some (.int .u8 c) := hC.keep (by go_simp); have k3 : wq.cell? ⟨w.heap.size, 3, none⟩ = some (.bool d) := hC.keep (by go_simp); have k4 : wq.cell? ⟨w.heap.size, 4, none⟩ = some (s) := hC.keep (by go_simp); go_simp; first | done | rfl | exact ⟨rfl, rfl⟩
  simp only [Act.put, List.setIfInBounds_toArray, List.set_cons_zero, List.set_cons_succ]
  apply quiet_do
  · rfl
  · intro wq hC; have k0 : wq.cell? ⟨w.heap.size, 0, none⟩ = some (.int .u8 a) := hC.keep (by go_simp); have k1 : wq.cell? ⟨w.heap.size, 1, none⟩ = some (.int .u32 b) := hC.keep (by go_simp); have k2 : wq.cell? ⟨w.heap.size, 2, none⟩ = some (.int .u8 c) := hC.keep (by go_simp); have k3 : wq.cell? ⟨w.heap.size, 3, none⟩ = some (.bool d) := hC.keep (by go_simp); have k4 : wq.cell? ⟨w.heap.size, 4, none⟩ = some (s) := hC.keep (by go_simp); go_simp; first | done | rfl | exact ⟨rfl, rfl⟩
  simp only [Act.put, List.setIfInBounds_toArray, List.set_cons_zero, List.set_cons_succ]
  apply quiet_do
  · rfl
  · intro wq hC; have k0 : wq.cell? ⟨w.heap.size, 0, none⟩ = some (.int .u8 a) := hC.keep (by go_simp); have k1 : wq.cell? ⟨w.heap.size, 1, none⟩ = some (.int .u32 b) := hC.keep (by go_simp); have k2 : wq.cell? ⟨w.heap.size, 2, none⟩ = some (.int .u8 c) := hC.keep (by go_simp); have k3 : wq.cell? ⟨w.heap.size, 3, none⟩ = some (.bool d) := hC.keep (by go_simp); have k4 : wq.cell? ⟨w.heap.size, 4, none⟩ = some (s) := hC.keep (by go_simp); go_simp; first | done | rfl | exact ⟨rfl, rfl⟩
  simp only [Act.put, List.setIfInBounds_toArray, List.set_cons_zero, List.set_cons_succ]
  apply quiet_do
  · rfl
  · intro wq hC; have k0 : wq.cell? ⟨w.heap.size, 0, none⟩ = some (.int .u8 a) := hC.keep (by go_simp); have k1 : wq.cell? ⟨w.heap.size, 1, none⟩ = some (.int .u32 b) := hC.keep (by go_simp); have k2 : wq.cell? ⟨w.heap.size, 2, none⟩ = some (.int .u8 c) := hC.keep (by go_simp); have k3 : wq.cell? ⟨w.heap.size, 3, none⟩ = some (.bool d) := hC.keep (by go_simp); have k4 : wq.cell? ⟨w.heap.size, 4, none⟩ = some (s) := hC.keep (by go_simp); go_simp; first | done | rfl | exact ⟨rfl, rfl⟩
  simp only [Act.put, List.setIfInBounds_toArray, List.set_cons_zero, List.set_cons_succ]
  apply quiet_do
  · rfl
  · intro wq hC; have k0 : wq.cell? ⟨w.heap.size, 0, none⟩ = some (.int .u8 a) := hC.keep (by go_simp); have k1 : wq.cell? ⟨w.heap.size, 1, none⟩ = some (.int .u32 b) := hC.keep (by go_simp); have k2 : wq.cell? ⟨w.heap.size, 2, none⟩ = some (.int .u8 c) := hC.keep (by go_simp); have k3 : wq.cell? ⟨w.heap.size, 3, none⟩ = some (.bool d) := hC.keep (by go_simp); have k4 : wq.cell? ⟨w.heap.size, 4, none⟩ = some (s) := hC.keep (by go_simp); go_simp; first | done | rfl | exact ⟨rfl, rfl⟩
  simp only [Act.put, List.setIfInBounds_toArray, List.set_cons_zero, List.set_cons_succ]
  apply quiet_do
  · rfl
  · intro wq hC; have k0 : wq.cell? ⟨w.heap.size, 0, none⟩ = some (.int .u8 a) := hC.keep (by go_simp); have k1 : wq.cell? ⟨w.heap.size, 1, none⟩ = some (.int .u32 b) := hC.keep (by go_simp); have k2 : wq.cell? ⟨w.heap.size, 2, none⟩ = some (.int .u8 c) := hC.keep (by go_simp); have k3 : wq.cell? ⟨w.heap.size, 3, none⟩ = some (.bool d) := hC.keep (by go_simp); have k4 : wq.cell? ⟨w.heap.size, 4, none⟩ = some (s) := hC.keep (by go_simp); go_simp; first | done | rfl | exact ⟨rfl, rfl⟩
  simp only [Act.put, List.setIfInBounds_toArray, List.set_cons_zero, List.set_cons_succ]
  intro w1 hb1
  have hb1 : Below _ _ _ := hb1
  have yw1 : w.heap.size ≤ w1.heap.size := by (have := hb1.size; (try simp at this); omega)
  have c1_0 : w1.cell? ⟨w.heap.size, 0, none⟩ = some (.int .u8 a) := keep hb1 (by go_simp)
  have f1_0 : w1.frozen? ⟨w.heap.size, 0, none⟩ = false := keepF hb1 (.int .u8 a) (by go_simp) (by go_simp)
  have zw1_0 := cell_lt c1_0
  have c1_1 : w1.cell? ⟨w.heap.size, 1, none⟩ = some (.int .u32 b) := keep hb1 (by go_simp)
  have f1_1 : w1.frozen? ⟨w.heap.size, 1, none⟩ = false := keepF hb1 (.int .u32 b) (by go_simp) (by go_simp)
  have c1_2 : w1.cell? ⟨w.heap.size, 2, none⟩ = some (.int .u8 c) := keep hb1 (by go_simp)
  have f1_2 : w1.frozen? ⟨w.heap.size, 2, none⟩ = false := keepF hb1 (.int .u8 c) (by go_simp) (by go_simp)
  have c1_3 : w1.cell? ⟨w.heap.size, 3, none⟩ = some (.bool d) := keep hb1 (by go_simp)
  have f1_3 : w1.frozen? ⟨w.heap.size, 3, none⟩ = false := keepF hb1 (.bool d) (by go_simp) (by go_simp)
  have c1_4 : w1.cell? ⟨w.heap.size, 4, none⟩ = some (s) := keep hb1 (by go_simp)
  have f1_4 : w1.frozen? ⟨w.heap.size, 4, none⟩ = false := keepF hb1 (s) (by go_simp) (by go_simp)
  go_wp2_with fail
  go_ret2
  exact ⟨rfl, (by repeat (first | exact Below.refl _ _ | refine balloc ?_ _ | refine bset ?_ (by first | (simp; done) | (simp; omega)) _ | refine bdrew ?_ | refine bstep ?_ (by assumption)))⟩
end Go.Proofs.Ytnhfholodillaaa
