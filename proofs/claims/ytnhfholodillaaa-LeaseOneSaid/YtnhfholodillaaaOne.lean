/- The law LeaseOne, walked: for anything done it returns true and writes nothing that was there. -/
import Derived.Test.YtnhfholodillaaaOneA
set_option linter.unusedVariables false
set_option linter.unusedSimpArgs false
namespace Go.Proofs.Ytnhfholodillaaa
open Go.RowKit

theorem does_at {k o t a b x y z : Int} (h : doz k o t a b = (x, y, z)) (w : World) (hk : 0 ≤ k) (hlo : -9223372036854775808 ≤ b) (hhi : b ≤ 9223372036854775807) :
    Calls Try.prog 32 #[.agg #[.int .u8 k, .int .u16 o, .int .i64 t], .agg #[.int .u16 a, .int .i64 b]] w fun e' w' => e' = .returned (.tuple #[.agg #[.int .u16 x, .int .i64 y], .int .i64 z]) ∧ Below w.heap.size w w' := by
  have := does_any k o t a b w hk hlo hhi
  rw [h] at this; exact this

set_option maxRecDepth 100000 in
set_option maxHeartbeats 8000000 in
theorem one_walk (A : Option Addr) (n cap : Nat) (w : World) (hn : n ≤ cap) (hcap : cap ≤ maxLen) (hA : A = none → cap = 0) (hv : RowsV w A n 3 El52) :
    Calls Try.prog 5 #[.slice A n cap] w fun e' w' => e' = .returned (.bool true) ∧ Below w.heap.size w w' := by
  unfold maxLen at hcap
  have HV := Lib.hid hv
  have HA := Lib.hid hA
  clear hv hA
  go_enter Try.func5, Try.ntmps5
  go_wp2_with fail
  have hM : 0 ≤ min (n : Int) 300 ∧ min (n : Int) 300 ≤ n := by omega
  generalize min (n : Int) 300 = M at *
  obtain ⟨hM0, hM1⟩ := hM
  obtain ⟨N, rfl⟩ := Int.eq_ofNat_of_zero_le hM0
  rw [show max (N : Int) 0 = N from by omega, Int.toNat_natCast]
  have hNn : N ≤ n := by omega
  go_loopw [15] (fun i wr => ∃ k : Nat, k ≤ N ∧ i = .int .i64 k ∧ ∃ a b : Int, Hid (rgt a b = true) ∧ b ≤ 9223372036854775807 ∧ -1 ≤ b ∧ wr.cell? ⟨w.heap.size, 0, none⟩ = some (.int .u16 a) ∧ wr.cell? ⟨w.heap.size, 1, none⟩ = some (.int .i64 b) ∧ wr.frozen? ⟨w.heap.size, 0, none⟩ = false ∧ wr.frozen? ⟨w.heap.size, 1, none⟩ = false ∧ w.heap.size < wr.heap.size ∧ Below w.heap.size w wr) (fun i _ => N - (intOf i).toNat)
  case atStart => exact ⟨0, by omega, rfl, 0, 0, Lib.hid rgt_zero, by omega, by omega, by go_simp, by go_simp, by go_simp, by go_simp, (by first | omega | (simp; done) | (simp; omega)), (by repeat (first | assumption | exact Below.refl _ _ | refine balloc ?_ _ | refine bset ?_ (by first | (simp; done) | (simp; omega)) _ | refine bdrew ?_ | refine bstep ?_ (by assumption)))⟩
  case round =>
    obtain ⟨k, hk, rfl, a, b, Hr, hb1, hb0, c0, c1, f0, f1, hz, hBel⟩ := hrel
    have hwr := hBel.size
    by_cases hlt : k < N
    · obtain ⟨b', off, cs, hA, _, ⟨q, x, t, rfl, hq, hx, ht⟩, hc⟩ := HV.out.at (by omega) (show k < n by omega)
      subst hA
      have d0 : wr.cell? ⟨b', off + k * 3, none⟩ = some (.int .u8 q) := by
        have := hc 0 (by omega)
        rw [hBel.cell (p := ⟨b', off + k * 3, none⟩) (cell_lt this)]; exact this
      have d1 : wr.cell? ⟨b', off + k * 3 + 1, none⟩ = some (.int .u16 x) := by
        have := hc 1 (by omega)
        rw [hBel.cell (p := ⟨b', off + k * 3 + 1, none⟩) (cell_lt this)]; exact this
      have d2 : wr.cell? ⟨b', off + k * 3 + 2, none⟩ = some (.int .i64 t) := by
        have := hc 2 (by omega)
        rw [hBel.cell (p := ⟨b', off + k * 3 + 2, none⟩) (cell_lt this)]; exact this
      clear hc
      obtain ⟨hq0, hq1⟩ := hq
      obtain ⟨yo, yl, e, hy, hyr, hyl, hyl0, hcase⟩ := doz_right q x t a b Hr.out hb1 ht.2
      have HY := Lib.hid hy
      have HYR := Lib.hid hyr
      clear hy hyr
      have HF := Lib.hid (fre_rgt HYR.out)
      rcases hcase with ⟨he, h1, h2⟩ | ⟨he, h1, h2⟩ | ⟨he, h1, h2, h3, h4⟩ | ⟨he, h1, h2, h3, h4⟩ | ⟨he, h1, h2, h3⟩ | ⟨he, h1, h2⟩
      · subst h1
        subst h2
        have e1 : (e != 0) = true := by simpa using he
        clear he
        by_cases ha : yo = 0
        · subst ha
          go_wp2_with fail
          with_reducible refine (does_at HY.out _ hq0 (by omega) (by omega)).mono ?_
          rintro e3 w3 ⟨rfl, hb3⟩
          have yw3 : w.heap.size ≤ w3.heap.size := by (have := hb3.size; (try simp at this); omega)
          have c3_0 : w3.cell? ⟨w.heap.size, 0, none⟩ = some (.int .u16 0) := keep hb3 (by go_simp)
          have f3_0 : w3.frozen? ⟨w.heap.size, 0, none⟩ = false := keepF hb3 (.int .u16 0) (by go_simp) (by go_simp)
          have zw3_0 := cell_lt c3_0
          have c3_1 : w3.cell? ⟨w.heap.size, 1, none⟩ = some (.int .i64 yl) := keep hb3 (by go_simp)
          have f3_1 : w3.frozen? ⟨w.heap.size, 1, none⟩ = false := keepF hb3 (.int .i64 yl) (by go_simp) (by go_simp)
          have c3_2 : w3.cell? ⟨wr.heap.size, 0, none⟩ = some (.int .u8 q) := keep hb3 (by go_simp)
          have f3_2 : w3.frozen? ⟨wr.heap.size, 0, none⟩ = false := keepF hb3 (.int .u8 q) (by go_simp) (by go_simp)
          have zw3_2 := cell_lt c3_2
          have c3_3 : w3.cell? ⟨wr.heap.size, 1, none⟩ = some (.int .u16 x) := keep hb3 (by go_simp)
          have f3_3 : w3.frozen? ⟨wr.heap.size, 1, none⟩ = false := keepF hb3 (.int .u16 x) (by go_simp) (by go_simp)
          have c3_4 : w3.cell? ⟨wr.heap.size, 2, none⟩ = some (.int .i64 t) := keep hb3 (by go_simp)
          have f3_4 : w3.frozen? ⟨wr.heap.size, 2, none⟩ = false := keepF hb3 (.int .i64 t) (by go_simp) (by go_simp)
          go_wp2_with fail
          refine wp_region_below (by kernel_rfl) (by kernel_rfl) ?_
          apply quiet_do
          · rfl
          · intro wq hC; have k0 : wq.cell? ⟨w.heap.size, 0, none⟩ = some (.int .u16 0) := hC.keep (by go_simp); have k1 : wq.cell? ⟨w.heap.size, 1, none⟩ = some (.int .i64 yl) := hC.keep (by go_simp); have k2 : wq.cell? ⟨wr.heap.size, 0, none⟩ = some (.int .u8 q) := hC.keep (by go_simp); have k3 : wq.cell? ⟨wr.heap.size, 1, none⟩ = some (.int .u16 x) := hC.keep (by go_simp); have k4 : wq.cell? ⟨wr.heap.size, 2, none⟩ = some (.int .i64 t) := hC.keep (by go_simp); have k5 : wq.cell? ⟨w3.heap.size, 0, none⟩ = some (.int .u16 0) := hC.keep (by go_simp); have k6 : wq.cell? ⟨w3.heap.size, 1, none⟩ = some (.int .i64 yl) := hC.keep (by go_simp); go_simp; first | done | rfl | exact ⟨rfl, rfl⟩
          simp only [Act.put, List.setIfInBounds_toArray, List.set_cons_zero, List.set_cons_succ]
          apply quiet_do
          · rfl
          · intro wq hC; have k0 : wq.cell? ⟨w.heap.size, 0, none⟩ = some (.int .u16 0) := hC.keep (by go_simp); have k1 : wq.cell? ⟨w.heap.size, 1, none⟩ = some (.int .i64 yl) := hC.keep (by go_simp); have k2 : wq.cell? ⟨wr.heap.size, 0, none⟩ = some (.int .u8 q) := hC.keep (by go_simp); have k3 : wq.cell? ⟨wr.heap.size, 1, none⟩ = some (.int .u16 x) := hC.keep (by go_simp); have k4 : wq.cell? ⟨wr.heap.size, 2, none⟩ = some (.int .i64 t) := hC.keep (by go_simp); have k5 : wq.cell? ⟨w3.heap.size, 0, none⟩ = some (.int .u16 0) := hC.keep (by go_simp); have k6 : wq.cell? ⟨w3.heap.size, 1, none⟩ = some (.int .i64 yl) := hC.keep (by go_simp); go_simp; refine (right_at HYR.out _).mono ?_; rintro eq wq2 ⟨rfl, hbq⟩; exact ⟨rfl, hC.step hbq⟩
          simp only [Act.put, List.setIfInBounds_toArray, List.set_cons_zero, List.set_cons_succ]
          apply quiet_do
          · rfl
          · intro wq hC; have k0 : wq.cell? ⟨w.heap.size, 0, none⟩ = some (.int .u16 0) := hC.keep (by go_simp); have k1 : wq.cell? ⟨w.heap.size, 1, none⟩ = some (.int .i64 yl) := hC.keep (by go_simp); have k2 : wq.cell? ⟨wr.heap.size, 0, none⟩ = some (.int .u8 q) := hC.keep (by go_simp); have k3 : wq.cell? ⟨wr.heap.size, 1, none⟩ = some (.int .u16 x) := hC.keep (by go_simp); have k4 : wq.cell? ⟨wr.heap.size, 2, none⟩ = some (.int .i64 t) := hC.keep (by go_simp); have k5 : wq.cell? ⟨w3.heap.size, 0, none⟩ = some (.int .u16 0) := hC.keep (by go_simp); have k6 : wq.cell? ⟨w3.heap.size, 1, none⟩ = some (.int .i64 yl) := hC.keep (by go_simp); go_simp; first | done | rfl | exact ⟨rfl, rfl⟩
          simp only [Act.put, List.setIfInBounds_toArray, List.set_cons_zero, List.set_cons_succ]
          apply quiet_do
          · rfl
          · intro wq hC; have k0 : wq.cell? ⟨w.heap.size, 0, none⟩ = some (.int .u16 0) := hC.keep (by go_simp); have k1 : wq.cell? ⟨w.heap.size, 1, none⟩ = some (.int .i64 yl) := hC.keep (by go_simp); have k2 : wq.cell? ⟨wr.heap.size, 0, none⟩ = some (.int .u8 q) := hC.keep (by go_simp); have k3 : wq.cell? ⟨wr.heap.size, 1, none⟩ = some (.int .u16 x) := hC.keep (by go_simp); have k4 : wq.cell? ⟨wr.heap.size, 2, none⟩ = some (.int .i64 t) := hC.keep (by go_simp); have k5 : wq.cell? ⟨w3.heap.size, 0, none⟩ = some (.int .u16 0) := hC.keep (by go_simp); have k6 : wq.cell? ⟨w3.heap.size, 1, none⟩ = some (.int .i64 yl) := hC.keep (by go_simp); go_simp; first | done | rfl | exact ⟨rfl, rfl⟩
          simp only [Act.put, List.setIfInBounds_toArray, List.set_cons_zero, List.set_cons_succ]
          apply quiet_do
          · rfl
          · intro wq hC; have k0 : wq.cell? ⟨w.heap.size, 0, none⟩ = some (.int .u16 0) := hC.keep (by go_simp); have k1 : wq.cell? ⟨w.heap.size, 1, none⟩ = some (.int .i64 yl) := hC.keep (by go_simp); have k2 : wq.cell? ⟨wr.heap.size, 0, none⟩ = some (.int .u8 q) := hC.keep (by go_simp); have k3 : wq.cell? ⟨wr.heap.size, 1, none⟩ = some (.int .u16 x) := hC.keep (by go_simp); have k4 : wq.cell? ⟨wr.heap.size, 2, none⟩ = some (.int .i64 t) := hC.keep (by go_simp); have k5 : wq.cell? ⟨w3.heap.size, 0, none⟩ = some (.int .u16 0) := hC.keep (by go_simp); have k6 : wq.cell? ⟨w3.heap.size, 1, none⟩ = some (.int .i64 yl) := hC.keep (by go_simp); go_simp; first | done | rfl | exact ⟨rfl, rfl⟩
          simp only [Act.put, List.setIfInBounds_toArray, List.set_cons_zero, List.set_cons_succ]
          apply quiet_do
          · rfl
          · intro wq hC; have k0 : wq.cell? ⟨w.heap.size, 0, none⟩ = some (.int .u16 0) := hC.keep (by go_simp); have k1 : wq.cell? ⟨w.heap.size, 1, none⟩ = some (.int .i64 yl) := hC.keep (by go_simp); have k2 : wq.cell? ⟨wr.heap.size, 0, none⟩ = some (.int .u8 q) := hC.keep (by go_simp); have k3 : wq.cell? ⟨wr.heap.size, 1, none⟩ = some (.int .u16 x) := hC.keep (by go_simp); have k4 : wq.cell? ⟨wr.heap.size, 2, none⟩ = some (.int .i64 t) := hC.keep (by go_simp); have k5 : wq.cell? ⟨w3.heap.size, 0, none⟩ = some (.int .u16 0) := hC.keep (by go_simp); have k6 : wq.cell? ⟨w3.heap.size, 1, none⟩ = some (.int .i64 yl) := hC.keep (by go_simp); go_simp; first | done | rfl | exact ⟨rfl, rfl⟩
          simp only [Act.put, List.setIfInBounds_toArray, List.set_cons_zero, List.set_cons_succ]
          apply quiet_do
          · rfl
          · intro wq hC; have k0 : wq.cell? ⟨w.heap.size, 0, none⟩ = some (.int .u16 0) := hC.keep (by go_simp); have k1 : wq.cell? ⟨w.heap.size, 1, none⟩ = some (.int .i64 yl) := hC.keep (by go_simp); have k2 : wq.cell? ⟨wr.heap.size, 0, none⟩ = some (.int .u8 q) := hC.keep (by go_simp); have k3 : wq.cell? ⟨wr.heap.size, 1, none⟩ = some (.int .u16 x) := hC.keep (by go_simp); have k4 : wq.cell? ⟨wr.heap.size, 2, none⟩ = some (.int .i64 t) := hC.keep (by go_simp); have k5 : wq.cell? ⟨w3.heap.size, 0, none⟩ = some (.int .u16 0) := hC.keep (by go_simp); have k6 : wq.cell? ⟨w3.heap.size, 1, none⟩ = some (.int .i64 yl) := hC.keep (by go_simp); go_simp; first | done | rfl | exact ⟨rfl, rfl⟩
          simp only [Act.put, List.setIfInBounds_toArray, List.set_cons_zero, List.set_cons_succ]
          apply quiet_do
          · rfl
          · intro wq hC; have k0 : wq.cell? ⟨w.heap.size, 0, none⟩ = some (.int .u16 0) := hC.keep (by go_simp); have k1 : wq.cell? ⟨w.heap.size, 1, none⟩ = some (.int .i64 yl) := hC.keep (by go_simp); have k2 : wq.cell? ⟨wr.heap.size, 0, none⟩ = some (.int .u8 q) := hC.keep (by go_simp); have k3 : wq.cell? ⟨wr.heap.size, 1, none⟩ = some (.int .u16 x) := hC.keep (by go_simp); have k4 : wq.cell? ⟨wr.heap.size, 2, none⟩ = some (.int .i64 t) := hC.keep (by go_simp); have k5 : wq.cell? ⟨w3.heap.size, 0, none⟩ = some (.int .u16 0) := hC.keep (by go_simp); have k6 : wq.cell? ⟨w3.heap.size, 1, none⟩ = some (.int .i64 yl) := hC.keep (by go_simp); go_simp; first | done | rfl | exact ⟨rfl, rfl⟩
          simp only [Act.put, List.setIfInBounds_toArray, List.set_cons_zero, List.set_cons_succ]
          apply quiet_do
          · rfl
          · intro wq hC; have k0 : wq.cell? ⟨w.heap.size, 0, none⟩ = some (.int .u16 0) := hC.keep (by go_simp); have k1 : wq.cell? ⟨w.heap.size, 1, none⟩ = some (.int .i64 yl) := hC.keep (by go_simp); have k2 : wq.cell? ⟨wr.heap.size, 0, none⟩ = some (.int .u8 q) := hC.keep (by go_simp); have k3 : wq.cell? ⟨wr.heap.size, 1, none⟩ = some (.int .u16 x) := hC.keep (by go_simp); have k4 : wq.cell? ⟨wr.heap.size, 2, none⟩ = some (.int .i64 t) := hC.keep (by go_simp); have k5 : wq.cell? ⟨w3.heap.size, 0, none⟩ = some (.int .u16 0) := hC.keep (by go_simp); have k6 : wq.cell? ⟨w3.heap.size, 1, none⟩ = some (.int .i64 yl) := hC.keep (by go_simp); go_simp; first | done | rfl | exact ⟨rfl, rfl⟩
          simp only [Act.put, List.setIfInBounds_toArray, List.set_cons_zero, List.set_cons_succ]
          apply quiet_do
          · rfl
          · intro wq hC; have k0 : wq.cell? ⟨w.heap.size, 0, none⟩ = some (.int .u16 0) := hC.keep (by go_simp); have k1 : wq.cell? ⟨w.heap.size, 1, none⟩ = some (.int .i64 yl) := hC.keep (by go_simp); have k2 : wq.cell? ⟨wr.heap.size, 0, none⟩ = some (.int .u8 q) := hC.keep (by go_simp); have k3 : wq.cell? ⟨wr.heap.size, 1, none⟩ = some (.int .u16 x) := hC.keep (by go_simp); have k4 : wq.cell? ⟨wr.heap.size, 2, none⟩ = some (.int .i64 t) := hC.keep (by go_simp); have k5 : wq.cell? ⟨w3.heap.size, 0, none⟩ = some (.int .u16 0) := hC.keep (by go_simp); have k6 : wq.cell? ⟨w3.heap.size, 1, none⟩ = some (.int .i64 yl) := hC.keep (by go_simp); go_simp; first | done | rfl | exact ⟨rfl, rfl⟩
          simp only [Act.put, List.setIfInBounds_toArray, List.set_cons_zero, List.set_cons_succ]
          apply quiet_do
          · rfl
          · intro wq hC; have k0 : wq.cell? ⟨w.heap.size, 0, none⟩ = some (.int .u16 0) := hC.keep (by go_simp); have k1 : wq.cell? ⟨w.heap.size, 1, none⟩ = some (.int .i64 yl) := hC.keep (by go_simp); have k2 : wq.cell? ⟨wr.heap.size, 0, none⟩ = some (.int .u8 q) := hC.keep (by go_simp); have k3 : wq.cell? ⟨wr.heap.size, 1, none⟩ = some (.int .u16 x) := hC.keep (by go_simp); have k4 : wq.cell? ⟨wr.heap.size, 2, none⟩ = some (.int .i64 t) := hC.keep (by go_simp); have k5 : wq.cell? ⟨w3.heap.size, 0, none⟩ = some (.int .u16 0) := hC.keep (by go_simp); have k6 : wq.cell? ⟨w3.heap.size, 1, none⟩ = some (.int .i64 yl) := hC.keep (by go_simp); go_simp; first | done | rfl | exact ⟨rfl, rfl⟩
          simp only [Act.put, List.setIfInBounds_toArray, List.set_cons_zero, List.set_cons_succ]
          apply quiet_do
          · rfl
          · intro wq hC; have k0 : wq.cell? ⟨w.heap.size, 0, none⟩ = some (.int .u16 0) := hC.keep (by go_simp); have k1 : wq.cell? ⟨w.heap.size, 1, none⟩ = some (.int .i64 yl) := hC.keep (by go_simp); have k2 : wq.cell? ⟨wr.heap.size, 0, none⟩ = some (.int .u8 q) := hC.keep (by go_simp); have k3 : wq.cell? ⟨wr.heap.size, 1, none⟩ = some (.int .u16 x) := hC.keep (by go_simp); have k4 : wq.cell? ⟨wr.heap.size, 2, none⟩ = some (.int .i64 t) := hC.keep (by go_simp); have k5 : wq.cell? ⟨w3.heap.size, 0, none⟩ = some (.int .u16 0) := hC.keep (by go_simp); have k6 : wq.cell? ⟨w3.heap.size, 1, none⟩ = some (.int .i64 yl) := hC.keep (by go_simp); go_simp; first | done | rfl | exact ⟨rfl, rfl⟩
          simp only [Act.put, List.setIfInBounds_toArray, List.set_cons_zero, List.set_cons_succ]
          apply quiet_do
          · rfl
          · intro wq hC; have k0 : wq.cell? ⟨w.heap.size, 0, none⟩ = some (.int .u16 0) := hC.keep (by go_simp); have k1 : wq.cell? ⟨w.heap.size, 1, none⟩ = some (.int .i64 yl) := hC.keep (by go_simp); have k2 : wq.cell? ⟨wr.heap.size, 0, none⟩ = some (.int .u8 q) := hC.keep (by go_simp); have k3 : wq.cell? ⟨wr.heap.size, 1, none⟩ = some (.int .u16 x) := hC.keep (by go_simp); have k4 : wq.cell? ⟨wr.heap.size, 2, none⟩ = some (.int .i64 t) := hC.keep (by go_simp); have k5 : wq.cell? ⟨w3.heap.size, 0, none⟩ = some (.int .u16 0) := hC.keep (by go_simp); have k6 : wq.cell? ⟨w3.heap.size, 1, none⟩ = some (.int .i64 yl) := hC.keep (by go_simp); go_simp; first | done | rfl | exact ⟨rfl, rfl⟩
          simp only [Act.put, List.setIfInBounds_toArray, List.set_cons_zero, List.set_cons_succ]
          apply quiet_do
          · rfl
          · intro wq hC; have k0 : wq.cell? ⟨w.heap.size, 0, none⟩ = some (.int .u16 0) := hC.keep (by go_simp); have k1 : wq.cell? ⟨w.heap.size, 1, none⟩ = some (.int .i64 yl) := hC.keep (by go_simp); have k2 : wq.cell? ⟨wr.heap.size, 0, none⟩ = some (.int .u8 q) := hC.keep (by go_simp); have k3 : wq.cell? ⟨wr.heap.size, 1, none⟩ = some (.int .u16 x) := hC.keep (by go_simp); have k4 : wq.cell? ⟨wr.heap.size, 2, none⟩ = some (.int .i64 t) := hC.keep (by go_simp); have k5 : wq.cell? ⟨w3.heap.size, 0, none⟩ = some (.int .u16 0) := hC.keep (by go_simp); have k6 : wq.cell? ⟨w3.heap.size, 1, none⟩ = some (.int .i64 yl) := hC.keep (by go_simp); go_simp; first | done | rfl | exact ⟨rfl, rfl⟩
          simp only [Act.put, List.setIfInBounds_toArray, List.set_cons_zero, List.set_cons_succ]
          apply quiet_do
          · rfl
          · intro wq hC; have k0 : wq.cell? ⟨w.heap.size, 0, none⟩ = some (.int .u16 0) := hC.keep (by go_simp); have k1 : wq.cell? ⟨w.heap.size, 1, none⟩ = some (.int .i64 yl) := hC.keep (by go_simp); have k2 : wq.cell? ⟨wr.heap.size, 0, none⟩ = some (.int .u8 q) := hC.keep (by go_simp); have k3 : wq.cell? ⟨wr.heap.size, 1, none⟩ = some (.int .u16 x) := hC.keep (by go_simp); have k4 : wq.cell? ⟨wr.heap.size, 2, none⟩ = some (.int .i64 t) := hC.keep (by go_simp); have k5 : wq.cell? ⟨w3.heap.size, 0, none⟩ = some (.int .u16 0) := hC.keep (by go_simp); have k6 : wq.cell? ⟨w3.heap.size, 1, none⟩ = some (.int .i64 yl) := hC.keep (by go_simp); go_simp; first | done | rfl | exact ⟨rfl, rfl⟩
          simp only [Act.put, List.setIfInBounds_toArray, List.set_cons_zero, List.set_cons_succ]
          apply quiet_do
          · rfl
          · intro wq hC; have k0 : wq.cell? ⟨w.heap.size, 0, none⟩ = some (.int .u16 0) := hC.keep (by go_simp); have k1 : wq.cell? ⟨w.heap.size, 1, none⟩ = some (.int .i64 yl) := hC.keep (by go_simp); have k2 : wq.cell? ⟨wr.heap.size, 0, none⟩ = some (.int .u8 q) := hC.keep (by go_simp); have k3 : wq.cell? ⟨wr.heap.size, 1, none⟩ = some (.int .u16 x) := hC.keep (by go_simp); have k4 : wq.cell? ⟨wr.heap.size, 2, none⟩ = some (.int .i64 t) := hC.keep (by go_simp); have k5 : wq.cell? ⟨w3.heap.size, 0, none⟩ = some (.int .u16 0) := hC.keep (by go_simp); have k6 : wq.cell? ⟨w3.heap.size, 1, none⟩ = some (.int .i64 yl) := hC.keep (by go_simp); go_simp; first | done | rfl | exact ⟨rfl, rfl⟩
          simp only [Act.put, List.setIfInBounds_toArray, List.set_cons_zero, List.set_cons_succ]
          apply quiet_do
          · rfl
          · intro wq hC; have k0 : wq.cell? ⟨w.heap.size, 0, none⟩ = some (.int .u16 0) := hC.keep (by go_simp); have k1 : wq.cell? ⟨w.heap.size, 1, none⟩ = some (.int .i64 yl) := hC.keep (by go_simp); have k2 : wq.cell? ⟨wr.heap.size, 0, none⟩ = some (.int .u8 q) := hC.keep (by go_simp); have k3 : wq.cell? ⟨wr.heap.size, 1, none⟩ = some (.int .u16 x) := hC.keep (by go_simp); have k4 : wq.cell? ⟨wr.heap.size, 2, none⟩ = some (.int .i64 t) := hC.keep (by go_simp); have k5 : wq.cell? ⟨w3.heap.size, 0, none⟩ = some (.int .u16 0) := hC.keep (by go_simp); have k6 : wq.cell? ⟨w3.heap.size, 1, none⟩ = some (.int .i64 yl) := hC.keep (by go_simp); go_simp; first | done | rfl | exact ⟨rfl, rfl⟩
          simp only [Act.put, List.setIfInBounds_toArray, List.set_cons_zero, List.set_cons_succ]
          refine quiet_not (by rfl) ?_
          simp only [Act.put, List.setIfInBounds_toArray, List.set_cons_zero, List.set_cons_succ]
          refine quiet_not (by rfl) ?_
          simp only [Act.put, List.setIfInBounds_toArray, List.set_cons_zero, List.set_cons_succ]
          refine quiet_not (by rfl) ?_
          simp only [Act.put, List.setIfInBounds_toArray, List.set_cons_zero, List.set_cons_succ]
          apply quiet_do
          · rfl
          · intro wq hC; have k0 : wq.cell? ⟨w.heap.size, 0, none⟩ = some (.int .u16 0) := hC.keep (by go_simp); have k1 : wq.cell? ⟨w.heap.size, 1, none⟩ = some (.int .i64 yl) := hC.keep (by go_simp); have k2 : wq.cell? ⟨wr.heap.size, 0, none⟩ = some (.int .u8 q) := hC.keep (by go_simp); have k3 : wq.cell? ⟨wr.heap.size, 1, none⟩ = some (.int .u16 x) := hC.keep (by go_simp); have k4 : wq.cell? ⟨wr.heap.size, 2, none⟩ = some (.int .i64 t) := hC.keep (by go_simp); have k5 : wq.cell? ⟨w3.heap.size, 0, none⟩ = some (.int .u16 0) := hC.keep (by go_simp); have k6 : wq.cell? ⟨w3.heap.size, 1, none⟩ = some (.int .i64 yl) := hC.keep (by go_simp); go_simp; first | done | rfl | exact ⟨rfl, rfl⟩
          simp only [Act.put, List.setIfInBounds_toArray, List.set_cons_zero, List.set_cons_succ]
          apply quiet_do
          · rfl
          · intro wq hC; have k0 : wq.cell? ⟨w.heap.size, 0, none⟩ = some (.int .u16 0) := hC.keep (by go_simp); have k1 : wq.cell? ⟨w.heap.size, 1, none⟩ = some (.int .i64 yl) := hC.keep (by go_simp); have k2 : wq.cell? ⟨wr.heap.size, 0, none⟩ = some (.int .u8 q) := hC.keep (by go_simp); have k3 : wq.cell? ⟨wr.heap.size, 1, none⟩ = some (.int .u16 x) := hC.keep (by go_simp); have k4 : wq.cell? ⟨wr.heap.size, 2, none⟩ = some (.int .i64 t) := hC.keep (by go_simp); have k5 : wq.cell? ⟨w3.heap.size, 0, none⟩ = some (.int .u16 0) := hC.keep (by go_simp); have k6 : wq.cell? ⟨w3.heap.size, 1, none⟩ = some (.int .i64 yl) := hC.keep (by go_simp); go_simp; first | done | rfl | exact ⟨rfl, rfl⟩
          simp only [Act.put, List.setIfInBounds_toArray, List.set_cons_zero, List.set_cons_succ]
          refine quiet_not (by rfl) ?_
          simp only [Act.put, List.setIfInBounds_toArray, List.set_cons_zero, List.set_cons_succ]
          refine quiet_not (by rfl) ?_
          simp only [Act.put, List.setIfInBounds_toArray, List.set_cons_zero, List.set_cons_succ]
          refine quiet_not (by rfl) ?_
          simp only [Act.put, List.setIfInBounds_toArray, List.set_cons_zero, List.set_cons_succ]
          refine quiet_not (by rfl) ?_
          simp only [Act.put, List.setIfInBounds_toArray, List.set_cons_zero, List.set_cons_succ]
          refine quiet_not (by rfl) ?_
          simp only [Act.put, List.setIfInBounds_toArray, List.set_cons_zero, List.set_cons_succ]
          apply quiet_do
          · rfl
          · intro wq hC; have k0 : wq.cell? ⟨w.heap.size, 0, none⟩ = some (.int .u16 0) := hC.keep (by go_simp); have k1 : wq.cell? ⟨w.heap.size, 1, none⟩ = some (.int .i64 yl) := hC.keep (by go_simp); have k2 : wq.cell? ⟨wr.heap.size, 0, none⟩ = some (.int .u8 q) := hC.keep (by go_simp); have k3 : wq.cell? ⟨wr.heap.size, 1, none⟩ = some (.int .u16 x) := hC.keep (by go_simp); have k4 : wq.cell? ⟨wr.heap.size, 2, none⟩ = some (.int .i64 t) := hC.keep (by go_simp); have k5 : wq.cell? ⟨w3.heap.size, 0, none⟩ = some (.int .u16 0) := hC.keep (by go_simp); have k6 : wq.cell? ⟨w3.heap.size, 1, none⟩ = some (.int .i64 yl) := hC.keep (by go_simp); go_simp; first | done | rfl | exact ⟨rfl, rfl⟩
          simp only [Act.put, List.setIfInBounds_toArray, List.set_cons_zero, List.set_cons_succ]
          apply quiet_do
          · rfl
          · intro wq hC; have k0 : wq.cell? ⟨w.heap.size, 0, none⟩ = some (.int .u16 0) := hC.keep (by go_simp); have k1 : wq.cell? ⟨w.heap.size, 1, none⟩ = some (.int .i64 yl) := hC.keep (by go_simp); have k2 : wq.cell? ⟨wr.heap.size, 0, none⟩ = some (.int .u8 q) := hC.keep (by go_simp); have k3 : wq.cell? ⟨wr.heap.size, 1, none⟩ = some (.int .u16 x) := hC.keep (by go_simp); have k4 : wq.cell? ⟨wr.heap.size, 2, none⟩ = some (.int .i64 t) := hC.keep (by go_simp); have k5 : wq.cell? ⟨w3.heap.size, 0, none⟩ = some (.int .u16 0) := hC.keep (by go_simp); have k6 : wq.cell? ⟨w3.heap.size, 1, none⟩ = some (.int .i64 yl) := hC.keep (by go_simp); go_simp; first | done | rfl | exact ⟨rfl, rfl⟩
          simp only [Act.put, List.setIfInBounds_toArray, List.set_cons_zero, List.set_cons_succ]
          apply quiet_do
          · rfl
          · intro wq hC; have k0 : wq.cell? ⟨w.heap.size, 0, none⟩ = some (.int .u16 0) := hC.keep (by go_simp); have k1 : wq.cell? ⟨w.heap.size, 1, none⟩ = some (.int .i64 yl) := hC.keep (by go_simp); have k2 : wq.cell? ⟨wr.heap.size, 0, none⟩ = some (.int .u8 q) := hC.keep (by go_simp); have k3 : wq.cell? ⟨wr.heap.size, 1, none⟩ = some (.int .u16 x) := hC.keep (by go_simp); have k4 : wq.cell? ⟨wr.heap.size, 2, none⟩ = some (.int .i64 t) := hC.keep (by go_simp); have k5 : wq.cell? ⟨w3.heap.size, 0, none⟩ = some (.int .u16 0) := hC.keep (by go_simp); have k6 : wq.cell? ⟨w3.heap.size, 1, none⟩ = some (.int .i64 yl) := hC.keep (by go_simp); go_simp; first | done | rfl | exact ⟨rfl, rfl⟩
          simp only [Act.put, List.setIfInBounds_toArray, List.set_cons_zero, List.set_cons_succ]
          apply quiet_do
          · rfl
          · intro wq hC; have k0 : wq.cell? ⟨w.heap.size, 0, none⟩ = some (.int .u16 0) := hC.keep (by go_simp); have k1 : wq.cell? ⟨w.heap.size, 1, none⟩ = some (.int .i64 yl) := hC.keep (by go_simp); have k2 : wq.cell? ⟨wr.heap.size, 0, none⟩ = some (.int .u8 q) := hC.keep (by go_simp); have k3 : wq.cell? ⟨wr.heap.size, 1, none⟩ = some (.int .u16 x) := hC.keep (by go_simp); have k4 : wq.cell? ⟨wr.heap.size, 2, none⟩ = some (.int .i64 t) := hC.keep (by go_simp); have k5 : wq.cell? ⟨w3.heap.size, 0, none⟩ = some (.int .u16 0) := hC.keep (by go_simp); have k6 : wq.cell? ⟨w3.heap.size, 1, none⟩ = some (.int .i64 yl) := hC.keep (by go_simp); go_simp; first | done | rfl | exact ⟨rfl, rfl⟩
          simp only [Act.put, List.setIfInBounds_toArray, List.set_cons_zero, List.set_cons_succ]
          apply quiet_do
          · rfl
          · intro wq hC; have k0 : wq.cell? ⟨w.heap.size, 0, none⟩ = some (.int .u16 0) := hC.keep (by go_simp); have k1 : wq.cell? ⟨w.heap.size, 1, none⟩ = some (.int .i64 yl) := hC.keep (by go_simp); have k2 : wq.cell? ⟨wr.heap.size, 0, none⟩ = some (.int .u8 q) := hC.keep (by go_simp); have k3 : wq.cell? ⟨wr.heap.size, 1, none⟩ = some (.int .u16 x) := hC.keep (by go_simp); have k4 : wq.cell? ⟨wr.heap.size, 2, none⟩ = some (.int .i64 t) := hC.keep (by go_simp); have k5 : wq.cell? ⟨w3.heap.size, 0, none⟩ = some (.int .u16 0) := hC.keep (by go_simp); have k6 : wq.cell? ⟨w3.heap.size, 1, none⟩ = some (.int .i64 yl) := hC.keep (by go_simp); go_simp; first | done | rfl | exact ⟨rfl, rfl⟩
          simp only [Act.put, List.setIfInBounds_toArray, List.set_cons_zero, List.set_cons_succ]
          apply quiet_do
          · rfl
          · intro wq hC; have k0 : wq.cell? ⟨w.heap.size, 0, none⟩ = some (.int .u16 0) := hC.keep (by go_simp); have k1 : wq.cell? ⟨w.heap.size, 1, none⟩ = some (.int .i64 yl) := hC.keep (by go_simp); have k2 : wq.cell? ⟨wr.heap.size, 0, none⟩ = some (.int .u8 q) := hC.keep (by go_simp); have k3 : wq.cell? ⟨wr.heap.size, 1, none⟩ = some (.int .u16 x) := hC.keep (by go_simp); have k4 : wq.cell? ⟨wr.heap.size, 2, none⟩ = some (.int .i64 t) := hC.keep (by go_simp); have k5 : wq.cell? ⟨w3.heap.size, 0, none⟩ = some (.int .u16 0) := hC.keep (by go_simp); have k6 : wq.cell? ⟨w3.heap.size, 1, none⟩ = some (.int .i64 yl) := hC.keep (by go_simp); go_simp; first | done | rfl | exact ⟨rfl, rfl⟩
          simp only [Act.put, List.setIfInBounds_toArray, List.set_cons_zero, List.set_cons_succ]
          apply quiet_do
          · rfl
          · intro wq hC; have k0 : wq.cell? ⟨w.heap.size, 0, none⟩ = some (.int .u16 0) := hC.keep (by go_simp); have k1 : wq.cell? ⟨w.heap.size, 1, none⟩ = some (.int .i64 yl) := hC.keep (by go_simp); have k2 : wq.cell? ⟨wr.heap.size, 0, none⟩ = some (.int .u8 q) := hC.keep (by go_simp); have k3 : wq.cell? ⟨wr.heap.size, 1, none⟩ = some (.int .u16 x) := hC.keep (by go_simp); have k4 : wq.cell? ⟨wr.heap.size, 2, none⟩ = some (.int .i64 t) := hC.keep (by go_simp); have k5 : wq.cell? ⟨w3.heap.size, 0, none⟩ = some (.int .u16 0) := hC.keep (by go_simp); have k6 : wq.cell? ⟨w3.heap.size, 1, none⟩ = some (.int .i64 yl) := hC.keep (by go_simp); go_simp; first | done | rfl | exact ⟨rfl, rfl⟩
          simp only [Act.put, List.setIfInBounds_toArray, List.set_cons_zero, List.set_cons_succ]
          apply quiet_do
          · rfl
          · intro wq hC; have k0 : wq.cell? ⟨w.heap.size, 0, none⟩ = some (.int .u16 0) := hC.keep (by go_simp); have k1 : wq.cell? ⟨w.heap.size, 1, none⟩ = some (.int .i64 yl) := hC.keep (by go_simp); have k2 : wq.cell? ⟨wr.heap.size, 0, none⟩ = some (.int .u8 q) := hC.keep (by go_simp); have k3 : wq.cell? ⟨wr.heap.size, 1, none⟩ = some (.int .u16 x) := hC.keep (by go_simp); have k4 : wq.cell? ⟨wr.heap.size, 2, none⟩ = some (.int .i64 t) := hC.keep (by go_simp); have k5 : wq.cell? ⟨w3.heap.size, 0, none⟩ = some (.int .u16 0) := hC.keep (by go_simp); have k6 : wq.cell? ⟨w3.heap.size, 1, none⟩ = some (.int .i64 yl) := hC.keep (by go_simp); go_simp; refine (free_at HF.out _).mono ?_; rintro eq wq2 ⟨rfl, hbq⟩; exact ⟨rfl, hC.step hbq⟩
          simp only [Act.put, List.setIfInBounds_toArray, List.set_cons_zero, List.set_cons_succ]
          apply quiet_do
          · rfl
          · intro wq hC; have k0 : wq.cell? ⟨w.heap.size, 0, none⟩ = some (.int .u16 0) := hC.keep (by go_simp); have k1 : wq.cell? ⟨w.heap.size, 1, none⟩ = some (.int .i64 yl) := hC.keep (by go_simp); have k2 : wq.cell? ⟨wr.heap.size, 0, none⟩ = some (.int .u8 q) := hC.keep (by go_simp); have k3 : wq.cell? ⟨wr.heap.size, 1, none⟩ = some (.int .u16 x) := hC.keep (by go_simp); have k4 : wq.cell? ⟨wr.heap.size, 2, none⟩ = some (.int .i64 t) := hC.keep (by go_simp); have k5 : wq.cell? ⟨w3.heap.size, 0, none⟩ = some (.int .u16 0) := hC.keep (by go_simp); have k6 : wq.cell? ⟨w3.heap.size, 1, none⟩ = some (.int .i64 yl) := hC.keep (by go_simp); go_simp; first | done | rfl | exact ⟨rfl, rfl⟩
          simp only [Act.put, List.setIfInBounds_toArray, List.set_cons_zero, List.set_cons_succ]
          apply quiet_do
          · rfl
          · intro wq hC; have k0 : wq.cell? ⟨w.heap.size, 0, none⟩ = some (.int .u16 0) := hC.keep (by go_simp); have k1 : wq.cell? ⟨w.heap.size, 1, none⟩ = some (.int .i64 yl) := hC.keep (by go_simp); have k2 : wq.cell? ⟨wr.heap.size, 0, none⟩ = some (.int .u8 q) := hC.keep (by go_simp); have k3 : wq.cell? ⟨wr.heap.size, 1, none⟩ = some (.int .u16 x) := hC.keep (by go_simp); have k4 : wq.cell? ⟨wr.heap.size, 2, none⟩ = some (.int .i64 t) := hC.keep (by go_simp); have k5 : wq.cell? ⟨w3.heap.size, 0, none⟩ = some (.int .u16 0) := hC.keep (by go_simp); have k6 : wq.cell? ⟨w3.heap.size, 1, none⟩ = some (.int .i64 yl) := hC.keep (by go_simp); go_simp; first | done | rfl | exact ⟨rfl, rfl⟩
          simp only [Act.put, List.setIfInBounds_toArray, List.set_cons_zero, List.set_cons_succ]
          intro w4 hb4
          have hb4 : Below _ _ _ := hb4
          have yw4 : w.heap.size ≤ w4.heap.size := by (have := hb4.size; (try simp at this); omega)
          have c4_0 : w4.cell? ⟨w.heap.size, 0, none⟩ = some (.int .u16 0) := keep hb4 (by go_simp)
          have f4_0 : w4.frozen? ⟨w.heap.size, 0, none⟩ = false := keepF hb4 (.int .u16 0) (by go_simp) (by go_simp)
          have zw4_0 := cell_lt c4_0
          have c4_1 : w4.cell? ⟨w.heap.size, 1, none⟩ = some (.int .i64 yl) := keep hb4 (by go_simp)
          have f4_1 : w4.frozen? ⟨w.heap.size, 1, none⟩ = false := keepF hb4 (.int .i64 yl) (by go_simp) (by go_simp)
          have c4_2 : w4.cell? ⟨wr.heap.size, 0, none⟩ = some (.int .u8 q) := keep hb4 (by go_simp)
          have f4_2 : w4.frozen? ⟨wr.heap.size, 0, none⟩ = false := keepF hb4 (.int .u8 q) (by go_simp) (by go_simp)
          have zw4_2 := cell_lt c4_2
          have c4_3 : w4.cell? ⟨wr.heap.size, 1, none⟩ = some (.int .u16 x) := keep hb4 (by go_simp)
          have f4_3 : w4.frozen? ⟨wr.heap.size, 1, none⟩ = false := keepF hb4 (.int .u16 x) (by go_simp) (by go_simp)
          have c4_4 : w4.cell? ⟨wr.heap.size, 2, none⟩ = some (.int .i64 t) := keep hb4 (by go_simp)
          have f4_4 : w4.frozen? ⟨wr.heap.size, 2, none⟩ = false := keepF hb4 (.int .i64 t) (by go_simp) (by go_simp)
          have c4_5 : w4.cell? ⟨w3.heap.size, 0, none⟩ = some (.int .u16 0) := keep hb4 (by go_simp)
          have f4_5 : w4.frozen? ⟨w3.heap.size, 0, none⟩ = false := keepF hb4 (.int .u16 0) (by go_simp) (by go_simp)
          have zw4_5 := cell_lt c4_5
          have c4_6 : w4.cell? ⟨w3.heap.size, 1, none⟩ = some (.int .i64 yl) := keep hb4 (by go_simp)
          have f4_6 : w4.frozen? ⟨w3.heap.size, 1, none⟩ = false := keepF hb4 (.int .i64 yl) (by go_simp) (by go_simp)
          clear c3_0 f3_0 c3_1 f3_1 c3_2 f3_2 c3_3 f3_3 c3_4 f3_4
          go_wp2_with fail
          go_roundw
          case rel => exact ⟨k + 1, by omega, by go_num, 0, yl, HYR, by omega, by omega, by go_simp, by go_simp, by go_simp, by go_simp, (by first | omega | (simp; done) | (simp; omega)), (by repeat (first | assumption | exact Below.refl _ _ | refine balloc ?_ _ | refine bset ?_ (by first | (simp; done) | (simp; omega)) _ | refine bdrew ?_ | refine bstep ?_ (by assumption)))⟩
          case measure => (try simp [intOf]); omega
        · have b1 : (yo == 0) = false := by simpa using ha
          have b2 : (yo != 0) = true := by simpa using ha
          go_wp2_with fail
          with_reducible refine (does_at HY.out _ hq0 (by omega) (by omega)).mono ?_
          rintro e3 w3 ⟨rfl, hb3⟩
          have yw3 : w.heap.size ≤ w3.heap.size := by (have := hb3.size; (try simp at this); omega)
          have c3_0 : w3.cell? ⟨w.heap.size, 0, none⟩ = some (.int .u16 yo) := keep hb3 (by go_simp)
          have f3_0 : w3.frozen? ⟨w.heap.size, 0, none⟩ = false := keepF hb3 (.int .u16 yo) (by go_simp) (by go_simp)
          have zw3_0 := cell_lt c3_0
          have c3_1 : w3.cell? ⟨w.heap.size, 1, none⟩ = some (.int .i64 yl) := keep hb3 (by go_simp)
          have f3_1 : w3.frozen? ⟨w.heap.size, 1, none⟩ = false := keepF hb3 (.int .i64 yl) (by go_simp) (by go_simp)
          have c3_2 : w3.cell? ⟨wr.heap.size, 0, none⟩ = some (.int .u8 q) := keep hb3 (by go_simp)
          have f3_2 : w3.frozen? ⟨wr.heap.size, 0, none⟩ = false := keepF hb3 (.int .u8 q) (by go_simp) (by go_simp)
          have zw3_2 := cell_lt c3_2
          have c3_3 : w3.cell? ⟨wr.heap.size, 1, none⟩ = some (.int .u16 x) := keep hb3 (by go_simp)
          have f3_3 : w3.frozen? ⟨wr.heap.size, 1, none⟩ = false := keepF hb3 (.int .u16 x) (by go_simp) (by go_simp)
          have c3_4 : w3.cell? ⟨wr.heap.size, 2, none⟩ = some (.int .i64 t) := keep hb3 (by go_simp)
          have f3_4 : w3.frozen? ⟨wr.heap.size, 2, none⟩ = false := keepF hb3 (.int .i64 t) (by go_simp) (by go_simp)
          go_wp2_with fail
          refine wp_region_below (by kernel_rfl) (by kernel_rfl) ?_
          apply quiet_do
          · rfl
          · intro wq hC; have k0 : wq.cell? ⟨w.heap.size, 0, none⟩ = some (.int .u16 yo) := hC.keep (by go_simp); have k1 : wq.cell? ⟨w.heap.size, 1, none⟩ = some (.int .i64 yl) := hC.keep (by go_simp); have k2 : wq.cell? ⟨wr.heap.size, 0, none⟩ = some (.int .u8 q) := hC.keep (by go_simp); have k3 : wq.cell? ⟨wr.heap.size, 1, none⟩ = some (.int .u16 x) := hC.keep (by go_simp); have k4 : wq.cell? ⟨wr.heap.size, 2, none⟩ = some (.int .i64 t) := hC.keep (by go_simp); have k5 : wq.cell? ⟨w3.heap.size, 0, none⟩ = some (.int .u16 yo) := hC.keep (by go_simp); have k6 : wq.cell? ⟨w3.heap.size, 1, none⟩ = some (.int .i64 yl) := hC.keep (by go_simp); go_simp; first | done | rfl | exact ⟨rfl, rfl⟩
          simp only [Act.put, List.setIfInBounds_toArray, List.set_cons_zero, List.set_cons_succ]
          apply quiet_do
          · rfl
          · intro wq hC; have k0 : wq.cell? ⟨w.heap.size, 0, none⟩ = some (.int .u16 yo) := hC.keep (by go_simp); have k1 : wq.cell? ⟨w.heap.size, 1, none⟩ = some (.int .i64 yl) := hC.keep (by go_simp); have k2 : wq.cell? ⟨wr.heap.size, 0, none⟩ = some (.int .u8 q) := hC.keep (by go_simp); have k3 : wq.cell? ⟨wr.heap.size, 1, none⟩ = some (.int .u16 x) := hC.keep (by go_simp); have k4 : wq.cell? ⟨wr.heap.size, 2, none⟩ = some (.int .i64 t) := hC.keep (by go_simp); have k5 : wq.cell? ⟨w3.heap.size, 0, none⟩ = some (.int .u16 yo) := hC.keep (by go_simp); have k6 : wq.cell? ⟨w3.heap.size, 1, none⟩ = some (.int .i64 yl) := hC.keep (by go_simp); go_simp; refine (right_at HYR.out _).mono ?_; rintro eq wq2 ⟨rfl, hbq⟩; exact ⟨rfl, hC.step hbq⟩
          simp only [Act.put, List.setIfInBounds_toArray, List.set_cons_zero, List.set_cons_succ]
          apply quiet_do
          · rfl
          · intro wq hC; have k0 : wq.cell? ⟨w.heap.size, 0, none⟩ = some (.int .u16 yo) := hC.keep (by go_simp); have k1 : wq.cell? ⟨w.heap.size, 1, none⟩ = some (.int .i64 yl) := hC.keep (by go_simp); have k2 : wq.cell? ⟨wr.heap.size, 0, none⟩ = some (.int .u8 q) := hC.keep (by go_simp); have k3 : wq.cell? ⟨wr.heap.size, 1, none⟩ = some (.int .u16 x) := hC.keep (by go_simp); have k4 : wq.cell? ⟨wr.heap.size, 2, none⟩ = some (.int .i64 t) := hC.keep (by go_simp); have k5 : wq.cell? ⟨w3.heap.size, 0, none⟩ = some (.int .u16 yo) := hC.keep (by go_simp); have k6 : wq.cell? ⟨w3.heap.size, 1, none⟩ = some (.int .i64 yl) := hC.keep (by go_simp); go_simp; first | done | rfl | exact ⟨rfl, rfl⟩
          simp only [Act.put, List.setIfInBounds_toArray, List.set_cons_zero, List.set_cons_succ]
          apply quiet_do
          · rfl
          · intro wq hC; have k0 : wq.cell? ⟨w.heap.size, 0, none⟩ = some (.int .u16 yo) := hC.keep (by go_simp); have k1 : wq.cell? ⟨w.heap.size, 1, none⟩ = some (.int .i64 yl) := hC.keep (by go_simp); have k2 : wq.cell? ⟨wr.heap.size, 0, none⟩ = some (.int .u8 q) := hC.keep (by go_simp); have k3 : wq.cell? ⟨wr.heap.size, 1, none⟩ = some (.int .u16 x) := hC.keep (by go_simp); have k4 : wq.cell? ⟨wr.heap.size, 2, none⟩ = some (.int .i64 t) := hC.keep (by go_simp); have k5 : wq.cell? ⟨w3.heap.size, 0, none⟩ = some (.int .u16 yo) := hC.keep (by go_simp); have k6 : wq.cell? ⟨w3.heap.size, 1, none⟩ = some (.int .i64 yl) := hC.keep (by go_simp); go_simp; first | done | rfl | exact ⟨rfl, rfl⟩
          simp only [Act.put, List.setIfInBounds_toArray, List.set_cons_zero, List.set_cons_succ]
          apply quiet_do
          · rfl
          · intro wq hC; have k0 : wq.cell? ⟨w.heap.size, 0, none⟩ = some (.int .u16 yo) := hC.keep (by go_simp); have k1 : wq.cell? ⟨w.heap.size, 1, none⟩ = some (.int .i64 yl) := hC.keep (by go_simp); have k2 : wq.cell? ⟨wr.heap.size, 0, none⟩ = some (.int .u8 q) := hC.keep (by go_simp); have k3 : wq.cell? ⟨wr.heap.size, 1, none⟩ = some (.int .u16 x) := hC.keep (by go_simp); have k4 : wq.cell? ⟨wr.heap.size, 2, none⟩ = some (.int .i64 t) := hC.keep (by go_simp); have k5 : wq.cell? ⟨w3.heap.size, 0, none⟩ = some (.int .u16 yo) := hC.keep (by go_simp); have k6 : wq.cell? ⟨w3.heap.size, 1, none⟩ = some (.int .i64 yl) := hC.keep (by go_simp); go_simp; first | done | rfl | exact ⟨rfl, rfl⟩
          simp only [Act.put, List.setIfInBounds_toArray, List.set_cons_zero, List.set_cons_succ]
          apply quiet_do
          · rfl
          · intro wq hC; have k0 : wq.cell? ⟨w.heap.size, 0, none⟩ = some (.int .u16 yo) := hC.keep (by go_simp); have k1 : wq.cell? ⟨w.heap.size, 1, none⟩ = some (.int .i64 yl) := hC.keep (by go_simp); have k2 : wq.cell? ⟨wr.heap.size, 0, none⟩ = some (.int .u8 q) := hC.keep (by go_simp); have k3 : wq.cell? ⟨wr.heap.size, 1, none⟩ = some (.int .u16 x) := hC.keep (by go_simp); have k4 : wq.cell? ⟨wr.heap.size, 2, none⟩ = some (.int .i64 t) := hC.keep (by go_simp); have k5 : wq.cell? ⟨w3.heap.size, 0, none⟩ = some (.int .u16 yo) := hC.keep (by go_simp); have k6 : wq.cell? ⟨w3.heap.size, 1, none⟩ = some (.int .i64 yl) := hC.keep (by go_simp); go_simp; first | done | rfl | exact ⟨rfl, rfl⟩
          simp only [Act.put, List.setIfInBounds_toArray, List.set_cons_zero, List.set_cons_succ]
          apply quiet_do
          · rfl
          · intro wq hC; have k0 : wq.cell? ⟨w.heap.size, 0, none⟩ = some (.int .u16 yo) := hC.keep (by go_simp); have k1 : wq.cell? ⟨w.heap.size, 1, none⟩ = some (.int .i64 yl) := hC.keep (by go_simp); have k2 : wq.cell? ⟨wr.heap.size, 0, none⟩ = some (.int .u8 q) := hC.keep (by go_simp); have k3 : wq.cell? ⟨wr.heap.size, 1, none⟩ = some (.int .u16 x) := hC.keep (by go_simp); have k4 : wq.cell? ⟨wr.heap.size, 2, none⟩ = some (.int .i64 t) := hC.keep (by go_simp); have k5 : wq.cell? ⟨w3.heap.size, 0, none⟩ = some (.int .u16 yo) := hC.keep (by go_simp); have k6 : wq.cell? ⟨w3.heap.size, 1, none⟩ = some (.int .i64 yl) := hC.keep (by go_simp); go_simp; first | done | rfl | exact ⟨rfl, rfl⟩
          simp only [Act.put, List.setIfInBounds_toArray, List.set_cons_zero, List.set_cons_succ]
          apply quiet_do
          · rfl
          · intro wq hC; have k0 : wq.cell? ⟨w.heap.size, 0, none⟩ = some (.int .u16 yo) := hC.keep (by go_simp); have k1 : wq.cell? ⟨w.heap.size, 1, none⟩ = some (.int .i64 yl) := hC.keep (by go_simp); have k2 : wq.cell? ⟨wr.heap.size, 0, none⟩ = some (.int .u8 q) := hC.keep (by go_simp); have k3 : wq.cell? ⟨wr.heap.size, 1, none⟩ = some (.int .u16 x) := hC.keep (by go_simp); have k4 : wq.cell? ⟨wr.heap.size, 2, none⟩ = some (.int .i64 t) := hC.keep (by go_simp); have k5 : wq.cell? ⟨w3.heap.size, 0, none⟩ = some (.int .u16 yo) := hC.keep (by go_simp); have k6 : wq.cell? ⟨w3.heap.size, 1, none⟩ = some (.int .i64 yl) := hC.keep (by go_simp); go_simp; first | done | rfl | exact ⟨rfl, rfl⟩
          simp only [Act.put, List.setIfInBounds_toArray, List.set_cons_zero, List.set_cons_succ]
          apply quiet_do
          · rfl
          · intro wq hC; have k0 : wq.cell? ⟨w.heap.size, 0, none⟩ = some (.int .u16 yo) := hC.keep (by go_simp); have k1 : wq.cell? ⟨w.heap.size, 1, none⟩ = some (.int .i64 yl) := hC.keep (by go_simp); have k2 : wq.cell? ⟨wr.heap.size, 0, none⟩ = some (.int .u8 q) := hC.keep (by go_simp); have k3 : wq.cell? ⟨wr.heap.size, 1, none⟩ = some (.int .u16 x) := hC.keep (by go_simp); have k4 : wq.cell? ⟨wr.heap.size, 2, none⟩ = some (.int .i64 t) := hC.keep (by go_simp); have k5 : wq.cell? ⟨w3.heap.size, 0, none⟩ = some (.int .u16 yo) := hC.keep (by go_simp); have k6 : wq.cell? ⟨w3.heap.size, 1, none⟩ = some (.int .i64 yl) := hC.keep (by go_simp); go_simp; first | done | rfl | exact ⟨rfl, rfl⟩
          simp only [Act.put, List.setIfInBounds_toArray, List.set_cons_zero, List.set_cons_succ]
          apply quiet_do
          · rfl
          · intro wq hC; have k0 : wq.cell? ⟨w.heap.size, 0, none⟩ = some (.int .u16 yo) := hC.keep (by go_simp); have k1 : wq.cell? ⟨w.heap.size, 1, none⟩ = some (.int .i64 yl) := hC.keep (by go_simp); have k2 : wq.cell? ⟨wr.heap.size, 0, none⟩ = some (.int .u8 q) := hC.keep (by go_simp); have k3 : wq.cell? ⟨wr.heap.size, 1, none⟩ = some (.int .u16 x) := hC.keep (by go_simp); have k4 : wq.cell? ⟨wr.heap.size, 2, none⟩ = some (.int .i64 t) := hC.keep (by go_simp); have k5 : wq.cell? ⟨w3.heap.size, 0, none⟩ = some (.int .u16 yo) := hC.keep (by go_simp); have k6 : wq.cell? ⟨w3.heap.size, 1, none⟩ = some (.int .i64 yl) := hC.keep (by go_simp); go_simp; first | done | rfl | exact ⟨rfl, rfl⟩
          simp only [Act.put, List.setIfInBounds_toArray, List.set_cons_zero, List.set_cons_succ]
          apply quiet_do
          · rfl
          · intro wq hC; have k0 : wq.cell? ⟨w.heap.size, 0, none⟩ = some (.int .u16 yo) := hC.keep (by go_simp); have k1 : wq.cell? ⟨w.heap.size, 1, none⟩ = some (.int .i64 yl) := hC.keep (by go_simp); have k2 : wq.cell? ⟨wr.heap.size, 0, none⟩ = some (.int .u8 q) := hC.keep (by go_simp); have k3 : wq.cell? ⟨wr.heap.size, 1, none⟩ = some (.int .u16 x) := hC.keep (by go_simp); have k4 : wq.cell? ⟨wr.heap.size, 2, none⟩ = some (.int .i64 t) := hC.keep (by go_simp); have k5 : wq.cell? ⟨w3.heap.size, 0, none⟩ = some (.int .u16 yo) := hC.keep (by go_simp); have k6 : wq.cell? ⟨w3.heap.size, 1, none⟩ = some (.int .i64 yl) := hC.keep (by go_simp); go_simp; first | done | rfl | exact ⟨rfl, rfl⟩
          simp only [Act.put, List.setIfInBounds_toArray, List.set_cons_zero, List.set_cons_succ]
          apply quiet_do
          · rfl
          · intro wq hC; have k0 : wq.cell? ⟨w.heap.size, 0, none⟩ = some (.int .u16 yo) := hC.keep (by go_simp); have k1 : wq.cell? ⟨w.heap.size, 1, none⟩ = some (.int .i64 yl) := hC.keep (by go_simp); have k2 : wq.cell? ⟨wr.heap.size, 0, none⟩ = some (.int .u8 q) := hC.keep (by go_simp); have k3 : wq.cell? ⟨wr.heap.size, 1, none⟩ = some (.int .u16 x) := hC.keep (by go_simp); have k4 : wq.cell? ⟨wr.heap.size, 2, none⟩ = some (.int .i64 t) := hC.keep (by go_simp); have k5 : wq.cell? ⟨w3.heap.size, 0, none⟩ = some (.int .u16 yo) := hC.keep (by go_simp); have k6 : wq.cell? ⟨w3.heap.size, 1, none⟩ = some (.int .i64 yl) := hC.keep (by go_simp); go_simp; first | done | rfl | exact ⟨rfl, rfl⟩
          simp only [Act.put, List.setIfInBounds_toArray, List.set_cons_zero, List.set_cons_succ]
          apply quiet_do
          · rfl
          · intro wq hC; have k0 : wq.cell? ⟨w.heap.size, 0, none⟩ = some (.int .u16 yo) := hC.keep (by go_simp); have k1 : wq.cell? ⟨w.heap.size, 1, none⟩ = some (.int .i64 yl) := hC.keep (by go_simp); have k2 : wq.cell? ⟨wr.heap.size, 0, none⟩ = some (.int .u8 q) := hC.keep (by go_simp); have k3 : wq.cell? ⟨wr.heap.size, 1, none⟩ = some (.int .u16 x) := hC.keep (by go_simp); have k4 : wq.cell? ⟨wr.heap.size, 2, none⟩ = some (.int .i64 t) := hC.keep (by go_simp); have k5 : wq.cell? ⟨w3.heap.size, 0, none⟩ = some (.int .u16 yo) := hC.keep (by go_simp); have k6 : wq.cell? ⟨w3.heap.size, 1, none⟩ = some (.int .i64 yl) := hC.keep (by go_simp); go_simp; first | done | rfl | exact ⟨rfl, rfl⟩
          simp only [Act.put, List.setIfInBounds_toArray, List.set_cons_zero, List.set_cons_succ]
          apply quiet_do
          · rfl
          · intro wq hC; have k0 : wq.cell? ⟨w.heap.size, 0, none⟩ = some (.int .u16 yo) := hC.keep (by go_simp); have k1 : wq.cell? ⟨w.heap.size, 1, none⟩ = some (.int .i64 yl) := hC.keep (by go_simp); have k2 : wq.cell? ⟨wr.heap.size, 0, none⟩ = some (.int .u8 q) := hC.keep (by go_simp); have k3 : wq.cell? ⟨wr.heap.size, 1, none⟩ = some (.int .u16 x) := hC.keep (by go_simp); have k4 : wq.cell? ⟨wr.heap.size, 2, none⟩ = some (.int .i64 t) := hC.keep (by go_simp); have k5 : wq.cell? ⟨w3.heap.size, 0, none⟩ = some (.int .u16 yo) := hC.keep (by go_simp); have k6 : wq.cell? ⟨w3.heap.size, 1, none⟩ = some (.int .i64 yl) := hC.keep (by go_simp); go_simp; first | done | rfl | exact ⟨rfl, rfl⟩
          simp only [Act.put, List.setIfInBounds_toArray, List.set_cons_zero, List.set_cons_succ]
          apply quiet_do
          · rfl
          · intro wq hC; have k0 : wq.cell? ⟨w.heap.size, 0, none⟩ = some (.int .u16 yo) := hC.keep (by go_simp); have k1 : wq.cell? ⟨w.heap.size, 1, none⟩ = some (.int .i64 yl) := hC.keep (by go_simp); have k2 : wq.cell? ⟨wr.heap.size, 0, none⟩ = some (.int .u8 q) := hC.keep (by go_simp); have k3 : wq.cell? ⟨wr.heap.size, 1, none⟩ = some (.int .u16 x) := hC.keep (by go_simp); have k4 : wq.cell? ⟨wr.heap.size, 2, none⟩ = some (.int .i64 t) := hC.keep (by go_simp); have k5 : wq.cell? ⟨w3.heap.size, 0, none⟩ = some (.int .u16 yo) := hC.keep (by go_simp); have k6 : wq.cell? ⟨w3.heap.size, 1, none⟩ = some (.int .i64 yl) := hC.keep (by go_simp); go_simp; first | done | rfl | exact ⟨rfl, rfl⟩
          simp only [Act.put, List.setIfInBounds_toArray, List.set_cons_zero, List.set_cons_succ]
          apply quiet_do
          · rfl
          · intro wq hC; have k0 : wq.cell? ⟨w.heap.size, 0, none⟩ = some (.int .u16 yo) := hC.keep (by go_simp); have k1 : wq.cell? ⟨w.heap.size, 1, none⟩ = some (.int .i64 yl) := hC.keep (by go_simp); have k2 : wq.cell? ⟨wr.heap.size, 0, none⟩ = some (.int .u8 q) := hC.keep (by go_simp); have k3 : wq.cell? ⟨wr.heap.size, 1, none⟩ = some (.int .u16 x) := hC.keep (by go_simp); have k4 : wq.cell? ⟨wr.heap.size, 2, none⟩ = some (.int .i64 t) := hC.keep (by go_simp); have k5 : wq.cell? ⟨w3.heap.size, 0, none⟩ = some (.int .u16 yo) := hC.keep (by go_simp); have k6 : wq.cell? ⟨w3.heap.size, 1, none⟩ = some (.int .i64 yl) := hC.keep (by go_simp); go_simp; first | done | rfl | exact ⟨rfl, rfl⟩
          simp only [Act.put, List.setIfInBounds_toArray, List.set_cons_zero, List.set_cons_succ]
          apply quiet_do
          · rfl
          · intro wq hC; have k0 : wq.cell? ⟨w.heap.size, 0, none⟩ = some (.int .u16 yo) := hC.keep (by go_simp); have k1 : wq.cell? ⟨w.heap.size, 1, none⟩ = some (.int .i64 yl) := hC.keep (by go_simp); have k2 : wq.cell? ⟨wr.heap.size, 0, none⟩ = some (.int .u8 q) := hC.keep (by go_simp); have k3 : wq.cell? ⟨wr.heap.size, 1, none⟩ = some (.int .u16 x) := hC.keep (by go_simp); have k4 : wq.cell? ⟨wr.heap.size, 2, none⟩ = some (.int .i64 t) := hC.keep (by go_simp); have k5 : wq.cell? ⟨w3.heap.size, 0, none⟩ = some (.int .u16 yo) := hC.keep (by go_simp); have k6 : wq.cell? ⟨w3.heap.size, 1, none⟩ = some (.int .i64 yl) := hC.keep (by go_simp); go_simp; first | done | rfl | exact ⟨rfl, rfl⟩
          simp only [Act.put, List.setIfInBounds_toArray, List.set_cons_zero, List.set_cons_succ]
          apply quiet_do
          · rfl
          · intro wq hC; have k0 : wq.cell? ⟨w.heap.size, 0, none⟩ = some (.int .u16 yo) := hC.keep (by go_simp); have k1 : wq.cell? ⟨w.heap.size, 1, none⟩ = some (.int .i64 yl) := hC.keep (by go_simp); have k2 : wq.cell? ⟨wr.heap.size, 0, none⟩ = some (.int .u8 q) := hC.keep (by go_simp); have k3 : wq.cell? ⟨wr.heap.size, 1, none⟩ = some (.int .u16 x) := hC.keep (by go_simp); have k4 : wq.cell? ⟨wr.heap.size, 2, none⟩ = some (.int .i64 t) := hC.keep (by go_simp); have k5 : wq.cell? ⟨w3.heap.size, 0, none⟩ = some (.int .u16 yo) := hC.keep (by go_simp); have k6 : wq.cell? ⟨w3.heap.size, 1, none⟩ = some (.int .i64 yl) := hC.keep (by go_simp); go_simp; first | done | rfl | exact ⟨rfl, rfl⟩
          simp only [Act.put, List.setIfInBounds_toArray, List.set_cons_zero, List.set_cons_succ]
          apply quiet_do
          · rfl
          · intro wq hC; have k0 : wq.cell? ⟨w.heap.size, 0, none⟩ = some (.int .u16 yo) := hC.keep (by go_simp); have k1 : wq.cell? ⟨w.heap.size, 1, none⟩ = some (.int .i64 yl) := hC.keep (by go_simp); have k2 : wq.cell? ⟨wr.heap.size, 0, none⟩ = some (.int .u8 q) := hC.keep (by go_simp); have k3 : wq.cell? ⟨wr.heap.size, 1, none⟩ = some (.int .u16 x) := hC.keep (by go_simp); have k4 : wq.cell? ⟨wr.heap.size, 2, none⟩ = some (.int .i64 t) := hC.keep (by go_simp); have k5 : wq.cell? ⟨w3.heap.size, 0, none⟩ = some (.int .u16 yo) := hC.keep (by go_simp); have k6 : wq.cell? ⟨w3.heap.size, 1, none⟩ = some (.int .i64 yl) := hC.keep (by go_simp); go_simp; first | done | rfl | exact ⟨rfl, rfl⟩
          simp only [Act.put, List.setIfInBounds_toArray, List.set_cons_zero, List.set_cons_succ]
          apply quiet_do
          · rfl
          · intro wq hC; have k0 : wq.cell? ⟨w.heap.size, 0, none⟩ = some (.int .u16 yo) := hC.keep (by go_simp); have k1 : wq.cell? ⟨w.heap.size, 1, none⟩ = some (.int .i64 yl) := hC.keep (by go_simp); have k2 : wq.cell? ⟨wr.heap.size, 0, none⟩ = some (.int .u8 q) := hC.keep (by go_simp); have k3 : wq.cell? ⟨wr.heap.size, 1, none⟩ = some (.int .u16 x) := hC.keep (by go_simp); have k4 : wq.cell? ⟨wr.heap.size, 2, none⟩ = some (.int .i64 t) := hC.keep (by go_simp); have k5 : wq.cell? ⟨w3.heap.size, 0, none⟩ = some (.int .u16 yo) := hC.keep (by go_simp); have k6 : wq.cell? ⟨w3.heap.size, 1, none⟩ = some (.int .i64 yl) := hC.keep (by go_simp); go_simp; first | done | rfl | exact ⟨rfl, rfl⟩
          simp only [Act.put, List.setIfInBounds_toArray, List.set_cons_zero, List.set_cons_succ]
          apply quiet_do
          · rfl
          · intro wq hC; have k0 : wq.cell? ⟨w.heap.size, 0, none⟩ = some (.int .u16 yo) := hC.keep (by go_simp); have k1 : wq.cell? ⟨w.heap.size, 1, none⟩ = some (.int .i64 yl) := hC.keep (by go_simp); have k2 : wq.cell? ⟨wr.heap.size, 0, none⟩ = some (.int .u8 q) := hC.keep (by go_simp); have k3 : wq.cell? ⟨wr.heap.size, 1, none⟩ = some (.int .u16 x) := hC.keep (by go_simp); have k4 : wq.cell? ⟨wr.heap.size, 2, none⟩ = some (.int .i64 t) := hC.keep (by go_simp); have k5 : wq.cell? ⟨w3.heap.size, 0, none⟩ = some (.int .u16 yo) := hC.keep (by go_simp); have k6 : wq.cell? ⟨w3.heap.size, 1, none⟩ = some (.int .i64 yl) := hC.keep (by go_simp); go_simp; first | done | rfl | exact ⟨rfl, rfl⟩
          simp only [Act.put, List.setIfInBounds_toArray, List.set_cons_zero, List.set_cons_succ]
          apply quiet_do
          · rfl
          · intro wq hC; have k0 : wq.cell? ⟨w.heap.size, 0, none⟩ = some (.int .u16 yo) := hC.keep (by go_simp); have k1 : wq.cell? ⟨w.heap.size, 1, none⟩ = some (.int .i64 yl) := hC.keep (by go_simp); have k2 : wq.cell? ⟨wr.heap.size, 0, none⟩ = some (.int .u8 q) := hC.keep (by go_simp); have k3 : wq.cell? ⟨wr.heap.size, 1, none⟩ = some (.int .u16 x) := hC.keep (by go_simp); have k4 : wq.cell? ⟨wr.heap.size, 2, none⟩ = some (.int .i64 t) := hC.keep (by go_simp); have k5 : wq.cell? ⟨w3.heap.size, 0, none⟩ = some (.int .u16 yo) := hC.keep (by go_simp); have k6 : wq.cell? ⟨w3.heap.size, 1, none⟩ = some (.int .i64 yl) := hC.keep (by go_simp); go_simp; first | done | rfl | exact ⟨rfl, rfl⟩
          simp only [Act.put, List.setIfInBounds_toArray, List.set_cons_zero, List.set_cons_succ]
          apply quiet_do
          · rfl
          · intro wq hC; have k0 : wq.cell? ⟨w.heap.size, 0, none⟩ = some (.int .u16 yo) := hC.keep (by go_simp); have k1 : wq.cell? ⟨w.heap.size, 1, none⟩ = some (.int .i64 yl) := hC.keep (by go_simp); have k2 : wq.cell? ⟨wr.heap.size, 0, none⟩ = some (.int .u8 q) := hC.keep (by go_simp); have k3 : wq.cell? ⟨wr.heap.size, 1, none⟩ = some (.int .u16 x) := hC.keep (by go_simp); have k4 : wq.cell? ⟨wr.heap.size, 2, none⟩ = some (.int .i64 t) := hC.keep (by go_simp); have k5 : wq.cell? ⟨w3.heap.size, 0, none⟩ = some (.int .u16 yo) := hC.keep (by go_simp); have k6 : wq.cell? ⟨w3.heap.size, 1, none⟩ = some (.int .i64 yl) := hC.keep (by go_simp); go_simp; first | done | rfl | exact ⟨rfl, rfl⟩
          simp only [Act.put, List.setIfInBounds_toArray, List.set_cons_zero, List.set_cons_succ]
          apply quiet_do
          · rfl
          · intro wq hC; have k0 : wq.cell? ⟨w.heap.size, 0, none⟩ = some (.int .u16 yo) := hC.keep (by go_simp); have k1 : wq.cell? ⟨w.heap.size, 1, none⟩ = some (.int .i64 yl) := hC.keep (by go_simp); have k2 : wq.cell? ⟨wr.heap.size, 0, none⟩ = some (.int .u8 q) := hC.keep (by go_simp); have k3 : wq.cell? ⟨wr.heap.size, 1, none⟩ = some (.int .u16 x) := hC.keep (by go_simp); have k4 : wq.cell? ⟨wr.heap.size, 2, none⟩ = some (.int .i64 t) := hC.keep (by go_simp); have k5 : wq.cell? ⟨w3.heap.size, 0, none⟩ = some (.int .u16 yo) := hC.keep (by go_simp); have k6 : wq.cell? ⟨w3.heap.size, 1, none⟩ = some (.int .i64 yl) := hC.keep (by go_simp); go_simp; first | done | rfl | exact ⟨rfl, rfl⟩
          simp only [Act.put, List.setIfInBounds_toArray, List.set_cons_zero, List.set_cons_succ]
          apply quiet_do
          · rfl
          · intro wq hC; have k0 : wq.cell? ⟨w.heap.size, 0, none⟩ = some (.int .u16 yo) := hC.keep (by go_simp); have k1 : wq.cell? ⟨w.heap.size, 1, none⟩ = some (.int .i64 yl) := hC.keep (by go_simp); have k2 : wq.cell? ⟨wr.heap.size, 0, none⟩ = some (.int .u8 q) := hC.keep (by go_simp); have k3 : wq.cell? ⟨wr.heap.size, 1, none⟩ = some (.int .u16 x) := hC.keep (by go_simp); have k4 : wq.cell? ⟨wr.heap.size, 2, none⟩ = some (.int .i64 t) := hC.keep (by go_simp); have k5 : wq.cell? ⟨w3.heap.size, 0, none⟩ = some (.int .u16 yo) := hC.keep (by go_simp); have k6 : wq.cell? ⟨w3.heap.size, 1, none⟩ = some (.int .i64 yl) := hC.keep (by go_simp); go_simp; first | done | rfl | exact ⟨rfl, rfl⟩
          simp only [Act.put, List.setIfInBounds_toArray, List.set_cons_zero, List.set_cons_succ]
          apply quiet_do
          · rfl
          · intro wq hC; have k0 : wq.cell? ⟨w.heap.size, 0, none⟩ = some (.int .u16 yo) := hC.keep (by go_simp); have k1 : wq.cell? ⟨w.heap.size, 1, none⟩ = some (.int .i64 yl) := hC.keep (by go_simp); have k2 : wq.cell? ⟨wr.heap.size, 0, none⟩ = some (.int .u8 q) := hC.keep (by go_simp); have k3 : wq.cell? ⟨wr.heap.size, 1, none⟩ = some (.int .u16 x) := hC.keep (by go_simp); have k4 : wq.cell? ⟨wr.heap.size, 2, none⟩ = some (.int .i64 t) := hC.keep (by go_simp); have k5 : wq.cell? ⟨w3.heap.size, 0, none⟩ = some (.int .u16 yo) := hC.keep (by go_simp); have k6 : wq.cell? ⟨w3.heap.size, 1, none⟩ = some (.int .i64 yl) := hC.keep (by go_simp); go_simp; first | done | rfl | exact ⟨rfl, rfl⟩
          simp only [Act.put, List.setIfInBounds_toArray, List.set_cons_zero, List.set_cons_succ]
          apply quiet_do
          · rfl
          · intro wq hC; have k0 : wq.cell? ⟨w.heap.size, 0, none⟩ = some (.int .u16 yo) := hC.keep (by go_simp); have k1 : wq.cell? ⟨w.heap.size, 1, none⟩ = some (.int .i64 yl) := hC.keep (by go_simp); have k2 : wq.cell? ⟨wr.heap.size, 0, none⟩ = some (.int .u8 q) := hC.keep (by go_simp); have k3 : wq.cell? ⟨wr.heap.size, 1, none⟩ = some (.int .u16 x) := hC.keep (by go_simp); have k4 : wq.cell? ⟨wr.heap.size, 2, none⟩ = some (.int .i64 t) := hC.keep (by go_simp); have k5 : wq.cell? ⟨w3.heap.size, 0, none⟩ = some (.int .u16 yo) := hC.keep (by go_simp); have k6 : wq.cell? ⟨w3.heap.size, 1, none⟩ = some (.int .i64 yl) := hC.keep (by go_simp); go_simp; first | done | rfl | exact ⟨rfl, rfl⟩
          simp only [Act.put, List.setIfInBounds_toArray, List.set_cons_zero, List.set_cons_succ]
          apply quiet_do
          · rfl
          · intro wq hC; have k0 : wq.cell? ⟨w.heap.size, 0, none⟩ = some (.int .u16 yo) := hC.keep (by go_simp); have k1 : wq.cell? ⟨w.heap.size, 1, none⟩ = some (.int .i64 yl) := hC.keep (by go_simp); have k2 : wq.cell? ⟨wr.heap.size, 0, none⟩ = some (.int .u8 q) := hC.keep (by go_simp); have k3 : wq.cell? ⟨wr.heap.size, 1, none⟩ = some (.int .u16 x) := hC.keep (by go_simp); have k4 : wq.cell? ⟨wr.heap.size, 2, none⟩ = some (.int .i64 t) := hC.keep (by go_simp); have k5 : wq.cell? ⟨w3.heap.size, 0, none⟩ = some (.int .u16 yo) := hC.keep (by go_simp); have k6 : wq.cell? ⟨w3.heap.size, 1, none⟩ = some (.int .i64 yl) := hC.keep (by go_simp); go_simp; first | done | rfl | exact ⟨rfl, rfl⟩
          simp only [Act.put, List.setIfInBounds_toArray, List.set_cons_zero, List.set_cons_succ]
          apply quiet_do
          · rfl
          · intro wq hC; have k0 : wq.cell? ⟨w.heap.size, 0, none⟩ = some (.int .u16 yo) := hC.keep (by go_simp); have k1 : wq.cell? ⟨w.heap.size, 1, none⟩ = some (.int .i64 yl) := hC.keep (by go_simp); have k2 : wq.cell? ⟨wr.heap.size, 0, none⟩ = some (.int .u8 q) := hC.keep (by go_simp); have k3 : wq.cell? ⟨wr.heap.size, 1, none⟩ = some (.int .u16 x) := hC.keep (by go_simp); have k4 : wq.cell? ⟨wr.heap.size, 2, none⟩ = some (.int .i64 t) := hC.keep (by go_simp); have k5 : wq.cell? ⟨w3.heap.size, 0, none⟩ = some (.int .u16 yo) := hC.keep (by go_simp); have k6 : wq.cell? ⟨w3.heap.size, 1, none⟩ = some (.int .i64 yl) := hC.keep (by go_simp); go_simp; first | done | rfl | exact ⟨rfl, rfl⟩
          simp only [Act.put, List.setIfInBounds_toArray, List.set_cons_zero, List.set_cons_succ]
          apply quiet_do
          · rfl
          · intro wq hC; have k0 : wq.cell? ⟨w.heap.size, 0, none⟩ = some (.int .u16 yo) := hC.keep (by go_simp); have k1 : wq.cell? ⟨w.heap.size, 1, none⟩ = some (.int .i64 yl) := hC.keep (by go_simp); have k2 : wq.cell? ⟨wr.heap.size, 0, none⟩ = some (.int .u8 q) := hC.keep (by go_simp); have k3 : wq.cell? ⟨wr.heap.size, 1, none⟩ = some (.int .u16 x) := hC.keep (by go_simp); have k4 : wq.cell? ⟨wr.heap.size, 2, none⟩ = some (.int .i64 t) := hC.keep (by go_simp); have k5 : wq.cell? ⟨w3.heap.size, 0, none⟩ = some (.int .u16 yo) := hC.keep (by go_simp); have k6 : wq.cell? ⟨w3.heap.size, 1, none⟩ = some (.int .i64 yl) := hC.keep (by go_simp); go_simp; first | done | rfl | exact ⟨rfl, rfl⟩
          simp only [Act.put, List.setIfInBounds_toArray, List.set_cons_zero, List.set_cons_succ]
          apply quiet_do
          · rfl
          · intro wq hC; have k0 : wq.cell? ⟨w.heap.size, 0, none⟩ = some (.int .u16 yo) := hC.keep (by go_simp); have k1 : wq.cell? ⟨w.heap.size, 1, none⟩ = some (.int .i64 yl) := hC.keep (by go_simp); have k2 : wq.cell? ⟨wr.heap.size, 0, none⟩ = some (.int .u8 q) := hC.keep (by go_simp); have k3 : wq.cell? ⟨wr.heap.size, 1, none⟩ = some (.int .u16 x) := hC.keep (by go_simp); have k4 : wq.cell? ⟨wr.heap.size, 2, none⟩ = some (.int .i64 t) := hC.keep (by go_simp); have k5 : wq.cell? ⟨w3.heap.size, 0, none⟩ = some (.int .u16 yo) := hC.keep (by go_simp); have k6 : wq.cell? ⟨w3.heap.size, 1, none⟩ = some (.int .i64 yl) := hC.keep (by go_simp); go_simp; first | done | rfl | exact ⟨rfl, rfl⟩
          simp only [Act.put, List.setIfInBounds_toArray, List.set_cons_zero, List.set_cons_succ]
          apply quiet_do
          · rfl
          · intro wq hC; have k0 : wq.cell? ⟨w.heap.size, 0, none⟩ = some (.int .u16 yo) := hC.keep (by go_simp); have k1 : wq.cell? ⟨w.heap.size, 1, none⟩ = some (.int .i64 yl) := hC.keep (by go_simp); have k2 : wq.cell? ⟨wr.heap.size, 0, none⟩ = some (.int .u8 q) := hC.keep (by go_simp); have k3 : wq.cell? ⟨wr.heap.size, 1, none⟩ = some (.int .u16 x) := hC.keep (by go_simp); have k4 : wq.cell? ⟨wr.heap.size, 2, none⟩ = some (.int .i64 t) := hC.keep (by go_simp); have k5 : wq.cell? ⟨w3.heap.size, 0, none⟩ = some (.int .u16 yo) := hC.keep (by go_simp); have k6 : wq.cell? ⟨w3.heap.size, 1, none⟩ = some (.int .i64 yl) := hC.keep (by go_simp); go_simp; first | done | rfl | exact ⟨rfl, rfl⟩
          simp only [Act.put, List.setIfInBounds_toArray, List.set_cons_zero, List.set_cons_succ]
          apply quiet_do
          · rfl
          · intro wq hC; have k0 : wq.cell? ⟨w.heap.size, 0, none⟩ = some (.int .u16 yo) := hC.keep (by go_simp); have k1 : wq.cell? ⟨w.heap.size, 1, none⟩ = some (.int .i64 yl) := hC.keep (by go_simp); have k2 : wq.cell? ⟨wr.heap.size, 0, none⟩ = some (.int .u8 q) := hC.keep (by go_simp); have k3 : wq.cell? ⟨wr.heap.size, 1, none⟩ = some (.int .u16 x) := hC.keep (by go_simp); have k4 : wq.cell? ⟨wr.heap.size, 2, none⟩ = some (.int .i64 t) := hC.keep (by go_simp); have k5 : wq.cell? ⟨w3.heap.size, 0, none⟩ = some (.int .u16 yo) := hC.keep (by go_simp); have k6 : wq.cell? ⟨w3.heap.size, 1, none⟩ = some (.int .i64 yl) := hC.keep (by go_simp); go_simp; first | done | rfl | exact ⟨rfl, rfl⟩
          simp only [Act.put, List.setIfInBounds_toArray, List.set_cons_zero, List.set_cons_succ]
          apply quiet_do
          · rfl
          · intro wq hC; have k0 : wq.cell? ⟨w.heap.size, 0, none⟩ = some (.int .u16 yo) := hC.keep (by go_simp); have k1 : wq.cell? ⟨w.heap.size, 1, none⟩ = some (.int .i64 yl) := hC.keep (by go_simp); have k2 : wq.cell? ⟨wr.heap.size, 0, none⟩ = some (.int .u8 q) := hC.keep (by go_simp); have k3 : wq.cell? ⟨wr.heap.size, 1, none⟩ = some (.int .u16 x) := hC.keep (by go_simp); have k4 : wq.cell? ⟨wr.heap.size, 2, none⟩ = some (.int .i64 t) := hC.keep (by go_simp); have k5 : wq.cell? ⟨w3.heap.size, 0, none⟩ = some (.int .u16 yo) := hC.keep (by go_simp); have k6 : wq.cell? ⟨w3.heap.size, 1, none⟩ = some (.int .i64 yl) := hC.keep (by go_simp); go_simp; first | done | rfl | exact ⟨rfl, rfl⟩
          simp only [Act.put, List.setIfInBounds_toArray, List.set_cons_zero, List.set_cons_succ]
          apply quiet_do
          · rfl
          · intro wq hC; have k0 : wq.cell? ⟨w.heap.size, 0, none⟩ = some (.int .u16 yo) := hC.keep (by go_simp); have k1 : wq.cell? ⟨w.heap.size, 1, none⟩ = some (.int .i64 yl) := hC.keep (by go_simp); have k2 : wq.cell? ⟨wr.heap.size, 0, none⟩ = some (.int .u8 q) := hC.keep (by go_simp); have k3 : wq.cell? ⟨wr.heap.size, 1, none⟩ = some (.int .u16 x) := hC.keep (by go_simp); have k4 : wq.cell? ⟨wr.heap.size, 2, none⟩ = some (.int .i64 t) := hC.keep (by go_simp); have k5 : wq.cell? ⟨w3.heap.size, 0, none⟩ = some (.int .u16 yo) := hC.keep (by go_simp); have k6 : wq.cell? ⟨w3.heap.size, 1, none⟩ = some (.int .i64 yl) := hC.keep (by go_simp); go_simp; refine (free_at HF.out _).mono ?_; rintro eq wq2 ⟨rfl, hbq⟩; exact ⟨rfl, hC.step hbq⟩
          simp only [Act.put, List.setIfInBounds_toArray, List.set_cons_zero, List.set_cons_succ]
          apply quiet_do
          · rfl
          · intro wq hC; have k0 : wq.cell? ⟨w.heap.size, 0, none⟩ = some (.int .u16 yo) := hC.keep (by go_simp); have k1 : wq.cell? ⟨w.heap.size, 1, none⟩ = some (.int .i64 yl) := hC.keep (by go_simp); have k2 : wq.cell? ⟨wr.heap.size, 0, none⟩ = some (.int .u8 q) := hC.keep (by go_simp); have k3 : wq.cell? ⟨wr.heap.size, 1, none⟩ = some (.int .u16 x) := hC.keep (by go_simp); have k4 : wq.cell? ⟨wr.heap.size, 2, none⟩ = some (.int .i64 t) := hC.keep (by go_simp); have k5 : wq.cell? ⟨w3.heap.size, 0, none⟩ = some (.int .u16 yo) := hC.keep (by go_simp); have k6 : wq.cell? ⟨w3.heap.size, 1, none⟩ = some (.int .i64 yl) := hC.keep (by go_simp); go_simp; first | done | rfl | exact ⟨rfl, rfl⟩
          simp only [Act.put, List.setIfInBounds_toArray, List.set_cons_zero, List.set_cons_succ]
          apply quiet_do
          · rfl
          · intro wq hC; have k0 : wq.cell? ⟨w.heap.size, 0, none⟩ = some (.int .u16 yo) := hC.keep (by go_simp); have k1 : wq.cell? ⟨w.heap.size, 1, none⟩ = some (.int .i64 yl) := hC.keep (by go_simp); have k2 : wq.cell? ⟨wr.heap.size, 0, none⟩ = some (.int .u8 q) := hC.keep (by go_simp); have k3 : wq.cell? ⟨wr.heap.size, 1, none⟩ = some (.int .u16 x) := hC.keep (by go_simp); have k4 : wq.cell? ⟨wr.heap.size, 2, none⟩ = some (.int .i64 t) := hC.keep (by go_simp); have k5 : wq.cell? ⟨w3.heap.size, 0, none⟩ = some (.int .u16 yo) := hC.keep (by go_simp); have k6 : wq.cell? ⟨w3.heap.size, 1, none⟩ = some (.int .i64 yl) := hC.keep (by go_simp); go_simp; first | done | rfl | exact ⟨rfl, rfl⟩
          simp only [Act.put, List.setIfInBounds_toArray, List.set_cons_zero, List.set_cons_succ]
          intro w4 hb4
          have hb4 : Below _ _ _ := hb4
          have yw4 : w.heap.size ≤ w4.heap.size := by (have := hb4.size; (try simp at this); omega)
          have c4_0 : w4.cell? ⟨w.heap.size, 0, none⟩ = some (.int .u16 yo) := keep hb4 (by go_simp)
          have f4_0 : w4.frozen? ⟨w.heap.size, 0, none⟩ = false := keepF hb4 (.int .u16 yo) (by go_simp) (by go_simp)
          have zw4_0 := cell_lt c4_0
          have c4_1 : w4.cell? ⟨w.heap.size, 1, none⟩ = some (.int .i64 yl) := keep hb4 (by go_simp)
          have f4_1 : w4.frozen? ⟨w.heap.size, 1, none⟩ = false := keepF hb4 (.int .i64 yl) (by go_simp) (by go_simp)
          have c4_2 : w4.cell? ⟨wr.heap.size, 0, none⟩ = some (.int .u8 q) := keep hb4 (by go_simp)
          have f4_2 : w4.frozen? ⟨wr.heap.size, 0, none⟩ = false := keepF hb4 (.int .u8 q) (by go_simp) (by go_simp)
          have zw4_2 := cell_lt c4_2
          have c4_3 : w4.cell? ⟨wr.heap.size, 1, none⟩ = some (.int .u16 x) := keep hb4 (by go_simp)
          have f4_3 : w4.frozen? ⟨wr.heap.size, 1, none⟩ = false := keepF hb4 (.int .u16 x) (by go_simp) (by go_simp)
          have c4_4 : w4.cell? ⟨wr.heap.size, 2, none⟩ = some (.int .i64 t) := keep hb4 (by go_simp)
          have f4_4 : w4.frozen? ⟨wr.heap.size, 2, none⟩ = false := keepF hb4 (.int .i64 t) (by go_simp) (by go_simp)
          have c4_5 : w4.cell? ⟨w3.heap.size, 0, none⟩ = some (.int .u16 yo) := keep hb4 (by go_simp)
          have f4_5 : w4.frozen? ⟨w3.heap.size, 0, none⟩ = false := keepF hb4 (.int .u16 yo) (by go_simp) (by go_simp)
          have zw4_5 := cell_lt c4_5
          have c4_6 : w4.cell? ⟨w3.heap.size, 1, none⟩ = some (.int .i64 yl) := keep hb4 (by go_simp)
          have f4_6 : w4.frozen? ⟨w3.heap.size, 1, none⟩ = false := keepF hb4 (.int .i64 yl) (by go_simp) (by go_simp)
          clear c3_0 f3_0 c3_1 f3_1 c3_2 f3_2 c3_3 f3_3 c3_4 f3_4
          go_wp2_with fail
          go_roundw
          case rel => exact ⟨k + 1, by omega, by go_num, yo, yl, HYR, by omega, by omega, by go_simp, by go_simp, by go_simp, by go_simp, (by first | omega | (simp; done) | (simp; omega)), (by repeat (first | assumption | exact Below.refl _ _ | refine balloc ?_ _ | refine bset ?_ (by first | (simp; done) | (simp; omega)) _ | refine bdrew ?_ | refine bstep ?_ (by assumption)))⟩
          case measure => (try simp [intOf]); omega
      · subst he
        subst h1
        subst h2
        go_wp2_with fail
        with_reducible refine (does_at HY.out _ hq0 (by omega) (by omega)).mono ?_
        rintro e3 w3 ⟨rfl, hb3⟩
        have yw3 : w.heap.size ≤ w3.heap.size := by (have := hb3.size; (try simp at this); omega)
        have c3_0 : w3.cell? ⟨w.heap.size, 0, none⟩ = some (.int .u16 0) := keep hb3 (by go_simp)
        have f3_0 : w3.frozen? ⟨w.heap.size, 0, none⟩ = false := keepF hb3 (.int .u16 0) (by go_simp) (by go_simp)
        have zw3_0 := cell_lt c3_0
        have c3_1 : w3.cell? ⟨w.heap.size, 1, none⟩ = some (.int .i64 b) := keep hb3 (by go_simp)
        have f3_1 : w3.frozen? ⟨w.heap.size, 1, none⟩ = false := keepF hb3 (.int .i64 b) (by go_simp) (by go_simp)
        have c3_2 : w3.cell? ⟨wr.heap.size, 0, none⟩ = some (.int .u8 q) := keep hb3 (by go_simp)
        have f3_2 : w3.frozen? ⟨wr.heap.size, 0, none⟩ = false := keepF hb3 (.int .u8 q) (by go_simp) (by go_simp)
        have zw3_2 := cell_lt c3_2
        have c3_3 : w3.cell? ⟨wr.heap.size, 1, none⟩ = some (.int .u16 x) := keep hb3 (by go_simp)
        have f3_3 : w3.frozen? ⟨wr.heap.size, 1, none⟩ = false := keepF hb3 (.int .u16 x) (by go_simp) (by go_simp)
        have c3_4 : w3.cell? ⟨wr.heap.size, 2, none⟩ = some (.int .i64 t) := keep hb3 (by go_simp)
        have f3_4 : w3.frozen? ⟨wr.heap.size, 2, none⟩ = false := keepF hb3 (.int .i64 t) (by go_simp) (by go_simp)
        go_wp2_with fail
        refine wp_region_below (by kernel_rfl) (by kernel_rfl) ?_
        apply quiet_do
        · rfl
        · intro wq hC; have k0 : wq.cell? ⟨w.heap.size, 0, none⟩ = some (.int .u16 0) := hC.keep (by go_simp); have k1 : wq.cell? ⟨w.heap.size, 1, none⟩ = some (.int .i64 b) := hC.keep (by go_simp); have k2 : wq.cell? ⟨wr.heap.size, 0, none⟩ = some (.int .u8 q) := hC.keep (by go_simp); have k3 : wq.cell? ⟨wr.heap.size, 1, none⟩ = some (.int .u16 x) := hC.keep (by go_simp); have k4 : wq.cell? ⟨wr.heap.size, 2, none⟩ = some (.int .i64 t) := hC.keep (by go_simp); have k5 : wq.cell? ⟨w3.heap.size, 0, none⟩ = some (.int .u16 0) := hC.keep (by go_simp); have k6 : wq.cell? ⟨w3.heap.size, 1, none⟩ = some (.int .i64 yl) := hC.keep (by go_simp); go_simp; first | done | rfl | exact ⟨rfl, rfl⟩
        simp only [Act.put, List.setIfInBounds_toArray, List.set_cons_zero, List.set_cons_succ]
        apply quiet_do
        · rfl
        · intro wq hC; have k0 : wq.cell? ⟨w.heap.size, 0, none⟩ = some (.int .u16 0) := hC.keep (by go_simp); have k1 : wq.cell? ⟨w.heap.size, 1, none⟩ = some (.int .i64 b) := hC.keep (by go_simp); have k2 : wq.cell? ⟨wr.heap.size, 0, none⟩ = some (.int .u8 q) := hC.keep (by go_simp); have k3 : wq.cell? ⟨wr.heap.size, 1, none⟩ = some (.int .u16 x) := hC.keep (by go_simp); have k4 : wq.cell? ⟨wr.heap.size, 2, none⟩ = some (.int .i64 t) := hC.keep (by go_simp); have k5 : wq.cell? ⟨w3.heap.size, 0, none⟩ = some (.int .u16 0) := hC.keep (by go_simp); have k6 : wq.cell? ⟨w3.heap.size, 1, none⟩ = some (.int .i64 yl) := hC.keep (by go_simp); go_simp; refine (right_at HYR.out _).mono ?_; rintro eq wq2 ⟨rfl, hbq⟩; exact ⟨rfl, hC.step hbq⟩
        simp only [Act.put, List.setIfInBounds_toArray, List.set_cons_zero, List.set_cons_succ]
        apply quiet_do
        · rfl
        · intro wq hC; have k0 : wq.cell? ⟨w.heap.size, 0, none⟩ = some (.int .u16 0) := hC.keep (by go_simp); have k1 : wq.cell? ⟨w.heap.size, 1, none⟩ = some (.int .i64 b) := hC.keep (by go_simp); have k2 : wq.cell? ⟨wr.heap.size, 0, none⟩ = some (.int .u8 q) := hC.keep (by go_simp); have k3 : wq.cell? ⟨wr.heap.size, 1, none⟩ = some (.int .u16 x) := hC.keep (by go_simp); have k4 : wq.cell? ⟨wr.heap.size, 2, none⟩ = some (.int .i64 t) := hC.keep (by go_simp); have k5 : wq.cell? ⟨w3.heap.size, 0, none⟩ = some (.int .u16 0) := hC.keep (by go_simp); have k6 : wq.cell? ⟨w3.heap.size, 1, none⟩ = some (.int .i64 yl) := hC.keep (by go_simp); go_simp; first | done | rfl | exact ⟨rfl, rfl⟩
        simp only [Act.put, List.setIfInBounds_toArray, List.set_cons_zero, List.set_cons_succ]
        apply quiet_do
        · rfl
        · intro wq hC; have k0 : wq.cell? ⟨w.heap.size, 0, none⟩ = some (.int .u16 0) := hC.keep (by go_simp); have k1 : wq.cell? ⟨w.heap.size, 1, none⟩ = some (.int .i64 b) := hC.keep (by go_simp); have k2 : wq.cell? ⟨wr.heap.size, 0, none⟩ = some (.int .u8 q) := hC.keep (by go_simp); have k3 : wq.cell? ⟨wr.heap.size, 1, none⟩ = some (.int .u16 x) := hC.keep (by go_simp); have k4 : wq.cell? ⟨wr.heap.size, 2, none⟩ = some (.int .i64 t) := hC.keep (by go_simp); have k5 : wq.cell? ⟨w3.heap.size, 0, none⟩ = some (.int .u16 0) := hC.keep (by go_simp); have k6 : wq.cell? ⟨w3.heap.size, 1, none⟩ = some (.int .i64 yl) := hC.keep (by go_simp); go_simp; first | done | rfl | exact ⟨rfl, rfl⟩
        simp only [Act.put, List.setIfInBounds_toArray, List.set_cons_zero, List.set_cons_succ]
        apply quiet_do
        · rfl
        · intro wq hC; have k0 : wq.cell? ⟨w.heap.size, 0, none⟩ = some (.int .u16 0) := hC.keep (by go_simp); have k1 : wq.cell? ⟨w.heap.size, 1, none⟩ = some (.int .i64 b) := hC.keep (by go_simp); have k2 : wq.cell? ⟨wr.heap.size, 0, none⟩ = some (.int .u8 q) := hC.keep (by go_simp); have k3 : wq.cell? ⟨wr.heap.size, 1, none⟩ = some (.int .u16 x) := hC.keep (by go_simp); have k4 : wq.cell? ⟨wr.heap.size, 2, none⟩ = some (.int .i64 t) := hC.keep (by go_simp); have k5 : wq.cell? ⟨w3.heap.size, 0, none⟩ = some (.int .u16 0) := hC.keep (by go_simp); have k6 : wq.cell? ⟨w3.heap.size, 1, none⟩ = some (.int .i64 yl) := hC.keep (by go_simp); go_simp; first | done | rfl | exact ⟨rfl, rfl⟩
        simp only [Act.put, List.setIfInBounds_toArray, List.set_cons_zero, List.set_cons_succ]
        apply quiet_do
        · rfl
        · intro wq hC; have k0 : wq.cell? ⟨w.heap.size, 0, none⟩ = some (.int .u16 0) := hC.keep (by go_simp); have k1 : wq.cell? ⟨w.heap.size, 1, none⟩ = some (.int .i64 b) := hC.keep (by go_simp); have k2 : wq.cell? ⟨wr.heap.size, 0, none⟩ = some (.int .u8 q) := hC.keep (by go_simp); have k3 : wq.cell? ⟨wr.heap.size, 1, none⟩ = some (.int .u16 x) := hC.keep (by go_simp); have k4 : wq.cell? ⟨wr.heap.size, 2, none⟩ = some (.int .i64 t) := hC.keep (by go_simp); have k5 : wq.cell? ⟨w3.heap.size, 0, none⟩ = some (.int .u16 0) := hC.keep (by go_simp); have k6 : wq.cell? ⟨w3.heap.size, 1, none⟩ = some (.int .i64 yl) := hC.keep (by go_simp); go_simp; first | done | rfl | exact ⟨rfl, rfl⟩
        simp only [Act.put, List.setIfInBounds_toArray, List.set_cons_zero, List.set_cons_succ]
        apply quiet_do
        · rfl
        · intro wq hC; have k0 : wq.cell? ⟨w.heap.size, 0, none⟩ = some (.int .u16 0) := hC.keep (by go_simp); have k1 : wq.cell? ⟨w.heap.size, 1, none⟩ = some (.int .i64 b) := hC.keep (by go_simp); have k2 : wq.cell? ⟨wr.heap.size, 0, none⟩ = some (.int .u8 q) := hC.keep (by go_simp); have k3 : wq.cell? ⟨wr.heap.size, 1, none⟩ = some (.int .u16 x) := hC.keep (by go_simp); have k4 : wq.cell? ⟨wr.heap.size, 2, none⟩ = some (.int .i64 t) := hC.keep (by go_simp); have k5 : wq.cell? ⟨w3.heap.size, 0, none⟩ = some (.int .u16 0) := hC.keep (by go_simp); have k6 : wq.cell? ⟨w3.heap.size, 1, none⟩ = some (.int .i64 yl) := hC.keep (by go_simp); go_simp; first | done | rfl | exact ⟨rfl, rfl⟩
        simp only [Act.put, List.setIfInBounds_toArray, List.set_cons_zero, List.set_cons_succ]
        refine quiet_not (by rfl) ?_
        simp only [Act.put, List.setIfInBounds_toArray, List.set_cons_zero, List.set_cons_succ]
        refine quiet_not (by rfl) ?_
        simp only [Act.put, List.setIfInBounds_toArray, List.set_cons_zero, List.set_cons_succ]
        refine quiet_not (by rfl) ?_
        simp only [Act.put, List.setIfInBounds_toArray, List.set_cons_zero, List.set_cons_succ]
        apply quiet_do
        · rfl
        · intro wq hC; have k0 : wq.cell? ⟨w.heap.size, 0, none⟩ = some (.int .u16 0) := hC.keep (by go_simp); have k1 : wq.cell? ⟨w.heap.size, 1, none⟩ = some (.int .i64 b) := hC.keep (by go_simp); have k2 : wq.cell? ⟨wr.heap.size, 0, none⟩ = some (.int .u8 q) := hC.keep (by go_simp); have k3 : wq.cell? ⟨wr.heap.size, 1, none⟩ = some (.int .u16 x) := hC.keep (by go_simp); have k4 : wq.cell? ⟨wr.heap.size, 2, none⟩ = some (.int .i64 t) := hC.keep (by go_simp); have k5 : wq.cell? ⟨w3.heap.size, 0, none⟩ = some (.int .u16 0) := hC.keep (by go_simp); have k6 : wq.cell? ⟨w3.heap.size, 1, none⟩ = some (.int .i64 yl) := hC.keep (by go_simp); go_simp; first | done | rfl | exact ⟨rfl, rfl⟩
        simp only [Act.put, List.setIfInBounds_toArray, List.set_cons_zero, List.set_cons_succ]
        apply quiet_do
        · rfl
        · intro wq hC; have k0 : wq.cell? ⟨w.heap.size, 0, none⟩ = some (.int .u16 0) := hC.keep (by go_simp); have k1 : wq.cell? ⟨w.heap.size, 1, none⟩ = some (.int .i64 b) := hC.keep (by go_simp); have k2 : wq.cell? ⟨wr.heap.size, 0, none⟩ = some (.int .u8 q) := hC.keep (by go_simp); have k3 : wq.cell? ⟨wr.heap.size, 1, none⟩ = some (.int .u16 x) := hC.keep (by go_simp); have k4 : wq.cell? ⟨wr.heap.size, 2, none⟩ = some (.int .i64 t) := hC.keep (by go_simp); have k5 : wq.cell? ⟨w3.heap.size, 0, none⟩ = some (.int .u16 0) := hC.keep (by go_simp); have k6 : wq.cell? ⟨w3.heap.size, 1, none⟩ = some (.int .i64 yl) := hC.keep (by go_simp); go_simp; first | done | rfl | exact ⟨rfl, rfl⟩
        simp only [Act.put, List.setIfInBounds_toArray, List.set_cons_zero, List.set_cons_succ]
        apply quiet_do
        · rfl
        · intro wq hC; have k0 : wq.cell? ⟨w.heap.size, 0, none⟩ = some (.int .u16 0) := hC.keep (by go_simp); have k1 : wq.cell? ⟨w.heap.size, 1, none⟩ = some (.int .i64 b) := hC.keep (by go_simp); have k2 : wq.cell? ⟨wr.heap.size, 0, none⟩ = some (.int .u8 q) := hC.keep (by go_simp); have k3 : wq.cell? ⟨wr.heap.size, 1, none⟩ = some (.int .u16 x) := hC.keep (by go_simp); have k4 : wq.cell? ⟨wr.heap.size, 2, none⟩ = some (.int .i64 t) := hC.keep (by go_simp); have k5 : wq.cell? ⟨w3.heap.size, 0, none⟩ = some (.int .u16 0) := hC.keep (by go_simp); have k6 : wq.cell? ⟨w3.heap.size, 1, none⟩ = some (.int .i64 yl) := hC.keep (by go_simp); go_simp; first | done | rfl | exact ⟨rfl, rfl⟩
        simp only [Act.put, List.setIfInBounds_toArray, List.set_cons_zero, List.set_cons_succ]
        apply quiet_do
        · rfl
        · intro wq hC; have k0 : wq.cell? ⟨w.heap.size, 0, none⟩ = some (.int .u16 0) := hC.keep (by go_simp); have k1 : wq.cell? ⟨w.heap.size, 1, none⟩ = some (.int .i64 b) := hC.keep (by go_simp); have k2 : wq.cell? ⟨wr.heap.size, 0, none⟩ = some (.int .u8 q) := hC.keep (by go_simp); have k3 : wq.cell? ⟨wr.heap.size, 1, none⟩ = some (.int .u16 x) := hC.keep (by go_simp); have k4 : wq.cell? ⟨wr.heap.size, 2, none⟩ = some (.int .i64 t) := hC.keep (by go_simp); have k5 : wq.cell? ⟨w3.heap.size, 0, none⟩ = some (.int .u16 0) := hC.keep (by go_simp); have k6 : wq.cell? ⟨w3.heap.size, 1, none⟩ = some (.int .i64 yl) := hC.keep (by go_simp); go_simp; first | done | rfl | exact ⟨rfl, rfl⟩
        simp only [Act.put, List.setIfInBounds_toArray, List.set_cons_zero, List.set_cons_succ]
        apply quiet_do
        · rfl
        · intro wq hC; have k0 : wq.cell? ⟨w.heap.size, 0, none⟩ = some (.int .u16 0) := hC.keep (by go_simp); have k1 : wq.cell? ⟨w.heap.size, 1, none⟩ = some (.int .i64 b) := hC.keep (by go_simp); have k2 : wq.cell? ⟨wr.heap.size, 0, none⟩ = some (.int .u8 q) := hC.keep (by go_simp); have k3 : wq.cell? ⟨wr.heap.size, 1, none⟩ = some (.int .u16 x) := hC.keep (by go_simp); have k4 : wq.cell? ⟨wr.heap.size, 2, none⟩ = some (.int .i64 t) := hC.keep (by go_simp); have k5 : wq.cell? ⟨w3.heap.size, 0, none⟩ = some (.int .u16 0) := hC.keep (by go_simp); have k6 : wq.cell? ⟨w3.heap.size, 1, none⟩ = some (.int .i64 yl) := hC.keep (by go_simp); go_simp; first | done | rfl | exact ⟨rfl, rfl⟩
        simp only [Act.put, List.setIfInBounds_toArray, List.set_cons_zero, List.set_cons_succ]
        apply quiet_do
        · rfl
        · intro wq hC; have k0 : wq.cell? ⟨w.heap.size, 0, none⟩ = some (.int .u16 0) := hC.keep (by go_simp); have k1 : wq.cell? ⟨w.heap.size, 1, none⟩ = some (.int .i64 b) := hC.keep (by go_simp); have k2 : wq.cell? ⟨wr.heap.size, 0, none⟩ = some (.int .u8 q) := hC.keep (by go_simp); have k3 : wq.cell? ⟨wr.heap.size, 1, none⟩ = some (.int .u16 x) := hC.keep (by go_simp); have k4 : wq.cell? ⟨wr.heap.size, 2, none⟩ = some (.int .i64 t) := hC.keep (by go_simp); have k5 : wq.cell? ⟨w3.heap.size, 0, none⟩ = some (.int .u16 0) := hC.keep (by go_simp); have k6 : wq.cell? ⟨w3.heap.size, 1, none⟩ = some (.int .i64 yl) := hC.keep (by go_simp); go_simp; first | done | rfl | exact ⟨rfl, rfl⟩
        simp only [Act.put, List.setIfInBounds_toArray, List.set_cons_zero, List.set_cons_succ]
        apply quiet_do
        · rfl
        · intro wq hC; have k0 : wq.cell? ⟨w.heap.size, 0, none⟩ = some (.int .u16 0) := hC.keep (by go_simp); have k1 : wq.cell? ⟨w.heap.size, 1, none⟩ = some (.int .i64 b) := hC.keep (by go_simp); have k2 : wq.cell? ⟨wr.heap.size, 0, none⟩ = some (.int .u8 q) := hC.keep (by go_simp); have k3 : wq.cell? ⟨wr.heap.size, 1, none⟩ = some (.int .u16 x) := hC.keep (by go_simp); have k4 : wq.cell? ⟨wr.heap.size, 2, none⟩ = some (.int .i64 t) := hC.keep (by go_simp); have k5 : wq.cell? ⟨w3.heap.size, 0, none⟩ = some (.int .u16 0) := hC.keep (by go_simp); have k6 : wq.cell? ⟨w3.heap.size, 1, none⟩ = some (.int .i64 yl) := hC.keep (by go_simp); go_simp; first | done | rfl | exact ⟨rfl, rfl⟩
        simp only [Act.put, List.setIfInBounds_toArray, List.set_cons_zero, List.set_cons_succ]
        refine quiet_not (by rfl) ?_
        simp only [Act.put, List.setIfInBounds_toArray, List.set_cons_zero, List.set_cons_succ]
        refine quiet_not (by rfl) ?_
        simp only [Act.put, List.setIfInBounds_toArray, List.set_cons_zero, List.set_cons_succ]
        refine quiet_not (by rfl) ?_
        simp only [Act.put, List.setIfInBounds_toArray, List.set_cons_zero, List.set_cons_succ]
        apply quiet_do
        · rfl
        · intro wq hC; have k0 : wq.cell? ⟨w.heap.size, 0, none⟩ = some (.int .u16 0) := hC.keep (by go_simp); have k1 : wq.cell? ⟨w.heap.size, 1, none⟩ = some (.int .i64 b) := hC.keep (by go_simp); have k2 : wq.cell? ⟨wr.heap.size, 0, none⟩ = some (.int .u8 q) := hC.keep (by go_simp); have k3 : wq.cell? ⟨wr.heap.size, 1, none⟩ = some (.int .u16 x) := hC.keep (by go_simp); have k4 : wq.cell? ⟨wr.heap.size, 2, none⟩ = some (.int .i64 t) := hC.keep (by go_simp); have k5 : wq.cell? ⟨w3.heap.size, 0, none⟩ = some (.int .u16 0) := hC.keep (by go_simp); have k6 : wq.cell? ⟨w3.heap.size, 1, none⟩ = some (.int .i64 yl) := hC.keep (by go_simp); go_simp; first | done | rfl | exact ⟨rfl, rfl⟩
        simp only [Act.put, List.setIfInBounds_toArray, List.set_cons_zero, List.set_cons_succ]
        apply quiet_do
        · rfl
        · intro wq hC; have k0 : wq.cell? ⟨w.heap.size, 0, none⟩ = some (.int .u16 0) := hC.keep (by go_simp); have k1 : wq.cell? ⟨w.heap.size, 1, none⟩ = some (.int .i64 b) := hC.keep (by go_simp); have k2 : wq.cell? ⟨wr.heap.size, 0, none⟩ = some (.int .u8 q) := hC.keep (by go_simp); have k3 : wq.cell? ⟨wr.heap.size, 1, none⟩ = some (.int .u16 x) := hC.keep (by go_simp); have k4 : wq.cell? ⟨wr.heap.size, 2, none⟩ = some (.int .i64 t) := hC.keep (by go_simp); have k5 : wq.cell? ⟨w3.heap.size, 0, none⟩ = some (.int .u16 0) := hC.keep (by go_simp); have k6 : wq.cell? ⟨w3.heap.size, 1, none⟩ = some (.int .i64 yl) := hC.keep (by go_simp); go_simp; first | done | rfl | exact ⟨rfl, rfl⟩
        simp only [Act.put, List.setIfInBounds_toArray, List.set_cons_zero, List.set_cons_succ]
        refine quiet_not (by rfl) ?_
        simp only [Act.put, List.setIfInBounds_toArray, List.set_cons_zero, List.set_cons_succ]
        refine quiet_not (by rfl) ?_
        simp only [Act.put, List.setIfInBounds_toArray, List.set_cons_zero, List.set_cons_succ]
        refine quiet_not (by rfl) ?_
        simp only [Act.put, List.setIfInBounds_toArray, List.set_cons_zero, List.set_cons_succ]
        refine quiet_not (by rfl) ?_
        simp only [Act.put, List.setIfInBounds_toArray, List.set_cons_zero, List.set_cons_succ]
        refine quiet_not (by rfl) ?_
        simp only [Act.put, List.setIfInBounds_toArray, List.set_cons_zero, List.set_cons_succ]
        apply quiet_do
        · rfl
        · intro wq hC; have k0 : wq.cell? ⟨w.heap.size, 0, none⟩ = some (.int .u16 0) := hC.keep (by go_simp); have k1 : wq.cell? ⟨w.heap.size, 1, none⟩ = some (.int .i64 b) := hC.keep (by go_simp); have k2 : wq.cell? ⟨wr.heap.size, 0, none⟩ = some (.int .u8 q) := hC.keep (by go_simp); have k3 : wq.cell? ⟨wr.heap.size, 1, none⟩ = some (.int .u16 x) := hC.keep (by go_simp); have k4 : wq.cell? ⟨wr.heap.size, 2, none⟩ = some (.int .i64 t) := hC.keep (by go_simp); have k5 : wq.cell? ⟨w3.heap.size, 0, none⟩ = some (.int .u16 0) := hC.keep (by go_simp); have k6 : wq.cell? ⟨w3.heap.size, 1, none⟩ = some (.int .i64 yl) := hC.keep (by go_simp); go_simp; first | done | rfl | exact ⟨rfl, rfl⟩
        simp only [Act.put, List.setIfInBounds_toArray, List.set_cons_zero, List.set_cons_succ]
        apply quiet_do
        · rfl
        · intro wq hC; have k0 : wq.cell? ⟨w.heap.size, 0, none⟩ = some (.int .u16 0) := hC.keep (by go_simp); have k1 : wq.cell? ⟨w.heap.size, 1, none⟩ = some (.int .i64 b) := hC.keep (by go_simp); have k2 : wq.cell? ⟨wr.heap.size, 0, none⟩ = some (.int .u8 q) := hC.keep (by go_simp); have k3 : wq.cell? ⟨wr.heap.size, 1, none⟩ = some (.int .u16 x) := hC.keep (by go_simp); have k4 : wq.cell? ⟨wr.heap.size, 2, none⟩ = some (.int .i64 t) := hC.keep (by go_simp); have k5 : wq.cell? ⟨w3.heap.size, 0, none⟩ = some (.int .u16 0) := hC.keep (by go_simp); have k6 : wq.cell? ⟨w3.heap.size, 1, none⟩ = some (.int .i64 yl) := hC.keep (by go_simp); go_simp; first | done | rfl | exact ⟨rfl, rfl⟩
        simp only [Act.put, List.setIfInBounds_toArray, List.set_cons_zero, List.set_cons_succ]
        apply quiet_do
        · rfl
        · intro wq hC; have k0 : wq.cell? ⟨w.heap.size, 0, none⟩ = some (.int .u16 0) := hC.keep (by go_simp); have k1 : wq.cell? ⟨w.heap.size, 1, none⟩ = some (.int .i64 b) := hC.keep (by go_simp); have k2 : wq.cell? ⟨wr.heap.size, 0, none⟩ = some (.int .u8 q) := hC.keep (by go_simp); have k3 : wq.cell? ⟨wr.heap.size, 1, none⟩ = some (.int .u16 x) := hC.keep (by go_simp); have k4 : wq.cell? ⟨wr.heap.size, 2, none⟩ = some (.int .i64 t) := hC.keep (by go_simp); have k5 : wq.cell? ⟨w3.heap.size, 0, none⟩ = some (.int .u16 0) := hC.keep (by go_simp); have k6 : wq.cell? ⟨w3.heap.size, 1, none⟩ = some (.int .i64 yl) := hC.keep (by go_simp); go_simp; first | done | rfl | exact ⟨rfl, rfl⟩
        simp only [Act.put, List.setIfInBounds_toArray, List.set_cons_zero, List.set_cons_succ]
        apply quiet_do
        · rfl
        · intro wq hC; have k0 : wq.cell? ⟨w.heap.size, 0, none⟩ = some (.int .u16 0) := hC.keep (by go_simp); have k1 : wq.cell? ⟨w.heap.size, 1, none⟩ = some (.int .i64 b) := hC.keep (by go_simp); have k2 : wq.cell? ⟨wr.heap.size, 0, none⟩ = some (.int .u8 q) := hC.keep (by go_simp); have k3 : wq.cell? ⟨wr.heap.size, 1, none⟩ = some (.int .u16 x) := hC.keep (by go_simp); have k4 : wq.cell? ⟨wr.heap.size, 2, none⟩ = some (.int .i64 t) := hC.keep (by go_simp); have k5 : wq.cell? ⟨w3.heap.size, 0, none⟩ = some (.int .u16 0) := hC.keep (by go_simp); have k6 : wq.cell? ⟨w3.heap.size, 1, none⟩ = some (.int .i64 yl) := hC.keep (by go_simp); go_simp; first | done | rfl | exact ⟨rfl, rfl⟩
        simp only [Act.put, List.setIfInBounds_toArray, List.set_cons_zero, List.set_cons_succ]
        apply quiet_do
        · rfl
        · intro wq hC; have k0 : wq.cell? ⟨w.heap.size, 0, none⟩ = some (.int .u16 0) := hC.keep (by go_simp); have k1 : wq.cell? ⟨w.heap.size, 1, none⟩ = some (.int .i64 b) := hC.keep (by go_simp); have k2 : wq.cell? ⟨wr.heap.size, 0, none⟩ = some (.int .u8 q) := hC.keep (by go_simp); have k3 : wq.cell? ⟨wr.heap.size, 1, none⟩ = some (.int .u16 x) := hC.keep (by go_simp); have k4 : wq.cell? ⟨wr.heap.size, 2, none⟩ = some (.int .i64 t) := hC.keep (by go_simp); have k5 : wq.cell? ⟨w3.heap.size, 0, none⟩ = some (.int .u16 0) := hC.keep (by go_simp); have k6 : wq.cell? ⟨w3.heap.size, 1, none⟩ = some (.int .i64 yl) := hC.keep (by go_simp); go_simp; first | done | rfl | exact ⟨rfl, rfl⟩
        simp only [Act.put, List.setIfInBounds_toArray, List.set_cons_zero, List.set_cons_succ]
        apply quiet_do
        · rfl
        · intro wq hC; have k0 : wq.cell? ⟨w.heap.size, 0, none⟩ = some (.int .u16 0) := hC.keep (by go_simp); have k1 : wq.cell? ⟨w.heap.size, 1, none⟩ = some (.int .i64 b) := hC.keep (by go_simp); have k2 : wq.cell? ⟨wr.heap.size, 0, none⟩ = some (.int .u8 q) := hC.keep (by go_simp); have k3 : wq.cell? ⟨wr.heap.size, 1, none⟩ = some (.int .u16 x) := hC.keep (by go_simp); have k4 : wq.cell? ⟨wr.heap.size, 2, none⟩ = some (.int .i64 t) := hC.keep (by go_simp); have k5 : wq.cell? ⟨w3.heap.size, 0, none⟩ = some (.int .u16 0) := hC.keep (by go_simp); have k6 : wq.cell? ⟨w3.heap.size, 1, none⟩ = some (.int .i64 yl) := hC.keep (by go_simp); go_simp; first | done | rfl | exact ⟨rfl, rfl⟩
        simp only [Act.put, List.setIfInBounds_toArray, List.set_cons_zero, List.set_cons_succ]
        apply quiet_do
        · rfl
        · intro wq hC; have k0 : wq.cell? ⟨w.heap.size, 0, none⟩ = some (.int .u16 0) := hC.keep (by go_simp); have k1 : wq.cell? ⟨w.heap.size, 1, none⟩ = some (.int .i64 b) := hC.keep (by go_simp); have k2 : wq.cell? ⟨wr.heap.size, 0, none⟩ = some (.int .u8 q) := hC.keep (by go_simp); have k3 : wq.cell? ⟨wr.heap.size, 1, none⟩ = some (.int .u16 x) := hC.keep (by go_simp); have k4 : wq.cell? ⟨wr.heap.size, 2, none⟩ = some (.int .i64 t) := hC.keep (by go_simp); have k5 : wq.cell? ⟨w3.heap.size, 0, none⟩ = some (.int .u16 0) := hC.keep (by go_simp); have k6 : wq.cell? ⟨w3.heap.size, 1, none⟩ = some (.int .i64 yl) := hC.keep (by go_simp); go_simp; first | done | rfl | exact ⟨rfl, rfl⟩
        simp only [Act.put, List.setIfInBounds_toArray, List.set_cons_zero, List.set_cons_succ]
        apply quiet_do
        · rfl
        · intro wq hC; have k0 : wq.cell? ⟨w.heap.size, 0, none⟩ = some (.int .u16 0) := hC.keep (by go_simp); have k1 : wq.cell? ⟨w.heap.size, 1, none⟩ = some (.int .i64 b) := hC.keep (by go_simp); have k2 : wq.cell? ⟨wr.heap.size, 0, none⟩ = some (.int .u8 q) := hC.keep (by go_simp); have k3 : wq.cell? ⟨wr.heap.size, 1, none⟩ = some (.int .u16 x) := hC.keep (by go_simp); have k4 : wq.cell? ⟨wr.heap.size, 2, none⟩ = some (.int .i64 t) := hC.keep (by go_simp); have k5 : wq.cell? ⟨w3.heap.size, 0, none⟩ = some (.int .u16 0) := hC.keep (by go_simp); have k6 : wq.cell? ⟨w3.heap.size, 1, none⟩ = some (.int .i64 yl) := hC.keep (by go_simp); go_simp; refine (free_at HF.out _).mono ?_; rintro eq wq2 ⟨rfl, hbq⟩; exact ⟨rfl, hC.step hbq⟩
        simp only [Act.put, List.setIfInBounds_toArray, List.set_cons_zero, List.set_cons_succ]
        apply quiet_do
        · rfl
        · intro wq hC; have k0 : wq.cell? ⟨w.heap.size, 0, none⟩ = some (.int .u16 0) := hC.keep (by go_simp); have k1 : wq.cell? ⟨w.heap.size, 1, none⟩ = some (.int .i64 b) := hC.keep (by go_simp); have k2 : wq.cell? ⟨wr.heap.size, 0, none⟩ = some (.int .u8 q) := hC.keep (by go_simp); have k3 : wq.cell? ⟨wr.heap.size, 1, none⟩ = some (.int .u16 x) := hC.keep (by go_simp); have k4 : wq.cell? ⟨wr.heap.size, 2, none⟩ = some (.int .i64 t) := hC.keep (by go_simp); have k5 : wq.cell? ⟨w3.heap.size, 0, none⟩ = some (.int .u16 0) := hC.keep (by go_simp); have k6 : wq.cell? ⟨w3.heap.size, 1, none⟩ = some (.int .i64 yl) := hC.keep (by go_simp); go_simp; first | done | rfl | exact ⟨rfl, rfl⟩
        simp only [Act.put, List.setIfInBounds_toArray, List.set_cons_zero, List.set_cons_succ]
        apply quiet_do
        · rfl
        · intro wq hC; have k0 : wq.cell? ⟨w.heap.size, 0, none⟩ = some (.int .u16 0) := hC.keep (by go_simp); have k1 : wq.cell? ⟨w.heap.size, 1, none⟩ = some (.int .i64 b) := hC.keep (by go_simp); have k2 : wq.cell? ⟨wr.heap.size, 0, none⟩ = some (.int .u8 q) := hC.keep (by go_simp); have k3 : wq.cell? ⟨wr.heap.size, 1, none⟩ = some (.int .u16 x) := hC.keep (by go_simp); have k4 : wq.cell? ⟨wr.heap.size, 2, none⟩ = some (.int .i64 t) := hC.keep (by go_simp); have k5 : wq.cell? ⟨w3.heap.size, 0, none⟩ = some (.int .u16 0) := hC.keep (by go_simp); have k6 : wq.cell? ⟨w3.heap.size, 1, none⟩ = some (.int .i64 yl) := hC.keep (by go_simp); go_simp; first | done | rfl | exact ⟨rfl, rfl⟩
        simp only [Act.put, List.setIfInBounds_toArray, List.set_cons_zero, List.set_cons_succ]
        intro w4 hb4
        have hb4 : Below _ _ _ := hb4
        have yw4 : w.heap.size ≤ w4.heap.size := by (have := hb4.size; (try simp at this); omega)
        have c4_0 : w4.cell? ⟨w.heap.size, 0, none⟩ = some (.int .u16 0) := keep hb4 (by go_simp)
        have f4_0 : w4.frozen? ⟨w.heap.size, 0, none⟩ = false := keepF hb4 (.int .u16 0) (by go_simp) (by go_simp)
        have zw4_0 := cell_lt c4_0
        have c4_1 : w4.cell? ⟨w.heap.size, 1, none⟩ = some (.int .i64 b) := keep hb4 (by go_simp)
        have f4_1 : w4.frozen? ⟨w.heap.size, 1, none⟩ = false := keepF hb4 (.int .i64 b) (by go_simp) (by go_simp)
        have c4_2 : w4.cell? ⟨wr.heap.size, 0, none⟩ = some (.int .u8 q) := keep hb4 (by go_simp)
        have f4_2 : w4.frozen? ⟨wr.heap.size, 0, none⟩ = false := keepF hb4 (.int .u8 q) (by go_simp) (by go_simp)
        have zw4_2 := cell_lt c4_2
        have c4_3 : w4.cell? ⟨wr.heap.size, 1, none⟩ = some (.int .u16 x) := keep hb4 (by go_simp)
        have f4_3 : w4.frozen? ⟨wr.heap.size, 1, none⟩ = false := keepF hb4 (.int .u16 x) (by go_simp) (by go_simp)
        have c4_4 : w4.cell? ⟨wr.heap.size, 2, none⟩ = some (.int .i64 t) := keep hb4 (by go_simp)
        have f4_4 : w4.frozen? ⟨wr.heap.size, 2, none⟩ = false := keepF hb4 (.int .i64 t) (by go_simp) (by go_simp)
        have c4_5 : w4.cell? ⟨w3.heap.size, 0, none⟩ = some (.int .u16 0) := keep hb4 (by go_simp)
        have f4_5 : w4.frozen? ⟨w3.heap.size, 0, none⟩ = false := keepF hb4 (.int .u16 0) (by go_simp) (by go_simp)
        have zw4_5 := cell_lt c4_5
        have c4_6 : w4.cell? ⟨w3.heap.size, 1, none⟩ = some (.int .i64 yl) := keep hb4 (by go_simp)
        have f4_6 : w4.frozen? ⟨w3.heap.size, 1, none⟩ = false := keepF hb4 (.int .i64 yl) (by go_simp) (by go_simp)
        clear c3_0 f3_0 c3_1 f3_1 c3_2 f3_2 c3_3 f3_3 c3_4 f3_4
        go_wp2_with fail
        go_roundw
        case rel => exact ⟨k + 1, by omega, by go_num, 0, yl, HYR, by omega, by omega, by go_simp, by go_simp, by go_simp, by go_simp, (by first | omega | (simp; done) | (simp; omega)), (by repeat (first | assumption | exact Below.refl _ _ | refine balloc ?_ _ | refine bset ?_ (by first | (simp; done) | (simp; omega)) _ | refine bdrew ?_ | refine bstep ?_ (by assumption)))⟩
        case measure => (try simp [intOf]); omega
      · subst he
        subst h1
        subst h4
        have b1 : (yo == 0) = false := by simpa using h2
        have b2 : (yo != 0) = true := by simpa using h2
        have b3 : (q % 5 != 0) = false := by simp; omega
        have b4 : (q % 5 == 2) = false := by simp; omega
        go_wp2_with fail
        with_reducible refine (does_at HY.out _ hq0 (by omega) (by omega)).mono ?_
        rintro e3 w3 ⟨rfl, hb3⟩
        have yw3 : w.heap.size ≤ w3.heap.size := by (have := hb3.size; (try simp at this); omega)
        have c3_0 : w3.cell? ⟨w.heap.size, 0, none⟩ = some (.int .u16 0) := keep hb3 (by go_simp)
        have f3_0 : w3.frozen? ⟨w.heap.size, 0, none⟩ = false := keepF hb3 (.int .u16 0) (by go_simp) (by go_simp)
        have zw3_0 := cell_lt c3_0
        have c3_1 : w3.cell? ⟨w.heap.size, 1, none⟩ = some (.int .i64 b) := keep hb3 (by go_simp)
        have f3_1 : w3.frozen? ⟨w.heap.size, 1, none⟩ = false := keepF hb3 (.int .i64 b) (by go_simp) (by go_simp)
        have c3_2 : w3.cell? ⟨wr.heap.size, 0, none⟩ = some (.int .u8 q) := keep hb3 (by go_simp)
        have f3_2 : w3.frozen? ⟨wr.heap.size, 0, none⟩ = false := keepF hb3 (.int .u8 q) (by go_simp) (by go_simp)
        have zw3_2 := cell_lt c3_2
        have c3_3 : w3.cell? ⟨wr.heap.size, 1, none⟩ = some (.int .u16 yo) := keep hb3 (by go_simp)
        have f3_3 : w3.frozen? ⟨wr.heap.size, 1, none⟩ = false := keepF hb3 (.int .u16 yo) (by go_simp) (by go_simp)
        have c3_4 : w3.cell? ⟨wr.heap.size, 2, none⟩ = some (.int .i64 t) := keep hb3 (by go_simp)
        have f3_4 : w3.frozen? ⟨wr.heap.size, 2, none⟩ = false := keepF hb3 (.int .i64 t) (by go_simp) (by go_simp)
        go_wp2_with fail
        refine wp_region_below (by kernel_rfl) (by kernel_rfl) ?_
        apply quiet_do
        · rfl
        · intro wq hC; have k0 : wq.cell? ⟨w.heap.size, 0, none⟩ = some (.int .u16 0) := hC.keep (by go_simp); have k1 : wq.cell? ⟨w.heap.size, 1, none⟩ = some (.int .i64 b) := hC.keep (by go_simp); have k2 : wq.cell? ⟨wr.heap.size, 0, none⟩ = some (.int .u8 q) := hC.keep (by go_simp); have k3 : wq.cell? ⟨wr.heap.size, 1, none⟩ = some (.int .u16 yo) := hC.keep (by go_simp); have k4 : wq.cell? ⟨wr.heap.size, 2, none⟩ = some (.int .i64 t) := hC.keep (by go_simp); have k5 : wq.cell? ⟨w3.heap.size, 0, none⟩ = some (.int .u16 yo) := hC.keep (by go_simp); have k6 : wq.cell? ⟨w3.heap.size, 1, none⟩ = some (.int .i64 yl) := hC.keep (by go_simp); go_simp; first | done | rfl | exact ⟨rfl, rfl⟩
        simp only [Act.put, List.setIfInBounds_toArray, List.set_cons_zero, List.set_cons_succ]
        apply quiet_do
        · rfl
        · intro wq hC; have k0 : wq.cell? ⟨w.heap.size, 0, none⟩ = some (.int .u16 0) := hC.keep (by go_simp); have k1 : wq.cell? ⟨w.heap.size, 1, none⟩ = some (.int .i64 b) := hC.keep (by go_simp); have k2 : wq.cell? ⟨wr.heap.size, 0, none⟩ = some (.int .u8 q) := hC.keep (by go_simp); have k3 : wq.cell? ⟨wr.heap.size, 1, none⟩ = some (.int .u16 yo) := hC.keep (by go_simp); have k4 : wq.cell? ⟨wr.heap.size, 2, none⟩ = some (.int .i64 t) := hC.keep (by go_simp); have k5 : wq.cell? ⟨w3.heap.size, 0, none⟩ = some (.int .u16 yo) := hC.keep (by go_simp); have k6 : wq.cell? ⟨w3.heap.size, 1, none⟩ = some (.int .i64 yl) := hC.keep (by go_simp); go_simp; refine (right_at HYR.out _).mono ?_; rintro eq wq2 ⟨rfl, hbq⟩; exact ⟨rfl, hC.step hbq⟩
        simp only [Act.put, List.setIfInBounds_toArray, List.set_cons_zero, List.set_cons_succ]
        apply quiet_do
        · rfl
        · intro wq hC; have k0 : wq.cell? ⟨w.heap.size, 0, none⟩ = some (.int .u16 0) := hC.keep (by go_simp); have k1 : wq.cell? ⟨w.heap.size, 1, none⟩ = some (.int .i64 b) := hC.keep (by go_simp); have k2 : wq.cell? ⟨wr.heap.size, 0, none⟩ = some (.int .u8 q) := hC.keep (by go_simp); have k3 : wq.cell? ⟨wr.heap.size, 1, none⟩ = some (.int .u16 yo) := hC.keep (by go_simp); have k4 : wq.cell? ⟨wr.heap.size, 2, none⟩ = some (.int .i64 t) := hC.keep (by go_simp); have k5 : wq.cell? ⟨w3.heap.size, 0, none⟩ = some (.int .u16 yo) := hC.keep (by go_simp); have k6 : wq.cell? ⟨w3.heap.size, 1, none⟩ = some (.int .i64 yl) := hC.keep (by go_simp); go_simp; first | done | rfl | exact ⟨rfl, rfl⟩
        simp only [Act.put, List.setIfInBounds_toArray, List.set_cons_zero, List.set_cons_succ]
        apply quiet_do
        · rfl
        · intro wq hC; have k0 : wq.cell? ⟨w.heap.size, 0, none⟩ = some (.int .u16 0) := hC.keep (by go_simp); have k1 : wq.cell? ⟨w.heap.size, 1, none⟩ = some (.int .i64 b) := hC.keep (by go_simp); have k2 : wq.cell? ⟨wr.heap.size, 0, none⟩ = some (.int .u8 q) := hC.keep (by go_simp); have k3 : wq.cell? ⟨wr.heap.size, 1, none⟩ = some (.int .u16 yo) := hC.keep (by go_simp); have k4 : wq.cell? ⟨wr.heap.size, 2, none⟩ = some (.int .i64 t) := hC.keep (by go_simp); have k5 : wq.cell? ⟨w3.heap.size, 0, none⟩ = some (.int .u16 yo) := hC.keep (by go_simp); have k6 : wq.cell? ⟨w3.heap.size, 1, none⟩ = some (.int .i64 yl) := hC.keep (by go_simp); go_simp; first | done | rfl | exact ⟨rfl, rfl⟩
        simp only [Act.put, List.setIfInBounds_toArray, List.set_cons_zero, List.set_cons_succ]
        apply quiet_do
        · rfl
        · intro wq hC; have k0 : wq.cell? ⟨w.heap.size, 0, none⟩ = some (.int .u16 0) := hC.keep (by go_simp); have k1 : wq.cell? ⟨w.heap.size, 1, none⟩ = some (.int .i64 b) := hC.keep (by go_simp); have k2 : wq.cell? ⟨wr.heap.size, 0, none⟩ = some (.int .u8 q) := hC.keep (by go_simp); have k3 : wq.cell? ⟨wr.heap.size, 1, none⟩ = some (.int .u16 yo) := hC.keep (by go_simp); have k4 : wq.cell? ⟨wr.heap.size, 2, none⟩ = some (.int .i64 t) := hC.keep (by go_simp); have k5 : wq.cell? ⟨w3.heap.size, 0, none⟩ = some (.int .u16 yo) := hC.keep (by go_simp); have k6 : wq.cell? ⟨w3.heap.size, 1, none⟩ = some (.int .i64 yl) := hC.keep (by go_simp); go_simp; first | done | rfl | exact ⟨rfl, rfl⟩
        simp only [Act.put, List.setIfInBounds_toArray, List.set_cons_zero, List.set_cons_succ]
        apply quiet_do
        · rfl
        · intro wq hC; have k0 : wq.cell? ⟨w.heap.size, 0, none⟩ = some (.int .u16 0) := hC.keep (by go_simp); have k1 : wq.cell? ⟨w.heap.size, 1, none⟩ = some (.int .i64 b) := hC.keep (by go_simp); have k2 : wq.cell? ⟨wr.heap.size, 0, none⟩ = some (.int .u8 q) := hC.keep (by go_simp); have k3 : wq.cell? ⟨wr.heap.size, 1, none⟩ = some (.int .u16 yo) := hC.keep (by go_simp); have k4 : wq.cell? ⟨wr.heap.size, 2, none⟩ = some (.int .i64 t) := hC.keep (by go_simp); have k5 : wq.cell? ⟨w3.heap.size, 0, none⟩ = some (.int .u16 yo) := hC.keep (by go_simp); have k6 : wq.cell? ⟨w3.heap.size, 1, none⟩ = some (.int .i64 yl) := hC.keep (by go_simp); go_simp; first | done | rfl | exact ⟨rfl, rfl⟩
        simp only [Act.put, List.setIfInBounds_toArray, List.set_cons_zero, List.set_cons_succ]
        apply quiet_do
        · rfl
        · intro wq hC; have k0 : wq.cell? ⟨w.heap.size, 0, none⟩ = some (.int .u16 0) := hC.keep (by go_simp); have k1 : wq.cell? ⟨w.heap.size, 1, none⟩ = some (.int .i64 b) := hC.keep (by go_simp); have k2 : wq.cell? ⟨wr.heap.size, 0, none⟩ = some (.int .u8 q) := hC.keep (by go_simp); have k3 : wq.cell? ⟨wr.heap.size, 1, none⟩ = some (.int .u16 yo) := hC.keep (by go_simp); have k4 : wq.cell? ⟨wr.heap.size, 2, none⟩ = some (.int .i64 t) := hC.keep (by go_simp); have k5 : wq.cell? ⟨w3.heap.size, 0, none⟩ = some (.int .u16 yo) := hC.keep (by go_simp); have k6 : wq.cell? ⟨w3.heap.size, 1, none⟩ = some (.int .i64 yl) := hC.keep (by go_simp); go_simp; first | done | rfl | exact ⟨rfl, rfl⟩
        simp only [Act.put, List.setIfInBounds_toArray, List.set_cons_zero, List.set_cons_succ]
        refine quiet_not (by rfl) ?_
        simp only [Act.put, List.setIfInBounds_toArray, List.set_cons_zero, List.set_cons_succ]
        refine quiet_not (by rfl) ?_
        simp only [Act.put, List.setIfInBounds_toArray, List.set_cons_zero, List.set_cons_succ]
        refine quiet_not (by rfl) ?_
        simp only [Act.put, List.setIfInBounds_toArray, List.set_cons_zero, List.set_cons_succ]
        apply quiet_do
        · rfl
        · intro wq hC; have k0 : wq.cell? ⟨w.heap.size, 0, none⟩ = some (.int .u16 0) := hC.keep (by go_simp); have k1 : wq.cell? ⟨w.heap.size, 1, none⟩ = some (.int .i64 b) := hC.keep (by go_simp); have k2 : wq.cell? ⟨wr.heap.size, 0, none⟩ = some (.int .u8 q) := hC.keep (by go_simp); have k3 : wq.cell? ⟨wr.heap.size, 1, none⟩ = some (.int .u16 yo) := hC.keep (by go_simp); have k4 : wq.cell? ⟨wr.heap.size, 2, none⟩ = some (.int .i64 t) := hC.keep (by go_simp); have k5 : wq.cell? ⟨w3.heap.size, 0, none⟩ = some (.int .u16 yo) := hC.keep (by go_simp); have k6 : wq.cell? ⟨w3.heap.size, 1, none⟩ = some (.int .i64 yl) := hC.keep (by go_simp); go_simp; first | done | rfl | exact ⟨rfl, rfl⟩
        simp only [Act.put, List.setIfInBounds_toArray, List.set_cons_zero, List.set_cons_succ]
        apply quiet_do
        · rfl
        · intro wq hC; have k0 : wq.cell? ⟨w.heap.size, 0, none⟩ = some (.int .u16 0) := hC.keep (by go_simp); have k1 : wq.cell? ⟨w.heap.size, 1, none⟩ = some (.int .i64 b) := hC.keep (by go_simp); have k2 : wq.cell? ⟨wr.heap.size, 0, none⟩ = some (.int .u8 q) := hC.keep (by go_simp); have k3 : wq.cell? ⟨wr.heap.size, 1, none⟩ = some (.int .u16 yo) := hC.keep (by go_simp); have k4 : wq.cell? ⟨wr.heap.size, 2, none⟩ = some (.int .i64 t) := hC.keep (by go_simp); have k5 : wq.cell? ⟨w3.heap.size, 0, none⟩ = some (.int .u16 yo) := hC.keep (by go_simp); have k6 : wq.cell? ⟨w3.heap.size, 1, none⟩ = some (.int .i64 yl) := hC.keep (by go_simp); go_simp; first | done | rfl | exact ⟨rfl, rfl⟩
        simp only [Act.put, List.setIfInBounds_toArray, List.set_cons_zero, List.set_cons_succ]
        apply quiet_do
        · rfl
        · intro wq hC; have k0 : wq.cell? ⟨w.heap.size, 0, none⟩ = some (.int .u16 0) := hC.keep (by go_simp); have k1 : wq.cell? ⟨w.heap.size, 1, none⟩ = some (.int .i64 b) := hC.keep (by go_simp); have k2 : wq.cell? ⟨wr.heap.size, 0, none⟩ = some (.int .u8 q) := hC.keep (by go_simp); have k3 : wq.cell? ⟨wr.heap.size, 1, none⟩ = some (.int .u16 yo) := hC.keep (by go_simp); have k4 : wq.cell? ⟨wr.heap.size, 2, none⟩ = some (.int .i64 t) := hC.keep (by go_simp); have k5 : wq.cell? ⟨w3.heap.size, 0, none⟩ = some (.int .u16 yo) := hC.keep (by go_simp); have k6 : wq.cell? ⟨w3.heap.size, 1, none⟩ = some (.int .i64 yl) := hC.keep (by go_simp); go_simp; first | done | rfl | exact ⟨rfl, rfl⟩
        simp only [Act.put, List.setIfInBounds_toArray, List.set_cons_zero, List.set_cons_succ]
        apply quiet_do
        · rfl
        · intro wq hC; have k0 : wq.cell? ⟨w.heap.size, 0, none⟩ = some (.int .u16 0) := hC.keep (by go_simp); have k1 : wq.cell? ⟨w.heap.size, 1, none⟩ = some (.int .i64 b) := hC.keep (by go_simp); have k2 : wq.cell? ⟨wr.heap.size, 0, none⟩ = some (.int .u8 q) := hC.keep (by go_simp); have k3 : wq.cell? ⟨wr.heap.size, 1, none⟩ = some (.int .u16 yo) := hC.keep (by go_simp); have k4 : wq.cell? ⟨wr.heap.size, 2, none⟩ = some (.int .i64 t) := hC.keep (by go_simp); have k5 : wq.cell? ⟨w3.heap.size, 0, none⟩ = some (.int .u16 yo) := hC.keep (by go_simp); have k6 : wq.cell? ⟨w3.heap.size, 1, none⟩ = some (.int .i64 yl) := hC.keep (by go_simp); go_simp; first | done | rfl | exact ⟨rfl, rfl⟩
        simp only [Act.put, List.setIfInBounds_toArray, List.set_cons_zero, List.set_cons_succ]
        apply quiet_do
        · rfl
        · intro wq hC; have k0 : wq.cell? ⟨w.heap.size, 0, none⟩ = some (.int .u16 0) := hC.keep (by go_simp); have k1 : wq.cell? ⟨w.heap.size, 1, none⟩ = some (.int .i64 b) := hC.keep (by go_simp); have k2 : wq.cell? ⟨wr.heap.size, 0, none⟩ = some (.int .u8 q) := hC.keep (by go_simp); have k3 : wq.cell? ⟨wr.heap.size, 1, none⟩ = some (.int .u16 yo) := hC.keep (by go_simp); have k4 : wq.cell? ⟨wr.heap.size, 2, none⟩ = some (.int .i64 t) := hC.keep (by go_simp); have k5 : wq.cell? ⟨w3.heap.size, 0, none⟩ = some (.int .u16 yo) := hC.keep (by go_simp); have k6 : wq.cell? ⟨w3.heap.size, 1, none⟩ = some (.int .i64 yl) := hC.keep (by go_simp); go_simp; first | done | rfl | exact ⟨rfl, rfl⟩
        simp only [Act.put, List.setIfInBounds_toArray, List.set_cons_zero, List.set_cons_succ]
        apply quiet_do
        · rfl
        · intro wq hC; have k0 : wq.cell? ⟨w.heap.size, 0, none⟩ = some (.int .u16 0) := hC.keep (by go_simp); have k1 : wq.cell? ⟨w.heap.size, 1, none⟩ = some (.int .i64 b) := hC.keep (by go_simp); have k2 : wq.cell? ⟨wr.heap.size, 0, none⟩ = some (.int .u8 q) := hC.keep (by go_simp); have k3 : wq.cell? ⟨wr.heap.size, 1, none⟩ = some (.int .u16 yo) := hC.keep (by go_simp); have k4 : wq.cell? ⟨wr.heap.size, 2, none⟩ = some (.int .i64 t) := hC.keep (by go_simp); have k5 : wq.cell? ⟨w3.heap.size, 0, none⟩ = some (.int .u16 yo) := hC.keep (by go_simp); have k6 : wq.cell? ⟨w3.heap.size, 1, none⟩ = some (.int .i64 yl) := hC.keep (by go_simp); go_simp; first | done | rfl | exact ⟨rfl, rfl⟩
        simp only [Act.put, List.setIfInBounds_toArray, List.set_cons_zero, List.set_cons_succ]
        apply quiet_do
        · rfl
        · intro wq hC; have k0 : wq.cell? ⟨w.heap.size, 0, none⟩ = some (.int .u16 0) := hC.keep (by go_simp); have k1 : wq.cell? ⟨w.heap.size, 1, none⟩ = some (.int .i64 b) := hC.keep (by go_simp); have k2 : wq.cell? ⟨wr.heap.size, 0, none⟩ = some (.int .u8 q) := hC.keep (by go_simp); have k3 : wq.cell? ⟨wr.heap.size, 1, none⟩ = some (.int .u16 yo) := hC.keep (by go_simp); have k4 : wq.cell? ⟨wr.heap.size, 2, none⟩ = some (.int .i64 t) := hC.keep (by go_simp); have k5 : wq.cell? ⟨w3.heap.size, 0, none⟩ = some (.int .u16 yo) := hC.keep (by go_simp); have k6 : wq.cell? ⟨w3.heap.size, 1, none⟩ = some (.int .i64 yl) := hC.keep (by go_simp); go_simp; first | done | rfl | exact ⟨rfl, rfl⟩
        simp only [Act.put, List.setIfInBounds_toArray, List.set_cons_zero, List.set_cons_succ]
        refine quiet_not (by rfl) ?_
        simp only [Act.put, List.setIfInBounds_toArray, List.set_cons_zero, List.set_cons_succ]
        refine quiet_not (by rfl) ?_
        simp only [Act.put, List.setIfInBounds_toArray, List.set_cons_zero, List.set_cons_succ]
        refine quiet_not (by rfl) ?_
        simp only [Act.put, List.setIfInBounds_toArray, List.set_cons_zero, List.set_cons_succ]
        apply quiet_do
        · rfl
        · intro wq hC; have k0 : wq.cell? ⟨w.heap.size, 0, none⟩ = some (.int .u16 0) := hC.keep (by go_simp); have k1 : wq.cell? ⟨w.heap.size, 1, none⟩ = some (.int .i64 b) := hC.keep (by go_simp); have k2 : wq.cell? ⟨wr.heap.size, 0, none⟩ = some (.int .u8 q) := hC.keep (by go_simp); have k3 : wq.cell? ⟨wr.heap.size, 1, none⟩ = some (.int .u16 yo) := hC.keep (by go_simp); have k4 : wq.cell? ⟨wr.heap.size, 2, none⟩ = some (.int .i64 t) := hC.keep (by go_simp); have k5 : wq.cell? ⟨w3.heap.size, 0, none⟩ = some (.int .u16 yo) := hC.keep (by go_simp); have k6 : wq.cell? ⟨w3.heap.size, 1, none⟩ = some (.int .i64 yl) := hC.keep (by go_simp); go_simp; first | done | rfl | exact ⟨rfl, rfl⟩
        simp only [Act.put, List.setIfInBounds_toArray, List.set_cons_zero, List.set_cons_succ]
        apply quiet_do
        · rfl
        · intro wq hC; have k0 : wq.cell? ⟨w.heap.size, 0, none⟩ = some (.int .u16 0) := hC.keep (by go_simp); have k1 : wq.cell? ⟨w.heap.size, 1, none⟩ = some (.int .i64 b) := hC.keep (by go_simp); have k2 : wq.cell? ⟨wr.heap.size, 0, none⟩ = some (.int .u8 q) := hC.keep (by go_simp); have k3 : wq.cell? ⟨wr.heap.size, 1, none⟩ = some (.int .u16 yo) := hC.keep (by go_simp); have k4 : wq.cell? ⟨wr.heap.size, 2, none⟩ = some (.int .i64 t) := hC.keep (by go_simp); have k5 : wq.cell? ⟨w3.heap.size, 0, none⟩ = some (.int .u16 yo) := hC.keep (by go_simp); have k6 : wq.cell? ⟨w3.heap.size, 1, none⟩ = some (.int .i64 yl) := hC.keep (by go_simp); go_simp; first | done | rfl | exact ⟨rfl, rfl⟩
        simp only [Act.put, List.setIfInBounds_toArray, List.set_cons_zero, List.set_cons_succ]
        refine quiet_not (by rfl) ?_
        simp only [Act.put, List.setIfInBounds_toArray, List.set_cons_zero, List.set_cons_succ]
        refine quiet_not (by rfl) ?_
        simp only [Act.put, List.setIfInBounds_toArray, List.set_cons_zero, List.set_cons_succ]
        refine quiet_not (by rfl) ?_
        simp only [Act.put, List.setIfInBounds_toArray, List.set_cons_zero, List.set_cons_succ]
        refine quiet_not (by rfl) ?_
        simp only [Act.put, List.setIfInBounds_toArray, List.set_cons_zero, List.set_cons_succ]
        refine quiet_not (by rfl) ?_
        simp only [Act.put, List.setIfInBounds_toArray, List.set_cons_zero, List.set_cons_succ]
        apply quiet_do
        · rfl
        · intro wq hC; have k0 : wq.cell? ⟨w.heap.size, 0, none⟩ = some (.int .u16 0) := hC.keep (by go_simp); have k1 : wq.cell? ⟨w.heap.size, 1, none⟩ = some (.int .i64 b) := hC.keep (by go_simp); have k2 : wq.cell? ⟨wr.heap.size, 0, none⟩ = some (.int .u8 q) := hC.keep (by go_simp); have k3 : wq.cell? ⟨wr.heap.size, 1, none⟩ = some (.int .u16 yo) := hC.keep (by go_simp); have k4 : wq.cell? ⟨wr.heap.size, 2, none⟩ = some (.int .i64 t) := hC.keep (by go_simp); have k5 : wq.cell? ⟨w3.heap.size, 0, none⟩ = some (.int .u16 yo) := hC.keep (by go_simp); have k6 : wq.cell? ⟨w3.heap.size, 1, none⟩ = some (.int .i64 yl) := hC.keep (by go_simp); go_simp; first | done | rfl | exact ⟨rfl, rfl⟩
        simp only [Act.put, List.setIfInBounds_toArray, List.set_cons_zero, List.set_cons_succ]
        apply quiet_do
        · rfl
        · intro wq hC; have k0 : wq.cell? ⟨w.heap.size, 0, none⟩ = some (.int .u16 0) := hC.keep (by go_simp); have k1 : wq.cell? ⟨w.heap.size, 1, none⟩ = some (.int .i64 b) := hC.keep (by go_simp); have k2 : wq.cell? ⟨wr.heap.size, 0, none⟩ = some (.int .u8 q) := hC.keep (by go_simp); have k3 : wq.cell? ⟨wr.heap.size, 1, none⟩ = some (.int .u16 yo) := hC.keep (by go_simp); have k4 : wq.cell? ⟨wr.heap.size, 2, none⟩ = some (.int .i64 t) := hC.keep (by go_simp); have k5 : wq.cell? ⟨w3.heap.size, 0, none⟩ = some (.int .u16 yo) := hC.keep (by go_simp); have k6 : wq.cell? ⟨w3.heap.size, 1, none⟩ = some (.int .i64 yl) := hC.keep (by go_simp); go_simp; first | done | rfl | exact ⟨rfl, rfl⟩
        simp only [Act.put, List.setIfInBounds_toArray, List.set_cons_zero, List.set_cons_succ]
        apply quiet_do
        · rfl
        · intro wq hC; have k0 : wq.cell? ⟨w.heap.size, 0, none⟩ = some (.int .u16 0) := hC.keep (by go_simp); have k1 : wq.cell? ⟨w.heap.size, 1, none⟩ = some (.int .i64 b) := hC.keep (by go_simp); have k2 : wq.cell? ⟨wr.heap.size, 0, none⟩ = some (.int .u8 q) := hC.keep (by go_simp); have k3 : wq.cell? ⟨wr.heap.size, 1, none⟩ = some (.int .u16 yo) := hC.keep (by go_simp); have k4 : wq.cell? ⟨wr.heap.size, 2, none⟩ = some (.int .i64 t) := hC.keep (by go_simp); have k5 : wq.cell? ⟨w3.heap.size, 0, none⟩ = some (.int .u16 yo) := hC.keep (by go_simp); have k6 : wq.cell? ⟨w3.heap.size, 1, none⟩ = some (.int .i64 yl) := hC.keep (by go_simp); go_simp; first | done | rfl | exact ⟨rfl, rfl⟩
        simp only [Act.put, List.setIfInBounds_toArray, List.set_cons_zero, List.set_cons_succ]
        apply quiet_do
        · rfl
        · intro wq hC; have k0 : wq.cell? ⟨w.heap.size, 0, none⟩ = some (.int .u16 0) := hC.keep (by go_simp); have k1 : wq.cell? ⟨w.heap.size, 1, none⟩ = some (.int .i64 b) := hC.keep (by go_simp); have k2 : wq.cell? ⟨wr.heap.size, 0, none⟩ = some (.int .u8 q) := hC.keep (by go_simp); have k3 : wq.cell? ⟨wr.heap.size, 1, none⟩ = some (.int .u16 yo) := hC.keep (by go_simp); have k4 : wq.cell? ⟨wr.heap.size, 2, none⟩ = some (.int .i64 t) := hC.keep (by go_simp); have k5 : wq.cell? ⟨w3.heap.size, 0, none⟩ = some (.int .u16 yo) := hC.keep (by go_simp); have k6 : wq.cell? ⟨w3.heap.size, 1, none⟩ = some (.int .i64 yl) := hC.keep (by go_simp); go_simp; first | done | rfl | exact ⟨rfl, rfl⟩
        simp only [Act.put, List.setIfInBounds_toArray, List.set_cons_zero, List.set_cons_succ]
        apply quiet_do
        · rfl
        · intro wq hC; have k0 : wq.cell? ⟨w.heap.size, 0, none⟩ = some (.int .u16 0) := hC.keep (by go_simp); have k1 : wq.cell? ⟨w.heap.size, 1, none⟩ = some (.int .i64 b) := hC.keep (by go_simp); have k2 : wq.cell? ⟨wr.heap.size, 0, none⟩ = some (.int .u8 q) := hC.keep (by go_simp); have k3 : wq.cell? ⟨wr.heap.size, 1, none⟩ = some (.int .u16 yo) := hC.keep (by go_simp); have k4 : wq.cell? ⟨wr.heap.size, 2, none⟩ = some (.int .i64 t) := hC.keep (by go_simp); have k5 : wq.cell? ⟨w3.heap.size, 0, none⟩ = some (.int .u16 yo) := hC.keep (by go_simp); have k6 : wq.cell? ⟨w3.heap.size, 1, none⟩ = some (.int .i64 yl) := hC.keep (by go_simp); go_simp; first | done | rfl | exact ⟨rfl, rfl⟩
        simp only [Act.put, List.setIfInBounds_toArray, List.set_cons_zero, List.set_cons_succ]
        apply quiet_do
        · rfl
        · intro wq hC; have k0 : wq.cell? ⟨w.heap.size, 0, none⟩ = some (.int .u16 0) := hC.keep (by go_simp); have k1 : wq.cell? ⟨w.heap.size, 1, none⟩ = some (.int .i64 b) := hC.keep (by go_simp); have k2 : wq.cell? ⟨wr.heap.size, 0, none⟩ = some (.int .u8 q) := hC.keep (by go_simp); have k3 : wq.cell? ⟨wr.heap.size, 1, none⟩ = some (.int .u16 yo) := hC.keep (by go_simp); have k4 : wq.cell? ⟨wr.heap.size, 2, none⟩ = some (.int .i64 t) := hC.keep (by go_simp); have k5 : wq.cell? ⟨w3.heap.size, 0, none⟩ = some (.int .u16 yo) := hC.keep (by go_simp); have k6 : wq.cell? ⟨w3.heap.size, 1, none⟩ = some (.int .i64 yl) := hC.keep (by go_simp); go_simp; first | done | rfl | exact ⟨rfl, rfl⟩
        simp only [Act.put, List.setIfInBounds_toArray, List.set_cons_zero, List.set_cons_succ]
        apply quiet_do
        · rfl
        · intro wq hC; have k0 : wq.cell? ⟨w.heap.size, 0, none⟩ = some (.int .u16 0) := hC.keep (by go_simp); have k1 : wq.cell? ⟨w.heap.size, 1, none⟩ = some (.int .i64 b) := hC.keep (by go_simp); have k2 : wq.cell? ⟨wr.heap.size, 0, none⟩ = some (.int .u8 q) := hC.keep (by go_simp); have k3 : wq.cell? ⟨wr.heap.size, 1, none⟩ = some (.int .u16 yo) := hC.keep (by go_simp); have k4 : wq.cell? ⟨wr.heap.size, 2, none⟩ = some (.int .i64 t) := hC.keep (by go_simp); have k5 : wq.cell? ⟨w3.heap.size, 0, none⟩ = some (.int .u16 yo) := hC.keep (by go_simp); have k6 : wq.cell? ⟨w3.heap.size, 1, none⟩ = some (.int .i64 yl) := hC.keep (by go_simp); go_simp; first | done | rfl | exact ⟨rfl, rfl⟩
        simp only [Act.put, List.setIfInBounds_toArray, List.set_cons_zero, List.set_cons_succ]
        apply quiet_do
        · rfl
        · intro wq hC; have k0 : wq.cell? ⟨w.heap.size, 0, none⟩ = some (.int .u16 0) := hC.keep (by go_simp); have k1 : wq.cell? ⟨w.heap.size, 1, none⟩ = some (.int .i64 b) := hC.keep (by go_simp); have k2 : wq.cell? ⟨wr.heap.size, 0, none⟩ = some (.int .u8 q) := hC.keep (by go_simp); have k3 : wq.cell? ⟨wr.heap.size, 1, none⟩ = some (.int .u16 yo) := hC.keep (by go_simp); have k4 : wq.cell? ⟨wr.heap.size, 2, none⟩ = some (.int .i64 t) := hC.keep (by go_simp); have k5 : wq.cell? ⟨w3.heap.size, 0, none⟩ = some (.int .u16 yo) := hC.keep (by go_simp); have k6 : wq.cell? ⟨w3.heap.size, 1, none⟩ = some (.int .i64 yl) := hC.keep (by go_simp); go_simp; refine (free_at HF.out _).mono ?_; rintro eq wq2 ⟨rfl, hbq⟩; exact ⟨rfl, hC.step hbq⟩
        simp only [Act.put, List.setIfInBounds_toArray, List.set_cons_zero, List.set_cons_succ]
        apply quiet_do
        · rfl
        · intro wq hC; have k0 : wq.cell? ⟨w.heap.size, 0, none⟩ = some (.int .u16 0) := hC.keep (by go_simp); have k1 : wq.cell? ⟨w.heap.size, 1, none⟩ = some (.int .i64 b) := hC.keep (by go_simp); have k2 : wq.cell? ⟨wr.heap.size, 0, none⟩ = some (.int .u8 q) := hC.keep (by go_simp); have k3 : wq.cell? ⟨wr.heap.size, 1, none⟩ = some (.int .u16 yo) := hC.keep (by go_simp); have k4 : wq.cell? ⟨wr.heap.size, 2, none⟩ = some (.int .i64 t) := hC.keep (by go_simp); have k5 : wq.cell? ⟨w3.heap.size, 0, none⟩ = some (.int .u16 yo) := hC.keep (by go_simp); have k6 : wq.cell? ⟨w3.heap.size, 1, none⟩ = some (.int .i64 yl) := hC.keep (by go_simp); go_simp; first | done | rfl | exact ⟨rfl, rfl⟩
        simp only [Act.put, List.setIfInBounds_toArray, List.set_cons_zero, List.set_cons_succ]
        apply quiet_do
        · rfl
        · intro wq hC; have k0 : wq.cell? ⟨w.heap.size, 0, none⟩ = some (.int .u16 0) := hC.keep (by go_simp); have k1 : wq.cell? ⟨w.heap.size, 1, none⟩ = some (.int .i64 b) := hC.keep (by go_simp); have k2 : wq.cell? ⟨wr.heap.size, 0, none⟩ = some (.int .u8 q) := hC.keep (by go_simp); have k3 : wq.cell? ⟨wr.heap.size, 1, none⟩ = some (.int .u16 yo) := hC.keep (by go_simp); have k4 : wq.cell? ⟨wr.heap.size, 2, none⟩ = some (.int .i64 t) := hC.keep (by go_simp); have k5 : wq.cell? ⟨w3.heap.size, 0, none⟩ = some (.int .u16 yo) := hC.keep (by go_simp); have k6 : wq.cell? ⟨w3.heap.size, 1, none⟩ = some (.int .i64 yl) := hC.keep (by go_simp); go_simp; first | done | rfl | exact ⟨rfl, rfl⟩
        simp only [Act.put, List.setIfInBounds_toArray, List.set_cons_zero, List.set_cons_succ]
        intro w4 hb4
        have hb4 : Below _ _ _ := hb4
        have yw4 : w.heap.size ≤ w4.heap.size := by (have := hb4.size; (try simp at this); omega)
        have c4_0 : w4.cell? ⟨w.heap.size, 0, none⟩ = some (.int .u16 0) := keep hb4 (by go_simp)
        have f4_0 : w4.frozen? ⟨w.heap.size, 0, none⟩ = false := keepF hb4 (.int .u16 0) (by go_simp) (by go_simp)
        have zw4_0 := cell_lt c4_0
        have c4_1 : w4.cell? ⟨w.heap.size, 1, none⟩ = some (.int .i64 b) := keep hb4 (by go_simp)
        have f4_1 : w4.frozen? ⟨w.heap.size, 1, none⟩ = false := keepF hb4 (.int .i64 b) (by go_simp) (by go_simp)
        have c4_2 : w4.cell? ⟨wr.heap.size, 0, none⟩ = some (.int .u8 q) := keep hb4 (by go_simp)
        have f4_2 : w4.frozen? ⟨wr.heap.size, 0, none⟩ = false := keepF hb4 (.int .u8 q) (by go_simp) (by go_simp)
        have zw4_2 := cell_lt c4_2
        have c4_3 : w4.cell? ⟨wr.heap.size, 1, none⟩ = some (.int .u16 yo) := keep hb4 (by go_simp)
        have f4_3 : w4.frozen? ⟨wr.heap.size, 1, none⟩ = false := keepF hb4 (.int .u16 yo) (by go_simp) (by go_simp)
        have c4_4 : w4.cell? ⟨wr.heap.size, 2, none⟩ = some (.int .i64 t) := keep hb4 (by go_simp)
        have f4_4 : w4.frozen? ⟨wr.heap.size, 2, none⟩ = false := keepF hb4 (.int .i64 t) (by go_simp) (by go_simp)
        have c4_5 : w4.cell? ⟨w3.heap.size, 0, none⟩ = some (.int .u16 yo) := keep hb4 (by go_simp)
        have f4_5 : w4.frozen? ⟨w3.heap.size, 0, none⟩ = false := keepF hb4 (.int .u16 yo) (by go_simp) (by go_simp)
        have zw4_5 := cell_lt c4_5
        have c4_6 : w4.cell? ⟨w3.heap.size, 1, none⟩ = some (.int .i64 yl) := keep hb4 (by go_simp)
        have f4_6 : w4.frozen? ⟨w3.heap.size, 1, none⟩ = false := keepF hb4 (.int .i64 yl) (by go_simp) (by go_simp)
        clear c3_0 f3_0 c3_1 f3_1 c3_2 f3_2 c3_3 f3_3 c3_4 f3_4
        go_wp2_with fail
        go_roundw
        case rel => exact ⟨k + 1, by omega, by go_num, yo, yl, HYR, by omega, by omega, by go_simp, by go_simp, by go_simp, by go_simp, (by first | omega | (simp; done) | (simp; omega)), (by repeat (first | assumption | exact Below.refl _ _ | refine balloc ?_ _ | refine bset ?_ (by first | (simp; done) | (simp; omega)) _ | refine bdrew ?_ | refine bstep ?_ (by assumption)))⟩
        case measure => (try simp [intOf]); omega
      · subst he
        subst h2
        subst h4
        have b1 : (x == 0) = false := by simpa using h1
        have b2 : (x != 0) = true := by simpa using h1
        have b4 : (q % 5 == 2) = true := by simp; omega
        go_wp2_with fail
        with_reducible refine (does_at HY.out _ hq0 (by omega) (by omega)).mono ?_
        rintro e3 w3 ⟨rfl, hb3⟩
        have yw3 : w.heap.size ≤ w3.heap.size := by (have := hb3.size; (try simp at this); omega)
        have c3_0 : w3.cell? ⟨w.heap.size, 0, none⟩ = some (.int .u16 x) := keep hb3 (by go_simp)
        have f3_0 : w3.frozen? ⟨w.heap.size, 0, none⟩ = false := keepF hb3 (.int .u16 x) (by go_simp) (by go_simp)
        have zw3_0 := cell_lt c3_0
        have c3_1 : w3.cell? ⟨w.heap.size, 1, none⟩ = some (.int .i64 b) := keep hb3 (by go_simp)
        have f3_1 : w3.frozen? ⟨w.heap.size, 1, none⟩ = false := keepF hb3 (.int .i64 b) (by go_simp) (by go_simp)
        have c3_2 : w3.cell? ⟨wr.heap.size, 0, none⟩ = some (.int .u8 q) := keep hb3 (by go_simp)
        have f3_2 : w3.frozen? ⟨wr.heap.size, 0, none⟩ = false := keepF hb3 (.int .u8 q) (by go_simp) (by go_simp)
        have zw3_2 := cell_lt c3_2
        have c3_3 : w3.cell? ⟨wr.heap.size, 1, none⟩ = some (.int .u16 x) := keep hb3 (by go_simp)
        have f3_3 : w3.frozen? ⟨wr.heap.size, 1, none⟩ = false := keepF hb3 (.int .u16 x) (by go_simp) (by go_simp)
        have c3_4 : w3.cell? ⟨wr.heap.size, 2, none⟩ = some (.int .i64 t) := keep hb3 (by go_simp)
        have f3_4 : w3.frozen? ⟨wr.heap.size, 2, none⟩ = false := keepF hb3 (.int .i64 t) (by go_simp) (by go_simp)
        go_wp2_with fail
        refine wp_region_below (by kernel_rfl) (by kernel_rfl) ?_
        apply quiet_do
        · rfl
        · intro wq hC; have k0 : wq.cell? ⟨w.heap.size, 0, none⟩ = some (.int .u16 x) := hC.keep (by go_simp); have k1 : wq.cell? ⟨w.heap.size, 1, none⟩ = some (.int .i64 b) := hC.keep (by go_simp); have k2 : wq.cell? ⟨wr.heap.size, 0, none⟩ = some (.int .u8 q) := hC.keep (by go_simp); have k3 : wq.cell? ⟨wr.heap.size, 1, none⟩ = some (.int .u16 x) := hC.keep (by go_simp); have k4 : wq.cell? ⟨wr.heap.size, 2, none⟩ = some (.int .i64 t) := hC.keep (by go_simp); have k5 : wq.cell? ⟨w3.heap.size, 0, none⟩ = some (.int .u16 0) := hC.keep (by go_simp); have k6 : wq.cell? ⟨w3.heap.size, 1, none⟩ = some (.int .i64 yl) := hC.keep (by go_simp); go_simp; first | done | rfl | exact ⟨rfl, rfl⟩
        simp only [Act.put, List.setIfInBounds_toArray, List.set_cons_zero, List.set_cons_succ]
        apply quiet_do
        · rfl
        · intro wq hC; have k0 : wq.cell? ⟨w.heap.size, 0, none⟩ = some (.int .u16 x) := hC.keep (by go_simp); have k1 : wq.cell? ⟨w.heap.size, 1, none⟩ = some (.int .i64 b) := hC.keep (by go_simp); have k2 : wq.cell? ⟨wr.heap.size, 0, none⟩ = some (.int .u8 q) := hC.keep (by go_simp); have k3 : wq.cell? ⟨wr.heap.size, 1, none⟩ = some (.int .u16 x) := hC.keep (by go_simp); have k4 : wq.cell? ⟨wr.heap.size, 2, none⟩ = some (.int .i64 t) := hC.keep (by go_simp); have k5 : wq.cell? ⟨w3.heap.size, 0, none⟩ = some (.int .u16 0) := hC.keep (by go_simp); have k6 : wq.cell? ⟨w3.heap.size, 1, none⟩ = some (.int .i64 yl) := hC.keep (by go_simp); go_simp; refine (right_at HYR.out _).mono ?_; rintro eq wq2 ⟨rfl, hbq⟩; exact ⟨rfl, hC.step hbq⟩
        simp only [Act.put, List.setIfInBounds_toArray, List.set_cons_zero, List.set_cons_succ]
        apply quiet_do
        · rfl
        · intro wq hC; have k0 : wq.cell? ⟨w.heap.size, 0, none⟩ = some (.int .u16 x) := hC.keep (by go_simp); have k1 : wq.cell? ⟨w.heap.size, 1, none⟩ = some (.int .i64 b) := hC.keep (by go_simp); have k2 : wq.cell? ⟨wr.heap.size, 0, none⟩ = some (.int .u8 q) := hC.keep (by go_simp); have k3 : wq.cell? ⟨wr.heap.size, 1, none⟩ = some (.int .u16 x) := hC.keep (by go_simp); have k4 : wq.cell? ⟨wr.heap.size, 2, none⟩ = some (.int .i64 t) := hC.keep (by go_simp); have k5 : wq.cell? ⟨w3.heap.size, 0, none⟩ = some (.int .u16 0) := hC.keep (by go_simp); have k6 : wq.cell? ⟨w3.heap.size, 1, none⟩ = some (.int .i64 yl) := hC.keep (by go_simp); go_simp; first | done | rfl | exact ⟨rfl, rfl⟩
        simp only [Act.put, List.setIfInBounds_toArray, List.set_cons_zero, List.set_cons_succ]
        apply quiet_do
        · rfl
        · intro wq hC; have k0 : wq.cell? ⟨w.heap.size, 0, none⟩ = some (.int .u16 x) := hC.keep (by go_simp); have k1 : wq.cell? ⟨w.heap.size, 1, none⟩ = some (.int .i64 b) := hC.keep (by go_simp); have k2 : wq.cell? ⟨wr.heap.size, 0, none⟩ = some (.int .u8 q) := hC.keep (by go_simp); have k3 : wq.cell? ⟨wr.heap.size, 1, none⟩ = some (.int .u16 x) := hC.keep (by go_simp); have k4 : wq.cell? ⟨wr.heap.size, 2, none⟩ = some (.int .i64 t) := hC.keep (by go_simp); have k5 : wq.cell? ⟨w3.heap.size, 0, none⟩ = some (.int .u16 0) := hC.keep (by go_simp); have k6 : wq.cell? ⟨w3.heap.size, 1, none⟩ = some (.int .i64 yl) := hC.keep (by go_simp); go_simp; first | done | rfl | exact ⟨rfl, rfl⟩
        simp only [Act.put, List.setIfInBounds_toArray, List.set_cons_zero, List.set_cons_succ]
        apply quiet_do
        · rfl
        · intro wq hC; have k0 : wq.cell? ⟨w.heap.size, 0, none⟩ = some (.int .u16 x) := hC.keep (by go_simp); have k1 : wq.cell? ⟨w.heap.size, 1, none⟩ = some (.int .i64 b) := hC.keep (by go_simp); have k2 : wq.cell? ⟨wr.heap.size, 0, none⟩ = some (.int .u8 q) := hC.keep (by go_simp); have k3 : wq.cell? ⟨wr.heap.size, 1, none⟩ = some (.int .u16 x) := hC.keep (by go_simp); have k4 : wq.cell? ⟨wr.heap.size, 2, none⟩ = some (.int .i64 t) := hC.keep (by go_simp); have k5 : wq.cell? ⟨w3.heap.size, 0, none⟩ = some (.int .u16 0) := hC.keep (by go_simp); have k6 : wq.cell? ⟨w3.heap.size, 1, none⟩ = some (.int .i64 yl) := hC.keep (by go_simp); go_simp; first | done | rfl | exact ⟨rfl, rfl⟩
        simp only [Act.put, List.setIfInBounds_toArray, List.set_cons_zero, List.set_cons_succ]
        apply quiet_do
        · rfl
        · intro wq hC; have k0 : wq.cell? ⟨w.heap.size, 0, none⟩ = some (.int .u16 x) := hC.keep (by go_simp); have k1 : wq.cell? ⟨w.heap.size, 1, none⟩ = some (.int .i64 b) := hC.keep (by go_simp); have k2 : wq.cell? ⟨wr.heap.size, 0, none⟩ = some (.int .u8 q) := hC.keep (by go_simp); have k3 : wq.cell? ⟨wr.heap.size, 1, none⟩ = some (.int .u16 x) := hC.keep (by go_simp); have k4 : wq.cell? ⟨wr.heap.size, 2, none⟩ = some (.int .i64 t) := hC.keep (by go_simp); have k5 : wq.cell? ⟨w3.heap.size, 0, none⟩ = some (.int .u16 0) := hC.keep (by go_simp); have k6 : wq.cell? ⟨w3.heap.size, 1, none⟩ = some (.int .i64 yl) := hC.keep (by go_simp); go_simp; first | done | rfl | exact ⟨rfl, rfl⟩
        simp only [Act.put, List.setIfInBounds_toArray, List.set_cons_zero, List.set_cons_succ]
        apply quiet_do
        · rfl
        · intro wq hC; have k0 : wq.cell? ⟨w.heap.size, 0, none⟩ = some (.int .u16 x) := hC.keep (by go_simp); have k1 : wq.cell? ⟨w.heap.size, 1, none⟩ = some (.int .i64 b) := hC.keep (by go_simp); have k2 : wq.cell? ⟨wr.heap.size, 0, none⟩ = some (.int .u8 q) := hC.keep (by go_simp); have k3 : wq.cell? ⟨wr.heap.size, 1, none⟩ = some (.int .u16 x) := hC.keep (by go_simp); have k4 : wq.cell? ⟨wr.heap.size, 2, none⟩ = some (.int .i64 t) := hC.keep (by go_simp); have k5 : wq.cell? ⟨w3.heap.size, 0, none⟩ = some (.int .u16 0) := hC.keep (by go_simp); have k6 : wq.cell? ⟨w3.heap.size, 1, none⟩ = some (.int .i64 yl) := hC.keep (by go_simp); go_simp; first | done | rfl | exact ⟨rfl, rfl⟩
        simp only [Act.put, List.setIfInBounds_toArray, List.set_cons_zero, List.set_cons_succ]
        refine quiet_not (by rfl) ?_
        simp only [Act.put, List.setIfInBounds_toArray, List.set_cons_zero, List.set_cons_succ]
        refine quiet_not (by rfl) ?_
        simp only [Act.put, List.setIfInBounds_toArray, List.set_cons_zero, List.set_cons_succ]
        refine quiet_not (by rfl) ?_
        simp only [Act.put, List.setIfInBounds_toArray, List.set_cons_zero, List.set_cons_succ]
        apply quiet_do
        · rfl
        · intro wq hC; have k0 : wq.cell? ⟨w.heap.size, 0, none⟩ = some (.int .u16 x) := hC.keep (by go_simp); have k1 : wq.cell? ⟨w.heap.size, 1, none⟩ = some (.int .i64 b) := hC.keep (by go_simp); have k2 : wq.cell? ⟨wr.heap.size, 0, none⟩ = some (.int .u8 q) := hC.keep (by go_simp); have k3 : wq.cell? ⟨wr.heap.size, 1, none⟩ = some (.int .u16 x) := hC.keep (by go_simp); have k4 : wq.cell? ⟨wr.heap.size, 2, none⟩ = some (.int .i64 t) := hC.keep (by go_simp); have k5 : wq.cell? ⟨w3.heap.size, 0, none⟩ = some (.int .u16 0) := hC.keep (by go_simp); have k6 : wq.cell? ⟨w3.heap.size, 1, none⟩ = some (.int .i64 yl) := hC.keep (by go_simp); go_simp; first | done | rfl | exact ⟨rfl, rfl⟩
        simp only [Act.put, List.setIfInBounds_toArray, List.set_cons_zero, List.set_cons_succ]
        apply quiet_do
        · rfl
        · intro wq hC; have k0 : wq.cell? ⟨w.heap.size, 0, none⟩ = some (.int .u16 x) := hC.keep (by go_simp); have k1 : wq.cell? ⟨w.heap.size, 1, none⟩ = some (.int .i64 b) := hC.keep (by go_simp); have k2 : wq.cell? ⟨wr.heap.size, 0, none⟩ = some (.int .u8 q) := hC.keep (by go_simp); have k3 : wq.cell? ⟨wr.heap.size, 1, none⟩ = some (.int .u16 x) := hC.keep (by go_simp); have k4 : wq.cell? ⟨wr.heap.size, 2, none⟩ = some (.int .i64 t) := hC.keep (by go_simp); have k5 : wq.cell? ⟨w3.heap.size, 0, none⟩ = some (.int .u16 0) := hC.keep (by go_simp); have k6 : wq.cell? ⟨w3.heap.size, 1, none⟩ = some (.int .i64 yl) := hC.keep (by go_simp); go_simp; first | done | rfl | exact ⟨rfl, rfl⟩
        simp only [Act.put, List.setIfInBounds_toArray, List.set_cons_zero, List.set_cons_succ]
        apply quiet_do
        · rfl
        · intro wq hC; have k0 : wq.cell? ⟨w.heap.size, 0, none⟩ = some (.int .u16 x) := hC.keep (by go_simp); have k1 : wq.cell? ⟨w.heap.size, 1, none⟩ = some (.int .i64 b) := hC.keep (by go_simp); have k2 : wq.cell? ⟨wr.heap.size, 0, none⟩ = some (.int .u8 q) := hC.keep (by go_simp); have k3 : wq.cell? ⟨wr.heap.size, 1, none⟩ = some (.int .u16 x) := hC.keep (by go_simp); have k4 : wq.cell? ⟨wr.heap.size, 2, none⟩ = some (.int .i64 t) := hC.keep (by go_simp); have k5 : wq.cell? ⟨w3.heap.size, 0, none⟩ = some (.int .u16 0) := hC.keep (by go_simp); have k6 : wq.cell? ⟨w3.heap.size, 1, none⟩ = some (.int .i64 yl) := hC.keep (by go_simp); go_simp; first | done | rfl | exact ⟨rfl, rfl⟩
        simp only [Act.put, List.setIfInBounds_toArray, List.set_cons_zero, List.set_cons_succ]
        apply quiet_do
        · rfl
        · intro wq hC; have k0 : wq.cell? ⟨w.heap.size, 0, none⟩ = some (.int .u16 x) := hC.keep (by go_simp); have k1 : wq.cell? ⟨w.heap.size, 1, none⟩ = some (.int .i64 b) := hC.keep (by go_simp); have k2 : wq.cell? ⟨wr.heap.size, 0, none⟩ = some (.int .u8 q) := hC.keep (by go_simp); have k3 : wq.cell? ⟨wr.heap.size, 1, none⟩ = some (.int .u16 x) := hC.keep (by go_simp); have k4 : wq.cell? ⟨wr.heap.size, 2, none⟩ = some (.int .i64 t) := hC.keep (by go_simp); have k5 : wq.cell? ⟨w3.heap.size, 0, none⟩ = some (.int .u16 0) := hC.keep (by go_simp); have k6 : wq.cell? ⟨w3.heap.size, 1, none⟩ = some (.int .i64 yl) := hC.keep (by go_simp); go_simp; first | done | rfl | exact ⟨rfl, rfl⟩
        simp only [Act.put, List.setIfInBounds_toArray, List.set_cons_zero, List.set_cons_succ]
        apply quiet_do
        · rfl
        · intro wq hC; have k0 : wq.cell? ⟨w.heap.size, 0, none⟩ = some (.int .u16 x) := hC.keep (by go_simp); have k1 : wq.cell? ⟨w.heap.size, 1, none⟩ = some (.int .i64 b) := hC.keep (by go_simp); have k2 : wq.cell? ⟨wr.heap.size, 0, none⟩ = some (.int .u8 q) := hC.keep (by go_simp); have k3 : wq.cell? ⟨wr.heap.size, 1, none⟩ = some (.int .u16 x) := hC.keep (by go_simp); have k4 : wq.cell? ⟨wr.heap.size, 2, none⟩ = some (.int .i64 t) := hC.keep (by go_simp); have k5 : wq.cell? ⟨w3.heap.size, 0, none⟩ = some (.int .u16 0) := hC.keep (by go_simp); have k6 : wq.cell? ⟨w3.heap.size, 1, none⟩ = some (.int .i64 yl) := hC.keep (by go_simp); go_simp; first | done | rfl | exact ⟨rfl, rfl⟩
        simp only [Act.put, List.setIfInBounds_toArray, List.set_cons_zero, List.set_cons_succ]
        apply quiet_do
        · rfl
        · intro wq hC; have k0 : wq.cell? ⟨w.heap.size, 0, none⟩ = some (.int .u16 x) := hC.keep (by go_simp); have k1 : wq.cell? ⟨w.heap.size, 1, none⟩ = some (.int .i64 b) := hC.keep (by go_simp); have k2 : wq.cell? ⟨wr.heap.size, 0, none⟩ = some (.int .u8 q) := hC.keep (by go_simp); have k3 : wq.cell? ⟨wr.heap.size, 1, none⟩ = some (.int .u16 x) := hC.keep (by go_simp); have k4 : wq.cell? ⟨wr.heap.size, 2, none⟩ = some (.int .i64 t) := hC.keep (by go_simp); have k5 : wq.cell? ⟨w3.heap.size, 0, none⟩ = some (.int .u16 0) := hC.keep (by go_simp); have k6 : wq.cell? ⟨w3.heap.size, 1, none⟩ = some (.int .i64 yl) := hC.keep (by go_simp); go_simp; first | done | rfl | exact ⟨rfl, rfl⟩
        simp only [Act.put, List.setIfInBounds_toArray, List.set_cons_zero, List.set_cons_succ]
        apply quiet_do
        · rfl
        · intro wq hC; have k0 : wq.cell? ⟨w.heap.size, 0, none⟩ = some (.int .u16 x) := hC.keep (by go_simp); have k1 : wq.cell? ⟨w.heap.size, 1, none⟩ = some (.int .i64 b) := hC.keep (by go_simp); have k2 : wq.cell? ⟨wr.heap.size, 0, none⟩ = some (.int .u8 q) := hC.keep (by go_simp); have k3 : wq.cell? ⟨wr.heap.size, 1, none⟩ = some (.int .u16 x) := hC.keep (by go_simp); have k4 : wq.cell? ⟨wr.heap.size, 2, none⟩ = some (.int .i64 t) := hC.keep (by go_simp); have k5 : wq.cell? ⟨w3.heap.size, 0, none⟩ = some (.int .u16 0) := hC.keep (by go_simp); have k6 : wq.cell? ⟨w3.heap.size, 1, none⟩ = some (.int .i64 yl) := hC.keep (by go_simp); go_simp; first | done | rfl | exact ⟨rfl, rfl⟩
        simp only [Act.put, List.setIfInBounds_toArray, List.set_cons_zero, List.set_cons_succ]
        apply quiet_do
        · rfl
        · intro wq hC; have k0 : wq.cell? ⟨w.heap.size, 0, none⟩ = some (.int .u16 x) := hC.keep (by go_simp); have k1 : wq.cell? ⟨w.heap.size, 1, none⟩ = some (.int .i64 b) := hC.keep (by go_simp); have k2 : wq.cell? ⟨wr.heap.size, 0, none⟩ = some (.int .u8 q) := hC.keep (by go_simp); have k3 : wq.cell? ⟨wr.heap.size, 1, none⟩ = some (.int .u16 x) := hC.keep (by go_simp); have k4 : wq.cell? ⟨wr.heap.size, 2, none⟩ = some (.int .i64 t) := hC.keep (by go_simp); have k5 : wq.cell? ⟨w3.heap.size, 0, none⟩ = some (.int .u16 0) := hC.keep (by go_simp); have k6 : wq.cell? ⟨w3.heap.size, 1, none⟩ = some (.int .i64 yl) := hC.keep (by go_simp); go_simp; first | done | rfl | exact ⟨rfl, rfl⟩
        simp only [Act.put, List.setIfInBounds_toArray, List.set_cons_zero, List.set_cons_succ]
        apply quiet_do
        · rfl
        · intro wq hC; have k0 : wq.cell? ⟨w.heap.size, 0, none⟩ = some (.int .u16 x) := hC.keep (by go_simp); have k1 : wq.cell? ⟨w.heap.size, 1, none⟩ = some (.int .i64 b) := hC.keep (by go_simp); have k2 : wq.cell? ⟨wr.heap.size, 0, none⟩ = some (.int .u8 q) := hC.keep (by go_simp); have k3 : wq.cell? ⟨wr.heap.size, 1, none⟩ = some (.int .u16 x) := hC.keep (by go_simp); have k4 : wq.cell? ⟨wr.heap.size, 2, none⟩ = some (.int .i64 t) := hC.keep (by go_simp); have k5 : wq.cell? ⟨w3.heap.size, 0, none⟩ = some (.int .u16 0) := hC.keep (by go_simp); have k6 : wq.cell? ⟨w3.heap.size, 1, none⟩ = some (.int .i64 yl) := hC.keep (by go_simp); go_simp; first | done | rfl | exact ⟨rfl, rfl⟩
        simp only [Act.put, List.setIfInBounds_toArray, List.set_cons_zero, List.set_cons_succ]
        apply quiet_do
        · rfl
        · intro wq hC; have k0 : wq.cell? ⟨w.heap.size, 0, none⟩ = some (.int .u16 x) := hC.keep (by go_simp); have k1 : wq.cell? ⟨w.heap.size, 1, none⟩ = some (.int .i64 b) := hC.keep (by go_simp); have k2 : wq.cell? ⟨wr.heap.size, 0, none⟩ = some (.int .u8 q) := hC.keep (by go_simp); have k3 : wq.cell? ⟨wr.heap.size, 1, none⟩ = some (.int .u16 x) := hC.keep (by go_simp); have k4 : wq.cell? ⟨wr.heap.size, 2, none⟩ = some (.int .i64 t) := hC.keep (by go_simp); have k5 : wq.cell? ⟨w3.heap.size, 0, none⟩ = some (.int .u16 0) := hC.keep (by go_simp); have k6 : wq.cell? ⟨w3.heap.size, 1, none⟩ = some (.int .i64 yl) := hC.keep (by go_simp); go_simp; first | done | rfl | exact ⟨rfl, rfl⟩
        simp only [Act.put, List.setIfInBounds_toArray, List.set_cons_zero, List.set_cons_succ]
        apply quiet_do
        · rfl
        · intro wq hC; have k0 : wq.cell? ⟨w.heap.size, 0, none⟩ = some (.int .u16 x) := hC.keep (by go_simp); have k1 : wq.cell? ⟨w.heap.size, 1, none⟩ = some (.int .i64 b) := hC.keep (by go_simp); have k2 : wq.cell? ⟨wr.heap.size, 0, none⟩ = some (.int .u8 q) := hC.keep (by go_simp); have k3 : wq.cell? ⟨wr.heap.size, 1, none⟩ = some (.int .u16 x) := hC.keep (by go_simp); have k4 : wq.cell? ⟨wr.heap.size, 2, none⟩ = some (.int .i64 t) := hC.keep (by go_simp); have k5 : wq.cell? ⟨w3.heap.size, 0, none⟩ = some (.int .u16 0) := hC.keep (by go_simp); have k6 : wq.cell? ⟨w3.heap.size, 1, none⟩ = some (.int .i64 yl) := hC.keep (by go_simp); go_simp; first | done | rfl | exact ⟨rfl, rfl⟩
        simp only [Act.put, List.setIfInBounds_toArray, List.set_cons_zero, List.set_cons_succ]
        apply quiet_do
        · rfl
        · intro wq hC; have k0 : wq.cell? ⟨w.heap.size, 0, none⟩ = some (.int .u16 x) := hC.keep (by go_simp); have k1 : wq.cell? ⟨w.heap.size, 1, none⟩ = some (.int .i64 b) := hC.keep (by go_simp); have k2 : wq.cell? ⟨wr.heap.size, 0, none⟩ = some (.int .u8 q) := hC.keep (by go_simp); have k3 : wq.cell? ⟨wr.heap.size, 1, none⟩ = some (.int .u16 x) := hC.keep (by go_simp); have k4 : wq.cell? ⟨wr.heap.size, 2, none⟩ = some (.int .i64 t) := hC.keep (by go_simp); have k5 : wq.cell? ⟨w3.heap.size, 0, none⟩ = some (.int .u16 0) := hC.keep (by go_simp); have k6 : wq.cell? ⟨w3.heap.size, 1, none⟩ = some (.int .i64 yl) := hC.keep (by go_simp); go_simp; first | done | rfl | exact ⟨rfl, rfl⟩
        simp only [Act.put, List.setIfInBounds_toArray, List.set_cons_zero, List.set_cons_succ]
        refine quiet_not (by rfl) ?_
        simp only [Act.put, List.setIfInBounds_toArray, List.set_cons_zero, List.set_cons_succ]
        refine quiet_not (by rfl) ?_
        simp only [Act.put, List.setIfInBounds_toArray, List.set_cons_zero, List.set_cons_succ]
        refine quiet_not (by rfl) ?_
        simp only [Act.put, List.setIfInBounds_toArray, List.set_cons_zero, List.set_cons_succ]
        refine quiet_not (by rfl) ?_
        simp only [Act.put, List.setIfInBounds_toArray, List.set_cons_zero, List.set_cons_succ]
        refine quiet_not (by rfl) ?_
        simp only [Act.put, List.setIfInBounds_toArray, List.set_cons_zero, List.set_cons_succ]
        apply quiet_do
        · rfl
        · intro wq hC; have k0 : wq.cell? ⟨w.heap.size, 0, none⟩ = some (.int .u16 x) := hC.keep (by go_simp); have k1 : wq.cell? ⟨w.heap.size, 1, none⟩ = some (.int .i64 b) := hC.keep (by go_simp); have k2 : wq.cell? ⟨wr.heap.size, 0, none⟩ = some (.int .u8 q) := hC.keep (by go_simp); have k3 : wq.cell? ⟨wr.heap.size, 1, none⟩ = some (.int .u16 x) := hC.keep (by go_simp); have k4 : wq.cell? ⟨wr.heap.size, 2, none⟩ = some (.int .i64 t) := hC.keep (by go_simp); have k5 : wq.cell? ⟨w3.heap.size, 0, none⟩ = some (.int .u16 0) := hC.keep (by go_simp); have k6 : wq.cell? ⟨w3.heap.size, 1, none⟩ = some (.int .i64 yl) := hC.keep (by go_simp); go_simp; first | done | rfl | exact ⟨rfl, rfl⟩
        simp only [Act.put, List.setIfInBounds_toArray, List.set_cons_zero, List.set_cons_succ]
        apply quiet_do
        · rfl
        · intro wq hC; have k0 : wq.cell? ⟨w.heap.size, 0, none⟩ = some (.int .u16 x) := hC.keep (by go_simp); have k1 : wq.cell? ⟨w.heap.size, 1, none⟩ = some (.int .i64 b) := hC.keep (by go_simp); have k2 : wq.cell? ⟨wr.heap.size, 0, none⟩ = some (.int .u8 q) := hC.keep (by go_simp); have k3 : wq.cell? ⟨wr.heap.size, 1, none⟩ = some (.int .u16 x) := hC.keep (by go_simp); have k4 : wq.cell? ⟨wr.heap.size, 2, none⟩ = some (.int .i64 t) := hC.keep (by go_simp); have k5 : wq.cell? ⟨w3.heap.size, 0, none⟩ = some (.int .u16 0) := hC.keep (by go_simp); have k6 : wq.cell? ⟨w3.heap.size, 1, none⟩ = some (.int .i64 yl) := hC.keep (by go_simp); go_simp; first | done | rfl | exact ⟨rfl, rfl⟩
        simp only [Act.put, List.setIfInBounds_toArray, List.set_cons_zero, List.set_cons_succ]
        apply quiet_do
        · rfl
        · intro wq hC; have k0 : wq.cell? ⟨w.heap.size, 0, none⟩ = some (.int .u16 x) := hC.keep (by go_simp); have k1 : wq.cell? ⟨w.heap.size, 1, none⟩ = some (.int .i64 b) := hC.keep (by go_simp); have k2 : wq.cell? ⟨wr.heap.size, 0, none⟩ = some (.int .u8 q) := hC.keep (by go_simp); have k3 : wq.cell? ⟨wr.heap.size, 1, none⟩ = some (.int .u16 x) := hC.keep (by go_simp); have k4 : wq.cell? ⟨wr.heap.size, 2, none⟩ = some (.int .i64 t) := hC.keep (by go_simp); have k5 : wq.cell? ⟨w3.heap.size, 0, none⟩ = some (.int .u16 0) := hC.keep (by go_simp); have k6 : wq.cell? ⟨w3.heap.size, 1, none⟩ = some (.int .i64 yl) := hC.keep (by go_simp); go_simp; first | done | rfl | exact ⟨rfl, rfl⟩
        simp only [Act.put, List.setIfInBounds_toArray, List.set_cons_zero, List.set_cons_succ]
        apply quiet_do
        · rfl
        · intro wq hC; have k0 : wq.cell? ⟨w.heap.size, 0, none⟩ = some (.int .u16 x) := hC.keep (by go_simp); have k1 : wq.cell? ⟨w.heap.size, 1, none⟩ = some (.int .i64 b) := hC.keep (by go_simp); have k2 : wq.cell? ⟨wr.heap.size, 0, none⟩ = some (.int .u8 q) := hC.keep (by go_simp); have k3 : wq.cell? ⟨wr.heap.size, 1, none⟩ = some (.int .u16 x) := hC.keep (by go_simp); have k4 : wq.cell? ⟨wr.heap.size, 2, none⟩ = some (.int .i64 t) := hC.keep (by go_simp); have k5 : wq.cell? ⟨w3.heap.size, 0, none⟩ = some (.int .u16 0) := hC.keep (by go_simp); have k6 : wq.cell? ⟨w3.heap.size, 1, none⟩ = some (.int .i64 yl) := hC.keep (by go_simp); go_simp; first | done | rfl | exact ⟨rfl, rfl⟩
        simp only [Act.put, List.setIfInBounds_toArray, List.set_cons_zero, List.set_cons_succ]
        apply quiet_do
        · rfl
        · intro wq hC; have k0 : wq.cell? ⟨w.heap.size, 0, none⟩ = some (.int .u16 x) := hC.keep (by go_simp); have k1 : wq.cell? ⟨w.heap.size, 1, none⟩ = some (.int .i64 b) := hC.keep (by go_simp); have k2 : wq.cell? ⟨wr.heap.size, 0, none⟩ = some (.int .u8 q) := hC.keep (by go_simp); have k3 : wq.cell? ⟨wr.heap.size, 1, none⟩ = some (.int .u16 x) := hC.keep (by go_simp); have k4 : wq.cell? ⟨wr.heap.size, 2, none⟩ = some (.int .i64 t) := hC.keep (by go_simp); have k5 : wq.cell? ⟨w3.heap.size, 0, none⟩ = some (.int .u16 0) := hC.keep (by go_simp); have k6 : wq.cell? ⟨w3.heap.size, 1, none⟩ = some (.int .i64 yl) := hC.keep (by go_simp); go_simp; first | done | rfl | exact ⟨rfl, rfl⟩
        simp only [Act.put, List.setIfInBounds_toArray, List.set_cons_zero, List.set_cons_succ]
        apply quiet_do
        · rfl
        · intro wq hC; have k0 : wq.cell? ⟨w.heap.size, 0, none⟩ = some (.int .u16 x) := hC.keep (by go_simp); have k1 : wq.cell? ⟨w.heap.size, 1, none⟩ = some (.int .i64 b) := hC.keep (by go_simp); have k2 : wq.cell? ⟨wr.heap.size, 0, none⟩ = some (.int .u8 q) := hC.keep (by go_simp); have k3 : wq.cell? ⟨wr.heap.size, 1, none⟩ = some (.int .u16 x) := hC.keep (by go_simp); have k4 : wq.cell? ⟨wr.heap.size, 2, none⟩ = some (.int .i64 t) := hC.keep (by go_simp); have k5 : wq.cell? ⟨w3.heap.size, 0, none⟩ = some (.int .u16 0) := hC.keep (by go_simp); have k6 : wq.cell? ⟨w3.heap.size, 1, none⟩ = some (.int .i64 yl) := hC.keep (by go_simp); go_simp; first | done | rfl | exact ⟨rfl, rfl⟩
        simp only [Act.put, List.setIfInBounds_toArray, List.set_cons_zero, List.set_cons_succ]
        apply quiet_do
        · rfl
        · intro wq hC; have k0 : wq.cell? ⟨w.heap.size, 0, none⟩ = some (.int .u16 x) := hC.keep (by go_simp); have k1 : wq.cell? ⟨w.heap.size, 1, none⟩ = some (.int .i64 b) := hC.keep (by go_simp); have k2 : wq.cell? ⟨wr.heap.size, 0, none⟩ = some (.int .u8 q) := hC.keep (by go_simp); have k3 : wq.cell? ⟨wr.heap.size, 1, none⟩ = some (.int .u16 x) := hC.keep (by go_simp); have k4 : wq.cell? ⟨wr.heap.size, 2, none⟩ = some (.int .i64 t) := hC.keep (by go_simp); have k5 : wq.cell? ⟨w3.heap.size, 0, none⟩ = some (.int .u16 0) := hC.keep (by go_simp); have k6 : wq.cell? ⟨w3.heap.size, 1, none⟩ = some (.int .i64 yl) := hC.keep (by go_simp); go_simp; first | done | rfl | exact ⟨rfl, rfl⟩
        simp only [Act.put, List.setIfInBounds_toArray, List.set_cons_zero, List.set_cons_succ]
        apply quiet_do
        · rfl
        · intro wq hC; have k0 : wq.cell? ⟨w.heap.size, 0, none⟩ = some (.int .u16 x) := hC.keep (by go_simp); have k1 : wq.cell? ⟨w.heap.size, 1, none⟩ = some (.int .i64 b) := hC.keep (by go_simp); have k2 : wq.cell? ⟨wr.heap.size, 0, none⟩ = some (.int .u8 q) := hC.keep (by go_simp); have k3 : wq.cell? ⟨wr.heap.size, 1, none⟩ = some (.int .u16 x) := hC.keep (by go_simp); have k4 : wq.cell? ⟨wr.heap.size, 2, none⟩ = some (.int .i64 t) := hC.keep (by go_simp); have k5 : wq.cell? ⟨w3.heap.size, 0, none⟩ = some (.int .u16 0) := hC.keep (by go_simp); have k6 : wq.cell? ⟨w3.heap.size, 1, none⟩ = some (.int .i64 yl) := hC.keep (by go_simp); go_simp; refine (free_at HF.out _).mono ?_; rintro eq wq2 ⟨rfl, hbq⟩; exact ⟨rfl, hC.step hbq⟩
        simp only [Act.put, List.setIfInBounds_toArray, List.set_cons_zero, List.set_cons_succ]
        apply quiet_do
        · rfl
        · intro wq hC; have k0 : wq.cell? ⟨w.heap.size, 0, none⟩ = some (.int .u16 x) := hC.keep (by go_simp); have k1 : wq.cell? ⟨w.heap.size, 1, none⟩ = some (.int .i64 b) := hC.keep (by go_simp); have k2 : wq.cell? ⟨wr.heap.size, 0, none⟩ = some (.int .u8 q) := hC.keep (by go_simp); have k3 : wq.cell? ⟨wr.heap.size, 1, none⟩ = some (.int .u16 x) := hC.keep (by go_simp); have k4 : wq.cell? ⟨wr.heap.size, 2, none⟩ = some (.int .i64 t) := hC.keep (by go_simp); have k5 : wq.cell? ⟨w3.heap.size, 0, none⟩ = some (.int .u16 0) := hC.keep (by go_simp); have k6 : wq.cell? ⟨w3.heap.size, 1, none⟩ = some (.int .i64 yl) := hC.keep (by go_simp); go_simp; first | done | rfl | exact ⟨rfl, rfl⟩
        simp only [Act.put, List.setIfInBounds_toArray, List.set_cons_zero, List.set_cons_succ]
        apply quiet_do
        · rfl
        · intro wq hC; have k0 : wq.cell? ⟨w.heap.size, 0, none⟩ = some (.int .u16 x) := hC.keep (by go_simp); have k1 : wq.cell? ⟨w.heap.size, 1, none⟩ = some (.int .i64 b) := hC.keep (by go_simp); have k2 : wq.cell? ⟨wr.heap.size, 0, none⟩ = some (.int .u8 q) := hC.keep (by go_simp); have k3 : wq.cell? ⟨wr.heap.size, 1, none⟩ = some (.int .u16 x) := hC.keep (by go_simp); have k4 : wq.cell? ⟨wr.heap.size, 2, none⟩ = some (.int .i64 t) := hC.keep (by go_simp); have k5 : wq.cell? ⟨w3.heap.size, 0, none⟩ = some (.int .u16 0) := hC.keep (by go_simp); have k6 : wq.cell? ⟨w3.heap.size, 1, none⟩ = some (.int .i64 yl) := hC.keep (by go_simp); go_simp; first | done | rfl | exact ⟨rfl, rfl⟩
        simp only [Act.put, List.setIfInBounds_toArray, List.set_cons_zero, List.set_cons_succ]
        intro w4 hb4
        have hb4 : Below _ _ _ := hb4
        have yw4 : w.heap.size ≤ w4.heap.size := by (have := hb4.size; (try simp at this); omega)
        have c4_0 : w4.cell? ⟨w.heap.size, 0, none⟩ = some (.int .u16 x) := keep hb4 (by go_simp)
        have f4_0 : w4.frozen? ⟨w.heap.size, 0, none⟩ = false := keepF hb4 (.int .u16 x) (by go_simp) (by go_simp)
        have zw4_0 := cell_lt c4_0
        have c4_1 : w4.cell? ⟨w.heap.size, 1, none⟩ = some (.int .i64 b) := keep hb4 (by go_simp)
        have f4_1 : w4.frozen? ⟨w.heap.size, 1, none⟩ = false := keepF hb4 (.int .i64 b) (by go_simp) (by go_simp)
        have c4_2 : w4.cell? ⟨wr.heap.size, 0, none⟩ = some (.int .u8 q) := keep hb4 (by go_simp)
        have f4_2 : w4.frozen? ⟨wr.heap.size, 0, none⟩ = false := keepF hb4 (.int .u8 q) (by go_simp) (by go_simp)
        have zw4_2 := cell_lt c4_2
        have c4_3 : w4.cell? ⟨wr.heap.size, 1, none⟩ = some (.int .u16 x) := keep hb4 (by go_simp)
        have f4_3 : w4.frozen? ⟨wr.heap.size, 1, none⟩ = false := keepF hb4 (.int .u16 x) (by go_simp) (by go_simp)
        have c4_4 : w4.cell? ⟨wr.heap.size, 2, none⟩ = some (.int .i64 t) := keep hb4 (by go_simp)
        have f4_4 : w4.frozen? ⟨wr.heap.size, 2, none⟩ = false := keepF hb4 (.int .i64 t) (by go_simp) (by go_simp)
        have c4_5 : w4.cell? ⟨w3.heap.size, 0, none⟩ = some (.int .u16 0) := keep hb4 (by go_simp)
        have f4_5 : w4.frozen? ⟨w3.heap.size, 0, none⟩ = false := keepF hb4 (.int .u16 0) (by go_simp) (by go_simp)
        have zw4_5 := cell_lt c4_5
        have c4_6 : w4.cell? ⟨w3.heap.size, 1, none⟩ = some (.int .i64 yl) := keep hb4 (by go_simp)
        have f4_6 : w4.frozen? ⟨w3.heap.size, 1, none⟩ = false := keepF hb4 (.int .i64 yl) (by go_simp) (by go_simp)
        clear c3_0 f3_0 c3_1 f3_1 c3_2 f3_2 c3_3 f3_3 c3_4 f3_4
        go_wp2_with fail
        go_roundw
        case rel => exact ⟨k + 1, by omega, by go_num, 0, yl, HYR, by omega, by omega, by go_simp, by go_simp, by go_simp, by go_simp, (by first | omega | (simp; done) | (simp; omega)), (by repeat (first | assumption | exact Below.refl _ _ | refine balloc ?_ _ | refine bset ?_ (by first | (simp; done) | (simp; omega)) _ | refine bdrew ?_ | refine bstep ?_ (by assumption)))⟩
        case measure => (try simp [intOf]); omega
      · subst he
        subst h2
        have b1 : (a == 0) = false := by simpa using h1
        have b2 : (a != 0) = true := by simpa using h1
        have b4 : (q % 5 == 2) = false := by simp; omega
        go_wp2_with fail
        with_reducible refine (does_at HY.out _ hq0 (by omega) (by omega)).mono ?_
        rintro e3 w3 ⟨rfl, hb3⟩
        have yw3 : w.heap.size ≤ w3.heap.size := by (have := hb3.size; (try simp at this); omega)
        have c3_0 : w3.cell? ⟨w.heap.size, 0, none⟩ = some (.int .u16 a) := keep hb3 (by go_simp)
        have f3_0 : w3.frozen? ⟨w.heap.size, 0, none⟩ = false := keepF hb3 (.int .u16 a) (by go_simp) (by go_simp)
        have zw3_0 := cell_lt c3_0
        have c3_1 : w3.cell? ⟨w.heap.size, 1, none⟩ = some (.int .i64 b) := keep hb3 (by go_simp)
        have f3_1 : w3.frozen? ⟨w.heap.size, 1, none⟩ = false := keepF hb3 (.int .i64 b) (by go_simp) (by go_simp)
        have c3_2 : w3.cell? ⟨wr.heap.size, 0, none⟩ = some (.int .u8 q) := keep hb3 (by go_simp)
        have f3_2 : w3.frozen? ⟨wr.heap.size, 0, none⟩ = false := keepF hb3 (.int .u8 q) (by go_simp) (by go_simp)
        have zw3_2 := cell_lt c3_2
        have c3_3 : w3.cell? ⟨wr.heap.size, 1, none⟩ = some (.int .u16 x) := keep hb3 (by go_simp)
        have f3_3 : w3.frozen? ⟨wr.heap.size, 1, none⟩ = false := keepF hb3 (.int .u16 x) (by go_simp) (by go_simp)
        have c3_4 : w3.cell? ⟨wr.heap.size, 2, none⟩ = some (.int .i64 t) := keep hb3 (by go_simp)
        have f3_4 : w3.frozen? ⟨wr.heap.size, 2, none⟩ = false := keepF hb3 (.int .i64 t) (by go_simp) (by go_simp)
        go_wp2_with fail
        refine wp_region_below (by kernel_rfl) (by kernel_rfl) ?_
        apply quiet_do
        · rfl
        · intro wq hC; have k0 : wq.cell? ⟨w.heap.size, 0, none⟩ = some (.int .u16 a) := hC.keep (by go_simp); have k1 : wq.cell? ⟨w.heap.size, 1, none⟩ = some (.int .i64 b) := hC.keep (by go_simp); have k2 : wq.cell? ⟨wr.heap.size, 0, none⟩ = some (.int .u8 q) := hC.keep (by go_simp); have k3 : wq.cell? ⟨wr.heap.size, 1, none⟩ = some (.int .u16 x) := hC.keep (by go_simp); have k4 : wq.cell? ⟨wr.heap.size, 2, none⟩ = some (.int .i64 t) := hC.keep (by go_simp); have k5 : wq.cell? ⟨w3.heap.size, 0, none⟩ = some (.int .u16 0) := hC.keep (by go_simp); have k6 : wq.cell? ⟨w3.heap.size, 1, none⟩ = some (.int .i64 yl) := hC.keep (by go_simp); go_simp; first | done | rfl | exact ⟨rfl, rfl⟩
        simp only [Act.put, List.setIfInBounds_toArray, List.set_cons_zero, List.set_cons_succ]
        apply quiet_do
        · rfl
        · intro wq hC; have k0 : wq.cell? ⟨w.heap.size, 0, none⟩ = some (.int .u16 a) := hC.keep (by go_simp); have k1 : wq.cell? ⟨w.heap.size, 1, none⟩ = some (.int .i64 b) := hC.keep (by go_simp); have k2 : wq.cell? ⟨wr.heap.size, 0, none⟩ = some (.int .u8 q) := hC.keep (by go_simp); have k3 : wq.cell? ⟨wr.heap.size, 1, none⟩ = some (.int .u16 x) := hC.keep (by go_simp); have k4 : wq.cell? ⟨wr.heap.size, 2, none⟩ = some (.int .i64 t) := hC.keep (by go_simp); have k5 : wq.cell? ⟨w3.heap.size, 0, none⟩ = some (.int .u16 0) := hC.keep (by go_simp); have k6 : wq.cell? ⟨w3.heap.size, 1, none⟩ = some (.int .i64 yl) := hC.keep (by go_simp); go_simp; refine (right_at HYR.out _).mono ?_; rintro eq wq2 ⟨rfl, hbq⟩; exact ⟨rfl, hC.step hbq⟩
        simp only [Act.put, List.setIfInBounds_toArray, List.set_cons_zero, List.set_cons_succ]
        apply quiet_do
        · rfl
        · intro wq hC; have k0 : wq.cell? ⟨w.heap.size, 0, none⟩ = some (.int .u16 a) := hC.keep (by go_simp); have k1 : wq.cell? ⟨w.heap.size, 1, none⟩ = some (.int .i64 b) := hC.keep (by go_simp); have k2 : wq.cell? ⟨wr.heap.size, 0, none⟩ = some (.int .u8 q) := hC.keep (by go_simp); have k3 : wq.cell? ⟨wr.heap.size, 1, none⟩ = some (.int .u16 x) := hC.keep (by go_simp); have k4 : wq.cell? ⟨wr.heap.size, 2, none⟩ = some (.int .i64 t) := hC.keep (by go_simp); have k5 : wq.cell? ⟨w3.heap.size, 0, none⟩ = some (.int .u16 0) := hC.keep (by go_simp); have k6 : wq.cell? ⟨w3.heap.size, 1, none⟩ = some (.int .i64 yl) := hC.keep (by go_simp); go_simp; first | done | rfl | exact ⟨rfl, rfl⟩
        simp only [Act.put, List.setIfInBounds_toArray, List.set_cons_zero, List.set_cons_succ]
        apply quiet_do
        · rfl
        · intro wq hC; have k0 : wq.cell? ⟨w.heap.size, 0, none⟩ = some (.int .u16 a) := hC.keep (by go_simp); have k1 : wq.cell? ⟨w.heap.size, 1, none⟩ = some (.int .i64 b) := hC.keep (by go_simp); have k2 : wq.cell? ⟨wr.heap.size, 0, none⟩ = some (.int .u8 q) := hC.keep (by go_simp); have k3 : wq.cell? ⟨wr.heap.size, 1, none⟩ = some (.int .u16 x) := hC.keep (by go_simp); have k4 : wq.cell? ⟨wr.heap.size, 2, none⟩ = some (.int .i64 t) := hC.keep (by go_simp); have k5 : wq.cell? ⟨w3.heap.size, 0, none⟩ = some (.int .u16 0) := hC.keep (by go_simp); have k6 : wq.cell? ⟨w3.heap.size, 1, none⟩ = some (.int .i64 yl) := hC.keep (by go_simp); go_simp; first | done | rfl | exact ⟨rfl, rfl⟩
        simp only [Act.put, List.setIfInBounds_toArray, List.set_cons_zero, List.set_cons_succ]
        apply quiet_do
        · rfl
        · intro wq hC; have k0 : wq.cell? ⟨w.heap.size, 0, none⟩ = some (.int .u16 a) := hC.keep (by go_simp); have k1 : wq.cell? ⟨w.heap.size, 1, none⟩ = some (.int .i64 b) := hC.keep (by go_simp); have k2 : wq.cell? ⟨wr.heap.size, 0, none⟩ = some (.int .u8 q) := hC.keep (by go_simp); have k3 : wq.cell? ⟨wr.heap.size, 1, none⟩ = some (.int .u16 x) := hC.keep (by go_simp); have k4 : wq.cell? ⟨wr.heap.size, 2, none⟩ = some (.int .i64 t) := hC.keep (by go_simp); have k5 : wq.cell? ⟨w3.heap.size, 0, none⟩ = some (.int .u16 0) := hC.keep (by go_simp); have k6 : wq.cell? ⟨w3.heap.size, 1, none⟩ = some (.int .i64 yl) := hC.keep (by go_simp); go_simp; first | done | rfl | exact ⟨rfl, rfl⟩
        simp only [Act.put, List.setIfInBounds_toArray, List.set_cons_zero, List.set_cons_succ]
        apply quiet_do
        · rfl
        · intro wq hC; have k0 : wq.cell? ⟨w.heap.size, 0, none⟩ = some (.int .u16 a) := hC.keep (by go_simp); have k1 : wq.cell? ⟨w.heap.size, 1, none⟩ = some (.int .i64 b) := hC.keep (by go_simp); have k2 : wq.cell? ⟨wr.heap.size, 0, none⟩ = some (.int .u8 q) := hC.keep (by go_simp); have k3 : wq.cell? ⟨wr.heap.size, 1, none⟩ = some (.int .u16 x) := hC.keep (by go_simp); have k4 : wq.cell? ⟨wr.heap.size, 2, none⟩ = some (.int .i64 t) := hC.keep (by go_simp); have k5 : wq.cell? ⟨w3.heap.size, 0, none⟩ = some (.int .u16 0) := hC.keep (by go_simp); have k6 : wq.cell? ⟨w3.heap.size, 1, none⟩ = some (.int .i64 yl) := hC.keep (by go_simp); go_simp; first | done | rfl | exact ⟨rfl, rfl⟩
        simp only [Act.put, List.setIfInBounds_toArray, List.set_cons_zero, List.set_cons_succ]
        apply quiet_do
        · rfl
        · intro wq hC; have k0 : wq.cell? ⟨w.heap.size, 0, none⟩ = some (.int .u16 a) := hC.keep (by go_simp); have k1 : wq.cell? ⟨w.heap.size, 1, none⟩ = some (.int .i64 b) := hC.keep (by go_simp); have k2 : wq.cell? ⟨wr.heap.size, 0, none⟩ = some (.int .u8 q) := hC.keep (by go_simp); have k3 : wq.cell? ⟨wr.heap.size, 1, none⟩ = some (.int .u16 x) := hC.keep (by go_simp); have k4 : wq.cell? ⟨wr.heap.size, 2, none⟩ = some (.int .i64 t) := hC.keep (by go_simp); have k5 : wq.cell? ⟨w3.heap.size, 0, none⟩ = some (.int .u16 0) := hC.keep (by go_simp); have k6 : wq.cell? ⟨w3.heap.size, 1, none⟩ = some (.int .i64 yl) := hC.keep (by go_simp); go_simp; first | done | rfl | exact ⟨rfl, rfl⟩
        simp only [Act.put, List.setIfInBounds_toArray, List.set_cons_zero, List.set_cons_succ]
        refine quiet_not (by rfl) ?_
        simp only [Act.put, List.setIfInBounds_toArray, List.set_cons_zero, List.set_cons_succ]
        refine quiet_not (by rfl) ?_
        simp only [Act.put, List.setIfInBounds_toArray, List.set_cons_zero, List.set_cons_succ]
        refine quiet_not (by rfl) ?_
        simp only [Act.put, List.setIfInBounds_toArray, List.set_cons_zero, List.set_cons_succ]
        apply quiet_do
        · rfl
        · intro wq hC; have k0 : wq.cell? ⟨w.heap.size, 0, none⟩ = some (.int .u16 a) := hC.keep (by go_simp); have k1 : wq.cell? ⟨w.heap.size, 1, none⟩ = some (.int .i64 b) := hC.keep (by go_simp); have k2 : wq.cell? ⟨wr.heap.size, 0, none⟩ = some (.int .u8 q) := hC.keep (by go_simp); have k3 : wq.cell? ⟨wr.heap.size, 1, none⟩ = some (.int .u16 x) := hC.keep (by go_simp); have k4 : wq.cell? ⟨wr.heap.size, 2, none⟩ = some (.int .i64 t) := hC.keep (by go_simp); have k5 : wq.cell? ⟨w3.heap.size, 0, none⟩ = some (.int .u16 0) := hC.keep (by go_simp); have k6 : wq.cell? ⟨w3.heap.size, 1, none⟩ = some (.int .i64 yl) := hC.keep (by go_simp); go_simp; first | done | rfl | exact ⟨rfl, rfl⟩
        simp only [Act.put, List.setIfInBounds_toArray, List.set_cons_zero, List.set_cons_succ]
        apply quiet_do
        · rfl
        · intro wq hC; have k0 : wq.cell? ⟨w.heap.size, 0, none⟩ = some (.int .u16 a) := hC.keep (by go_simp); have k1 : wq.cell? ⟨w.heap.size, 1, none⟩ = some (.int .i64 b) := hC.keep (by go_simp); have k2 : wq.cell? ⟨wr.heap.size, 0, none⟩ = some (.int .u8 q) := hC.keep (by go_simp); have k3 : wq.cell? ⟨wr.heap.size, 1, none⟩ = some (.int .u16 x) := hC.keep (by go_simp); have k4 : wq.cell? ⟨wr.heap.size, 2, none⟩ = some (.int .i64 t) := hC.keep (by go_simp); have k5 : wq.cell? ⟨w3.heap.size, 0, none⟩ = some (.int .u16 0) := hC.keep (by go_simp); have k6 : wq.cell? ⟨w3.heap.size, 1, none⟩ = some (.int .i64 yl) := hC.keep (by go_simp); go_simp; first | done | rfl | exact ⟨rfl, rfl⟩
        simp only [Act.put, List.setIfInBounds_toArray, List.set_cons_zero, List.set_cons_succ]
        apply quiet_do
        · rfl
        · intro wq hC; have k0 : wq.cell? ⟨w.heap.size, 0, none⟩ = some (.int .u16 a) := hC.keep (by go_simp); have k1 : wq.cell? ⟨w.heap.size, 1, none⟩ = some (.int .i64 b) := hC.keep (by go_simp); have k2 : wq.cell? ⟨wr.heap.size, 0, none⟩ = some (.int .u8 q) := hC.keep (by go_simp); have k3 : wq.cell? ⟨wr.heap.size, 1, none⟩ = some (.int .u16 x) := hC.keep (by go_simp); have k4 : wq.cell? ⟨wr.heap.size, 2, none⟩ = some (.int .i64 t) := hC.keep (by go_simp); have k5 : wq.cell? ⟨w3.heap.size, 0, none⟩ = some (.int .u16 0) := hC.keep (by go_simp); have k6 : wq.cell? ⟨w3.heap.size, 1, none⟩ = some (.int .i64 yl) := hC.keep (by go_simp); go_simp; first | done | rfl | exact ⟨rfl, rfl⟩
        simp only [Act.put, List.setIfInBounds_toArray, List.set_cons_zero, List.set_cons_succ]
        apply quiet_do
        · rfl
        · intro wq hC; have k0 : wq.cell? ⟨w.heap.size, 0, none⟩ = some (.int .u16 a) := hC.keep (by go_simp); have k1 : wq.cell? ⟨w.heap.size, 1, none⟩ = some (.int .i64 b) := hC.keep (by go_simp); have k2 : wq.cell? ⟨wr.heap.size, 0, none⟩ = some (.int .u8 q) := hC.keep (by go_simp); have k3 : wq.cell? ⟨wr.heap.size, 1, none⟩ = some (.int .u16 x) := hC.keep (by go_simp); have k4 : wq.cell? ⟨wr.heap.size, 2, none⟩ = some (.int .i64 t) := hC.keep (by go_simp); have k5 : wq.cell? ⟨w3.heap.size, 0, none⟩ = some (.int .u16 0) := hC.keep (by go_simp); have k6 : wq.cell? ⟨w3.heap.size, 1, none⟩ = some (.int .i64 yl) := hC.keep (by go_simp); go_simp; first | done | rfl | exact ⟨rfl, rfl⟩
        simp only [Act.put, List.setIfInBounds_toArray, List.set_cons_zero, List.set_cons_succ]
        apply quiet_do
        · rfl
        · intro wq hC; have k0 : wq.cell? ⟨w.heap.size, 0, none⟩ = some (.int .u16 a) := hC.keep (by go_simp); have k1 : wq.cell? ⟨w.heap.size, 1, none⟩ = some (.int .i64 b) := hC.keep (by go_simp); have k2 : wq.cell? ⟨wr.heap.size, 0, none⟩ = some (.int .u8 q) := hC.keep (by go_simp); have k3 : wq.cell? ⟨wr.heap.size, 1, none⟩ = some (.int .u16 x) := hC.keep (by go_simp); have k4 : wq.cell? ⟨wr.heap.size, 2, none⟩ = some (.int .i64 t) := hC.keep (by go_simp); have k5 : wq.cell? ⟨w3.heap.size, 0, none⟩ = some (.int .u16 0) := hC.keep (by go_simp); have k6 : wq.cell? ⟨w3.heap.size, 1, none⟩ = some (.int .i64 yl) := hC.keep (by go_simp); go_simp; first | done | rfl | exact ⟨rfl, rfl⟩
        simp only [Act.put, List.setIfInBounds_toArray, List.set_cons_zero, List.set_cons_succ]
        apply quiet_do
        · rfl
        · intro wq hC; have k0 : wq.cell? ⟨w.heap.size, 0, none⟩ = some (.int .u16 a) := hC.keep (by go_simp); have k1 : wq.cell? ⟨w.heap.size, 1, none⟩ = some (.int .i64 b) := hC.keep (by go_simp); have k2 : wq.cell? ⟨wr.heap.size, 0, none⟩ = some (.int .u8 q) := hC.keep (by go_simp); have k3 : wq.cell? ⟨wr.heap.size, 1, none⟩ = some (.int .u16 x) := hC.keep (by go_simp); have k4 : wq.cell? ⟨wr.heap.size, 2, none⟩ = some (.int .i64 t) := hC.keep (by go_simp); have k5 : wq.cell? ⟨w3.heap.size, 0, none⟩ = some (.int .u16 0) := hC.keep (by go_simp); have k6 : wq.cell? ⟨w3.heap.size, 1, none⟩ = some (.int .i64 yl) := hC.keep (by go_simp); go_simp; first | done | rfl | exact ⟨rfl, rfl⟩
        simp only [Act.put, List.setIfInBounds_toArray, List.set_cons_zero, List.set_cons_succ]
        apply quiet_do
        · rfl
        · intro wq hC; have k0 : wq.cell? ⟨w.heap.size, 0, none⟩ = some (.int .u16 a) := hC.keep (by go_simp); have k1 : wq.cell? ⟨w.heap.size, 1, none⟩ = some (.int .i64 b) := hC.keep (by go_simp); have k2 : wq.cell? ⟨wr.heap.size, 0, none⟩ = some (.int .u8 q) := hC.keep (by go_simp); have k3 : wq.cell? ⟨wr.heap.size, 1, none⟩ = some (.int .u16 x) := hC.keep (by go_simp); have k4 : wq.cell? ⟨wr.heap.size, 2, none⟩ = some (.int .i64 t) := hC.keep (by go_simp); have k5 : wq.cell? ⟨w3.heap.size, 0, none⟩ = some (.int .u16 0) := hC.keep (by go_simp); have k6 : wq.cell? ⟨w3.heap.size, 1, none⟩ = some (.int .i64 yl) := hC.keep (by go_simp); go_simp; first | done | rfl | exact ⟨rfl, rfl⟩
        simp only [Act.put, List.setIfInBounds_toArray, List.set_cons_zero, List.set_cons_succ]
        apply quiet_do
        · rfl
        · intro wq hC; have k0 : wq.cell? ⟨w.heap.size, 0, none⟩ = some (.int .u16 a) := hC.keep (by go_simp); have k1 : wq.cell? ⟨w.heap.size, 1, none⟩ = some (.int .i64 b) := hC.keep (by go_simp); have k2 : wq.cell? ⟨wr.heap.size, 0, none⟩ = some (.int .u8 q) := hC.keep (by go_simp); have k3 : wq.cell? ⟨wr.heap.size, 1, none⟩ = some (.int .u16 x) := hC.keep (by go_simp); have k4 : wq.cell? ⟨wr.heap.size, 2, none⟩ = some (.int .i64 t) := hC.keep (by go_simp); have k5 : wq.cell? ⟨w3.heap.size, 0, none⟩ = some (.int .u16 0) := hC.keep (by go_simp); have k6 : wq.cell? ⟨w3.heap.size, 1, none⟩ = some (.int .i64 yl) := hC.keep (by go_simp); go_simp; first | done | rfl | exact ⟨rfl, rfl⟩
        simp only [Act.put, List.setIfInBounds_toArray, List.set_cons_zero, List.set_cons_succ]
        apply quiet_do
        · rfl
        · intro wq hC; have k0 : wq.cell? ⟨w.heap.size, 0, none⟩ = some (.int .u16 a) := hC.keep (by go_simp); have k1 : wq.cell? ⟨w.heap.size, 1, none⟩ = some (.int .i64 b) := hC.keep (by go_simp); have k2 : wq.cell? ⟨wr.heap.size, 0, none⟩ = some (.int .u8 q) := hC.keep (by go_simp); have k3 : wq.cell? ⟨wr.heap.size, 1, none⟩ = some (.int .u16 x) := hC.keep (by go_simp); have k4 : wq.cell? ⟨wr.heap.size, 2, none⟩ = some (.int .i64 t) := hC.keep (by go_simp); have k5 : wq.cell? ⟨w3.heap.size, 0, none⟩ = some (.int .u16 0) := hC.keep (by go_simp); have k6 : wq.cell? ⟨w3.heap.size, 1, none⟩ = some (.int .i64 yl) := hC.keep (by go_simp); go_simp; first | done | rfl | exact ⟨rfl, rfl⟩
        simp only [Act.put, List.setIfInBounds_toArray, List.set_cons_zero, List.set_cons_succ]
        apply quiet_do
        · rfl
        · intro wq hC; have k0 : wq.cell? ⟨w.heap.size, 0, none⟩ = some (.int .u16 a) := hC.keep (by go_simp); have k1 : wq.cell? ⟨w.heap.size, 1, none⟩ = some (.int .i64 b) := hC.keep (by go_simp); have k2 : wq.cell? ⟨wr.heap.size, 0, none⟩ = some (.int .u8 q) := hC.keep (by go_simp); have k3 : wq.cell? ⟨wr.heap.size, 1, none⟩ = some (.int .u16 x) := hC.keep (by go_simp); have k4 : wq.cell? ⟨wr.heap.size, 2, none⟩ = some (.int .i64 t) := hC.keep (by go_simp); have k5 : wq.cell? ⟨w3.heap.size, 0, none⟩ = some (.int .u16 0) := hC.keep (by go_simp); have k6 : wq.cell? ⟨w3.heap.size, 1, none⟩ = some (.int .i64 yl) := hC.keep (by go_simp); go_simp; first | done | rfl | exact ⟨rfl, rfl⟩
        simp only [Act.put, List.setIfInBounds_toArray, List.set_cons_zero, List.set_cons_succ]
        apply quiet_do
        · rfl
        · intro wq hC; have k0 : wq.cell? ⟨w.heap.size, 0, none⟩ = some (.int .u16 a) := hC.keep (by go_simp); have k1 : wq.cell? ⟨w.heap.size, 1, none⟩ = some (.int .i64 b) := hC.keep (by go_simp); have k2 : wq.cell? ⟨wr.heap.size, 0, none⟩ = some (.int .u8 q) := hC.keep (by go_simp); have k3 : wq.cell? ⟨wr.heap.size, 1, none⟩ = some (.int .u16 x) := hC.keep (by go_simp); have k4 : wq.cell? ⟨wr.heap.size, 2, none⟩ = some (.int .i64 t) := hC.keep (by go_simp); have k5 : wq.cell? ⟨w3.heap.size, 0, none⟩ = some (.int .u16 0) := hC.keep (by go_simp); have k6 : wq.cell? ⟨w3.heap.size, 1, none⟩ = some (.int .i64 yl) := hC.keep (by go_simp); go_simp; first | done | rfl | exact ⟨rfl, rfl⟩
        simp only [Act.put, List.setIfInBounds_toArray, List.set_cons_zero, List.set_cons_succ]
        apply quiet_do
        · rfl
        · intro wq hC; have k0 : wq.cell? ⟨w.heap.size, 0, none⟩ = some (.int .u16 a) := hC.keep (by go_simp); have k1 : wq.cell? ⟨w.heap.size, 1, none⟩ = some (.int .i64 b) := hC.keep (by go_simp); have k2 : wq.cell? ⟨wr.heap.size, 0, none⟩ = some (.int .u8 q) := hC.keep (by go_simp); have k3 : wq.cell? ⟨wr.heap.size, 1, none⟩ = some (.int .u16 x) := hC.keep (by go_simp); have k4 : wq.cell? ⟨wr.heap.size, 2, none⟩ = some (.int .i64 t) := hC.keep (by go_simp); have k5 : wq.cell? ⟨w3.heap.size, 0, none⟩ = some (.int .u16 0) := hC.keep (by go_simp); have k6 : wq.cell? ⟨w3.heap.size, 1, none⟩ = some (.int .i64 yl) := hC.keep (by go_simp); go_simp; first | done | rfl | exact ⟨rfl, rfl⟩
        simp only [Act.put, List.setIfInBounds_toArray, List.set_cons_zero, List.set_cons_succ]
        refine quiet_not (by rfl) ?_
        simp only [Act.put, List.setIfInBounds_toArray, List.set_cons_zero, List.set_cons_succ]
        refine quiet_not (by rfl) ?_
        simp only [Act.put, List.setIfInBounds_toArray, List.set_cons_zero, List.set_cons_succ]
        refine quiet_not (by rfl) ?_
        simp only [Act.put, List.setIfInBounds_toArray, List.set_cons_zero, List.set_cons_succ]
        refine quiet_not (by rfl) ?_
        simp only [Act.put, List.setIfInBounds_toArray, List.set_cons_zero, List.set_cons_succ]
        refine quiet_not (by rfl) ?_
        simp only [Act.put, List.setIfInBounds_toArray, List.set_cons_zero, List.set_cons_succ]
        apply quiet_do
        · rfl
        · intro wq hC; have k0 : wq.cell? ⟨w.heap.size, 0, none⟩ = some (.int .u16 a) := hC.keep (by go_simp); have k1 : wq.cell? ⟨w.heap.size, 1, none⟩ = some (.int .i64 b) := hC.keep (by go_simp); have k2 : wq.cell? ⟨wr.heap.size, 0, none⟩ = some (.int .u8 q) := hC.keep (by go_simp); have k3 : wq.cell? ⟨wr.heap.size, 1, none⟩ = some (.int .u16 x) := hC.keep (by go_simp); have k4 : wq.cell? ⟨wr.heap.size, 2, none⟩ = some (.int .i64 t) := hC.keep (by go_simp); have k5 : wq.cell? ⟨w3.heap.size, 0, none⟩ = some (.int .u16 0) := hC.keep (by go_simp); have k6 : wq.cell? ⟨w3.heap.size, 1, none⟩ = some (.int .i64 yl) := hC.keep (by go_simp); go_simp; first | done | rfl | exact ⟨rfl, rfl⟩
        simp only [Act.put, List.setIfInBounds_toArray, List.set_cons_zero, List.set_cons_succ]
        apply quiet_do
        · rfl
        · intro wq hC; have k0 : wq.cell? ⟨w.heap.size, 0, none⟩ = some (.int .u16 a) := hC.keep (by go_simp); have k1 : wq.cell? ⟨w.heap.size, 1, none⟩ = some (.int .i64 b) := hC.keep (by go_simp); have k2 : wq.cell? ⟨wr.heap.size, 0, none⟩ = some (.int .u8 q) := hC.keep (by go_simp); have k3 : wq.cell? ⟨wr.heap.size, 1, none⟩ = some (.int .u16 x) := hC.keep (by go_simp); have k4 : wq.cell? ⟨wr.heap.size, 2, none⟩ = some (.int .i64 t) := hC.keep (by go_simp); have k5 : wq.cell? ⟨w3.heap.size, 0, none⟩ = some (.int .u16 0) := hC.keep (by go_simp); have k6 : wq.cell? ⟨w3.heap.size, 1, none⟩ = some (.int .i64 yl) := hC.keep (by go_simp); go_simp; first | done | rfl | exact ⟨rfl, rfl⟩
        simp only [Act.put, List.setIfInBounds_toArray, List.set_cons_zero, List.set_cons_succ]
        apply quiet_do
        · rfl
        · intro wq hC; have k0 : wq.cell? ⟨w.heap.size, 0, none⟩ = some (.int .u16 a) := hC.keep (by go_simp); have k1 : wq.cell? ⟨w.heap.size, 1, none⟩ = some (.int .i64 b) := hC.keep (by go_simp); have k2 : wq.cell? ⟨wr.heap.size, 0, none⟩ = some (.int .u8 q) := hC.keep (by go_simp); have k3 : wq.cell? ⟨wr.heap.size, 1, none⟩ = some (.int .u16 x) := hC.keep (by go_simp); have k4 : wq.cell? ⟨wr.heap.size, 2, none⟩ = some (.int .i64 t) := hC.keep (by go_simp); have k5 : wq.cell? ⟨w3.heap.size, 0, none⟩ = some (.int .u16 0) := hC.keep (by go_simp); have k6 : wq.cell? ⟨w3.heap.size, 1, none⟩ = some (.int .i64 yl) := hC.keep (by go_simp); go_simp; first | done | rfl | exact ⟨rfl, rfl⟩
        simp only [Act.put, List.setIfInBounds_toArray, List.set_cons_zero, List.set_cons_succ]
        apply quiet_do
        · rfl
        · intro wq hC; have k0 : wq.cell? ⟨w.heap.size, 0, none⟩ = some (.int .u16 a) := hC.keep (by go_simp); have k1 : wq.cell? ⟨w.heap.size, 1, none⟩ = some (.int .i64 b) := hC.keep (by go_simp); have k2 : wq.cell? ⟨wr.heap.size, 0, none⟩ = some (.int .u8 q) := hC.keep (by go_simp); have k3 : wq.cell? ⟨wr.heap.size, 1, none⟩ = some (.int .u16 x) := hC.keep (by go_simp); have k4 : wq.cell? ⟨wr.heap.size, 2, none⟩ = some (.int .i64 t) := hC.keep (by go_simp); have k5 : wq.cell? ⟨w3.heap.size, 0, none⟩ = some (.int .u16 0) := hC.keep (by go_simp); have k6 : wq.cell? ⟨w3.heap.size, 1, none⟩ = some (.int .i64 yl) := hC.keep (by go_simp); go_simp; first | done | rfl | exact ⟨rfl, rfl⟩
        simp only [Act.put, List.setIfInBounds_toArray, List.set_cons_zero, List.set_cons_succ]
        apply quiet_do
        · rfl
        · intro wq hC; have k0 : wq.cell? ⟨w.heap.size, 0, none⟩ = some (.int .u16 a) := hC.keep (by go_simp); have k1 : wq.cell? ⟨w.heap.size, 1, none⟩ = some (.int .i64 b) := hC.keep (by go_simp); have k2 : wq.cell? ⟨wr.heap.size, 0, none⟩ = some (.int .u8 q) := hC.keep (by go_simp); have k3 : wq.cell? ⟨wr.heap.size, 1, none⟩ = some (.int .u16 x) := hC.keep (by go_simp); have k4 : wq.cell? ⟨wr.heap.size, 2, none⟩ = some (.int .i64 t) := hC.keep (by go_simp); have k5 : wq.cell? ⟨w3.heap.size, 0, none⟩ = some (.int .u16 0) := hC.keep (by go_simp); have k6 : wq.cell? ⟨w3.heap.size, 1, none⟩ = some (.int .i64 yl) := hC.keep (by go_simp); go_simp; first | done | rfl | exact ⟨rfl, rfl⟩
        simp only [Act.put, List.setIfInBounds_toArray, List.set_cons_zero, List.set_cons_succ]
        apply quiet_do
        · rfl
        · intro wq hC; have k0 : wq.cell? ⟨w.heap.size, 0, none⟩ = some (.int .u16 a) := hC.keep (by go_simp); have k1 : wq.cell? ⟨w.heap.size, 1, none⟩ = some (.int .i64 b) := hC.keep (by go_simp); have k2 : wq.cell? ⟨wr.heap.size, 0, none⟩ = some (.int .u8 q) := hC.keep (by go_simp); have k3 : wq.cell? ⟨wr.heap.size, 1, none⟩ = some (.int .u16 x) := hC.keep (by go_simp); have k4 : wq.cell? ⟨wr.heap.size, 2, none⟩ = some (.int .i64 t) := hC.keep (by go_simp); have k5 : wq.cell? ⟨w3.heap.size, 0, none⟩ = some (.int .u16 0) := hC.keep (by go_simp); have k6 : wq.cell? ⟨w3.heap.size, 1, none⟩ = some (.int .i64 yl) := hC.keep (by go_simp); go_simp; first | done | rfl | exact ⟨rfl, rfl⟩
        simp only [Act.put, List.setIfInBounds_toArray, List.set_cons_zero, List.set_cons_succ]
        apply quiet_do
        · rfl
        · intro wq hC; have k0 : wq.cell? ⟨w.heap.size, 0, none⟩ = some (.int .u16 a) := hC.keep (by go_simp); have k1 : wq.cell? ⟨w.heap.size, 1, none⟩ = some (.int .i64 b) := hC.keep (by go_simp); have k2 : wq.cell? ⟨wr.heap.size, 0, none⟩ = some (.int .u8 q) := hC.keep (by go_simp); have k3 : wq.cell? ⟨wr.heap.size, 1, none⟩ = some (.int .u16 x) := hC.keep (by go_simp); have k4 : wq.cell? ⟨wr.heap.size, 2, none⟩ = some (.int .i64 t) := hC.keep (by go_simp); have k5 : wq.cell? ⟨w3.heap.size, 0, none⟩ = some (.int .u16 0) := hC.keep (by go_simp); have k6 : wq.cell? ⟨w3.heap.size, 1, none⟩ = some (.int .i64 yl) := hC.keep (by go_simp); go_simp; first | done | rfl | exact ⟨rfl, rfl⟩
        simp only [Act.put, List.setIfInBounds_toArray, List.set_cons_zero, List.set_cons_succ]
        apply quiet_do
        · rfl
        · intro wq hC; have k0 : wq.cell? ⟨w.heap.size, 0, none⟩ = some (.int .u16 a) := hC.keep (by go_simp); have k1 : wq.cell? ⟨w.heap.size, 1, none⟩ = some (.int .i64 b) := hC.keep (by go_simp); have k2 : wq.cell? ⟨wr.heap.size, 0, none⟩ = some (.int .u8 q) := hC.keep (by go_simp); have k3 : wq.cell? ⟨wr.heap.size, 1, none⟩ = some (.int .u16 x) := hC.keep (by go_simp); have k4 : wq.cell? ⟨wr.heap.size, 2, none⟩ = some (.int .i64 t) := hC.keep (by go_simp); have k5 : wq.cell? ⟨w3.heap.size, 0, none⟩ = some (.int .u16 0) := hC.keep (by go_simp); have k6 : wq.cell? ⟨w3.heap.size, 1, none⟩ = some (.int .i64 yl) := hC.keep (by go_simp); go_simp; refine (free_at HF.out _).mono ?_; rintro eq wq2 ⟨rfl, hbq⟩; exact ⟨rfl, hC.step hbq⟩
        simp only [Act.put, List.setIfInBounds_toArray, List.set_cons_zero, List.set_cons_succ]
        apply quiet_do
        · rfl
        · intro wq hC; have k0 : wq.cell? ⟨w.heap.size, 0, none⟩ = some (.int .u16 a) := hC.keep (by go_simp); have k1 : wq.cell? ⟨w.heap.size, 1, none⟩ = some (.int .i64 b) := hC.keep (by go_simp); have k2 : wq.cell? ⟨wr.heap.size, 0, none⟩ = some (.int .u8 q) := hC.keep (by go_simp); have k3 : wq.cell? ⟨wr.heap.size, 1, none⟩ = some (.int .u16 x) := hC.keep (by go_simp); have k4 : wq.cell? ⟨wr.heap.size, 2, none⟩ = some (.int .i64 t) := hC.keep (by go_simp); have k5 : wq.cell? ⟨w3.heap.size, 0, none⟩ = some (.int .u16 0) := hC.keep (by go_simp); have k6 : wq.cell? ⟨w3.heap.size, 1, none⟩ = some (.int .i64 yl) := hC.keep (by go_simp); go_simp; first | done | rfl | exact ⟨rfl, rfl⟩
        simp only [Act.put, List.setIfInBounds_toArray, List.set_cons_zero, List.set_cons_succ]
        apply quiet_do
        · rfl
        · intro wq hC; have k0 : wq.cell? ⟨w.heap.size, 0, none⟩ = some (.int .u16 a) := hC.keep (by go_simp); have k1 : wq.cell? ⟨w.heap.size, 1, none⟩ = some (.int .i64 b) := hC.keep (by go_simp); have k2 : wq.cell? ⟨wr.heap.size, 0, none⟩ = some (.int .u8 q) := hC.keep (by go_simp); have k3 : wq.cell? ⟨wr.heap.size, 1, none⟩ = some (.int .u16 x) := hC.keep (by go_simp); have k4 : wq.cell? ⟨wr.heap.size, 2, none⟩ = some (.int .i64 t) := hC.keep (by go_simp); have k5 : wq.cell? ⟨w3.heap.size, 0, none⟩ = some (.int .u16 0) := hC.keep (by go_simp); have k6 : wq.cell? ⟨w3.heap.size, 1, none⟩ = some (.int .i64 yl) := hC.keep (by go_simp); go_simp; first | done | rfl | exact ⟨rfl, rfl⟩
        simp only [Act.put, List.setIfInBounds_toArray, List.set_cons_zero, List.set_cons_succ]
        intro w4 hb4
        have hb4 : Below _ _ _ := hb4
        have yw4 : w.heap.size ≤ w4.heap.size := by (have := hb4.size; (try simp at this); omega)
        have c4_0 : w4.cell? ⟨w.heap.size, 0, none⟩ = some (.int .u16 a) := keep hb4 (by go_simp)
        have f4_0 : w4.frozen? ⟨w.heap.size, 0, none⟩ = false := keepF hb4 (.int .u16 a) (by go_simp) (by go_simp)
        have zw4_0 := cell_lt c4_0
        have c4_1 : w4.cell? ⟨w.heap.size, 1, none⟩ = some (.int .i64 b) := keep hb4 (by go_simp)
        have f4_1 : w4.frozen? ⟨w.heap.size, 1, none⟩ = false := keepF hb4 (.int .i64 b) (by go_simp) (by go_simp)
        have c4_2 : w4.cell? ⟨wr.heap.size, 0, none⟩ = some (.int .u8 q) := keep hb4 (by go_simp)
        have f4_2 : w4.frozen? ⟨wr.heap.size, 0, none⟩ = false := keepF hb4 (.int .u8 q) (by go_simp) (by go_simp)
        have zw4_2 := cell_lt c4_2
        have c4_3 : w4.cell? ⟨wr.heap.size, 1, none⟩ = some (.int .u16 x) := keep hb4 (by go_simp)
        have f4_3 : w4.frozen? ⟨wr.heap.size, 1, none⟩ = false := keepF hb4 (.int .u16 x) (by go_simp) (by go_simp)
        have c4_4 : w4.cell? ⟨wr.heap.size, 2, none⟩ = some (.int .i64 t) := keep hb4 (by go_simp)
        have f4_4 : w4.frozen? ⟨wr.heap.size, 2, none⟩ = false := keepF hb4 (.int .i64 t) (by go_simp) (by go_simp)
        have c4_5 : w4.cell? ⟨w3.heap.size, 0, none⟩ = some (.int .u16 0) := keep hb4 (by go_simp)
        have f4_5 : w4.frozen? ⟨w3.heap.size, 0, none⟩ = false := keepF hb4 (.int .u16 0) (by go_simp) (by go_simp)
        have zw4_5 := cell_lt c4_5
        have c4_6 : w4.cell? ⟨w3.heap.size, 1, none⟩ = some (.int .i64 yl) := keep hb4 (by go_simp)
        have f4_6 : w4.frozen? ⟨w3.heap.size, 1, none⟩ = false := keepF hb4 (.int .i64 yl) (by go_simp) (by go_simp)
        clear c3_0 f3_0 c3_1 f3_1 c3_2 f3_2 c3_3 f3_3 c3_4 f3_4
        go_wp2_with fail
        go_roundw
        case rel => exact ⟨k + 1, by omega, by go_num, 0, yl, HYR, by omega, by omega, by go_simp, by go_simp, by go_simp, by go_simp, (by first | omega | (simp; done) | (simp; omega)), (by repeat (first | assumption | exact Below.refl _ _ | refine balloc ?_ _ | refine bset ?_ (by first | (simp; done) | (simp; omega)) _ | refine bdrew ?_ | refine bstep ?_ (by assumption)))⟩
        case measure => (try simp [intOf]); omega
      · subst he
        subst h2
        have b1 : (yo == 0) = false := by simpa using h1
        have b2 : (yo != 0) = true := by simpa using h1
        go_wp2_with fail
        with_reducible refine (does_at HY.out _ hq0 (by omega) (by omega)).mono ?_
        rintro e3 w3 ⟨rfl, hb3⟩
        have yw3 : w.heap.size ≤ w3.heap.size := by (have := hb3.size; (try simp at this); omega)
        have c3_0 : w3.cell? ⟨w.heap.size, 0, none⟩ = some (.int .u16 yo) := keep hb3 (by go_simp)
        have f3_0 : w3.frozen? ⟨w.heap.size, 0, none⟩ = false := keepF hb3 (.int .u16 yo) (by go_simp) (by go_simp)
        have zw3_0 := cell_lt c3_0
        have c3_1 : w3.cell? ⟨w.heap.size, 1, none⟩ = some (.int .i64 b) := keep hb3 (by go_simp)
        have f3_1 : w3.frozen? ⟨w.heap.size, 1, none⟩ = false := keepF hb3 (.int .i64 b) (by go_simp) (by go_simp)
        have c3_2 : w3.cell? ⟨wr.heap.size, 0, none⟩ = some (.int .u8 q) := keep hb3 (by go_simp)
        have f3_2 : w3.frozen? ⟨wr.heap.size, 0, none⟩ = false := keepF hb3 (.int .u8 q) (by go_simp) (by go_simp)
        have zw3_2 := cell_lt c3_2
        have c3_3 : w3.cell? ⟨wr.heap.size, 1, none⟩ = some (.int .u16 x) := keep hb3 (by go_simp)
        have f3_3 : w3.frozen? ⟨wr.heap.size, 1, none⟩ = false := keepF hb3 (.int .u16 x) (by go_simp) (by go_simp)
        have c3_4 : w3.cell? ⟨wr.heap.size, 2, none⟩ = some (.int .i64 t) := keep hb3 (by go_simp)
        have f3_4 : w3.frozen? ⟨wr.heap.size, 2, none⟩ = false := keepF hb3 (.int .i64 t) (by go_simp) (by go_simp)
        go_wp2_with fail
        refine wp_region_below (by kernel_rfl) (by kernel_rfl) ?_
        apply quiet_do
        · rfl
        · intro wq hC; have k0 : wq.cell? ⟨w.heap.size, 0, none⟩ = some (.int .u16 yo) := hC.keep (by go_simp); have k1 : wq.cell? ⟨w.heap.size, 1, none⟩ = some (.int .i64 b) := hC.keep (by go_simp); have k2 : wq.cell? ⟨wr.heap.size, 0, none⟩ = some (.int .u8 q) := hC.keep (by go_simp); have k3 : wq.cell? ⟨wr.heap.size, 1, none⟩ = some (.int .u16 x) := hC.keep (by go_simp); have k4 : wq.cell? ⟨wr.heap.size, 2, none⟩ = some (.int .i64 t) := hC.keep (by go_simp); have k5 : wq.cell? ⟨w3.heap.size, 0, none⟩ = some (.int .u16 yo) := hC.keep (by go_simp); have k6 : wq.cell? ⟨w3.heap.size, 1, none⟩ = some (.int .i64 yl) := hC.keep (by go_simp); go_simp; first | done | rfl | exact ⟨rfl, rfl⟩
        simp only [Act.put, List.setIfInBounds_toArray, List.set_cons_zero, List.set_cons_succ]
        apply quiet_do
        · rfl
        · intro wq hC; have k0 : wq.cell? ⟨w.heap.size, 0, none⟩ = some (.int .u16 yo) := hC.keep (by go_simp); have k1 : wq.cell? ⟨w.heap.size, 1, none⟩ = some (.int .i64 b) := hC.keep (by go_simp); have k2 : wq.cell? ⟨wr.heap.size, 0, none⟩ = some (.int .u8 q) := hC.keep (by go_simp); have k3 : wq.cell? ⟨wr.heap.size, 1, none⟩ = some (.int .u16 x) := hC.keep (by go_simp); have k4 : wq.cell? ⟨wr.heap.size, 2, none⟩ = some (.int .i64 t) := hC.keep (by go_simp); have k5 : wq.cell? ⟨w3.heap.size, 0, none⟩ = some (.int .u16 yo) := hC.keep (by go_simp); have k6 : wq.cell? ⟨w3.heap.size, 1, none⟩ = some (.int .i64 yl) := hC.keep (by go_simp); go_simp; refine (right_at HYR.out _).mono ?_; rintro eq wq2 ⟨rfl, hbq⟩; exact ⟨rfl, hC.step hbq⟩
        simp only [Act.put, List.setIfInBounds_toArray, List.set_cons_zero, List.set_cons_succ]
        apply quiet_do
        · rfl
        · intro wq hC; have k0 : wq.cell? ⟨w.heap.size, 0, none⟩ = some (.int .u16 yo) := hC.keep (by go_simp); have k1 : wq.cell? ⟨w.heap.size, 1, none⟩ = some (.int .i64 b) := hC.keep (by go_simp); have k2 : wq.cell? ⟨wr.heap.size, 0, none⟩ = some (.int .u8 q) := hC.keep (by go_simp); have k3 : wq.cell? ⟨wr.heap.size, 1, none⟩ = some (.int .u16 x) := hC.keep (by go_simp); have k4 : wq.cell? ⟨wr.heap.size, 2, none⟩ = some (.int .i64 t) := hC.keep (by go_simp); have k5 : wq.cell? ⟨w3.heap.size, 0, none⟩ = some (.int .u16 yo) := hC.keep (by go_simp); have k6 : wq.cell? ⟨w3.heap.size, 1, none⟩ = some (.int .i64 yl) := hC.keep (by go_simp); go_simp; first | done | rfl | exact ⟨rfl, rfl⟩
        simp only [Act.put, List.setIfInBounds_toArray, List.set_cons_zero, List.set_cons_succ]
        apply quiet_do
        · rfl
        · intro wq hC; have k0 : wq.cell? ⟨w.heap.size, 0, none⟩ = some (.int .u16 yo) := hC.keep (by go_simp); have k1 : wq.cell? ⟨w.heap.size, 1, none⟩ = some (.int .i64 b) := hC.keep (by go_simp); have k2 : wq.cell? ⟨wr.heap.size, 0, none⟩ = some (.int .u8 q) := hC.keep (by go_simp); have k3 : wq.cell? ⟨wr.heap.size, 1, none⟩ = some (.int .u16 x) := hC.keep (by go_simp); have k4 : wq.cell? ⟨wr.heap.size, 2, none⟩ = some (.int .i64 t) := hC.keep (by go_simp); have k5 : wq.cell? ⟨w3.heap.size, 0, none⟩ = some (.int .u16 yo) := hC.keep (by go_simp); have k6 : wq.cell? ⟨w3.heap.size, 1, none⟩ = some (.int .i64 yl) := hC.keep (by go_simp); go_simp; first | done | rfl | exact ⟨rfl, rfl⟩
        simp only [Act.put, List.setIfInBounds_toArray, List.set_cons_zero, List.set_cons_succ]
        apply quiet_do
        · rfl
        · intro wq hC; have k0 : wq.cell? ⟨w.heap.size, 0, none⟩ = some (.int .u16 yo) := hC.keep (by go_simp); have k1 : wq.cell? ⟨w.heap.size, 1, none⟩ = some (.int .i64 b) := hC.keep (by go_simp); have k2 : wq.cell? ⟨wr.heap.size, 0, none⟩ = some (.int .u8 q) := hC.keep (by go_simp); have k3 : wq.cell? ⟨wr.heap.size, 1, none⟩ = some (.int .u16 x) := hC.keep (by go_simp); have k4 : wq.cell? ⟨wr.heap.size, 2, none⟩ = some (.int .i64 t) := hC.keep (by go_simp); have k5 : wq.cell? ⟨w3.heap.size, 0, none⟩ = some (.int .u16 yo) := hC.keep (by go_simp); have k6 : wq.cell? ⟨w3.heap.size, 1, none⟩ = some (.int .i64 yl) := hC.keep (by go_simp); go_simp; first | done | rfl | exact ⟨rfl, rfl⟩
        simp only [Act.put, List.setIfInBounds_toArray, List.set_cons_zero, List.set_cons_succ]
        apply quiet_do
        · rfl
        · intro wq hC; have k0 : wq.cell? ⟨w.heap.size, 0, none⟩ = some (.int .u16 yo) := hC.keep (by go_simp); have k1 : wq.cell? ⟨w.heap.size, 1, none⟩ = some (.int .i64 b) := hC.keep (by go_simp); have k2 : wq.cell? ⟨wr.heap.size, 0, none⟩ = some (.int .u8 q) := hC.keep (by go_simp); have k3 : wq.cell? ⟨wr.heap.size, 1, none⟩ = some (.int .u16 x) := hC.keep (by go_simp); have k4 : wq.cell? ⟨wr.heap.size, 2, none⟩ = some (.int .i64 t) := hC.keep (by go_simp); have k5 : wq.cell? ⟨w3.heap.size, 0, none⟩ = some (.int .u16 yo) := hC.keep (by go_simp); have k6 : wq.cell? ⟨w3.heap.size, 1, none⟩ = some (.int .i64 yl) := hC.keep (by go_simp); go_simp; first | done | rfl | exact ⟨rfl, rfl⟩
        simp only [Act.put, List.setIfInBounds_toArray, List.set_cons_zero, List.set_cons_succ]
        apply quiet_do
        · rfl
        · intro wq hC; have k0 : wq.cell? ⟨w.heap.size, 0, none⟩ = some (.int .u16 yo) := hC.keep (by go_simp); have k1 : wq.cell? ⟨w.heap.size, 1, none⟩ = some (.int .i64 b) := hC.keep (by go_simp); have k2 : wq.cell? ⟨wr.heap.size, 0, none⟩ = some (.int .u8 q) := hC.keep (by go_simp); have k3 : wq.cell? ⟨wr.heap.size, 1, none⟩ = some (.int .u16 x) := hC.keep (by go_simp); have k4 : wq.cell? ⟨wr.heap.size, 2, none⟩ = some (.int .i64 t) := hC.keep (by go_simp); have k5 : wq.cell? ⟨w3.heap.size, 0, none⟩ = some (.int .u16 yo) := hC.keep (by go_simp); have k6 : wq.cell? ⟨w3.heap.size, 1, none⟩ = some (.int .i64 yl) := hC.keep (by go_simp); go_simp; first | done | rfl | exact ⟨rfl, rfl⟩
        simp only [Act.put, List.setIfInBounds_toArray, List.set_cons_zero, List.set_cons_succ]
        refine quiet_not (by rfl) ?_
        simp only [Act.put, List.setIfInBounds_toArray, List.set_cons_zero, List.set_cons_succ]
        refine quiet_not (by rfl) ?_
        simp only [Act.put, List.setIfInBounds_toArray, List.set_cons_zero, List.set_cons_succ]
        refine quiet_not (by rfl) ?_
        simp only [Act.put, List.setIfInBounds_toArray, List.set_cons_zero, List.set_cons_succ]
        apply quiet_do
        · rfl
        · intro wq hC; have k0 : wq.cell? ⟨w.heap.size, 0, none⟩ = some (.int .u16 yo) := hC.keep (by go_simp); have k1 : wq.cell? ⟨w.heap.size, 1, none⟩ = some (.int .i64 b) := hC.keep (by go_simp); have k2 : wq.cell? ⟨wr.heap.size, 0, none⟩ = some (.int .u8 q) := hC.keep (by go_simp); have k3 : wq.cell? ⟨wr.heap.size, 1, none⟩ = some (.int .u16 x) := hC.keep (by go_simp); have k4 : wq.cell? ⟨wr.heap.size, 2, none⟩ = some (.int .i64 t) := hC.keep (by go_simp); have k5 : wq.cell? ⟨w3.heap.size, 0, none⟩ = some (.int .u16 yo) := hC.keep (by go_simp); have k6 : wq.cell? ⟨w3.heap.size, 1, none⟩ = some (.int .i64 yl) := hC.keep (by go_simp); go_simp; first | done | rfl | exact ⟨rfl, rfl⟩
        simp only [Act.put, List.setIfInBounds_toArray, List.set_cons_zero, List.set_cons_succ]
        apply quiet_do
        · rfl
        · intro wq hC; have k0 : wq.cell? ⟨w.heap.size, 0, none⟩ = some (.int .u16 yo) := hC.keep (by go_simp); have k1 : wq.cell? ⟨w.heap.size, 1, none⟩ = some (.int .i64 b) := hC.keep (by go_simp); have k2 : wq.cell? ⟨wr.heap.size, 0, none⟩ = some (.int .u8 q) := hC.keep (by go_simp); have k3 : wq.cell? ⟨wr.heap.size, 1, none⟩ = some (.int .u16 x) := hC.keep (by go_simp); have k4 : wq.cell? ⟨wr.heap.size, 2, none⟩ = some (.int .i64 t) := hC.keep (by go_simp); have k5 : wq.cell? ⟨w3.heap.size, 0, none⟩ = some (.int .u16 yo) := hC.keep (by go_simp); have k6 : wq.cell? ⟨w3.heap.size, 1, none⟩ = some (.int .i64 yl) := hC.keep (by go_simp); go_simp; first | done | rfl | exact ⟨rfl, rfl⟩
        simp only [Act.put, List.setIfInBounds_toArray, List.set_cons_zero, List.set_cons_succ]
        apply quiet_do
        · rfl
        · intro wq hC; have k0 : wq.cell? ⟨w.heap.size, 0, none⟩ = some (.int .u16 yo) := hC.keep (by go_simp); have k1 : wq.cell? ⟨w.heap.size, 1, none⟩ = some (.int .i64 b) := hC.keep (by go_simp); have k2 : wq.cell? ⟨wr.heap.size, 0, none⟩ = some (.int .u8 q) := hC.keep (by go_simp); have k3 : wq.cell? ⟨wr.heap.size, 1, none⟩ = some (.int .u16 x) := hC.keep (by go_simp); have k4 : wq.cell? ⟨wr.heap.size, 2, none⟩ = some (.int .i64 t) := hC.keep (by go_simp); have k5 : wq.cell? ⟨w3.heap.size, 0, none⟩ = some (.int .u16 yo) := hC.keep (by go_simp); have k6 : wq.cell? ⟨w3.heap.size, 1, none⟩ = some (.int .i64 yl) := hC.keep (by go_simp); go_simp; first | done | rfl | exact ⟨rfl, rfl⟩
        simp only [Act.put, List.setIfInBounds_toArray, List.set_cons_zero, List.set_cons_succ]
        apply quiet_do
        · rfl
        · intro wq hC; have k0 : wq.cell? ⟨w.heap.size, 0, none⟩ = some (.int .u16 yo) := hC.keep (by go_simp); have k1 : wq.cell? ⟨w.heap.size, 1, none⟩ = some (.int .i64 b) := hC.keep (by go_simp); have k2 : wq.cell? ⟨wr.heap.size, 0, none⟩ = some (.int .u8 q) := hC.keep (by go_simp); have k3 : wq.cell? ⟨wr.heap.size, 1, none⟩ = some (.int .u16 x) := hC.keep (by go_simp); have k4 : wq.cell? ⟨wr.heap.size, 2, none⟩ = some (.int .i64 t) := hC.keep (by go_simp); have k5 : wq.cell? ⟨w3.heap.size, 0, none⟩ = some (.int .u16 yo) := hC.keep (by go_simp); have k6 : wq.cell? ⟨w3.heap.size, 1, none⟩ = some (.int .i64 yl) := hC.keep (by go_simp); go_simp; first | done | rfl | exact ⟨rfl, rfl⟩
        simp only [Act.put, List.setIfInBounds_toArray, List.set_cons_zero, List.set_cons_succ]
        apply quiet_do
        · rfl
        · intro wq hC; have k0 : wq.cell? ⟨w.heap.size, 0, none⟩ = some (.int .u16 yo) := hC.keep (by go_simp); have k1 : wq.cell? ⟨w.heap.size, 1, none⟩ = some (.int .i64 b) := hC.keep (by go_simp); have k2 : wq.cell? ⟨wr.heap.size, 0, none⟩ = some (.int .u8 q) := hC.keep (by go_simp); have k3 : wq.cell? ⟨wr.heap.size, 1, none⟩ = some (.int .u16 x) := hC.keep (by go_simp); have k4 : wq.cell? ⟨wr.heap.size, 2, none⟩ = some (.int .i64 t) := hC.keep (by go_simp); have k5 : wq.cell? ⟨w3.heap.size, 0, none⟩ = some (.int .u16 yo) := hC.keep (by go_simp); have k6 : wq.cell? ⟨w3.heap.size, 1, none⟩ = some (.int .i64 yl) := hC.keep (by go_simp); go_simp; first | done | rfl | exact ⟨rfl, rfl⟩
        simp only [Act.put, List.setIfInBounds_toArray, List.set_cons_zero, List.set_cons_succ]
        apply quiet_do
        · rfl
        · intro wq hC; have k0 : wq.cell? ⟨w.heap.size, 0, none⟩ = some (.int .u16 yo) := hC.keep (by go_simp); have k1 : wq.cell? ⟨w.heap.size, 1, none⟩ = some (.int .i64 b) := hC.keep (by go_simp); have k2 : wq.cell? ⟨wr.heap.size, 0, none⟩ = some (.int .u8 q) := hC.keep (by go_simp); have k3 : wq.cell? ⟨wr.heap.size, 1, none⟩ = some (.int .u16 x) := hC.keep (by go_simp); have k4 : wq.cell? ⟨wr.heap.size, 2, none⟩ = some (.int .i64 t) := hC.keep (by go_simp); have k5 : wq.cell? ⟨w3.heap.size, 0, none⟩ = some (.int .u16 yo) := hC.keep (by go_simp); have k6 : wq.cell? ⟨w3.heap.size, 1, none⟩ = some (.int .i64 yl) := hC.keep (by go_simp); go_simp; first | done | rfl | exact ⟨rfl, rfl⟩
        simp only [Act.put, List.setIfInBounds_toArray, List.set_cons_zero, List.set_cons_succ]
        apply quiet_do
        · rfl
        · intro wq hC; have k0 : wq.cell? ⟨w.heap.size, 0, none⟩ = some (.int .u16 yo) := hC.keep (by go_simp); have k1 : wq.cell? ⟨w.heap.size, 1, none⟩ = some (.int .i64 b) := hC.keep (by go_simp); have k2 : wq.cell? ⟨wr.heap.size, 0, none⟩ = some (.int .u8 q) := hC.keep (by go_simp); have k3 : wq.cell? ⟨wr.heap.size, 1, none⟩ = some (.int .u16 x) := hC.keep (by go_simp); have k4 : wq.cell? ⟨wr.heap.size, 2, none⟩ = some (.int .i64 t) := hC.keep (by go_simp); have k5 : wq.cell? ⟨w3.heap.size, 0, none⟩ = some (.int .u16 yo) := hC.keep (by go_simp); have k6 : wq.cell? ⟨w3.heap.size, 1, none⟩ = some (.int .i64 yl) := hC.keep (by go_simp); go_simp; first | done | rfl | exact ⟨rfl, rfl⟩
        simp only [Act.put, List.setIfInBounds_toArray, List.set_cons_zero, List.set_cons_succ]
        apply quiet_do
        · rfl
        · intro wq hC; have k0 : wq.cell? ⟨w.heap.size, 0, none⟩ = some (.int .u16 yo) := hC.keep (by go_simp); have k1 : wq.cell? ⟨w.heap.size, 1, none⟩ = some (.int .i64 b) := hC.keep (by go_simp); have k2 : wq.cell? ⟨wr.heap.size, 0, none⟩ = some (.int .u8 q) := hC.keep (by go_simp); have k3 : wq.cell? ⟨wr.heap.size, 1, none⟩ = some (.int .u16 x) := hC.keep (by go_simp); have k4 : wq.cell? ⟨wr.heap.size, 2, none⟩ = some (.int .i64 t) := hC.keep (by go_simp); have k5 : wq.cell? ⟨w3.heap.size, 0, none⟩ = some (.int .u16 yo) := hC.keep (by go_simp); have k6 : wq.cell? ⟨w3.heap.size, 1, none⟩ = some (.int .i64 yl) := hC.keep (by go_simp); go_simp; first | done | rfl | exact ⟨rfl, rfl⟩
        simp only [Act.put, List.setIfInBounds_toArray, List.set_cons_zero, List.set_cons_succ]
        apply quiet_do
        · rfl
        · intro wq hC; have k0 : wq.cell? ⟨w.heap.size, 0, none⟩ = some (.int .u16 yo) := hC.keep (by go_simp); have k1 : wq.cell? ⟨w.heap.size, 1, none⟩ = some (.int .i64 b) := hC.keep (by go_simp); have k2 : wq.cell? ⟨wr.heap.size, 0, none⟩ = some (.int .u8 q) := hC.keep (by go_simp); have k3 : wq.cell? ⟨wr.heap.size, 1, none⟩ = some (.int .u16 x) := hC.keep (by go_simp); have k4 : wq.cell? ⟨wr.heap.size, 2, none⟩ = some (.int .i64 t) := hC.keep (by go_simp); have k5 : wq.cell? ⟨w3.heap.size, 0, none⟩ = some (.int .u16 yo) := hC.keep (by go_simp); have k6 : wq.cell? ⟨w3.heap.size, 1, none⟩ = some (.int .i64 yl) := hC.keep (by go_simp); go_simp; first | done | rfl | exact ⟨rfl, rfl⟩
        simp only [Act.put, List.setIfInBounds_toArray, List.set_cons_zero, List.set_cons_succ]
        apply quiet_do
        · rfl
        · intro wq hC; have k0 : wq.cell? ⟨w.heap.size, 0, none⟩ = some (.int .u16 yo) := hC.keep (by go_simp); have k1 : wq.cell? ⟨w.heap.size, 1, none⟩ = some (.int .i64 b) := hC.keep (by go_simp); have k2 : wq.cell? ⟨wr.heap.size, 0, none⟩ = some (.int .u8 q) := hC.keep (by go_simp); have k3 : wq.cell? ⟨wr.heap.size, 1, none⟩ = some (.int .u16 x) := hC.keep (by go_simp); have k4 : wq.cell? ⟨wr.heap.size, 2, none⟩ = some (.int .i64 t) := hC.keep (by go_simp); have k5 : wq.cell? ⟨w3.heap.size, 0, none⟩ = some (.int .u16 yo) := hC.keep (by go_simp); have k6 : wq.cell? ⟨w3.heap.size, 1, none⟩ = some (.int .i64 yl) := hC.keep (by go_simp); go_simp; first | done | rfl | exact ⟨rfl, rfl⟩
        simp only [Act.put, List.setIfInBounds_toArray, List.set_cons_zero, List.set_cons_succ]
        apply quiet_do
        · rfl
        · intro wq hC; have k0 : wq.cell? ⟨w.heap.size, 0, none⟩ = some (.int .u16 yo) := hC.keep (by go_simp); have k1 : wq.cell? ⟨w.heap.size, 1, none⟩ = some (.int .i64 b) := hC.keep (by go_simp); have k2 : wq.cell? ⟨wr.heap.size, 0, none⟩ = some (.int .u8 q) := hC.keep (by go_simp); have k3 : wq.cell? ⟨wr.heap.size, 1, none⟩ = some (.int .u16 x) := hC.keep (by go_simp); have k4 : wq.cell? ⟨wr.heap.size, 2, none⟩ = some (.int .i64 t) := hC.keep (by go_simp); have k5 : wq.cell? ⟨w3.heap.size, 0, none⟩ = some (.int .u16 yo) := hC.keep (by go_simp); have k6 : wq.cell? ⟨w3.heap.size, 1, none⟩ = some (.int .i64 yl) := hC.keep (by go_simp); go_simp; first | done | rfl | exact ⟨rfl, rfl⟩
        simp only [Act.put, List.setIfInBounds_toArray, List.set_cons_zero, List.set_cons_succ]
        apply quiet_do
        · rfl
        · intro wq hC; have k0 : wq.cell? ⟨w.heap.size, 0, none⟩ = some (.int .u16 yo) := hC.keep (by go_simp); have k1 : wq.cell? ⟨w.heap.size, 1, none⟩ = some (.int .i64 b) := hC.keep (by go_simp); have k2 : wq.cell? ⟨wr.heap.size, 0, none⟩ = some (.int .u8 q) := hC.keep (by go_simp); have k3 : wq.cell? ⟨wr.heap.size, 1, none⟩ = some (.int .u16 x) := hC.keep (by go_simp); have k4 : wq.cell? ⟨wr.heap.size, 2, none⟩ = some (.int .i64 t) := hC.keep (by go_simp); have k5 : wq.cell? ⟨w3.heap.size, 0, none⟩ = some (.int .u16 yo) := hC.keep (by go_simp); have k6 : wq.cell? ⟨w3.heap.size, 1, none⟩ = some (.int .i64 yl) := hC.keep (by go_simp); go_simp; first | done | rfl | exact ⟨rfl, rfl⟩
        simp only [Act.put, List.setIfInBounds_toArray, List.set_cons_zero, List.set_cons_succ]
        apply quiet_do
        · rfl
        · intro wq hC; have k0 : wq.cell? ⟨w.heap.size, 0, none⟩ = some (.int .u16 yo) := hC.keep (by go_simp); have k1 : wq.cell? ⟨w.heap.size, 1, none⟩ = some (.int .i64 b) := hC.keep (by go_simp); have k2 : wq.cell? ⟨wr.heap.size, 0, none⟩ = some (.int .u8 q) := hC.keep (by go_simp); have k3 : wq.cell? ⟨wr.heap.size, 1, none⟩ = some (.int .u16 x) := hC.keep (by go_simp); have k4 : wq.cell? ⟨wr.heap.size, 2, none⟩ = some (.int .i64 t) := hC.keep (by go_simp); have k5 : wq.cell? ⟨w3.heap.size, 0, none⟩ = some (.int .u16 yo) := hC.keep (by go_simp); have k6 : wq.cell? ⟨w3.heap.size, 1, none⟩ = some (.int .i64 yl) := hC.keep (by go_simp); go_simp; first | done | rfl | exact ⟨rfl, rfl⟩
        simp only [Act.put, List.setIfInBounds_toArray, List.set_cons_zero, List.set_cons_succ]
        apply quiet_do
        · rfl
        · intro wq hC; have k0 : wq.cell? ⟨w.heap.size, 0, none⟩ = some (.int .u16 yo) := hC.keep (by go_simp); have k1 : wq.cell? ⟨w.heap.size, 1, none⟩ = some (.int .i64 b) := hC.keep (by go_simp); have k2 : wq.cell? ⟨wr.heap.size, 0, none⟩ = some (.int .u8 q) := hC.keep (by go_simp); have k3 : wq.cell? ⟨wr.heap.size, 1, none⟩ = some (.int .u16 x) := hC.keep (by go_simp); have k4 : wq.cell? ⟨wr.heap.size, 2, none⟩ = some (.int .i64 t) := hC.keep (by go_simp); have k5 : wq.cell? ⟨w3.heap.size, 0, none⟩ = some (.int .u16 yo) := hC.keep (by go_simp); have k6 : wq.cell? ⟨w3.heap.size, 1, none⟩ = some (.int .i64 yl) := hC.keep (by go_simp); go_simp; first | done | rfl | exact ⟨rfl, rfl⟩
        simp only [Act.put, List.setIfInBounds_toArray, List.set_cons_zero, List.set_cons_succ]
        apply quiet_do
        · rfl
        · intro wq hC; have k0 : wq.cell? ⟨w.heap.size, 0, none⟩ = some (.int .u16 yo) := hC.keep (by go_simp); have k1 : wq.cell? ⟨w.heap.size, 1, none⟩ = some (.int .i64 b) := hC.keep (by go_simp); have k2 : wq.cell? ⟨wr.heap.size, 0, none⟩ = some (.int .u8 q) := hC.keep (by go_simp); have k3 : wq.cell? ⟨wr.heap.size, 1, none⟩ = some (.int .u16 x) := hC.keep (by go_simp); have k4 : wq.cell? ⟨wr.heap.size, 2, none⟩ = some (.int .i64 t) := hC.keep (by go_simp); have k5 : wq.cell? ⟨w3.heap.size, 0, none⟩ = some (.int .u16 yo) := hC.keep (by go_simp); have k6 : wq.cell? ⟨w3.heap.size, 1, none⟩ = some (.int .i64 yl) := hC.keep (by go_simp); go_simp; first | done | rfl | exact ⟨rfl, rfl⟩
        simp only [Act.put, List.setIfInBounds_toArray, List.set_cons_zero, List.set_cons_succ]
        apply quiet_do
        · rfl
        · intro wq hC; have k0 : wq.cell? ⟨w.heap.size, 0, none⟩ = some (.int .u16 yo) := hC.keep (by go_simp); have k1 : wq.cell? ⟨w.heap.size, 1, none⟩ = some (.int .i64 b) := hC.keep (by go_simp); have k2 : wq.cell? ⟨wr.heap.size, 0, none⟩ = some (.int .u8 q) := hC.keep (by go_simp); have k3 : wq.cell? ⟨wr.heap.size, 1, none⟩ = some (.int .u16 x) := hC.keep (by go_simp); have k4 : wq.cell? ⟨wr.heap.size, 2, none⟩ = some (.int .i64 t) := hC.keep (by go_simp); have k5 : wq.cell? ⟨w3.heap.size, 0, none⟩ = some (.int .u16 yo) := hC.keep (by go_simp); have k6 : wq.cell? ⟨w3.heap.size, 1, none⟩ = some (.int .i64 yl) := hC.keep (by go_simp); go_simp; first | done | rfl | exact ⟨rfl, rfl⟩
        simp only [Act.put, List.setIfInBounds_toArray, List.set_cons_zero, List.set_cons_succ]
        apply quiet_do
        · rfl
        · intro wq hC; have k0 : wq.cell? ⟨w.heap.size, 0, none⟩ = some (.int .u16 yo) := hC.keep (by go_simp); have k1 : wq.cell? ⟨w.heap.size, 1, none⟩ = some (.int .i64 b) := hC.keep (by go_simp); have k2 : wq.cell? ⟨wr.heap.size, 0, none⟩ = some (.int .u8 q) := hC.keep (by go_simp); have k3 : wq.cell? ⟨wr.heap.size, 1, none⟩ = some (.int .u16 x) := hC.keep (by go_simp); have k4 : wq.cell? ⟨wr.heap.size, 2, none⟩ = some (.int .i64 t) := hC.keep (by go_simp); have k5 : wq.cell? ⟨w3.heap.size, 0, none⟩ = some (.int .u16 yo) := hC.keep (by go_simp); have k6 : wq.cell? ⟨w3.heap.size, 1, none⟩ = some (.int .i64 yl) := hC.keep (by go_simp); go_simp; first | done | rfl | exact ⟨rfl, rfl⟩
        simp only [Act.put, List.setIfInBounds_toArray, List.set_cons_zero, List.set_cons_succ]
        apply quiet_do
        · rfl
        · intro wq hC; have k0 : wq.cell? ⟨w.heap.size, 0, none⟩ = some (.int .u16 yo) := hC.keep (by go_simp); have k1 : wq.cell? ⟨w.heap.size, 1, none⟩ = some (.int .i64 b) := hC.keep (by go_simp); have k2 : wq.cell? ⟨wr.heap.size, 0, none⟩ = some (.int .u8 q) := hC.keep (by go_simp); have k3 : wq.cell? ⟨wr.heap.size, 1, none⟩ = some (.int .u16 x) := hC.keep (by go_simp); have k4 : wq.cell? ⟨wr.heap.size, 2, none⟩ = some (.int .i64 t) := hC.keep (by go_simp); have k5 : wq.cell? ⟨w3.heap.size, 0, none⟩ = some (.int .u16 yo) := hC.keep (by go_simp); have k6 : wq.cell? ⟨w3.heap.size, 1, none⟩ = some (.int .i64 yl) := hC.keep (by go_simp); go_simp; first | done | rfl | exact ⟨rfl, rfl⟩
        simp only [Act.put, List.setIfInBounds_toArray, List.set_cons_zero, List.set_cons_succ]
        apply quiet_do
        · rfl
        · intro wq hC; have k0 : wq.cell? ⟨w.heap.size, 0, none⟩ = some (.int .u16 yo) := hC.keep (by go_simp); have k1 : wq.cell? ⟨w.heap.size, 1, none⟩ = some (.int .i64 b) := hC.keep (by go_simp); have k2 : wq.cell? ⟨wr.heap.size, 0, none⟩ = some (.int .u8 q) := hC.keep (by go_simp); have k3 : wq.cell? ⟨wr.heap.size, 1, none⟩ = some (.int .u16 x) := hC.keep (by go_simp); have k4 : wq.cell? ⟨wr.heap.size, 2, none⟩ = some (.int .i64 t) := hC.keep (by go_simp); have k5 : wq.cell? ⟨w3.heap.size, 0, none⟩ = some (.int .u16 yo) := hC.keep (by go_simp); have k6 : wq.cell? ⟨w3.heap.size, 1, none⟩ = some (.int .i64 yl) := hC.keep (by go_simp); go_simp; first | done | rfl | exact ⟨rfl, rfl⟩
        simp only [Act.put, List.setIfInBounds_toArray, List.set_cons_zero, List.set_cons_succ]
        apply quiet_do
        · rfl
        · intro wq hC; have k0 : wq.cell? ⟨w.heap.size, 0, none⟩ = some (.int .u16 yo) := hC.keep (by go_simp); have k1 : wq.cell? ⟨w.heap.size, 1, none⟩ = some (.int .i64 b) := hC.keep (by go_simp); have k2 : wq.cell? ⟨wr.heap.size, 0, none⟩ = some (.int .u8 q) := hC.keep (by go_simp); have k3 : wq.cell? ⟨wr.heap.size, 1, none⟩ = some (.int .u16 x) := hC.keep (by go_simp); have k4 : wq.cell? ⟨wr.heap.size, 2, none⟩ = some (.int .i64 t) := hC.keep (by go_simp); have k5 : wq.cell? ⟨w3.heap.size, 0, none⟩ = some (.int .u16 yo) := hC.keep (by go_simp); have k6 : wq.cell? ⟨w3.heap.size, 1, none⟩ = some (.int .i64 yl) := hC.keep (by go_simp); go_simp; first | done | rfl | exact ⟨rfl, rfl⟩
        simp only [Act.put, List.setIfInBounds_toArray, List.set_cons_zero, List.set_cons_succ]
        apply quiet_do
        · rfl
        · intro wq hC; have k0 : wq.cell? ⟨w.heap.size, 0, none⟩ = some (.int .u16 yo) := hC.keep (by go_simp); have k1 : wq.cell? ⟨w.heap.size, 1, none⟩ = some (.int .i64 b) := hC.keep (by go_simp); have k2 : wq.cell? ⟨wr.heap.size, 0, none⟩ = some (.int .u8 q) := hC.keep (by go_simp); have k3 : wq.cell? ⟨wr.heap.size, 1, none⟩ = some (.int .u16 x) := hC.keep (by go_simp); have k4 : wq.cell? ⟨wr.heap.size, 2, none⟩ = some (.int .i64 t) := hC.keep (by go_simp); have k5 : wq.cell? ⟨w3.heap.size, 0, none⟩ = some (.int .u16 yo) := hC.keep (by go_simp); have k6 : wq.cell? ⟨w3.heap.size, 1, none⟩ = some (.int .i64 yl) := hC.keep (by go_simp); go_simp; first | done | rfl | exact ⟨rfl, rfl⟩
        simp only [Act.put, List.setIfInBounds_toArray, List.set_cons_zero, List.set_cons_succ]
        apply quiet_do
        · rfl
        · intro wq hC; have k0 : wq.cell? ⟨w.heap.size, 0, none⟩ = some (.int .u16 yo) := hC.keep (by go_simp); have k1 : wq.cell? ⟨w.heap.size, 1, none⟩ = some (.int .i64 b) := hC.keep (by go_simp); have k2 : wq.cell? ⟨wr.heap.size, 0, none⟩ = some (.int .u8 q) := hC.keep (by go_simp); have k3 : wq.cell? ⟨wr.heap.size, 1, none⟩ = some (.int .u16 x) := hC.keep (by go_simp); have k4 : wq.cell? ⟨wr.heap.size, 2, none⟩ = some (.int .i64 t) := hC.keep (by go_simp); have k5 : wq.cell? ⟨w3.heap.size, 0, none⟩ = some (.int .u16 yo) := hC.keep (by go_simp); have k6 : wq.cell? ⟨w3.heap.size, 1, none⟩ = some (.int .i64 yl) := hC.keep (by go_simp); go_simp; first | done | rfl | exact ⟨rfl, rfl⟩
        simp only [Act.put, List.setIfInBounds_toArray, List.set_cons_zero, List.set_cons_succ]
        apply quiet_do
        · rfl
        · intro wq hC; have k0 : wq.cell? ⟨w.heap.size, 0, none⟩ = some (.int .u16 yo) := hC.keep (by go_simp); have k1 : wq.cell? ⟨w.heap.size, 1, none⟩ = some (.int .i64 b) := hC.keep (by go_simp); have k2 : wq.cell? ⟨wr.heap.size, 0, none⟩ = some (.int .u8 q) := hC.keep (by go_simp); have k3 : wq.cell? ⟨wr.heap.size, 1, none⟩ = some (.int .u16 x) := hC.keep (by go_simp); have k4 : wq.cell? ⟨wr.heap.size, 2, none⟩ = some (.int .i64 t) := hC.keep (by go_simp); have k5 : wq.cell? ⟨w3.heap.size, 0, none⟩ = some (.int .u16 yo) := hC.keep (by go_simp); have k6 : wq.cell? ⟨w3.heap.size, 1, none⟩ = some (.int .i64 yl) := hC.keep (by go_simp); go_simp; first | done | rfl | exact ⟨rfl, rfl⟩
        simp only [Act.put, List.setIfInBounds_toArray, List.set_cons_zero, List.set_cons_succ]
        apply quiet_do
        · rfl
        · intro wq hC; have k0 : wq.cell? ⟨w.heap.size, 0, none⟩ = some (.int .u16 yo) := hC.keep (by go_simp); have k1 : wq.cell? ⟨w.heap.size, 1, none⟩ = some (.int .i64 b) := hC.keep (by go_simp); have k2 : wq.cell? ⟨wr.heap.size, 0, none⟩ = some (.int .u8 q) := hC.keep (by go_simp); have k3 : wq.cell? ⟨wr.heap.size, 1, none⟩ = some (.int .u16 x) := hC.keep (by go_simp); have k4 : wq.cell? ⟨wr.heap.size, 2, none⟩ = some (.int .i64 t) := hC.keep (by go_simp); have k5 : wq.cell? ⟨w3.heap.size, 0, none⟩ = some (.int .u16 yo) := hC.keep (by go_simp); have k6 : wq.cell? ⟨w3.heap.size, 1, none⟩ = some (.int .i64 yl) := hC.keep (by go_simp); go_simp; first | done | rfl | exact ⟨rfl, rfl⟩
        simp only [Act.put, List.setIfInBounds_toArray, List.set_cons_zero, List.set_cons_succ]
        apply quiet_do
        · rfl
        · intro wq hC; have k0 : wq.cell? ⟨w.heap.size, 0, none⟩ = some (.int .u16 yo) := hC.keep (by go_simp); have k1 : wq.cell? ⟨w.heap.size, 1, none⟩ = some (.int .i64 b) := hC.keep (by go_simp); have k2 : wq.cell? ⟨wr.heap.size, 0, none⟩ = some (.int .u8 q) := hC.keep (by go_simp); have k3 : wq.cell? ⟨wr.heap.size, 1, none⟩ = some (.int .u16 x) := hC.keep (by go_simp); have k4 : wq.cell? ⟨wr.heap.size, 2, none⟩ = some (.int .i64 t) := hC.keep (by go_simp); have k5 : wq.cell? ⟨w3.heap.size, 0, none⟩ = some (.int .u16 yo) := hC.keep (by go_simp); have k6 : wq.cell? ⟨w3.heap.size, 1, none⟩ = some (.int .i64 yl) := hC.keep (by go_simp); go_simp; refine (free_at HF.out _).mono ?_; rintro eq wq2 ⟨rfl, hbq⟩; exact ⟨rfl, hC.step hbq⟩
        simp only [Act.put, List.setIfInBounds_toArray, List.set_cons_zero, List.set_cons_succ]
        apply quiet_do
        · rfl
        · intro wq hC; have k0 : wq.cell? ⟨w.heap.size, 0, none⟩ = some (.int .u16 yo) := hC.keep (by go_simp); have k1 : wq.cell? ⟨w.heap.size, 1, none⟩ = some (.int .i64 b) := hC.keep (by go_simp); have k2 : wq.cell? ⟨wr.heap.size, 0, none⟩ = some (.int .u8 q) := hC.keep (by go_simp); have k3 : wq.cell? ⟨wr.heap.size, 1, none⟩ = some (.int .u16 x) := hC.keep (by go_simp); have k4 : wq.cell? ⟨wr.heap.size, 2, none⟩ = some (.int .i64 t) := hC.keep (by go_simp); have k5 : wq.cell? ⟨w3.heap.size, 0, none⟩ = some (.int .u16 yo) := hC.keep (by go_simp); have k6 : wq.cell? ⟨w3.heap.size, 1, none⟩ = some (.int .i64 yl) := hC.keep (by go_simp); go_simp; first | done | rfl | exact ⟨rfl, rfl⟩
        simp only [Act.put, List.setIfInBounds_toArray, List.set_cons_zero, List.set_cons_succ]
        apply quiet_do
        · rfl
        · intro wq hC; have k0 : wq.cell? ⟨w.heap.size, 0, none⟩ = some (.int .u16 yo) := hC.keep (by go_simp); have k1 : wq.cell? ⟨w.heap.size, 1, none⟩ = some (.int .i64 b) := hC.keep (by go_simp); have k2 : wq.cell? ⟨wr.heap.size, 0, none⟩ = some (.int .u8 q) := hC.keep (by go_simp); have k3 : wq.cell? ⟨wr.heap.size, 1, none⟩ = some (.int .u16 x) := hC.keep (by go_simp); have k4 : wq.cell? ⟨wr.heap.size, 2, none⟩ = some (.int .i64 t) := hC.keep (by go_simp); have k5 : wq.cell? ⟨w3.heap.size, 0, none⟩ = some (.int .u16 yo) := hC.keep (by go_simp); have k6 : wq.cell? ⟨w3.heap.size, 1, none⟩ = some (.int .i64 yl) := hC.keep (by go_simp); go_simp; first | done | rfl | exact ⟨rfl, rfl⟩
        simp only [Act.put, List.setIfInBounds_toArray, List.set_cons_zero, List.set_cons_succ]
        intro w4 hb4
        have hb4 : Below _ _ _ := hb4
        have yw4 : w.heap.size ≤ w4.heap.size := by (have := hb4.size; (try simp at this); omega)
        have c4_0 : w4.cell? ⟨w.heap.size, 0, none⟩ = some (.int .u16 yo) := keep hb4 (by go_simp)
        have f4_0 : w4.frozen? ⟨w.heap.size, 0, none⟩ = false := keepF hb4 (.int .u16 yo) (by go_simp) (by go_simp)
        have zw4_0 := cell_lt c4_0
        have c4_1 : w4.cell? ⟨w.heap.size, 1, none⟩ = some (.int .i64 b) := keep hb4 (by go_simp)
        have f4_1 : w4.frozen? ⟨w.heap.size, 1, none⟩ = false := keepF hb4 (.int .i64 b) (by go_simp) (by go_simp)
        have c4_2 : w4.cell? ⟨wr.heap.size, 0, none⟩ = some (.int .u8 q) := keep hb4 (by go_simp)
        have f4_2 : w4.frozen? ⟨wr.heap.size, 0, none⟩ = false := keepF hb4 (.int .u8 q) (by go_simp) (by go_simp)
        have zw4_2 := cell_lt c4_2
        have c4_3 : w4.cell? ⟨wr.heap.size, 1, none⟩ = some (.int .u16 x) := keep hb4 (by go_simp)
        have f4_3 : w4.frozen? ⟨wr.heap.size, 1, none⟩ = false := keepF hb4 (.int .u16 x) (by go_simp) (by go_simp)
        have c4_4 : w4.cell? ⟨wr.heap.size, 2, none⟩ = some (.int .i64 t) := keep hb4 (by go_simp)
        have f4_4 : w4.frozen? ⟨wr.heap.size, 2, none⟩ = false := keepF hb4 (.int .i64 t) (by go_simp) (by go_simp)
        have c4_5 : w4.cell? ⟨w3.heap.size, 0, none⟩ = some (.int .u16 yo) := keep hb4 (by go_simp)
        have f4_5 : w4.frozen? ⟨w3.heap.size, 0, none⟩ = false := keepF hb4 (.int .u16 yo) (by go_simp) (by go_simp)
        have zw4_5 := cell_lt c4_5
        have c4_6 : w4.cell? ⟨w3.heap.size, 1, none⟩ = some (.int .i64 yl) := keep hb4 (by go_simp)
        have f4_6 : w4.frozen? ⟨w3.heap.size, 1, none⟩ = false := keepF hb4 (.int .i64 yl) (by go_simp) (by go_simp)
        clear c3_0 f3_0 c3_1 f3_1 c3_2 f3_2 c3_3 f3_3 c3_4 f3_4
        go_wp2_with fail
        go_roundw
        case rel => exact ⟨k + 1, by omega, by go_num, yo, yl, HYR, by omega, by omega, by go_simp, by go_simp, by go_simp, by go_simp, (by first | omega | (simp; done) | (simp; omega)), (by repeat (first | assumption | exact Below.refl _ _ | refine balloc ?_ _ | refine bset ?_ (by first | (simp; done) | (simp; omega)) _ | refine bdrew ?_ | refine bstep ?_ (by assumption)))⟩
        case measure => (try simp [intOf]); omega
    · have hkN : k = N := by omega
      subst hkN
      clear hlt
      go_wp2_with fail
      with_reducible refine (awake18_any _).mono ?_
      rintro e3 w3 ⟨rfl, hb3⟩
      have yw3 : w.heap.size ≤ w3.heap.size := by (have := hb3.size; (try simp at this); omega)
      have c3_0 : w3.cell? ⟨w.heap.size, 0, none⟩ = some (.int .u16 a) := keep hb3 (by go_simp)
      have f3_0 : w3.frozen? ⟨w.heap.size, 0, none⟩ = false := keepF hb3 (.int .u16 a) (by go_simp) (by go_simp)
      have zw3_0 := cell_lt c3_0
      have c3_1 : w3.cell? ⟨w.heap.size, 1, none⟩ = some (.int .i64 b) := keep hb3 (by go_simp)
      have f3_1 : w3.frozen? ⟨w.heap.size, 1, none⟩ = false := keepF hb3 (.int .i64 b) (by go_simp) (by go_simp)
      go_wp2_with fail
      go_ret
      exact ⟨rfl, (by repeat (first | assumption | exact Below.refl _ _ | refine balloc ?_ _ | refine bset ?_ (by first | (simp; done) | (simp; omega)) _ | refine bdrew ?_ | refine bstep ?_ (by assumption)))⟩
end Go.Proofs.Ytnhfholodillaaa
