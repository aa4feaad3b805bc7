/- The law LeaseEnds, walked: for any owner, numbers of ticks and place between it returns true and writes nothing that was there. -/
import Derived.Test.YtnhfholodillaaaD
set_option linter.unusedVariables false
set_option linter.unusedSimpArgs false
namespace Go.Proofs.Ytnhfholodillaaa
open Go.RowKit

theorem fre_run {o b : Int} (ho : ¬ o = 0) (hb : 1 ≤ b) : fre o b = false := by simp [fre, rgt, ho, hb]
theorem tik_run {o b : Int} (ho : ¬ o = 0) (hb : 2 ≤ b) : tik o b = (o, b - 1, false) := by
  have h1 := fre_run ho (by omega : 1 ≤ b)
  have h2 : ¬ b = -1 := by omega
  have h3 : ¬ b = 1 := by omega
  simp [tik, h1, h2, h3]
theorem tik_last {o : Int} (ho : ¬ o = 0) : tik o 1 = (0, 0, true) := by
  have h1 := fre_run ho (by omega : (1:Int) ≤ 1)
  simp [tik, h1]
theorem tak_run {o b m : Int} (ho : ¬ o = 0) (hb : 1 ≤ b) (hm : 1 ≤ m) : tak o b o m = (o, m, 0) := by
  have h1 := fre_run ho hb
  have h2 : ¬ b = -1 := by omega
  simp [tak, hasB, h1, h2, ho, hm]
theorem tak_free {o m : Int} (ho : ¬ o = 0) (hm : 1 ≤ m) : tak 0 0 o m = (o, m, 0) := by
  simp [tak, hasB, fre, ho, hm]

set_option maxRecDepth 100000 in
set_option maxHeartbeats 4000000 in
theorem ends_walk (o f s v : Int) (w : World) (ho : 0 ≤ o ∧ o ≤ 65535) (hf : 0 ≤ f ∧ f ≤ 65535) (hs : 0 ≤ s ∧ s ≤ 65535) (hv : 0 ≤ v ∧ v ≤ 65535) :
    Calls Try.prog 6 #[.int .u16 o, .int .u16 f, .int .u16 s, .int .u16 v] w fun e' w' => e' = .returned (.bool true) ∧ Below w.heap.size w w' := by
  obtain ⟨ho0, ho1⟩ := ho
  obtain ⟨hf0, hf1⟩ := hf
  obtain ⟨hs0, hs1⟩ := hs
  obtain ⟨hv0, hv1⟩ := hv
  by_cases h0 : o = 0
  · subst h0
    go_enter Try.func6, Try.ntmps6
    go_wp2_with (go_at_call 31; refine (awake18_any _).mono ?_; rintro e1 w1 ⟨rfl, hb1⟩)
    go_ret
    exact ⟨rfl, hb1⟩
  · have h0b : (o == 0) = false := by simpa using h0
    go_enter Try.func6, Try.ntmps6
    go_wp2_with fail
    with_reducible refine (tak_at (x := o) (y := 1 + f % 300) (z := 0) (tak_free h0 (by omega)) _).mono ?_
    rintro e1 w1 ⟨rfl, hb1⟩
    have yw1 : w.heap.size ≤ w1.heap.size := hb1.size
    go_wp2_with fail
    have hn : 1 ≤ 1 + f % 300 ∧ 1 + f % 300 ≤ 300 := by omega
    have hm : 1 ≤ 1 + s % 300 ∧ 1 + s % 300 ≤ 300 := by omega
    generalize 1 + f % 300 = n at *
    generalize 1 + s % 300 = m at *
    have hK : 0 ≤ v % n ∧ v % n < n := ⟨Int.emod_nonneg _ (by omega), Int.emod_lt_of_pos _ (by omega)⟩
    generalize v % n = K at *
    obtain ⟨hn0, hn1⟩ := hn
    obtain ⟨hm0, hm1⟩ := hm
    obtain ⟨hK0, hK1⟩ := hK
    go_loopw [45] (fun i wr => ∃ k : Int, 0 ≤ k ∧ k ≤ K ∧ i = .int .i64 k ∧ wr.cell? ⟨w1.heap.size, 0, none⟩ = some (.int .u16 o) ∧ wr.cell? ⟨w1.heap.size, 1, none⟩ = some (.int .i64 (n - k)) ∧ wr.frozen? ⟨w1.heap.size, 0, none⟩ = false ∧ wr.frozen? ⟨w1.heap.size, 1, none⟩ = false ∧ w1.heap.size < wr.heap.size ∧ Below w.heap.size w wr) (fun i _ => (K - intOf i).toNat)
    case atStart => exact ⟨0, by omega, by omega, rfl, by go_simp, by (go_simp; try omega), by go_simp, by go_simp, by simp, (by repeat (first | assumption | exact Below.refl _ _ | refine balloc ?_ _ | refine bset ?_ (by first | (simp; done) | (simp; omega)) _ | refine bdrew ?_ | refine bstep ?_ (by assumption)))⟩
    case round =>
      obtain ⟨k, hk0, hk1, rfl, c0, c1, f0, f1, hz, hBel⟩ := hrel
      have hwr := hBel.size
      by_cases hlt : k < K
      · have H1 := Lib.hid (tik_run h0 (by omega : 2 ≤ n - k))
        go_wp2_with fail
        with_reducible refine (tick_at H1.out (by omega) (by omega) _).mono ?_
        rintro e2 w2 ⟨rfl, hb2⟩
        have yw2 : w.heap.size ≤ w2.heap.size := by (have := hb2.size; (try simp at this); omega)
        have c2_0 : w2.cell? ⟨w1.heap.size, 0, none⟩ = some (.int .u16 o) := keep hb2 (by go_simp)
        have f2_0 : w2.frozen? ⟨w1.heap.size, 0, none⟩ = false := keepF hb2 (.int .u16 o) (by go_simp) (by go_simp)
        have zw2_0 := cell_lt c2_0
        have c2_1 : w2.cell? ⟨w1.heap.size, 1, none⟩ = some (.int .i64 (n - k)) := keep hb2 (by go_simp)
        have f2_1 : w2.frozen? ⟨w1.heap.size, 1, none⟩ = false := keepF hb2 (.int .i64 (n - k)) (by go_simp) (by go_simp)
        have hx : ((n - k - 1) != (n - k - 1)) = false := by simp
        go_wp2_with fail
        go_roundw
        case rel => exact ⟨k + 1, by omega, by omega, rfl, by go_simp, by (go_simp; try omega), by go_simp, by go_simp, (by first | omega | (simp; omega)), (by repeat (first | assumption | exact Below.refl _ _ | refine balloc ?_ _ | refine bset ?_ (by first | (simp; done) | (simp; omega)) _ | refine bdrew ?_ | refine bstep ?_ (by assumption)))⟩
        case measure => (try simp [intOf]); omega
      · have hkK : k = K := by omega
        subst hkK
        have H2 := Lib.hid (tak_run h0 (by omega : 1 ≤ n - k) hm0)
        clear hlt
        go_wp2_with fail
        with_reducible refine (tak_at H2.out _).mono ?_
        rintro e2 w2 ⟨rfl, hb2⟩
        have yw2 : w.heap.size ≤ w2.heap.size := by (have := hb2.size; (try simp at this); omega)
        have c2_0 : w2.cell? ⟨w1.heap.size, 0, none⟩ = some (.int .u16 o) := keep hb2 (by go_simp)
        have f2_0 : w2.frozen? ⟨w1.heap.size, 0, none⟩ = false := keepF hb2 (.int .u16 o) (by go_simp) (by go_simp)
        have zw2_0 := cell_lt c2_0
        have c2_1 : w2.cell? ⟨w1.heap.size, 1, none⟩ = some (.int .i64 (n - k)) := keep hb2 (by go_simp)
        have f2_1 : w2.frozen? ⟨w1.heap.size, 1, none⟩ = false := keepF hb2 (.int .i64 (n - k)) (by go_simp) (by go_simp)
        go_wp2_with fail
        go_loopw [77] (fun i wr => ∃ j : Int, 0 ≤ j ∧ j ≤ m ∧ i = .int .i64 j ∧ ∃ a b : Int, ((j < m ∧ a = o ∧ b = m - j) ∨ (j = m ∧ a = 0 ∧ b = 0)) ∧ wr.cell? ⟨w1.heap.size, 0, none⟩ = some (.int .u16 a) ∧ wr.cell? ⟨w1.heap.size, 1, none⟩ = some (.int .i64 b) ∧ wr.frozen? ⟨w1.heap.size, 0, none⟩ = false ∧ wr.frozen? ⟨w1.heap.size, 1, none⟩ = false ∧ w1.heap.size < wr.heap.size ∧ Below w.heap.size w wr) (fun i _ => (m - intOf i).toNat)
        case atStart => exact ⟨0, by omega, by omega, rfl, o, m, .inl ⟨by omega, rfl, by omega⟩, by go_simp, by go_simp, by go_simp, by go_simp, (by first | omega | (simp; omega)), (by repeat (first | assumption | exact Below.refl _ _ | refine balloc ?_ _ | refine bset ?_ (by first | (simp; done) | (simp; omega)) _ | refine bdrew ?_ | refine bstep ?_ (by assumption)))⟩
        case round =>
          obtain ⟨j, hj0, hj1, rfl, a, b, hab, c0, c1, f0, f1, hz, hBel2⟩ := hrel
          have hwr := hBel2.size
          rcases hab with ⟨hlt, ea, eb⟩ | ⟨ej, ea, eb⟩
          · subst ea
            subst eb
            by_cases hl : j = m - 1
            · have H3 : Hid (tik a (m - j) = (0, 0, true)) := Lib.hid (by rw [show m - j = 1 from by omega]; exact tik_last h0)
              have hjb : (j == m - 1) = true := by simp; omega
              have Hl := Lib.hid hl
              clear hl
              go_wp2_with fail
              with_reducible refine (tick_at H3.out (by omega) (by omega) _).mono ?_
              rintro e3 w3 ⟨rfl, hb3⟩
              have yw3 : w.heap.size ≤ w3.heap.size := by (have := hb3.size; (try simp at this); omega)
              have c3_0 : w3.cell? ⟨w1.heap.size, 0, none⟩ = some (.int .u16 a) := keep hb3 (by go_simp)
              have f3_0 : w3.frozen? ⟨w1.heap.size, 0, none⟩ = false := keepF hb3 (.int .u16 a) (by go_simp) (by go_simp)
              have zw3_0 := cell_lt c3_0
              have c3_1 : w3.cell? ⟨w1.heap.size, 1, none⟩ = some (.int .i64 (m - j)) := keep hb3 (by go_simp)
              have f3_1 : w3.frozen? ⟨w1.heap.size, 1, none⟩ = false := keepF hb3 (.int .i64 (m - j)) (by go_simp) (by go_simp)
              go_wp2_with fail
              with_reducible refine (free_at (z := true) (by decide) _).mono ?_
              rintro e4 w4 ⟨rfl, hb4⟩
              have yw4 : w.heap.size ≤ w4.heap.size := by (have := hb4.size; (try simp at this); omega)
              have c4_0 : w4.cell? ⟨w1.heap.size, 0, none⟩ = some (.int .u16 a) := keep hb4 (by go_simp)
              have f4_0 : w4.frozen? ⟨w1.heap.size, 0, none⟩ = false := keepF hb4 (.int .u16 a) (by go_simp) (by go_simp)
              have zw4_0 := cell_lt c4_0
              have c4_1 : w4.cell? ⟨w1.heap.size, 1, none⟩ = some (.int .i64 (m - j)) := keep hb4 (by go_simp)
              have f4_1 : w4.frozen? ⟨w1.heap.size, 1, none⟩ = false := keepF hb4 (.int .i64 (m - j)) (by go_simp) (by go_simp)
              have c4_2 : w4.cell? ⟨w3.heap.size, 0, none⟩ = some (.int .u16 0) := keep hb4 (by go_simp)
              have f4_2 : w4.frozen? ⟨w3.heap.size, 0, none⟩ = false := keepF hb4 (.int .u16 0) (by go_simp) (by go_simp)
              have zw4_2 := cell_lt c4_2
              have c4_3 : w4.cell? ⟨w3.heap.size, 1, none⟩ = some (.int .i64 0) := keep hb4 (by go_simp)
              have f4_3 : w4.frozen? ⟨w3.heap.size, 1, none⟩ = false := keepF hb4 (.int .i64 0) (by go_simp) (by go_simp)
              clear c3_0 f3_0 c3_1 f3_1
              go_wp2_with fail
              go_roundw
              case rel => exact ⟨j + 1, by omega, by omega, rfl, 0, 0, .inr ⟨by have := Hl.out; omega, rfl, rfl⟩, by go_simp, by go_simp, by go_simp, by go_simp, (by first | omega | (simp; omega)), (by repeat (first | assumption | exact Below.refl _ _ | refine balloc ?_ _ | refine bset ?_ (by first | (simp; done) | (simp; omega)) _ | refine bdrew ?_ | refine bstep ?_ (by assumption)))⟩
              case measure => (try simp [intOf]); omega
            · have H3 := Lib.hid (tik_run h0 (by omega : 2 ≤ m - j))
              have hjb : (j == m - 1) = false := by simp; omega
              have H4 := Lib.hid (fre_run h0 (by omega : 1 ≤ m - j - 1))
              go_wp2_with fail
              with_reducible refine (tick_at H3.out (by omega) (by omega) _).mono ?_
              rintro e3 w3 ⟨rfl, hb3⟩
              have yw3 : w.heap.size ≤ w3.heap.size := by (have := hb3.size; (try simp at this); omega)
              have c3_0 : w3.cell? ⟨w1.heap.size, 0, none⟩ = some (.int .u16 a) := keep hb3 (by go_simp)
              have f3_0 : w3.frozen? ⟨w1.heap.size, 0, none⟩ = false := keepF hb3 (.int .u16 a) (by go_simp) (by go_simp)
              have zw3_0 := cell_lt c3_0
              have c3_1 : w3.cell? ⟨w1.heap.size, 1, none⟩ = some (.int .i64 (m - j)) := keep hb3 (by go_simp)
              have f3_1 : w3.frozen? ⟨w1.heap.size, 1, none⟩ = false := keepF hb3 (.int .i64 (m - j)) (by go_simp) (by go_simp)
              go_wp2_with fail
              with_reducible refine (free_at H4.out _).mono ?_
              rintro e4 w4 ⟨rfl, hb4⟩
              have yw4 : w.heap.size ≤ w4.heap.size := by (have := hb4.size; (try simp at this); omega)
              have c4_0 : w4.cell? ⟨w1.heap.size, 0, none⟩ = some (.int .u16 a) := keep hb4 (by go_simp)
              have f4_0 : w4.frozen? ⟨w1.heap.size, 0, none⟩ = false := keepF hb4 (.int .u16 a) (by go_simp) (by go_simp)
              have zw4_0 := cell_lt c4_0
              have c4_1 : w4.cell? ⟨w1.heap.size, 1, none⟩ = some (.int .i64 (m - j)) := keep hb4 (by go_simp)
              have f4_1 : w4.frozen? ⟨w1.heap.size, 1, none⟩ = false := keepF hb4 (.int .i64 (m - j)) (by go_simp) (by go_simp)
              have c4_2 : w4.cell? ⟨w3.heap.size, 0, none⟩ = some (.int .u16 a) := keep hb4 (by go_simp)
              have f4_2 : w4.frozen? ⟨w3.heap.size, 0, none⟩ = false := keepF hb4 (.int .u16 a) (by go_simp) (by go_simp)
              have zw4_2 := cell_lt c4_2
              have c4_3 : w4.cell? ⟨w3.heap.size, 1, none⟩ = some (.int .i64 (m - j - 1)) := keep hb4 (by go_simp)
              have f4_3 : w4.frozen? ⟨w3.heap.size, 1, none⟩ = false := keepF hb4 (.int .i64 (m - j - 1)) (by go_simp) (by go_simp)
              clear c3_0 f3_0 c3_1 f3_1
              go_wp2_with fail
              go_roundw
              case rel => exact ⟨j + 1, by omega, by omega, rfl, a, m - j - 1, .inl ⟨by omega, rfl, by omega⟩, by go_simp, by go_simp, by go_simp, by go_simp, (by first | omega | (simp; omega)), (by repeat (first | assumption | exact Below.refl _ _ | refine balloc ?_ _ | refine bset ?_ (by first | (simp; done) | (simp; omega)) _ | refine bdrew ?_ | refine bstep ?_ (by assumption)))⟩
              case measure => (try simp [intOf]); omega
          · subst ea
            subst eb
            have hjm : ¬ j < m := by omega
            clear ej
            go_wp2_with fail
            with_reducible refine (tick_at (x := 0) (y := 0) (z := false) (by decide) (by decide) (by decide) _).mono ?_
            rintro e3 w3 ⟨rfl, hb3⟩
            have yw3 : w.heap.size ≤ w3.heap.size := by (have := hb3.size; (try simp at this); omega)
            have c3_0 : w3.cell? ⟨w1.heap.size, 0, none⟩ = some (.int .u16 0) := keep hb3 (by go_simp)
            have f3_0 : w3.frozen? ⟨w1.heap.size, 0, none⟩ = false := keepF hb3 (.int .u16 0) (by go_simp) (by go_simp)
            have zw3_0 := cell_lt c3_0
            have c3_1 : w3.cell? ⟨w1.heap.size, 1, none⟩ = some (.int .i64 0) := keep hb3 (by go_simp)
            have f3_1 : w3.frozen? ⟨w1.heap.size, 1, none⟩ = false := keepF hb3 (.int .i64 0) (by go_simp) (by go_simp)
            go_wp2_with fail
            with_reducible refine (awake18_any _).mono ?_
            rintro e4 w4 ⟨rfl, hb4⟩
            have yw4 : w.heap.size ≤ w4.heap.size := by (have := hb4.size; (try simp at this); omega)
            have c4_0 : w4.cell? ⟨w1.heap.size, 0, none⟩ = some (.int .u16 0) := keep hb4 (by go_simp)
            have f4_0 : w4.frozen? ⟨w1.heap.size, 0, none⟩ = false := keepF hb4 (.int .u16 0) (by go_simp) (by go_simp)
            have zw4_0 := cell_lt c4_0
            have c4_1 : w4.cell? ⟨w1.heap.size, 1, none⟩ = some (.int .i64 0) := keep hb4 (by go_simp)
            have f4_1 : w4.frozen? ⟨w1.heap.size, 1, none⟩ = false := keepF hb4 (.int .i64 0) (by go_simp) (by go_simp)
            have c4_2 : w4.cell? ⟨w3.heap.size, 0, none⟩ = some (.int .u16 0) := keep hb4 (by go_simp)
            have f4_2 : w4.frozen? ⟨w3.heap.size, 0, none⟩ = false := keepF hb4 (.int .u16 0) (by go_simp) (by go_simp)
            have zw4_2 := cell_lt c4_2
            have c4_3 : w4.cell? ⟨w3.heap.size, 1, none⟩ = some (.int .i64 0) := keep hb4 (by go_simp)
            have f4_3 : w4.frozen? ⟨w3.heap.size, 1, none⟩ = false := keepF hb4 (.int .i64 0) (by go_simp) (by go_simp)
            clear c3_0 f3_0 c3_1 f3_1
            go_wp2_with fail
            go_ret
            exact ⟨rfl, (by repeat (first | assumption | exact Below.refl _ _ | refine balloc ?_ _ | refine bset ?_ (by first | (simp; done) | (simp; omega)) _ | refine bdrew ?_ | refine bstep ?_ (by assumption)))⟩
end Go.Proofs.Ytnhfholodillaaa
