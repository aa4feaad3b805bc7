/- The law LeaseHolds, walked: for any two owners and anything done it returns true and writes nothing that was there. -/
import Derived.Test.YtnhfholodillaaaD
import Derived.Test.YtnhfholodillaaaR
set_option linter.unusedVariables false
set_option linter.unusedSimpArgs false
namespace Go.Proofs.Ytnhfholodillaaa
open Go.RowKit

def El52 (cs : List Value) : Prop := ∃ k o t : Int, cs = [.int .u8 k, .int .u16 o, .int .i64 t] ∧ (0 ≤ k ∧ k ≤ 255) ∧ (0 ≤ o ∧ o ≤ 65535) ∧ (-9223372036854775808 ≤ t ∧ t ≤ 9223372036854775807)

theorem fre_held {o : Int} (ho : ¬ o = 0) : fre o (-1) = false := by simp [fre, rgt, ho]
theorem doz_held {k o p t : Int} (ho : ¬ o = 0) (hop : ¬ o = p) : (doz k p t o (-1)).1 = o ∧ (doz k p t o (-1)).2.1 = -1 := by
  have hf := fre_held ho
  have hb : (o == p) = false := by simpa using hop
  have hn : (o != p) = true := by simpa using hop
  refine ⟨?_, ?_⟩ <;> (unfold doz; simp [tak, own, tik, boo, kept, hasB, hf, hb, hn]; repeat' split) <;> simp_all
theorem holds_tak {o : Int} (ho : ¬ o = 0) : tak o (-1) o 50 = (o, -1, 0) := by
  have hf := fre_held ho
  simp [tak, hasB, hf, ho]
theorem holds_first {o : Int} (ho : ¬ o = 0) : tak 0 0 o 1 = (o, 1, 0) := by simp [tak, hasB, fre, ho]
theorem holds_hold {o : Int} (ho : ¬ o = 0) : own o 1 o o (-1) = (o, -1, 0) := by simp [own, hasB, fre, rgt, ho]
theorem holds_leave {o : Int} (ho : ¬ o = 0) : own o (-1) o 0 0 = (0, 0, 0) := by
  have hf := fre_held ho
  simp [own, hasB, hf, ho]

set_option maxRecDepth 100000 in
set_option maxHeartbeats 4000000 in
theorem holds_walk (o p : Int) (A : Option Addr) (n cap : Nat) (w : World) (ho : 0 ≤ o ∧ o ≤ 65535) (hp : 0 ≤ p ∧ p ≤ 65535) (hn : n ≤ cap) (hcap : cap ≤ maxLen) (hA : A = none → cap = 0) (hv : RowsV w A n 3 El52) :
    Calls Try.prog 7 #[.int .u16 o, .int .u16 p, .slice A n cap] w fun e' w' => e' = .returned (.bool true) ∧ Below w.heap.size w w' := by
  obtain ⟨ho0, ho1⟩ := ho
  obtain ⟨hp0, hp1⟩ := hp
  unfold maxLen at hcap
  have HV := Lib.hid hv
  have HA := Lib.hid hA
  clear hv hA
  by_cases hd : o = 0 ∨ o = p
  · rcases hd with hd | hd
    all_goals
      subst hd
      go_enter Try.func7, Try.ntmps7
      go_wp2_with (go_at_call 31; refine (awake18_any _).mono ?_; rintro e1 w1 ⟨rfl, hb1⟩)
      all_goals go_ret
      all_goals exact ⟨rfl, hb1⟩
  · have h0 : ¬ o = 0 := fun h => hd (.inl h)
    have h1 : ¬ o = p := fun h => hd (.inr h)
    have h0b : (o == 0) = false := by simpa using h0
    have h1b : (o == p) = false := by simpa using h1
    clear hd
    go_enter Try.func7, Try.ntmps7
    go_wp2_with fail
    with_reducible refine (tak_at (holds_first h0) _).mono ?_
    rintro e1 w1 ⟨rfl, hb1⟩
    have yw1 : w.heap.size ≤ w1.heap.size := hb1.size
    go_wp2_with fail
    with_reducible refine (hold_at (holds_hold h0) _).mono ?_
    rintro e2 w2 ⟨rfl, hb2⟩
    have yw2 : w.heap.size ≤ w2.heap.size := by (have := hb2.size; (try simp at this); omega)
    have c2_0 : w2.cell? ⟨w1.heap.size, 0, none⟩ = some (.int .u16 o) := keep hb2 (by go_simp)
    have f2_0 : w2.frozen? ⟨w1.heap.size, 0, none⟩ = false := keepF hb2 (.int .u16 o) (by go_simp) (by go_simp)
    have zw2_0 := cell_lt c2_0
    have c2_1 : w2.cell? ⟨w1.heap.size, 1, none⟩ = some (.int .i64 1) := keep hb2 (by go_simp)
    have f2_1 : w2.frozen? ⟨w1.heap.size, 1, none⟩ = false := keepF hb2 (.int .i64 1) (by go_simp) (by go_simp)
    go_wp2_with fail
    have hM : 0 ≤ min (n : Int) 100 ∧ min (n : Int) 100 ≤ n := by omega
    generalize min (n : Int) 100 = M at *
    obtain ⟨hM0, hM1⟩ := hM
    obtain ⟨N, rfl⟩ := Int.eq_ofNat_of_zero_le hM0
    rw [show max (N : Int) 0 = N from by omega, Int.toNat_natCast]
    have hNn : N ≤ n := by omega
    go_loopw [52] (fun i wr => ∃ k : Nat, k ≤ N ∧ i = .int .i64 k ∧ wr.cell? ⟨w1.heap.size, 0, none⟩ = some (.int .u16 o) ∧ wr.cell? ⟨w1.heap.size, 1, none⟩ = some (.int .i64 (-1)) ∧ wr.frozen? ⟨w1.heap.size, 0, none⟩ = false ∧ wr.frozen? ⟨w1.heap.size, 1, none⟩ = false ∧ w1.heap.size < wr.heap.size ∧ Below w.heap.size w wr) (fun i _ => N - (intOf i).toNat)
    case atStart => exact ⟨0, by omega, rfl, by go_simp, by go_simp, by go_simp, by go_simp, (by first | omega | (simp; omega)), (by repeat (first | assumption | exact Below.refl _ _ | refine balloc ?_ _ | refine bset ?_ (by first | (simp; done) | (simp; omega)) _ | refine bdrew ?_ | refine bstep ?_ (by assumption)))⟩
    case round =>
      obtain ⟨k, hk, rfl, c0, c1, f0, f1, hz, hBel⟩ := hrel
      have hwr := hBel.size
      by_cases hlt : k < N
      · obtain ⟨b, off, cs, hA, _, ⟨q, x, t, rfl, hq, hx, ht⟩, hc⟩ := HV.out.at (by omega) (show k < n by omega)
        subst hA
        have d0 : wr.cell? ⟨b, off + k * 3, none⟩ = some (.int .u8 q) := by
          have := hc 0 (by omega)
          rw [hBel.cell (p := ⟨b, off + k * 3, none⟩) (cell_lt this)]; exact this
        have d1 : wr.cell? ⟨b, off + k * 3 + 1, none⟩ = some (.int .u16 x) := by
          have := hc 1 (by omega)
          rw [hBel.cell (p := ⟨b, off + k * 3 + 1, none⟩) (cell_lt this)]; exact this
        have d2 : wr.cell? ⟨b, off + k * 3 + 2, none⟩ = some (.int .i64 t) := by
          have := hc 2 (by omega)
          rw [hBel.cell (p := ⟨b, off + k * 3 + 2, none⟩) (cell_lt this)]; exact this
        clear hc
        obtain ⟨hq0, hq1⟩ := hq
        obtain ⟨g1, g2⟩ := doz_held (k := q) (p := p) (t := t) h0 h1
        have G1 := Lib.hid g1
        have G2 := Lib.hid g2
        clear g1 g2
        go_wp2_with fail
        with_reducible refine (does_any _ _ _ _ _ _ hq0 (by omega) (by omega)).mono ?_
        rintro e3 w3 ⟨rfl, hb3⟩
        have yw3 : w.heap.size ≤ w3.heap.size := by (have := hb3.size; (try simp at this); omega)
        have c3_0 : w3.cell? ⟨w1.heap.size, 0, none⟩ = some (.int .u16 o) := keep hb3 (by go_simp)
        have f3_0 : w3.frozen? ⟨w1.heap.size, 0, none⟩ = false := keepF hb3 (.int .u16 o) (by go_simp) (by go_simp)
        have zw3_0 := cell_lt c3_0
        have c3_1 : w3.cell? ⟨w1.heap.size, 1, none⟩ = some (.int .i64 (-1)) := keep hb3 (by go_simp)
        have f3_1 : w3.frozen? ⟨w1.heap.size, 1, none⟩ = false := keepF hb3 (.int .i64 (-1)) (by go_simp) (by go_simp)
        rw [G1.out, G2.out]
        go_wp2_with fail
        go_roundw
        case rel => exact ⟨k + 1, by omega, by go_num, by go_simp, by go_simp, by go_simp, by go_simp, (by first | omega | (simp; omega)), (by repeat (first | assumption | exact Below.refl _ _ | refine balloc ?_ _ | refine bset ?_ (by first | (simp; done) | (simp; omega)) _ | refine bdrew ?_ | refine bstep ?_ (by assumption)))⟩
        case measure => (try simp [intOf]); omega
      · have hkN : k = N := by omega
        subst hkN
        clear hlt
        go_wp2_with fail
        with_reducible refine (tak_at (holds_tak h0) _).mono ?_
        rintro e3 w3 ⟨rfl, hb3⟩
        have yw3 : w.heap.size ≤ w3.heap.size := by (have := hb3.size; (try simp at this); omega)
        have c3_0 : w3.cell? ⟨w1.heap.size, 0, none⟩ = some (.int .u16 o) := keep hb3 (by go_simp)
        have f3_0 : w3.frozen? ⟨w1.heap.size, 0, none⟩ = false := keepF hb3 (.int .u16 o) (by go_simp) (by go_simp)
        have zw3_0 := cell_lt c3_0
        have c3_1 : w3.cell? ⟨w1.heap.size, 1, none⟩ = some (.int .i64 (-1)) := keep hb3 (by go_simp)
        have f3_1 : w3.frozen? ⟨w1.heap.size, 1, none⟩ = false := keepF hb3 (.int .i64 (-1)) (by go_simp) (by go_simp)
        go_wp2_with fail
        with_reducible refine (leave_at (holds_leave h0) _).mono ?_
        rintro e4 w4 ⟨rfl, hb4⟩
        have yw4 : w.heap.size ≤ w4.heap.size := by (have := hb4.size; (try simp at this); omega)
        have c4_0 : w4.cell? ⟨w1.heap.size, 0, none⟩ = some (.int .u16 o) := keep hb4 (by go_simp)
        have f4_0 : w4.frozen? ⟨w1.heap.size, 0, none⟩ = false := keepF hb4 (.int .u16 o) (by go_simp) (by go_simp)
        have zw4_0 := cell_lt c4_0
        have c4_1 : w4.cell? ⟨w1.heap.size, 1, none⟩ = some (.int .i64 (-1)) := keep hb4 (by go_simp)
        have f4_1 : w4.frozen? ⟨w1.heap.size, 1, none⟩ = false := keepF hb4 (.int .i64 (-1)) (by go_simp) (by go_simp)
        have c4_2 : w4.cell? ⟨w3.heap.size, 0, none⟩ = some (.int .u16 o) := keep hb4 (by go_simp)
        have f4_2 : w4.frozen? ⟨w3.heap.size, 0, none⟩ = false := keepF hb4 (.int .u16 o) (by go_simp) (by go_simp)
        have zw4_2 := cell_lt c4_2
        have c4_3 : w4.cell? ⟨w3.heap.size, 1, none⟩ = some (.int .i64 (-1)) := keep hb4 (by go_simp)
        have f4_3 : w4.frozen? ⟨w3.heap.size, 1, none⟩ = false := keepF hb4 (.int .i64 (-1)) (by go_simp) (by go_simp)
        clear c3_0 f3_0 c3_1 f3_1
        obtain ⟨x5, y5, z5, h5, h5z⟩ : ∃ x y z, tak 0 0 p 1 = (x, y, z) ∧ ((z == 0) = (p != 0)) := by
          by_cases hp : p = 0
          · subst hp; exact ⟨0, 0, 2, by decide, by decide⟩
          · exact ⟨p, 1, 0, holds_first hp, by simpa using hp⟩
        have H5 := Lib.hid h5
        clear h5
        go_wp2_with fail
        with_reducible refine (tak_at H5.out _).mono ?_
        rintro e5 w5 ⟨rfl, hb5⟩
        have yw5 : w.heap.size ≤ w5.heap.size := by (have := hb5.size; (try simp at this); omega)
        have c5_0 : w5.cell? ⟨w1.heap.size, 0, none⟩ = some (.int .u16 o) := keep hb5 (by go_simp)
        have f5_0 : w5.frozen? ⟨w1.heap.size, 0, none⟩ = false := keepF hb5 (.int .u16 o) (by go_simp) (by go_simp)
        have zw5_0 := cell_lt c5_0
        have c5_1 : w5.cell? ⟨w1.heap.size, 1, none⟩ = some (.int .i64 (-1)) := keep hb5 (by go_simp)
        have f5_1 : w5.frozen? ⟨w1.heap.size, 1, none⟩ = false := keepF hb5 (.int .i64 (-1)) (by go_simp) (by go_simp)
        have c5_2 : w5.cell? ⟨w3.heap.size, 0, none⟩ = some (.int .u16 o) := keep hb5 (by go_simp)
        have f5_2 : w5.frozen? ⟨w3.heap.size, 0, none⟩ = false := keepF hb5 (.int .u16 o) (by go_simp) (by go_simp)
        have zw5_2 := cell_lt c5_2
        have c5_3 : w5.cell? ⟨w3.heap.size, 1, none⟩ = some (.int .i64 (-1)) := keep hb5 (by go_simp)
        have f5_3 : w5.frozen? ⟨w3.heap.size, 1, none⟩ = false := keepF hb5 (.int .i64 (-1)) (by go_simp) (by go_simp)
        have c5_4 : w5.cell? ⟨w4.heap.size, 0, none⟩ = some (.int .u16 0) := keep hb5 (by go_simp)
        have f5_4 : w5.frozen? ⟨w4.heap.size, 0, none⟩ = false := keepF hb5 (.int .u16 0) (by go_simp) (by go_simp)
        have zw5_4 := cell_lt c5_4
        have c5_5 : w5.cell? ⟨w4.heap.size, 1, none⟩ = some (.int .i64 0) := keep hb5 (by go_simp)
        have f5_5 : w5.frozen? ⟨w4.heap.size, 1, none⟩ = false := keepF hb5 (.int .i64 0) (by go_simp) (by go_simp)
        clear c4_0 f4_0 c4_1 f4_1 c4_2 f4_2 c4_3 f4_3
        have h5y : ((z5 == 0) == (p != 0)) = true := by simp [h5z]
        go_wp2_with fail
        with_reducible refine (free_at (z := true) (by decide) _).mono ?_
        rintro e6 w6 ⟨rfl, hb6⟩
        have yw6 : w.heap.size ≤ w6.heap.size := by (have := hb6.size; (try simp at this); omega)
        have c6_0 : w6.cell? ⟨w1.heap.size, 0, none⟩ = some (.int .u16 o) := keep hb6 (by go_simp)
        have f6_0 : w6.frozen? ⟨w1.heap.size, 0, none⟩ = false := keepF hb6 (.int .u16 o) (by go_simp) (by go_simp)
        have zw6_0 := cell_lt c6_0
        have c6_1 : w6.cell? ⟨w1.heap.size, 1, none⟩ = some (.int .i64 (-1)) := keep hb6 (by go_simp)
        have f6_1 : w6.frozen? ⟨w1.heap.size, 1, none⟩ = false := keepF hb6 (.int .i64 (-1)) (by go_simp) (by go_simp)
        have c6_2 : w6.cell? ⟨w3.heap.size, 0, none⟩ = some (.int .u16 o) := keep hb6 (by go_simp)
        have f6_2 : w6.frozen? ⟨w3.heap.size, 0, none⟩ = false := keepF hb6 (.int .u16 o) (by go_simp) (by go_simp)
        have zw6_2 := cell_lt c6_2
        have c6_3 : w6.cell? ⟨w3.heap.size, 1, none⟩ = some (.int .i64 (-1)) := keep hb6 (by go_simp)
        have f6_3 : w6.frozen? ⟨w3.heap.size, 1, none⟩ = false := keepF hb6 (.int .i64 (-1)) (by go_simp) (by go_simp)
        have c6_4 : w6.cell? ⟨w4.heap.size, 0, none⟩ = some (.int .u16 0) := keep hb6 (by go_simp)
        have f6_4 : w6.frozen? ⟨w4.heap.size, 0, none⟩ = false := keepF hb6 (.int .u16 0) (by go_simp) (by go_simp)
        have zw6_4 := cell_lt c6_4
        have c6_5 : w6.cell? ⟨w4.heap.size, 1, none⟩ = some (.int .i64 0) := keep hb6 (by go_simp)
        have f6_5 : w6.frozen? ⟨w4.heap.size, 1, none⟩ = false := keepF hb6 (.int .i64 0) (by go_simp) (by go_simp)
        have c6_6 : w6.cell? ⟨w5.heap.size, 0, none⟩ = some (.int .u16 x5) := keep hb6 (by go_simp)
        have f6_6 : w6.frozen? ⟨w5.heap.size, 0, none⟩ = false := keepF hb6 (.int .u16 x5) (by go_simp) (by go_simp)
        have zw6_6 := cell_lt c6_6
        have c6_7 : w6.cell? ⟨w5.heap.size, 1, none⟩ = some (.int .i64 y5) := keep hb6 (by go_simp)
        have f6_7 : w6.frozen? ⟨w5.heap.size, 1, none⟩ = false := keepF hb6 (.int .i64 y5) (by go_simp) (by go_simp)
        clear c5_0 f5_0 c5_1 f5_1 c5_2 f5_2 c5_3 f5_3 c5_4 f5_4 c5_5 f5_5
        go_wp2_with fail
        with_reducible refine (awake18_any _).mono ?_
        rintro e7 w7 ⟨rfl, hb7⟩
        have yw7 : w.heap.size ≤ w7.heap.size := by (have := hb7.size; (try simp at this); omega)
        have c7_0 : w7.cell? ⟨w1.heap.size, 0, none⟩ = some (.int .u16 o) := keep hb7 (by go_simp)
        have f7_0 : w7.frozen? ⟨w1.heap.size, 0, none⟩ = false := keepF hb7 (.int .u16 o) (by go_simp) (by go_simp)
        have zw7_0 := cell_lt c7_0
        have c7_1 : w7.cell? ⟨w1.heap.size, 1, none⟩ = some (.int .i64 (-1)) := keep hb7 (by go_simp)
        have f7_1 : w7.frozen? ⟨w1.heap.size, 1, none⟩ = false := keepF hb7 (.int .i64 (-1)) (by go_simp) (by go_simp)
        have c7_2 : w7.cell? ⟨w3.heap.size, 0, none⟩ = some (.int .u16 o) := keep hb7 (by go_simp)
        have f7_2 : w7.frozen? ⟨w3.heap.size, 0, none⟩ = false := keepF hb7 (.int .u16 o) (by go_simp) (by go_simp)
        have zw7_2 := cell_lt c7_2
        have c7_3 : w7.cell? ⟨w3.heap.size, 1, none⟩ = some (.int .i64 (-1)) := keep hb7 (by go_simp)
        have f7_3 : w7.frozen? ⟨w3.heap.size, 1, none⟩ = false := keepF hb7 (.int .i64 (-1)) (by go_simp) (by go_simp)
        have c7_4 : w7.cell? ⟨w4.heap.size, 0, none⟩ = some (.int .u16 0) := keep hb7 (by go_simp)
        have f7_4 : w7.frozen? ⟨w4.heap.size, 0, none⟩ = false := keepF hb7 (.int .u16 0) (by go_simp) (by go_simp)
        have zw7_4 := cell_lt c7_4
        have c7_5 : w7.cell? ⟨w4.heap.size, 1, none⟩ = some (.int .i64 0) := keep hb7 (by go_simp)
        have f7_5 : w7.frozen? ⟨w4.heap.size, 1, none⟩ = false := keepF hb7 (.int .i64 0) (by go_simp) (by go_simp)
        have c7_6 : w7.cell? ⟨w5.heap.size, 0, none⟩ = some (.int .u16 x5) := keep hb7 (by go_simp)
        have f7_6 : w7.frozen? ⟨w5.heap.size, 0, none⟩ = false := keepF hb7 (.int .u16 x5) (by go_simp) (by go_simp)
        have zw7_6 := cell_lt c7_6
        have c7_7 : w7.cell? ⟨w5.heap.size, 1, none⟩ = some (.int .i64 y5) := keep hb7 (by go_simp)
        have f7_7 : w7.frozen? ⟨w5.heap.size, 1, none⟩ = false := keepF hb7 (.int .i64 y5) (by go_simp) (by go_simp)
        clear c6_0 f6_0 c6_1 f6_1 c6_2 f6_2 c6_3 f6_3 c6_4 f6_4 c6_5 f6_5 c6_6 f6_6 c6_7 f6_7
        go_wp2_with fail
        go_ret
        exact ⟨rfl, (by repeat (first | assumption | exact Below.refl _ _ | refine balloc ?_ _ | refine bset ?_ (by first | (simp; done) | (simp; omega)) _ | refine bdrew ?_ | refine bstep ?_ (by assumption)))⟩
end Go.Proofs.Ytnhfholodillaaa
