/- The law QueueNone, walked: for any two numbers it returns true and writes nothing that was there. -/
import Derived.Test.YtnhfholodillaaaQg
set_option linter.unusedVariables false
set_option linter.unusedSimpArgs false
namespace Go.Proofs.Ytnhfholodillaaa
open Go.RowKit

set_option maxRecDepth 100000 in
set_option maxHeartbeats 4000000 in
theorem none_walk (a b : Int) (w : World) (ha : 0 ≤ a ∧ a ≤ 4294967295) (hb : 0 ≤ b ∧ b ≤ 4294967295) :
    Calls Try.prog 11 #[.int .u32 a, .int .u32 b] w fun e' w' => e' = .returned (.bool true) ∧ Below w.heap.size w w' := by
  obtain ⟨ha0, ha1⟩ := ha
  obtain ⟨hb0, hb1⟩ := hb
  go_enter Try.func11, Try.ntmps11
  go_wp2_with fail
  go_loopw [15] (fun i wr => ∃ k : Nat, k ≤ 2 ∧ i = .int .i64 k ∧ wr.cell? ⟨w.heap.size, 34, none⟩ = some (.int .i64 0) ∧ wr.cell? ⟨w.heap.size + 1, 0, none⟩ = some (.pointer none) ∧ wr.cell? ⟨w.heap.size + 1, 1, none⟩ = some (.pointer (some ⟨w.heap.size, 0, none⟩)) ∧ Below w.heap.size w wr) (fun i _ => 2 - (intOf i).toNat)
  case atStart => exact ⟨0, by omega, rfl, by go_simp, by go_simp, by go_simp, (by repeat (first | assumption | exact Below.refl _ _ | refine balloc ?_ _ | refine bdrew ?_ | refine bset ?_ (by first | (simp; done) | (simp; omega)) _ | refine bstep ?_ (by assumption)))⟩
  case round =>
    obtain ⟨k, hk, rfl, c34, cs0, cs1, hBel⟩ := hrel
    have hwr := hBel.size
    by_cases h0 : k = 0
    · subst h0
      go_wp2_with fail
      with_reducible refine (first_nil _).mono ?_
      rintro e3 w3 ⟨rfl, hb3⟩
      have yw3 : w.heap.size ≤ w3.heap.size := by (have := hb3.size; (try simp at this); omega)
      have c3_0 : w3.cell? ⟨w.heap.size, 34, none⟩ = some (.int .i64 0) := keep hb3 (by go_simp)
      have c3_1 : w3.cell? ⟨w.heap.size + 1, 0, none⟩ = some (.pointer none) := keep hb3 (by go_simp)
      have zw3_1 := cell_lt c3_1
      have c3_2 : w3.cell? ⟨w.heap.size + 1, 1, none⟩ = some (.pointer (some ⟨w.heap.size, 0, none⟩)) := keep hb3 (by go_simp)
      clear c34 cs0 cs1
      go_wp2_with fail
      with_reducible refine (put_nil a _).mono ?_
      rintro e4 w4 ⟨rfl, hb4⟩
      have yw4 : w.heap.size ≤ w4.heap.size := by (have := hb4.size; (try simp at this); omega)
      have c4_0 : w4.cell? ⟨w.heap.size, 34, none⟩ = some (.int .i64 0) := keep hb4 (by go_simp)
      have c4_1 : w4.cell? ⟨w.heap.size + 1, 0, none⟩ = some (.pointer none) := keep hb4 (by go_simp)
      have zw4_1 := cell_lt c4_1
      have c4_2 : w4.cell? ⟨w.heap.size + 1, 1, none⟩ = some (.pointer (some ⟨w.heap.size, 0, none⟩)) := keep hb4 (by go_simp)
      clear c3_0 c3_1 c3_2
      go_wp2_with fail
      with_reducible refine (drop_nil a _).mono ?_
      rintro e5 w5 ⟨rfl, hb5⟩
      have yw5 : w.heap.size ≤ w5.heap.size := by (have := hb5.size; (try simp at this); omega)
      have c5_0 : w5.cell? ⟨w.heap.size, 34, none⟩ = some (.int .i64 0) := keep hb5 (by go_simp)
      have c5_1 : w5.cell? ⟨w.heap.size + 1, 0, none⟩ = some (.pointer none) := keep hb5 (by go_simp)
      have zw5_1 := cell_lt c5_1
      have c5_2 : w5.cell? ⟨w.heap.size + 1, 1, none⟩ = some (.pointer (some ⟨w.heap.size, 0, none⟩)) := keep hb5 (by go_simp)
      clear c4_0 c4_1 c4_2
      go_wp2_with fail
      with_reducible refine (len_nil _).mono ?_
      rintro e6 w6 ⟨rfl, hb6⟩
      have yw6 : w.heap.size ≤ w6.heap.size := by (have := hb6.size; (try simp at this); omega)
      have c6_0 : w6.cell? ⟨w.heap.size, 34, none⟩ = some (.int .i64 0) := keep hb6 (by go_simp)
      have c6_1 : w6.cell? ⟨w.heap.size + 1, 0, none⟩ = some (.pointer none) := keep hb6 (by go_simp)
      have zw6_1 := cell_lt c6_1
      have c6_2 : w6.cell? ⟨w.heap.size + 1, 1, none⟩ = some (.pointer (some ⟨w.heap.size, 0, none⟩)) := keep hb6 (by go_simp)
      clear c5_0 c5_1 c5_2
      go_wp2_with fail
      with_reducible refine (list_nil _).mono ?_
      rintro e7 w7 ⟨rfl, hb7⟩
      have yw7 : w.heap.size ≤ w7.heap.size := by (have := hb7.size; (try simp at this); omega)
      have c7_0 : w7.cell? ⟨w.heap.size, 34, none⟩ = some (.int .i64 0) := keep hb7 (by go_simp)
      have c7_1 : w7.cell? ⟨w.heap.size + 1, 0, none⟩ = some (.pointer none) := keep hb7 (by go_simp)
      have zw7_1 := cell_lt c7_1
      have c7_2 : w7.cell? ⟨w.heap.size + 1, 1, none⟩ = some (.pointer (some ⟨w.heap.size, 0, none⟩)) := keep hb7 (by go_simp)
      clear c6_0 c6_1 c6_2
      go_wp2_with fail
      go_roundw
      case rel => exact ⟨1, by omega, by go_num, by go_simp, by go_simp, by go_simp, (by repeat (first | assumption | exact Below.refl _ _ | refine balloc ?_ _ | refine bdrew ?_ | refine bset ?_ (by first | (simp; done) | (simp; omega)) _ | refine bstep ?_ (by assumption)))⟩
      case measure => (try simp [intOf]) <;> omega
    · by_cases h1 : k = 1
      · subst h1
        go_wp2_with fail
        with_reducible refine (first_zero _ (by go_simp)).mono ?_
        rintro e3 w3 ⟨rfl, hb3⟩
        have yw3 : w.heap.size ≤ w3.heap.size := by (have := hb3.size; (try simp at this); omega)
        have c3_0 : w3.cell? ⟨w.heap.size, 34, none⟩ = some (.int .i64 0) := keep hb3 (by go_simp)
        have c3_1 : w3.cell? ⟨w.heap.size + 1, 0, none⟩ = some (.pointer none) := keep hb3 (by go_simp)
        have zw3_1 := cell_lt c3_1
        have c3_2 : w3.cell? ⟨w.heap.size + 1, 1, none⟩ = some (.pointer (some ⟨w.heap.size, 0, none⟩)) := keep hb3 (by go_simp)
        clear c34 cs0 cs1
        go_wp2_with fail
        with_reducible refine (put_zero a _ (by go_simp)).mono ?_
        rintro e4 w4 ⟨rfl, hb4⟩
        have yw4 : w.heap.size ≤ w4.heap.size := by (have := hb4.size; (try simp at this); omega)
        have c4_0 : w4.cell? ⟨w.heap.size, 34, none⟩ = some (.int .i64 0) := keep hb4 (by go_simp)
        have c4_1 : w4.cell? ⟨w.heap.size + 1, 0, none⟩ = some (.pointer none) := keep hb4 (by go_simp)
        have zw4_1 := cell_lt c4_1
        have c4_2 : w4.cell? ⟨w.heap.size + 1, 1, none⟩ = some (.pointer (some ⟨w.heap.size, 0, none⟩)) := keep hb4 (by go_simp)
        clear c3_0 c3_1 c3_2
        go_wp2_with fail
        with_reducible refine (drop_zero a _ (by go_simp)).mono ?_
        rintro e5 w5 ⟨rfl, hb5⟩
        have yw5 : w.heap.size ≤ w5.heap.size := by (have := hb5.size; (try simp at this); omega)
        have c5_0 : w5.cell? ⟨w.heap.size, 34, none⟩ = some (.int .i64 0) := keep hb5 (by go_simp)
        have c5_1 : w5.cell? ⟨w.heap.size + 1, 0, none⟩ = some (.pointer none) := keep hb5 (by go_simp)
        have zw5_1 := cell_lt c5_1
        have c5_2 : w5.cell? ⟨w.heap.size + 1, 1, none⟩ = some (.pointer (some ⟨w.heap.size, 0, none⟩)) := keep hb5 (by go_simp)
        clear c4_0 c4_1 c4_2
        go_wp2_with fail
        with_reducible refine (len_zero _ (by go_simp)).mono ?_
        rintro e6 w6 ⟨rfl, hb6⟩
        have yw6 : w.heap.size ≤ w6.heap.size := by (have := hb6.size; (try simp at this); omega)
        have c6_0 : w6.cell? ⟨w.heap.size, 34, none⟩ = some (.int .i64 0) := keep hb6 (by go_simp)
        have c6_1 : w6.cell? ⟨w.heap.size + 1, 0, none⟩ = some (.pointer none) := keep hb6 (by go_simp)
        have zw6_1 := cell_lt c6_1
        have c6_2 : w6.cell? ⟨w.heap.size + 1, 1, none⟩ = some (.pointer (some ⟨w.heap.size, 0, none⟩)) := keep hb6 (by go_simp)
        clear c5_0 c5_1 c5_2
        go_wp2_with fail
        with_reducible refine (list_zero _ (by go_simp)).mono ?_
        rintro e7 w7 ⟨rfl, hb7⟩
        have yw7 : w.heap.size ≤ w7.heap.size := by (have := hb7.size; (try simp at this); omega)
        have c7_0 : w7.cell? ⟨w.heap.size, 34, none⟩ = some (.int .i64 0) := keep hb7 (by go_simp)
        have c7_1 : w7.cell? ⟨w.heap.size + 1, 0, none⟩ = some (.pointer none) := keep hb7 (by go_simp)
        have zw7_1 := cell_lt c7_1
        have c7_2 : w7.cell? ⟨w.heap.size + 1, 1, none⟩ = some (.pointer (some ⟨w.heap.size, 0, none⟩)) := keep hb7 (by go_simp)
        clear c6_0 c6_1 c6_2
        go_wp2_with fail
        go_roundw
        case rel => exact ⟨2, by omega, by go_num, by go_simp, by go_simp, by go_simp, (by repeat (first | assumption | exact Below.refl _ _ | refine balloc ?_ _ | refine bdrew ?_ | refine bset ?_ (by first | (simp; done) | (simp; omega)) _ | refine bstep ?_ (by assumption)))⟩
        case measure => (try simp [intOf]) <;> omega
      · obtain rfl : k = 2 := by omega
        have SX := Lib.hid hBel
        clear c34 cs0 cs1
        by_cases hap : 0 < a
        · by_cases hba : a < b
          · go_wp2_with fail
            with_reducible refine (newL 32 _ (by decide) (by decide) (by decide)).mono ?_
            rintro e21 w21 ⟨rfl, hb21, hq21⟩
            have Q21 := Lib.hid hq21
            have S21 := Lib.hid (bstep SX.out hb21)
            clear hq21
            have hBB := hwr
            go_wp2_with fail
            with_reducible refine (putL_low _ Q21.out (by decide)).mono ?_
            rintro e22 w22 ⟨rfl, hb22⟩
            have Q22 := Lib.hid (Q21.out.below (bstep (Below.refl _ _) hb22))
            have S22 := Lib.hid (bstep S21.out (bstep (Below.refl _ _) hb22))
            go_wp2_with fail
            with_reducible refine (putL_ok _ Q22.out (by omega) (by decide)).mono ?_
            rintro e23 w23 ⟨rfl, hb23, hq23⟩
            have Q23 := Lib.hid hq23
            have S23 := Lib.hid (Only.toBelow S22.out hBB hb23)
            clear hq23
            go_wp2_with fail
            with_reducible refine (dropL_yes (p := []) _ Q23.out (by simp)).mono ?_
            rintro e24 w24 ⟨rfl, hb24, hq24⟩
            have Q24 := Lib.hid hq24
            have S24 := Lib.hid (Only.toBelow S23.out hBB hb24)
            clear hq24
            go_wp2_with fail
            with_reducible refine (putL_low _ Q24.out (by omega)).mono ?_
            rintro e25 w25 ⟨rfl, hb25⟩
            have Q25 := Lib.hid (Q24.out.below (bstep (Below.refl _ _) hb25))
            have S25 := Lib.hid (bstep S24.out (bstep (Below.refl _ _) hb25))
            go_wp2_with fail
            with_reducible refine (putL_ok _ Q25.out (by omega) (by decide)).mono ?_
            rintro e26 w26 ⟨rfl, hb26, hq26⟩
            have Q26 := Lib.hid hq26
            have S26 := Lib.hid (Only.toBelow S25.out hBB hb26)
            clear hq26
            go_wp2_with fail
            with_reducible refine (awake26_any _).mono ?_
            rintro e27 w27 ⟨rfl, hb27⟩
            have S27 := Lib.hid (bstep S26.out (bstep (Below.refl _ _) hb27))
            go_wp2_with fail
            go_ret
            exact ⟨rfl, S27.out⟩
          · have hd : decide (a < b) = false := by simp; omega
            go_wp2_with fail
            with_reducible refine (newL 32 _ (by decide) (by decide) (by decide)).mono ?_
            rintro e21 w21 ⟨rfl, hb21, hq21⟩
            have Q21 := Lib.hid hq21
            have S21 := Lib.hid (bstep SX.out hb21)
            clear hq21
            have hBB := hwr
            go_wp2_with fail
            with_reducible refine (putL_low _ Q21.out (by decide)).mono ?_
            rintro e22 w22 ⟨rfl, hb22⟩
            have Q22 := Lib.hid (Q21.out.below (bstep (Below.refl _ _) hb22))
            have S22 := Lib.hid (bstep S21.out (bstep (Below.refl _ _) hb22))
            go_wp2_with fail
            with_reducible refine (putL_ok _ Q22.out (by omega) (by decide)).mono ?_
            rintro e23 w23 ⟨rfl, hb23, hq23⟩
            have Q23 := Lib.hid hq23
            have S23 := Lib.hid (Only.toBelow S22.out hBB hb23)
            clear hq23
            go_wp2_with fail
            with_reducible refine (dropL_yes (p := []) _ Q23.out (by simp)).mono ?_
            rintro e24 w24 ⟨rfl, hb24, hq24⟩
            have Q24 := Lib.hid hq24
            have S24 := Lib.hid (Only.toBelow S23.out hBB hb24)
            clear hq24
            go_wp2_with fail
            with_reducible refine (putL_low _ Q24.out (by omega)).mono ?_
            rintro e25 w25 ⟨rfl, hb25⟩
            have Q25 := Lib.hid (Q24.out.below (bstep (Below.refl _ _) hb25))
            have S25 := Lib.hid (bstep S24.out (bstep (Below.refl _ _) hb25))
            go_wp2_with fail
            with_reducible refine (putL_low _ Q25.out (by omega)).mono ?_
            rintro e26 w26 ⟨rfl, hb26⟩
            have Q26 := Lib.hid (Q25.out.below (bstep (Below.refl _ _) hb26))
            have S26 := Lib.hid (bstep S25.out (bstep (Below.refl _ _) hb26))
            go_wp2_with fail
            with_reducible refine (awake26_any _).mono ?_
            rintro e27 w27 ⟨rfl, hb27⟩
            have S27 := Lib.hid (bstep S26.out (bstep (Below.refl _ _) hb27))
            go_wp2_with fail
            go_ret
            exact ⟨rfl, S27.out⟩
        · have ha2 : a = 0 := by omega
          subst ha2
          by_cases hbp : 0 < b
          · go_wp2_with fail
            with_reducible refine (newL 32 _ (by decide) (by decide) (by decide)).mono ?_
            rintro e21 w21 ⟨rfl, hb21, hq21⟩
            have Q21 := Lib.hid hq21
            have S21 := Lib.hid (bstep SX.out hb21)
            clear hq21
            have hBB := hwr
            go_wp2_with fail
            with_reducible refine (putL_low _ Q21.out (by decide)).mono ?_
            rintro e22 w22 ⟨rfl, hb22⟩
            have Q22 := Lib.hid (Q21.out.below (bstep (Below.refl _ _) hb22))
            have S22 := Lib.hid (bstep S21.out (bstep (Below.refl _ _) hb22))
            go_wp2_with fail
            with_reducible refine (putL_low _ Q22.out (by omega)).mono ?_
            rintro e23 w23 ⟨rfl, hb23⟩
            have Q23 := Lib.hid (Q22.out.below (bstep (Below.refl _ _) hb23))
            have S23 := Lib.hid (bstep S22.out (bstep (Below.refl _ _) hb23))
            go_wp2_with fail
            with_reducible refine (putL_ok _ Q23.out (by omega) (by decide)).mono ?_
            rintro e24 w24 ⟨rfl, hb24, hq24⟩
            have Q24 := Lib.hid hq24
            have S24 := Lib.hid (Only.toBelow S23.out hBB hb24)
            clear hq24
            go_wp2_with fail
            with_reducible refine (awake26_any _).mono ?_
            rintro e25 w25 ⟨rfl, hb25⟩
            have S25 := Lib.hid (bstep S24.out (bstep (Below.refl _ _) hb25))
            go_wp2_with fail
            go_ret
            exact ⟨rfl, S25.out⟩
          · have hd : decide (0 < b) = false := by simp; omega
            go_wp2_with fail
            with_reducible refine (newL 32 _ (by decide) (by decide) (by decide)).mono ?_
            rintro e21 w21 ⟨rfl, hb21, hq21⟩
            have Q21 := Lib.hid hq21
            have S21 := Lib.hid (bstep SX.out hb21)
            clear hq21
            have hBB := hwr
            go_wp2_with fail
            with_reducible refine (putL_low _ Q21.out (by decide)).mono ?_
            rintro e22 w22 ⟨rfl, hb22⟩
            have Q22 := Lib.hid (Q21.out.below (bstep (Below.refl _ _) hb22))
            have S22 := Lib.hid (bstep S21.out (bstep (Below.refl _ _) hb22))
            go_wp2_with fail
            with_reducible refine (putL_low _ Q22.out (by omega)).mono ?_
            rintro e23 w23 ⟨rfl, hb23⟩
            have Q23 := Lib.hid (Q22.out.below (bstep (Below.refl _ _) hb23))
            have S23 := Lib.hid (bstep S22.out (bstep (Below.refl _ _) hb23))
            go_wp2_with fail
            with_reducible refine (putL_low _ Q23.out (by omega)).mono ?_
            rintro e24 w24 ⟨rfl, hb24⟩
            have Q24 := Lib.hid (Q23.out.below (bstep (Below.refl _ _) hb24))
            have S24 := Lib.hid (bstep S23.out (bstep (Below.refl _ _) hb24))
            go_wp2_with fail
            with_reducible refine (awake26_any _).mono ?_
            rintro e25 w25 ⟨rfl, hb25⟩
            have S25 := Lib.hid (bstep S24.out (bstep (Below.refl _ _) hb25))
            go_wp2_with fail
            go_ret
            exact ⟨rfl, S25.out⟩
end Go.Proofs.Ytnhfholodillaaa
