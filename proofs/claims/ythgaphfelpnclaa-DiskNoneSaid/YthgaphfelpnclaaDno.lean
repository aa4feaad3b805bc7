/- The law DiskNone, walked. -/
import Derived.Test.YthgaphfelpnclaaDn
set_option linter.unusedVariables false
set_option linter.unusedSimpArgs false
namespace Go.Proofs.Ythgaphfelpnclaa
open Go.RowKit

theorem doE {p A : Option Addr} {m c : Nat} {wh n r : Int} (w : World) (h : Non w p) (hw : 0 ≤ wh ∧ wh ≤ 255) (e : (if 2 < wh % 5 then 0 else 1) = r) :
    Calls Try.prog 35 #[.pointer p, .agg #[.int .u8 wh, .slice A m c, .int .i64 n]] w fun e' w' => e' = .returned (.int .i64 r) ∧ Below w.heap.size w w' := by
  subst e; exact doN w h hw
set_option maxRecDepth 100000 in
set_option maxHeartbeats 2000000 in
theorem dnone_walk (wh : Int) (u : Value) (ls : List Int) (n : Int) (w : World) (hw : 0 ≤ wh ∧ wh ≤ 255) (hu : BAt w u ls) :
    Calls Try.prog 9 #[.agg #[.int .u8 wh, u, .int .i64 n]] w fun e' w' => e' = .returned (.bool true) ∧ Below w.heap.size w w' := by
  obtain ⟨A, c, rfl, _⟩ := hu
  obtain ⟨hw0, hw1⟩ := hw
  go_enter Try.func9, Try.ntmps9
  go_wp2_with fail
  go_loopw [10] (fun i wr => ∃ k : Nat, k ≤ 2 ∧ i = .int .i64 k ∧ Below w.heap.size w wr ∧ w.heap.size + 1 + 1 < wr.heap.size ∧ wr.cell? ⟨w.heap.size, 0, none⟩ = some (.int .u8 wh) ∧ wr.cell? ⟨w.heap.size, 1, none⟩ = some (.slice A ls.length c) ∧ wr.cell? ⟨w.heap.size, 2, none⟩ = some (.int .i64 n) ∧ wr.cell? ⟨w.heap.size + 1, 0, none⟩ = some (.bool false) ∧ wr.cell? ⟨w.heap.size + 1 + 1, 0, none⟩ = some (.pointer none) ∧ wr.cell? ⟨w.heap.size + 1 + 1, 1, none⟩ = some (.pointer (some ⟨w.heap.size + 1, 0, none⟩))) (fun i _ => 2 - (intOf i).toNat)
  case atStart => exact ⟨0, by omega, rfl, by repeat (first | exact Below.refl _ _ | refine bset ?_ (by simp) _ | refine balloc ?_ _), by simp, by go_simp, by go_simp, by go_simp, by go_simp, by go_simp, by go_simp⟩
  case round =>
    obtain ⟨k, hk, rfl, hBel, hz, g0, g1, g2, g3, g4, g5⟩ := hrel
    have SB := Lib.hid hBel
    clear hBel
    by_cases h0 : k = 0
    · subst h0
      by_cases hbig : 2 < wh % 5
      · skip
        have HN : Non wr none := .inl rfl
        go_wp2_with fail
        with_reducible refine Calls.mono (doE (r := 0) _ HN ⟨hw0, hw1⟩ (by rw [if_pos hbig])) ?_
        rintro e1 w1 ⟨rfl, hb1⟩
        have N1 := HN.below hb1
        have S1 := Lib.hid (bstep SB.out hb1)
        have g0 := keep hb1 g0
        have g1 := keep hb1 g1
        have g2 := keep hb1 g2
        have g3 := keep hb1 g3
        have g4 := keep hb1 g4
        have g5 := keep hb1 g5
        go_wp2_with fail
        with_reducible refine Calls.mono (lenN _ N1) ?_
        rintro e2 w2 ⟨rfl, hb2⟩
        have N2 := N1.below hb2
        have S2 := Lib.hid (bstep S1.out hb2)
        have g0 := keep hb2 g0
        have g1 := keep hb2 g1
        have g2 := keep hb2 g2
        have g3 := keep hb2 g3
        have g4 := keep hb2 g4
        have g5 := keep hb2 g5
        go_wp2_with fail
        with_reducible refine Calls.mono (safeN _ N2) ?_
        rintro e3 w3 ⟨rfl, hb3⟩
        have N3 := N2.below hb3
        have S3 := Lib.hid (bstep S2.out hb3)
        have g0 := keep hb3 g0
        have g1 := keep hb3 g1
        have g2 := keep hb3 g2
        have g3 := keep hb3 g3
        have g4 := keep hb3 g4
        have g5 := keep hb3 g5
        go_wp2_with fail
        with_reducible refine Calls.mono (roomN _ N3) ?_
        rintro e4 w4 ⟨rfl, hb4⟩
        have N4 := N3.below hb4
        have S4 := Lib.hid (bstep S3.out hb4)
        have g0 := keep hb4 g0
        have g1 := keep hb4 g1
        have g2 := keep hb4 g2
        have g3 := keep hb4 g3
        have g4 := keep hb4 g4
        have g5 := keep hb4 g5
        go_wp2_with fail
        with_reducible refine Calls.mono (bytesN _ N4) ?_
        rintro e5 w5 ⟨rfl, hb5⟩
        have N5 := N4.below hb5
        have S5 := Lib.hid (bstep S4.out hb5)
        have g0 := keep hb5 g0
        have g1 := keep hb5 g1
        have g2 := keep hb5 g2
        have g3 := keep hb5 g3
        have g4 := keep hb5 g4
        have g5 := keep hb5 g5
        go_wp2_with fail
        with_reducible refine Calls.mono (offN _ N5) ?_
        rintro e6 w6 ⟨rfl, hb6⟩
        have N6 := N5.below hb6
        have S6 := Lib.hid (bstep S5.out hb6)
        have g0 := keep hb6 g0
        have g1 := keep hb6 g1
        have g2 := keep hb6 g2
        have g3 := keep hb6 g3
        have g4 := keep hb6 g4
        have g5 := keep hb6 g5
        go_wp2_with fail
        go_roundw
        case rel => exact ⟨1, by omega, by go_num, S6.out, by (have h1 := S6.out.size; have h2 := cell_lt g5; omega), g0, g1, g2, g3, g4, g5⟩
        case measure => (try simp [intOf]) <;> omega
      · skip
        have HN : Non wr none := .inl rfl
        go_wp2_with fail
        with_reducible refine Calls.mono (doE (r := 1) _ HN ⟨hw0, hw1⟩ (by rw [if_neg (by omega)])) ?_
        rintro e1 w1 ⟨rfl, hb1⟩
        have N1 := HN.below hb1
        have S1 := Lib.hid (bstep SB.out hb1)
        have g0 := keep hb1 g0
        have g1 := keep hb1 g1
        have g2 := keep hb1 g2
        have g3 := keep hb1 g3
        have g4 := keep hb1 g4
        have g5 := keep hb1 g5
        go_wp2_with fail
        with_reducible refine Calls.mono (lenN _ N1) ?_
        rintro e2 w2 ⟨rfl, hb2⟩
        have N2 := N1.below hb2
        have S2 := Lib.hid (bstep S1.out hb2)
        have g0 := keep hb2 g0
        have g1 := keep hb2 g1
        have g2 := keep hb2 g2
        have g3 := keep hb2 g3
        have g4 := keep hb2 g4
        have g5 := keep hb2 g5
        go_wp2_with fail
        with_reducible refine Calls.mono (safeN _ N2) ?_
        rintro e3 w3 ⟨rfl, hb3⟩
        have N3 := N2.below hb3
        have S3 := Lib.hid (bstep S2.out hb3)
        have g0 := keep hb3 g0
        have g1 := keep hb3 g1
        have g2 := keep hb3 g2
        have g3 := keep hb3 g3
        have g4 := keep hb3 g4
        have g5 := keep hb3 g5
        go_wp2_with fail
        with_reducible refine Calls.mono (roomN _ N3) ?_
        rintro e4 w4 ⟨rfl, hb4⟩
        have N4 := N3.below hb4
        have S4 := Lib.hid (bstep S3.out hb4)
        have g0 := keep hb4 g0
        have g1 := keep hb4 g1
        have g2 := keep hb4 g2
        have g3 := keep hb4 g3
        have g4 := keep hb4 g4
        have g5 := keep hb4 g5
        go_wp2_with fail
        with_reducible refine Calls.mono (bytesN _ N4) ?_
        rintro e5 w5 ⟨rfl, hb5⟩
        have N5 := N4.below hb5
        have S5 := Lib.hid (bstep S4.out hb5)
        have g0 := keep hb5 g0
        have g1 := keep hb5 g1
        have g2 := keep hb5 g2
        have g3 := keep hb5 g3
        have g4 := keep hb5 g4
        have g5 := keep hb5 g5
        go_wp2_with fail
        with_reducible refine Calls.mono (offN _ N5) ?_
        rintro e6 w6 ⟨rfl, hb6⟩
        have N6 := N5.below hb6
        have S6 := Lib.hid (bstep S5.out hb6)
        have g0 := keep hb6 g0
        have g1 := keep hb6 g1
        have g2 := keep hb6 g2
        have g3 := keep hb6 g3
        have g4 := keep hb6 g4
        have g5 := keep hb6 g5
        go_wp2_with fail
        go_roundw
        case rel => exact ⟨1, by omega, by go_num, S6.out, by (have h1 := S6.out.size; have h2 := cell_lt g5; omega), g0, g1, g2, g3, g4, g5⟩
        case measure => (try simp [intOf]) <;> omega
    · by_cases h1 : k = 1
      · subst h1
        by_cases hbig : 2 < wh % 5
        · skip
          have HN : Non wr (some ⟨w.heap.size + 1, 0, none⟩) := .inr ⟨_, rfl, g3⟩
          go_wp2_with fail
          with_reducible refine Calls.mono (doE (r := 0) _ HN ⟨hw0, hw1⟩ (by rw [if_pos hbig])) ?_
          rintro e1 w1 ⟨rfl, hb1⟩
          have N1 := HN.below hb1
          have S1 := Lib.hid (bstep SB.out hb1)
          have g0 := keep hb1 g0
          have g1 := keep hb1 g1
          have g2 := keep hb1 g2
          have g3 := keep hb1 g3
          have g4 := keep hb1 g4
          have g5 := keep hb1 g5
          go_wp2_with fail
          with_reducible refine Calls.mono (lenN _ N1) ?_
          rintro e2 w2 ⟨rfl, hb2⟩
          have N2 := N1.below hb2
          have S2 := Lib.hid (bstep S1.out hb2)
          have g0 := keep hb2 g0
          have g1 := keep hb2 g1
          have g2 := keep hb2 g2
          have g3 := keep hb2 g3
          have g4 := keep hb2 g4
          have g5 := keep hb2 g5
          go_wp2_with fail
          with_reducible refine Calls.mono (safeN _ N2) ?_
          rintro e3 w3 ⟨rfl, hb3⟩
          have N3 := N2.below hb3
          have S3 := Lib.hid (bstep S2.out hb3)
          have g0 := keep hb3 g0
          have g1 := keep hb3 g1
          have g2 := keep hb3 g2
          have g3 := keep hb3 g3
          have g4 := keep hb3 g4
          have g5 := keep hb3 g5
          go_wp2_with fail
          with_reducible refine Calls.mono (roomN _ N3) ?_
          rintro e4 w4 ⟨rfl, hb4⟩
          have N4 := N3.below hb4
          have S4 := Lib.hid (bstep S3.out hb4)
          have g0 := keep hb4 g0
          have g1 := keep hb4 g1
          have g2 := keep hb4 g2
          have g3 := keep hb4 g3
          have g4 := keep hb4 g4
          have g5 := keep hb4 g5
          go_wp2_with fail
          with_reducible refine Calls.mono (bytesN _ N4) ?_
          rintro e5 w5 ⟨rfl, hb5⟩
          have N5 := N4.below hb5
          have S5 := Lib.hid (bstep S4.out hb5)
          have g0 := keep hb5 g0
          have g1 := keep hb5 g1
          have g2 := keep hb5 g2
          have g3 := keep hb5 g3
          have g4 := keep hb5 g4
          have g5 := keep hb5 g5
          go_wp2_with fail
          with_reducible refine Calls.mono (offN _ N5) ?_
          rintro e6 w6 ⟨rfl, hb6⟩
          have N6 := N5.below hb6
          have S6 := Lib.hid (bstep S5.out hb6)
          have g0 := keep hb6 g0
          have g1 := keep hb6 g1
          have g2 := keep hb6 g2
          have g3 := keep hb6 g3
          have g4 := keep hb6 g4
          have g5 := keep hb6 g5
          go_wp2_with fail
          go_roundw
          case rel => exact ⟨2, by omega, by go_num, S6.out, by (have h1 := S6.out.size; have h2 := cell_lt g5; omega), g0, g1, g2, g3, g4, g5⟩
          case measure => (try simp [intOf]) <;> omega
        · skip
          have HN : Non wr (some ⟨w.heap.size + 1, 0, none⟩) := .inr ⟨_, rfl, g3⟩
          go_wp2_with fail
          with_reducible refine Calls.mono (doE (r := 1) _ HN ⟨hw0, hw1⟩ (by rw [if_neg (by omega)])) ?_
          rintro e1 w1 ⟨rfl, hb1⟩
          have N1 := HN.below hb1
          have S1 := Lib.hid (bstep SB.out hb1)
          have g0 := keep hb1 g0
          have g1 := keep hb1 g1
          have g2 := keep hb1 g2
          have g3 := keep hb1 g3
          have g4 := keep hb1 g4
          have g5 := keep hb1 g5
          go_wp2_with fail
          with_reducible refine Calls.mono (lenN _ N1) ?_
          rintro e2 w2 ⟨rfl, hb2⟩
          have N2 := N1.below hb2
          have S2 := Lib.hid (bstep S1.out hb2)
          have g0 := keep hb2 g0
          have g1 := keep hb2 g1
          have g2 := keep hb2 g2
          have g3 := keep hb2 g3
          have g4 := keep hb2 g4
          have g5 := keep hb2 g5
          go_wp2_with fail
          with_reducible refine Calls.mono (safeN _ N2) ?_
          rintro e3 w3 ⟨rfl, hb3⟩
          have N3 := N2.below hb3
          have S3 := Lib.hid (bstep S2.out hb3)
          have g0 := keep hb3 g0
          have g1 := keep hb3 g1
          have g2 := keep hb3 g2
          have g3 := keep hb3 g3
          have g4 := keep hb3 g4
          have g5 := keep hb3 g5
          go_wp2_with fail
          with_reducible refine Calls.mono (roomN _ N3) ?_
          rintro e4 w4 ⟨rfl, hb4⟩
          have N4 := N3.below hb4
          have S4 := Lib.hid (bstep S3.out hb4)
          have g0 := keep hb4 g0
          have g1 := keep hb4 g1
          have g2 := keep hb4 g2
          have g3 := keep hb4 g3
          have g4 := keep hb4 g4
          have g5 := keep hb4 g5
          go_wp2_with fail
          with_reducible refine Calls.mono (bytesN _ N4) ?_
          rintro e5 w5 ⟨rfl, hb5⟩
          have N5 := N4.below hb5
          have S5 := Lib.hid (bstep S4.out hb5)
          have g0 := keep hb5 g0
          have g1 := keep hb5 g1
          have g2 := keep hb5 g2
          have g3 := keep hb5 g3
          have g4 := keep hb5 g4
          have g5 := keep hb5 g5
          go_wp2_with fail
          with_reducible refine Calls.mono (offN _ N5) ?_
          rintro e6 w6 ⟨rfl, hb6⟩
          have N6 := N5.below hb6
          have S6 := Lib.hid (bstep S5.out hb6)
          have g0 := keep hb6 g0
          have g1 := keep hb6 g1
          have g2 := keep hb6 g2
          have g3 := keep hb6 g3
          have g4 := keep hb6 g4
          have g5 := keep hb6 g5
          go_wp2_with fail
          go_roundw
          case rel => exact ⟨2, by omega, by go_num, S6.out, by (have h1 := S6.out.size; have h2 := cell_lt g5; omega), g0, g1, g2, g3, g4, g5⟩
          case measure => (try simp [intOf]) <;> omega
      · obtain rfl : k = 2 := by omega
        go_wp2_with fail
        with_reducible refine Calls.mono (awake09 _) ?_
        rintro e1 w1 ⟨rfl, hb1⟩
        go_wp2_with fail
        go_ret
        exact ⟨rfl, bstep SB.out hb1⟩
end Go.Proofs.Ythgaphfelpnclaa
