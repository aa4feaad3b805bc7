/- The disk's examples, in whatever world: they hold. -/
import Derived.Test.YthgaphfelpnclaaDf
set_option linter.unusedVariables false
set_option linter.unusedSimpArgs false
namespace Go.Proofs.Ythgaphfelpnclaa
open Go.RowKit

theorem make6 (w : World) : (Instr.makeSlice 24 (.int .i64 6) (.int .i64 6)).run Try.prog w = .ok (.slice (some ⟨w.heap.size, 0, none⟩) 6 6) (w.alloc (.cells (u8s [0, 0, 0, 0, 0, 0]).toArray 5)) := by
  obtain ⟨i0, hi, hz0, hz1, hz2⟩ := info_parts info5
  have := run_make (P := Try.prog) w 24 5 i0 (.int .u8 0) Try.underlying24 hi hz0 .i64 .i64 6 6 (by decide) (by decide) (by rw [hz2]; decide) (by decide)
  rw [hz1] at this
  have e : madeCells (Value.int IntKind.u8 0).cells (Int.toNat 6 * 1) = (u8s [0, 0, 0, 0, 0, 0]).toArray := by kernel_rfl
  rw [e] at this
  exact this
set_option maxRecDepth 100000 in
set_option maxHeartbeats 1000000 in
theorem awake09 (w : World) : Calls Try.prog 22 #[] w fun e' w' => e' = .returned (.bool true) ∧ Below w.heap.size w w' := by
  have hmk := make6
  go_enter Try.func22, Try.ntmps22
  go_wp2_with fail
  with_reducible refine (newE (r := 9) 9 _ (by decide) (by decide)).mono ?_
  rintro e1 w1 ⟨rfl, hb1, hd1⟩
  have S1 := Lib.hid hb1
  have D1 := Lib.hid hd1
  clear hb1 hd1
  go_wp2_with fail
  with_reducible refine Calls.mono (appE (d2 := ⟨[1, 2, 3], 0, -1, false, 9⟩) (r := 0) _ (D1.out.below (by repeat (first | exact Below.refl _ _ | refine balloc ?_ _ | refine bdrew ?_))) (bat_lit _ [1, 2, 3] (by decide)) (fun _ => D1.out.apart_new _ _ _ _ (by first | exact Nat.le_refl _ | simp)) rfl) ?_
  rintro e2 w2 ⟨v2, rfl, hd2, hs2⟩
  have S2 := Lib.hid (DS.toBelow (D1.out.below (by repeat (first | exact Below.refl _ _ | refine balloc ?_ _ | refine bdrew ?_))) (Nat.le_refl _) (bstep S1.out (by repeat (first | exact Below.refl _ _ | refine balloc ?_ _ | refine bdrew ?_))) hs2)
  have D2 := Lib.hid hd2
  clear hd2 hs2
  go_wp2_with fail
  with_reducible refine Calls.mono (syncE (d2 := ⟨[1, 2, 3], 3, -1, false, 9⟩) (r := 0) _ (D2.out.below (by repeat (first | exact Below.refl _ _ | refine balloc ?_ _ | refine bdrew ?_))) rfl) ?_
  rintro e3 w3 ⟨v3, rfl, hd3, hs3⟩
  have S3 := Lib.hid (DS.toBelow (D2.out.below (by repeat (first | exact Below.refl _ _ | refine balloc ?_ _ | refine bdrew ?_))) (Nat.le_refl _) (bstep S2.out (by repeat (first | exact Below.refl _ _ | refine balloc ?_ _ | refine bdrew ?_))) hs3)
  have D3 := Lib.hid hd3
  clear hd3 hs3
  go_wp2_with fail
  with_reducible refine Calls.mono (appE (d2 := ⟨[1, 2, 3, 4, 5], 3, -1, false, 9⟩) (r := 0) _ (D3.out.below (by repeat (first | exact Below.refl _ _ | refine balloc ?_ _ | refine bdrew ?_))) (bat_lit _ [4, 5] (by decide)) (fun _ => D3.out.apart_new _ _ _ _ (by first | exact Nat.le_refl _ | simp)) rfl) ?_
  rintro e4 w4 ⟨v4, rfl, hd4, hs4⟩
  have S4 := Lib.hid (DS.toBelow (D3.out.below (by repeat (first | exact Below.refl _ _ | refine balloc ?_ _ | refine bdrew ?_))) (Nat.le_refl _) (bstep S3.out (by repeat (first | exact Below.refl _ _ | refine balloc ?_ _ | refine bdrew ?_))) hs4)
  have D4 := Lib.hid hd4
  clear hd4 hs4
  go_wp2_with fail
  with_reducible refine Calls.mono (crashE (d2 := ⟨[1, 2, 3, 4], 4, -1, false, 9⟩) _ (D4.out.below (by repeat (first | exact Below.refl _ _ | refine balloc ?_ _ | refine bdrew ?_))) 1 rfl) ?_
  rintro e5 w5 ⟨v5, rfl, hd5, hs5⟩
  have S5 := Lib.hid (DS.toBelow (D4.out.below (by repeat (first | exact Below.refl _ _ | refine balloc ?_ _ | refine bdrew ?_))) (Nat.le_refl _) (bstep S4.out (by repeat (first | exact Below.refl _ _ | refine balloc ?_ _ | refine bdrew ?_))) hs5)
  have D5 := Lib.hid hd5
  clear hd5 hs5
  go_wp2_with fail
  with_reducible refine Calls.mono (bytesE (ls := [1, 2, 3, 4]) _ (D5.out.below (by repeat (first | exact Below.refl _ _ | refine balloc ?_ _ | refine bdrew ?_))) rfl) ?_
  rintro e6 w6 ⟨v6, rfl, hv6, hb6⟩
  have V6 := Lib.hid (BAt.of_own hv6)
  have O6 := Lib.hid hv6
  clear hv6
  have S6 := Lib.hid (bstep S5.out (bstep (by repeat (first | exact Below.refl _ _ | refine balloc ?_ _ | refine bdrew ?_)) hb6))
  have D6 := Lib.hid (D5.out.below (bstep (by repeat (first | exact Below.refl _ _ | refine balloc ?_ _ | refine bdrew ?_)) hb6))
  go_wp2_with fail
  with_reducible refine Calls.mono (same_true _ (V6.out.below (by repeat (first | exact Below.refl _ _ | refine balloc ?_ _ | refine bdrew ?_))) (bat_lit _ [1, 2, 3, 4] (by decide))) ?_
  rintro e7 w7 ⟨rfl, hb7⟩
  have S7 := Lib.hid (bstep S6.out (bstep (by repeat (first | exact Below.refl _ _ | refine balloc ?_ _ | refine bdrew ?_)) hb7))
  have D7 := Lib.hid (D6.out.below (bstep (by repeat (first | exact Below.refl _ _ | refine balloc ?_ _ | refine bdrew ?_)) hb7))
  go_wp2_with fail
  with_reducible refine Calls.mono (safeE (r := 4) _ (D7.out.below (by repeat (first | exact Below.refl _ _ | refine balloc ?_ _ | refine bdrew ?_))) rfl) ?_
  rintro e8 w8 ⟨rfl, hb8⟩
  have S8 := Lib.hid (bstep S7.out (bstep (by repeat (first | exact Below.refl _ _ | refine balloc ?_ _ | refine bdrew ?_)) hb8))
  have D8 := Lib.hid (D7.out.below (bstep (by repeat (first | exact Below.refl _ _ | refine balloc ?_ _ | refine bdrew ?_)) hb8))
  go_wp2_with fail
  with_reducible refine Calls.mono (sparksE (d2 := ⟨[1, 2, 3, 4], 4, 2, false, 9⟩) _ (D8.out.below (by repeat (first | exact Below.refl _ _ | refine balloc ?_ _ | refine bdrew ?_))) 2 (by decide) rfl) ?_
  rintro e9 w9 ⟨v9, rfl, hd9, hs9⟩
  have S9 := Lib.hid (DS.toBelow (D8.out.below (by repeat (first | exact Below.refl _ _ | refine balloc ?_ _ | refine bdrew ?_))) (Nat.le_refl _) (bstep S8.out (by repeat (first | exact Below.refl _ _ | refine balloc ?_ _ | refine bdrew ?_))) hs9)
  have D9 := Lib.hid hd9
  clear hd9 hs9
  go_wp2_with fail
  with_reducible refine Calls.mono (appE (d2 := ⟨[1, 2, 3, 4, 6, 7], 4, 0, true, 9⟩) (r := 6) _ (D9.out.below (by repeat (first | exact Below.refl _ _ | refine balloc ?_ _ | refine bdrew ?_))) (bat_lit _ [6, 7, 8] (by decide)) (fun _ => D9.out.apart_new _ _ _ _ (by first | exact Nat.le_refl _ | simp)) rfl) ?_
  rintro e10 w10 ⟨v10, rfl, hd10, hs10⟩
  have S10 := Lib.hid (DS.toBelow (D9.out.below (by repeat (first | exact Below.refl _ _ | refine balloc ?_ _ | refine bdrew ?_))) (Nat.le_refl _) (bstep S9.out (by repeat (first | exact Below.refl _ _ | refine balloc ?_ _ | refine bdrew ?_))) hs10)
  have D10 := Lib.hid hd10
  clear hd10 hs10
  go_wp2_with fail
  with_reducible refine Calls.mono (bytesE (ls := [1, 2, 3, 4, 6, 7]) _ (D10.out.below (by repeat (first | exact Below.refl _ _ | refine balloc ?_ _ | refine bdrew ?_))) rfl) ?_
  rintro e11 w11 ⟨v11, rfl, hv11, hb11⟩
  have V11 := Lib.hid (BAt.of_own hv11)
  have O11 := Lib.hid hv11
  clear hv11
  have S11 := Lib.hid (bstep S10.out (bstep (by repeat (first | exact Below.refl _ _ | refine balloc ?_ _ | refine bdrew ?_)) hb11))
  have D11 := Lib.hid (D10.out.below (bstep (by repeat (first | exact Below.refl _ _ | refine balloc ?_ _ | refine bdrew ?_)) hb11))
  go_wp2_with fail
  with_reducible refine Calls.mono (same_true _ (V11.out.below (by repeat (first | exact Below.refl _ _ | refine balloc ?_ _ | refine bdrew ?_))) (bat_lit _ [1, 2, 3, 4, 6, 7] (by decide))) ?_
  rintro e12 w12 ⟨rfl, hb12⟩
  have S12 := Lib.hid (bstep S11.out (bstep (by repeat (first | exact Below.refl _ _ | refine balloc ?_ _ | refine bdrew ?_)) hb12))
  have D12 := Lib.hid (D11.out.below (bstep (by repeat (first | exact Below.refl _ _ | refine balloc ?_ _ | refine bdrew ?_)) hb12))
  go_wp2_with fail
  with_reducible refine Calls.mono (syncE (d2 := ⟨[1, 2, 3, 4, 6, 7], 4, 0, true, 9⟩) (r := 6) _ (D12.out.below (by repeat (first | exact Below.refl _ _ | refine balloc ?_ _ | refine bdrew ?_))) rfl) ?_
  rintro e13 w13 ⟨v13, rfl, hd13, hs13⟩
  have S13 := Lib.hid (DS.toBelow (D12.out.below (by repeat (first | exact Below.refl _ _ | refine balloc ?_ _ | refine bdrew ?_))) (Nat.le_refl _) (bstep S12.out (by repeat (first | exact Below.refl _ _ | refine balloc ?_ _ | refine bdrew ?_))) hs13)
  have D13 := Lib.hid hd13
  clear hd13 hs13
  go_wp2_with fail
  with_reducible refine Calls.mono (crashE (d2 := ⟨[1, 2, 3, 4], 4, -1, false, 9⟩) _ (D13.out.below (by repeat (first | exact Below.refl _ _ | refine balloc ?_ _ | refine bdrew ?_))) 0 rfl) ?_
  rintro e14 w14 ⟨v14, rfl, hd14, hs14⟩
  have S14 := Lib.hid (DS.toBelow (D13.out.below (by repeat (first | exact Below.refl _ _ | refine balloc ?_ _ | refine bdrew ?_))) (Nat.le_refl _) (bstep S13.out (by repeat (first | exact Below.refl _ _ | refine balloc ?_ _ | refine bdrew ?_))) hs14)
  have D14 := Lib.hid hd14
  clear hd14 hs14
  go_wp2_with fail
  with_reducible refine Calls.mono (bytesE (ls := [1, 2, 3, 4]) _ (D14.out.below (by repeat (first | exact Below.refl _ _ | refine balloc ?_ _ | refine bdrew ?_))) rfl) ?_
  rintro e15 w15 ⟨v15, rfl, hv15, hb15⟩
  have V15 := Lib.hid (BAt.of_own hv15)
  have O15 := Lib.hid hv15
  clear hv15
  have S15 := Lib.hid (bstep S14.out (bstep (by repeat (first | exact Below.refl _ _ | refine balloc ?_ _ | refine bdrew ?_)) hb15))
  have D15 := Lib.hid (D14.out.below (bstep (by repeat (first | exact Below.refl _ _ | refine balloc ?_ _ | refine bdrew ?_)) hb15))
  go_wp2_with fail
  with_reducible refine Calls.mono (same_true _ (V15.out.below (by repeat (first | exact Below.refl _ _ | refine balloc ?_ _ | refine bdrew ?_))) (bat_lit _ [1, 2, 3, 4] (by decide))) ?_
  rintro e16 w16 ⟨rfl, hb16⟩
  have S16 := Lib.hid (bstep S15.out (bstep (by repeat (first | exact Below.refl _ _ | refine balloc ?_ _ | refine bdrew ?_)) hb16))
  have D16 := Lib.hid (D15.out.below (bstep (by repeat (first | exact Below.refl _ _ | refine balloc ?_ _ | refine bdrew ?_)) hb16))
  go_wp2_with fail
  with_reducible refine Calls.mono (appE (d2 := ⟨[1, 2, 3, 4], 4, -1, false, 9⟩) (r := 5) _ (D16.out.below (by repeat (first | exact Below.refl _ _ | refine balloc ?_ _ | refine bdrew ?_))) (bat_lit _ [0, 0, 0, 0, 0, 0] (by decide)) (fun _ => D16.out.apart_new _ _ _ _ (by first | exact Nat.le_refl _ | simp)) rfl) ?_
  rintro e17 w17 ⟨v17, rfl, hd17, hs17⟩
  have S17 := Lib.hid (DS.toBelow (D16.out.below (by repeat (first | exact Below.refl _ _ | refine balloc ?_ _ | refine bdrew ?_))) (Nat.le_refl _) (bstep S16.out (by repeat (first | exact Below.refl _ _ | refine balloc ?_ _ | refine bdrew ?_))) hs17)
  have D17 := Lib.hid hd17
  clear hd17 hs17
  go_wp2_with fail
  with_reducible refine Calls.mono (cutE (d2 := ⟨[1, 2], 2, -1, false, 9⟩) (r := 0) _ (D17.out.below (by repeat (first | exact Below.refl _ _ | refine balloc ?_ _ | refine bdrew ?_))) 2 rfl) ?_
  rintro e18 w18 ⟨v18, rfl, hd18, hs18⟩
  have S18 := Lib.hid (DS.toBelow (D17.out.below (by repeat (first | exact Below.refl _ _ | refine balloc ?_ _ | refine bdrew ?_))) (Nat.le_refl _) (bstep S17.out (by repeat (first | exact Below.refl _ _ | refine balloc ?_ _ | refine bdrew ?_))) hs18)
  have D18 := Lib.hid hd18
  clear hd18 hs18
  go_wp2_with fail
  with_reducible refine Calls.mono (bytesE (ls := [1, 2]) _ (D18.out.below (by repeat (first | exact Below.refl _ _ | refine balloc ?_ _ | refine bdrew ?_))) rfl) ?_
  rintro e19 w19 ⟨v19, rfl, hv19, hb19⟩
  have V19 := Lib.hid (BAt.of_own hv19)
  have O19 := Lib.hid hv19
  clear hv19
  have S19 := Lib.hid (bstep S18.out (bstep (by repeat (first | exact Below.refl _ _ | refine balloc ?_ _ | refine bdrew ?_)) hb19))
  have D19 := Lib.hid (D18.out.below (bstep (by repeat (first | exact Below.refl _ _ | refine balloc ?_ _ | refine bdrew ?_)) hb19))
  go_wp2_with fail
  with_reducible refine Calls.mono (same_true _ (V19.out.below (by repeat (first | exact Below.refl _ _ | refine balloc ?_ _ | refine bdrew ?_))) (bat_lit _ [1, 2] (by decide))) ?_
  rintro e20 w20 ⟨rfl, hb20⟩
  have S20 := Lib.hid (bstep S19.out (bstep (by repeat (first | exact Below.refl _ _ | refine balloc ?_ _ | refine bdrew ?_)) hb20))
  have D20 := Lib.hid (D19.out.below (bstep (by repeat (first | exact Below.refl _ _ | refine balloc ?_ _ | refine bdrew ?_)) hb20))
  go_wp2_with fail
  go_ret
  exact ⟨rfl, S20.out⟩
end Go.Proofs.Ythgaphfelpnclaa
