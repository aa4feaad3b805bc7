/- The law NvlogNone, walked. -/
import Derived.Test.YthgaphfelpnclaaLh
import Derived.Test.YthgaphfelpnclaaDn
set_option linter.unusedVariables false
set_option linter.unusedSimpArgs false
namespace Go.Proofs.Ythgaphfelpnclaa
open Go.RowKit
theorem u8s_nil : U8s [] := fun n hn => by cases hn
def NonL (w : World) (p : Option Addr) : Prop := p = none ∨ ∃ Lp, p = some ⟨Lp, 0, none⟩ ∧ w.cell? ⟨Lp, 0, none⟩ = some (.pointer none)
theorem NonL.below {w w' : World} {p : Option Addr} (h : NonL w p) (hb : Below w.heap.size w w') : NonL w' p := by
  rcases h with h | ⟨B, h1, h2⟩
  · exact .inl h
  · exact .inr ⟨B, h1, keep hb h2⟩
theorem NonL.zero (w : World) : NonL w none := .inl rfl
theorem NonL.at {w : World} {Lp : Nat} (h : w.cell? ⟨Lp, 0, none⟩ = some (.pointer none)) : NonL w (some ⟨Lp, 0, none⟩) := .inr ⟨_, rfl, h⟩
theorem Non.zero (w : World) : Non w none := .inl rfl
theorem Non.at {w : World} {B : Nat} (h : w.cell? ⟨B, 0, none⟩ = some (.bool false)) : Non w (some ⟨B, 0, none⟩) := .inr ⟨_, rfl, h⟩
theorem noneN {p : Option Addr} (w : World) (h : NonL w p) : Calls Try.prog 69 #[.pointer p] w fun e' w' => e' = .returned (.bool true) ∧ Below w.heap.size w w' := by
  rcases h with rfl | ⟨B, rfl, h2⟩
  · exact none0 w
  · exact noneE w h2
set_option maxRecDepth 100000 in
theorem putN {p : Option Addr} {a : Value} (w : World) (h : NonL w p) {wh tx who : Int} {yes : Bool} {A : Option Addr} {n c : Nat} (ha : a = .agg #[.int .u8 wh, .int .u32 tx, .int .u8 who, .bool yes, .slice A n c]) :
    Calls Try.prog 40 #[.pointer p, a] w fun e' w' => e' = .returned (.int .i64 1) ∧ Below w.heap.size w w' := by
  subst ha
  have hb0 : Below w.heap.size w (w.alloc (.cells #[.int .u8 wh, .int .u32 tx, .int .u8 who, .bool yes, .slice A n c] 34)) := balloc (Below.refl _ _) _
  go_enter Try.func40, Try.ntmps40
  go_wp2_with fail
  with_reducible refine Calls.mono (noneN _ (h.below hb0)) ?_
  rintro e1 w1 ⟨rfl, hb1⟩
  go_wp2_with fail
  go_ret
  exact ⟨rfl, bstep hb0 hb1⟩
set_option maxRecDepth 100000 in
theorem freeN {p : Option Addr} (w : World) (h : NonL w p) : Calls Try.prog 42 #[.pointer p] w fun e' w' => e' = .returned (.int .i64 0) ∧ Below w.heap.size w w' := by
  go_enter Try.func42, Try.ntmps42
  go_wp2_with fail
  with_reducible refine Calls.mono (noneN _ h) ?_
  rintro e1 w1 ⟨rfl, hb1⟩
  go_wp2_with fail
  go_ret
  exact ⟨rfl, hb1⟩
set_option maxRecDepth 100000 in
theorem openN {p : Option Addr} (w : World) (h : Non w p) : Calls Try.prog 39 #[.pointer p] w fun e' w' => e' = .returned (.tuple #[.pointer none, .slice none 0 0, .int .i64 1]) ∧ Below w.heap.size w w' := by
  go_enter Try.func39, Try.ntmps39
  go_wp2_with fail
  with_reducible refine Calls.mono (bytesN _ h) ?_
  rintro e1 w1 ⟨rfl, hb1⟩
  go_wp2_with fail
  with_reducible refine Calls.mono (readR _ (bat_none w1) u8s_nil (by simp)) ?_
  rintro e2 w2 ⟨v2, ps, n, rfl, hrd, O2, hb2⟩
  obtain ⟨hps, rfl⟩ := hrd.det (Reads.nil first_nil)
  have h2 := (h.below hb1).below hb2
  go_wp2_with fail
  with_reducible refine Calls.mono (syncN _ h2) ?_
  rintro e3 w3 ⟨rfl, hb3⟩
  go_wp2_with fail
  refine bodyPost_ret (v := .tuple #[.pointer none, .slice none 0 0, .int .i64 1]) ?_ rfl ?_
  · simp [results, Try.results39, go_sem, *]
  · exact ⟨rfl, bstep (bstep hb1 hb2) hb3⟩
set_option maxRecDepth 100000 in
set_option maxHeartbeats 2000000 in
theorem lnone_walk {x : Rc} {u : Value} (w : World) (hok : x.ok) (hu : BAt w u x.text) :
    Calls Try.prog 11 #[x.val u] w fun e' w' => e' = .returned (.bool true) ∧ Below w.heap.size w w' := by
  obtain ⟨A, c, rfl, _⟩ := hu
  unfold Rc.val
  have HNIL := Lib.hid (show Reads (Dsk.mk [] 0 0 true 50).b [] 0 from Reads.nil first_nil)
  go_enter Try.func11, Try.ntmps11
  go_wp2_with fail
  obtain ⟨w0, hw0⟩ : ∃ w0, w0 = ((w.alloc (.cells #[.int .u8 x.wh, .int .u32 x.tx, .int .u8 x.who, .bool x.yes, .slice A x.text.length c] 34)).alloc (.cells #[.pointer none] 80)).alloc (.cells #[.pointer none, .pointer (some ⟨w.heap.size + 1, 0, none⟩)] 71) := ⟨_, rfl⟩
  rw [← hw0]
  have S0 := Lib.hid (show Below w.heap.size w w0 from by subst hw0; exact balloc (balloc (balloc (Below.refl _ _) _) _) _)
  have a0 : w0.cell? ⟨w.heap.size, 0, none⟩ = some (.int .u8 x.wh) := by subst hw0; go_simp
  have a1 : w0.cell? ⟨w.heap.size, 1, none⟩ = some (.int .u32 x.tx) := by subst hw0; go_simp
  have a2 : w0.cell? ⟨w.heap.size, 2, none⟩ = some (.int .u8 x.who) := by subst hw0; go_simp
  have a3 : w0.cell? ⟨w.heap.size, 3, none⟩ = some (.bool x.yes) := by subst hw0; go_simp
  have a4 : w0.cell? ⟨w.heap.size, 4, none⟩ = some (.slice A x.text.length c) := by subst hw0; go_simp
  have b0 : w0.cell? ⟨w.heap.size + 1, 0, none⟩ = some (.pointer none) := by subst hw0; go_simp
  have c0 : w0.cell? ⟨w.heap.size + 1 + 1, 0, none⟩ = some (.pointer none) := by subst hw0; go_simp
  have c1 : w0.cell? ⟨w.heap.size + 1 + 1, 1, none⟩ = some (.pointer (some ⟨w.heap.size + 1, 0, none⟩)) := by subst hw0; go_simp
  clear hw0
  go_loopw [17] (fun i wr => ∃ (k : Nat), k ≤ 2 ∧ i = .int .i64 k ∧ Below w0.heap.size w0 wr) (fun i _ => 2 - (intOf i).toNat)
  case atStart => exact ⟨0, by omega, rfl, Below.refl _ _⟩
  case round =>
    obtain ⟨k, hk, rfl, hB⟩ := hrel
    have HB := Lib.hid hB
    have a0 := keep hB a0
    have a1 := keep hB a1
    have a2 := keep hB a2
    have a3 := keep hB a3
    have a4 := keep hB a4
    have b0 := keep hB b0
    have c0 := keep hB c0
    have c1 := keep hB c1
    clear hB
    have hk3 : k = 0 ∨ k = 1 ∨ k = 2 := by omega
    rcases hk3 with rfl | rfl | rfl
    · skip
      go_wp2_with fail
      with_reducible refine Calls.mono (putN _ (NonL.zero _) rfl) ?_
      rintro e1 w1 ⟨rfl, hb1⟩
      go_wp2_with fail
      with_reducible refine Calls.mono (freeN _ (NonL.below (NonL.zero _) hb1)) ?_
      rintro e2 w2 ⟨rfl, hb2⟩
      have B2 := Lib.hid (bstep HB.out (bstep hb1 hb2))
      clear hb1 hb2
      go_wp2_with fail
      go_roundw
      case rel => exact ⟨1, by omega, by go_num, B2.out⟩
      case measure => simp [intOf]
    · skip
      go_wp2_with fail
      with_reducible refine Calls.mono (putN _ (NonL.at b0) rfl) ?_
      rintro e1 w1 ⟨rfl, hb1⟩
      go_wp2_with fail
      with_reducible refine Calls.mono (freeN _ (NonL.below (NonL.at b0) hb1)) ?_
      rintro e2 w2 ⟨rfl, hb2⟩
      have B2 := Lib.hid (bstep HB.out (bstep hb1 hb2))
      clear hb1 hb2
      go_wp2_with fail
      go_roundw
      case rel => exact ⟨2, by omega, by go_num, B2.out⟩
      case measure => simp [intOf]
    · have S1 := Lib.hid (bstep S0.out HB.out)
      clear a0 a1 a2 a3 a4 b0 c0 c1
      go_wp2_with fail
      with_reducible refine Calls.mono (newE (r := 50) 50 _ rfl (by omega)) ?_
      rintro e1 w1 ⟨rfl, hb1, hd1⟩
      have D1 := Lib.hid hd1
      have S2 := Lib.hid (bstep S1.out hb1)
      clear hb1 hd1
      go_wp2_with fail
      with_reducible refine Calls.mono (sparksE (d2 := ⟨[], 0, 0, false, 50⟩) _ D1.out 0 (by omega) rfl) ?_
      rintro e2 w2 ⟨v2, rfl, hd2, hs2⟩
      have D2 := Lib.hid hd2
      have S2 := Lib.hid (DS.toBelow D1.out (by have := S1.out.size; omega) S2.out hs2)
      clear hd2 hs2
      go_wp2_with fail
      with_reducible refine Calls.mono (syncE (d2 := ⟨[], 0, 0, true, 50⟩) (r := 6) _ D2.out rfl) ?_
      rintro e3 w3 ⟨v3, rfl, hd3, hs3⟩
      have S3 := Lib.hid (DS.toBelow D2.out (by have := S1.out.size; omega) S2.out hs3)
      have D3 := Lib.hid hd3
      have hsw := S1.out.size
      clear hd3 hs3
      go_wp2_with fail
      obtain ⟨B, hBd⟩ : ∃ B, B = wr.heap.size := ⟨_, rfl⟩
      rw [← hBd] at D3 hsw ⊢
      clear hBd D1 D2
      obtain ⟨w4, hw4⟩ : ∃ w4, w4 = (w3.alloc (.cells #[.bool false, .slice none 0 0, .int .i64 0, .int .i64 0, .int .i64 0, .bool false] 65)).alloc (.cells #[.pointer none, .pointer (some ⟨w3.heap.size, 0, none⟩), .pointer (some ⟨B, 0, none⟩)] 41) := ⟨_, rfl⟩
      rw [← hw4]
      have b4 : Below w3.heap.size w3 w4 := by subst hw4; exact balloc (balloc (Below.refl _ _) _) _
      have f0 : w4.cell? ⟨w3.heap.size, 0, none⟩ = some (.bool false) := by subst hw4; go_simp
      have g0 : w4.cell? ⟨w3.heap.size + 1, 0, none⟩ = some (.pointer none) := by subst hw4; go_simp
      have g1 : w4.cell? ⟨w3.heap.size + 1, 1, none⟩ = some (.pointer (some ⟨w3.heap.size, 0, none⟩)) := by subst hw4; go_simp
      have g2 : w4.cell? ⟨w3.heap.size + 1, 2, none⟩ = some (.pointer (some ⟨B, 0, none⟩)) := by subst hw4; go_simp
      have D4 := Lib.hid (D3.out.below b4)
      have S4 := Lib.hid (bstep S3.out b4)
      clear hw4 b4 S2 S3 D3
      go_loopw [46] (fun i wr => ∃ (k : Nat), k ≤ 3 ∧ i = .int .i64 k ∧ Below w.heap.size w wr ∧ (k ≤ 2 → Below w4.heap.size w4 wr)) (fun i _ => 3 - (intOf i).toNat)
      case atStart => exact ⟨0, by omega, rfl, S4.out, fun _ => Below.refl _ _⟩
      case round =>
        obtain ⟨k, hk, rfl, hW, hB5⟩ := hrel
        have HW := Lib.hid hW
        clear hW
        by_cases hk2 : k ≤ 2
        · have HB5 := Lib.hid (hB5 hk2)
          have f0 := keep HB5.out f0
          have g0 := keep HB5.out g0
          have g1 := keep HB5.out g1
          have g2 := keep HB5.out g2
          have hk3 : k = 0 ∨ k = 1 ∨ k = 2 := by omega
          clear hB5
          rcases hk3 with rfl | rfl | rfl
          · skip
            go_wp2_with fail
            with_reducible refine Calls.mono (openN _ (Non.zero _)) ?_
            rintro e5 w5 ⟨rfl, hb5⟩
            have B5 := Lib.hid (bstep HB5.out hb5)
            have W5 := Lib.hid (bstep HW.out hb5)
            clear hb5
            go_wp2_with fail
            go_roundw
            case rel => exact ⟨1, by omega, by go_num, W5.out, fun _ => B5.out⟩
            case measure => simp [intOf]
          · skip
            go_wp2_with fail
            with_reducible refine Calls.mono (openN _ (Non.at f0)) ?_
            rintro e5 w5 ⟨rfl, hb5⟩
            have B5 := Lib.hid (bstep HB5.out hb5)
            have W5 := Lib.hid (bstep HW.out hb5)
            clear hb5
            go_wp2_with fail
            go_roundw
            case rel => exact ⟨2, by omega, by go_num, W5.out, fun _ => B5.out⟩
            case measure => simp [intOf]
          · have D5 := Lib.hid (D4.out.below HB5.out)
            go_wp2_with fail
            with_reducible refine Calls.mono (openE (d2 := ⟨[], 0, 0, true, 50⟩) (r := 6) (rs := []) (n := 0) _ D5.out u8s_nil HNIL.out rfl) ?_
            rintro e5 w5 ⟨v5, hd5, hs5, hres⟩
            have W5 := Lib.hid (DS.toBelow D5.out hsw HW.out hs5)
            rcases hres with ⟨-, rfl⟩ | ⟨h9, -⟩
            · clear hd5 hs5
              go_wp2_with fail
              go_roundw
              case rel => exact ⟨3, by omega, by go_num, W5.out, fun h => by omega⟩
              case measure => simp [intOf]
            · exact absurd h9 (by decide)
        · obtain rfl : k = 3 := by omega
          go_wp2_with fail
          with_reducible refine Calls.mono (awake10 _) ?_
          rintro e6 w6 ⟨rfl, hb6⟩
          go_wp2_with fail
          go_ret
          exact ⟨rfl, bstep HW.out hb6⟩
end Go.Proofs.Ythgaphfelpnclaa
