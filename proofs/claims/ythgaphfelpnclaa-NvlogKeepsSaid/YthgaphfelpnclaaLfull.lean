/- The law NvlogFull, walked. -/
import Derived.Test.YthgaphfelpnclaaLl
import Derived.Test.YthgaphfelpnclaaDap
import Derived.Test.YthgaphfelpnclaaLnone
set_option linter.unusedVariables false
set_option linter.unusedSimpArgs false
namespace Go.Proofs.Ythgaphfelpnclaa
open Go.RowKit
theorem dec_free {d : Dsk} (h : d.left = -1) : d.dec = d := by
  cases d
  simp only at h
  subst h
  rfl
theorem sync_free {d : Dsk} (ho : d.off = false) (hl : d.left = -1) : d.sync = ({ d with safe := d.b.length }, 0) := by
  simp [Dsk.sync, Dsk.syncOn, ho, hl, dec_free hl]
theorem put_bad {d : Dsk} {x : Rc} (h : x.right = false) : d.put x = (d, 50) := by simp [Dsk.put, h]
theorem put_full {d : Dsk} {x : Rc} (h : x.right = true) (ho : d.off = false) (hf : (d.room : Int) - d.b.length < x.bytes.length) : d.put x = (d, 5) := by
  have e : d.app x.bytes = (d, 5) := by simp only [Dsk.app, ho, Bool.false_eq_true, if_false, Dsk.appOn, if_pos hf]
  simp [Dsk.put, h, e]
theorem put_room {d : Dsk} {bs : List Int} {fr N : Nat} (h : (d.room : Int) - d.b.length = fr) (hN : N = bs.length) : (({ d with b := d.b ++ bs, safe := (d.b ++ bs).length } : Dsk).room : Int) - (({ d with b := d.b ++ bs, safe := (d.b ++ bs).length } : Dsk).b.length : Int) = (fr : Int) - (N : Int) := by
  simp only [List.length_append]
  omega
theorem put_ok {d : Dsk} {x : Rc} (h : x.right = true) (ho : d.off = false) (hl : d.left = -1) (hf : d.b.length + x.bytes.length ≤ d.room) : d.put x = ({ d with b := d.b ++ x.bytes, safe := (d.b ++ x.bytes).length }, 0) := by
  have e := app_free d x.bytes ho (by omega) hf
  simp only [Dsk.put, h, if_true, e]
  exact sync_free (d := { d with b := d.b ++ x.bytes }) ho hl
set_option maxRecDepth 100000 in
set_option maxHeartbeats 4000000 in
theorem full_walk {A : Option Addr} {cap : Nat} {os : List Opr} (a : Int) (w : World) (ha : 0 ≤ a ∧ a ≤ 65535) (hn : os.length ≤ cap) (hcap : cap ≤ maxLen) (h : OpsAt w A os) (hok : ∀ p ∈ os, p.ok) :
    Calls Try.prog 12 #[.int .u16 a, .slice A os.length cap] w fun e' w' => e' = .returned (.bool true) ∧ Below w.heap.size w w' := by
  have H := Lib.hid h
  clear h
  have hcap2 := hcap
  unfold maxLen at hcap2
  obtain ⟨R, hR⟩ := Int.eq_ofNat_of_zero_le (show 0 ≤ a % 601 by omega)
  have hR600 : R ≤ 600 := by omega
  have HRR := Lib.hid hR
  clear hR
  go_enter Try.func12, Try.ntmps12
  go_wp2_with fail
  with_reducible refine Calls.mono (lightL _ hn hcap H.out) ?_
  rintro e1 w1 ⟨hb1, hres⟩
  have S1 := Lib.hid hb1
  clear hb1
  rcases hres with rfl | ⟨hLt, rfl⟩
  · go_wp2_with fail
    rw [HRR.out]
    with_reducible refine Calls.mono (newD R _ (by omega)) ?_
    rintro e2 w2 ⟨rfl, hb2, -⟩
    go_wp2_with fail
    with_reducible refine Calls.mono (awake10 _) ?_
    rintro e3 w3 ⟨rfl, hb3⟩
    go_wp2_with fail
    go_ret
    exact ⟨rfl, bstep (bstep S1.out hb2) hb3⟩
  · obtain ⟨M, hM⟩ : ∃ M, min os.length 40 = M := ⟨_, rfl⟩
    rw [hM] at hLt ⊢
    have hMo : M ≤ os.length := by omega
    have HM := Lib.hid hM
    have LT := Lib.hid hLt
    clear hM hLt
    go_wp2_with fail
    rw [HRR.out]
    with_reducible refine Calls.mono (newD R _ (by omega)) ?_
    rintro e2 w2 ⟨rfl, hb2, hd2⟩
    obtain ⟨B, hB⟩ : ∃ B, B = w1.heap.size := ⟨_, rfl⟩
    rw [← hB] at hd2 ⊢
    have hwB : w.heap.size ≤ B := by have := S1.out.size; omega
    have D2 := Lib.hid hd2
    have S2 := Lib.hid (bstep S1.out hb2)
    have hBw2 := hd2.lt
    clear hb2 hd2 hB
    have HNIL := Lib.hid (show Reads (Dsk.mk [] 0 (-1) false R).b [] 0 from Reads.nil first_nil)
    go_wp2_with fail
    with_reducible refine Calls.mono (openE (d2 := ⟨[], 0, -1, false, R⟩) (r := 0) (rs := []) (n := 0) _ D2.out u8s_nil HNIL.out rfl) ?_
    rintro e3 w3 ⟨v3, hd3, hs3, hres⟩
    have S3 := Lib.hid (DS.toBelow D2.out hwB S2.out hs3)
    have D3 := Lib.hid hd3
    rcases hres with ⟨h9, -⟩ | ⟨-, Lp, vr, ps, rfl, -, -, -, hLp, hLv, hl⟩
    · exact absurd rfl h9
    · have hLB : Lp ≠ B := by omega
      have LV := Lib.hid hLv
      clear hd3 hs3
      go_wp2_with fail
      go_loopw [50] (fun i wr => ∃ (k : Nat) (v : Value) (d : Dsk), k ≤ M ∧ i = .int .i64 k ∧ DS wr B B v d ∧ Below w.heap.size w wr ∧ d.off = false ∧ d.left = -1 ∧ d.room = R ∧ wr.cell? ⟨Lp, 0, none⟩ = some (.pointer (some ⟨B, 0, none⟩)) ∧ some Lp ≠ v.ownBlock) (fun i _ => M - (intOf i).toNat)
      case atStart => exact ⟨0, v3, _, by omega, rfl, D3.out, S3.out, rfl, rfl, rfl, hl, LV.out⟩
      case round =>
        obtain ⟨k, v, d, hk, rfl, hD, hB, ho, hlf, hrm, l4, hlv⟩ := hrel
        have D4 := Lib.hid hD
        have S4 := Lib.hid hB
        have HO := Lib.hid ho
        have HL := Lib.hid hlf
        have HRm := Lib.hid hrm
        have LV4 := Lib.hid hlv
        have hBl := hD.lt
        have hvl := Lib.hid hD.vlt
        have hdr := hD.hr
        rw [hrm] at hdr
        clear hD hB ho hlf hrm hlv
        by_cases hlt : k < M
        · have hko : k < os.length := by omega
          obtain ⟨b, o, u, rfl, r1⟩ := H.out.below S4.out k _ (List.getElem?_eq_getElem hko)
          have OK := hok _ (List.getElem_mem hko)
          have h200 := LT.out k _ hlt (List.getElem?_eq_getElem hko)
          generalize os[k] = p at r1 OK h200
          obtain ⟨p0, p1, p2, p3, p4, p5, p6, t1⟩ := r1
          have T4 := Lib.hid t1
          obtain ⟨X1, d1, rfl, q1, q2, _⟩ := t1
          unfold maxLen at q2
          go_wp2_with fail
          have hbx : Below wr.heap.size wr (wr.alloc (.cells #[.int .u8 p.wh, .int .u8 p.x.wh, .int .u32 p.x.tx, .int .u8 p.x.who, .bool p.x.yes, .slice X1 p.x.text.length d1, .int .i64 p.n] 75)) := balloc (Below.refl _ _) _
          have C5 := bytesR (x := p.x) _ OK.x (T4.out.below hbx)
          unfold Rc.val at C5
          with_reducible refine Calls.mono C5 ?_
          clear C5
          rintro e5 w5 ⟨v5, rfl, o5, hb5⟩
          have x1 : w5.cell? ⟨wr.heap.size, 1, none⟩ = some (.int .u8 p.x.wh) := keep hb5 (by go_simp)
          have x2 : w5.cell? ⟨wr.heap.size, 2, none⟩ = some (.int .u32 p.x.tx) := keep hb5 (by go_simp)
          have x3 : w5.cell? ⟨wr.heap.size, 3, none⟩ = some (.int .u8 p.x.who) := keep hb5 (by go_simp)
          have x4 : w5.cell? ⟨wr.heap.size, 4, none⟩ = some (.bool p.x.yes) := keep hb5 (by go_simp)
          have x5 : w5.cell? ⟨wr.heap.size, 5, none⟩ = some (.slice X1 p.x.text.length d1) := keep hb5 (by go_simp)
          have hb5 := bstep hbx hb5
          have l5 := keep hb5 l4
          have D5 := Lib.hid (D4.out.below hb5)
          have S5 := Lib.hid (bstep S4.out hb5)
          have hs5 := hb5.size
          have U5 := Lib.hid (T4.out.below hb5)
          clear hb5 hbx p0 p1 p2 p3 p4 p5 p6 l4
          obtain ⟨N, hN0⟩ : ∃ N, (if p.x.right then p.x.bytes else []).length = N := ⟨_, rfl⟩
          obtain ⟨f5, hf0⟩ : ∃ f5, (if p.x.right then (0 : Int) else 50) = f5 := ⟨_, rfl⟩
          rw [hN0] at o5
          rw [hf0]
          have NF := Lib.hid (And.intro hN0 hf0)
          obtain ⟨A5, c5, rfl⟩ := len_of_own o5
          have hNc := own_cap o5
          have hNm := hNc.2
          unfold maxLen at hNm
          clear o5 hN0 hf0
          go_wp2_with fail
          with_reducible refine Calls.mono (bytesE (ls := d.b) _ D5.out rfl) ?_
          rintro e6 w6 ⟨v6, rfl, o6, hb6⟩
          have WAS6 := Lib.hid (BAt.of_own o6)
          have WAP := Lib.hid (show d.b ≠ [] → Apart B v v6 from fun _ k hk => ⟨by have := (o6.lt k hk).1; omega, fun e => by have := (o6.lt k hk).1; have := hvl.out k e.symm; omega⟩)
          obtain ⟨A6, c6, rfl⟩ := len_of_own o6
          have D6 := Lib.hid (D5.out.below hb6)
          have S6 := Lib.hid (bstep S5.out hb6)
          have l6 := keep hb6 l5
          have U6 := Lib.hid (U5.out.below hb6)
          have x1 := keep hb6 x1
          have x2 := keep hb6 x2
          have x3 := keep hb6 x3
          have x4 := keep hb6 x4
          have x5 := keep hb6 x5
          clear o6 hb6 l5
          obtain ⟨fr, hfr⟩ : ∃ fr : Nat, (d.room : Int) - d.b.length = fr := ⟨R - d.b.length, by rw [HRm.out]; omega⟩
          have HFR := Lib.hid hfr
          clear hfr
          go_wp2_with fail
          with_reducible refine Calls.mono (freeE (r := (fr : Int)) _ D6.out l6 HFR.out) ?_
          rintro e7 w7 ⟨rfl, hb7⟩
          have D7 := Lib.hid (D6.out.below hb7)
          have S7 := Lib.hid (bstep S6.out hb7)
          have l7 := keep hb7 l6
          have U7 := Lib.hid (U6.out.below hb7)
          have WAS7 := Lib.hid (WAS6.out.below hb7)
          have x1 := keep hb7 x1
          have x2 := keep hb7 x2
          have x3 := keep hb7 x3
          have x4 := keep hb7 x4
          have x5 := keep hb7 x5
          have LV7 := LV4
          clear hb7 l6
          by_cases hr : p.x.right = true
          · have hN : N = p.x.bytes.length := by rw [← NF.out.1, if_pos hr]
            obtain rfl : f5 = 0 := by rw [← NF.out.2, if_pos hr]
            have HN := Lib.hid hN
            by_cases hf : fr < N
            · have hff := Lib.hid (put_full hr HO.out (by rw [HFR.out, ← HN.out]; omega))
              have dd : decide ((fr : Int) < (N : Int)) = true := by simp; omega
              clear hN
              go_wp2_with fail
              have C8 := putE (d2 := d) (r := 5) (x := p.x) _ D7.out l7 hLB LV7.out OK.x U7.out hff.out
              unfold Rc.val at C8
              with_reducible refine Calls.mono C8 ?_
              clear C8
              rintro e8 w8 ⟨v8, rfl, hd8, hs8⟩
              have D8 := Lib.hid hd8
              have S8 := Lib.hid (DS.toBelow D7.out (show w.heap.size ≤ B by omega) S7.out hs8)
              have l8 := hs8.cell l7 hLB LV7.out
              have LV8 := Lib.hid (fun (e : some Lp = v8.ownBlock) => LV7.out (hs8.fresh Lp (cell_lt l7) e))
              have WAS8 := Lib.hid (WAS7.out.step hs8 WAP.out)
              clear hd8 hs8 l7
              go_wp2_with fail
              with_reducible refine Calls.mono (bytesE (ls := d.b) _ D8.out rfl) ?_
              rintro e9 w9 ⟨v9, rfl, o9, hb9⟩
              have B9 := Lib.hid (BAt.of_own o9)
              obtain ⟨A9, c9, rfl⟩ := len_of_own o9
              have D9 := Lib.hid (D8.out.below hb9)
              have S9 := Lib.hid (bstep S8.out hb9)
              have l9 := keep hb9 l8
              have WAS9 := Lib.hid (WAS8.out.below hb9)
              clear o9 hb9 l8
              go_wp2_with fail
              with_reducible refine Calls.mono (same_true _ WAS9.out B9.out) ?_
              rintro e10 w10 ⟨rfl, hb10⟩
              have D10 := Lib.hid (D9.out.below hb10)
              have S10 := Lib.hid (bstep S9.out hb10)
              have l10 := keep hb10 l9
              clear hb10 l9
              go_wp2_with fail
              go_roundw
              case rel => exact ⟨k + 1, v8, d, by omega, by go_num, D10.out, S10.out, HO.out, HL.out, HRm.out, l10, LV8.out⟩
              case measure => (try simp [intOf]) <;> omega
            · have hfit : d.b.length + p.x.bytes.length ≤ d.room := by have := HFR.out; omega
              have hff := Lib.hid (put_ok hr HO.out HL.out hfit)
              have dd : decide ((fr : Int) < (N : Int)) = false := by simp; omega
              have HD2 := Lib.hid (put_room HFR.out HN.out)
              obtain ⟨d2, hd2⟩ : ∃ d2, d2 = ({ d with b := d.b ++ p.x.bytes, safe := (d.b ++ p.x.bytes).length } : Dsk) := ⟨_, rfl⟩
              have E2 := Lib.hid (show d2.off = false ∧ d2.left = -1 ∧ d2.room = R ∧ d2.safe = d2.b.length from by rw [hd2]; exact ⟨HO.out, HL.out, HRm.out, rfl⟩)
              rw [← hd2] at hff HD2
              have hfr6 : fr ≤ 600 := by have := HFR.out; rw [HRm.out] at this; omega
              have ew : IntKind.i64.wrap ((fr : Int) - (N : Int)) = (fr : Int) - (N : Int) := wrap_i64 _ (by omega)
              have ew2 : ((fr : Int) - (N : Int) != (fr : Int) - (N : Int)) = false := by simp
              clear hN hd2 hfit
              go_wp2_with fail
              have C8 := putE (d2 := d2) (r := 0) (x := p.x) _ D7.out l7 hLB LV7.out OK.x U7.out hff.out
              unfold Rc.val at C8
              with_reducible refine Calls.mono C8 ?_
              clear C8
              rintro e8 w8 ⟨v8, rfl, hd8, hs8⟩
              have D8 := Lib.hid hd8
              have S8 := Lib.hid (DS.toBelow D7.out (show w.heap.size ≤ B by omega) S7.out hs8)
              have l8 := hs8.cell l7 hLB LV7.out
              have LV8 := Lib.hid (fun (e : some Lp = v8.ownBlock) => LV7.out (hs8.fresh Lp (cell_lt l7) e))
              have WAS8 := Lib.hid (WAS7.out.step hs8 WAP.out)
              clear hd8 hs8 l7
              go_wp2_with fail
              with_reducible refine Calls.mono (freeE (r := (fr : Int) - (N : Int)) _ D8.out l8 HD2.out) ?_
              rintro e9 w9 ⟨rfl, hb9⟩
              have D9 := Lib.hid (D8.out.below hb9)
              have S9 := Lib.hid (bstep S8.out hb9)
              have l9 := keep hb9 l8
              clear hb9 l8
              go_wp2_with fail
              with_reducible refine Calls.mono (safeE (r := (d2.b.length : Int)) _ D9.out (by rw [E2.out.2.2.2])) ?_
              rintro e10 w10 ⟨rfl, hb10⟩
              have D10 := Lib.hid (D9.out.below hb10)
              have S10 := Lib.hid (bstep S9.out hb10)
              have l10 := keep hb10 l9
              clear hb10 l9
              go_wp2_with fail
              with_reducible refine Calls.mono (lenE (r := (d2.b.length : Int)) _ D10.out rfl) ?_
              rintro e11 w11 ⟨rfl, hb11⟩
              have D11 := Lib.hid (D10.out.below hb11)
              have S11 := Lib.hid (bstep S10.out hb11)
              have l11 := keep hb11 l10
              clear hb11 l10
              go_wp2_with fail
              go_roundw
              case rel => exact ⟨k + 1, v8, d2, by omega, by go_num, D11.out, S11.out, E2.out.1, E2.out.2.1, E2.out.2.2.1, l11, LV8.out⟩
              case measure => (try simp [intOf]) <;> omega
          · have hr' : p.x.right = false := by simpa using hr
            obtain rfl : f5 = 50 := by rw [← NF.out.2, if_neg hr]
            have hff := Lib.hid (put_bad (d := d) hr')
            go_wp2_with fail
            have C8 := putE (d2 := d) (r := 50) (x := p.x) _ D7.out l7 hLB LV7.out OK.x U7.out hff.out
            unfold Rc.val at C8
            with_reducible refine Calls.mono C8 ?_
            clear C8
            rintro e8 w8 ⟨v8, rfl, hd8, hs8⟩
            have D8 := Lib.hid hd8
            have S8 := Lib.hid (DS.toBelow D7.out (show w.heap.size ≤ B by omega) S7.out hs8)
            have l8 := hs8.cell l7 hLB LV7.out
            have LV8 := Lib.hid (fun (e : some Lp = v8.ownBlock) => LV7.out (hs8.fresh Lp (cell_lt l7) e))
            have WAS8 := Lib.hid (WAS7.out.step hs8 WAP.out)
            clear hd8 hs8 l7
            go_wp2_with fail
            with_reducible refine Calls.mono (bytesE (ls := d.b) _ D8.out rfl) ?_
            rintro e9 w9 ⟨v9, rfl, o9, hb9⟩
            have B9 := Lib.hid (BAt.of_own o9)
            obtain ⟨A9, c9, rfl⟩ := len_of_own o9
            have D9 := Lib.hid (D8.out.below hb9)
            have S9 := Lib.hid (bstep S8.out hb9)
            have l9 := keep hb9 l8
            have WAS9 := Lib.hid (WAS8.out.below hb9)
            clear o9 hb9 l8
            go_wp2_with fail
            with_reducible refine Calls.mono (same_true _ WAS9.out B9.out) ?_
            rintro e10 w10 ⟨rfl, hb10⟩
            have D10 := Lib.hid (D9.out.below hb10)
            have S10 := Lib.hid (bstep S9.out hb10)
            have l10 := keep hb10 l9
            clear hb10 l9
            go_wp2_with fail
            go_roundw
            case rel => exact ⟨k + 1, v8, d, by omega, by go_num, D10.out, S10.out, HO.out, HL.out, HRm.out, l10, LV8.out⟩
            case measure => (try simp [intOf]) <;> omega
        · obtain rfl : k = M := by omega
          go_wp2_with fail
          with_reducible refine Calls.mono (awake10 _) ?_
          rintro e6 w6 ⟨rfl, hb6⟩
          go_wp2_with fail
          go_ret
          exact ⟨rfl, bstep S4.out hb6⟩
end Go.Proofs.Ythgaphfelpnclaa
