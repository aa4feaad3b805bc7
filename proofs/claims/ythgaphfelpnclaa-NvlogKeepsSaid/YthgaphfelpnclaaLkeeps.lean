/- The law NvlogKeeps, walked. -/
import Derived.Test.YthgaphfelpnclaaLn
import Derived.Test.YthgaphfelpnclaaLfull
set_option linter.unusedVariables false
set_option linter.unusedSimpArgs false
namespace Go.Proofs.Ythgaphfelpnclaa
open Go.RowKit
theorem low_sep {w : World} {u hv : Value} {ls : List Int} {base : Nat} (hu : BAt w u ls) (hb : w.heap.size ≤ base) (hh : ∀ k, hv.ownBlock = some k → base ≤ k) : ls ≠ [] → u.ownBlock ≠ hv.ownBlock := fun hne e => by
  obtain ⟨k, hk, hlt⟩ := bat_some hu hne
  have := hh k (by rw [← e, hk])
  omega
theorem alloc_f {w : World} {v v2 : Value} {ob : Obj} (f : ∀ k, v2.ownBlock = some k → v.ownBlock = some k ∨ w.heap.size + 1 ≤ k) : ∀ k, v2.ownBlock = some k → v.ownBlock = some k ∨ (w.alloc ob).heap.size ≤ k := fun k hk => by
  rcases f k hk with h9 | h9
  · exact .inl h9
  · exact .inr (by simpa using h9)
theorem apart_off {B : Nat} {v u : Value} (h : Apart B v u) : v.ownBlock = none ∨ v.ownBlock ≠ u.ownBlock := by
  cases hv : v.ownBlock with
  | none => exact .inl rfl
  | some k => exact .inr (fun e => (h k e.symm).2 hv.symm)
theorem KS.perhaps {w W : World} {B q L1 L2 : Nat} {v hv pv gv u : Value} {d : Dsk} {ps pp gp : List (Rc × Value)} {p : Opr} (h : KS w W B q L1 L2 v hv pv gv u d ps pp gp p) {p2 : Value} {pp2 : List (Rc × Value)} (hr : OwnR W w.heap.size p2 pp2) (hf : FarR B v p2 pp2) : KS w W B q L1 L2 v hv p2 gv u d ps pp2 gp p :=
  ⟨h.ds, h.bel, h.hr, h.hf, hr, hf, h.gr, h.gf, h.op, h.oq, h.l1, h.l2, h.q1, h.q2, h.n1, h.n2⟩
set_option maxRecDepth 100000 in
set_option maxHeartbeats 16000000 in
theorem keepsL_walk {A : Option Addr} {cap : Nat} {os : List Opr} (w : World) (hn : os.length ≤ cap) (hcap : cap ≤ maxLen) (h : OpsAt w A os) (hok : ∀ p ∈ os, p.ok) :
    Calls Try.prog 10 #[.slice A os.length cap] w fun e' w' => e' = .returned (.bool true) ∧ Below w.heap.size w w' := by
  have H := Lib.hid h
  clear h
  have hcap2 := hcap
  unfold maxLen at hcap2
  obtain ⟨i34, hi, hz0, hz1, hz2⟩ := info_parts info34
  go_enter Try.func10, Try.ntmps10
  go_wp2_with fail
  with_reducible refine Calls.mono (lightL _ hn hcap H.out) ?_
  rintro e1 w1 ⟨hb1, hres⟩
  have S1 := Lib.hid hb1
  clear hb1
  rcases hres with rfl | ⟨hLt, rfl⟩
  · go_wp2_with fail
    with_reducible refine Calls.mono (newE (r := 3000) 3000 _ rfl (by omega)) ?_
    rintro e2 w2 ⟨rfl, hb2, -⟩
    go_wp2_with fail
    with_reducible refine Calls.mono (awake10 _) ?_
    rintro e3 w3 ⟨rfl, hb3⟩
    go_wp2_with fail
    go_ret
    exact ⟨rfl, bstep (bstep S1.out hb2) hb3⟩
  · obtain ⟨M, hM⟩ : ∃ M, min os.length 40 = M := ⟨_, rfl⟩
    rw [hM] at hLt ⊢
    have hMo : M ≤ os.length := by omega
    have HM := Lib.hid hM
    have LT := Lib.hid hLt
    clear hM hLt
    go_wp2_with fail
    with_reducible refine Calls.mono (newE (r := 3000) 3000 _ rfl (by omega)) ?_
    rintro e2 w2 ⟨rfl, hb2, hd2⟩
    obtain ⟨B, hB⟩ : ∃ B, B = w1.heap.size := ⟨_, rfl⟩
    rw [← hB] at hd2 ⊢
    have hwB : w.heap.size ≤ B := by have := S1.out.size; omega
    have D2 := Lib.hid hd2
    have S2 := Lib.hid (bstep S1.out hb2)
    have hBw2 := hd2.lt
    clear hb2 hd2 hB
    have HNIL := Lib.hid (show Reads (Dsk.mk [] 0 (-1) false 3000).b [] 0 from Reads.nil first_nil)
    go_wp2_with fail
    with_reducible refine Calls.mono (openF (d2 := ⟨[], 0, -1, false, 3000⟩) (r := 0) (rs := []) (n := 0) _ D2.out u8s_nil HNIL.out rfl) ?_
    rintro e3 w3 ⟨v3, hd3, hs3, hres⟩
    have S3 := Lib.hid (DS.toBelow D2.out hwB S2.out hs3)
    have D3 := Lib.hid hd3
    rcases hres with ⟨h9, -⟩ | ⟨-, Lp0, vr, ps0, rfl, hps0, hown0, -, hLp0, hLv0, hl0, hfar0, hnv0⟩
    · exact absurd rfl h9
    obtain rfl : ps0 = [] := List.map_eq_nil_iff.1 hps0
    have O3 := Lib.hid (hown0.lower (show w.heap.size ≤ w2.heap.size by have := S2.out.size; omega))
    have FF3 := Lib.hid hfar0
    have L3 := Lib.hid hl0
    have Q3 := Lib.hid (show Lp0 ≠ B ∧ some Lp0 ≠ v3.ownBlock from ⟨by omega, hLv0⟩)
    have N3 := Lib.hid hnv0
    obtain ⟨Ah, ch, rfl⟩ := ownS_form hown0.own
    clear hd3 hs3 hown0 hfar0 hl0 hLv0 hnv0
    go_wp2_with fail
    go_loopw [6, 7, 54] (fun g hv i wr => ∃ (k : Nat) (v : Value) (d : Dsk) (ps : List (Rc × Value)) (Lp : Nat), k ≤ M ∧ i = .int .i64 k ∧ g = .pointer (some ⟨Lp, 0, none⟩) ∧ DS wr B B v d ∧ Good d (ps.map (·.1)) ∧ OwnR wr w.heap.size hv ps ∧ FarR B v hv ps ∧ wr.cell? ⟨Lp, 0, none⟩ = some (.pointer (some ⟨B, 0, none⟩)) ∧ (Lp ≠ B ∧ some Lp ≠ v.ownBlock) ∧ some Lp ≠ hv.ownBlock ∧ Below w.heap.size w wr) (fun _ _ i _ => M - (intOf i).toNat)
    case atStart => exact ⟨0, v3, _, [], Lp0, by omega, rfl, rfl, D3.out, ⟨rfl, rfl, rfl, rfl, fun x hx => (by cases hx)⟩, O3.out, FF3.out, L3.out, Q3.out, N3.out, S3.out⟩
    case round =>
      obtain ⟨k, v, d, ps, Lp, hk, rfl, rfl, hD, hG, hO, hF, hl, hq, hnn, hBw⟩ := hrel
      have D4 := Lib.hid hD
      have S4 := Lib.hid hBw
      have G := Lib.hid hG
      have GD := Lib.hid hG.all
      have PSL := Lib.hid (show ps.length ≤ 3000 from by
        have h1 := cat_count (ps.map (·.1))
        rw [List.length_map, ← hG.b] at h1
        have h2 := hD.hr.1
        rw [hG.room] at h2
        omega)
      by_cases hlt : k < M
      · have hko : k < os.length := by omega
        obtain ⟨b, o, u, rfl, r0⟩ := H.out k _ (List.getElem?_eq_getElem hko)
        have OK := hok _ (List.getElem_mem hko)
        generalize os[k] = p at r0 OK
        have HU9 := Lib.hid r0.txt
        obtain ⟨p0, p1, p2, p3, p4, p5, p6, t1⟩ := r0.below S4.out
        have T4 := Lib.hid t1
        obtain ⟨X1, d1, rfl, q1, q2, _⟩ := t1
        unfold maxLen at q2
        have hvl := Lib.hid hD.vlt
        have hBl := hD.lt
        go_upto_region 12 with fail
        obtain ⟨w4, hw4⟩ : ∃ w4, w4 = wr.alloc (.cells #[.int .u8 p.wh, .int .u8 p.x.wh, .int .u32 p.x.tx, .int .u8 p.x.who, .bool p.x.yes, .slice X1 p.x.text.length d1, .int .i64 p.n] 75) := ⟨_, rfl⟩
        rw [← hw4]
        have b4 : Below wr.heap.size wr w4 := by subst hw4; exact balloc (Below.refl _ _) _
        have hop : OpBox w4 wr.heap.size p (.slice X1 p.x.text.length d1) := by
          subst hw4
          exact ⟨by go_simp, by go_simp, by go_simp, by go_simp, by go_simp, by go_simp, by go_simp, T4.out.below (balloc (Below.refl _ _) _)⟩
        have K4 := Lib.hid (show KS w w4 B wr.heap.size Lp Lp v _ (.slice none 0 0) (.slice none 0 0) (.slice X1 p.x.text.length d1) d ps [] [] p from
          ⟨hD.below b4, bstep hBw b4, hO.below b4, hF, OwnR.nil _ _, FarR.nil _ _, OwnR.nil _ _, FarR.nil _ _, hop, ⟨by omega, fun e => (by have := hvl.out _ e.symm; omega), hD.apart_in hwB HU9.out⟩, keep b4 hl, keep b4 hl, hq, hq, hnn, by simp [Value.ownBlock]⟩)
        clear hw4 b4 hop hD hBw hO hF hl hq hnn p0 p1 p2 p3 p4 p5 p6 hG
        have c0 := K4.out.op.c0
        have c1 := K4.out.op.c1
        have c2 := K4.out.op.c2
        have c3 := K4.out.op.c3
        have c4 := K4.out.op.c4
        have c5 := K4.out.op.c5
        have c6 := K4.out.op.c6
        have hwh := OK.wh
        have hc6 : p.wh % 6 = 0 ∨ p.wh % 6 = 1 ∨ p.wh % 6 = 2 ∨ p.wh % 6 = 3 ∨ p.wh % 6 = 4 ∨ p.wh % 6 = 5 := by omega
        rcases hc6 with hm | hm | hm | hm | hm | hm
        · have em : p.wh % 6 = 0 := hm
          go_wp2_with fail
          obtain ⟨d2, r, hput⟩ : ∃ d2 r, d.put p.x = (d2, r) := ⟨_, _, rfl⟩
          have HP := Lib.hid hput
          have C5 := putE (d2 := d2) (r := r) (x := p.x) _ K4.out.ds K4.out.l1 K4.out.q1.1 K4.out.q1.2 OK.x K4.out.op.txt HP.out
          unfold Rc.val at C5
          with_reducible refine Calls.mono C5 ?_
          clear C5
          rintro e5 w5 ⟨v5, rfl, hd5, hs5⟩
          have K5 := Lib.hid (K4.out.step hwB hs5 hd5)
          clear hd5 hs5
          clear c0 c1 c2 c3 c4 c5 c6
          have c0 := K5.out.op.c0
          have c1 := K5.out.op.c1
          have c2 := K5.out.op.c2
          have c3 := K5.out.op.c3
          have c4 := K5.out.op.c4
          have c5 := K5.out.op.c5
          have c6 := K5.out.op.c6
          rcases put_keeps G.out OK.x hput with ⟨rfl, rfl⟩ | ⟨rfl, rfl⟩ | ⟨rfl, hr, hg⟩ | ⟨rfl, hr, ht⟩
          · go_wp2_with fail
            go_roundw
            case rel => exact ⟨k + 1, v5, d2, ps, Lp, by omega, by go_num, rfl, K5.out.ds, G.out, K5.out.hr, K5.out.hf, K5.out.l1, K5.out.q1, K5.out.n1, K5.out.bel⟩
            case measure => (try simp [intOf]) <;> omega
          · go_wp2_with fail
            go_roundw
            case rel => exact ⟨k + 1, v5, d2, ps, Lp, by omega, by go_num, rfl, K5.out.ds, G.out, K5.out.hr, K5.out.hf, K5.out.l1, K5.out.q1, K5.out.n1, K5.out.bel⟩
            case measure => (try simp [intOf]) <;> omega
          · have hOa := Lib.hid (own_belowS K5.out.hr.own (balloc (Below.refl _ _) (.cells #[.int .u8 p.x.wh, .int .u32 p.x.tx, .int .u8 p.x.who, .bool p.x.yes, .slice X1 p.x.text.length d1] 34)))
            have HCX := Lib.hid (cellsR_at w5 (p.x, .slice X1 p.x.text.length d1))
            have hs5 := K5.out.bel.size
            have hpsl := PSL.out
            have HG := Lib.hid hg
            clear hg hput
            go_wp2_with (at_builtin; refine wpList_append_own5 _ rfl _ _ 22 rfl w.heap.size 34 i34 _ 40 Try.underlying22 hi hz0 hz1 hz2 rfl _ ps.length (flatR ps) rfl hOa.out ⟨w5.heap.size, 0, none⟩ 1 1 (cellsR (p.x, .slice X1 p.x.text.length d1)) rfl rfl HCX.out (by simp [cellsR, Value.oneCell']) (by unfold maxLen; omega) (by omega) (by (try simp); omega) ?_)
            intro v6 w6 o6 g6 f6
            have ha6 := Lib.hid (balloc (Below.refl w5.heap.size w5) (.cells #[.int .u8 p.x.wh, .int .u32 p.x.tx, .int .u8 p.x.who, .bool p.x.yes, .slice X1 p.x.text.length d1] 34))
            have R6 := Lib.hid (K5.out.hr.snoc (x := p.x) K5.out.op.txt (low_sep HU9.out (Nat.le_refl _) (fun k9 hk9 => (K5.out.hr.own.lt k9 hk9).1)) o6 g6 f6)
            have D6 := Lib.hid ((K5.out.ds.below ha6.out).grown g6 (fun e => (K5.out.hf.1 B e.symm).1 rfl) (apart_off K5.out.hf.1))
            have FF6 := Lib.hid (show FarR B v5 v6 (ps ++ [(p.x, .slice X1 p.x.text.length d1)]) from ⟨apart_grow (w := w5) (b := w5.heap.size) K5.out.hf.1 K5.out.ds.lt K5.out.ds.vlt (fun k9 hk9 => by rcases f6 k9 hk9 with h9 | h9; exact .inl h9; exact .inr (by omega)), fun q9 hq9 hne => by
              rcases List.mem_append.1 hq9 with hq9 | hq9
              · exact K5.out.hf.2 q9 hq9 hne
              · obtain rfl : q9 = (p.x, .slice X1 p.x.text.length d1) := by simpa using hq9
                exact K5.out.oq.2.2 hne⟩)
            have L6 := Lib.hid (g6.cell (keep ha6.out K5.out.l1) K5.out.n1)
            have N6 := Lib.hid (fun (e : some Lp = v6.ownBlock) => by
              rcases f6 Lp e.symm with h9 | h9
              · exact K5.out.n1 h9.symm
              · have := cell_lt K5.out.l1; omega)
            have B6 := Lib.hid (below_grown (bstep K5.out.bel ha6.out) g6 (fun k9 hk9 => (K5.out.hr.own.lt k9 hk9).1))
            clear o6 g6 f6 hOa HCX
            go_wp2_with fail
            go_roundw
            case rel => exact ⟨k + 1, v5, d2, ps ++ [(p.x, .slice X1 p.x.text.length d1)], Lp, by omega, by go_num, rfl, D6.out, by rw [List.map_append]; exact HG.out, R6.out, FF6.out, L6.out, K5.out.q1, N6.out, B6.out⟩
            case measure => (try simp [intOf]) <;> omega
          · skip
            go_wp2_with fail
            with_reducible refine Calls.mono (rightD _ _ _ _ _ _ _ _ OK.x.wh OK.x.who) ?_
            rintro e6 w6 ⟨rfl, hb6⟩
            rw [show rightB p.x.wh p.x.who p.x.yes p.x.text.length = true from hr]
            have K6 := Lib.hid (K5.out.below hb6)
            clear hb6
            clear c0 c1 c2 c3 c4 c5 c6
            have c0 := K6.out.op.c0
            have c1 := K6.out.op.c1
            have c2 := K6.out.op.c2
            have c3 := K6.out.op.c3
            have c4 := K6.out.op.c4
            have c5 := K6.out.op.c5
            have c6 := K6.out.op.c6
            have hN0 := Lib.hid (World.ownsRow_nil (w6.alloc (.cells #[.int .u8 p.x.wh, .int .u32 p.x.tx, .int .u8 p.x.who, .bool p.x.yes, .slice X1 p.x.text.length d1] 34)) w.heap.size 34 5)
            have HCX := Lib.hid (cellsR_at w6 (p.x, .slice X1 p.x.text.length d1))
            have hs6 := K6.out.bel.size
            go_wp2_with (at_builtin; refine wpList_append_own5 _ rfl _ _ 22 rfl w.heap.size 34 i34 _ 40 Try.underlying22 hi hz0 hz1 hz2 rfl (.slice none 0 0) 0 [] rfl hN0.out ⟨w6.heap.size, 0, none⟩ 1 1 (cellsR (p.x, .slice X1 p.x.text.length d1)) rfl rfl HCX.out (by simp [cellsR, Value.oneCell']) (by unfold maxLen; omega) (by omega) (by (try simp); omega) ?_)
            intro v7 w7 o7 g7 f7
            have b7 := Lib.hid (show Below w6.heap.size w6 w7 from bstep (balloc (Below.refl _ _) _) (below_none g7))
            have PR := Lib.hid ((OwnR.nil w6 w.heap.size).snoc (x := p.x) K6.out.op.txt (low_sep HU9.out (Nat.le_refl _) (fun k9 hk9 => by simp [Value.ownBlock] at hk9)) (by simpa [flatR] using o7) g7 f7)
            have PF := Lib.hid (show FarR B v5 v7 ([] ++ [(p.x, .slice X1 p.x.text.length d1)]) from ⟨apart_grow (w := w6) (b := w6.heap.size) (FarR.nil B v5).1 (K6.out.ds.lt) K6.out.ds.vlt (fun k9 hk9 => by rcases f7 k9 hk9 with h9 | h9; exact .inl h9; exact .inr (by omega)), fun q9 hq9 hne => by
              obtain rfl : q9 = (p.x, .slice X1 p.x.text.length d1) := by simpa using hq9
              exact K6.out.oq.2.2 hne⟩)
            obtain ⟨pp, hpp⟩ : ∃ pp : List (Rc × Value), pp = [] ++ [(p.x, .slice X1 p.x.text.length d1)] := ⟨_, rfl⟩
            rw [← hpp] at PR PF
            have PPE := Lib.hid (show pp.map (·.1) = [p.x] from by rw [hpp]; rfl)
            have PPL := Lib.hid (show pp.length = 1 from by rw [hpp]; rfl)
            have K7 := Lib.hid ((K6.out.below b7.out).perhaps PR.out PF.out)
            clear o7 g7 f7 hN0 HCX hpp PR PF b7
            clear c0 c1 c2 c3 c4 c5 c6
            have c0 := K7.out.op.c0
            have c1 := K7.out.op.c1
            have c2 := K7.out.op.c2
            have c3 := K7.out.op.c3
            have c4 := K7.out.op.c4
            have c5 := K7.out.op.c5
            have c6 := K7.out.op.c6
            go_wp2_with fail
            with_reducible refine Calls.mono (crashE (d2 := d2.crash p.n) _ K7.out.ds p.n rfl) ?_
            rintro e8 w8 ⟨v8, rfl, hd8, hs8⟩
            have M8 := Lib.hid (ht.crash K7.out.ds.hs p.n).1
            have K8 := Lib.hid (K7.out.step hwB hs8 hd8)
            clear hd8 hs8
            clear c0 c1 c2 c3 c4 c5 c6
            have c0 := K8.out.op.c0
            have c1 := K8.out.op.c1
            have c2 := K8.out.op.c2
            have c3 := K8.out.op.c3
            have c4 := K8.out.op.c4
            have c5 := K8.out.op.c5
            have c6 := K8.out.op.c6
            go_wp2_with fail
            with_reducible refine Calls.mono (sparksE (d2 := (d2.crash p.n).sparks p.n) _ K8.out.ds p.n OK.n.2 rfl) ?_
            rintro e9 w9 ⟨v9, rfl, hd9, hs9⟩
            have M9 := Lib.hid (M8.out.sparks p.n)
            have K9 := Lib.hid (K8.out.step hwB hs9 hd9)
            clear hd9 hs9
            clear c0 c1 c2 c3 c4 c5 c6
            have c0 := K9.out.op.c0
            have c1 := K9.out.op.c1
            have c2 := K9.out.op.c2
            have c3 := K9.out.op.c3
            have c4 := K9.out.op.c4
            have c5 := K9.out.op.c5
            have c6 := K9.out.op.c6
            obtain ⟨got, hgot, hrd, -, -, -, -⟩ := M9.out.reads
            have HRD := Lib.hid hrd
            obtain ⟨dg, rg, hop⟩ : ∃ dg rg, ((d2.crash p.n).sparks p.n).open_ (catB got).length = (dg, rg) := ⟨_, _, rfl⟩
            have HOP := Lib.hid hop
            have hs9 := K9.out.bel.size
            clear hrd hop
            go_wp2_with fail
            with_reducible refine Calls.mono (openF (d2 := dg) (r := rg) _ K9.out.ds M9.out.u8 HRD.out HOP.out) ?_
            rintro e10 w10 ⟨v10, hd10, hs10, hres⟩
            have K10 := Lib.hid (K9.out.step hwB hs10 hd10)
            have hBw9 := K9.out.ds.lt
            clear hd10 hs10
            clear c0 c1 c2 c3 c4 c5 c6
            rcases open_mid M9.out HRD.out HOP.out with ⟨rfl, hgd⟩ | ⟨rfl, -, hsl, hcr⟩
            · skip
              have c0 := K10.out.op.c0
              have c1 := K10.out.op.c1
              have c2 := K10.out.op.c2
              have c3 := K10.out.op.c3
              have c4 := K10.out.op.c4
              have c5 := K10.out.op.c5
              have c6 := K10.out.op.c6
              rcases hres with ⟨h9, -⟩ | ⟨-, L3, vr, gp, rfl, hgp, hown, -, hL3, hLv, hl3, hfar, hnv⟩
              · exact absurd rfl h9
              have K13 := Lib.hid (K10.out.got (hown.lower (by have := K9.out.bel.size; omega)) hfar hl3 ⟨by omega, hLv⟩ hnv)
              have GOT := Lib.hid (show gp.map (·.1) = ps.map (·.1) ∨ gp.map (·.1) = ps.map (·.1) ++ [p.x] from by rw [hgp]; exact hgot)
              have G15 := Lib.hid (show Good dg (gp.map (·.1)) from by rw [hgp]; exact hgd)
              clear hown hfar hl3 hLv hnv hgp
              have hM := Lib.hid (World.ownsRow_made (e := 34) (size := 5) (base := w10.heap.size) w10 #[] 0 (Nat.le_refl _) (by simp) (by simp))
              have bM : Below w10.heap.size w10 (w10.alloc (.cells #[] 34)) := balloc (Below.refl _ _) _
              have hKM := Lib.hid (K13.out.below bM)
              have hcnt := Lib.hid (cat_count (ps.map (·.1)))
              have hpsl : ps.length ≤ 3000 := PSL.out
              go_wp2_with (at_builtin; refine wpList_append_from5 _ rfl _ _ rfl w10.heap.size w.heap.size (.slice (some ⟨w10.heap.size, 0, none⟩) 0 0) _ 0 [] ps rfl rfl hM.out hKM.out.hr (by omega) (by (try simp); try omega) ?_)
              intro va wa oa ga fa
              have OA := Lib.hid (OwnR.append (w := w10.alloc (.cells #[] 34)) (base := w10.heap.size) (v := .slice (some ⟨w10.heap.size, 0, none⟩) 0 0) (ps := []) (qs := ps) ⟨hM.out, fun p hp => (by cases hp)⟩ hKM.out.hr (fun q9 hq9 hne e => by
                obtain ⟨k9, hk9, hl9⟩ := bat_some (K13.out.hr.txt q9 hq9).1 hne
                rw [hk9] at e
                simp only [Value.ownBlock, Option.some.injEq] at e
                omega) (by simpa [flatR] using oa) ga (alloc_f fa))
              have BA := Lib.hid (show Below w10.heap.size w10 wa from bM.grown ga (by simp) (fun k9 hk9 => by simp [Value.ownBlock] at hk9; omega))
              have hKA := Lib.hid (K13.out.below BA.out)
              have hsA := BA.out.size
              have hlA : ([] ++ ps : List (Rc × Value)).length = ps.length := by simp
              clear oa ga fa hKM
              go_wp2_with (at_builtin; refine wpList_append_from5 _ rfl _ _ rfl w10.heap.size w.heap.size va _ ([] ++ ps : List (Rc × Value)).length (flatR ([] ++ ps)) pp rfl rfl OA.out.own hKA.out.pr (by rw [hlA]; have := PPL.out; omega) (by omega) ?_)
              intro vb wb ob gb fb
              have OB := Lib.hid (OwnR.append OA.out hKA.out.pr (fun q9 hq9 hne e => by
                obtain ⟨k9, hk9, hl9⟩ := bat_some (K13.out.pr.txt q9 hq9).1 hne
                rw [hk9] at e
                have := (OA.out.own.lt k9 e.symm).1
                omega) ob gb fb)
              have BB := Lib.hid (show Below w10.heap.size w10 wb from BA.out.grown gb BA.out.size (fun k9 hk9 => (OA.out.own.lt k9 hk9).1))
              have K14 := Lib.hid (K13.out.below BB.out)
              have RB := Lib.hid OB.out.recs
              clear ob gb fb hKA OA BA hlA
              go_wp2_with fail
              with_reducible refine Calls.mono (allR _ K14.out.gr.recs K14.out.hr.recs (fun y hy => (G15.out.all y hy).1.text) (fun y hy => (GD.out y hy).1.text)) ?_
              rintro e15 w15 ⟨r15, rfl, hr15, hb15⟩
              have K15 := Lib.hid (K14.out.below hb15)
              have RB15 := Lib.hid (RB.out.below hb15)
              clear hb15
              cases r15 with
              | true =>
                clear hr15
                go_wp2_with fail
                with_reducible refine Calls.mono (sparksE (d2 := dg.sparks (-1)) _ K15.out.ds (-1) (by omega) rfl) ?_
                rintro e16 w16 ⟨v16, rfl, hd16, hs16⟩
                have K16 := Lib.hid (K15.out.step hwB hs16 hd16)
                have G16 := Lib.hid (G15.out.sparks (-1))
                clear hd16 hs16
                obtain ⟨d17, ho17, hg17⟩ := open_good G16.out (by simp [Dsk.sparks])
                have HO17 := Lib.hid ho17
                have G17 := Lib.hid hg17
                clear ho17 hg17
                go_wp2_with fail
                with_reducible refine Calls.mono (openF (d2 := d17) (r := 0) _ K16.out.ds G16.out.u8 G16.out.reads HO17.out) ?_
                rintro e17 w17 ⟨v17, hd17, hs17, hres⟩
                have K17 := Lib.hid (K16.out.step hwB hs17 hd17)
                clear hd17 hs17
                rcases hres with ⟨h9, -⟩ | ⟨-, L4, vr4, gp4, rfl, hgp4, ho4, -, -, -, -, -, -⟩
                · exact absurd rfl h9
                have R4 := Lib.hid (ho4.recs)
                have E4 := Lib.hid hgp4
                clear ho4 hgp4
                go_wp2_with fail
                with_reducible refine Calls.mono (all_true _ R4.out K17.out.gr.recs (fun y hy => (G17.out.all y (by rw [← E4.out]; exact hy)).1.text) E4.out) ?_
                rintro e18 w18 ⟨rfl, hb18⟩
                have K18 := Lib.hid (K17.out.below hb18)
                clear hb18
                go_wp2_with fail
                go_roundw
                case rel => exact ⟨k + 1, v17, d17, gp, L3, by omega, by go_num, rfl, K18.out.ds, G17.out, K18.out.gr, K18.out.gf, K18.out.l2, K18.out.q2, K18.out.n2, K18.out.bel⟩
                case measure => (try simp [intOf]) <;> omega
              | false =>
                have hgx : gp.map (·.1) = (([] : List (Rc × Value)) ++ ps ++ pp).map (·.1) := by
                  rcases GOT.out with h9 | h9
                  · exact absurd (hr15.2 h9) (by simp)
                  · rw [h9, List.map_append, List.map_append, PPE.out]; rfl
                have HGX := Lib.hid hgx
                clear hgx hr15
                go_wp2_with fail
                with_reducible refine Calls.mono (all_true _ K15.out.gr.recs RB15.out (fun y hy => (G15.out.all y hy).1.text) HGX.out) ?_
                rintro e15 w19 ⟨rfl, hb19⟩
                replace K15 := Lib.hid (K15.out.below hb19)
                clear hb19
                go_wp2_with fail
                with_reducible refine Calls.mono (sparksE (d2 := dg.sparks (-1)) _ K15.out.ds (-1) (by omega) rfl) ?_
                rintro e16 w16 ⟨v16, rfl, hd16, hs16⟩
                have K16 := Lib.hid (K15.out.step hwB hs16 hd16)
                have G16 := Lib.hid (G15.out.sparks (-1))
                clear hd16 hs16
                obtain ⟨d17, ho17, hg17⟩ := open_good G16.out (by simp [Dsk.sparks])
                have HO17 := Lib.hid ho17
                have G17 := Lib.hid hg17
                clear ho17 hg17
                go_wp2_with fail
                with_reducible refine Calls.mono (openF (d2 := d17) (r := 0) _ K16.out.ds G16.out.u8 G16.out.reads HO17.out) ?_
                rintro e17 w17 ⟨v17, hd17, hs17, hres⟩
                have K17 := Lib.hid (K16.out.step hwB hs17 hd17)
                clear hd17 hs17
                rcases hres with ⟨h9, -⟩ | ⟨-, L4, vr4, gp4, rfl, hgp4, ho4, -, -, -, -, -, -⟩
                · exact absurd rfl h9
                have R4 := Lib.hid (ho4.recs)
                have E4 := Lib.hid hgp4
                clear ho4 hgp4
                go_wp2_with fail
                with_reducible refine Calls.mono (all_true _ R4.out K17.out.gr.recs (fun y hy => (G17.out.all y (by rw [← E4.out]; exact hy)).1.text) E4.out) ?_
                rintro e18 w18 ⟨rfl, hb18⟩
                have K18 := Lib.hid (K17.out.below hb18)
                clear hb18
                go_wp2_with fail
                go_roundw
                case rel => exact ⟨k + 1, v17, d17, gp, L3, by omega, by go_num, rfl, K18.out.ds, G17.out, K18.out.gr, K18.out.gf, K18.out.l2, K18.out.q2, K18.out.n2, K18.out.bel⟩
                case measure => (try simp [intOf]) <;> omega
            · rcases hres with ⟨-, rfl⟩ | ⟨h9, -⟩
              rotate_left
              · exact absurd h9 (by decide)
              have c0 := K10.out.op.c0
              have c1 := K10.out.op.c1
              have c2 := K10.out.op.c2
              have c3 := K10.out.op.c3
              have c4 := K10.out.op.c4
              have c5 := K10.out.op.c5
              have c6 := K10.out.op.c6
              go_wp2_with fail
              with_reducible refine Calls.mono (crashE (d2 := dg.crash p.n) _ K10.out.ds p.n rfl) ?_
              rintro e11 w11 ⟨v11, rfl, hd11, hs11⟩
              have M11 := Lib.hid (hcr p.n).1
              have hl11 := Lib.hid (hcr p.n).2
              have K11 := Lib.hid (K10.out.step hwB hs11 hd11)
              clear hd11 hs11 hcr hsl
              clear c0 c1 c2 c3 c4 c5 c6
              have c0 := K11.out.op.c0
              have c1 := K11.out.op.c1
              have c2 := K11.out.op.c2
              have c3 := K11.out.op.c3
              have c4 := K11.out.op.c4
              have c5 := K11.out.op.c5
              have c6 := K11.out.op.c6
              obtain ⟨got2, hgot2, hrd2, -, -, -, -⟩ := M11.out.reads
              have HRD2 := Lib.hid hrd2
              obtain ⟨dh, rh, hop2⟩ : ∃ dh rh, (dg.crash p.n).open_ (catB got2).length = (dh, rh) := ⟨_, _, rfl⟩
              have HOP2 := Lib.hid hop2
              have hs11 := K11.out.bel.size
              have hBw11 := K11.out.ds.lt
              clear hrd2 hop2
              rcases open_mid M11.out HRD2.out HOP2.out with ⟨rfl, hgd⟩ | ⟨-, h9, -⟩
              rotate_left
              · exact absurd hl11.out h9
              have HGD := Lib.hid hgd
              clear hgd
              go_wp2_with fail
              with_reducible refine Calls.mono (openF (d2 := dh) (r := 0) _ K11.out.ds M11.out.u8 HRD2.out HOP2.out) ?_
              rintro e12 w12 ⟨v12, hd12, hs12, hres2⟩
              have K12 := Lib.hid (K11.out.step hwB hs12 hd12)
              clear hd12 hs12
              clear c0 c1 c2 c3 c4 c5 c6
              have c0 := K12.out.op.c0
              have c1 := K12.out.op.c1
              have c2 := K12.out.op.c2
              have c3 := K12.out.op.c3
              have c4 := K12.out.op.c4
              have c5 := K12.out.op.c5
              have c6 := K12.out.op.c6
              clear HOP HRD
              obtain ⟨dg, hdg⟩ : ∃ dg, dg = dh := ⟨_, rfl⟩
              rw [← hdg] at K12 HGD
              clear hdg
              rcases hres2 with ⟨h9, -⟩ | ⟨-, L3, vr, gp, rfl, hgp, hown, -, hL3, hLv, hl3, hfar, hnv⟩
              · exact absurd rfl h9
              have K13 := Lib.hid (K12.out.got (hown.lower (by have := K11.out.bel.size; omega)) hfar hl3 ⟨by omega, hLv⟩ hnv)
              have GOT := Lib.hid (show gp.map (·.1) = ps.map (·.1) ∨ gp.map (·.1) = ps.map (·.1) ++ [p.x] from by rw [hgp]; exact hgot2)
              have G15 := Lib.hid (show Good dg (gp.map (·.1)) from by rw [hgp]; exact HGD.out)
              clear hown hfar hl3 hLv hnv hgp
              have hM := Lib.hid (World.ownsRow_made (e := 34) (size := 5) (base := w12.heap.size) w12 #[] 0 (Nat.le_refl _) (by simp) (by simp))
              have bM : Below w12.heap.size w12 (w12.alloc (.cells #[] 34)) := balloc (Below.refl _ _) _
              have hKM := Lib.hid (K13.out.below bM)
              have hcnt := Lib.hid (cat_count (ps.map (·.1)))
              have hpsl : ps.length ≤ 3000 := PSL.out
              go_wp2_with (at_builtin; refine wpList_append_from5 _ rfl _ _ rfl w12.heap.size w.heap.size (.slice (some ⟨w12.heap.size, 0, none⟩) 0 0) _ 0 [] ps rfl rfl hM.out hKM.out.hr (by omega) (by (try simp); try omega) ?_)
              intro va wa oa ga fa
              have OA := Lib.hid (OwnR.append (w := w12.alloc (.cells #[] 34)) (base := w12.heap.size) (v := .slice (some ⟨w12.heap.size, 0, none⟩) 0 0) (ps := []) (qs := ps) ⟨hM.out, fun p hp => (by cases hp)⟩ hKM.out.hr (fun q9 hq9 hne e => by
                obtain ⟨k9, hk9, hl9⟩ := bat_some (K13.out.hr.txt q9 hq9).1 hne
                rw [hk9] at e
                simp only [Value.ownBlock, Option.some.injEq] at e
                omega) (by simpa [flatR] using oa) ga (alloc_f fa))
              have BA := Lib.hid (show Below w12.heap.size w12 wa from bM.grown ga (by simp) (fun k9 hk9 => by simp [Value.ownBlock] at hk9; omega))
              have hKA := Lib.hid (K13.out.below BA.out)
              have hsA := BA.out.size
              have hlA : ([] ++ ps : List (Rc × Value)).length = ps.length := by simp
              clear oa ga fa hKM
              go_wp2_with (at_builtin; refine wpList_append_from5 _ rfl _ _ rfl w12.heap.size w.heap.size va _ ([] ++ ps : List (Rc × Value)).length (flatR ([] ++ ps)) pp rfl rfl OA.out.own hKA.out.pr (by rw [hlA]; have := PPL.out; omega) (by omega) ?_)
              intro vb wb ob gb fb
              have OB := Lib.hid (OwnR.append OA.out hKA.out.pr (fun q9 hq9 hne e => by
                obtain ⟨k9, hk9, hl9⟩ := bat_some (K13.out.pr.txt q9 hq9).1 hne
                rw [hk9] at e
                have := (OA.out.own.lt k9 e.symm).1
                omega) ob gb fb)
              have BB := Lib.hid (show Below w12.heap.size w12 wb from BA.out.grown gb BA.out.size (fun k9 hk9 => (OA.out.own.lt k9 hk9).1))
              have K14 := Lib.hid (K13.out.below BB.out)
              have RB := Lib.hid OB.out.recs
              clear ob gb fb hKA OA BA hlA
              go_wp2_with fail
              with_reducible refine Calls.mono (allR _ K14.out.gr.recs K14.out.hr.recs (fun y hy => (G15.out.all y hy).1.text) (fun y hy => (GD.out y hy).1.text)) ?_
              rintro e15 w15 ⟨r15, rfl, hr15, hb15⟩
              have K15 := Lib.hid (K14.out.below hb15)
              have RB15 := Lib.hid (RB.out.below hb15)
              clear hb15
              cases r15 with
              | true =>
                clear hr15
                go_wp2_with fail
                with_reducible refine Calls.mono (sparksE (d2 := dg.sparks (-1)) _ K15.out.ds (-1) (by omega) rfl) ?_
                rintro e16 w16 ⟨v16, rfl, hd16, hs16⟩
                have K16 := Lib.hid (K15.out.step hwB hs16 hd16)
                have G16 := Lib.hid (G15.out.sparks (-1))
                clear hd16 hs16
                obtain ⟨d17, ho17, hg17⟩ := open_good G16.out (by simp [Dsk.sparks])
                have HO17 := Lib.hid ho17
                have G17 := Lib.hid hg17
                clear ho17 hg17
                go_wp2_with fail
                with_reducible refine Calls.mono (openF (d2 := d17) (r := 0) _ K16.out.ds G16.out.u8 G16.out.reads HO17.out) ?_
                rintro e17 w17 ⟨v17, hd17, hs17, hres⟩
                have K17 := Lib.hid (K16.out.step hwB hs17 hd17)
                clear hd17 hs17
                rcases hres with ⟨h9, -⟩ | ⟨-, L4, vr4, gp4, rfl, hgp4, ho4, -, -, -, -, -, -⟩
                · exact absurd rfl h9
                have R4 := Lib.hid (ho4.recs)
                have E4 := Lib.hid hgp4
                clear ho4 hgp4
                go_wp2_with fail
                with_reducible refine Calls.mono (all_true _ R4.out K17.out.gr.recs (fun y hy => (G17.out.all y (by rw [← E4.out]; exact hy)).1.text) E4.out) ?_
                rintro e18 w18 ⟨rfl, hb18⟩
                have K18 := Lib.hid (K17.out.below hb18)
                clear hb18
                go_wp2_with fail
                go_roundw
                case rel => exact ⟨k + 1, v17, d17, gp, L3, by omega, by go_num, rfl, K18.out.ds, G17.out, K18.out.gr, K18.out.gf, K18.out.l2, K18.out.q2, K18.out.n2, K18.out.bel⟩
                case measure => (try simp [intOf]) <;> omega
              | false =>
                have hgx : gp.map (·.1) = (([] : List (Rc × Value)) ++ ps ++ pp).map (·.1) := by
                  rcases GOT.out with h9 | h9
                  · exact absurd (hr15.2 h9) (by simp)
                  · rw [h9, List.map_append, List.map_append, PPE.out]; rfl
                have HGX := Lib.hid hgx
                clear hgx hr15
                go_wp2_with fail
                with_reducible refine Calls.mono (all_true _ K15.out.gr.recs RB15.out (fun y hy => (G15.out.all y hy).1.text) HGX.out) ?_
                rintro e15 w19 ⟨rfl, hb19⟩
                replace K15 := Lib.hid (K15.out.below hb19)
                clear hb19
                go_wp2_with fail
                with_reducible refine Calls.mono (sparksE (d2 := dg.sparks (-1)) _ K15.out.ds (-1) (by omega) rfl) ?_
                rintro e16 w16 ⟨v16, rfl, hd16, hs16⟩
                have K16 := Lib.hid (K15.out.step hwB hs16 hd16)
                have G16 := Lib.hid (G15.out.sparks (-1))
                clear hd16 hs16
                obtain ⟨d17, ho17, hg17⟩ := open_good G16.out (by simp [Dsk.sparks])
                have HO17 := Lib.hid ho17
                have G17 := Lib.hid hg17
                clear ho17 hg17
                go_wp2_with fail
                with_reducible refine Calls.mono (openF (d2 := d17) (r := 0) _ K16.out.ds G16.out.u8 G16.out.reads HO17.out) ?_
                rintro e17 w17 ⟨v17, hd17, hs17, hres⟩
                have K17 := Lib.hid (K16.out.step hwB hs17 hd17)
                clear hd17 hs17
                rcases hres with ⟨h9, -⟩ | ⟨-, L4, vr4, gp4, rfl, hgp4, ho4, -, -, -, -, -, -⟩
                · exact absurd rfl h9
                have R4 := Lib.hid (ho4.recs)
                have E4 := Lib.hid hgp4
                clear ho4 hgp4
                go_wp2_with fail
                with_reducible refine Calls.mono (all_true _ R4.out K17.out.gr.recs (fun y hy => (G17.out.all y (by rw [← E4.out]; exact hy)).1.text) E4.out) ?_
                rintro e18 w18 ⟨rfl, hb18⟩
                have K18 := Lib.hid (K17.out.below hb18)
                clear hb18
                go_wp2_with fail
                go_roundw
                case rel => exact ⟨k + 1, v17, d17, gp, L3, by omega, by go_num, rfl, K18.out.ds, G17.out, K18.out.gr, K18.out.gf, K18.out.l2, K18.out.q2, K18.out.n2, K18.out.bel⟩
                case measure => (try simp [intOf]) <;> omega
        · have em : p.wh % 6 = 1 := hm
          go_wp2_with fail
          obtain ⟨d2, r, hput⟩ : ∃ d2 r, d.put p.x = (d2, r) := ⟨_, _, rfl⟩
          have HP := Lib.hid hput
          have C5 := putE (d2 := d2) (r := r) (x := p.x) _ K4.out.ds K4.out.l1 K4.out.q1.1 K4.out.q1.2 OK.x K4.out.op.txt HP.out
          unfold Rc.val at C5
          with_reducible refine Calls.mono C5 ?_
          clear C5
          rintro e5 w5 ⟨v5, rfl, hd5, hs5⟩
          have K5 := Lib.hid (K4.out.step hwB hs5 hd5)
          clear hd5 hs5
          clear c0 c1 c2 c3 c4 c5 c6
          have c0 := K5.out.op.c0
          have c1 := K5.out.op.c1
          have c2 := K5.out.op.c2
          have c3 := K5.out.op.c3
          have c4 := K5.out.op.c4
          have c5 := K5.out.op.c5
          have c6 := K5.out.op.c6
          rcases put_keeps G.out OK.x hput with ⟨rfl, rfl⟩ | ⟨rfl, rfl⟩ | ⟨rfl, hr, hg⟩ | ⟨rfl, hr, ht⟩
          · go_wp2_with fail
            go_roundw
            case rel => exact ⟨k + 1, v5, d2, ps, Lp, by omega, by go_num, rfl, K5.out.ds, G.out, K5.out.hr, K5.out.hf, K5.out.l1, K5.out.q1, K5.out.n1, K5.out.bel⟩
            case measure => (try simp [intOf]) <;> omega
          · go_wp2_with fail
            go_roundw
            case rel => exact ⟨k + 1, v5, d2, ps, Lp, by omega, by go_num, rfl, K5.out.ds, G.out, K5.out.hr, K5.out.hf, K5.out.l1, K5.out.q1, K5.out.n1, K5.out.bel⟩
            case measure => (try simp [intOf]) <;> omega
          · have hOa := Lib.hid (own_belowS K5.out.hr.own (balloc (Below.refl _ _) (.cells #[.int .u8 p.x.wh, .int .u32 p.x.tx, .int .u8 p.x.who, .bool p.x.yes, .slice X1 p.x.text.length d1] 34)))
            have HCX := Lib.hid (cellsR_at w5 (p.x, .slice X1 p.x.text.length d1))
            have hs5 := K5.out.bel.size
            have hpsl := PSL.out
            have HG := Lib.hid hg
            clear hg hput
            go_wp2_with (at_builtin; refine wpList_append_own5 _ rfl _ _ 22 rfl w.heap.size 34 i34 _ 40 Try.underlying22 hi hz0 hz1 hz2 rfl _ ps.length (flatR ps) rfl hOa.out ⟨w5.heap.size, 0, none⟩ 1 1 (cellsR (p.x, .slice X1 p.x.text.length d1)) rfl rfl HCX.out (by simp [cellsR, Value.oneCell']) (by unfold maxLen; omega) (by omega) (by (try simp); omega) ?_)
            intro v6 w6 o6 g6 f6
            have ha6 := Lib.hid (balloc (Below.refl w5.heap.size w5) (.cells #[.int .u8 p.x.wh, .int .u32 p.x.tx, .int .u8 p.x.who, .bool p.x.yes, .slice X1 p.x.text.length d1] 34))
            have R6 := Lib.hid (K5.out.hr.snoc (x := p.x) K5.out.op.txt (low_sep HU9.out (Nat.le_refl _) (fun k9 hk9 => (K5.out.hr.own.lt k9 hk9).1)) o6 g6 f6)
            have D6 := Lib.hid ((K5.out.ds.below ha6.out).grown g6 (fun e => (K5.out.hf.1 B e.symm).1 rfl) (apart_off K5.out.hf.1))
            have FF6 := Lib.hid (show FarR B v5 v6 (ps ++ [(p.x, .slice X1 p.x.text.length d1)]) from ⟨apart_grow (w := w5) (b := w5.heap.size) K5.out.hf.1 K5.out.ds.lt K5.out.ds.vlt (fun k9 hk9 => by rcases f6 k9 hk9 with h9 | h9; exact .inl h9; exact .inr (by omega)), fun q9 hq9 hne => by
              rcases List.mem_append.1 hq9 with hq9 | hq9
              · exact K5.out.hf.2 q9 hq9 hne
              · obtain rfl : q9 = (p.x, .slice X1 p.x.text.length d1) := by simpa using hq9
                exact K5.out.oq.2.2 hne⟩)
            have L6 := Lib.hid (g6.cell (keep ha6.out K5.out.l1) K5.out.n1)
            have N6 := Lib.hid (fun (e : some Lp = v6.ownBlock) => by
              rcases f6 Lp e.symm with h9 | h9
              · exact K5.out.n1 h9.symm
              · have := cell_lt K5.out.l1; omega)
            have B6 := Lib.hid (below_grown (bstep K5.out.bel ha6.out) g6 (fun k9 hk9 => (K5.out.hr.own.lt k9 hk9).1))
            clear o6 g6 f6 hOa HCX
            go_wp2_with fail
            go_roundw
            case rel => exact ⟨k + 1, v5, d2, ps ++ [(p.x, .slice X1 p.x.text.length d1)], Lp, by omega, by go_num, rfl, D6.out, by rw [List.map_append]; exact HG.out, R6.out, FF6.out, L6.out, K5.out.q1, N6.out, B6.out⟩
            case measure => (try simp [intOf]) <;> omega
          · skip
            go_wp2_with fail
            with_reducible refine Calls.mono (rightD _ _ _ _ _ _ _ _ OK.x.wh OK.x.who) ?_
            rintro e6 w6 ⟨rfl, hb6⟩
            rw [show rightB p.x.wh p.x.who p.x.yes p.x.text.length = true from hr]
            have K6 := Lib.hid (K5.out.below hb6)
            clear hb6
            clear c0 c1 c2 c3 c4 c5 c6
            have c0 := K6.out.op.c0
            have c1 := K6.out.op.c1
            have c2 := K6.out.op.c2
            have c3 := K6.out.op.c3
            have c4 := K6.out.op.c4
            have c5 := K6.out.op.c5
            have c6 := K6.out.op.c6
            have hN0 := Lib.hid (World.ownsRow_nil (w6.alloc (.cells #[.int .u8 p.x.wh, .int .u32 p.x.tx, .int .u8 p.x.who, .bool p.x.yes, .slice X1 p.x.text.length d1] 34)) w.heap.size 34 5)
            have HCX := Lib.hid (cellsR_at w6 (p.x, .slice X1 p.x.text.length d1))
            have hs6 := K6.out.bel.size
            go_wp2_with (at_builtin; refine wpList_append_own5 _ rfl _ _ 22 rfl w.heap.size 34 i34 _ 40 Try.underlying22 hi hz0 hz1 hz2 rfl (.slice none 0 0) 0 [] rfl hN0.out ⟨w6.heap.size, 0, none⟩ 1 1 (cellsR (p.x, .slice X1 p.x.text.length d1)) rfl rfl HCX.out (by simp [cellsR, Value.oneCell']) (by unfold maxLen; omega) (by omega) (by (try simp); omega) ?_)
            intro v7 w7 o7 g7 f7
            have b7 := Lib.hid (show Below w6.heap.size w6 w7 from bstep (balloc (Below.refl _ _) _) (below_none g7))
            have PR := Lib.hid ((OwnR.nil w6 w.heap.size).snoc (x := p.x) K6.out.op.txt (low_sep HU9.out (Nat.le_refl _) (fun k9 hk9 => by simp [Value.ownBlock] at hk9)) (by simpa [flatR] using o7) g7 f7)
            have PF := Lib.hid (show FarR B v5 v7 ([] ++ [(p.x, .slice X1 p.x.text.length d1)]) from ⟨apart_grow (w := w6) (b := w6.heap.size) (FarR.nil B v5).1 (K6.out.ds.lt) K6.out.ds.vlt (fun k9 hk9 => by rcases f7 k9 hk9 with h9 | h9; exact .inl h9; exact .inr (by omega)), fun q9 hq9 hne => by
              obtain rfl : q9 = (p.x, .slice X1 p.x.text.length d1) := by simpa using hq9
              exact K6.out.oq.2.2 hne⟩)
            obtain ⟨pp, hpp⟩ : ∃ pp : List (Rc × Value), pp = [] ++ [(p.x, .slice X1 p.x.text.length d1)] := ⟨_, rfl⟩
            rw [← hpp] at PR PF
            have PPE := Lib.hid (show pp.map (·.1) = [p.x] from by rw [hpp]; rfl)
            have PPL := Lib.hid (show pp.length = 1 from by rw [hpp]; rfl)
            have K7 := Lib.hid ((K6.out.below b7.out).perhaps PR.out PF.out)
            clear o7 g7 f7 hN0 HCX hpp PR PF b7
            clear c0 c1 c2 c3 c4 c5 c6
            have c0 := K7.out.op.c0
            have c1 := K7.out.op.c1
            have c2 := K7.out.op.c2
            have c3 := K7.out.op.c3
            have c4 := K7.out.op.c4
            have c5 := K7.out.op.c5
            have c6 := K7.out.op.c6
            go_wp2_with fail
            with_reducible refine Calls.mono (crashE (d2 := d2.crash p.n) _ K7.out.ds p.n rfl) ?_
            rintro e8 w8 ⟨v8, rfl, hd8, hs8⟩
            have M8 := Lib.hid (ht.crash K7.out.ds.hs p.n).1
            have K8 := Lib.hid (K7.out.step hwB hs8 hd8)
            clear hd8 hs8
            clear c0 c1 c2 c3 c4 c5 c6
            have c0 := K8.out.op.c0
            have c1 := K8.out.op.c1
            have c2 := K8.out.op.c2
            have c3 := K8.out.op.c3
            have c4 := K8.out.op.c4
            have c5 := K8.out.op.c5
            have c6 := K8.out.op.c6
            go_wp2_with fail
            with_reducible refine Calls.mono (sparksE (d2 := (d2.crash p.n).sparks p.n) _ K8.out.ds p.n OK.n.2 rfl) ?_
            rintro e9 w9 ⟨v9, rfl, hd9, hs9⟩
            have M9 := Lib.hid (M8.out.sparks p.n)
            have K9 := Lib.hid (K8.out.step hwB hs9 hd9)
            clear hd9 hs9
            clear c0 c1 c2 c3 c4 c5 c6
            have c0 := K9.out.op.c0
            have c1 := K9.out.op.c1
            have c2 := K9.out.op.c2
            have c3 := K9.out.op.c3
            have c4 := K9.out.op.c4
            have c5 := K9.out.op.c5
            have c6 := K9.out.op.c6
            obtain ⟨got, hgot, hrd, -, -, -, -⟩ := M9.out.reads
            have HRD := Lib.hid hrd
            obtain ⟨dg, rg, hop⟩ : ∃ dg rg, ((d2.crash p.n).sparks p.n).open_ (catB got).length = (dg, rg) := ⟨_, _, rfl⟩
            have HOP := Lib.hid hop
            have hs9 := K9.out.bel.size
            clear hrd hop
            go_wp2_with fail
            with_reducible refine Calls.mono (openF (d2 := dg) (r := rg) _ K9.out.ds M9.out.u8 HRD.out HOP.out) ?_
            rintro e10 w10 ⟨v10, hd10, hs10, hres⟩
            have K10 := Lib.hid (K9.out.step hwB hs10 hd10)
            have hBw9 := K9.out.ds.lt
            clear hd10 hs10
            clear c0 c1 c2 c3 c4 c5 c6
            rcases open_mid M9.out HRD.out HOP.out with ⟨rfl, hgd⟩ | ⟨rfl, -, hsl, hcr⟩
            · skip
              have c0 := K10.out.op.c0
              have c1 := K10.out.op.c1
              have c2 := K10.out.op.c2
              have c3 := K10.out.op.c3
              have c4 := K10.out.op.c4
              have c5 := K10.out.op.c5
              have c6 := K10.out.op.c6
              rcases hres with ⟨h9, -⟩ | ⟨-, L3, vr, gp, rfl, hgp, hown, -, hL3, hLv, hl3, hfar, hnv⟩
              · exact absurd rfl h9
              have K13 := Lib.hid (K10.out.got (hown.lower (by have := K9.out.bel.size; omega)) hfar hl3 ⟨by omega, hLv⟩ hnv)
              have GOT := Lib.hid (show gp.map (·.1) = ps.map (·.1) ∨ gp.map (·.1) = ps.map (·.1) ++ [p.x] from by rw [hgp]; exact hgot)
              have G15 := Lib.hid (show Good dg (gp.map (·.1)) from by rw [hgp]; exact hgd)
              clear hown hfar hl3 hLv hnv hgp
              have hM := Lib.hid (World.ownsRow_made (e := 34) (size := 5) (base := w10.heap.size) w10 #[] 0 (Nat.le_refl _) (by simp) (by simp))
              have bM : Below w10.heap.size w10 (w10.alloc (.cells #[] 34)) := balloc (Below.refl _ _) _
              have hKM := Lib.hid (K13.out.below bM)
              have hcnt := Lib.hid (cat_count (ps.map (·.1)))
              have hpsl : ps.length ≤ 3000 := PSL.out
              go_wp2_with (at_builtin; refine wpList_append_from5 _ rfl _ _ rfl w10.heap.size w.heap.size (.slice (some ⟨w10.heap.size, 0, none⟩) 0 0) _ 0 [] ps rfl rfl hM.out hKM.out.hr (by omega) (by (try simp); try omega) ?_)
              intro va wa oa ga fa
              have OA := Lib.hid (OwnR.append (w := w10.alloc (.cells #[] 34)) (base := w10.heap.size) (v := .slice (some ⟨w10.heap.size, 0, none⟩) 0 0) (ps := []) (qs := ps) ⟨hM.out, fun p hp => (by cases hp)⟩ hKM.out.hr (fun q9 hq9 hne e => by
                obtain ⟨k9, hk9, hl9⟩ := bat_some (K13.out.hr.txt q9 hq9).1 hne
                rw [hk9] at e
                simp only [Value.ownBlock, Option.some.injEq] at e
                omega) (by simpa [flatR] using oa) ga (alloc_f fa))
              have BA := Lib.hid (show Below w10.heap.size w10 wa from bM.grown ga (by simp) (fun k9 hk9 => by simp [Value.ownBlock] at hk9; omega))
              have hKA := Lib.hid (K13.out.below BA.out)
              have hsA := BA.out.size
              have hlA : ([] ++ ps : List (Rc × Value)).length = ps.length := by simp
              clear oa ga fa hKM
              go_wp2_with (at_builtin; refine wpList_append_from5 _ rfl _ _ rfl w10.heap.size w.heap.size va _ ([] ++ ps : List (Rc × Value)).length (flatR ([] ++ ps)) pp rfl rfl OA.out.own hKA.out.pr (by rw [hlA]; have := PPL.out; omega) (by omega) ?_)
              intro vb wb ob gb fb
              have OB := Lib.hid (OwnR.append OA.out hKA.out.pr (fun q9 hq9 hne e => by
                obtain ⟨k9, hk9, hl9⟩ := bat_some (K13.out.pr.txt q9 hq9).1 hne
                rw [hk9] at e
                have := (OA.out.own.lt k9 e.symm).1
                omega) ob gb fb)
              have BB := Lib.hid (show Below w10.heap.size w10 wb from BA.out.grown gb BA.out.size (fun k9 hk9 => (OA.out.own.lt k9 hk9).1))
              have K14 := Lib.hid (K13.out.below BB.out)
              have RB := Lib.hid OB.out.recs
              clear ob gb fb hKA OA BA hlA
              go_wp2_with fail
              with_reducible refine Calls.mono (allR _ K14.out.gr.recs K14.out.hr.recs (fun y hy => (G15.out.all y hy).1.text) (fun y hy => (GD.out y hy).1.text)) ?_
              rintro e15 w15 ⟨r15, rfl, hr15, hb15⟩
              have K15 := Lib.hid (K14.out.below hb15)
              have RB15 := Lib.hid (RB.out.below hb15)
              clear hb15
              cases r15 with
              | true =>
                clear hr15
                go_wp2_with fail
                with_reducible refine Calls.mono (sparksE (d2 := dg.sparks (-1)) _ K15.out.ds (-1) (by omega) rfl) ?_
                rintro e16 w16 ⟨v16, rfl, hd16, hs16⟩
                have K16 := Lib.hid (K15.out.step hwB hs16 hd16)
                have G16 := Lib.hid (G15.out.sparks (-1))
                clear hd16 hs16
                obtain ⟨d17, ho17, hg17⟩ := open_good G16.out (by simp [Dsk.sparks])
                have HO17 := Lib.hid ho17
                have G17 := Lib.hid hg17
                clear ho17 hg17
                go_wp2_with fail
                with_reducible refine Calls.mono (openF (d2 := d17) (r := 0) _ K16.out.ds G16.out.u8 G16.out.reads HO17.out) ?_
                rintro e17 w17 ⟨v17, hd17, hs17, hres⟩
                have K17 := Lib.hid (K16.out.step hwB hs17 hd17)
                clear hd17 hs17
                rcases hres with ⟨h9, -⟩ | ⟨-, L4, vr4, gp4, rfl, hgp4, ho4, -, -, -, -, -, -⟩
                · exact absurd rfl h9
                have R4 := Lib.hid (ho4.recs)
                have E4 := Lib.hid hgp4
                clear ho4 hgp4
                go_wp2_with fail
                with_reducible refine Calls.mono (all_true _ R4.out K17.out.gr.recs (fun y hy => (G17.out.all y (by rw [← E4.out]; exact hy)).1.text) E4.out) ?_
                rintro e18 w18 ⟨rfl, hb18⟩
                have K18 := Lib.hid (K17.out.below hb18)
                clear hb18
                go_wp2_with fail
                go_roundw
                case rel => exact ⟨k + 1, v17, d17, gp, L3, by omega, by go_num, rfl, K18.out.ds, G17.out, K18.out.gr, K18.out.gf, K18.out.l2, K18.out.q2, K18.out.n2, K18.out.bel⟩
                case measure => (try simp [intOf]) <;> omega
              | false =>
                have hgx : gp.map (·.1) = (([] : List (Rc × Value)) ++ ps ++ pp).map (·.1) := by
                  rcases GOT.out with h9 | h9
                  · exact absurd (hr15.2 h9) (by simp)
                  · rw [h9, List.map_append, List.map_append, PPE.out]; rfl
                have HGX := Lib.hid hgx
                clear hgx hr15
                go_wp2_with fail
                with_reducible refine Calls.mono (all_true _ K15.out.gr.recs RB15.out (fun y hy => (G15.out.all y hy).1.text) HGX.out) ?_
                rintro e15 w19 ⟨rfl, hb19⟩
                replace K15 := Lib.hid (K15.out.below hb19)
                clear hb19
                go_wp2_with fail
                with_reducible refine Calls.mono (sparksE (d2 := dg.sparks (-1)) _ K15.out.ds (-1) (by omega) rfl) ?_
                rintro e16 w16 ⟨v16, rfl, hd16, hs16⟩
                have K16 := Lib.hid (K15.out.step hwB hs16 hd16)
                have G16 := Lib.hid (G15.out.sparks (-1))
                clear hd16 hs16
                obtain ⟨d17, ho17, hg17⟩ := open_good G16.out (by simp [Dsk.sparks])
                have HO17 := Lib.hid ho17
                have G17 := Lib.hid hg17
                clear ho17 hg17
                go_wp2_with fail
                with_reducible refine Calls.mono (openF (d2 := d17) (r := 0) _ K16.out.ds G16.out.u8 G16.out.reads HO17.out) ?_
                rintro e17 w17 ⟨v17, hd17, hs17, hres⟩
                have K17 := Lib.hid (K16.out.step hwB hs17 hd17)
                clear hd17 hs17
                rcases hres with ⟨h9, -⟩ | ⟨-, L4, vr4, gp4, rfl, hgp4, ho4, -, -, -, -, -, -⟩
                · exact absurd rfl h9
                have R4 := Lib.hid (ho4.recs)
                have E4 := Lib.hid hgp4
                clear ho4 hgp4
                go_wp2_with fail
                with_reducible refine Calls.mono (all_true _ R4.out K17.out.gr.recs (fun y hy => (G17.out.all y (by rw [← E4.out]; exact hy)).1.text) E4.out) ?_
                rintro e18 w18 ⟨rfl, hb18⟩
                have K18 := Lib.hid (K17.out.below hb18)
                clear hb18
                go_wp2_with fail
                go_roundw
                case rel => exact ⟨k + 1, v17, d17, gp, L3, by omega, by go_num, rfl, K18.out.ds, G17.out, K18.out.gr, K18.out.gf, K18.out.l2, K18.out.q2, K18.out.n2, K18.out.bel⟩
                case measure => (try simp [intOf]) <;> omega
            · rcases hres with ⟨-, rfl⟩ | ⟨h9, -⟩
              rotate_left
              · exact absurd h9 (by decide)
              have c0 := K10.out.op.c0
              have c1 := K10.out.op.c1
              have c2 := K10.out.op.c2
              have c3 := K10.out.op.c3
              have c4 := K10.out.op.c4
              have c5 := K10.out.op.c5
              have c6 := K10.out.op.c6
              go_wp2_with fail
              with_reducible refine Calls.mono (crashE (d2 := dg.crash p.n) _ K10.out.ds p.n rfl) ?_
              rintro e11 w11 ⟨v11, rfl, hd11, hs11⟩
              have M11 := Lib.hid (hcr p.n).1
              have hl11 := Lib.hid (hcr p.n).2
              have K11 := Lib.hid (K10.out.step hwB hs11 hd11)
              clear hd11 hs11 hcr hsl
              clear c0 c1 c2 c3 c4 c5 c6
              have c0 := K11.out.op.c0
              have c1 := K11.out.op.c1
              have c2 := K11.out.op.c2
              have c3 := K11.out.op.c3
              have c4 := K11.out.op.c4
              have c5 := K11.out.op.c5
              have c6 := K11.out.op.c6
              obtain ⟨got2, hgot2, hrd2, -, -, -, -⟩ := M11.out.reads
              have HRD2 := Lib.hid hrd2
              obtain ⟨dh, rh, hop2⟩ : ∃ dh rh, (dg.crash p.n).open_ (catB got2).length = (dh, rh) := ⟨_, _, rfl⟩
              have HOP2 := Lib.hid hop2
              have hs11 := K11.out.bel.size
              have hBw11 := K11.out.ds.lt
              clear hrd2 hop2
              rcases open_mid M11.out HRD2.out HOP2.out with ⟨rfl, hgd⟩ | ⟨-, h9, -⟩
              rotate_left
              · exact absurd hl11.out h9
              have HGD := Lib.hid hgd
              clear hgd
              go_wp2_with fail
              with_reducible refine Calls.mono (openF (d2 := dh) (r := 0) _ K11.out.ds M11.out.u8 HRD2.out HOP2.out) ?_
              rintro e12 w12 ⟨v12, hd12, hs12, hres2⟩
              have K12 := Lib.hid (K11.out.step hwB hs12 hd12)
              clear hd12 hs12
              clear c0 c1 c2 c3 c4 c5 c6
              have c0 := K12.out.op.c0
              have c1 := K12.out.op.c1
              have c2 := K12.out.op.c2
              have c3 := K12.out.op.c3
              have c4 := K12.out.op.c4
              have c5 := K12.out.op.c5
              have c6 := K12.out.op.c6
              clear HOP HRD
              obtain ⟨dg, hdg⟩ : ∃ dg, dg = dh := ⟨_, rfl⟩
              rw [← hdg] at K12 HGD
              clear hdg
              rcases hres2 with ⟨h9, -⟩ | ⟨-, L3, vr, gp, rfl, hgp, hown, -, hL3, hLv, hl3, hfar, hnv⟩
              · exact absurd rfl h9
              have K13 := Lib.hid (K12.out.got (hown.lower (by have := K11.out.bel.size; omega)) hfar hl3 ⟨by omega, hLv⟩ hnv)
              have GOT := Lib.hid (show gp.map (·.1) = ps.map (·.1) ∨ gp.map (·.1) = ps.map (·.1) ++ [p.x] from by rw [hgp]; exact hgot2)
              have G15 := Lib.hid (show Good dg (gp.map (·.1)) from by rw [hgp]; exact HGD.out)
              clear hown hfar hl3 hLv hnv hgp
              have hM := Lib.hid (World.ownsRow_made (e := 34) (size := 5) (base := w12.heap.size) w12 #[] 0 (Nat.le_refl _) (by simp) (by simp))
              have bM : Below w12.heap.size w12 (w12.alloc (.cells #[] 34)) := balloc (Below.refl _ _) _
              have hKM := Lib.hid (K13.out.below bM)
              have hcnt := Lib.hid (cat_count (ps.map (·.1)))
              have hpsl : ps.length ≤ 3000 := PSL.out
              go_wp2_with (at_builtin; refine wpList_append_from5 _ rfl _ _ rfl w12.heap.size w.heap.size (.slice (some ⟨w12.heap.size, 0, none⟩) 0 0) _ 0 [] ps rfl rfl hM.out hKM.out.hr (by omega) (by (try simp); try omega) ?_)
              intro va wa oa ga fa
              have OA := Lib.hid (OwnR.append (w := w12.alloc (.cells #[] 34)) (base := w12.heap.size) (v := .slice (some ⟨w12.heap.size, 0, none⟩) 0 0) (ps := []) (qs := ps) ⟨hM.out, fun p hp => (by cases hp)⟩ hKM.out.hr (fun q9 hq9 hne e => by
                obtain ⟨k9, hk9, hl9⟩ := bat_some (K13.out.hr.txt q9 hq9).1 hne
                rw [hk9] at e
                simp only [Value.ownBlock, Option.some.injEq] at e
                omega) (by simpa [flatR] using oa) ga (alloc_f fa))
              have BA := Lib.hid (show Below w12.heap.size w12 wa from bM.grown ga (by simp) (fun k9 hk9 => by simp [Value.ownBlock] at hk9; omega))
              have hKA := Lib.hid (K13.out.below BA.out)
              have hsA := BA.out.size
              have hlA : ([] ++ ps : List (Rc × Value)).length = ps.length := by simp
              clear oa ga fa hKM
              go_wp2_with (at_builtin; refine wpList_append_from5 _ rfl _ _ rfl w12.heap.size w.heap.size va _ ([] ++ ps : List (Rc × Value)).length (flatR ([] ++ ps)) pp rfl rfl OA.out.own hKA.out.pr (by rw [hlA]; have := PPL.out; omega) (by omega) ?_)
              intro vb wb ob gb fb
              have OB := Lib.hid (OwnR.append OA.out hKA.out.pr (fun q9 hq9 hne e => by
                obtain ⟨k9, hk9, hl9⟩ := bat_some (K13.out.pr.txt q9 hq9).1 hne
                rw [hk9] at e
                have := (OA.out.own.lt k9 e.symm).1
                omega) ob gb fb)
              have BB := Lib.hid (show Below w12.heap.size w12 wb from BA.out.grown gb BA.out.size (fun k9 hk9 => (OA.out.own.lt k9 hk9).1))
              have K14 := Lib.hid (K13.out.below BB.out)
              have RB := Lib.hid OB.out.recs
              clear ob gb fb hKA OA BA hlA
              go_wp2_with fail
              with_reducible refine Calls.mono (allR _ K14.out.gr.recs K14.out.hr.recs (fun y hy => (G15.out.all y hy).1.text) (fun y hy => (GD.out y hy).1.text)) ?_
              rintro e15 w15 ⟨r15, rfl, hr15, hb15⟩
              have K15 := Lib.hid (K14.out.below hb15)
              have RB15 := Lib.hid (RB.out.below hb15)
              clear hb15
              cases r15 with
              | true =>
                clear hr15
                go_wp2_with fail
                with_reducible refine Calls.mono (sparksE (d2 := dg.sparks (-1)) _ K15.out.ds (-1) (by omega) rfl) ?_
                rintro e16 w16 ⟨v16, rfl, hd16, hs16⟩
                have K16 := Lib.hid (K15.out.step hwB hs16 hd16)
                have G16 := Lib.hid (G15.out.sparks (-1))
                clear hd16 hs16
                obtain ⟨d17, ho17, hg17⟩ := open_good G16.out (by simp [Dsk.sparks])
                have HO17 := Lib.hid ho17
                have G17 := Lib.hid hg17
                clear ho17 hg17
                go_wp2_with fail
                with_reducible refine Calls.mono (openF (d2 := d17) (r := 0) _ K16.out.ds G16.out.u8 G16.out.reads HO17.out) ?_
                rintro e17 w17 ⟨v17, hd17, hs17, hres⟩
                have K17 := Lib.hid (K16.out.step hwB hs17 hd17)
                clear hd17 hs17
                rcases hres with ⟨h9, -⟩ | ⟨-, L4, vr4, gp4, rfl, hgp4, ho4, -, -, -, -, -, -⟩
                · exact absurd rfl h9
                have R4 := Lib.hid (ho4.recs)
                have E4 := Lib.hid hgp4
                clear ho4 hgp4
                go_wp2_with fail
                with_reducible refine Calls.mono (all_true _ R4.out K17.out.gr.recs (fun y hy => (G17.out.all y (by rw [← E4.out]; exact hy)).1.text) E4.out) ?_
                rintro e18 w18 ⟨rfl, hb18⟩
                have K18 := Lib.hid (K17.out.below hb18)
                clear hb18
                go_wp2_with fail
                go_roundw
                case rel => exact ⟨k + 1, v17, d17, gp, L3, by omega, by go_num, rfl, K18.out.ds, G17.out, K18.out.gr, K18.out.gf, K18.out.l2, K18.out.q2, K18.out.n2, K18.out.bel⟩
                case measure => (try simp [intOf]) <;> omega
              | false =>
                have hgx : gp.map (·.1) = (([] : List (Rc × Value)) ++ ps ++ pp).map (·.1) := by
                  rcases GOT.out with h9 | h9
                  · exact absurd (hr15.2 h9) (by simp)
                  · rw [h9, List.map_append, List.map_append, PPE.out]; rfl
                have HGX := Lib.hid hgx
                clear hgx hr15
                go_wp2_with fail
                with_reducible refine Calls.mono (all_true _ K15.out.gr.recs RB15.out (fun y hy => (G15.out.all y hy).1.text) HGX.out) ?_
                rintro e15 w19 ⟨rfl, hb19⟩
                replace K15 := Lib.hid (K15.out.below hb19)
                clear hb19
                go_wp2_with fail
                with_reducible refine Calls.mono (sparksE (d2 := dg.sparks (-1)) _ K15.out.ds (-1) (by omega) rfl) ?_
                rintro e16 w16 ⟨v16, rfl, hd16, hs16⟩
                have K16 := Lib.hid (K15.out.step hwB hs16 hd16)
                have G16 := Lib.hid (G15.out.sparks (-1))
                clear hd16 hs16
                obtain ⟨d17, ho17, hg17⟩ := open_good G16.out (by simp [Dsk.sparks])
                have HO17 := Lib.hid ho17
                have G17 := Lib.hid hg17
                clear ho17 hg17
                go_wp2_with fail
                with_reducible refine Calls.mono (openF (d2 := d17) (r := 0) _ K16.out.ds G16.out.u8 G16.out.reads HO17.out) ?_
                rintro e17 w17 ⟨v17, hd17, hs17, hres⟩
                have K17 := Lib.hid (K16.out.step hwB hs17 hd17)
                clear hd17 hs17
                rcases hres with ⟨h9, -⟩ | ⟨-, L4, vr4, gp4, rfl, hgp4, ho4, -, -, -, -, -, -⟩
                · exact absurd rfl h9
                have R4 := Lib.hid (ho4.recs)
                have E4 := Lib.hid hgp4
                clear ho4 hgp4
                go_wp2_with fail
                with_reducible refine Calls.mono (all_true _ R4.out K17.out.gr.recs (fun y hy => (G17.out.all y (by rw [← E4.out]; exact hy)).1.text) E4.out) ?_
                rintro e18 w18 ⟨rfl, hb18⟩
                have K18 := Lib.hid (K17.out.below hb18)
                clear hb18
                go_wp2_with fail
                go_roundw
                case rel => exact ⟨k + 1, v17, d17, gp, L3, by omega, by go_num, rfl, K18.out.ds, G17.out, K18.out.gr, K18.out.gf, K18.out.l2, K18.out.q2, K18.out.n2, K18.out.bel⟩
                case measure => (try simp [intOf]) <;> omega
        · have em : p.wh % 6 = 2 := hm
          go_wp2_with fail
          obtain ⟨d2, r, hput⟩ : ∃ d2 r, d.put p.x = (d2, r) := ⟨_, _, rfl⟩
          have HP := Lib.hid hput
          have C5 := putE (d2 := d2) (r := r) (x := p.x) _ K4.out.ds K4.out.l1 K4.out.q1.1 K4.out.q1.2 OK.x K4.out.op.txt HP.out
          unfold Rc.val at C5
          with_reducible refine Calls.mono C5 ?_
          clear C5
          rintro e5 w5 ⟨v5, rfl, hd5, hs5⟩
          have K5 := Lib.hid (K4.out.step hwB hs5 hd5)
          clear hd5 hs5
          clear c0 c1 c2 c3 c4 c5 c6
          have c0 := K5.out.op.c0
          have c1 := K5.out.op.c1
          have c2 := K5.out.op.c2
          have c3 := K5.out.op.c3
          have c4 := K5.out.op.c4
          have c5 := K5.out.op.c5
          have c6 := K5.out.op.c6
          rcases put_keeps G.out OK.x hput with ⟨rfl, rfl⟩ | ⟨rfl, rfl⟩ | ⟨rfl, hr, hg⟩ | ⟨rfl, hr, ht⟩
          · go_wp2_with fail
            go_roundw
            case rel => exact ⟨k + 1, v5, d2, ps, Lp, by omega, by go_num, rfl, K5.out.ds, G.out, K5.out.hr, K5.out.hf, K5.out.l1, K5.out.q1, K5.out.n1, K5.out.bel⟩
            case measure => (try simp [intOf]) <;> omega
          · go_wp2_with fail
            go_roundw
            case rel => exact ⟨k + 1, v5, d2, ps, Lp, by omega, by go_num, rfl, K5.out.ds, G.out, K5.out.hr, K5.out.hf, K5.out.l1, K5.out.q1, K5.out.n1, K5.out.bel⟩
            case measure => (try simp [intOf]) <;> omega
          · have hOa := Lib.hid (own_belowS K5.out.hr.own (balloc (Below.refl _ _) (.cells #[.int .u8 p.x.wh, .int .u32 p.x.tx, .int .u8 p.x.who, .bool p.x.yes, .slice X1 p.x.text.length d1] 34)))
            have HCX := Lib.hid (cellsR_at w5 (p.x, .slice X1 p.x.text.length d1))
            have hs5 := K5.out.bel.size
            have hpsl := PSL.out
            have HG := Lib.hid hg
            clear hg hput
            go_wp2_with (at_builtin; refine wpList_append_own5 _ rfl _ _ 22 rfl w.heap.size 34 i34 _ 40 Try.underlying22 hi hz0 hz1 hz2 rfl _ ps.length (flatR ps) rfl hOa.out ⟨w5.heap.size, 0, none⟩ 1 1 (cellsR (p.x, .slice X1 p.x.text.length d1)) rfl rfl HCX.out (by simp [cellsR, Value.oneCell']) (by unfold maxLen; omega) (by omega) (by (try simp); omega) ?_)
            intro v6 w6 o6 g6 f6
            have ha6 := Lib.hid (balloc (Below.refl w5.heap.size w5) (.cells #[.int .u8 p.x.wh, .int .u32 p.x.tx, .int .u8 p.x.who, .bool p.x.yes, .slice X1 p.x.text.length d1] 34))
            have R6 := Lib.hid (K5.out.hr.snoc (x := p.x) K5.out.op.txt (low_sep HU9.out (Nat.le_refl _) (fun k9 hk9 => (K5.out.hr.own.lt k9 hk9).1)) o6 g6 f6)
            have D6 := Lib.hid ((K5.out.ds.below ha6.out).grown g6 (fun e => (K5.out.hf.1 B e.symm).1 rfl) (apart_off K5.out.hf.1))
            have FF6 := Lib.hid (show FarR B v5 v6 (ps ++ [(p.x, .slice X1 p.x.text.length d1)]) from ⟨apart_grow (w := w5) (b := w5.heap.size) K5.out.hf.1 K5.out.ds.lt K5.out.ds.vlt (fun k9 hk9 => by rcases f6 k9 hk9 with h9 | h9; exact .inl h9; exact .inr (by omega)), fun q9 hq9 hne => by
              rcases List.mem_append.1 hq9 with hq9 | hq9
              · exact K5.out.hf.2 q9 hq9 hne
              · obtain rfl : q9 = (p.x, .slice X1 p.x.text.length d1) := by simpa using hq9
                exact K5.out.oq.2.2 hne⟩)
            have L6 := Lib.hid (g6.cell (keep ha6.out K5.out.l1) K5.out.n1)
            have N6 := Lib.hid (fun (e : some Lp = v6.ownBlock) => by
              rcases f6 Lp e.symm with h9 | h9
              · exact K5.out.n1 h9.symm
              · have := cell_lt K5.out.l1; omega)
            have B6 := Lib.hid (below_grown (bstep K5.out.bel ha6.out) g6 (fun k9 hk9 => (K5.out.hr.own.lt k9 hk9).1))
            clear o6 g6 f6 hOa HCX
            go_wp2_with fail
            go_roundw
            case rel => exact ⟨k + 1, v5, d2, ps ++ [(p.x, .slice X1 p.x.text.length d1)], Lp, by omega, by go_num, rfl, D6.out, by rw [List.map_append]; exact HG.out, R6.out, FF6.out, L6.out, K5.out.q1, N6.out, B6.out⟩
            case measure => (try simp [intOf]) <;> omega
          · skip
            go_wp2_with fail
            with_reducible refine Calls.mono (rightD _ _ _ _ _ _ _ _ OK.x.wh OK.x.who) ?_
            rintro e6 w6 ⟨rfl, hb6⟩
            rw [show rightB p.x.wh p.x.who p.x.yes p.x.text.length = true from hr]
            have K6 := Lib.hid (K5.out.below hb6)
            clear hb6
            clear c0 c1 c2 c3 c4 c5 c6
            have c0 := K6.out.op.c0
            have c1 := K6.out.op.c1
            have c2 := K6.out.op.c2
            have c3 := K6.out.op.c3
            have c4 := K6.out.op.c4
            have c5 := K6.out.op.c5
            have c6 := K6.out.op.c6
            have hN0 := Lib.hid (World.ownsRow_nil (w6.alloc (.cells #[.int .u8 p.x.wh, .int .u32 p.x.tx, .int .u8 p.x.who, .bool p.x.yes, .slice X1 p.x.text.length d1] 34)) w.heap.size 34 5)
            have HCX := Lib.hid (cellsR_at w6 (p.x, .slice X1 p.x.text.length d1))
            have hs6 := K6.out.bel.size
            go_wp2_with (at_builtin; refine wpList_append_own5 _ rfl _ _ 22 rfl w.heap.size 34 i34 _ 40 Try.underlying22 hi hz0 hz1 hz2 rfl (.slice none 0 0) 0 [] rfl hN0.out ⟨w6.heap.size, 0, none⟩ 1 1 (cellsR (p.x, .slice X1 p.x.text.length d1)) rfl rfl HCX.out (by simp [cellsR, Value.oneCell']) (by unfold maxLen; omega) (by omega) (by (try simp); omega) ?_)
            intro v7 w7 o7 g7 f7
            have b7 := Lib.hid (show Below w6.heap.size w6 w7 from bstep (balloc (Below.refl _ _) _) (below_none g7))
            have PR := Lib.hid ((OwnR.nil w6 w.heap.size).snoc (x := p.x) K6.out.op.txt (low_sep HU9.out (Nat.le_refl _) (fun k9 hk9 => by simp [Value.ownBlock] at hk9)) (by simpa [flatR] using o7) g7 f7)
            have PF := Lib.hid (show FarR B v5 v7 ([] ++ [(p.x, .slice X1 p.x.text.length d1)]) from ⟨apart_grow (w := w6) (b := w6.heap.size) (FarR.nil B v5).1 (K6.out.ds.lt) K6.out.ds.vlt (fun k9 hk9 => by rcases f7 k9 hk9 with h9 | h9; exact .inl h9; exact .inr (by omega)), fun q9 hq9 hne => by
              obtain rfl : q9 = (p.x, .slice X1 p.x.text.length d1) := by simpa using hq9
              exact K6.out.oq.2.2 hne⟩)
            obtain ⟨pp, hpp⟩ : ∃ pp : List (Rc × Value), pp = [] ++ [(p.x, .slice X1 p.x.text.length d1)] := ⟨_, rfl⟩
            rw [← hpp] at PR PF
            have PPE := Lib.hid (show pp.map (·.1) = [p.x] from by rw [hpp]; rfl)
            have PPL := Lib.hid (show pp.length = 1 from by rw [hpp]; rfl)
            have K7 := Lib.hid ((K6.out.below b7.out).perhaps PR.out PF.out)
            clear o7 g7 f7 hN0 HCX hpp PR PF b7
            clear c0 c1 c2 c3 c4 c5 c6
            have c0 := K7.out.op.c0
            have c1 := K7.out.op.c1
            have c2 := K7.out.op.c2
            have c3 := K7.out.op.c3
            have c4 := K7.out.op.c4
            have c5 := K7.out.op.c5
            have c6 := K7.out.op.c6
            go_wp2_with fail
            with_reducible refine Calls.mono (crashE (d2 := d2.crash p.n) _ K7.out.ds p.n rfl) ?_
            rintro e8 w8 ⟨v8, rfl, hd8, hs8⟩
            have M8 := Lib.hid (ht.crash K7.out.ds.hs p.n).1
            have K8 := Lib.hid (K7.out.step hwB hs8 hd8)
            clear hd8 hs8
            clear c0 c1 c2 c3 c4 c5 c6
            have c0 := K8.out.op.c0
            have c1 := K8.out.op.c1
            have c2 := K8.out.op.c2
            have c3 := K8.out.op.c3
            have c4 := K8.out.op.c4
            have c5 := K8.out.op.c5
            have c6 := K8.out.op.c6
            go_wp2_with fail
            with_reducible refine Calls.mono (sparksE (d2 := (d2.crash p.n).sparks p.n) _ K8.out.ds p.n OK.n.2 rfl) ?_
            rintro e9 w9 ⟨v9, rfl, hd9, hs9⟩
            have M9 := Lib.hid (M8.out.sparks p.n)
            have K9 := Lib.hid (K8.out.step hwB hs9 hd9)
            clear hd9 hs9
            clear c0 c1 c2 c3 c4 c5 c6
            have c0 := K9.out.op.c0
            have c1 := K9.out.op.c1
            have c2 := K9.out.op.c2
            have c3 := K9.out.op.c3
            have c4 := K9.out.op.c4
            have c5 := K9.out.op.c5
            have c6 := K9.out.op.c6
            obtain ⟨got, hgot, hrd, -, -, -, -⟩ := M9.out.reads
            have HRD := Lib.hid hrd
            obtain ⟨dg, rg, hop⟩ : ∃ dg rg, ((d2.crash p.n).sparks p.n).open_ (catB got).length = (dg, rg) := ⟨_, _, rfl⟩
            have HOP := Lib.hid hop
            have hs9 := K9.out.bel.size
            clear hrd hop
            go_wp2_with fail
            with_reducible refine Calls.mono (openF (d2 := dg) (r := rg) _ K9.out.ds M9.out.u8 HRD.out HOP.out) ?_
            rintro e10 w10 ⟨v10, hd10, hs10, hres⟩
            have K10 := Lib.hid (K9.out.step hwB hs10 hd10)
            have hBw9 := K9.out.ds.lt
            clear hd10 hs10
            clear c0 c1 c2 c3 c4 c5 c6
            rcases open_mid M9.out HRD.out HOP.out with ⟨rfl, hgd⟩ | ⟨rfl, -, hsl, hcr⟩
            · skip
              have c0 := K10.out.op.c0
              have c1 := K10.out.op.c1
              have c2 := K10.out.op.c2
              have c3 := K10.out.op.c3
              have c4 := K10.out.op.c4
              have c5 := K10.out.op.c5
              have c6 := K10.out.op.c6
              rcases hres with ⟨h9, -⟩ | ⟨-, L3, vr, gp, rfl, hgp, hown, -, hL3, hLv, hl3, hfar, hnv⟩
              · exact absurd rfl h9
              have K13 := Lib.hid (K10.out.got (hown.lower (by have := K9.out.bel.size; omega)) hfar hl3 ⟨by omega, hLv⟩ hnv)
              have GOT := Lib.hid (show gp.map (·.1) = ps.map (·.1) ∨ gp.map (·.1) = ps.map (·.1) ++ [p.x] from by rw [hgp]; exact hgot)
              have G15 := Lib.hid (show Good dg (gp.map (·.1)) from by rw [hgp]; exact hgd)
              clear hown hfar hl3 hLv hnv hgp
              have hM := Lib.hid (World.ownsRow_made (e := 34) (size := 5) (base := w10.heap.size) w10 #[] 0 (Nat.le_refl _) (by simp) (by simp))
              have bM : Below w10.heap.size w10 (w10.alloc (.cells #[] 34)) := balloc (Below.refl _ _) _
              have hKM := Lib.hid (K13.out.below bM)
              have hcnt := Lib.hid (cat_count (ps.map (·.1)))
              have hpsl : ps.length ≤ 3000 := PSL.out
              go_wp2_with (at_builtin; refine wpList_append_from5 _ rfl _ _ rfl w10.heap.size w.heap.size (.slice (some ⟨w10.heap.size, 0, none⟩) 0 0) _ 0 [] ps rfl rfl hM.out hKM.out.hr (by omega) (by (try simp); try omega) ?_)
              intro va wa oa ga fa
              have OA := Lib.hid (OwnR.append (w := w10.alloc (.cells #[] 34)) (base := w10.heap.size) (v := .slice (some ⟨w10.heap.size, 0, none⟩) 0 0) (ps := []) (qs := ps) ⟨hM.out, fun p hp => (by cases hp)⟩ hKM.out.hr (fun q9 hq9 hne e => by
                obtain ⟨k9, hk9, hl9⟩ := bat_some (K13.out.hr.txt q9 hq9).1 hne
                rw [hk9] at e
                simp only [Value.ownBlock, Option.some.injEq] at e
                omega) (by simpa [flatR] using oa) ga (alloc_f fa))
              have BA := Lib.hid (show Below w10.heap.size w10 wa from bM.grown ga (by simp) (fun k9 hk9 => by simp [Value.ownBlock] at hk9; omega))
              have hKA := Lib.hid (K13.out.below BA.out)
              have hsA := BA.out.size
              have hlA : ([] ++ ps : List (Rc × Value)).length = ps.length := by simp
              clear oa ga fa hKM
              go_wp2_with (at_builtin; refine wpList_append_from5 _ rfl _ _ rfl w10.heap.size w.heap.size va _ ([] ++ ps : List (Rc × Value)).length (flatR ([] ++ ps)) pp rfl rfl OA.out.own hKA.out.pr (by rw [hlA]; have := PPL.out; omega) (by omega) ?_)
              intro vb wb ob gb fb
              have OB := Lib.hid (OwnR.append OA.out hKA.out.pr (fun q9 hq9 hne e => by
                obtain ⟨k9, hk9, hl9⟩ := bat_some (K13.out.pr.txt q9 hq9).1 hne
                rw [hk9] at e
                have := (OA.out.own.lt k9 e.symm).1
                omega) ob gb fb)
              have BB := Lib.hid (show Below w10.heap.size w10 wb from BA.out.grown gb BA.out.size (fun k9 hk9 => (OA.out.own.lt k9 hk9).1))
              have K14 := Lib.hid (K13.out.below BB.out)
              have RB := Lib.hid OB.out.recs
              clear ob gb fb hKA OA BA hlA
              go_wp2_with fail
              with_reducible refine Calls.mono (allR _ K14.out.gr.recs K14.out.hr.recs (fun y hy => (G15.out.all y hy).1.text) (fun y hy => (GD.out y hy).1.text)) ?_
              rintro e15 w15 ⟨r15, rfl, hr15, hb15⟩
              have K15 := Lib.hid (K14.out.below hb15)
              have RB15 := Lib.hid (RB.out.below hb15)
              clear hb15
              cases r15 with
              | true =>
                clear hr15
                go_wp2_with fail
                with_reducible refine Calls.mono (sparksE (d2 := dg.sparks (-1)) _ K15.out.ds (-1) (by omega) rfl) ?_
                rintro e16 w16 ⟨v16, rfl, hd16, hs16⟩
                have K16 := Lib.hid (K15.out.step hwB hs16 hd16)
                have G16 := Lib.hid (G15.out.sparks (-1))
                clear hd16 hs16
                obtain ⟨d17, ho17, hg17⟩ := open_good G16.out (by simp [Dsk.sparks])
                have HO17 := Lib.hid ho17
                have G17 := Lib.hid hg17
                clear ho17 hg17
                go_wp2_with fail
                with_reducible refine Calls.mono (openF (d2 := d17) (r := 0) _ K16.out.ds G16.out.u8 G16.out.reads HO17.out) ?_
                rintro e17 w17 ⟨v17, hd17, hs17, hres⟩
                have K17 := Lib.hid (K16.out.step hwB hs17 hd17)
                clear hd17 hs17
                rcases hres with ⟨h9, -⟩ | ⟨-, L4, vr4, gp4, rfl, hgp4, ho4, -, -, -, -, -, -⟩
                · exact absurd rfl h9
                have R4 := Lib.hid (ho4.recs)
                have E4 := Lib.hid hgp4
                clear ho4 hgp4
                go_wp2_with fail
                with_reducible refine Calls.mono (all_true _ R4.out K17.out.gr.recs (fun y hy => (G17.out.all y (by rw [← E4.out]; exact hy)).1.text) E4.out) ?_
                rintro e18 w18 ⟨rfl, hb18⟩
                have K18 := Lib.hid (K17.out.below hb18)
                clear hb18
                go_wp2_with fail
                go_roundw
                case rel => exact ⟨k + 1, v17, d17, gp, L3, by omega, by go_num, rfl, K18.out.ds, G17.out, K18.out.gr, K18.out.gf, K18.out.l2, K18.out.q2, K18.out.n2, K18.out.bel⟩
                case measure => (try simp [intOf]) <;> omega
              | false =>
                have hgx : gp.map (·.1) = (([] : List (Rc × Value)) ++ ps ++ pp).map (·.1) := by
                  rcases GOT.out with h9 | h9
                  · exact absurd (hr15.2 h9) (by simp)
                  · rw [h9, List.map_append, List.map_append, PPE.out]; rfl
                have HGX := Lib.hid hgx
                clear hgx hr15
                go_wp2_with fail
                with_reducible refine Calls.mono (all_true _ K15.out.gr.recs RB15.out (fun y hy => (G15.out.all y hy).1.text) HGX.out) ?_
                rintro e15 w19 ⟨rfl, hb19⟩
                replace K15 := Lib.hid (K15.out.below hb19)
                clear hb19
                go_wp2_with fail
                with_reducible refine Calls.mono (sparksE (d2 := dg.sparks (-1)) _ K15.out.ds (-1) (by omega) rfl) ?_
                rintro e16 w16 ⟨v16, rfl, hd16, hs16⟩
                have K16 := Lib.hid (K15.out.step hwB hs16 hd16)
                have G16 := Lib.hid (G15.out.sparks (-1))
                clear hd16 hs16
                obtain ⟨d17, ho17, hg17⟩ := open_good G16.out (by simp [Dsk.sparks])
                have HO17 := Lib.hid ho17
                have G17 := Lib.hid hg17
                clear ho17 hg17
                go_wp2_with fail
                with_reducible refine Calls.mono (openF (d2 := d17) (r := 0) _ K16.out.ds G16.out.u8 G16.out.reads HO17.out) ?_
                rintro e17 w17 ⟨v17, hd17, hs17, hres⟩
                have K17 := Lib.hid (K16.out.step hwB hs17 hd17)
                clear hd17 hs17
                rcases hres with ⟨h9, -⟩ | ⟨-, L4, vr4, gp4, rfl, hgp4, ho4, -, -, -, -, -, -⟩
                · exact absurd rfl h9
                have R4 := Lib.hid (ho4.recs)
                have E4 := Lib.hid hgp4
                clear ho4 hgp4
                go_wp2_with fail
                with_reducible refine Calls.mono (all_true _ R4.out K17.out.gr.recs (fun y hy => (G17.out.all y (by rw [← E4.out]; exact hy)).1.text) E4.out) ?_
                rintro e18 w18 ⟨rfl, hb18⟩
                have K18 := Lib.hid (K17.out.below hb18)
                clear hb18
                go_wp2_with fail
                go_roundw
                case rel => exact ⟨k + 1, v17, d17, gp, L3, by omega, by go_num, rfl, K18.out.ds, G17.out, K18.out.gr, K18.out.gf, K18.out.l2, K18.out.q2, K18.out.n2, K18.out.bel⟩
                case measure => (try simp [intOf]) <;> omega
            · rcases hres with ⟨-, rfl⟩ | ⟨h9, -⟩
              rotate_left
              · exact absurd h9 (by decide)
              have c0 := K10.out.op.c0
              have c1 := K10.out.op.c1
              have c2 := K10.out.op.c2
              have c3 := K10.out.op.c3
              have c4 := K10.out.op.c4
              have c5 := K10.out.op.c5
              have c6 := K10.out.op.c6
              go_wp2_with fail
              with_reducible refine Calls.mono (crashE (d2 := dg.crash p.n) _ K10.out.ds p.n rfl) ?_
              rintro e11 w11 ⟨v11, rfl, hd11, hs11⟩
              have M11 := Lib.hid (hcr p.n).1
              have hl11 := Lib.hid (hcr p.n).2
              have K11 := Lib.hid (K10.out.step hwB hs11 hd11)
              clear hd11 hs11 hcr hsl
              clear c0 c1 c2 c3 c4 c5 c6
              have c0 := K11.out.op.c0
              have c1 := K11.out.op.c1
              have c2 := K11.out.op.c2
              have c3 := K11.out.op.c3
              have c4 := K11.out.op.c4
              have c5 := K11.out.op.c5
              have c6 := K11.out.op.c6
              obtain ⟨got2, hgot2, hrd2, -, -, -, -⟩ := M11.out.reads
              have HRD2 := Lib.hid hrd2
              obtain ⟨dh, rh, hop2⟩ : ∃ dh rh, (dg.crash p.n).open_ (catB got2).length = (dh, rh) := ⟨_, _, rfl⟩
              have HOP2 := Lib.hid hop2
              have hs11 := K11.out.bel.size
              have hBw11 := K11.out.ds.lt
              clear hrd2 hop2
              rcases open_mid M11.out HRD2.out HOP2.out with ⟨rfl, hgd⟩ | ⟨-, h9, -⟩
              rotate_left
              · exact absurd hl11.out h9
              have HGD := Lib.hid hgd
              clear hgd
              go_wp2_with fail
              with_reducible refine Calls.mono (openF (d2 := dh) (r := 0) _ K11.out.ds M11.out.u8 HRD2.out HOP2.out) ?_
              rintro e12 w12 ⟨v12, hd12, hs12, hres2⟩
              have K12 := Lib.hid (K11.out.step hwB hs12 hd12)
              clear hd12 hs12
              clear c0 c1 c2 c3 c4 c5 c6
              have c0 := K12.out.op.c0
              have c1 := K12.out.op.c1
              have c2 := K12.out.op.c2
              have c3 := K12.out.op.c3
              have c4 := K12.out.op.c4
              have c5 := K12.out.op.c5
              have c6 := K12.out.op.c6
              clear HOP HRD
              obtain ⟨dg, hdg⟩ : ∃ dg, dg = dh := ⟨_, rfl⟩
              rw [← hdg] at K12 HGD
              clear hdg
              rcases hres2 with ⟨h9, -⟩ | ⟨-, L3, vr, gp, rfl, hgp, hown, -, hL3, hLv, hl3, hfar, hnv⟩
              · exact absurd rfl h9
              have K13 := Lib.hid (K12.out.got (hown.lower (by have := K11.out.bel.size; omega)) hfar hl3 ⟨by omega, hLv⟩ hnv)
              have GOT := Lib.hid (show gp.map (·.1) = ps.map (·.1) ∨ gp.map (·.1) = ps.map (·.1) ++ [p.x] from by rw [hgp]; exact hgot2)
              have G15 := Lib.hid (show Good dg (gp.map (·.1)) from by rw [hgp]; exact HGD.out)
              clear hown hfar hl3 hLv hnv hgp
              have hM := Lib.hid (World.ownsRow_made (e := 34) (size := 5) (base := w12.heap.size) w12 #[] 0 (Nat.le_refl _) (by simp) (by simp))
              have bM : Below w12.heap.size w12 (w12.alloc (.cells #[] 34)) := balloc (Below.refl _ _) _
              have hKM := Lib.hid (K13.out.below bM)
              have hcnt := Lib.hid (cat_count (ps.map (·.1)))
              have hpsl : ps.length ≤ 3000 := PSL.out
              go_wp2_with (at_builtin; refine wpList_append_from5 _ rfl _ _ rfl w12.heap.size w.heap.size (.slice (some ⟨w12.heap.size, 0, none⟩) 0 0) _ 0 [] ps rfl rfl hM.out hKM.out.hr (by omega) (by (try simp); try omega) ?_)
              intro va wa oa ga fa
              have OA := Lib.hid (OwnR.append (w := w12.alloc (.cells #[] 34)) (base := w12.heap.size) (v := .slice (some ⟨w12.heap.size, 0, none⟩) 0 0) (ps := []) (qs := ps) ⟨hM.out, fun p hp => (by cases hp)⟩ hKM.out.hr (fun q9 hq9 hne e => by
                obtain ⟨k9, hk9, hl9⟩ := bat_some (K13.out.hr.txt q9 hq9).1 hne
                rw [hk9] at e
                simp only [Value.ownBlock, Option.some.injEq] at e
                omega) (by simpa [flatR] using oa) ga (alloc_f fa))
              have BA := Lib.hid (show Below w12.heap.size w12 wa from bM.grown ga (by simp) (fun k9 hk9 => by simp [Value.ownBlock] at hk9; omega))
              have hKA := Lib.hid (K13.out.below BA.out)
              have hsA := BA.out.size
              have hlA : ([] ++ ps : List (Rc × Value)).length = ps.length := by simp
              clear oa ga fa hKM
              go_wp2_with (at_builtin; refine wpList_append_from5 _ rfl _ _ rfl w12.heap.size w.heap.size va _ ([] ++ ps : List (Rc × Value)).length (flatR ([] ++ ps)) pp rfl rfl OA.out.own hKA.out.pr (by rw [hlA]; have := PPL.out; omega) (by omega) ?_)
              intro vb wb ob gb fb
              have OB := Lib.hid (OwnR.append OA.out hKA.out.pr (fun q9 hq9 hne e => by
                obtain ⟨k9, hk9, hl9⟩ := bat_some (K13.out.pr.txt q9 hq9).1 hne
                rw [hk9] at e
                have := (OA.out.own.lt k9 e.symm).1
                omega) ob gb fb)
              have BB := Lib.hid (show Below w12.heap.size w12 wb from BA.out.grown gb BA.out.size (fun k9 hk9 => (OA.out.own.lt k9 hk9).1))
              have K14 := Lib.hid (K13.out.below BB.out)
              have RB := Lib.hid OB.out.recs
              clear ob gb fb hKA OA BA hlA
              go_wp2_with fail
              with_reducible refine Calls.mono (allR _ K14.out.gr.recs K14.out.hr.recs (fun y hy => (G15.out.all y hy).1.text) (fun y hy => (GD.out y hy).1.text)) ?_
              rintro e15 w15 ⟨r15, rfl, hr15, hb15⟩
              have K15 := Lib.hid (K14.out.below hb15)
              have RB15 := Lib.hid (RB.out.below hb15)
              clear hb15
              cases r15 with
              | true =>
                clear hr15
                go_wp2_with fail
                with_reducible refine Calls.mono (sparksE (d2 := dg.sparks (-1)) _ K15.out.ds (-1) (by omega) rfl) ?_
                rintro e16 w16 ⟨v16, rfl, hd16, hs16⟩
                have K16 := Lib.hid (K15.out.step hwB hs16 hd16)
                have G16 := Lib.hid (G15.out.sparks (-1))
                clear hd16 hs16
                obtain ⟨d17, ho17, hg17⟩ := open_good G16.out (by simp [Dsk.sparks])
                have HO17 := Lib.hid ho17
                have G17 := Lib.hid hg17
                clear ho17 hg17
                go_wp2_with fail
                with_reducible refine Calls.mono (openF (d2 := d17) (r := 0) _ K16.out.ds G16.out.u8 G16.out.reads HO17.out) ?_
                rintro e17 w17 ⟨v17, hd17, hs17, hres⟩
                have K17 := Lib.hid (K16.out.step hwB hs17 hd17)
                clear hd17 hs17
                rcases hres with ⟨h9, -⟩ | ⟨-, L4, vr4, gp4, rfl, hgp4, ho4, -, -, -, -, -, -⟩
                · exact absurd rfl h9
                have R4 := Lib.hid (ho4.recs)
                have E4 := Lib.hid hgp4
                clear ho4 hgp4
                go_wp2_with fail
                with_reducible refine Calls.mono (all_true _ R4.out K17.out.gr.recs (fun y hy => (G17.out.all y (by rw [← E4.out]; exact hy)).1.text) E4.out) ?_
                rintro e18 w18 ⟨rfl, hb18⟩
                have K18 := Lib.hid (K17.out.below hb18)
                clear hb18
                go_wp2_with fail
                go_roundw
                case rel => exact ⟨k + 1, v17, d17, gp, L3, by omega, by go_num, rfl, K18.out.ds, G17.out, K18.out.gr, K18.out.gf, K18.out.l2, K18.out.q2, K18.out.n2, K18.out.bel⟩
                case measure => (try simp [intOf]) <;> omega
              | false =>
                have hgx : gp.map (·.1) = (([] : List (Rc × Value)) ++ ps ++ pp).map (·.1) := by
                  rcases GOT.out with h9 | h9
                  · exact absurd (hr15.2 h9) (by simp)
                  · rw [h9, List.map_append, List.map_append, PPE.out]; rfl
                have HGX := Lib.hid hgx
                clear hgx hr15
                go_wp2_with fail
                with_reducible refine Calls.mono (all_true _ K15.out.gr.recs RB15.out (fun y hy => (G15.out.all y hy).1.text) HGX.out) ?_
                rintro e15 w19 ⟨rfl, hb19⟩
                replace K15 := Lib.hid (K15.out.below hb19)
                clear hb19
                go_wp2_with fail
                with_reducible refine Calls.mono (sparksE (d2 := dg.sparks (-1)) _ K15.out.ds (-1) (by omega) rfl) ?_
                rintro e16 w16 ⟨v16, rfl, hd16, hs16⟩
                have K16 := Lib.hid (K15.out.step hwB hs16 hd16)
                have G16 := Lib.hid (G15.out.sparks (-1))
                clear hd16 hs16
                obtain ⟨d17, ho17, hg17⟩ := open_good G16.out (by simp [Dsk.sparks])
                have HO17 := Lib.hid ho17
                have G17 := Lib.hid hg17
                clear ho17 hg17
                go_wp2_with fail
                with_reducible refine Calls.mono (openF (d2 := d17) (r := 0) _ K16.out.ds G16.out.u8 G16.out.reads HO17.out) ?_
                rintro e17 w17 ⟨v17, hd17, hs17, hres⟩
                have K17 := Lib.hid (K16.out.step hwB hs17 hd17)
                clear hd17 hs17
                rcases hres with ⟨h9, -⟩ | ⟨-, L4, vr4, gp4, rfl, hgp4, ho4, -, -, -, -, -, -⟩
                · exact absurd rfl h9
                have R4 := Lib.hid (ho4.recs)
                have E4 := Lib.hid hgp4
                clear ho4 hgp4
                go_wp2_with fail
                with_reducible refine Calls.mono (all_true _ R4.out K17.out.gr.recs (fun y hy => (G17.out.all y (by rw [← E4.out]; exact hy)).1.text) E4.out) ?_
                rintro e18 w18 ⟨rfl, hb18⟩
                have K18 := Lib.hid (K17.out.below hb18)
                clear hb18
                go_wp2_with fail
                go_roundw
                case rel => exact ⟨k + 1, v17, d17, gp, L3, by omega, by go_num, rfl, K18.out.ds, G17.out, K18.out.gr, K18.out.gf, K18.out.l2, K18.out.q2, K18.out.n2, K18.out.bel⟩
                case measure => (try simp [intOf]) <;> omega
        · have em : p.wh % 6 = 3 := hm
          go_wp2_with fail
          with_reducible refine Calls.mono (offE (r := false) _ K4.out.ds G.out.off) ?_
          rintro e5 w5 ⟨rfl, hb5⟩
          have K5 := Lib.hid (K4.out.below hb5)
          clear hb5
          go_wp2_with fail
          go_roundw
          case rel => exact ⟨k + 1, v, d, ps, Lp, by omega, by go_num, rfl, K5.out.ds, G.out, K5.out.hr, K5.out.hf, K5.out.l1, K5.out.q1, K5.out.n1, K5.out.bel⟩
          case measure => (try simp [intOf]) <;> omega
        · have em : p.wh % 6 = 4 := hm
          go_wp2_with fail
          with_reducible refine Calls.mono (sparksE (d2 := d.sparks p.n) _ K4.out.ds p.n OK.n.2 rfl) ?_
          rintro e5 w5 ⟨v5, rfl, hd5, hs5⟩
          have K5 := Lib.hid (K4.out.step hwB hs5 hd5)
          clear hd5 hs5
          go_wp2_with fail
          go_roundw
          case rel => exact ⟨k + 1, v5, d.sparks p.n, ps, Lp, by omega, by go_num, rfl, K5.out.ds, G.out.sparks p.n, K5.out.hr, K5.out.hf, K5.out.l1, K5.out.q1, K5.out.n1, K5.out.bel⟩
          case measure => (try simp [intOf]) <;> omega
        · have em : p.wh % 6 = 5 := hm
          go_wp2_with fail
          with_reducible refine Calls.mono (offE (r := false) _ K4.out.ds G.out.off) ?_
          rintro e5 w5 ⟨rfl, hb5⟩
          have K5 := Lib.hid (K4.out.below hb5)
          clear hb5
          go_wp2_with fail
          go_roundw
          case rel => exact ⟨k + 1, v, d, ps, Lp, by omega, by go_num, rfl, K5.out.ds, G.out, K5.out.hr, K5.out.hf, K5.out.l1, K5.out.q1, K5.out.n1, K5.out.bel⟩
          case measure => (try simp [intOf]) <;> omega
      · obtain rfl : k = M := by omega
        go_wp2_with fail
        with_reducible refine Calls.mono (awake10 _) ?_
        rintro e6 w6 ⟨rfl, hb6⟩
        go_wp2_with fail
        go_ret
        exact ⟨rfl, bstep S4.out hb6⟩
end Go.Proofs.Ythgaphfelpnclaa
