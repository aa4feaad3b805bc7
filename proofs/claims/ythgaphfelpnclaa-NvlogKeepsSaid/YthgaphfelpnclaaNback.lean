/- The law NvlogBack, walked. -/
import Derived.Test.YthgaphfelpnclaaNk
import Derived.Test.YthgaphfelpnclaaNl
set_option linter.unusedVariables false
set_option linter.unusedSimpArgs false
namespace Go.Proofs.Ythgaphfelpnclaa
open Go.RowKit
theorem catB_append (a b : List Rc) : catB (a ++ b) = catB a ++ catB b := by simp [catB]
theorem reads_cut {xs : List Rc} (h : ∀ x ∈ xs, x.ok ∧ x.right = true) {k wh : Nat} (hw : wh ≤ xs.length) (h1 : (catB (xs.take wh)).length ≤ k) (h2 : wh = xs.length ∨ k < (catB (xs.take (wh + 1))).length) :
    Reads ((catB xs).take k) (xs.take wh) (catB (xs.take wh)).length := by
  have e : catB xs = catB (xs.take wh) ++ catB (xs.drop wh) := by rw [← catB_append, List.take_append_drop]
  have e2 : (catB xs).take k = catB (xs.take wh) ++ (catB (xs.drop wh)).take (k - (catB (xs.take wh)).length) := by
    rw [e, List.take_append, List.take_of_length_le h1]
  rw [e2]
  refine reads_cat _ _ (fun x hx => h x (List.mem_of_mem_take hx)) ?_
  rcases h2 with rfl | h2
  · rw [List.drop_length]; simp [catB, first]
  · by_cases hlt : wh < xs.length
    · rw [List.drop_eq_getElem_cons hlt, catB_cons]
      rw [List.take_succ_eq_append_getElem hlt, catB_snoc, List.length_append] at h2
      rw [List.take_append_of_le_length (by omega)]
      exact first_cut (by omega)
    · rw [List.drop_of_length_le (by omega)]; simp [catB, first]
theorem own_ints {w : World} {base : Nat} {v : Value} {el : List Int} (h : w.ownsRow base 3 1 v el.length (i64s el)) (hne : 0 < el.length) : ∃ g c, v = .slice (some ⟨g, 0, none⟩) el.length c ∧ el.length ≤ c ∧ c ≤ maxLen ∧ ∀ i z, el[i]? = some z → w.cell? ⟨g, i, none⟩ = some (.int .i64 z) := by
  rcases h.2 with ⟨rfl, h0⟩ | ⟨g, cap, cur, rfl, hb, hg, hn, hc, hs, ht⟩
  · omega
  · refine ⟨g, cap, rfl, hn, hc, fun i z hz => ?_⟩
    have h1 := h.cells (g := g) rfl i (.int .i64 z) (by simp [i64s, hz])
    rw [show (⟨g, 0, none⟩ : Addr).add i = ⟨g, i, none⟩ from by unfold Addr.add; split <;> simp_all] at h1
    exact h1
theorem good_all {rs xs : List Rc} {k : Nat} (h : xs = (rs.take k).filter goodB) (hok : ∀ r ∈ rs, r.ok) : ∀ x ∈ xs, x.ok ∧ x.right = true := by
  intro x hx
  rw [h] at hx
  obtain ⟨h1, h2⟩ := List.mem_filter.1 hx
  simp only [goodB, Bool.and_eq_true] at h2
  exact ⟨hok x (List.mem_of_mem_take h1), h2.1⟩
theorem good_len {rs xs : List Rc} (h : xs = (rs.take 12).filter goodB) : xs.length ≤ 12 ∧ (catB xs).length ≤ 12 * 313 := by
  have h1 : xs.length ≤ 12 := by
    rw [h]
    have := List.length_filter_le goodB (rs.take 12)
    rw [List.length_take] at this
    omega
  have h2 : ∀ l : List Rc, (∀ x ∈ l, x.text.length ≤ 300) → (catB l).length ≤ l.length * 313 := by
    intro l
    induction l with
    | nil => intro _; simp [catB]
    | cons x l ih =>
      intro hl
      have := ih (fun y hy => hl y (by simp [hy]))
      have h3 := hl x (by simp)
      rw [catB_cons, List.length_append, Rc.bytes_len, List.length_cons]
      omega
  have h4 := h2 xs (fun x hx => by
    rw [h] at hx
    have := (List.mem_filter.1 hx).2
    simp only [goodB, Bool.and_eq_true, decide_eq_true_eq] at this
    exact this.2)
  omega
theorem all_true {va vb : Value} {a b : List Rc} (w : World) (ha : RecsAt w va a) (hb : RecsAt w vb b) (ua : ∀ r ∈ a, U8s r.text) (e : a = b) :
    Calls Try.prog 18 #[va, vb] w fun e' w' => e' = .returned (.bool true) ∧ Below w.heap.size w w' := by
  refine (allR w ha hb ua (e ▸ ua)).mono ?_
  rintro e1 w1 ⟨r, rfl, h1, h2⟩
  rw [h1.2 e]
  exact ⟨rfl, h2⟩
theorem catB_u8 {xs : List Rc} (h : ∀ x ∈ xs, x.ok ∧ x.right = true) : U8s (catB xs) := by
  intro n hn
  obtain ⟨x, hx, h2⟩ := List.mem_flatMap.1 hn
  exact (h x hx).1.bytes (h x hx).2 n h2
set_option maxRecDepth 100000 in
set_option maxHeartbeats 4000000 in
theorem back_walk {v vb : Value} {rs : List Rc} {bs : List Int} (a : Int) (w : World) (h : RecsAt w v rs) (hok : ∀ r ∈ rs, r.ok) (ha : 0 ≤ a ∧ a ≤ 65535) (hb : BAt w vb bs) (hu : U8s bs) :
    Calls Try.prog 3 #[v, .int .u16 a, vb] w fun e' w' => e' = .returned (.bool true) ∧ Below w.heap.size w w' := by
  have H := Lib.hid h
  obtain ⟨A, c, rfl, h2, h3, _⟩ := h
  unfold maxLen at h3
  have HB := Lib.hid hb
  obtain ⟨Ab, cb, rfl, k2, k3, _⟩ := hb
  have hcb := k3
  unfold maxLen at k3
  by_cases hbig : 1000 < bs.length
  · have e0 : decide ((1000 : Int) < (bs.length : Int)) = true := by simp; omega
    go_enter Try.func3, Try.ntmps3
    go_wp2_with fail
    with_reducible refine Calls.mono (awake10 _) ?_
    rintro e1 w1 ⟨rfl, hb1⟩
    go_wp2_with fail
    go_ret
    exact ⟨rfl, hb1⟩
  · have e0 : decide ((1000 : Int) < (bs.length : Int)) = false := by simp; omega
    have hbs : bs.length ≤ 1000 := by omega
    go_enter Try.func3, Try.ntmps3
    go_wp2_with fail
    with_reducible refine Calls.mono (rowR _ H.out hok) ?_
    rintro e1 w1 ⟨v1, vb1, ve1, ps, rfl, R1, hxs⟩
    have HX := Lib.hid (good_all hxs hok)
    have HL := Lib.hid (good_len hxs)
    obtain ⟨xs, hxe⟩ : ∃ xs, xs = ps.map (·.1) := ⟨_, rfl⟩
    rw [← hxe] at R1 hxs HX HL
    have S1 := Lib.hid R1.bel
    have Q1 := R1.out.recs
    rw [← hxe] at Q1
    have Q1 := Lib.hid Q1
    obtain ⟨Av, cv, rfl, hv2, hv3, _⟩ := Q1.out
    have hcv := hv3
    unfold maxLen at hv3
    have O1 := R1.bs
    obtain ⟨A1, c1, rfl⟩ := len_of_own O1
    have hc1 := own_cap O1
    have hcm1 := hc1.2
    unfold maxLen at hcm1
    have B1 := Lib.hid (BAt.of_own O1)
    have hel := endsOf_len xs
    obtain ⟨g, ce, rfl, he2, he3, he4⟩ := own_ints R1.ends (by omega)
    rw [hel] at he2 ⊢
    unfold maxLen at he3
    have EN := Lib.hid (fun i (hi : i ≤ xs.length) => he4 i _ (endsOf_at xs hi))
    have hl12 := HL.out.1
    have hlc := HL.out.2
    clear R1 hxs hxe O1 hel he4
    go_wp2_with fail
    with_reducible refine Calls.mono (readR _ B1.out (catB_u8 HX.out) (by omega)) ?_
    rintro e2 w2 ⟨v2, ps2, n2, rfl, hrd, O2, hb2⟩
    obtain ⟨hps2, hn2⟩ := hrd.det (show Reads (catB xs) xs (catB xs).length from by simpa using reads_cat xs [] HX.out first_nil)
    subst hn2
    have Q2 := O2.recs
    rw [hps2] at Q2
    have S2 := Lib.hid (bstep S1.out hb2)
    have Q12 := Lib.hid (Q1.out.below hb2)
    have B2 := Lib.hid (B1.out.below hb2)
    have EN2 := Lib.hid (fun i hi => keep hb2 (EN.out i hi))
    clear hrd O2 hb2 hps2
    go_wp2_with fail
    with_reducible refine Calls.mono (all_true _ Q2 Q12.out (fun r hr => (HX.out r hr).1.text) rfl) ?_
    rintro e3 w3 ⟨rfl, hb3⟩
    have S3 := Lib.hid (bstep S2.out hb3)
    have Q3 := Lib.hid (Q12.out.below hb3)
    have B3 := Lib.hid (B2.out.below hb3)
    have EN3 := Lib.hid (fun i hi => keep hb3 (EN2.out i hi))
    clear hb3 Q2
    go_wp2_with fail
    obtain ⟨k, hk⟩ := Int.eq_ofNat_of_zero_le (Int.emod_nonneg a (show ((catB xs).length : Int) + 1 ≠ 0 by omega))
    have hkl : k ≤ (catB xs).length := by have := Int.emod_lt_of_pos a (show (0 : Int) < ((catB xs).length : Int) + 1 by omega); omega
    rw [hk]
    have HK := Lib.hid hk
    clear hk
    go_loopw [13] (fun i wr => ∃ (wh : Nat), wh ≤ xs.length ∧ i = .int .i64 wh ∧ (catB (xs.take wh)).length ≤ k ∧ Below w3.heap.size w3 wr) (fun i _ => xs.length - (intOf i).toNat)
    case atStart => exact ⟨0, by omega, rfl, by simp [catB], Below.refl _ _⟩
    case round =>
      obtain ⟨wh, hwl, rfl, hwk, hbr⟩ := hrel
      have S4 := Lib.hid (bstep S3.out hbr)
      have Q4 := Lib.hid (Q3.out.below hbr)
      have B4 := Lib.hid (B3.out.below hbr)
      have EN4 := Lib.hid (fun i hi => keep hbr (EN3.out i hi))
      have HWK := Lib.hid hwk
      have HBR := Lib.hid hbr
      clear hbr hwk
      by_cases hlt : wh < xs.length
      · have hd0 : decide ((wh : Int) < (xs.length : Int)) = true := by simp; omega
        obtain ⟨L, hL⟩ : ∃ L, L = (catB (xs.take (wh + 1))).length := ⟨_, rfl⟩
        have hen := EN4.out (wh + 1) (by omega)
        rw [← hL] at hen
        have HLL := Lib.hid hL
        clear hL
        by_cases hle : L ≤ k
        · have hd : decide ((L : Int) ≤ (k : Int)) = true := by simp; omega
          go_wp2_with fail
          go_roundw
          case rel => exact ⟨wh + 1, by omega, by go_num, by rw [← HLL.out]; exact hle, HBR.out⟩
          case measure => (try simp [intOf]) <;> omega
        · have hd : decide ((L : Int) ≤ (k : Int)) = false := by simp; omega
          have HE := Lib.hid (show wh = xs.length ∨ k < (catB (xs.take (wh + 1))).length from .inr (by rw [← HLL.out]; omega))
          go_wp2_with fail
          with_reducible refine Calls.mono (readR _ (take_bat2 B4.out hkl) (u8s_take' (catB_u8 HX.out) k) (by rw [List.length_take]; omega)) ?_
          rintro e5 w5 ⟨v5, ps5, n5, rfl, hrd5, O5, hb5⟩
          obtain ⟨hps5, hn5⟩ := hrd5.det (reads_cut HX.out hwl HWK.out HE.out)
          have Q5 := O5.recs
          rw [hps5] at Q5
          obtain ⟨N, hN⟩ : ∃ N, N = (catB (xs.take wh)).length := ⟨_, rfl⟩
          rw [← hN] at hn5
          subst hn5
          have S5 := Lib.hid (bstep S4.out hb5)
          have Q15 := Lib.hid ((Q4.out.below hb5).take hwl)
          have hcw := keep hb5 (EN4.out wh hwl)
          rw [← hN] at hcw
          have hsl := run_slice22 (A := Av) (n := xs.length) (c := cv) wh wh rfl hwl hv2 hcv
          have HN := Lib.hid hN
          have H5 := Lib.hid ((HB.out.below S5.out))
          clear hrd5 O5 hb5 hps5 hN
          go_wp2_with fail
          with_reducible refine Calls.mono (all_true _ Q5 Q15.out (fun r hr => (HX.out r (List.mem_of_mem_take hr)).1.text) rfl) ?_
          rintro e6 w6 ⟨rfl, hb6⟩
          have hcw := keep hb6 hcw
          have S6 := Lib.hid (bstep S5.out hb6)
          have H6 := Lib.hid (H5.out.below hb6)
          clear hb6 Q5
          go_wp2_with fail
          with_reducible refine Calls.mono (readR _ H6.out hu (by omega)) ?_
          rintro e7 w7 ⟨v7, ps7, n7, rfl, hrd7, O7, hb7⟩
          have Q7 := O7.recs
          obtain ⟨ys, hys⟩ : ∃ ys, ys = ps7.map (·.1) := ⟨_, rfl⟩
          rw [← hys] at Q7 hrd7
          obtain ⟨hn7, hcat, hoky⟩ := reads_sound hu hrd7
          have HCAT := Lib.hid hcat
          have HOKY := Lib.hid hoky
          have S7 := Lib.hid (bstep S6.out hb7)
          have H7 := Lib.hid (H6.out.below hb7)
          have hcl : (catB ys).length = n7 := by rw [hcat, List.length_take]; omega
          have HCL := Lib.hid hcl
          have Q7' := Lib.hid Q7
          obtain ⟨Ay, cy, rfl, hy2, hy3, _⟩ := Q7
          unfold maxLen at hy3
          clear hrd7 O7 hb7 hys hcat hoky hcl hcw
          go_wp2_with fail
          go_loopw [16, 96] (fun vc i wz => ∃ (j : Nat), j ≤ ys.length ∧ i = .int .i64 j ∧ wz.ownsRow w7.heap.size 5 1 vc (catB (ys.take j)).length (u8s (catB (ys.take j))) ∧ Below w7.heap.size w7 wz ∧ Below w.heap.size w wz) (fun _ i _ => ys.length - (intOf i).toNat)
          case atStart => exact ⟨0, by omega, rfl, by simpa [catB, u8s] using World.ownsRow_nil w7 w7.heap.size 5 1, Below.refl _ _, S7.out⟩
          case round =>
            obtain ⟨j, hjl, rfl, ho, hbz, hbw⟩ := hrel
            have OZ := Lib.hid ho
            have BZ := Lib.hid hbz
            have BW := Lib.hid hbw
            have hszz := hbw.size
            obtain ⟨bl, hbl⟩ : ∃ bl, bl = catB (ys.take j) := ⟨_, rfl⟩
            rw [← hbl] at ho
            have hbll : bl.length ≤ 1000 := by
              have h1 : (catB ys).length = (catB (ys.take j)).length + (catB (ys.drop j)).length := by rw [← List.length_append, ← catB_append, List.take_append_drop]
              have h2 := HCL.out
              rw [← hbl] at h1
              omega
            by_cases hjt : j < ys.length
            · obtain ⟨A8, c8, e8, _, _, g8⟩ := Q7'.out.below hbz
              simp only [Value.slice.injEq] at e8
              obtain ⟨rfl, _, rfl⟩ := e8
              obtain ⟨b8, o8, u8, rfl, r8⟩ := g8 j _ (List.getElem?_eq_getElem hjt)
              obtain ⟨okx, rix⟩ := HOKY.out _ (List.getElem_mem hjt)
              have hsn : catB (ys.take (j + 1)) = bl ++ ys[j].bytes := by rw [List.take_succ_eq_append_getElem hjt, catB_snoc, hbl]
              generalize ys[j] = x at r8 okx rix hsn
              have HSN := Lib.hid hsn
              clear g8 hbz hbw hsn
              obtain ⟨p0, p1, p2, p3, p4, t8⟩ := r8
              have T8 := Lib.hid t8
              obtain ⟨X8, d8, rfl, q1, q2, _⟩ := t8
              unfold maxLen at q2
              have hxl := Rc.right_len rix
              go_wp2_with fail
              have hbx : Below wr.heap.size wr (wr.alloc (.cells #[.int .u8 x.wh, .int .u32 x.tx, .int .u8 x.who, .bool x.yes, .slice X8 x.text.length d8] 34)) := balloc (Below.refl _ _) _
              with_reducible refine Calls.mono (bytesT (x := x) _ rfl okx rix (T8.out.below hbx)) ?_
              rintro e9 w9 ⟨v9, rfl, o9, hb9⟩
              have hb9 := bstep hbx hb9
              have hbyl := Rc.bytes_len x
              have BY := Lib.hid (BAt.of_own o9)
              obtain ⟨A9, c9, rfl⟩ := len_of_own o9
              have o10 := Lib.hid (own_belowS ho hb9)
              have BZ9 := Lib.hid (bstep BZ.out hb9)
              have BW9 := Lib.hid (bstep BW.out hb9)
              have hsz9 := BZ9.out.size
              have HBY := Lib.hid hbyl
              clear hb9 hbx o9 p0 p1 p2 p3 p4 ho hbyl
              go_wp2_with (at_builtin; refine wpList_append_from _ rfl _ _ rfl w7.heap.size _ (.slice A9 x.bytes.length c9) bl.length (u8s bl) x.bytes rfl rfl o10.out BY.out (by have := HBY.out; omega) (by (try simp); omega) ?_)
              intro v11 w11 o11 g11 f11
              have BZ11 := Lib.hid (show Below w7.heap.size w7 w11 from BZ9.out.grown g11 BZ9.out.size (fun k hk => (o10.out.lt k hk).1))
              have BW11 := Lib.hid (below_grown BW9.out g11 (fun k hk => by have := (o10.out.lt k hk).1; have := S7.out.size; omega))
              clear g11 f11
              go_wp2_with fail
              go_roundw
              case rel => exact ⟨j + 1, by omega, by go_num, by rw [HSN.out, List.length_append, u8s_append, hbl]; exact o11, BZ11.out, BW11.out⟩
              case measure => (try simp [intOf]) <;> omega
            · obtain rfl : j = ys.length := by omega
              rw [List.take_length] at hbl
              have BC := Lib.hid (show BAt wr u16 (bs.take n7) from by rw [← HCAT.out, ← hbl]; exact BAt.of_own ho)
              have HZ := Lib.hid (take_bat2 (H7.out.below hbz) hn7)
              have hm0 : decide ((n7 : Int) < 0) = false := by simp <;> omega
              have hm1 : decide ((bs.length : Int) < (n7 : Int)) = false := by simp <;> omega
              clear hbz hbw hbl ho
              go_wp2_with fail
              with_reducible refine Calls.mono (same_true _ HZ.out BC.out) ?_
              rintro e12 w12 ⟨rfl, hb12⟩
              go_wp2_with fail
              with_reducible refine Calls.mono (awake10 _) ?_
              rintro e13 w13 ⟨rfl, hb13⟩
              go_wp2_with fail
              go_ret
              exact ⟨rfl, bstep (bstep BW.out hb12) hb13⟩
      · have HE := Lib.hid (show wh = xs.length ∨ k < (catB (xs.take (wh + 1))).length from .inl (by omega))
        have hd0 : decide ((wh : Int) < (xs.length : Int)) = false := by simp; omega
        go_wp2_with fail
        with_reducible refine Calls.mono (readR _ (take_bat2 B4.out hkl) (u8s_take' (catB_u8 HX.out) k) (by rw [List.length_take]; omega)) ?_
        rintro e5 w5 ⟨v5, ps5, n5, rfl, hrd5, O5, hb5⟩
        obtain ⟨hps5, hn5⟩ := hrd5.det (reads_cut HX.out hwl HWK.out HE.out)
        have Q5 := O5.recs
        rw [hps5] at Q5
        obtain ⟨N, hN⟩ : ∃ N, N = (catB (xs.take wh)).length := ⟨_, rfl⟩
        rw [← hN] at hn5
        subst hn5
        have S5 := Lib.hid (bstep S4.out hb5)
        have Q15 := Lib.hid ((Q4.out.below hb5).take hwl)
        have hcw := keep hb5 (EN4.out wh hwl)
        rw [← hN] at hcw
        have hsl := run_slice22 (A := Av) (n := xs.length) (c := cv) wh wh rfl hwl hv2 hcv
        have HN := Lib.hid hN
        have H5 := Lib.hid ((HB.out.below S5.out))
        clear hrd5 O5 hb5 hps5 hN
        go_wp2_with fail
        with_reducible refine Calls.mono (all_true _ Q5 Q15.out (fun r hr => (HX.out r (List.mem_of_mem_take hr)).1.text) rfl) ?_
        rintro e6 w6 ⟨rfl, hb6⟩
        have hcw := keep hb6 hcw
        have S6 := Lib.hid (bstep S5.out hb6)
        have H6 := Lib.hid (H5.out.below hb6)
        clear hb6 Q5
        go_wp2_with fail
        with_reducible refine Calls.mono (readR _ H6.out hu (by omega)) ?_
        rintro e7 w7 ⟨v7, ps7, n7, rfl, hrd7, O7, hb7⟩
        have Q7 := O7.recs
        obtain ⟨ys, hys⟩ : ∃ ys, ys = ps7.map (·.1) := ⟨_, rfl⟩
        rw [← hys] at Q7 hrd7
        obtain ⟨hn7, hcat, hoky⟩ := reads_sound hu hrd7
        have HCAT := Lib.hid hcat
        have HOKY := Lib.hid hoky
        have S7 := Lib.hid (bstep S6.out hb7)
        have H7 := Lib.hid (H6.out.below hb7)
        have hcl : (catB ys).length = n7 := by rw [hcat, List.length_take]; omega
        have HCL := Lib.hid hcl
        have Q7' := Lib.hid Q7
        obtain ⟨Ay, cy, rfl, hy2, hy3, _⟩ := Q7
        unfold maxLen at hy3
        clear hrd7 O7 hb7 hys hcat hoky hcl hcw
        go_wp2_with fail
        go_loopw [16, 96] (fun vc i wz => ∃ (j : Nat), j ≤ ys.length ∧ i = .int .i64 j ∧ wz.ownsRow w7.heap.size 5 1 vc (catB (ys.take j)).length (u8s (catB (ys.take j))) ∧ Below w7.heap.size w7 wz ∧ Below w.heap.size w wz) (fun _ i _ => ys.length - (intOf i).toNat)
        case atStart => exact ⟨0, by omega, rfl, by simpa [catB, u8s] using World.ownsRow_nil w7 w7.heap.size 5 1, Below.refl _ _, S7.out⟩
        case round =>
          obtain ⟨j, hjl, rfl, ho, hbz, hbw⟩ := hrel
          have OZ := Lib.hid ho
          have BZ := Lib.hid hbz
          have BW := Lib.hid hbw
          have hszz := hbw.size
          obtain ⟨bl, hbl⟩ : ∃ bl, bl = catB (ys.take j) := ⟨_, rfl⟩
          rw [← hbl] at ho
          have hbll : bl.length ≤ 1000 := by
            have h1 : (catB ys).length = (catB (ys.take j)).length + (catB (ys.drop j)).length := by rw [← List.length_append, ← catB_append, List.take_append_drop]
            have h2 := HCL.out
            rw [← hbl] at h1
            omega
          by_cases hjt : j < ys.length
          · obtain ⟨A8, c8, e8, _, _, g8⟩ := Q7'.out.below hbz
            simp only [Value.slice.injEq] at e8
            obtain ⟨rfl, _, rfl⟩ := e8
            obtain ⟨b8, o8, u8, rfl, r8⟩ := g8 j _ (List.getElem?_eq_getElem hjt)
            obtain ⟨okx, rix⟩ := HOKY.out _ (List.getElem_mem hjt)
            have hsn : catB (ys.take (j + 1)) = bl ++ ys[j].bytes := by rw [List.take_succ_eq_append_getElem hjt, catB_snoc, hbl]
            generalize ys[j] = x at r8 okx rix hsn
            have HSN := Lib.hid hsn
            clear g8 hbz hbw hsn
            obtain ⟨p0, p1, p2, p3, p4, t8⟩ := r8
            have T8 := Lib.hid t8
            obtain ⟨X8, d8, rfl, q1, q2, _⟩ := t8
            unfold maxLen at q2
            have hxl := Rc.right_len rix
            go_wp2_with fail
            have hbx : Below wr.heap.size wr (wr.alloc (.cells #[.int .u8 x.wh, .int .u32 x.tx, .int .u8 x.who, .bool x.yes, .slice X8 x.text.length d8] 34)) := balloc (Below.refl _ _) _
            with_reducible refine Calls.mono (bytesT (x := x) _ rfl okx rix (T8.out.below hbx)) ?_
            rintro e9 w9 ⟨v9, rfl, o9, hb9⟩
            have hb9 := bstep hbx hb9
            have hbyl := Rc.bytes_len x
            have BY := Lib.hid (BAt.of_own o9)
            obtain ⟨A9, c9, rfl⟩ := len_of_own o9
            have o10 := Lib.hid (own_belowS ho hb9)
            have BZ9 := Lib.hid (bstep BZ.out hb9)
            have BW9 := Lib.hid (bstep BW.out hb9)
            have hsz9 := BZ9.out.size
            have HBY := Lib.hid hbyl
            clear hb9 hbx o9 p0 p1 p2 p3 p4 ho hbyl
            go_wp2_with (at_builtin; refine wpList_append_from _ rfl _ _ rfl w7.heap.size _ (.slice A9 x.bytes.length c9) bl.length (u8s bl) x.bytes rfl rfl o10.out BY.out (by have := HBY.out; omega) (by (try simp); omega) ?_)
            intro v11 w11 o11 g11 f11
            have BZ11 := Lib.hid (show Below w7.heap.size w7 w11 from BZ9.out.grown g11 BZ9.out.size (fun k hk => (o10.out.lt k hk).1))
            have BW11 := Lib.hid (below_grown BW9.out g11 (fun k hk => by have := (o10.out.lt k hk).1; have := S7.out.size; omega))
            clear g11 f11
            go_wp2_with fail
            go_roundw
            case rel => exact ⟨j + 1, by omega, by go_num, by rw [HSN.out, List.length_append, u8s_append, hbl]; exact o11, BZ11.out, BW11.out⟩
            case measure => (try simp [intOf]) <;> omega
          · obtain rfl : j = ys.length := by omega
            rw [List.take_length] at hbl
            have BC := Lib.hid (show BAt wr u16 (bs.take n7) from by rw [← HCAT.out, ← hbl]; exact BAt.of_own ho)
            have HZ := Lib.hid (take_bat2 (H7.out.below hbz) hn7)
            have hm0 : decide ((n7 : Int) < 0) = false := by simp <;> omega
            have hm1 : decide ((bs.length : Int) < (n7 : Int)) = false := by simp <;> omega
            clear hbz hbw hbl ho
            go_wp2_with fail
            with_reducible refine Calls.mono (same_true _ HZ.out BC.out) ?_
            rintro e12 w12 ⟨rfl, hb12⟩
            go_wp2_with fail
            with_reducible refine Calls.mono (awake10 _) ?_
            rintro e13 w13 ⟨rfl, hb13⟩
            go_wp2_with fail
            go_ret
            exact ⟨rfl, bstep (bstep BW.out hb12) hb13⟩
end Go.Proofs.Ythgaphfelpnclaa
