/- The law NvlogBursts, walked. -/
import Derived.Test.YthgaphfelpnclaaDap
import Derived.Test.YthgaphfelpnclaaNcrc
import Derived.Test.YthgaphfelpnclaaNback
set_option linter.unusedVariables false
set_option linter.unusedSimpArgs false
namespace Go.Proofs.Ythgaphfelpnclaa
open Go.RowKit
theorem xor_u8 (a b : Nat) (ha : a < 256) (hb : b < 256) : bits .xor .u8 (a : Int) (b : Int) = ((a ^^^ b : Nat) : Int) := by
  have hx : a ^^^ b < 2 ^ 8 := Nat.xor_lt_two_pow (by omega) (by omega)
  have h1 : ∀ {a : Nat}, a < 256 → (BitVec.ofInt 8 (a : Int)).toNat = a := by
    intro a ha
    rw [BitVec.ofInt_natCast, BitVec.toNat_ofNat]; exact Nat.mod_eq_of_lt (by omega)
  show IntKind.u8.wrap ((BitVec.ofInt 8 (a : Int) ^^^ BitVec.ofInt 8 (b : Int)).toNat : Int) = _
  rw [BitVec.toNat_xor, h1 ha, h1 hb]
  have h2 : IntKind.u8.wrap ((a ^^^ b : Nat) : Int) = ((a ^^^ b : Nat) : Int) % 256 := by simp [IntKind.wrap, IntKind.bits, IntKind.signed]
  rw [h2]
  omega
theorem xor_turned {y c : Int} (hy : 0 ≤ y ∧ y ≤ 255) (hc : 0 ≤ c ∧ c ≤ 255) (hne : c ≠ 0) : (0 ≤ bits .xor .u8 y c ∧ bits .xor .u8 y c ≤ 255) ∧ bits .xor .u8 y c ≠ y := by
  refine ⟨bits_within .xor .u8 _ _, ?_⟩
  obtain ⟨a, rfl⟩ := Int.eq_ofNat_of_zero_le hy.1
  obtain ⟨b, rfl⟩ := Int.eq_ofNat_of_zero_le hc.1
  rw [xor_u8 a b (by omega) (by omega)]
  intro e
  have h1 : a ^^^ b = a := by omega
  have h2 := congrArg (fun z => a ^^^ z) h1
  simp only [← Nat.xor_assoc, Nat.xor_self, Nat.zero_xor] at h2
  omega
/-- What is so of the bytes that the check is of, once places from k on, j of them, were looked at. -/
structure Turned (body cl : List Int) (k j : Nat) (ch : Bool) : Prop where
  len : cl.length = body.length
  u8 : U8s cl
  out : ∀ p, (p < k ∨ k + j ≤ p ∨ p = 7 ∨ p = 8) → cl[p]? = body[p]?
  ch : ch = true ↔ cl ≠ body
theorem Turned.skip {body cl : List Int} {k j : Nat} {ch : Bool} (h : Turned body cl k j ch) : Turned body cl k (j + 1) ch :=
  ⟨h.len, h.u8, fun p hp => h.out p (by omega), h.ch⟩
theorem Turned.turn {body cl : List Int} {k j : Nat} {ch : Bool} (h : Turned body cl k j ch) {z : Int} (hp : k + j < cl.length) (h7 : k + j ≠ 7) (h8 : k + j ≠ 8) (hz : 0 ≤ z ∧ z ≤ 255) (hne : z ≠ cl.getD (k + j) 0) : Turned body (cl.set (k + j) z) k (j + 1) true := by
  refine ⟨by rw [List.length_set]; exact h.len, fun n hn => ?_, fun p hq => ?_, ?_⟩
  · rcases List.mem_or_eq_of_mem_set hn with hn | rfl
    · exact h.u8 n hn
    · exact hz
  · rw [List.getElem?_set_ne (by omega)]
    exact h.out p (by omega)
  · simp only [true_iff]
    intro e
    have h1 := h.out (k + j) (.inr (.inl (by omega)))
    have h2 : (cl.set (k + j) z)[k + j]? = some z := by rw [List.getElem?_set_self hp]
    rw [e, ← h1] at h2
    exact hne (by simp [List.getD, h2])
theorem mid_get {A B C : List Int} {F i : Nat} (hF : F = A.length) (hi : i < B.length) : (A ++ B ++ C).getD (F + i) 0 = B.getD i 0 := by
  subst hF
  rw [List.append_assoc]
  simp [List.getD, List.getElem?_append_right, List.getElem?_append_left hi]
theorem mid_set {A B C : List Int} {F i : Nat} (hF : F = A.length) (z : Int) (hi : i < B.length) : (A ++ B ++ C).set (F + i) z = A ++ B.set i z ++ C := by
  subst hF
  rw [List.append_assoc, List.set_append_right _ _ (by omega), List.set_append_left _ _ (by omega), List.append_assoc, Nat.add_sub_cancel_left]
theorem reads_front {front : List Rc} (h : ∀ x ∈ front, x.ok ∧ x.right = true) {t : List Int} (ht : first t = none) : Reads (catB front ++ t) front (catB front).length := reads_cat front t h ht
set_option maxRecDepth 100000 in
set_option maxHeartbeats 4000000 in
theorem bursts_walk {v : Value} {rs : List Rc} (a turns : Int) (w : World) (h : RecsAt w v rs) (hok : ∀ r ∈ rs, r.ok) (ha : 0 ≤ a ∧ a ≤ 65535) (ht : 0 ≤ turns ∧ turns ≤ 4294967295) :
    Calls Try.prog 4 #[v, .int .u16 a, .int .u32 turns] w fun e' w' => e' = .returned (.bool true) ∧ Below w.heap.size w w' := by
  have H := Lib.hid h
  obtain ⟨A, c, rfl, h2, h3, _⟩ := h
  unfold maxLen at h3
  go_enter Try.func4, Try.ntmps4
  go_wp2_with fail
  with_reducible refine Calls.mono (rowR _ H.out hok) ?_
  rintro e1 w1 ⟨v1, vb1, ve1, ps, rfl, R1, hxs⟩
  have HX := Lib.hid (good_all hxs hok)
  have HL := Lib.hid (good_len hxs)
  obtain ⟨xs, hxe⟩ : ∃ xs, xs = ps.map (·.1) := ⟨_, rfl⟩
  rw [← hxe] at R1 hxs HX HL
  have S1 := Lib.hid R1.bel
  have Q1 := R1.out.recs
  rw [← hxe] at Q1
  have Q1 := Lib.hid Q1
  obtain ⟨Av, cv, rfl, hv2, hv3, _⟩ := Q1.out
  have hcv := hv3
  unfold maxLen at hv3
  have O1 := R1.bs
  obtain ⟨A1, c1, rfl⟩ := len_of_own O1
  have hc1 := own_cap O1
  have hcm1 := hc1.2
  unfold maxLen at hcm1
  have B1 := Lib.hid (BAt.of_own O1)
  have hel := endsOf_len xs
  obtain ⟨g, ce, rfl, he2, he3, he4⟩ := own_ints R1.ends (by omega)
  rw [hel] at he2 ⊢
  unfold maxLen at he3
  have EN := Lib.hid (fun i (hi : i ≤ xs.length) => he4 i _ (endsOf_at xs hi))
  have hl12 := HL.out.1
  have hlc := HL.out.2
  clear R1 hxs hxe O1 hel he4
  by_cases h0 : xs.length = 0 ∨ turns = 0
  · by_cases hx0 : xs.length = 0
    · have e0 : ((xs.length : Int) == 0) = true := by rw [hx0]; rfl
      go_wp2_with fail
      with_reducible refine Calls.mono (awake10 _) ?_
      rintro e2 w2 ⟨rfl, hb2⟩
      go_wp2_with fail
      go_ret
      exact ⟨rfl, bstep S1.out hb2⟩
    · obtain rfl : turns = 0 := by omega
      have e0 : ((xs.length : Int) == 0) = false := beq_eq_false_iff_ne.2 (by omega)
      go_wp2_with fail
      with_reducible refine Calls.mono (awake10 _) ?_
      rintro e2 w2 ⟨rfl, hb2⟩
      go_wp2_with fail
      go_ret
      exact ⟨rfl, bstep S1.out hb2⟩
  · have e0 : ((xs.length : Int) == 0) = false := beq_eq_false_iff_ne.2 (by omega)
    have e1 : (turns == 0) = false := beq_eq_false_iff_ne.2 (by omega)
    obtain ⟨front, x, rfl⟩ : ∃ front x, xs = front ++ [x] := by
      rcases List.eq_nil_or_concat xs with h9 | ⟨l, y, h9⟩
      · exact absurd (by rw [h9]; rfl) (fun e => h0 (.inl e))
      · exact ⟨l, y, by rw [h9]; simp⟩
    obtain ⟨hxok, hxr⟩ := HX.out x (by simp)
    have HF := Lib.hid (fun y (hy : y ∈ front) => HX.out y (by simp [hy]))
    obtain ⟨N, hN⟩ : ∃ N, N = (catB (front ++ [x])).length := ⟨_, rfl⟩
    obtain ⟨F, hF⟩ : ∃ F, F = (catB front).length := ⟨_, rfl⟩
    have hNF : N = F + (x.text.length + 13) := by rw [hN, hF, catB_snoc, List.length_append, Rc.bytes_len]
    have hxl := Rc.right_len hxr
    have hen := EN.out front.length (by simp)
    rw [List.take_left, ← hF] at hen
    rw [← hN] at hlc hc1
    rw [List.length_append, List.length_singleton] at he2 hv2 hl12 ⊢
    have e0 : ((front.length : Int) + 1 == 0) = false := beq_eq_false_iff_ne.2 (by omega)
    rw [← hN]
    have HN := Lib.hid hN
    have HFF := Lib.hid hF
    have HNF := Lib.hid hNF
    have hNF1 : F + 13 ≤ N := by omega
    have B2 := Lib.hid (show BAt (w1.alloc (.cells #[] 5)) (.slice A1 N c1) (catB (front ++ [x])) from by rw [hN]; exact B1.out.below (balloc (Below.refl _ _) _))
    have HM := Lib.hid (own_made5 w1 w1.heap.size w1.heap.size rfl (Nat.le_refl _))
    obtain ⟨k, hk⟩ := Int.eq_ofNat_of_zero_le (Int.emod_nonneg a (show (N : Int) - (F : Int) - 4 ≠ 0 by omega))
    have hkl : k < x.text.length + 9 := by have := Int.emod_lt_of_pos a (show (0 : Int) < (N : Int) - (F : Int) - 4 by omega); omega
    have HK := Lib.hid hk
    obtain ⟨n, hn⟩ : ∃ n : Nat, (N : Int) - (F : Int) - 4 = n := ⟨x.text.length + 9, by omega⟩
    have hn9 : n = x.text.length + 9 := by omega
    have HNn := Lib.hid hn
    have HN9 := Lib.hid hn9
    have hkn : k < n := by omega
    have hFn : F + n + 4 = N := by omega
    have HFN := Lib.hid hFn
    have hFn : F + n < N := by omega
    clear hN hF h0 hNF hk hn hn9
    go_wp2_with (at_builtin; refine wpList_append_from _ rfl _ _ rfl w1.heap.size (.slice (some ⟨w1.heap.size, 0, none⟩) 0 0) (.slice A1 N c1) 0 [] (catB (front ++ [x])) rfl rfl HM.out B2.out (by rw [← HN.out]; omega) (by simp) ?_)
    intro v2 w2 o2 g2 f2
    try rw [Nat.zero_add, List.nil_append] at o2
    rw [← HN.out] at o2
    obtain ⟨gb, cb, rfl⟩ := own_form o2 (by omega)
    have S2 := Lib.hid (show Below w1.heap.size w1 w2 from (balloc (Below.refl _ _) _).grown g2 (by simp) (fun k hk => by simp [Value.ownBlock] at hk; omega))
    have hcb := own_cap o2
    have hcbm := hcb.2
    unfold maxLen at hcbm
    have hcat : catB (front ++ [x]) = catB front ++ x.body ++ be4 (crc x.body) := by rw [catB_snoc, Rc.bytes, List.append_assoc]
    rw [hcat] at o2
    have O2 := Lib.hid o2
    have hgb := (o2.lt gb rfl).1
    clear g2 f2 o2 hcat
    rw [HK.out, HNn.out]
    go_wp2_with fail
    go_loopw [14, 52] (fun ch i wr => ∃ (j : Nat) (cl : List Int) (b : Bool), j ≤ 4 ∧ i = .int .i64 j ∧ ch = .bool b ∧ Turned x.body cl k j b ∧ wr.ownsRow w1.heap.size 5 1 (.slice (some ⟨gb, 0, none⟩) N cb) N (u8s (catB front ++ cl ++ be4 (crc x.body))) ∧ Below w1.heap.size w1 wr) (fun _ i _ => 4 - (intOf i).toNat)
    case atStart => exact ⟨0, x.body, false, by omega, rfl, rfl, ⟨rfl, hxok.body hxr, fun _ _ => rfl, by simp⟩, O2.out, S2.out⟩
    case round =>
      obtain ⟨j, cl, b, hj, rfl, rfl, hT, hO, hB⟩ := hrel
      have HT := Lib.hid hT
      have HO := Lib.hid hO
      have HB := Lib.hid hB
      have hcll : cl.length = n := by rw [hT.len, Rc.body_len, HN9.out]
      clear hT hO hB
      by_cases hlt : j < 4
      · by_cases h7 : k + j = 7
        · have d7 : ((k : Int) + (j : Int) == 7) = true := beq_iff_eq.2 (by omega)
          go_wp2_with fail
          exact ⟨⟨j + 1, cl, b, by omega, by go_num, rfl, HT.out.skip, HO.out, HB.out⟩, by simp [intOf]; omega⟩
        · have d7 : ((k : Int) + (j : Int) == 7) = false := beq_eq_false_iff_ne.2 (by omega)
          by_cases h8 : k + j = 8
          · have d8 : ((k : Int) + (j : Int) == 8) = true := beq_iff_eq.2 (by omega)
            go_wp2_with fail
            exact ⟨⟨j + 1, cl, b, by omega, by go_num, rfl, HT.out.skip, HO.out, HB.out⟩, by simp [intOf]; omega⟩
          · have d8 : ((k : Int) + (j : Int) == 8) = false := beq_eq_false_iff_ne.2 (by omega)
            by_cases hpn : n ≤ k + j
            · have dn : decide ((n : Int) ≤ (k : Int) + (j : Int)) = true := by simp; omega
              go_wp2_with fail
              exact ⟨⟨j + 1, cl, b, by omega, by go_num, rfl, HT.out.skip, HO.out, HB.out⟩, by simp [intOf]; omega⟩
            · have dn : decide ((n : Int) ≤ (k : Int) + (j : Int)) = false := by simp; omega
              have hcb2 : 0 ≤ turns / 2 ^ (8 * j) % 256 ∧ turns / 2 ^ (8 * j) % 256 ≤ 255 := by omega
              by_cases hc0 : turns / 2 ^ (8 * j) % 256 = 0
              · have dc : (turns / 2 ^ (8 * j) % 256 != 0) = false := by rw [hc0]; rfl
                clear hc0
                go_wp2_with fail
                exact ⟨⟨j + 1, cl, b, by omega, by go_num, rfl, HT.out.skip, HO.out, HB.out⟩, by simp [intOf]; omega⟩
              · have dc : (turns / 2 ^ (8 * j) % 256 != 0) = true := by simpa using hc0
                have hge := own_get HO.out (show F + (k + j) < N by omega) (by have := HO.out.1; simpa [u8s] using this)
                rw [mid_get (HFF.out) (show k + j < cl.length by omega)] at hge
                have hfz := HO.out.frozenAt (F + (k + j))
                have hyr := u8s_getD HT.out.u8 (k + j)
                have hzz := xor_turned hyr hcb2 hc0
                have HT2 := Lib.hid (HT.out.turn (show k + j < cl.length by omega) h7 h8 hzz.1 hzz.2)
                have HO2 := Lib.hid (own_put HO.out (F + (k + j)) (bits .xor .u8 (cl.getD (k + j) 0) (turns / 2 ^ (8 * j) % 256)))
                have HS2 := Lib.hid (mid_set (A := catB front) (B := cl) (C := be4 (crc x.body)) HFF.out (bits .xor .u8 (cl.getD (k + j) 0) (turns / 2 ^ (8 * j) % 256)) (show k + j < cl.length by omega))
                generalize cl.getD (k + j) 0 = y at *
                clear hc0 hyr
                go_wp2_with fail
                exact ⟨⟨j + 1, cl.set (k + j) (bits .xor .u8 y (turns / 2 ^ (8 * j) % 256)), true, by omega, by go_num, rfl, HT2.out, by rw [← HS2.out]; exact HO2.out, bset HB.out (by simpa using hgb) _⟩, by simp [intOf]; omega⟩
      · obtain rfl : j = 4 := by omega
        have hO9 := HO.out
        have hcu : U8s (catB front ++ cl ++ be4 (crc x.body)) := U8s.append (U8s.append (catB_u8 HF.out) HT.out.u8) u8s_be4
        obtain ⟨cur, hcur⟩ : ∃ cur, cur = catB front ++ cl ++ be4 (crc x.body) := ⟨_, rfl⟩
        rw [← hcur] at hO9 hcu
        have hlc2 : cur.length = N := by have := hO9.1; simpa [u8s] using this
        have BC := Lib.hid (show BAt wr (.slice (some ⟨gb, 0, none⟩) N cb) cur from by rw [← hlc2] at hO9 ⊢; exact BAt.of_own hO9)
        have HCU := Lib.hid hcur
        have QX := Lib.hid (Q1.out.below HB.out)
        clear hO9 hcur
        go_wp2_with fail
        with_reducible refine Calls.mono (readR _ BC.out hcu (by omega)) ?_
        rintro e5 w5 ⟨v5, ps5, n5, rfl, hrd5, O5, hb5⟩
        have S5 := Lib.hid (bstep (bstep S1.out HB.out) hb5)
        have QX5 := Lib.hid (QX.out.below hb5)
        have Q5 := O5.recs
        cases b with
        | false =>
          have hcl : cl = x.body := by
            have h9 := HT.out.ch
            simp only [Bool.false_eq_true, false_iff, ne_eq, Decidable.not_not] at h9
            exact h9
          have hcu2 : cur = catB (front ++ [x]) := by rw [HCU.out, hcl, catB_snoc, Rc.bytes, List.append_assoc]
          obtain ⟨hps5, hn5⟩ := hrd5.det (show Reads cur (front ++ [x]) cur.length from by rw [hcu2]; simpa using reads_cat (front ++ [x]) [] HX.out first_nil)
          rw [hps5] at Q5
          have Q5 := Lib.hid Q5
          clear hrd5 O5 hb5 hps5 hn5 hcu2 hcl
          go_wp2_with fail
          with_reducible refine Calls.mono (all_true _ Q5.out (show RecsAt w5 (.slice Av (front.length + 1) cv) (front ++ [x]) from by have := QX5.out; rw [List.length_append, List.length_singleton] at this; exact this) (fun r hr => (HX.out r hr).1.text) rfl) ?_
          rintro e6 w6 ⟨rfl, hb6⟩
          go_wp2_with fail
          with_reducible refine Calls.mono (awake10 _) ?_
          rintro e7 w7 ⟨rfl, hb7⟩
          go_wp2_with fail
          go_ret
          exact ⟨rfl, bstep (bstep S5.out hb6) hb7⟩
        | true =>
          have hcl : cl ≠ x.body := HT.out.ch.1 rfl
          have hfb := first_burst hxok hxr HT.out.u8 HT.out.len (HT.out.out 7 (by omega)) (HT.out.out 8 (by omega)) k (fun p hp => HT.out.out p (by omega)) hcl
          obtain ⟨hps5, hn5⟩ := hrd5.det (show Reads cur front (catB front).length from by rw [HCU.out, List.append_assoc]; exact reads_front HF.out hfb)
          rw [← HFF.out] at hn5
          subst hn5
          rw [hps5] at Q5
          have Q5 := Lib.hid Q5
          have hsl := run_slice22 (A := Av) (n := front.length + 1) (c := cv) front.length front.length rfl (by omega) hv2 hcv
          have QF := Lib.hid (show RecsAt w5 (.slice Av front.length cv) front from by have := (QX5.out.take (m := front.length) (by simp)); rw [List.take_left] at this; exact this)
          clear hrd5 O5 hb5 hps5 hcl hfb
          go_wp2_with fail
          with_reducible refine Calls.mono (all_true _ Q5.out QF.out (fun r hr => (HF.out r hr).1.text) rfl) ?_
          rintro e6 w6 ⟨rfl, hb6⟩
          go_wp2_with fail
          with_reducible refine Calls.mono (awake10 _) ?_
          rintro e7 w7 ⟨rfl, hb7⟩
          go_wp2_with fail
          go_ret
          exact ⟨rfl, bstep (bstep S5.out hb6) hb7⟩
end Go.Proofs.Ythgaphfelpnclaa
