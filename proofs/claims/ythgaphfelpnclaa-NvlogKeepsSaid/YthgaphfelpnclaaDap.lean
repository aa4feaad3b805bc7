/- The law DiskApart, walked: for any bytes it returns true, and writes nothing that was there. -/
import Derived.Test.YthgaphfelpnclaaDg
set_option linter.unusedVariables false
set_option linter.unusedSimpArgs false
namespace Go.Proofs.Ythgaphfelpnclaa
open Go.RowKit

theorem DS.grown {w w' : World} {base B : Nat} {v : Value} {d : Dsk} {row : Option Nat} (h : DS w base B v d) (g : w.grownBy w' row) (hB : some B ≠ row) (hv : v.ownBlock = none ∨ v.ownBlock ≠ row) : DS w' base B v d :=
  ⟨g.cell h.c0 hB, g.cell h.c1 hB, g.cell h.c2 hB, g.cell h.c3 hB, g.cell h.c4 hB, g.cell h.c5 hB, fun j hj => (World.frozen?_of_block (w := w) (a := ⟨B, j, none⟩) (g.block B h.lt hB)).trans (h.fz j hj), h.own.kept g hv, h.sep, h.lo, h.hs, h.hl, h.hr⟩
theorem own_form {w : World} {base n : Nat} {v : Value} {xs : List Value} (h : w.ownsRow base 5 1 v n xs) (hn : 0 < n) : ∃ g cap, v = .slice (some ⟨g, 0, none⟩) n cap := by
  rcases h.2 with ⟨_, h0⟩ | ⟨g, cap, cur, hv, _⟩
  · omega
  · exact ⟨g, cap, hv⟩
theorem grown_refl (w : World) (row : Option Nat) : w.grownBy w row := ⟨rfl, rfl, rfl, Nat.le_refl _, fun _ _ _ => rfl⟩
theorem grown_trans {a b c : World} {row : Option Nat} (h : a.grownBy b row) (k : b.grownBy c row) : a.grownBy c row :=
  ⟨k.os.trans h.os, k.tape.trans h.tape, k.output.trans h.output, Nat.le_trans h.size k.size, fun i hi hn => (k.block i (Nat.lt_of_lt_of_le hi h.size) hn).trans (h.block i hi hn)⟩
theorem grown_set (w : World) (p : Addr) (u : Value) : w.grownBy (w.setCell p u) (some p.block) :=
  ⟨rfl, rfl, rfl, by simp, fun k _ hn => Below.heap_setCell _ _ _ _ (fun e => hn (by rw [e]))⟩
theorem own_put {w : World} {base g n cp : Nat} {ls : List Int} (h : w.ownsRow base 5 1 (.slice (some ⟨g, 0, none⟩) n cp) n (u8s ls)) (k : Nat) (y : Int) :
    (w.setCell ⟨g, k, none⟩ (.int .u8 y)).ownsRow base 5 1 (.slice (some ⟨g, 0, none⟩) n cp) n (u8s (ls.set k y)) := by
  have := h.stored k (.int .u8 y)
  rw [show u8s (ls.set k y) = (u8s ls).set k (.int .u8 y) from by simp [u8s, List.map_set]]
  exact this.1
theorem own_get {w : World} {base g n cp : Nat} {ls : List Int} (h : w.ownsRow base 5 1 (.slice (some ⟨g, 0, none⟩) n cp) n (u8s ls)) {k : Nat} (hk : k < n) (hl : ls.length = n) : w.cell? ⟨g, k, none⟩ = some (.int .u8 (ls.getD k 0)) := by
  rw [h.cellAt k (by omega)]
  simp [u8s, List.getD, hl, hk]

theorem feed_free : ∀ (ls : List Int) (d : Dsk), d.left < 0 → d.feed ls = ({ d with b := d.b ++ ls }, 0)
  | [], d, _ => by simp [Dsk.feed]
  | x :: r, d, h => by
    have e : d.dec = d := by simp [Dsk.dec, h]
    have ih := feed_free r { d with b := d.b ++ [x] } h
    rw [Dsk.feed, if_neg (by omega), e]
    refine Eq.trans ih ?_
    simp
theorem app_free (d : Dsk) (ls : List Int) (ho : d.off = false) (hl : d.left < 0) (hr : d.b.length + ls.length ≤ d.room) : d.app ls = ({ d with b := d.b ++ ls }, 0) := by
  unfold Dsk.app Dsk.appOn
  rw [if_neg (by simp [ho]), if_neg (by omega), feed_free ls d hl]
theorem below_grown {w0 w w' : World} {row : Option Nat} (h : Below w0.heap.size w0 w) (g : w.grownBy w' row) (hr : ∀ k, row = some k → w0.heap.size ≤ k) : Below w0.heap.size w0 w' := h.grown g h.size hr
set_option maxRecDepth 100000 in
set_option maxHeartbeats 2000000 in
theorem apart_walk (v : Value) (ls : List Int) (w : World) (h : BAt w v ls) :
    Calls Try.prog 5 #[v] w fun e' w' => e' = .returned (.bool true) ∧ Below w.heap.size w w' := by
  obtain ⟨i0, hi, hz0', hz1', hz2'⟩ := info_parts info5
  have H := Lib.hid h
  obtain ⟨A, c, rfl, hn, hm, hc⟩ := h
  unfold maxLen at hm
  clear hc
  have n1 := fun (x y : Int) (h : x < y) => decide_eq_true h
  go_enter Try.func5, Try.ntmps5
  go_wp2_with fail
  with_reducible refine Calls.mono (newE (r := 1000) 1000 _ (by decide) (by decide)) ?_
  rintro e1 w1 ⟨rfl, hb1, hd1⟩
  have S1 := Lib.hid hb1
  have D1 := Lib.hid hd1
  clear hb1 hd1
  by_cases hlen : 300 < ls.length
  · have hl1 : (300 : Int) < (ls.length : Int) := by omega
    have hd : decide ((300 : Int) < (ls.length : Int)) = true := by simpa using hl1
    go_wp2_with fail
    with_reducible refine Calls.mono (awake09 _) ?_
    rintro e2 w2 ⟨rfl, hb2⟩
    go_wp2_with fail
    go_ret
    exact ⟨rfl, bstep S1.out hb2⟩
  · have hl1 : ¬ (300 : Int) < (ls.length : Int) := by omega
    have hd : decide ((300 : Int) < (ls.length : Int)) = false := by simpa using hl1
    go_wp2_with (at_builtin; refine wpList_append_from _ rfl _ _ rfl w1.heap.size (.slice (some ⟨w1.heap.size, 0, none⟩) 0 0) _ 0 [] ls rfl rfl (own_made5 w1 _ _ rfl (Nat.le_refl _)) ((H.out.below (S1.out)).below (balloc (Below.refl _ _) _)) (by omega) (by simp) ?_)
    intro v2 w2 o2 g2 f2
    have hB1 := D1.out.lt
    have hvB : some w.heap.size ≠ v2.ownBlock := fun e => by have := (o2.lt _ e.symm).1; omega
    have D2 := Lib.hid ((D1.out.below (balloc (Below.refl _ _) (.cells #[] 5))).grown g2 (by simp [Value.ownBlock]; omega) (.inl rfl))
    have S2 := Lib.hid (below_grown (balloc S1.out (.cells #[] 5)) g2 (fun k hk => by simp [Value.ownBlock] at hk; have := S1.out.size; omega))
    have hap : ls ≠ [] → Apart w.heap.size (.slice none 0 0) v2 := fun _ k hk => ⟨by have := (o2.lt k hk).1; omega, by simp [Value.ownBlock]⟩
    have hv2 := fun (k : Nat) (hk : v2.ownBlock = some k) => o2.lt k hk
    go_wp2_with fail
    with_reducible refine Calls.mono (appE (d2 := ⟨ls, 0, -1, false, 1000⟩) (r := 0) _ D2.out (BAt.of_own o2) hap (by rw [app_free _ _ rfl (by decide) (by simp; omega)]; simp)) ?_
    rintro e3 w3 ⟨v3, rfl, hd3, hs3⟩
    have O3 := Lib.hid (own_step o2 hs3 hvB (by cases h9 : v2.ownBlock with | none => exact .inl rfl | some k => exact .inr (by simp [Value.ownBlock])))
    have S3 := Lib.hid (DS.toBelow D2.out (Nat.le_refl _) S2.out hs3)
    have h23 : v3.ownBlock = none ∨ v3.ownBlock ≠ v2.ownBlock := by
      cases h9 : v3.ownBlock with
      | none => exact .inl rfl
      | some k =>
        refine .inr fun e => ?_
        have := hs3.fresh k (by have := (hv2 k e.symm).2; omega) h9.symm
        simp [Value.ownBlock] at this
    have D3 := Lib.hid hd3
    clear hd3 hs3 D1 D2 S1 S2 o2 g2 f2 hap
    obtain ⟨A2, cp2, rfl⟩ := len_of_own O3.out
    go_wp2_with fail
    go_loopw [34] (fun i wl => ∃ (k : Nat) (l2 : List Int), k ≤ ls.length ∧ i = .int .i64 k ∧ l2.length = ls.length ∧ wl.ownsRow w1.heap.size 5 1 (.slice A2 ls.length cp2) ls.length (u8s l2) ∧ w3.grownBy wl (Value.slice A2 ls.length cp2).ownBlock) (fun i _ => ls.length - (intOf i).toNat)
    case atStart => exact ⟨0, ls, by omega, rfl, rfl, O3.out, grown_refl _ _⟩
    case round =>
      obtain ⟨k, l2, hk, rfl, hl2, hown, hgr⟩ := hrel
      have OW := Lib.hid hown
      have GR := Lib.hid hgr
      clear hown hgr
      by_cases hlt : k < ls.length
      · obtain ⟨g, cp, e⟩ := own_form OW.out (by omega)
        simp only [Value.slice.injEq] at e
        obtain ⟨rfl, _, rfl⟩ := e
        have x1 := own_get OW.out hlt hl2
        have y1 := OW.out.frozenAt k
        go_wp2_with fail
        go_roundw
        case rel =>
          exact ⟨k + 1, _, by omega, by go_num, by rw [List.length_set]; exact hl2, own_put OW.out k _, grown_trans GR.out (grown_set _ _ _)⟩
        case measure => (try simp [intOf]) <;> omega
      · have D4 := Lib.hid (D3.out.grown GR.out hvB h23)
        have S4 := Lib.hid (below_grown S3.out GR.out (fun k hk => by have := (hv2 k hk).1; have := S3.out.size; omega))
        go_wp2_with fail
        with_reducible refine Calls.mono (bytesE (ls := ls) _ D4.out rfl) ?_
        rintro e5 w5 ⟨v5, rfl, o5, hb5⟩
        have O5 := Lib.hid o5
        have D5 := Lib.hid (D4.out.below hb5)
        have S5 := Lib.hid (bstep S4.out hb5)
        have hv5 := fun (k : Nat) (hk : v5.ownBlock = some k) => o5.lt k hk
        have hB4 := D4.out.lt
        have hvB5 : some w.heap.size ≠ v5.ownBlock := fun e => by have := (hv5 _ e.symm).1; omega
        have h35 : v3.ownBlock = none ∨ v3.ownBlock ≠ v5.ownBlock := by
          cases h9 : v3.ownBlock with
          | none => exact .inl rfl
          | some q =>
            refine .inr fun e => ?_
            have h1 := (hv5 q e.symm).1
            have h2 := D4.out.vlt q h9
            omega
        have hsz4 : w.heap.size ≤ wr.heap.size := S4.out.size
        obtain ⟨wo, hwo⟩ : ∃ x, x = wr := ⟨_, rfl⟩
        rw [← hwo] at hv5 hsz4 O5
        clear o5 D4 D3 S4 S3 O3 hb5 hB4 GR OW
        obtain ⟨A5, cp5, rfl⟩ := len_of_own O5.out
        go_wp2_with fail
        go_loopw [48] (fun i wl => ∃ (k : Nat) (l2 : List Int), k ≤ ls.length ∧ i = .int .i64 k ∧ l2.length = ls.length ∧ wl.ownsRow wo.heap.size 5 1 (.slice A5 ls.length cp5) ls.length (u8s l2) ∧ w5.grownBy wl (Value.slice A5 ls.length cp5).ownBlock) (fun i _ => ls.length - (intOf i).toNat)
        case atStart => exact ⟨0, ls, by omega, rfl, rfl, O5.out, grown_refl _ _⟩
        case round =>
          obtain ⟨k, l2, hk, rfl, hl2, hown, hgr⟩ := hrel
          have OW := Lib.hid hown
          have GR := Lib.hid hgr
          clear hown hgr
          by_cases hlt : k < ls.length
          · obtain ⟨g, cp, e⟩ := own_form OW.out (by omega)
            simp only [Value.slice.injEq] at e
            obtain ⟨rfl, _, rfl⟩ := e
            have x1 := own_get OW.out hlt hl2
            have y1 := OW.out.frozenAt k
            go_wp2_with fail
            go_roundw
            case rel =>
              exact ⟨k + 1, _, by omega, by go_num, by rw [List.length_set]; exact hl2, own_put OW.out k _, grown_trans GR.out (grown_set _ _ _)⟩
            case measure => (try simp [intOf]) <;> omega
          · have D6 := Lib.hid (D5.out.grown GR.out hvB5 h35)
            have S6 := Lib.hid (below_grown S5.out GR.out (fun k hk => by have := (hv5 k hk).1; omega))
            go_wp2_with fail
            with_reducible refine Calls.mono (bytesE (ls := ls) _ D6.out rfl) ?_
            rintro e7 w7 ⟨v7, rfl, o7, hb7⟩
            have S7 := Lib.hid (bstep S6.out hb7)
            have V7 := Lib.hid (BAt.of_own o7)
            clear o7
            go_wp2_with fail
            with_reducible refine Calls.mono (same_true _ V7.out (H.out.below S7.out)) ?_
            rintro e8 w8 ⟨rfl, hb8⟩
            have S8 := Lib.hid (bstep S7.out hb8)
            go_wp2_with fail
            with_reducible refine Calls.mono (awake09 _) ?_
            rintro e9 w9 ⟨rfl, hb9⟩
            go_wp2_with fail
            go_ret
            exact ⟨rfl, bstep S8.out hb9⟩
end Go.Proofs.Ythgaphfelpnclaa
