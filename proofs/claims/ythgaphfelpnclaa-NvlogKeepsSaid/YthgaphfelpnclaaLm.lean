/- The log upon a disk: opening, and that what it hands back is not the disk's own memory. -/
import Derived.Test.YthgaphfelpnclaaLh
set_option linter.unusedVariables false
set_option linter.unusedSimpArgs false
namespace Go.Proofs.Ythgaphfelpnclaa
open Go.RowKit
/-- Rows of records that are not the disk's own memory. -/
def FarR (B : Nat) (v u : Value) (ps : List (Rc × Value)) : Prop := Apart B v u ∧ ∀ p ∈ ps, p.1.text ≠ [] → Apart B v p.2
theorem apart_low {B base : Nat} {v u : Value} (hB : B < base) (hv : ∀ k, v.ownBlock = some k → k < base) (hu : ∀ k, u.ownBlock = some k → base ≤ k) : Apart B v u := fun k hk => ⟨by have := hu k hk; omega, fun e => by have := hu k hk; have := hv k e.symm; omega⟩
theorem FarR.low {w : World} {B base : Nat} {v u : Value} {ps : List (Rc × Value)} (h : OwnR w base u ps) (hi : Hi base ps) (hB : B < base) (hv : ∀ k, v.ownBlock = some k → k < base) : FarR B v u ps :=
  ⟨apart_low hB hv (fun k hk => (h.own.lt k hk).1), fun p hp _ => apart_low hB hv (hi p hp)⟩
theorem own_stepF {w w' : World} {base e s n B : Nat} {u v v2 : Value} {xs : List Value} (h : w.ownsRow base e s u n xs) (st : Step B v v2 w w') (ha : Apart B v u) : w'.ownsRow base e s u n xs := by
  refine ⟨h.1, ?_⟩
  rcases h.2 with hn | ⟨g, cap, cur, rfl, hb, hg, r⟩
  · exact .inl hn
  · refine .inr ⟨g, cap, cur, rfl, hb, ?_, r⟩
    obtain ⟨a1, a2⟩ := ha g rfl
    rw [st.block g (Array.getElem?_eq_some_iff.1 hg).1 a1 a2]
    exact hg
theorem OwnR.stepF {w w' : World} {base B : Nat} {u v v2 : Value} {ps : List (Rc × Value)} (h : OwnR w base u ps) (hf : FarR B v u ps) (st : Step B v v2 w w') : OwnR w' base u ps ∧ FarR B v2 u ps :=
  ⟨⟨own_stepF h.own st hf.1, fun p hp => ⟨(h.txt p hp).1.step st (hf.2 p hp), (h.txt p hp).2⟩⟩, hf.1.step st (fun k hk => (h.own.lt k hk).2), fun p hp hne => (hf.2 p hp hne).step st ((h.txt p hp).1.lt hne)⟩
/-- What opening hands back. -/
def OpenPosF (w w' : World) (base B : Nat) (v : Value) (d2 : Dsk) (r : Int) (rs : List Rc) (e : Ending) : Prop :=
  ∃ v2, DS w' base B v2 d2 ∧ Step B v v2 w w' ∧ ((r ≠ 0 ∧ e = .returned (.tuple #[.pointer none, .slice none 0 0, .int .i64 r])) ∨ (r = 0 ∧ ∃ Lp vr ps, e = .returned (.tuple #[.pointer (some ⟨Lp, 0, none⟩), vr, .int .i64 0]) ∧ ps.map (·.1) = rs ∧ OwnR w' w.heap.size vr ps ∧ Hi w.heap.size ps ∧ w.heap.size ≤ Lp ∧ some Lp ≠ v2.ownBlock ∧ w'.cell? ⟨Lp, 0, none⟩ = some (.pointer (some ⟨B, 0, none⟩)) ∧ FarR B v2 vr ps ∧ some Lp ≠ vr.ownBlock))
set_option maxRecDepth 100000 in
set_option maxHeartbeats 2000000 in
theorem openF {base B : Nat} {v : Value} {d d2 : Dsk} {r : Int} {rs : List Rc} {n : Nat} (w : World) (h : DS w base B v d) (hu : U8s d.b) (hr : Reads d.b rs n) (e : d.open_ n = (d2, r)) :
    Calls Try.prog 39 #[.pointer (some ⟨B, 0, none⟩)] w fun e' w' => OpenPosF w w' base B v d2 r rs e' := by
  have H := Lib.hid h
  have hlen := h.hr
  have hBw := h.lt
  have hvw := Lib.hid h.vlt
  obtain ⟨hn, -, -⟩ := reads_sound hu hr
  have HR := Lib.hid hr
  clear hr h
  go_enter Try.func39, Try.ntmps39
  go_wp2_with fail
  with_reducible refine Calls.mono (bytesE (ls := d.b) _ H.out rfl) ?_
  rintro e1 w1 ⟨v1, rfl, o1, hb1⟩
  have B1 := Lib.hid (BAt.of_own o1)
  obtain ⟨A1, c1, rfl⟩ := len_of_own o1
  have D1 := Lib.hid (H.out.below hb1)
  have S1 := Lib.hid (Step.of_below (B := B) (v := v) hb1)
  have hw1 := hb1.size
  clear o1 hb1
  go_wp2_with fail
  with_reducible refine Calls.mono (readF _ B1.out hu (by omega)) ?_
  rintro e2 w2 ⟨v2, ps, n2, rfl, hrd, O2, HI2, hb2⟩
  obtain ⟨hps, hn2⟩ := hrd.det HR.out
  subst hn2
  have OR := Lib.hid O2
  have HI := Lib.hid HI2
  have HPS := Lib.hid hps
  have FR := Lib.hid (FarR.low (B := B) (v := v) O2 HI2 (by omega) (fun k hk => by have := hvw.out k hk; omega))
  have D2 := Lib.hid (D1.out.below hb2)
  have S2 := Lib.hid (S1.out.below hb2)
  clear hrd O2 HI2 hb2 hps D1 S1
  by_cases hlt : n2 < d.b.length
  · have e0 : decide ((n2 : Int) < (d.b.length : Int)) = true := by simp; omega
    obtain ⟨dc, rc, hc⟩ : ∃ dc rc, d.cut n2 = (dc, rc) := ⟨_, _, rfl⟩
    rw [Dsk.open_, if_pos hlt, hc] at e
    have HC := Lib.hid hc
    go_wp2_with fail
    with_reducible refine Calls.mono (cutE (d2 := dc) (r := rc) _ D2.out (n2 : Int) HC.out) ?_
    rintro e3 w3 ⟨v3, rfl, hd3, hs3⟩
    have D3 := Lib.hid hd3
    have S3 := Lib.hid (S2.out.trans hs3)
    have T3 := Lib.hid hs3
    clear hd3 hs3
    by_cases hrc : rc = 0
    · subst hrc
      have HSY := Lib.hid (show dc.sync = (d2, r) from by simpa using e)
      go_wp2_with fail
      with_reducible refine Calls.mono (syncE (d2 := d2) (r := r) _ D3.out HSY.out) ?_
      rintro e4 w4 ⟨v4, rfl, hd4, hs4⟩
      have D4 := Lib.hid hd4
      have S4 := Lib.hid (S3.out.trans hs4)
      have O4' := Lib.hid (OR.out.stepF FR.out (T3.out.trans hs4))
      have O4 := Lib.hid O4'.out.1
      clear hd4 hs4
      by_cases hr0 : r = 0
      · subst hr0
        go_wp2_with fail
        have hbl : Below w4.heap.size w4 (w4.alloc (.cells #[.pointer (some ⟨B, 0, none⟩)] 80)) := balloc (Below.refl _ _) _
        refine bodyPost_ret (v := .tuple #[.pointer (some ⟨w4.heap.size, 0, none⟩), v2, .int .i64 0]) ?_ rfl ?_
        · simp [results, Try.results39, go_sem, *]
        · exact ⟨v4, D4.out.below hbl, S4.out.below hbl, .inr ⟨rfl, w4.heap.size, v2, ps, rfl, HPS.out, OwnR.lower (O4.out.below hbl) (by omega), HI.out.lower (by omega), by have := S4.out.size; omega, fun e => Nat.lt_irrefl _ (D4.out.vlt _ e.symm), by go_simp, O4'.out.2, fun e => Nat.lt_irrefl _ (O4.out.own.lt _ e.symm).2⟩⟩
      · have e9 : (r != 0) = true := by simpa using hr0
        go_wp2_with fail
        refine bodyPost_ret (v := .tuple #[.pointer none, .slice none 0 0, .int .i64 r]) ?_ rfl ?_
        · simp [results, Try.results39, go_sem, *]
        · exact ⟨v4, D4.out, S4.out, .inl ⟨hr0, rfl⟩⟩
    · have e9 : (rc != 0) = true := by simpa using hrc
      rw [if_neg hrc] at e
      injection e with ea eb
      subst ea eb
      go_wp2_with fail
      refine bodyPost_ret (v := .tuple #[.pointer none, .slice none 0 0, .int .i64 rc]) ?_ rfl ?_
      · simp [results, Try.results39, go_sem, *]
      · exact ⟨v3, D3.out, S3.out, .inl ⟨hrc, rfl⟩⟩
  · have e0 : decide ((n2 : Int) < (d.b.length : Int)) = false := by simp; omega
    have HSY := Lib.hid (show d.sync = (d2, r) from by rw [Dsk.open_, if_neg hlt] at e; exact e)
    go_wp2_with fail
    with_reducible refine Calls.mono (syncE (d2 := d2) (r := r) _ D2.out HSY.out) ?_
    rintro e3 w3 ⟨v3, rfl, hd3, hs3⟩
    have D3 := Lib.hid hd3
    have S3 := Lib.hid (S2.out.trans hs3)
    have O3' := Lib.hid (OR.out.stepF FR.out (hs3))
    have O3 := Lib.hid O3'.out.1
    clear hd3 hs3
    by_cases hr0 : r = 0
    · subst hr0
      go_wp2_with fail
      have hbl : Below w3.heap.size w3 (w3.alloc (.cells #[.pointer (some ⟨B, 0, none⟩)] 80)) := balloc (Below.refl _ _) _
      refine bodyPost_ret (v := .tuple #[.pointer (some ⟨w3.heap.size, 0, none⟩), v2, .int .i64 0]) ?_ rfl ?_
      · simp [results, Try.results39, go_sem, *]
      · exact ⟨v3, D3.out.below hbl, S3.out.below hbl, .inr ⟨rfl, w3.heap.size, v2, ps, rfl, HPS.out, OwnR.lower (O3.out.below hbl) (by omega), HI.out.lower (by omega), by have := S3.out.size; omega, fun e => Nat.lt_irrefl _ (D3.out.vlt _ e.symm), by go_simp, O3'.out.2, fun e => Nat.lt_irrefl _ (O3.out.own.lt _ e.symm).2⟩⟩
    · have e9 : (r != 0) = true := by simpa using hr0
      go_wp2_with fail
      refine bodyPost_ret (v := .tuple #[.pointer none, .slice none 0 0, .int .i64 r]) ?_ rfl ?_
      · simp [results, Try.results39, go_sem, *]
      · exact ⟨v3, D3.out, S3.out, .inl ⟨hr0, rfl⟩⟩
end Go.Proofs.Ythgaphfelpnclaa
