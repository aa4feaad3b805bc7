/- The log upon a disk: opening, appending, what is free. -/
import Derived.Test.YthgaphfelpnclaaLf
set_option linter.unusedVariables false
set_option linter.unusedSimpArgs false
namespace Go.Proofs.Ythgaphfelpnclaa
open Go.RowKit
/-- What opening does with a disk whose bytes begin with n bytes of records. -/
def Dsk.open_ (d : Dsk) (n : Nat) : Dsk × Int := if n < d.b.length then (if (d.cut n).2 = 0 then (d.cut n).1.sync else d.cut n) else d.sync
theorem OwnR.lower {w : World} {b b0 : Nat} {v : Value} {ps : List (Rc × Value)} (h : OwnR w b v ps) (hb : b0 ≤ b) : OwnR w b0 v ps := by
  refine ⟨⟨h.own.1, ?_⟩, h.txt⟩
  rcases h.own.2 with h | ⟨g, cap, cur, h1, h2, h3⟩
  · exact .inl h
  · exact .inr ⟨g, cap, cur, h1, by omega, h3⟩
theorem Hi.lower {b b0 : Nat} {ps : List (Rc × Value)} (h : Hi b ps) (hb : b0 ≤ b) : Hi b0 ps := fun p hp k hk => Nat.le_trans hb (h p hp k hk)
/-- What opening hands back. -/
def OpenPost (w w' : World) (base B : Nat) (v : Value) (d2 : Dsk) (r : Int) (rs : List Rc) (e : Ending) : Prop :=
  ∃ v2, DS w' base B v2 d2 ∧ Step B v v2 w w' ∧ ((r ≠ 0 ∧ e = .returned (.tuple #[.pointer none, .slice none 0 0, .int .i64 r])) ∨ (r = 0 ∧ ∃ Lp vr ps, e = .returned (.tuple #[.pointer (some ⟨Lp, 0, none⟩), vr, .int .i64 0]) ∧ ps.map (·.1) = rs ∧ OwnR w' w.heap.size vr ps ∧ Hi w.heap.size ps ∧ w.heap.size ≤ Lp ∧ some Lp ≠ v2.ownBlock ∧ w'.cell? ⟨Lp, 0, none⟩ = some (.pointer (some ⟨B, 0, none⟩))))
set_option maxRecDepth 100000 in
set_option maxHeartbeats 2000000 in
theorem openE {base B : Nat} {v : Value} {d d2 : Dsk} {r : Int} {rs : List Rc} {n : Nat} (w : World) (h : DS w base B v d) (hu : U8s d.b) (hr : Reads d.b rs n) (e : d.open_ n = (d2, r)) :
    Calls Try.prog 39 #[.pointer (some ⟨B, 0, none⟩)] w fun e' w' => OpenPost w w' base B v d2 r rs e' := by
  have H := Lib.hid h
  have hlen := h.hr
  have hBw := h.lt
  have hvw := Lib.hid h.vlt
  obtain ⟨hn, -, -⟩ := reads_sound hu hr
  have HR := Lib.hid hr
  clear hr h
  go_enter Try.func39, Try.ntmps39
  go_wp2_with fail
  with_reducible refine Calls.mono (bytesE (ls := d.b) _ H.out rfl) ?_
  rintro e1 w1 ⟨v1, rfl, o1, hb1⟩
  have B1 := Lib.hid (BAt.of_own o1)
  obtain ⟨A1, c1, rfl⟩ := len_of_own o1
  have D1 := Lib.hid (H.out.below hb1)
  have S1 := Lib.hid (Step.of_below (B := B) (v := v) hb1)
  have hw1 := hb1.size
  clear o1 hb1
  go_wp2_with fail
  with_reducible refine Calls.mono (readF _ B1.out hu (by omega)) ?_
  rintro e2 w2 ⟨v2, ps, n2, rfl, hrd, O2, HI2, hb2⟩
  obtain ⟨hps, hn2⟩ := hrd.det HR.out
  subst hn2
  have OR := Lib.hid O2
  have HI := Lib.hid HI2
  have HPS := Lib.hid hps
  have D2 := Lib.hid (D1.out.below hb2)
  have S2 := Lib.hid (S1.out.below hb2)
  clear hrd O2 HI2 hb2 hps D1 S1
  by_cases hlt : n2 < d.b.length
  · have e0 : decide ((n2 : Int) < (d.b.length : Int)) = true := by simp; omega
    obtain ⟨dc, rc, hc⟩ : ∃ dc rc, d.cut n2 = (dc, rc) := ⟨_, _, rfl⟩
    rw [Dsk.open_, if_pos hlt, hc] at e
    have HC := Lib.hid hc
    go_wp2_with fail
    with_reducible refine Calls.mono (cutE (d2 := dc) (r := rc) _ D2.out (n2 : Int) HC.out) ?_
    rintro e3 w3 ⟨v3, rfl, hd3, hs3⟩
    have D3 := Lib.hid hd3
    have S3 := Lib.hid (S2.out.trans hs3)
    have T3 := Lib.hid hs3
    clear hd3 hs3
    by_cases hrc : rc = 0
    · subst hrc
      have HSY := Lib.hid (show dc.sync = (d2, r) from by simpa using e)
      go_wp2_with fail
      with_reducible refine Calls.mono (syncE (d2 := d2) (r := r) _ D3.out HSY.out) ?_
      rintro e4 w4 ⟨v4, rfl, hd4, hs4⟩
      have D4 := Lib.hid hd4
      have S4 := Lib.hid (S3.out.trans hs4)
      have O4 := Lib.hid (OR.out.step HI.out (T3.out.trans hs4) (by omega) (fun k hk => by have := hvw.out k hk; omega))
      clear hd4 hs4
      by_cases hr0 : r = 0
      · subst hr0
        go_wp2_with fail
        have hbl : Below w4.heap.size w4 (w4.alloc (.cells #[.pointer (some ⟨B, 0, none⟩)] 80)) := balloc (Below.refl _ _) _
        refine bodyPost_ret (v := .tuple #[.pointer (some ⟨w4.heap.size, 0, none⟩), v2, .int .i64 0]) ?_ rfl ?_
        · simp [results, Try.results39, go_sem, *]
        · exact ⟨v4, D4.out.below hbl, S4.out.below hbl, .inr ⟨rfl, w4.heap.size, v2, ps, rfl, HPS.out, OwnR.lower (O4.out.below hbl) (by omega), HI.out.lower (by omega), by have := S4.out.size; omega, fun e => Nat.lt_irrefl _ (D4.out.vlt _ e.symm), by go_simp⟩⟩
      · have e9 : (r != 0) = true := by simpa using hr0
        go_wp2_with fail
        refine bodyPost_ret (v := .tuple #[.pointer none, .slice none 0 0, .int .i64 r]) ?_ rfl ?_
        · simp [results, Try.results39, go_sem, *]
        · exact ⟨v4, D4.out, S4.out, .inl ⟨hr0, rfl⟩⟩
    · have e9 : (rc != 0) = true := by simpa using hrc
      rw [if_neg hrc] at e
      injection e with ea eb
      subst ea eb
      go_wp2_with fail
      refine bodyPost_ret (v := .tuple #[.pointer none, .slice none 0 0, .int .i64 rc]) ?_ rfl ?_
      · simp [results, Try.results39, go_sem, *]
      · exact ⟨v3, D3.out, S3.out, .inl ⟨hrc, rfl⟩⟩
  · have e0 : decide ((n2 : Int) < (d.b.length : Int)) = false := by simp; omega
    have HSY := Lib.hid (show d.sync = (d2, r) from by rw [Dsk.open_, if_neg hlt] at e; exact e)
    go_wp2_with fail
    with_reducible refine Calls.mono (syncE (d2 := d2) (r := r) _ D2.out HSY.out) ?_
    rintro e3 w3 ⟨v3, rfl, hd3, hs3⟩
    have D3 := Lib.hid hd3
    have S3 := Lib.hid (S2.out.trans hs3)
    have O3 := Lib.hid (OR.out.step HI.out (hs3) (by omega) (fun k hk => by have := hvw.out k hk; omega))
    clear hd3 hs3
    by_cases hr0 : r = 0
    · subst hr0
      go_wp2_with fail
      have hbl : Below w3.heap.size w3 (w3.alloc (.cells #[.pointer (some ⟨B, 0, none⟩)] 80)) := balloc (Below.refl _ _) _
      refine bodyPost_ret (v := .tuple #[.pointer (some ⟨w3.heap.size, 0, none⟩), v2, .int .i64 0]) ?_ rfl ?_
      · simp [results, Try.results39, go_sem, *]
      · exact ⟨v3, D3.out.below hbl, S3.out.below hbl, .inr ⟨rfl, w3.heap.size, v2, ps, rfl, HPS.out, OwnR.lower (O3.out.below hbl) (by omega), HI.out.lower (by omega), by have := S3.out.size; omega, fun e => Nat.lt_irrefl _ (D3.out.vlt _ e.symm), by go_simp⟩⟩
    · have e9 : (r != 0) = true := by simpa using hr0
      go_wp2_with fail
      refine bodyPost_ret (v := .tuple #[.pointer none, .slice none 0 0, .int .i64 r]) ?_ rfl ?_
      · simp [results, Try.results39, go_sem, *]
      · exact ⟨v3, D3.out, S3.out, .inl ⟨hr0, rfl⟩⟩
end Go.Proofs.Ythgaphfelpnclaa
