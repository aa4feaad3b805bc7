/- The law DiskTells, walked. -/
import Derived.Test.YthgaphfelpnclaaRm
import Derived.Test.YthgaphfelpnclaaKp
import Derived.OrdersHeld
import Derived.Deep.Cut
set_option linter.unusedVariables false
set_option linter.unusedSimpArgs false
namespace Go.Proofs.Ythgaphfelpnclaa
open Go.RowKit

section
variable {P : Program} {ops : Array Oper} {md : Region.Mode} {S : World → Prop} {C : World → Prop}
/-- Behind operations that are only read in the text's order the condition S holds too. -/
theorem wpAnyH_of_quiet {Q : Act → Prop} {Q' : Exit → Act → World → Prop} (hS : ∀ w, C w → S w) (hQ : ∀ a w, C w → Q a → Q' .normal a w) : ∀ (fuel : Nat) (listed : Array Bool) (a : Act) (w : World), C w →
    wpAnyQ P md ops C Q fuel listed a → wpAnyH P md ops Q' S fuel listed a w
  | 0, _, _, _, hw, h => ⟨h.1, hQ _ _ hw h.2⟩
  | fuel + 1, _, _, _, hw, h => ⟨fun h0 => hQ _ _ hw (h.1 h0), fun i hi => wpOp_of_qOp hw (fun a' w' hw' h' => ⟨hS w' hw', wpAnyH_of_quiet hS hQ fuel _ a' w' hw' h'⟩) (h.2 i hi)⟩
end
/-- The rest of a region, of operations that are only read, in the text's order. -/
theorem anyH_tail {P : Program} {l : List Oper} {S : World → Prop} {Q' : Exit → Act → World → Prop} {listed : Array Bool} {a : Act} {w : World} (m g : Nat) (hs : Region.noSelect l.toArray = true) (hg : (l.drop m).length = g) (hB : Region.lexFrom .any l.toArray g m listed = true)
    (hS : ∀ w', BelowC w w' → S w') (h : wpQ P l.toArray (BelowC w) (fun a' => ∀ w', BelowC w w' → Q' .normal a' w') (l.drop m) a) : wpAnyH P .any l.toArray Q' S g listed a w := by
  subst hg
  unfold wpQ at h
  exact wpAnyH_of_quiet (C := BelowC w) hS (fun _ w' hw' h => h w' hw') _ _ _ _ (BelowC.refl w) (wpAnyQ_lex hs (l.drop m) m listed a (fun j => by simp [List.getElem?_drop]) hB h)
/-- Only one operation may come up. -/
theorem any_one {P : Program} {ops : Array Oper} {md : Region.Mode} {Q : Exit → Act → World → Prop} {f : Nat} {listed : Array Bool} {a : Act} {w : World} (i : Nat) {o : Oper} (ho : ops[i]? = some o) (hr : Region.ready md ops listed = [i])
    (h : ∀ K' : Act → World → Prop, (∀ a w, wpAny P md ops Q f (listed.setIfInBounds i true) a w → K' a w) → if Region.wanted o (yielded ops a.tmps) = true then Oper.wp P o a w K' Q else K' (a.put o.dst undef) w) : wpAny P md ops Q (f + 1) listed a w :=
  wpAny_ready hr (by simp) (AllReady.cons ho h AllReady.nil)
theorem anyH_one {P : Program} {ops : Array Oper} {md : Region.Mode} {S : World → Prop} {Q : Exit → Act → World → Prop} {f : Nat} {listed : Array Bool} {a : Act} {w : World} (i : Nat) {o : Oper} (ho : ops[i]? = some o) (hr : Region.ready md ops listed = [i])
    (h : ∀ K' : Act → World → Prop, (∀ a w, S w → wpAnyH P md ops Q S f (listed.setIfInBounds i true) a w → K' a w) → if Region.wanted o (yielded ops a.tmps) = true then Oper.wp P o a w K' Q else K' (a.put o.dst undef) w) : wpAnyH P md ops Q S (f + 1) listed a w := by
  refine wpAnyH_all hr (by simp) fun j hj => ?_
  obtain rfl : j = i := by simpa using hj
  exact wpOp_step ho (fun K' hK => h K' (fun a w hs hh => hK a w ⟨hs, hh⟩))
/-- The document's disk, in the box p. -/
structure PM (w : World) (p : Nat) (d : Dsk) (v : Value) : Prop where
  c0 : w.cell? ⟨p, 0, none⟩ = some (.int .i64 d.room)
  c1 : w.cell? ⟨p, 1, none⟩ = some (.int .i64 d.safe)
  c2 : w.cell? ⟨p, 2, none⟩ = some (.int .i64 d.left)
  c3 : w.cell? ⟨p, 3, none⟩ = some v
  c4 : w.cell? ⟨p, 4, none⟩ = some (.bool d.off)
  fz : ∀ j, j < 5 → w.frozen? ⟨p, j, none⟩ = false
  bat : BAt w v d.b
theorem PM.below {w w' : World} {p : Nat} {d : Dsk} {v : Value} (h : PM w p d v) (hb : Below w.heap.size w w') : PM w' p d v :=
  ⟨keep hb h.c0, keep hb h.c1, keep hb h.c2, keep hb h.c3, keep hb h.c4, fun j hj => by rw [hb.frozen (p := ⟨p, j, none⟩) (cell_lt h.c0)]; exact h.fz j hj, h.bat.below hb⟩
theorem PM.step {w w' : World} {p B : Nat} {d : Dsk} {v v1 v2 : Value} (h : PM w p d v) (s : Step B v1 v2 w w') (hB : p ≠ B) (hv : some p ≠ v1.ownBlock) (ha : d.b ≠ [] → Apart B v1 v) : PM w' p d v :=
  ⟨s.cell h.c0 hB hv, s.cell h.c1 hB hv, s.cell h.c2 hB hv, s.cell h.c3 hB hv, s.cell h.c4 hB hv, fun j hj => by rw [World.frozen?_of_block (w := w) (a := ⟨p, j, none⟩) (s.block p (cell_lt h.c0) hB hv)]; exact h.fz j hj, h.bat.step s ha⟩
theorem PM.stored {w : World} {p : Nat} {d d2 : Dsk} {v v2 : Value} (h : PM w p d v) (hb : BAt w v2 d2.b) (hp : v2.ownBlock ≠ some p) :
    PM (((((w.setCell ⟨p, 0, none⟩ (.int .i64 d2.room)).setCell ⟨p, 1, none⟩ (.int .i64 d2.safe)).setCell ⟨p, 2, none⟩ (.int .i64 d2.left)).setCell ⟨p, 3, none⟩ v2).setCell ⟨p, 4, none⟩ (.bool d2.off)) p d2 v2 := by
  have g0 := h.c0
  have g1 := h.c1
  have g2 := h.c2
  have g3 := h.c3
  have g4 := h.c4
  refine ⟨by go_simp, by go_simp, by go_simp, by go_simp, by go_simp, fun j hj => ?_, ?_⟩
  · simp only [World.frozen?_setCell]; exact h.fz j hj
  · exact bat_set (bat_set (bat_set (bat_set (bat_set hb hp _) hp _) hp _) hp _) hp _
theorem DS.setm {w : World} {base B p : Nat} {v : Value} {d : Dsk} (h : DS w base B v d) (h1 : p ≠ B) (h2 : some p ≠ v.ownBlock) (j : Nat) (u : Value) : DS (w.setCell ⟨p, j, none⟩ u) base B v d :=
  h.only ((Only.refl p w).set (p := ⟨p, j, none⟩) rfl u) h1 h2
theorem set_ne {w : World} {b o p j : Nat} {u v : Value} (h : w.cell? ⟨b, o, none⟩ = some v) (hb : b ≠ p) : (w.setCell ⟨p, j, none⟩ u).cell? ⟨b, o, none⟩ = some v := by
  rw [World.cell?_setCell_other]
  · exact h
  · intro x; injection x with x1 _; exact hb x1.symm
theorem PM.own {w : World} {p : Nat} {d : Dsk} {v : Value} (h : PM w p d v) : ∃ A c, v = .slice A d.b.length c ∧ d.b.length ≤ c ∧ c ≤ maxLen := by
  obtain ⟨A, c, h1, h2, h3, _⟩ := h.bat
  exact ⟨A, c, h1, h2, h3⟩
theorem row_new {w w1 : World} {v u u2 : Value} {l0 ls : List Int} {B b : Nat} (h0 : BAt w u l0) (h2 : BAt w1 u2 ls) (ha : l0 ≠ [] → Apart B v u) (hf : u2 = u ∨ ∀ k, u2.ownBlock = some k → b ≤ k) (hB : B < b) (hv : ∀ k, v.ownBlock = some k → k < b) : ls ≠ [] → Apart B v u2 := by
  intro hne
  rcases hf with rfl | hf
  · refine ha ?_
    rintro rfl
    obtain ⟨A, c, rfl, _⟩ := h0
    obtain ⟨A2, c2, e, _⟩ := h2
    simp only [Value.slice.injEq] at e
    exact hne (List.length_eq_zero_iff.1 e.2.1.symm)
  · intro k hk
    have := hf k hk
    exact ⟨by omega, fun e => by have := hv k e.symm; omega⟩
theorem rmodelE {v u : Value} {d d2 : Dsk} {ls : List Int} {wh n r : Int} (w : World) (hv : BAt w v d.b) (hu : BAt w u ls) (hl : -1 ≤ d.left ∧ d.left ≤ 9223372036854775807) (hs : d.safe ≤ d.b.length) (hlen : d.b.length ≤ 262144) (hroom : d.room ≤ 262144) (h200 : ls.length ≤ 200) (hw : 0 ≤ wh ∧ wh ≤ 255) (e : d.doOp wh ls n = (d2, r)) :
    Calls Try.prog 34 #[rag d v, .agg #[.int .u8 wh, u, .int .i64 n]] w fun e' w' => RPost w w' v d2 r e' := by
  have := rmodel w hv hu hl hs hlen hroom h200 hw (n := n)
  rw [e] at this
  exact this
theorem doOp_room (d : Dsk) (wh : Int) (ls : List Int) (n : Int) : (d.doOp wh ls n).1.room = d.room := by
  unfold Dsk.doOp
  split
  · exact app_room d ls
  · split
    · unfold Dsk.sync Dsk.syncOn
      split
      · rfl
      · split <;> rfl
    · split
      · unfold Dsk.cut Dsk.cutOn
        split
        · rfl
        · split
          · rfl
          · split <;> rfl
      · split <;> rfl
set_option maxRecDepth 100000 in
set_option maxHeartbeats 4000000 in
theorem tells_walk (x : Int) (A : Option Addr) (n cap : Nat) (w : World) (hx : -9223372036854775808 ≤ x ∧ x ≤ 9223372036854775807) (hn : n ≤ cap) (hcap : cap ≤ maxLen) (hv : RowsV w A n 3 (ElOp w)) :
    Calls Try.prog 7 #[.int .i64 x, .slice A n cap] w fun e' w' => e' = .returned (.bool true) ∧ Below w.heap.size w w' := by
  have HV := Lib.hid hv
  clear hv
  have hcap0 := hcap
  unfold maxLen at hcap
  by_cases hbad : x < 0 ∨ 262144 < x
  · go_enter Try.func7, Try.ntmps7
    go_wp2_with fail
    with_reducible refine Calls.mono (newD_bad _ _ hbad) ?_
    rintro e1 w1 ⟨rfl, hb1⟩
    by_cases h1 : x < 0
    · go_wp2_with fail
      with_reducible refine Calls.mono (awake09 _) ?_
      rintro e2 w2 ⟨rfl, hb2⟩
      go_wp2_with fail
      go_ret
      exact ⟨rfl, bstep hb1 hb2⟩
    · have h2 : 262144 < x := by omega
      go_wp2_with fail
      with_reducible refine Calls.mono (awake09 _) ?_
      rintro e2 w2 ⟨rfl, hb2⟩
      go_wp2_with fail
      go_ret
      exact ⟨rfl, bstep hb1 hb2⟩
  · obtain ⟨R, rfl⟩ := Int.eq_ofNat_of_zero_le (show 0 ≤ x by omega)
    have hR : R ≤ 262144 := by omega
    have eR1 : decide ((R : Int) < 0) = false := by simp <;> omega
    have eR2 : decide ((262144 : Int) < (R : Int)) = false := by simp <;> omega
    clear hx hbad
    go_enter Try.func7, Try.ntmps7
    go_wp2_with fail
    with_reducible refine Calls.mono (newD R _ hR) ?_
    rintro e1 w1 ⟨rfl, hb1, hd1⟩
    have S1 := Lib.hid hb1
    have D1 := Lib.hid hd1
    clear hb1 hd1
    have HV1 := Lib.hid (rows_below HV.out S1.out)
    go_wp2_with fail
    with_reducible refine Calls.mono (lightD _ hn hcap0 HV1.out) ?_
    rintro e2 w2 ⟨hb2, hres⟩
    have D2 := Lib.hid (D1.out.below hb2)
    have S2 := Lib.hid (bstep S1.out hb2)
    rcases hres with rfl | ⟨hLt, rfl⟩
    · go_wp2_with fail
      with_reducible refine Calls.mono (awake09 _) ?_
      rintro e3 w3 ⟨rfl, hb3⟩
      go_wp2_with fail
      go_ret
      exact ⟨rfl, bstep S2.out hb3⟩
    · have LT := Lib.hid (light_back hLt S1.out)
      clear hLt hb2
      obtain ⟨M, hM⟩ : ∃ M : Nat, min n 60 = M := ⟨_, rfl⟩
      rw [hM] at LT ⊢
      go_wp2_with fail
      with_reducible refine Calls.mono (rnew R _) ?_
      unfold rag
      rintro e3 w3 ⟨rfl, hb3⟩
      have D3 := Lib.hid (D2.out.below hb3)
      have S3 := Lib.hid (bstep S2.out hb3)
      have hsz3 := D3.out.lt
      have hsw3 := S3.out.size
      clear hb3 D1 D2 S1 S2 HV1
      go_wp2_with fail
      obtain ⟨w4, hw4⟩ : ∃ w4, w4 = w3.alloc (Obj.cells #[.int .i64 (R : Int), .int .i64 0, .int .i64 (-1), .slice none 0 0, .bool false] 58) := ⟨_, rfl⟩
      rw [← hw4]
      have P4 : PM w4 w3.heap.size ⟨[], 0, -1, false, R⟩ (.slice none 0 0) := by
        subst hw4
        exact ⟨by go_simp, by go_simp, by go_simp, by go_simp, by go_simp, fun j hj => by go_simp, bat_nil _ rfl⟩
      have hb4 : Below w3.heap.size w3 w4 := by subst hw4; exact balloc (Below.refl _ _) _
      have D4 := Lib.hid (D3.out.below hb4)
      have S4 := Lib.hid (bstep S3.out hb4)
      have hpB : w.heap.size < w3.heap.size := hsz3
      clear hw4 hb4 D3
      obtain ⟨p, hp⟩ : ∃ p, p = w3.heap.size := ⟨_, rfl⟩
      rw [← hp] at hpB P4 ⊢
      clear hp S3 hsz3 hsw3
      go_loopw [52] (fun i wr => ∃ (k : Nat) (v vm : Value) (d : Dsk), k ≤ M ∧ i = .int .i64 k ∧ DS wr w.heap.size w.heap.size v d ∧ Below w.heap.size w wr ∧ d.room = R ∧ PM wr p d vm ∧ some p ≠ v.ownBlock ∧ some p ≠ vm.ownBlock ∧ (d.b ≠ [] → Apart w.heap.size v vm)) (fun i _ => M - (intOf i).toNat)
      case atStart => exact ⟨0, _, _, _, by omega, rfl, D4.out, S4.out, rfl, P4, by simp [Value.ownBlock], by simp [Value.ownBlock], fun h => absurd rfl h⟩
      case round =>
        obtain ⟨k, v, vm, d, hk, rfl, hd, hBel, hroom, hpm, hpv, hpvm, hap⟩ := hrel
        have HD := Lib.hid hd
        have HS := Lib.hid hBel
        have HB0 := Lib.hid hd.lt
        have HV0 := Lib.hid hd.vlt
        have hsz := hBel.size
        have hdS := hd.hs
        have hdR := hd.hr
        have hdl := hd.hl
        clear hd hBel
        by_cases hlt : k < M
        · obtain ⟨b, o, wh, u, ls, y, rfl, d0, d1, d2c, hw0, hy0, hu, hr, cu⟩ := op_at HV.out HS.out (show k < n by omega)
          have h200 := LT.out k hlt b o u ls rfl cu hu
          have HU := Lib.hid hu
          obtain ⟨A2, c9, rfl, hcc, hcm, _⟩ := hu
          clear cu hr
          unfold maxLen at hcm
          obtain ⟨d2, r, hE⟩ : ∃ d2 r, d.doOp wh ls y = (d2, r) := ⟨_, _, rfl⟩
          have hrm : d2.room = R := by have := doOp_room d wh ls y; rw [hE] at this; rw [← hroom]; exact this
          have hE := Lib.hid hE
          have HM := Lib.hid hpm
          have HPV := Lib.hid hpv
          have HPM := Lib.hid hpvm
          have HAP := Lib.hid hap
          have HRM := Lib.hid hrm
          have g0 := hpm.c0
          have g1 := hpm.c1
          have g2 := hpm.c2
          have g3 := hpm.c3
          have g4 := hpm.c4
          have hpl : p < wr.heap.size := cell_lt g0
          have f0 := hpm.fz 0 (by decide)
          have f1 := hpm.fz 1 (by decide)
          have f2 := hpm.fz 2 (by decide)
          have f3 := hpm.fz 3 (by decide)
          have f4 := hpm.fz 4 (by decide)
          obtain ⟨A5, c5, rfl, hl5, hm5⟩ := hpm.own
          have HRO := Lib.hid hroom
          clear hpm hpv hpvm hap hrm hroom
          go_wp2_with fail
          have C5 := Lib.hid (rmodelE _ (HM.out.bat.below (balloc (Below.refl _ wr) (.cells #[.int .u8 wh, .slice A2 ls.length c9, .int .i64 y] 52))) ((HU.out.below HS.out).below (balloc (Below.refl _ wr) (.cells #[.int .u8 wh, .slice A2 ls.length c9, .int .i64 y] 52))) hdl hdS (by omega) hdR.2 h200 hw0 hE.out)
          unfold rag at C5
          with_reducible refine Calls.mono C5.out ?_
          clear C5
          rintro e5 w5 ⟨v5, rfl, hB5, hb5, hf5⟩
          unfold rag
          have b5 : Below wr.heap.size wr w5 := bstep (balloc (Below.refl _ wr) _) hb5
          have hs5 : wr.heap.size + 1 ≤ w5.heap.size := by have := hb5.size; simp at this; omega
          have M5 := Lib.hid (HM.out.below b5)
          have D5 := Lib.hid (HD.out.below b5)
          have S5 := Lib.hid (bstep HS.out b5)
          have hp5 : some p ≠ v5.ownBlock := by
            rcases hf5 with rfl | h9
            · exact HPM.out
            · exact fun e => by have := h9 p e.symm; simp at this; omega
          have B5 := Lib.hid hB5
          have A5' := Lib.hid (row_new HM.out.bat hB5 HAP.out hf5 (show w.heap.size < (wr.alloc (.cells #[.int .u8 wh, .slice A2 ls.length c9, .int .i64 y] 52)).heap.size by simp; omega) (fun k hk => by have := HV0.out k hk; simp; omega))
          have x0 : w5.cell? ⟨wr.heap.size, 0, none⟩ = some (.int .u8 wh) := keep hb5 (by go_simp)
          have x1 : w5.cell? ⟨wr.heap.size, 1, none⟩ = some (.slice A2 ls.length c9) := keep hb5 (by go_simp)
          have x2 : w5.cell? ⟨wr.heap.size, 2, none⟩ = some (.int .i64 y) := keep hb5 (by go_simp)
          have g0 := M5.out.c0
          have g1 := M5.out.c1
          have g2 := M5.out.c2
          have g3 := M5.out.c3
          have g4 := M5.out.c4
          have f0 := M5.out.fz 0 (by decide)
          have f1 := M5.out.fz 1 (by decide)
          have f2 := M5.out.fz 2 (by decide)
          have f3 := M5.out.fz 3 (by decide)
          have f4 := M5.out.fz 4 (by decide)
          obtain ⟨A7, c7, rfl, hl7, hm7⟩ : ∃ A c, v5 = .slice A d2.b.length c ∧ d2.b.length ≤ c ∧ c ≤ maxLen := by
            obtain ⟨A, c, h1, h2, h3, _⟩ := hB5
            exact ⟨A, c, h1, h2, h3⟩
          clear hb5 hf5 hB5 d0 d1 d2c b5
          go_upto_region 13 with fail
          obtain ⟨w6, hw6⟩ : ∃ w6, w6 = (((((w5.setCell ⟨p, 0, none⟩ (.int .i64 ↑d2.room)).setCell ⟨p, 1, none⟩ (.int .i64 ↑d2.safe)).setCell ⟨p, 2, none⟩ (.int .i64 d2.left)).setCell ⟨p, 3, none⟩ (.slice A7 d2.b.length c7)).setCell ⟨p, 4, none⟩ (.bool d2.off)) := ⟨_, rfl⟩
          rw [← hw6]
          have hne : wr.heap.size ≠ p := by omega
          have M6 := Lib.hid (show PM w6 p d2 (.slice A7 d2.b.length c7) from by subst hw6; exact M5.out.stored B5.out hp5.symm)
          have D6 := Lib.hid (show DS w6 w.heap.size w.heap.size v d from by subst hw6; exact ((((D5.out.setm (by omega) HPV.out _ _).setm (by omega) HPV.out _ _).setm (by omega) HPV.out _ _).setm (by omega) HPV.out _ _).setm (by omega) HPV.out _ _)
          have S6 := Lib.hid (show Below w.heap.size w w6 from by subst hw6; exact bset (bset (bset (bset (bset S5.out (Nat.le_of_lt hpB) _) (Nat.le_of_lt hpB) _) (Nat.le_of_lt hpB) _) (Nat.le_of_lt hpB) _) (Nat.le_of_lt hpB) _)
          have hs6 : w6.heap.size = w5.heap.size := by subst hw6; simp
          have x0 : w6.cell? ⟨wr.heap.size, 0, none⟩ = some (.int .u8 wh) := by subst hw6; exact set_ne (set_ne (set_ne (set_ne (set_ne x0 hne) hne) hne) hne) hne
          have x1 : w6.cell? ⟨wr.heap.size, 1, none⟩ = some (.slice A2 ls.length c9) := by subst hw6; exact set_ne (set_ne (set_ne (set_ne (set_ne x1 hne) hne) hne) hne) hne
          have x2 : w6.cell? ⟨wr.heap.size, 2, none⟩ = some (.int .i64 y) := by subst hw6; exact set_ne (set_ne (set_ne (set_ne (set_ne x2 hne) hne) hne) hne) hne
          clear hw6 g0 g1 g2 g3 g4 f0 f1 f2 f3 f4 M5 D5 S5 B5
          refine wp_region_any (by kernel_rfl) ?_
          change wpAny _ _ _ _ _ _ _ (World.drew _)
          obtain ⟨w7, hw7⟩ : ∃ w7, w7 = World.drew w6 := ⟨_, rfl⟩
          rw [← hw7]
          have b7 : Below w6.heap.size w6 w7 := by subst hw7; exact (Below.refl _ _).drew
          have M7 := Lib.hid (M6.out.below b7)
          have D7 := Lib.hid (D6.out.below b7)
          have S7 := Lib.hid (bstep S6.out b7)
          have x0 : w7.cell? ⟨wr.heap.size, 0, none⟩ = some (.int .u8 wh) := keep b7 x0
          have x1 : w7.cell? ⟨wr.heap.size, 1, none⟩ = some (.slice A2 ls.length c9) := keep b7 x1
          have x2 : w7.cell? ⟨wr.heap.size, 2, none⟩ = some (.int .i64 y) := keep b7 x2
          clear hw7 b7 M6 D6 S6
          refine wpAny_take (i := 0) rfl (by kernel_rfl) (by kernel_rfl) (by kernel_rfl) (fun _ _ _ h => h) (v := .pointer (some ⟨w.heap.size, 0, none⟩)) (.inl ⟨by rfl, fun w => by go_simp⟩) ?_
          refine wpAny_take (i := 3) rfl (by kernel_rfl) (by kernel_rfl) (by kernel_rfl) (fun _ _ _ h => h) (v := .int .i64 r) (.inl ⟨by rfl, fun w => by go_simp⟩) ?_
          refine any_one 1 rfl (by kernel_rfl) ?_
          intro K hK
          go_simp
          refine hK _ _ ?_
          clear hK K
          refine any_one 2 rfl (by kernel_rfl) ?_
          intro K hK
          go_simp
          with_reducible refine Calls.mono (doOpE _ D7.out (HU.out.below S7.out) (fun h0 => D7.out.apart_in (Nat.le_refl _) HU.out h0) hw0 hy0.2 hE.out) ?_
          rintro e8 w8 ⟨v8, rfl, hd8, hs8⟩
          have hpl7 : p < w7.heap.size := cell_lt M7.out.c0
          have hvlt := D7.out.vlt
          have S8 := Lib.hid (DS.toBelow D7.out (Nat.le_refl _) S7.out hs8)
          have M8 := Lib.hid (M7.out.step hs8 (by omega) HPV.out A5'.out)
          have D8 := Lib.hid hd8
          have V8 : some p ≠ v8.ownBlock := fun e => HPV.out (hs8.fresh p hpl7 e)
          have A8 : d2.b ≠ [] → Apart w.heap.size v8 (.slice A7 d2.b.length c7) := fun h0 => (A5'.out h0).step hs8 (M7.out.bat.lt h0)
          clear hd8 hs8 M7 D7 S7 x0 x1 x2 hvlt
          refine hK _ _ ?_
          clear hK K
          refine any_one 4 rfl (by kernel_rfl) ?_
          intro K hK
          go_simp
          refine hK _ _ ?_
          clear hK K
          refine any_one 5 rfl (by kernel_rfl) ?_
          intro K hK
          go_simp
          refine hK _ _ ?_
          clear hK K
          refine wpAny_of_held (S := BelowC w8) _ _ _ _ ?_
          refine wpAnyH_take (i := 6) rfl (by kernel_rfl) (by kernel_rfl) (by kernel_rfl) (fun _ _ _ h => h) (v := .pointer (some ⟨w.heap.size, 0, none⟩)) (.inl ⟨by rfl, fun w _ => by go_simp⟩) (BelowC.refl w8) ?_
          refine wpAnyH_take (i := 8) rfl (by kernel_rfl) (by kernel_rfl) (by kernel_rfl) (fun _ _ _ h => h) (v := .pointer (some ⟨p, 3, none⟩)) (.inl ⟨by rfl, fun w _ => by go_simp⟩) (BelowC.refl w8) ?_
          refine wpAnyH_take (i := 9) rfl (by kernel_rfl) (by kernel_rfl) (by kernel_rfl) (fun _ _ _ h => h) (v := .slice A7 d2.b.length c7) (.inl ⟨by rfl, fun wq hC => by have k3 := hC.keep M8.out.c3; go_simp⟩) (BelowC.refl w8) ?_
          refine anyH_one 7 rfl (by kernel_rfl) ?_
          intro K hK
          go_simp
          with_reducible refine Calls.mono (bytesE (ls := d2.b) _ D8.out rfl) ?_
          rintro e9 w9 ⟨v9, rfl, hv9, hb9⟩
          have B9 := Lib.hid (BAt.of_own hv9)
          obtain ⟨A9, c10, rfl⟩ := len_of_own hv9
          have M9 := Lib.hid (M8.out.below hb9)
          have D9 := Lib.hid (D8.out.below hb9)
          have S9 := Lib.hid (bstep S8.out hb9)
          refine hK _ _ hb9 ?_
          clear hK K hv9
          refine anyH_tail 10 31 (by kernel_rfl) (by kernel_rfl) (by kernel_rfl) (fun w1 h1 => BelowC.step (W := w8) hb9 h1) ?_
          simp only [List.drop_succ_cons, List.drop_zero]
          apply wpQ_do
          · rfl
          · intro wq hC; go_light; go_simp; refine Calls.mono (same_true _ (B9.out.below hC) (M9.out.bat.below hC)) ?_; rintro eq wq2 ⟨rfl, hbq⟩; exact ⟨rfl, hC.step hbq⟩
          simp only [Act.put, List.setIfInBounds_toArray, List.set_cons_zero, List.set_cons_succ]
          apply wpQ_do
          · rfl
          · intro wq hC; go_light; first | (go_simp; first | done | rfl | exact ⟨rfl, rfl⟩) | (have k1 := hC.keep M9.out.c1; have k3 := hC.keep M9.out.c3; have k4 := hC.keep M9.out.c4; go_simp; first | done | rfl | exact ⟨rfl, rfl⟩)
          simp only [Act.put, List.setIfInBounds_toArray, List.set_cons_zero, List.set_cons_succ]
          apply wpQ_do
          · rfl
          · intro wq hC; go_light; first | (go_simp; first | done | rfl | exact ⟨rfl, rfl⟩) | (have k1 := hC.keep M9.out.c1; have k3 := hC.keep M9.out.c3; have k4 := hC.keep M9.out.c4; go_simp; first | done | rfl | exact ⟨rfl, rfl⟩)
          simp only [Act.put, List.setIfInBounds_toArray, List.set_cons_zero, List.set_cons_succ]
          apply wpQ_do
          · rfl
          · intro wq hC; go_light; first | (go_simp; first | done | rfl | exact ⟨rfl, rfl⟩) | (have k1 := hC.keep M9.out.c1; have k3 := hC.keep M9.out.c3; have k4 := hC.keep M9.out.c4; go_simp; first | done | rfl | exact ⟨rfl, rfl⟩)
          simp only [Act.put, List.setIfInBounds_toArray, List.set_cons_zero, List.set_cons_succ]
          apply wpQ_do
          · rfl
          · intro wq hC; go_light; first | (go_simp; first | done | rfl | exact ⟨rfl, rfl⟩) | (have k1 := hC.keep M9.out.c1; have k3 := hC.keep M9.out.c3; have k4 := hC.keep M9.out.c4; go_simp; first | done | rfl | exact ⟨rfl, rfl⟩)
          simp only [Act.put, List.setIfInBounds_toArray, List.set_cons_zero, List.set_cons_succ]
          apply wpQ_do
          · rfl
          · intro wq hC; go_light; go_simp; refine Calls.mono (lenE (r := (d2.b.length : Int)) _ (D9.out.below hC) rfl) ?_; rintro eq wq2 ⟨rfl, hbq⟩; exact ⟨rfl, hC.step hbq⟩
          simp only [Act.put, List.setIfInBounds_toArray, List.set_cons_zero, List.set_cons_succ]
          apply wpQ_do
          · rfl
          · intro wq hC; go_light; first | (go_simp; first | done | rfl | exact ⟨rfl, rfl⟩) | (have k1 := hC.keep M9.out.c1; have k3 := hC.keep M9.out.c3; have k4 := hC.keep M9.out.c4; go_simp; first | done | rfl | exact ⟨rfl, rfl⟩)
          simp only [Act.put, List.setIfInBounds_toArray, List.set_cons_zero, List.set_cons_succ]
          apply wpQ_do
          · rfl
          · intro wq hC; go_light; first | (go_simp; first | done | rfl | exact ⟨rfl, rfl⟩) | (have k1 := hC.keep M9.out.c1; have k3 := hC.keep M9.out.c3; have k4 := hC.keep M9.out.c4; go_simp; first | done | rfl | exact ⟨rfl, rfl⟩)
          simp only [Act.put, List.setIfInBounds_toArray, List.set_cons_zero, List.set_cons_succ]
          apply wpQ_do
          · rfl
          · intro wq hC; go_light; first | (go_simp; first | done | rfl | exact ⟨rfl, rfl⟩) | (have k1 := hC.keep M9.out.c1; have k3 := hC.keep M9.out.c3; have k4 := hC.keep M9.out.c4; go_simp; first | done | rfl | exact ⟨rfl, rfl⟩)
          simp only [Act.put, List.setIfInBounds_toArray, List.set_cons_zero, List.set_cons_succ]
          apply wpQ_do
          · rfl
          · intro wq hC; go_light; first | (go_simp; first | done | rfl | exact ⟨rfl, rfl⟩) | (have k1 := hC.keep M9.out.c1; have k3 := hC.keep M9.out.c3; have k4 := hC.keep M9.out.c4; go_simp; first | done | rfl | exact ⟨rfl, rfl⟩)
          simp only [Act.put, List.setIfInBounds_toArray, List.set_cons_zero, List.set_cons_succ]
          apply wpQ_do
          · rfl
          · intro wq hC; go_light; first | (go_simp; first | done | rfl | exact ⟨rfl, rfl⟩) | (have k1 := hC.keep M9.out.c1; have k3 := hC.keep M9.out.c3; have k4 := hC.keep M9.out.c4; go_simp; first | done | rfl | exact ⟨rfl, rfl⟩)
          simp only [Act.put, List.setIfInBounds_toArray, List.set_cons_zero, List.set_cons_succ]
          apply wpQ_do
          · rfl
          · intro wq hC; go_light; first | (go_simp; first | done | rfl | exact ⟨rfl, rfl⟩) | (have k1 := hC.keep M9.out.c1; have k3 := hC.keep M9.out.c3; have k4 := hC.keep M9.out.c4; go_simp; first | done | rfl | exact ⟨rfl, rfl⟩)
          simp only [Act.put, List.setIfInBounds_toArray, List.set_cons_zero, List.set_cons_succ]
          apply wpQ_do
          · rfl
          · intro wq hC; go_light; first | (go_simp; first | done | rfl | exact ⟨rfl, rfl⟩) | (have k1 := hC.keep M9.out.c1; have k3 := hC.keep M9.out.c3; have k4 := hC.keep M9.out.c4; go_simp; first | done | rfl | exact ⟨rfl, rfl⟩)
          simp only [Act.put, List.setIfInBounds_toArray, List.set_cons_zero, List.set_cons_succ]
          apply wpQ_do
          · rfl
          · intro wq hC; go_light; go_simp; refine Calls.mono (safeE (r := (d2.safe : Int)) _ (D9.out.below hC) rfl) ?_; rintro eq wq2 ⟨rfl, hbq⟩; exact ⟨rfl, hC.step hbq⟩
          simp only [Act.put, List.setIfInBounds_toArray, List.set_cons_zero, List.set_cons_succ]
          apply wpQ_do
          · rfl
          · intro wq hC; go_light; first | (go_simp; first | done | rfl | exact ⟨rfl, rfl⟩) | (have k1 := hC.keep M9.out.c1; have k3 := hC.keep M9.out.c3; have k4 := hC.keep M9.out.c4; go_simp; first | done | rfl | exact ⟨rfl, rfl⟩)
          simp only [Act.put, List.setIfInBounds_toArray, List.set_cons_zero, List.set_cons_succ]
          apply wpQ_do
          · rfl
          · intro wq hC; go_light; first | (go_simp; first | done | rfl | exact ⟨rfl, rfl⟩) | (have k1 := hC.keep M9.out.c1; have k3 := hC.keep M9.out.c3; have k4 := hC.keep M9.out.c4; go_simp; first | done | rfl | exact ⟨rfl, rfl⟩)
          simp only [Act.put, List.setIfInBounds_toArray, List.set_cons_zero, List.set_cons_succ]
          apply wpQ_do
          · rfl
          · intro wq hC; go_light; first | (go_simp; first | done | rfl | exact ⟨rfl, rfl⟩) | (have k1 := hC.keep M9.out.c1; have k3 := hC.keep M9.out.c3; have k4 := hC.keep M9.out.c4; go_simp; first | done | rfl | exact ⟨rfl, rfl⟩)
          simp only [Act.put, List.setIfInBounds_toArray, List.set_cons_zero, List.set_cons_succ]
          apply wpQ_do
          · rfl
          · intro wq hC; go_light; first | (go_simp; first | done | rfl | exact ⟨rfl, rfl⟩) | (have k1 := hC.keep M9.out.c1; have k3 := hC.keep M9.out.c3; have k4 := hC.keep M9.out.c4; go_simp; first | done | rfl | exact ⟨rfl, rfl⟩)
          simp only [Act.put, List.setIfInBounds_toArray, List.set_cons_zero, List.set_cons_succ]
          apply wpQ_do
          · rfl
          · intro wq hC; go_light; first | (go_simp; first | done | rfl | exact ⟨rfl, rfl⟩) | (have k1 := hC.keep M9.out.c1; have k3 := hC.keep M9.out.c3; have k4 := hC.keep M9.out.c4; go_simp; first | done | rfl | exact ⟨rfl, rfl⟩)
          simp only [Act.put, List.setIfInBounds_toArray, List.set_cons_zero, List.set_cons_succ]
          apply wpQ_do
          · rfl
          · intro wq hC; go_light; first | (go_simp; first | done | rfl | exact ⟨rfl, rfl⟩) | (have k1 := hC.keep M9.out.c1; have k3 := hC.keep M9.out.c3; have k4 := hC.keep M9.out.c4; go_simp; first | done | rfl | exact ⟨rfl, rfl⟩)
          simp only [Act.put, List.setIfInBounds_toArray, List.set_cons_zero, List.set_cons_succ]
          apply wpQ_do
          · rfl
          · intro wq hC; go_light; go_simp; refine Calls.mono (roomE (r := (R : Int)) _ (D9.out.below hC) (by rw [HRM.out])) ?_; rintro eq wq2 ⟨rfl, hbq⟩; exact ⟨rfl, hC.step hbq⟩
          simp only [Act.put, List.setIfInBounds_toArray, List.set_cons_zero, List.set_cons_succ]
          apply wpQ_do
          · rfl
          · intro wq hC; go_light; first | (go_simp; first | done | rfl | exact ⟨rfl, rfl⟩) | (have k1 := hC.keep M9.out.c1; have k3 := hC.keep M9.out.c3; have k4 := hC.keep M9.out.c4; go_simp; first | done | rfl | exact ⟨rfl, rfl⟩)
          simp only [Act.put, List.setIfInBounds_toArray, List.set_cons_zero, List.set_cons_succ]
          apply wpQ_do
          · rfl
          · intro wq hC; go_light; first | (go_simp; first | done | rfl | exact ⟨rfl, rfl⟩) | (have k1 := hC.keep M9.out.c1; have k3 := hC.keep M9.out.c3; have k4 := hC.keep M9.out.c4; go_simp; first | done | rfl | exact ⟨rfl, rfl⟩)
          simp only [Act.put, List.setIfInBounds_toArray, List.set_cons_zero, List.set_cons_succ]
          apply wpQ_do
          · rfl
          · intro wq hC; go_light; first | (go_simp; first | done | rfl | exact ⟨rfl, rfl⟩) | (have k1 := hC.keep M9.out.c1; have k3 := hC.keep M9.out.c3; have k4 := hC.keep M9.out.c4; go_simp; first | done | rfl | exact ⟨rfl, rfl⟩)
          simp only [Act.put, List.setIfInBounds_toArray, List.set_cons_zero, List.set_cons_succ]
          apply wpQ_do
          · rfl
          · intro wq hC; go_light; first | (go_simp; first | done | rfl | exact ⟨rfl, rfl⟩) | (have k1 := hC.keep M9.out.c1; have k3 := hC.keep M9.out.c3; have k4 := hC.keep M9.out.c4; go_simp; first | done | rfl | exact ⟨rfl, rfl⟩)
          simp only [Act.put, List.setIfInBounds_toArray, List.set_cons_zero, List.set_cons_succ]
          apply wpQ_do
          · rfl
          · intro wq hC; go_light; first | (go_simp; first | done | rfl | exact ⟨rfl, rfl⟩) | (have k1 := hC.keep M9.out.c1; have k3 := hC.keep M9.out.c3; have k4 := hC.keep M9.out.c4; go_simp; first | done | rfl | exact ⟨rfl, rfl⟩)
          simp only [Act.put, List.setIfInBounds_toArray, List.set_cons_zero, List.set_cons_succ]
          apply wpQ_do
          · rfl
          · intro wq hC; go_light; go_simp; refine Calls.mono (offE (r := d2.off) _ (D9.out.below hC) rfl) ?_; rintro eq wq2 ⟨rfl, hbq⟩; exact ⟨rfl, hC.step hbq⟩
          simp only [Act.put, List.setIfInBounds_toArray, List.set_cons_zero, List.set_cons_succ]
          apply wpQ_do
          · rfl
          · intro wq hC; go_light; first | (go_simp; first | done | rfl | exact ⟨rfl, rfl⟩) | (have k1 := hC.keep M9.out.c1; have k3 := hC.keep M9.out.c3; have k4 := hC.keep M9.out.c4; go_simp; first | done | rfl | exact ⟨rfl, rfl⟩)
          simp only [Act.put, List.setIfInBounds_toArray, List.set_cons_zero, List.set_cons_succ]
          apply wpQ_do
          · rfl
          · intro wq hC; go_light; first | (go_simp; first | done | rfl | exact ⟨rfl, rfl⟩) | (have k1 := hC.keep M9.out.c1; have k3 := hC.keep M9.out.c3; have k4 := hC.keep M9.out.c4; go_simp; first | done | rfl | exact ⟨rfl, rfl⟩)
          simp only [Act.put, List.setIfInBounds_toArray, List.set_cons_zero, List.set_cons_succ]
          apply wpQ_do
          · rfl
          · intro wq hC; go_light; first | (go_simp; first | done | rfl | exact ⟨rfl, rfl⟩) | (have k1 := hC.keep M9.out.c1; have k3 := hC.keep M9.out.c3; have k4 := hC.keep M9.out.c4; go_simp; first | done | rfl | exact ⟨rfl, rfl⟩)
          simp only [Act.put, List.setIfInBounds_toArray, List.set_cons_zero, List.set_cons_succ]
          apply wpQ_do
          · rfl
          · intro wq hC; go_light; first | (go_simp; first | done | rfl | exact ⟨rfl, rfl⟩) | (have k1 := hC.keep M9.out.c1; have k3 := hC.keep M9.out.c3; have k4 := hC.keep M9.out.c4; go_simp; first | done | rfl | exact ⟨rfl, rfl⟩)
          simp only [Act.put, List.setIfInBounds_toArray, List.set_cons_zero, List.set_cons_succ]
          apply wpQ_nil
          intro w10 hb10
          have hb10 : Below _ _ _ := hb10
          have D10 := Lib.hid (D9.out.below hb10)
          have M10 := Lib.hid (M9.out.below hb10)
          have S10 := Lib.hid (bstep S9.out hb10)
          go_wp2_with fail
          go_roundw
          case rel => exact ⟨k + 1, v8, _, d2, by omega, by go_num, D10.out, S10.out, HRM.out, M10.out, V8, hp5, A8⟩
          case measure => (try simp [intOf]) <;> omega
        · obtain rfl : k = M := by omega
          go_wp2_with fail
          with_reducible refine Calls.mono (awake09 _) ?_
          rintro e30 w30 ⟨rfl, hb30⟩
          go_wp2_with fail
          go_ret
          exact ⟨rfl, bstep HS.out hb30⟩
end Go.Proofs.Ythgaphfelpnclaa
