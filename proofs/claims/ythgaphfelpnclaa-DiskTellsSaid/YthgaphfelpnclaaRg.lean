/- The document's own disk: what appending does. -/
import Derived.Test.YthgaphfelpnclaaRf
import Derived.Deep.Cut
set_option linter.unusedVariables false
set_option linter.unusedSimpArgs false
namespace Go.Proofs.Ythgaphfelpnclaa
open Go.RowKit
theorem grown_cf {w w' : World} {ob : Obj} {row : Option Nat} {b j : Nat} {v : Value} (g : (w.alloc ob).grownBy w' row) (h : w.cell? ⟨b, j, none⟩ = some v) (hf : w.frozen? ⟨b, j, none⟩ = false) (hne : some b ≠ row) :
    w'.cell? ⟨b, j, none⟩ = some v ∧ w'.frozen? ⟨b, j, none⟩ = false := by
  have h1 := keep (balloc (Below.refl _ _) ob) h
  have h2 := keepF (balloc (Below.refl _ _) ob) v h hf
  exact ⟨g.cell h1 hne, grown_frozen g h1 h2 hne⟩
theorem u8s_snoc (a : List Int) (x : Int) : u8s (a ++ [x]) = u8s a ++ [.int .u8 x] := by simp [u8s]
theorem bat_at {w : World} {b o n c k : Nat} {ls : List Int} (h : BAt w (.slice (some ⟨b, o, none⟩) n c) ls) (hk : k < ls.length) : w.cell? ⟨b, o + k, none⟩ = some (.int .u8 (ls.getD k 0)) := by
  obtain ⟨A, c2, e, _, _, h4⟩ := h
  obtain ⟨b1, o1, rfl, e2⟩ := h4 k hk
  simp only [Value.slice.injEq, Option.some.injEq, Addr.mk.injEq] at e
  obtain ⟨⟨rfl, rfl, _⟩, _⟩ := e
  exact e2
theorem bat_lt {w : World} {b o n c k : Nat} {ls : List Int} (h : BAt w (.slice (some ⟨b, o, none⟩) n c) ls) (hk : k < ls.length) : b < w.heap.size := by
  obtain ⟨A, c2, e, _, _, h4⟩ := h
  obtain ⟨b1, o1, rfl, e2⟩ := h4 k hk
  simp only [Value.slice.injEq, Option.some.injEq, Addr.mk.injEq] at e
  obtain ⟨⟨rfl, _, _⟩, _⟩ := e
  exact cell_lt e2

set_option maxRecDepth 100000 in
set_option maxHeartbeats 4000000 in
theorem rapp {v u : Value} {d : Dsk} {ls : List Int} (w : World) (hv : BAt w v d.b) (hu : BAt w u ls) (hl : -1 ≤ d.left ∧ d.left ≤ 9223372036854775807) (hlen : d.b.length ≤ 262144) (hroom : d.room ≤ 262144) (h200 : ls.length ≤ 200) :
    Calls Try.prog 44 #[rag d v, u] w fun e' w' => RPost w w' v (d.app ls).1 (d.app ls).2 e' := by
  have HU := Lib.hid hu
  obtain ⟨Au, cu, rfl, hu2, hu3, hu4⟩ := hu
  clear hu4
  unfold maxLen at hu3
  have HV := Lib.hid hv
  obtain ⟨A, c, rfl, h2, h3, _⟩ := hv
  unfold maxLen at h3
  unfold rag
  by_cases ho : d.off = true
  · rw [show d.app ls = (d, 6) from by simp [Dsk.app, ho]]
    go_enter Try.func44, Try.ntmps44
    go_wp2_with fail
    refine bodyPost_ret (v := .tuple #[.agg #[.int .i64 ↑d.room, .int .i64 ↑d.safe, .int .i64 d.left, .slice A d.b.length c, .bool d.off], .int .i64 6]) ?_ rfl ?_
    · simp [results, Try.results44, go_sem, *]
    · exact ⟨_, rfl, HV.out.below (by repeat (first | with_reducible exact Below.refl _ _ | with_reducible refine balloc ?_ _ | with_reducible refine bset ?_ (by first | (simp; done) | (simp; omega)) _)), (by repeat (first | with_reducible exact Below.refl _ _ | with_reducible refine balloc ?_ _ | with_reducible refine bset ?_ (by first | (simp; done) | (simp; omega)) _)), .inl rfl⟩
  · have ho : d.off = false := by simpa using ho
    have ew : IntKind.i64.wrap ((d.b.length : Int) + ls.length) = (d.b.length : Int) + ls.length := IntWalk.i64_in _ (by omega)
    by_cases hf : (d.room : Int) - d.b.length < ls.length
    · rw [show d.app ls = (d, 5) from by simp only [Dsk.app, ho, Bool.false_eq_true, if_false, Dsk.appOn, if_pos hf]]
      have e0 : decide ((d.room : Int) < (d.b.length : Int) + ls.length) = true := by simp; omega
      go_enter Try.func44, Try.ntmps44
      go_wp2_with fail
      refine bodyPost_ret (v := .tuple #[.agg #[.int .i64 ↑d.room, .int .i64 ↑d.safe, .int .i64 d.left, .slice A d.b.length c, .bool d.off], .int .i64 5]) ?_ rfl ?_
      · simp [results, Try.results44, go_sem, *]
      · exact ⟨_, rfl, HV.out.below (by repeat (first | with_reducible exact Below.refl _ _ | with_reducible refine balloc ?_ _ | with_reducible refine bset ?_ (by first | (simp; done) | (simp; omega)) _)), (by repeat (first | with_reducible exact Below.refl _ _ | with_reducible refine balloc ?_ _ | with_reducible refine bset ?_ (by first | (simp; done) | (simp; omega)) _)), .inl rfl⟩
    · rw [show d.app ls = d.feed ls from by simp only [Dsk.app, ho, Bool.false_eq_true, if_false, Dsk.appOn, if_neg hf]]
      have e0 : decide ((d.room : Int) < (d.b.length : Int) + ls.length) = false := by simp; omega
      have hB0 := Lib.hid (HV.out.below (balloc (balloc (balloc (Below.refl w.heap.size w) (.cells #[.int .i64 d.room, .int .i64 d.safe, .int .i64 d.left, .slice A d.b.length c, .bool false] 58)) (.cells #[.int .i64 0, .int .i64 0, .int .i64 0, .slice none 0 0, .bool false] 58)) (.cells #[] 5)))
      go_enter Try.func44, Try.ntmps44
      go_wp2_with (at_builtin; refine wpList_append_from _ rfl _ _ rfl (w.heap.size + 1 + 1) (.slice (some ⟨w.heap.size + 1 + 1, 0, none⟩) 0 0) (.slice A d.b.length c) 0 [] d.b rfl rfl (own_made5 _ _ _ (by simp) (by simp)) hB0.out (by omega) (by simp) ?_)
      intro v2 w2 o2 g2 f2
      have hl9 : (d.b).length = d.b.length := by rfl
      have o2 : w2.ownsRow (w.heap.size + 1 + 1) 5 1 v2 (d.b.length) (u8s (d.b)) := by have h9 := o2; (try rw [show d.b.length = d.b.length by omega] at h9); first | exact h9 | simpa using h9
      have B2 := Lib.hid (BAt.of_own (Eq.mpr (congrArg (fun qq => w2.ownsRow (w.heap.size + 1 + 1) 5 1 v2 qq (u8s (d.b))) hl9) o2))
      have hnb : ∀ k, v2.ownBlock = some k → w.heap.size + 1 + 1 ≤ k := fun k hk => (o2.lt k hk).1
      have hs2 : w.heap.size + 1 + 1 + 1 ≤ w2.heap.size := by have := g2.size; simp at this; omega
      have S2 := Lib.hid (below_grown (show Below w.heap.size w _ from (balloc (balloc (balloc (Below.refl _ _) _) _) _)) g2 (fun k hk => by simp [Value.ownBlock] at hk; omega))
      have zc0 : w2.cell? ⟨w.heap.size, 0, none⟩ = some (.int .i64 ↑d.room) := g2.cell (by go_simp) (by simp [Value.ownBlock]; try omega)
      have zf0 : w2.frozen? ⟨w.heap.size, 0, none⟩ = false := grown_frozen g2 (a := ⟨w.heap.size, 0, none⟩) (v := .int .i64 ↑d.room) (by go_simp) (by go_simp) (by simp [Value.ownBlock]; try omega)
      have zc1 : w2.cell? ⟨w.heap.size, 1, none⟩ = some (.int .i64 ↑d.safe) := g2.cell (by go_simp) (by simp [Value.ownBlock]; try omega)
      have zf1 : w2.frozen? ⟨w.heap.size, 1, none⟩ = false := grown_frozen g2 (a := ⟨w.heap.size, 1, none⟩) (v := .int .i64 ↑d.safe) (by go_simp) (by go_simp) (by simp [Value.ownBlock]; try omega)
      have zc2 : w2.cell? ⟨w.heap.size, 2, none⟩ = some (.int .i64 d.left) := g2.cell (by go_simp) (by simp [Value.ownBlock]; try omega)
      have zf2 : w2.frozen? ⟨w.heap.size, 2, none⟩ = false := grown_frozen g2 (a := ⟨w.heap.size, 2, none⟩) (v := .int .i64 d.left) (by go_simp) (by go_simp) (by simp [Value.ownBlock]; try omega)
      have zc3 : w2.cell? ⟨w.heap.size, 3, none⟩ = some (.slice A d.b.length c) := g2.cell (by go_simp) (by simp [Value.ownBlock]; try omega)
      have zf3 : w2.frozen? ⟨w.heap.size, 3, none⟩ = false := grown_frozen g2 (a := ⟨w.heap.size, 3, none⟩) (v := .slice A d.b.length c) (by go_simp) (by go_simp) (by simp [Value.ownBlock]; try omega)
      have zc4 : w2.cell? ⟨w.heap.size, 4, none⟩ = some (.bool false) := g2.cell (by go_simp) (by simp [Value.ownBlock]; try omega)
      have zf4 : w2.frozen? ⟨w.heap.size, 4, none⟩ = false := grown_frozen g2 (a := ⟨w.heap.size, 4, none⟩) (v := .bool false) (by go_simp) (by go_simp) (by simp [Value.ownBlock]; try omega)
      have xc0 : w2.cell? ⟨w.heap.size + 1, 0, none⟩ = some (.int .i64 0) := g2.cell (by go_simp) (by simp [Value.ownBlock]; try omega)
      have xf0 : w2.frozen? ⟨w.heap.size + 1, 0, none⟩ = false := grown_frozen g2 (a := ⟨w.heap.size + 1, 0, none⟩) (v := .int .i64 0) (by go_simp) (by go_simp) (by simp [Value.ownBlock]; try omega)
      have xc1 : w2.cell? ⟨w.heap.size + 1, 1, none⟩ = some (.int .i64 0) := g2.cell (by go_simp) (by simp [Value.ownBlock]; try omega)
      have xf1 : w2.frozen? ⟨w.heap.size + 1, 1, none⟩ = false := grown_frozen g2 (a := ⟨w.heap.size + 1, 1, none⟩) (v := .int .i64 0) (by go_simp) (by go_simp) (by simp [Value.ownBlock]; try omega)
      have xc2 : w2.cell? ⟨w.heap.size + 1, 2, none⟩ = some (.int .i64 0) := g2.cell (by go_simp) (by simp [Value.ownBlock]; try omega)
      have xf2 : w2.frozen? ⟨w.heap.size + 1, 2, none⟩ = false := grown_frozen g2 (a := ⟨w.heap.size + 1, 2, none⟩) (v := .int .i64 0) (by go_simp) (by go_simp) (by simp [Value.ownBlock]; try omega)
      have xc3 : w2.cell? ⟨w.heap.size + 1, 3, none⟩ = some (.slice none 0 0) := g2.cell (by go_simp) (by simp [Value.ownBlock]; try omega)
      have xf3 : w2.frozen? ⟨w.heap.size + 1, 3, none⟩ = false := grown_frozen g2 (a := ⟨w.heap.size + 1, 3, none⟩) (v := .slice none 0 0) (by go_simp) (by go_simp) (by simp [Value.ownBlock]; try omega)
      have xc4 : w2.cell? ⟨w.heap.size + 1, 4, none⟩ = some (.bool false) := g2.cell (by go_simp) (by simp [Value.ownBlock]; try omega)
      have xf4 : w2.frozen? ⟨w.heap.size + 1, 4, none⟩ = false := grown_frozen g2 (a := ⟨w.heap.size + 1, 4, none⟩) (v := .bool false) (by go_simp) (by go_simp) (by simp [Value.ownBlock]; try omega)
      have xz : w.heap.size + 1 < w2.heap.size := cell_lt xc0
      clear g2 f2
      go_wp2_with fail
      go_loopw [6, 7] (fun out i wr => ∃ (k : Nat) (vo : Value) (l2 : Int), k ≤ ls.length ∧ i = .int .i64 k ∧ out = vo ∧ wr.ownsRow (w.heap.size + 1 + 1) 5 1 vo (d.b.length + k) (u8s (d.b ++ ls.take k)) ∧ Below w.heap.size w wr ∧ w.heap.size + 1 + 1 < wr.heap.size ∧ (-1 ≤ l2 ∧ l2 ≤ 9223372036854775807) ∧ d.feed ls = Dsk.feed { d with b := d.b ++ ls.take k, left := l2 } (ls.drop k) ∧ wr.cell? ⟨w.heap.size, 0, none⟩ = some (.int .i64 ↑d.room) ∧ wr.frozen? ⟨w.heap.size, 0, none⟩ = false ∧ wr.cell? ⟨w.heap.size, 1, none⟩ = some (.int .i64 ↑d.safe) ∧ wr.frozen? ⟨w.heap.size, 1, none⟩ = false ∧ wr.cell? ⟨w.heap.size, 2, none⟩ = some (.int .i64 l2) ∧ wr.frozen? ⟨w.heap.size, 2, none⟩ = false ∧ wr.cell? ⟨w.heap.size, 3, none⟩ = some (.slice A d.b.length c) ∧ wr.frozen? ⟨w.heap.size, 3, none⟩ = false ∧ wr.cell? ⟨w.heap.size, 4, none⟩ = some (.bool false) ∧ wr.frozen? ⟨w.heap.size, 4, none⟩ = false ∧ wr.cell? ⟨w.heap.size + 1, 0, none⟩ = some (.int .i64 0) ∧ wr.frozen? ⟨w.heap.size + 1, 0, none⟩ = false ∧ wr.cell? ⟨w.heap.size + 1, 1, none⟩ = some (.int .i64 0) ∧ wr.frozen? ⟨w.heap.size + 1, 1, none⟩ = false ∧ wr.cell? ⟨w.heap.size + 1, 2, none⟩ = some (.int .i64 0) ∧ wr.frozen? ⟨w.heap.size + 1, 2, none⟩ = false ∧ wr.cell? ⟨w.heap.size + 1, 3, none⟩ = some (.slice none 0 0) ∧ wr.frozen? ⟨w.heap.size + 1, 3, none⟩ = false ∧ wr.cell? ⟨w.heap.size + 1, 4, none⟩ = some (.bool false) ∧ wr.frozen? ⟨w.heap.size + 1, 4, none⟩ = false) (fun _ i _ => ls.length - (intOf i).toNat)
      case atStart => exact ⟨0, v2, d.left, by omega, rfl, rfl, by simpa using o2, S2.out, by omega, hl, by simp, zc0, zf0, zc1, zf1, zc2, zf2, zc3, zf3, zc4, zf4, xc0, xf0, xc1, xf1, xc2, xf2, xc3, xf3, xc4, xf4⟩
      case round =>
        obtain ⟨k, vo, l2, hk, rfl, e6, hown, hBel, hsz, hl2, hfd, zc0, zf0, zc1, zf1, zc2, zf2, zc3, zf3, zc4, zf4, xc0, xf0, xc1, xf1, xc2, xf2, xc3, xf3, xc4, xf4⟩ := hrel
        have e7 := e6.symm
        subst e7
        have OW := Lib.hid hown
        have SS := Lib.hid hBel
        have BB := Lib.hid (BAt.of_own (ls := d.b ++ ls.take k) (by have h9 := hown; rw [show d.b.length + k = (d.b ++ ls.take k).length by rw [List.length_append, List.length_take]; omega] at h9; exact h9))
        have hnb : ∀ q, vo.ownBlock = some q → w.heap.size + 1 + 1 ≤ q := fun q hq => (hown.lt q hq).1
        have hwsz := hBel.size
        have FD := Lib.hid hfd
        obtain ⟨Aq, cq, eq9, _, _, hcell⟩ := HU.out.below hBel
        simp only [Value.slice.injEq] at eq9
        obtain ⟨rfl, _, rfl⟩ := eq9
        have HC := Lib.hid hcell
        clear hcell hown hBel hfd
        by_cases hlt : k < ls.length
        · obtain ⟨b, o, rfl, hcc⟩ := HC.out k hlt
          have hbl : b < w.heap.size := bat_lt HU.out hlt
          obtain ⟨x, hx⟩ : ∃ x, ls.getD k 0 = x := ⟨_, rfl⟩
          rw [hx] at hcc
          have hdrop : ls.drop k = x :: ls.drop (k + 1) := by
            rw [← hx, List.getD, List.getElem?_eq_getElem hlt, Option.getD_some]
            exact List.drop_eq_getElem_cons hlt
          have htake : ls.take (k + 1) = ls.take k ++ [x] := by
            rw [← hx, List.getD, List.getElem?_eq_getElem hlt, Option.getD_some]
            exact (List.take_append_getElem hlt).symm
          by_cases hz : l2 = 0
          · subst hz
            have hres : d.feed ls = ({ d with b := d.b ++ ls.take k, left := 0, off := true }, 6) := by rw [FD.out, hdrop, Dsk.feed, if_pos rfl]; rfl
            obtain ⟨A9, c9, e9⟩ := len_of_own OW.out
            obtain ⟨n9, hn9⟩ : ∃ n9, d.b.length + k = n9 := ⟨_, rfl⟩
            rw [hn9] at e9
            subst e9
            go_wp2_with fail
            with_reducible refine Calls.mono (rspark_no _) ?_
            rintro e3 w3 ⟨rfl, hb3⟩
            have SS := Lib.hid (bstep SS.out hb3)
            have BB := Lib.hid (BB.out.below hb3)
            have hs3 := hb3.size
            have zc0 : w3.cell? ⟨w.heap.size, 0, none⟩ = some (.int .i64 ↑d.room) := keep hb3 (by go_simp)
            have zf0 : w3.frozen? ⟨w.heap.size, 0, none⟩ = false := keepF hb3 (.int .i64 ↑d.room) (by go_simp) (by go_simp)
            have zc1 : w3.cell? ⟨w.heap.size, 1, none⟩ = some (.int .i64 ↑d.safe) := keep hb3 (by go_simp)
            have zf1 : w3.frozen? ⟨w.heap.size, 1, none⟩ = false := keepF hb3 (.int .i64 ↑d.safe) (by go_simp) (by go_simp)
            have zc2 : w3.cell? ⟨w.heap.size, 2, none⟩ = some (.int .i64 0) := keep hb3 (by go_simp)
            have zf2 : w3.frozen? ⟨w.heap.size, 2, none⟩ = false := keepF hb3 (.int .i64 0) (by go_simp) (by go_simp)
            have zc3 : w3.cell? ⟨w.heap.size, 3, none⟩ = some (.slice A d.b.length c) := keep hb3 (by go_simp)
            have zf3 : w3.frozen? ⟨w.heap.size, 3, none⟩ = false := keepF hb3 (.slice A d.b.length c) (by go_simp) (by go_simp)
            have zc4 : w3.cell? ⟨w.heap.size, 4, none⟩ = some (.bool false) := keep hb3 (by go_simp)
            have zf4 : w3.frozen? ⟨w.heap.size, 4, none⟩ = false := keepF hb3 (.bool false) (by go_simp) (by go_simp)
            have xc0 : w3.cell? ⟨w.heap.size + 1, 0, none⟩ = some (.int .i64 0) := keep hb3 (by go_simp)
            have xf0 : w3.frozen? ⟨w.heap.size + 1, 0, none⟩ = false := keepF hb3 (.int .i64 0) (by go_simp) (by go_simp)
            have xc1 : w3.cell? ⟨w.heap.size + 1, 1, none⟩ = some (.int .i64 0) := keep hb3 (by go_simp)
            have xf1 : w3.frozen? ⟨w.heap.size + 1, 1, none⟩ = false := keepF hb3 (.int .i64 0) (by go_simp) (by go_simp)
            have xc2 : w3.cell? ⟨w.heap.size + 1, 2, none⟩ = some (.int .i64 0) := keep hb3 (by go_simp)
            have xf2 : w3.frozen? ⟨w.heap.size + 1, 2, none⟩ = false := keepF hb3 (.int .i64 0) (by go_simp) (by go_simp)
            have xc3 : w3.cell? ⟨w.heap.size + 1, 3, none⟩ = some (.slice none 0 0) := keep hb3 (by go_simp)
            have xf3 : w3.frozen? ⟨w.heap.size + 1, 3, none⟩ = false := keepF hb3 (.slice none 0 0) (by go_simp) (by go_simp)
            have xc4 : w3.cell? ⟨w.heap.size + 1, 4, none⟩ = some (.bool false) := keep hb3 (by go_simp)
            have xf4 : w3.frozen? ⟨w.heap.size + 1, 4, none⟩ = false := keepF hb3 (.bool false) (by go_simp) (by go_simp)
            have xz := cell_lt xc0
            have yz := cell_lt zc0
            clear hb3 hcc FD OW
            go_upto_region 12 with fail
            obtain ⟨w4, hw4⟩ : ∃ w4, w4 = (((((w3.setCell ⟨w.heap.size, 0, none⟩ (.int .i64 ↑d.room)).setCell ⟨w.heap.size, 1, none⟩ (.int .i64 ↑d.safe)).setCell ⟨w.heap.size, 2, none⟩ (.int .i64 0)).setCell ⟨w.heap.size, 3, none⟩ (.slice A d.b.length c)).setCell ⟨w.heap.size, 4, none⟩ (.bool true)).alloc (.cells #[.int .i64 ↑d.room, .int .i64 ↑d.safe, .int .i64 0, .slice A d.b.length c, .bool true] 58) := ⟨_, rfl⟩
            rw [← hw4]
            have BB := Lib.hid (show BAt w4 (.slice A9 n9 c9) (d.b ++ ls.take k) by rw [hw4]; repeat (first | with_reducible exact BB.out | with_reducible refine bat_alloc ?_ _ | with_reducible refine bat_setB ?_ hnb (by first | (simp; done) | (simp; omega)) _))
            have SS := Lib.hid (show Below w.heap.size w w4 by rw [hw4]; repeat (first | with_reducible exact SS.out | with_reducible refine balloc ?_ _ | with_reducible refine bset ?_ (by first | (simp; done) | (simp; omega)) _))
            have hq : w4.cell? ⟨w.heap.size, 0, none⟩ = some (.int .i64 ↑d.room) ∧ w4.frozen? ⟨w.heap.size, 0, none⟩ = false := by rw [hw4]; exact ⟨by go_simp, by go_simp⟩
            clear zc0 zf0
            obtain ⟨zc0, zf0⟩ := hq
            have hq : w4.cell? ⟨w.heap.size, 1, none⟩ = some (.int .i64 ↑d.safe) ∧ w4.frozen? ⟨w.heap.size, 1, none⟩ = false := by rw [hw4]; exact ⟨by go_simp, by go_simp⟩
            clear zc1 zf1
            obtain ⟨zc1, zf1⟩ := hq
            have hq : w4.cell? ⟨w.heap.size, 2, none⟩ = some (.int .i64 0) ∧ w4.frozen? ⟨w.heap.size, 2, none⟩ = false := by rw [hw4]; exact ⟨by go_simp, by go_simp⟩
            clear zc2 zf2
            obtain ⟨zc2, zf2⟩ := hq
            have hq : w4.cell? ⟨w.heap.size, 3, none⟩ = some (.slice A d.b.length c) ∧ w4.frozen? ⟨w.heap.size, 3, none⟩ = false := by rw [hw4]; exact ⟨by go_simp, by go_simp⟩
            clear zc3 zf3
            obtain ⟨zc3, zf3⟩ := hq
            have hq : w4.cell? ⟨w.heap.size, 4, none⟩ = some (.bool true) ∧ w4.frozen? ⟨w.heap.size, 4, none⟩ = false := by rw [hw4]; exact ⟨by go_simp, by go_simp⟩
            clear zc4 zf4
            obtain ⟨zc4, zf4⟩ := hq
            have hq : w4.cell? ⟨w.heap.size + 1, 0, none⟩ = some (.int .i64 0) ∧ w4.frozen? ⟨w.heap.size + 1, 0, none⟩ = false := by rw [hw4]; exact ⟨by go_simp, by go_simp⟩
            clear xc0 xf0
            obtain ⟨xc0, xf0⟩ := hq
            have hq : w4.cell? ⟨w.heap.size + 1, 1, none⟩ = some (.int .i64 0) ∧ w4.frozen? ⟨w.heap.size + 1, 1, none⟩ = false := by rw [hw4]; exact ⟨by go_simp, by go_simp⟩
            clear xc1 xf1
            obtain ⟨xc1, xf1⟩ := hq
            have hq : w4.cell? ⟨w.heap.size + 1, 2, none⟩ = some (.int .i64 0) ∧ w4.frozen? ⟨w.heap.size + 1, 2, none⟩ = false := by rw [hw4]; exact ⟨by go_simp, by go_simp⟩
            clear xc2 xf2
            obtain ⟨xc2, xf2⟩ := hq
            have hq : w4.cell? ⟨w.heap.size + 1, 3, none⟩ = some (.slice none 0 0) ∧ w4.frozen? ⟨w.heap.size + 1, 3, none⟩ = false := by rw [hw4]; exact ⟨by go_simp, by go_simp⟩
            clear xc3 xf3
            obtain ⟨xc3, xf3⟩ := hq
            have hq : w4.cell? ⟨w.heap.size + 1, 4, none⟩ = some (.bool false) ∧ w4.frozen? ⟨w.heap.size + 1, 4, none⟩ = false := by rw [hw4]; exact ⟨by go_simp, by go_simp⟩
            clear xc4 xf4
            obtain ⟨xc4, xf4⟩ := hq
            clear hw4 xz yz
            have xz := cell_lt xc0
            have yz := cell_lt zc0
            have HR := Lib.hid hres
            clear hres hx hdrop htake HC hB0 HU HV
            go_wp2_with fail
            rw [HR.out]
            refine bodyPost_ret (v := .tuple #[.agg #[.int .i64 ↑d.room, .int .i64 ↑d.safe, .int .i64 0, .slice A9 n9 c9, .bool true], .int .i64 6]) ?_ rfl ?_
            · simp [results, Try.results44, go_sem, xz, yz, xc0, xc1, xc2, xc3, xc4]
            · skip
              exact ⟨.slice A9 n9 c9, by simp [rag], (by repeat (first | with_reducible exact BB.out | with_reducible refine bat_alloc ?_ _ | with_reducible refine bat_setB ?_ hnb (by first | (simp; done) | (simp; omega)) _)), (by repeat (first | with_reducible exact SS.out | with_reducible refine balloc ?_ _ | with_reducible refine bset ?_ (by first | (simp; done) | (simp; omega)) _)), .inr (fun q hq => by have := hnb q hq; omega)⟩
          · go_wp2_with fail
            with_reducible refine Calls.mono (rspark_okE (l2 := if l2 < 0 then l2 else l2 - 1) _ hz hl2 rfl) ?_
            rintro e3 w3 ⟨rfl, hb3⟩
            obtain ⟨l3, hl3⟩ : ∃ l3, (if l2 < 0 then l2 else l2 - 1) = l3 := ⟨_, rfl⟩
            rw [hl3]
            have hl3b : -1 ≤ l3 ∧ l3 ≤ 9223372036854775807 := by rw [← hl3]; split <;> omega
            have SS := Lib.hid (bstep SS.out hb3)
            have OW := Lib.hid (own_below OW.out hb3)
            have hs3 := hb3.size
            have hcc := keep hb3 hcc
            have zc0 : w3.cell? ⟨w.heap.size, 0, none⟩ = some (.int .i64 ↑d.room) := keep hb3 (by go_simp)
            have zf0 : w3.frozen? ⟨w.heap.size, 0, none⟩ = false := keepF hb3 (.int .i64 ↑d.room) (by go_simp) (by go_simp)
            have zc1 : w3.cell? ⟨w.heap.size, 1, none⟩ = some (.int .i64 ↑d.safe) := keep hb3 (by go_simp)
            have zf1 : w3.frozen? ⟨w.heap.size, 1, none⟩ = false := keepF hb3 (.int .i64 ↑d.safe) (by go_simp) (by go_simp)
            have zc2 : w3.cell? ⟨w.heap.size, 2, none⟩ = some (.int .i64 l2) := keep hb3 (by go_simp)
            have zf2 : w3.frozen? ⟨w.heap.size, 2, none⟩ = false := keepF hb3 (.int .i64 l2) (by go_simp) (by go_simp)
            have zc3 : w3.cell? ⟨w.heap.size, 3, none⟩ = some (.slice A d.b.length c) := keep hb3 (by go_simp)
            have zf3 : w3.frozen? ⟨w.heap.size, 3, none⟩ = false := keepF hb3 (.slice A d.b.length c) (by go_simp) (by go_simp)
            have zc4 : w3.cell? ⟨w.heap.size, 4, none⟩ = some (.bool false) := keep hb3 (by go_simp)
            have zf4 : w3.frozen? ⟨w.heap.size, 4, none⟩ = false := keepF hb3 (.bool false) (by go_simp) (by go_simp)
            have xc0 : w3.cell? ⟨w.heap.size + 1, 0, none⟩ = some (.int .i64 0) := keep hb3 (by go_simp)
            have xf0 : w3.frozen? ⟨w.heap.size + 1, 0, none⟩ = false := keepF hb3 (.int .i64 0) (by go_simp) (by go_simp)
            have xc1 : w3.cell? ⟨w.heap.size + 1, 1, none⟩ = some (.int .i64 0) := keep hb3 (by go_simp)
            have xf1 : w3.frozen? ⟨w.heap.size + 1, 1, none⟩ = false := keepF hb3 (.int .i64 0) (by go_simp) (by go_simp)
            have xc2 : w3.cell? ⟨w.heap.size + 1, 2, none⟩ = some (.int .i64 0) := keep hb3 (by go_simp)
            have xf2 : w3.frozen? ⟨w.heap.size + 1, 2, none⟩ = false := keepF hb3 (.int .i64 0) (by go_simp) (by go_simp)
            have xc3 : w3.cell? ⟨w.heap.size + 1, 3, none⟩ = some (.slice none 0 0) := keep hb3 (by go_simp)
            have xf3 : w3.frozen? ⟨w.heap.size + 1, 3, none⟩ = false := keepF hb3 (.slice none 0 0) (by go_simp) (by go_simp)
            have xc4 : w3.cell? ⟨w.heap.size + 1, 4, none⟩ = some (.bool false) := keep hb3 (by go_simp)
            have xf4 : w3.frozen? ⟨w.heap.size + 1, 4, none⟩ = false := keepF hb3 (.bool false) (by go_simp) (by go_simp)
            have xz := cell_lt xc0
            have yz := cell_lt zc0
            clear hb3
            go_upto_region 14 with fail
            obtain ⟨w4, hw4⟩ : ∃ w4, w4 = (((((w3.setCell ⟨w.heap.size, 0, none⟩ (.int .i64 ↑d.room)).setCell ⟨w.heap.size, 1, none⟩ (.int .i64 ↑d.safe)).setCell ⟨w.heap.size, 2, none⟩ (.int .i64 l3)).setCell ⟨w.heap.size, 3, none⟩ (.slice A d.b.length c)).setCell ⟨w.heap.size, 4, none⟩ (.bool false)).alloc (.cells #[.int .i64 ↑d.room, .int .i64 ↑d.safe, .int .i64 l3, .slice A d.b.length c, .bool false] 58) := ⟨_, rfl⟩
            rw [← hw4]
            have hsz4 : w4.heap.size = w3.heap.size + 1 := by rw [hw4]; simp
            have OW := Lib.hid (show w4.ownsRow (w.heap.size + 1 + 1) 5 1 vo (d.b.length + k) (u8s (d.b ++ ls.take k)) by rw [hw4]; repeat (first | with_reducible exact OW.out | with_reducible refine World.ownsRow.alloc ?_ _ | with_reducible refine ownsRow_setCell_below ?_ (by first | (simp; done) | (simp; omega)) _))
            have SS := Lib.hid (show Below w.heap.size w w4 by rw [hw4]; repeat (first | with_reducible exact SS.out | with_reducible refine balloc ?_ _ | with_reducible refine bset ?_ (by first | (simp; done) | (simp; omega)) _))
            have zc0 := show w4.cell? ⟨w.heap.size, 0, none⟩ = some (.int .i64 ↑d.room) by rw [hw4]; go_simp
            have zf0 := show w4.frozen? ⟨w.heap.size, 0, none⟩ = false by rw [hw4]; go_simp
            have zc1 := show w4.cell? ⟨w.heap.size, 1, none⟩ = some (.int .i64 ↑d.safe) by rw [hw4]; go_simp
            have zf1 := show w4.frozen? ⟨w.heap.size, 1, none⟩ = false by rw [hw4]; go_simp
            have zc2 := show w4.cell? ⟨w.heap.size, 2, none⟩ = some (.int .i64 l3) by rw [hw4]; go_simp
            have zf2 := show w4.frozen? ⟨w.heap.size, 2, none⟩ = false by rw [hw4]; go_simp
            have zc3 := show w4.cell? ⟨w.heap.size, 3, none⟩ = some (.slice A d.b.length c) by rw [hw4]; go_simp
            have zf3 := show w4.frozen? ⟨w.heap.size, 3, none⟩ = false by rw [hw4]; go_simp
            have zc4 := show w4.cell? ⟨w.heap.size, 4, none⟩ = some (.bool false) by rw [hw4]; go_simp
            have zf4 := show w4.frozen? ⟨w.heap.size, 4, none⟩ = false by rw [hw4]; go_simp
            have xc0 := show w4.cell? ⟨w.heap.size + 1, 0, none⟩ = some (.int .i64 0) by rw [hw4]; go_simp
            have xf0 := show w4.frozen? ⟨w.heap.size + 1, 0, none⟩ = false by rw [hw4]; go_simp
            have xc1 := show w4.cell? ⟨w.heap.size + 1, 1, none⟩ = some (.int .i64 0) by rw [hw4]; go_simp
            have xf1 := show w4.frozen? ⟨w.heap.size + 1, 1, none⟩ = false by rw [hw4]; go_simp
            have xc2 := show w4.cell? ⟨w.heap.size + 1, 2, none⟩ = some (.int .i64 0) by rw [hw4]; go_simp
            have xf2 := show w4.frozen? ⟨w.heap.size + 1, 2, none⟩ = false by rw [hw4]; go_simp
            have xc3 := show w4.cell? ⟨w.heap.size + 1, 3, none⟩ = some (.slice none 0 0) by rw [hw4]; go_simp
            have xf3 := show w4.frozen? ⟨w.heap.size + 1, 3, none⟩ = false by rw [hw4]; go_simp
            have xc4 := show w4.cell? ⟨w.heap.size + 1, 4, none⟩ = some (.bool false) by rw [hw4]; go_simp
            have xf4 := show w4.frozen? ⟨w.heap.size + 1, 4, none⟩ = false by rw [hw4]; go_simp
            have hcc : w4.cell? ⟨b, o + k, none⟩ = some (.int .u8 x) := by rw [← hx]; exact bat_at (HU.out.below SS.out) hlt
            clear hw4 xz yz
            obtain ⟨i0, hi, hz0', hz1', hz2'⟩ := info_parts info5
            have hbz := cell_lt hcc
            have xz := cell_lt xc0
            have yz := cell_lt zc0
            go_wp2_with (at_builtin; (refine wpList_append_own2 _ rfl _ _ 24 rfl (w.heap.size + 1 + 1) 5 i0 (.int .u8 0) 1 Try.underlying24 hi hz0' hz1' hz2' rfl vo (d.b.length + k) (u8s (d.b ++ ls.take k)) rfl (by repeat (first | with_reducible exact OW.out | with_reducible refine World.ownsRow.alloc ?_ _ | with_reducible refine ownsRow_setCell_below ?_ (by first | (simp; done) | (simp; omega)) _)) _ 1 1 [.int .u8 x] rfl rfl (cells_one (by go_simp)) (by simp [Value.oneCell']) (by unfold maxLen; omega) (by omega) (by (try simp); omega) ?_))
            intro v9 w9 o9 g9 f9
            have hne : ∀ q : Nat, q < w.heap.size + 1 + 1 → some q ≠ vo.ownBlock := fun q hq e => by have := hnb q e.symm; omega
            have hq : w9.cell? ⟨w.heap.size, 0, none⟩ = some (.int .i64 ↑d.room) ∧ w9.frozen? ⟨w.heap.size, 0, none⟩ = false := grown_cf g9 zc0 zf0 (hne _ (by omega))
            clear zc0 zf0
            obtain ⟨zc0, zf0⟩ := hq
            have hq : w9.cell? ⟨w.heap.size, 1, none⟩ = some (.int .i64 ↑d.safe) ∧ w9.frozen? ⟨w.heap.size, 1, none⟩ = false := grown_cf g9 zc1 zf1 (hne _ (by omega))
            clear zc1 zf1
            obtain ⟨zc1, zf1⟩ := hq
            have hq : w9.cell? ⟨w.heap.size, 2, none⟩ = some (.int .i64 l3) ∧ w9.frozen? ⟨w.heap.size, 2, none⟩ = false := grown_cf g9 zc2 zf2 (hne _ (by omega))
            clear zc2 zf2
            obtain ⟨zc2, zf2⟩ := hq
            have hq : w9.cell? ⟨w.heap.size, 3, none⟩ = some (.slice A d.b.length c) ∧ w9.frozen? ⟨w.heap.size, 3, none⟩ = false := grown_cf g9 zc3 zf3 (hne _ (by omega))
            clear zc3 zf3
            obtain ⟨zc3, zf3⟩ := hq
            have hq : w9.cell? ⟨w.heap.size, 4, none⟩ = some (.bool false) ∧ w9.frozen? ⟨w.heap.size, 4, none⟩ = false := grown_cf g9 zc4 zf4 (hne _ (by omega))
            clear zc4 zf4
            obtain ⟨zc4, zf4⟩ := hq
            have hq : w9.cell? ⟨w.heap.size + 1, 0, none⟩ = some (.int .i64 0) ∧ w9.frozen? ⟨w.heap.size + 1, 0, none⟩ = false := grown_cf g9 xc0 xf0 (hne _ (by omega))
            clear xc0 xf0
            obtain ⟨xc0, xf0⟩ := hq
            have hq : w9.cell? ⟨w.heap.size + 1, 1, none⟩ = some (.int .i64 0) ∧ w9.frozen? ⟨w.heap.size + 1, 1, none⟩ = false := grown_cf g9 xc1 xf1 (hne _ (by omega))
            clear xc1 xf1
            obtain ⟨xc1, xf1⟩ := hq
            have hq : w9.cell? ⟨w.heap.size + 1, 2, none⟩ = some (.int .i64 0) ∧ w9.frozen? ⟨w.heap.size + 1, 2, none⟩ = false := grown_cf g9 xc2 xf2 (hne _ (by omega))
            clear xc2 xf2
            obtain ⟨xc2, xf2⟩ := hq
            have hq : w9.cell? ⟨w.heap.size + 1, 3, none⟩ = some (.slice none 0 0) ∧ w9.frozen? ⟨w.heap.size + 1, 3, none⟩ = false := grown_cf g9 xc3 xf3 (hne _ (by omega))
            clear xc3 xf3
            obtain ⟨xc3, xf3⟩ := hq
            have hq : w9.cell? ⟨w.heap.size + 1, 4, none⟩ = some (.bool false) ∧ w9.frozen? ⟨w.heap.size + 1, 4, none⟩ = false := grown_cf g9 xc4 xf4 (hne _ (by omega))
            clear xc4 xf4
            obtain ⟨xc4, xf4⟩ := hq
            have S9 := Lib.hid (below_grown (balloc SS.out _) g9 (fun q hq => by have := hnb q hq; omega))
            have hs9 := g9.size
            have o9 : w9.ownsRow (w.heap.size + 1 + 1) 5 1 v9 (d.b.length + (k + 1)) (u8s (d.b ++ ls.take (k + 1))) := by
              have h9 := o9
              rw [htake, ← List.append_assoc, u8s_snoc]
              rw [show d.b.length + (k + 1) = d.b.length + k + 1 by omega]
              exact h9
            have hfd9 : d.feed ls = Dsk.feed { d with b := d.b ++ ls.take (k + 1), left := l3 } (ls.drop (k + 1)) := by
              rw [FD.out, hdrop, Dsk.feed, if_neg hz, htake, ← List.append_assoc, ← hl3]; rfl
            have O9 := Lib.hid o9
            have FD9 := Lib.hid hfd9
            clear g9 f9 o9 hfd9
            go_wp2_with fail
            go_roundw
            case rel => exact ⟨k + 1, v9, l3, by omega, by go_num, rfl, O9.out, S9.out, by simp at hs9; omega, hl3b, FD9.out, zc0, zf0, zc1, zf1, zc2, zf2, zc3, zf3, zc4, zf4, xc0, xf0, xc1, xf1, xc2, xf2, xc3, xf3, xc4, xf4⟩
            case measure => (try simp [intOf]) <;> omega
        · have hke : k = ls.length := by omega
          have hres : d.feed ls = ({ d with b := d.b ++ ls, left := l2 }, 0) := by rw [FD.out, hke, List.drop_length, List.take_length]; rfl
          have BB := Lib.hid (show BAt wr vo (d.b ++ ls) by have h9 := BB.out; rw [hke, List.take_length] at h9; exact h9)
          obtain ⟨A9, c9, e9⟩ := len_of_own OW.out
          obtain ⟨n9, hn9⟩ : ∃ n9, d.b.length + k = n9 := ⟨_, rfl⟩
          rw [hn9] at e9
          subst e9
          have xz := cell_lt xc0
          have yz := cell_lt zc0
          clear FD OW
          go_wp2_with fail
          refine bodyPost_ret (v := .tuple #[.agg #[.int .i64 ↑d.room, .int .i64 ↑d.safe, .int .i64 l2, .slice A9 n9 c9, .bool d.off], .int .i64 0]) ?_ rfl ?_
          · simp [results, Try.results44, go_sem, *]
          · rw [hres]
            exact ⟨.slice A9 n9 c9, by simp [rag], (by repeat (first | with_reducible exact BB.out | with_reducible refine bat_alloc ?_ _ | with_reducible refine bat_setB ?_ hnb (by first | (simp; done) | (simp; omega)) _)), (by repeat (first | with_reducible exact SS.out | with_reducible refine balloc ?_ _ | with_reducible refine bset ?_ (by first | (simp; done) | (simp; omega)) _)), .inr (fun q hq => by have := hnb q hq; omega)⟩
end Go.Proofs.Ythgaphfelpnclaa
