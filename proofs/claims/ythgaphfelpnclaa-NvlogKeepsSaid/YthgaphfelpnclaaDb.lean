/- The disk: what appending does. -/
import Derived.Test.YthgaphfelpnclaaDa
import Derived.BigQuiet
import Derived.Deep.RegionLaw
set_option linter.unusedVariables false
set_option linter.unusedSimpArgs false
namespace Go.Proofs.Ythgaphfelpnclaa
open Go.RowKit

set_option maxRecDepth 100000 in
set_option maxHeartbeats 1000000 in
theorem app_cl {base B pd pb : Nat} {v u : Value} {d : Dsk} {ls : List Int} (w : World) (h : DS w base B v d) (hp : w.cell? ⟨pd, 0, none⟩ = some (.pointer (some ⟨B, 0, none⟩))) (hpB : pd ≠ B) (hpv : some pd ≠ v.ownBlock)
    (hq : w.cell? ⟨pb, 0, none⟩ = some u) (hqB : pb ≠ B) (hqv : some pb ≠ v.ownBlock) (hu : BAt w u ls) (ha : ls ≠ [] → Apart B v u) :
    Calls Try.prog 61 #[.pointer (some ⟨pb, 0, none⟩), .pointer (some ⟨pd, 0, none⟩)] w fun e w' => ∃ v2, DS w' base B v2 (d.appOn ls).1 ∧ Step B v v2 w w' ∧ ((e = .panicked dark ∧ (d.appOn ls).2 = 6) ∨ e = .returned (.int .i64 (d.appOn ls).2)) := by
  have c1 := h.c1
  have c2 := h.c2
  have hr := h.hr
  obtain ⟨A, cp, rfl⟩ := len_of_own h.own
  obtain ⟨A2, cp2, rfl, hn2, hm2, hc2⟩ := hu
  unfold maxLen at hm2
  have HC2 := Lib.hid hc2
  clear hc2
  go_enter Try.func61, Try.ntmps61
  have hw : IntKind.i64.wrap ((d.room : Int) - (d.b.length : Int)) = (d.room : Int) - (d.b.length : Int) := IntWalk.i64_in _ (by omega)
  by_cases hn : (d.room : Int) - d.b.length < ls.length
  · go_wp2_with fail
    go_quiet (fail)
    go_wp2_with fail
    go_ret
    exact ⟨_, by simpa only [Dsk.appOn, if_pos hn] using h.below (below_drewN (Below.refl _ w) _), Step.of_below (below_drewN (Below.refl _ w) _), .inr (by simp only [Dsk.appOn, if_pos hn]; rfl)⟩
  · go_wp2_with fail
    go_quiet (fail)
    go_wp2_with fail
    go_loopw [20] (fun i wr => ∃ k : Nat, k ≤ ls.length ∧ i = .int .i64 k ∧ ∃ v2 d2, DS wr base B v2 d2 ∧ Step B (.slice A d.b.length cp) v2 w wr ∧ d.feed ls = d2.feed (ls.drop k) ∧ d2.room = d.room ∧ d2.b.length + (ls.length - k) ≤ d.room) (fun i _ => ls.length - (intOf i).toNat)
    case atStart => exact ⟨0, by omega, rfl, _, d, h.below (below_drewN (Below.refl _ w) _), Step.of_below (below_drewN (Below.refl _ w) _), by simp, rfl, by omega⟩
    case round =>
      obtain ⟨k, hk, rfl, v2, d2, hd, hst, hf, hroom, hlen⟩ := hrel
      have p1 := hst.cell hp hpB hpv
      have q1 := hst.cell hq hqB hqv
      by_cases hlt : k < ls.length
      · obtain ⟨b, o, rfl, hcc⟩ := HC2.out k hlt
        obtain ⟨a1, a2⟩ := ha (by intro h0; rw [h0] at hlt; simp at hlt) b rfl
        have x1 := hst.cell hcc a1 a2
        obtain ⟨x, hx⟩ : ∃ x, ls.getD k 0 = x := ⟨_, rfl⟩
        rw [hx] at x1
        have hdrop : ls.drop k = x :: ls.drop (k + 1) := by
          rw [← hx, List.getD, List.getElem?_eq_getElem hlt, Option.getD_some]
          exact List.drop_eq_getElem_cons hlt
        go_wp2_with fail
        by_cases hl : d2.left = 0
        · with_reducible refine (spark_dark _ hd hl).mono ?_
          rintro e1 w1 ⟨rfl, h1, s1⟩
          go_wp2_with fail
          have hres : d.appOn ls = (d2.dark, 6) := by simp only [Dsk.appOn, if_neg (show ¬ ((d.room : Int) - d.b.length < ls.length) by omega), hf, hdrop, Dsk.feed, if_pos hl]
          rw [hres]
          exact ⟨rfl, _, h1, hst.trans s1, .inl ⟨rfl, rfl⟩⟩
        · with_reducible refine (spark_ok _ hd hl).mono ?_
          rintro e1 w1 ⟨rfl, h1, s1⟩
          have s2 := hst.trans s1
          have p2 := s2.cell hp hpB hpv
          have k1 := h1.c1
          have f1 := h1.fz 1 (by decide)
          have hvB : some B ≠ v2.ownBlock := h1.sep
          have hvp : some pd ≠ v2.ownBlock := fun e => hpv (s2.fresh pd (cell_lt hp) e)
          have H1 := Lib.hid h1
          have S2 := Lib.hid s2
          have hsz := h1.hb
          have hbl := h1.hr
          have hbz := h1.lt
          have hpz := cell_lt p2
          obtain ⟨i0, hi, hz0', hz1', hz2'⟩ := info_parts info5
          clear hd hst s1 s2 h1 p1 q1 x1 hcc h c1 c2
          go_wp2_with fail
          go_region_law (first
            | (refine step_own2 rfl (.tmp 30) (.tmp 32) 24 rfl base 5 i0 (.int .u8 0) 1 Try.underlying24 hi hz0' hz1' hz2' rfl v2 d2.b.length (u8s d2.b) rfl ?own _ 1 1 [.int .u8 x] rfl rfl ?hn (by simp [Value.oneCell']) (by unfold maxLen; omega) (by omega) ?hsz ?_
               case own => exact own_below H1.out.own (by repeat (first | exact Below.refl _ _ | refine balloc ?_ _ | refine bdrew ?_))
               case hn => exact cells_one (by go_simp)
               case hsz => (simp; omega)
               intro v9 w9 o9 g9 f9
               obtain ⟨A9, cp9, rfl⟩ := len_of_own o9
               have k9 : w9.cell? ⟨B, 1, none⟩ = some v2 := g9.cell (by go_simp) hvB
               have z9 : w9.frozen? ⟨B, 1, none⟩ = false := grown_frozen g9 (a := ⟨B, 1, none⟩) (v := v2) (by go_simp) (by go_simp) hvB
               have p9 : w9.cell? ⟨pd, 0, none⟩ = some (.pointer (some ⟨B, 0, none⟩)) := g9.cell (by go_simp) hvp)
            | fail)
          all_goals
            (go_wp2_with fail
             go_roundw
             case rel =>
               obtain ⟨q1, q2⟩ := H1.out.appended (by repeat (first | exact Below.refl _ _ | refine balloc ?_ _ | refine bdrew ?_)) g9 o9 f9 (show d2.b.length + 1 ≤ d2.room by omega)
               exact ⟨k + 1, by omega, by go_num, _, _, q1, S2.out.trans q2, by rw [hf, hdrop, Dsk.feed, if_neg hl]; rfl, hroom, by (show (d2.b ++ [x]).length + _ ≤ _; rw [List.length_append, List.length_singleton]; omega)⟩
             case measure => (try simp [intOf]) <;> omega)
      · go_wp2_with fail
        go_ret
        have hke : k = ls.length := by omega
        have hres : d.appOn ls = (d2, 0) := by simp only [Dsk.appOn, if_neg (show ¬ ((d.room : Int) - d.b.length < ls.length) by omega), hf, hke, List.drop_length, Dsk.feed]
        rw [hres]
        exact ⟨_, hd, hst, .inr rfl⟩
end Go.Proofs.Ythgaphfelpnclaa
