/- The disk: cutting. -/
import Derived.Test.YthgaphfelpnclaaDm
import Derived.Test.YthgaphfelpnclaaTk
set_option linter.unusedVariables false
set_option linter.unusedSimpArgs false
namespace Go.Proofs.Ythgaphfelpnclaa
open Go.RowKit

/-- The disk's row is cut to its first m, and what is safe with it. -/
theorem DS.cut2 {w : World} {base B : Nat} {A : Option Addr} {n cp : Nat} {d d2 : Dsk} (h : DS w base B (.slice A n cp) d) {m : Nat} (hn : n = d.b.length) (hm : m ≤ d.b.length) (hb : d2.b = d.b.take m) (e2 : d2.room = d.room) {s : Int} (e3 : (d2.safe : Int) = s) (e4 : d2.left = d.left) (e5 : d2.off = d.off) (hs : d2.safe ≤ m) :
    DS ((w.setCell ⟨B, 1, none⟩ (.slice A m cp)).setCell ⟨B, 3, none⟩ (.int .i64 s)) base B (.slice A m cp) d2 := by
  subst hn
  have hl2 : d2.b.length = m := by rw [hb, List.length_take]; omega
  have hsep : some B ≠ (Value.slice A m cp).ownBlock := by rw [ob A m cp d.b.length cp]; exact h.sep
  refine ⟨by rw [cell_set (cell_set h.c0)]; rfl, by rw [cell_set (cell_set h.c1)]; rfl, by rw [cell_set (cell_set h.c2), e2]; rfl, by rw [cell_set (cell_set h.c3), ← e3]; rfl, by rw [cell_set (cell_set h.c4), e4]; rfl, by rw [cell_set (cell_set h.c5), e5]; rfl,
   fun j hj => by rw [World.frozen?_setCell, World.frozen?_setCell]; exact h.fz j hj, ?_, hsep, h.lo, by omega, by rw [e4]; exact h.hl, by rw [hl2, e2]; have := h.hr; omega⟩
  rw [hl2, hb, u8s_take]
  exact own_setB (own_setB (own_take h.own hm) hsep) hsep

theorem cut_end {base B m cp : Nat} {A : Option Addr} {d : Dsk} {w w1 : World} {v : Value} (h1 : DS w1 base B (.slice A d.b.length cp) d.dec) (s1 : Step B v (.slice A d.b.length cp) w w1)
    (num : m ≤ d.b.length ∧ (d.b.length ≤ cp ∧ cp ≤ maxLen) ∧ ¬ ((m : Int) < 0 ∨ (d.b.length : Int) < m) ∧ ¬ d.left = 0) {e : Ending} (he : e = .returned (.int .i64 0)) :
    ∃ v2, DS ((w1.setCell ⟨B, 1, none⟩ (.slice A m cp)).setCell ⟨B, 3, none⟩ (.int .i64 (min (d.dec.safe : Int) m))).drew base B v2 (d.cutOn m).1 ∧ Step B v v2 w ((w1.setCell ⟨B, 1, none⟩ (.slice A m cp)).setCell ⟨B, 3, none⟩ (.int .i64 (min (d.dec.safe : Int) m))).drew ∧ ((e = .panicked dark ∧ (d.cutOn m).2 = 6) ∨ e = .returned (.int .i64 (d.cutOn m).2)) := by
  obtain ⟨hml, hcap, hnn, hl⟩ := num
  have hres : d.cutOn m = ({ d.dec with b := d.b.take m, safe := min d.safe m }, 0) := by simp only [Dsk.cutOn, if_neg hnn, if_neg hl, Int.toNat_natCast]
  have hd := h1.cut2 (m := m) (d2 := { d.dec with b := d.b.take m, safe := min d.safe m }) (s := min (d.safe : Int) m) rfl hml rfl rfl (by simp only; omega) rfl rfl (by simp only; omega)
  rw [hres]
  exact ⟨_, hd.below ((Below.refl _ _).drew), (((s1.set (p := ⟨B, 1, none⟩) rfl _).set (p := ⟨B, 3, none⟩) rfl _).recut (m := m)).below ((Below.refl _ _).drew), .inr he⟩

set_option maxRecDepth 100000 in
set_option maxHeartbeats 4000000 in
theorem cut_cl {base B pd pn : Nat} {v : Value} {d : Dsk} {n : Int} (w : World) (h : DS w base B v d) (hp : w.cell? ⟨pd, 0, none⟩ = some (.pointer (some ⟨B, 0, none⟩))) (hpB : pd ≠ B) (hpv : some pd ≠ v.ownBlock)
    (hq : w.cell? ⟨pn, 0, none⟩ = some (.int .i64 n)) (hqB : pn ≠ B) (hqv : some pn ≠ v.ownBlock) :
    Calls Try.prog 66 #[.pointer (some ⟨pn, 0, none⟩), .pointer (some ⟨pd, 0, none⟩)] w fun e w' => ∃ v2, DS w' base B v2 (d.cutOn n).1 ∧ Step B v v2 w w' ∧ ((e = .panicked dark ∧ (d.cutOn n).2 = 6) ∨ e = .returned (.int .i64 (d.cutOn n).2)) := by
  have c1 := h.c1
  obtain ⟨A, cp, rfl⟩ := len_of_own h.own
  go_enter Try.func66, Try.ntmps66
  by_cases hn0 : n < 0
  · have e0 : decide (n < 0) = true := by simpa using hn0
    go_wp2_with fail
    go_region
    all_goals (go_wp2_with fail; go_ret; exact ⟨_, by simpa [Dsk.cutOn, hn0] using h.below ((Below.refl _ w).drew), Step.of_below ((Below.refl _ w).drew), .inr (by simp [Dsk.cutOn, hn0])⟩)
  · have e0 : decide (n < 0) = false := by simpa using hn0
    by_cases hn1 : (d.b.length : Int) < n
    · have e1 : decide ((d.b.length : Int) < n) = true := by simpa using hn1
      go_wp2_with fail
      go_region
      all_goals (go_wp2_with fail; go_ret; exact ⟨_, by simpa [Dsk.cutOn, hn1] using h.below ((Below.refl _ w).drew), Step.of_below ((Below.refl _ w).drew), .inr (by simp [Dsk.cutOn, hn1])⟩)
    · have e1 : decide ((d.b.length : Int) < n) = false := by simpa using hn1
      obtain ⟨m, rfl⟩ := Int.eq_ofNat_of_zero_le (show 0 ≤ n by omega)
      have hml : m ≤ d.b.length := by omega
      have hnn : ¬ ((m : Int) < 0 ∨ (d.b.length : Int) < m) := by omega
      have hcap := own_cap h.own
      have hmc : (m : Int) ≤ (cp : Int) := by omega
      go_wp2_with fail
      go_region
      go_wp2_with fail
      by_cases hl : d.left = 0
      · with_reducible refine (spark_dark _ (h.below ((Below.refl _ w).drew)) hl).mono ?_
        rintro e1 w1 ⟨rfl, h1, s1⟩
        go_wp2_with fail
        exact ⟨rfl, _, by simpa only [Dsk.cutOn, if_neg hnn, if_pos hl] using h1, (Step.of_below ((Below.refl _ w).drew)).trans s1, .inl ⟨rfl, by simp only [Dsk.cutOn, if_neg hnn, if_pos hl]⟩⟩
      · with_reducible refine (spark_ok _ (h.below ((Below.refl _ w).drew)) hl).mono ?_
        rintro e1 w1 ⟨rfl, h1, s1⟩
        have s1 := (Step.of_below ((Below.refl _ w).drew)).trans s1
        have p1 := s1.cell hp hpB hpv
        have q1 := s1.cell hq hqB hqv
        have k1 := h1.c1
        have k3 := h1.c3
        have f1 := h1.fz 1 (by decide)
        have f3 := h1.fz 3 (by decide)
        go_wp2_with fail
        have NUM := Lib.hid (And.intro hml (And.intro hcap (And.intro hnn hl)))
        have H1 := Lib.hid h1
        have S1 := Lib.hid s1
        clear h hpv hqv c1 hq s1 h1 hml hcap hnn hl e0 e1
        refine wp_region_head 13 14 (#[true, true, true, true, true, true, true, true, true, true, true, true, true, false, false, false, false, false, false, false] : Array Bool) ?hm ?hs ?hl ?hB ?_
        case hm => kernel_rfl
        case hs => kernel_rfl
        case hl => simp
        case hB => kernel_rfl
        simp only [List.take_succ_cons, List.take_zero]
        repeat still_step
        refine wpStill_nil ?_
        refine wpT_base 13 6 (.int .i64 (min (d.dec.safe : Int) m)) rfl (by kernel_rfl) (by kernel_rfl) (by kernel_rfl) (by kernel_rfl) rfl (by kernel_rfl) (fun _ _ _ h => h) (.inl ⟨rfl, fun _ => by go_simp⟩) ?_
        simp only [List.drop_succ_cons, List.drop_zero, Act.put, List.setIfInBounds_toArray, List.set_cons_zero, List.set_cons_succ]
        go_wp2_with fail
        go_ret
        exact cut_end H1.out S1.out NUM.out rfl
end Go.Proofs.Ythgaphfelpnclaa
