/- The log, plain: what is upon the disk, whatever crashes. -/
import Derived.Test.YthgaphfelpnclaaLh
import Derived.Test.YthgaphfelpnclaaNback
set_option linter.unusedVariables false
set_option linter.unusedSimpArgs false
namespace Go.Proofs.Ythgaphfelpnclaa
open Go.RowKit
/-- The power is on, and all records that were told are safe. -/
structure Good (d : Dsk) (rs : List Rc) : Prop where
  off : d.off = false
  b : d.b = catB rs
  safe : d.safe = d.b.length
  room : d.room = 3000
  all : ∀ x ∈ rs, x.ok ∧ x.right = true
/-- The power went within a record. -/
structure Torn (d : Dsk) (rs : List Rc) (x : Rc) : Prop where
  off : d.off = true
  b : ∃ j, j ≤ x.bytes.length ∧ d.b = catB rs ++ x.bytes.take j
  safe : d.safe = (catB rs).length
  room : d.room = 3000
  all : ∀ y ∈ rs ++ [x], y.ok ∧ y.right = true
/-- Behind the crash. -/
structure Mid (d : Dsk) (rs : List Rc) (x : Rc) : Prop where
  off : d.off = false
  b : ∃ j, j ≤ x.bytes.length ∧ d.b = catB rs ++ x.bytes.take j
  safe : d.safe = d.b.length
  room : d.room = 3000
  all : ∀ y ∈ rs ++ [x], y.ok ∧ y.right = true
theorem Good.sparks {d : Dsk} {rs : List Rc} (h : Good d rs) (n : Int) : Good (d.sparks n) rs := ⟨h.off, h.b, h.safe, h.room, h.all⟩
theorem Mid.sparks {d : Dsk} {rs : List Rc} {x : Rc} (h : Mid d rs x) (n : Int) : Mid (d.sparks n) rs x := ⟨h.off, h.b, h.safe, h.room, h.all⟩
theorem feed_on : ∀ (ls : List Int) (d : Dsk), d.off = false → ∃ j, j ≤ ls.length ∧ (d.feed ls).1.b = d.b ++ ls.take j ∧ (d.feed ls).1.safe = d.safe ∧ (d.feed ls).1.room = d.room ∧ (((d.feed ls).2 = 0 ∧ j = ls.length ∧ (d.feed ls).1.off = false) ∨ ((d.feed ls).2 = 6 ∧ (d.feed ls).1.off = true))
  | [], d, ho => ⟨0, by simp, by simp [Dsk.feed], by simp [Dsk.feed], by simp [Dsk.feed], .inl ⟨rfl, rfl, by simpa [Dsk.feed] using ho⟩⟩
  | x :: r, d, ho => by
    by_cases hz : d.left = 0
    · refine ⟨0, by simp, ?_, ?_, ?_, .inr ⟨?_, ?_⟩⟩ <;> simp [Dsk.feed, hz, Dsk.dark]
    · obtain ⟨j, h1, h2, h3, h4, h5⟩ := feed_on r { d.dec with b := d.b ++ [x] } ho
      have e : d.feed (x :: r) = Dsk.feed { d.dec with b := d.b ++ [x] } r := by rw [Dsk.feed, if_neg hz]
      rw [e]
      refine ⟨j + 1, by simp; omega, by rw [h2]; simp, by rw [h3]; rfl, by rw [h4]; rfl, ?_⟩
      rcases h5 with ⟨a, b, c⟩ | ⟨a, b⟩
      · exact .inl ⟨a, by simp; omega, c⟩
      · exact .inr ⟨a, b⟩
theorem put_keeps {d d2 : Dsk} {rs : List Rc} {x : Rc} {r : Int} (h : Good d rs) (hok : x.ok) (e : d.put x = (d2, r)) :
    (r = 50 ∧ d2 = d) ∨ (r = 5 ∧ d2 = d) ∨ (r = 0 ∧ x.right = true ∧ Good d2 (rs ++ [x])) ∨ (r = 6 ∧ x.right = true ∧ Torn d2 rs x) := by
  unfold Dsk.put at e
  by_cases hr : x.right = true
  · rw [if_pos hr] at e
    have hall : ∀ y ∈ rs ++ [x], y.ok ∧ y.right = true := fun y hy => by
      rcases List.mem_append.1 hy with hy | hy
      · exact h.all y hy
      · obtain rfl : y = x := by simpa using hy
        exact ⟨hok, hr⟩
    by_cases hf : (d.room : Int) - d.b.length < x.bytes.length
    · have ea : d.app x.bytes = (d, 5) := by simp only [Dsk.app, h.off, Bool.false_eq_true, if_false, Dsk.appOn, if_pos hf]
      rw [ea] at e
      simp at e
      exact .inr (.inl ⟨e.2.symm, e.1.symm⟩)
    · have ea : d.app x.bytes = d.feed x.bytes := by simp only [Dsk.app, h.off, Bool.false_eq_true, if_false, Dsk.appOn, if_neg hf]
      rw [ea] at e
      obtain ⟨j, h1, h2, h3, h4, h5⟩ := feed_on x.bytes d h.off
      obtain ⟨d1, r1, hd1⟩ : ∃ d1 r1, d.feed x.bytes = (d1, r1) := ⟨_, _, rfl⟩
      rw [hd1] at e h2 h3 h4 h5
      simp only at e h2 h3 h4 h5
      rcases h5 with ⟨rfl, hj, ho⟩ | ⟨rfl, ho⟩
      · rw [if_pos rfl] at e
        by_cases hz : d1.left = 0
        · have es : d1.sync = (d1.dark, 6) := by simp [Dsk.sync, Dsk.syncOn, ho, hz]
          rw [es] at e
          injection e with e1 e2
          subst e1 e2
          exact .inr (.inr (.inr ⟨rfl, hr, ⟨rfl, ⟨j, h1, by rw [← h.b]; exact h2⟩, by rw [← h.b, ← h.safe]; exact h3, by rw [← h.room]; exact h4, hall⟩⟩))
        · have es : d1.sync = ({ d1.dec with safe := d1.b.length }, 0) := by simp [Dsk.sync, Dsk.syncOn, ho, hz]
          rw [es] at e
          injection e with e1 e2
          subst e1 e2
          refine .inr (.inr (.inl ⟨rfl, hr, ⟨ho, ?_, rfl, by rw [← h.room]; exact h4, hall⟩⟩))
          show d1.b = _
          rw [h2, hj, List.take_length, h.b, catB_snoc]
      · rw [if_neg (by decide)] at e
        injection e with e1 e2
        subst e1 e2
        exact .inr (.inr (.inr ⟨rfl, hr, ⟨ho, ⟨j, h1, by rw [← h.b]; exact h2⟩, by rw [← h.b, ← h.safe]; exact h3, by rw [← h.room]; exact h4, hall⟩⟩))
  · rw [if_neg hr] at e
    injection e with e1 e2
    exact .inl ⟨e2.symm, e1.symm⟩
theorem crash_mid {d : Dsk} {rs : List Rc} {x : Rc} (hb : ∃ j, j ≤ x.bytes.length ∧ d.b = catB rs ++ x.bytes.take j) (hs : (catB rs).length ≤ d.safe) (hsl : d.safe ≤ d.b.length) (hr : d.room = 3000) (hall : ∀ y ∈ rs ++ [x], y.ok ∧ y.right = true) (k : Int) : Mid (d.crash k) rs x ∧ (d.crash k).left = -1 := by
  obtain ⟨j, hj, hb⟩ := hb
  have hk : d.safe ≤ d.keep k ∧ d.keep k ≤ d.b.length := by simp only [Dsk.keep]; omega
  refine ⟨⟨rfl, ?_, ?_, hr, hall⟩, rfl⟩
  · refine ⟨min (d.keep k - (catB rs).length) j, by omega, ?_⟩
    show d.b.take (d.keep k) = _
    rw [hb, List.take_append, List.take_of_length_le (by omega), List.take_take]
  · show d.keep k = (d.b.take (d.keep k)).length
    rw [List.length_take]; omega
theorem Torn.crash {d : Dsk} {rs : List Rc} {x : Rc} (h : Torn d rs x) (hs : d.safe ≤ d.b.length) (k : Int) : Mid (d.crash k) rs x ∧ (d.crash k).left = -1 :=
  crash_mid h.b (by rw [h.safe]; exact Nat.le_refl _) hs h.room h.all k
theorem Mid.u8 {d : Dsk} {rs : List Rc} {x : Rc} (h : Mid d rs x) : U8s d.b := by
  obtain ⟨j, _, hb⟩ := h.b
  rw [hb]
  have hx := h.all x (by simp)
  exact (catB_u8 (fun y hy => h.all y (by simp [hy]))).append (u8s_take' (hx.1.bytes hx.2) j)
theorem Good.u8 {d : Dsk} {rs : List Rc} (h : Good d rs) : U8s d.b := by rw [h.b]; exact catB_u8 h.all
theorem Good.reads {d : Dsk} {rs : List Rc} (h : Good d rs) : Reads d.b rs d.b.length := by
  rw [h.b]; simpa using reads_cat rs [] h.all first_nil
theorem Mid.reads {d : Dsk} {rs : List Rc} {x : Rc} (h : Mid d rs x) : ∃ got, (got = rs ∨ got = rs ++ [x]) ∧ Reads d.b got (catB got).length ∧ d.b.take (catB got).length = catB got ∧ (catB got).length ≤ d.b.length ∧ (catB rs).length ≤ (catB got).length ∧ ∀ y ∈ got, y.ok ∧ y.right = true := by
  obtain ⟨j, hj, hb⟩ := h.b
  by_cases hlt : j < x.bytes.length
  · refine ⟨rs, .inl rfl, ?_, by rw [hb, List.take_left], by rw [hb, List.length_append]; omega, Nat.le_refl _, fun y hy => h.all y (by simp [hy])⟩
    rw [hb]
    exact reads_cat rs _ (fun y hy => h.all y (by simp [hy])) (first_cut hlt)
  · have he : d.b = catB (rs ++ [x]) := by rw [hb, catB_snoc, List.take_of_length_le (by omega)]
    refine ⟨rs ++ [x], .inr rfl, ?_, by rw [he, List.take_length], by rw [he]; exact Nat.le_refl _, by rw [catB_snoc, List.length_append]; omega, h.all⟩
    rw [he]
    simpa using reads_cat (rs ++ [x]) [] h.all first_nil
theorem sync_good {d : Dsk} {got : List Rc} (ho : d.off = false) (hb : d.b = catB got) (hr : d.room = 3000) (hg : ∀ y ∈ got, y.ok ∧ y.right = true) (hz : d.left ≠ 0) : Good d.sync.1 got ∧ d.sync.2 = 0 := by
  have es : d.sync = ({ d.dec with safe := d.b.length }, 0) := by simp [Dsk.sync, Dsk.syncOn, ho, hz]
  rw [es]
  exact ⟨⟨ho, hb, rfl, hr, hg⟩, rfl⟩
theorem sync_dark {d : Dsk} (ho : d.off = false) (hz : d.left = 0) : d.sync = (d.dark, 6) := by simp [Dsk.sync, Dsk.syncOn, ho, hz]
/-- Opening behind a crash: all records, or the power goes once more. -/
theorem open_mid {d d2 : Dsk} {rs got : List Rc} {x : Rc} {n : Nat} {r : Int} (h : Mid d rs x) (hr : Reads d.b got n) (e : d.open_ n = (d2, r)) :
    (r = 0 ∧ Good d2 got) ∨ (r = 6 ∧ d.left ≠ -1 ∧ d2.safe ≤ d2.b.length ∧ ∀ k, Mid (d2.crash k) rs x ∧ (d2.crash k).left = -1) := by
  obtain ⟨got2, hg, hrd, ht, hn, hlo, hga⟩ := h.reads
  obtain ⟨rfl, rfl⟩ := hr.det hrd
  have hmono : ∀ dd : Dsk, dd.b = d.b → dd.safe = d.safe → dd.room = d.room → dd.safe ≤ dd.b.length ∧ ∀ k, Mid (dd.crash k) rs x ∧ (dd.crash k).left = -1 := fun dd h1 h2 h3 =>
    ⟨by rw [h1, h2, h.safe]; exact Nat.le_refl _, fun k => crash_mid (by rw [h1]; exact h.b) (by rw [h2, h.safe]; omega) (by rw [h1, h2, h.safe]; exact Nat.le_refl _) (by rw [h3]; exact h.room) h.all k⟩
  unfold Dsk.open_ at e
  by_cases hlt : (catB got).length < d.b.length
  · rw [if_pos hlt] at e
    by_cases hz : d.left = 0
    · have ec : d.cut (catB got).length = (d.dark, 6) := by
        simp only [Dsk.cut, h.off, Bool.false_eq_true, if_false, Dsk.cutOn]
        rw [if_neg (by omega), if_pos hz]
      rw [ec, if_neg (show ¬ (6 : Int) = 0 by decide)] at e
      injection e with e1 e2
      subst e1 e2
      exact .inr ⟨rfl, by omega, hmono _ rfl rfl rfl⟩
    · have ec : d.cut (catB got).length = ({ d.dec with b := d.b.take (catB got).length, safe := min d.safe (catB got).length }, 0) := by
        simp only [Dsk.cut, h.off, Bool.false_eq_true, if_false, Dsk.cutOn]
        rw [if_neg (by omega), if_neg hz]
        simp
      rw [ec, if_pos rfl] at e
      simp only at e
      rw [ht] at e
      obtain ⟨dc, hdc⟩ : ∃ dc, dc = ({ d.dec with b := catB got, safe := min d.safe (catB got).length } : Dsk) := ⟨_, rfl⟩
      rw [← hdc] at e
      have h1 : dc.off = false := by rw [hdc]; exact h.off
      have h2 : dc.b = catB got := by rw [hdc]
      have h3 : dc.room = 3000 := by rw [hdc]; exact h.room
      have h4 : dc.safe = (catB got).length := by rw [hdc]; show min d.safe _ = _; rw [h.safe]; omega
      by_cases hz2 : dc.left = 0
      · rw [sync_dark h1 hz2] at e
        injection e with e1 e2
        subst e1 e2
        refine .inr ⟨rfl, fun h9 => ?_, ?_, fun k => ?_⟩
        · rw [hdc] at hz2
          simp [Dsk.dec, h9] at hz2
        · show dc.safe ≤ dc.b.length
          rw [h4, h2]; exact Nat.le_refl _
        · refine crash_mid ?_ ?_ ?_ h3 h.all k
          · rcases hg with rfl | rfl
            · exact ⟨0, by omega, by show dc.b = _; rw [h2]; simp⟩
            · exact ⟨x.bytes.length, Nat.le_refl _, by show dc.b = _; rw [h2, catB_snoc, List.take_length]⟩
          · show _ ≤ dc.safe
            rw [h4]; exact hlo
          · show dc.safe ≤ dc.b.length
            rw [h4, h2]; exact Nat.le_refl _
      · obtain ⟨g1, g2⟩ := sync_good h1 h2 h3 hga hz2
        rw [e] at g1 g2
        exact .inl ⟨g2, g1⟩
  · rw [if_neg hlt] at e
    have hb : d.b = catB got := by rw [← ht, List.take_of_length_le (by omega)]
    by_cases hz : d.left = 0
    · rw [sync_dark h.off hz] at e
      injection e with e1 e2
      subst e1 e2
      exact .inr ⟨rfl, by omega, hmono _ rfl rfl rfl⟩
    · obtain ⟨g1, g2⟩ := sync_good h.off hb h.room hga hz
      rw [e] at g1 g2
      exact .inl ⟨g2, g1⟩
theorem open_good {d : Dsk} {rs : List Rc} (h : Good d rs) (hl : d.left ≠ 0) : ∃ d2, d.open_ d.b.length = (d2, 0) ∧ Good d2 rs := by
  obtain ⟨g1, g2⟩ := sync_good h.off h.b h.room h.all hl
  refine ⟨d.sync.1, ?_, g1⟩
  unfold Dsk.open_
  rw [if_neg (by omega), ← g2]
end Go.Proofs.Ythgaphfelpnclaa
