/- Whether two rows of numbers are the same; the examples of the queue's chapter. -/
import Derived.Test.YtnhfholodillaaaQf
set_option linter.unusedVariables false
set_option linter.unusedSimpArgs false
namespace Go.Proofs.Ytnhfholodillaaa
open Go.RowKit

/-- A slice of numbers. -/
def U32At (w : World) (v : Value) (ls : List Int) : Prop :=
  ∃ (A : Option Addr) (c : Nat), v = .slice A ls.length c ∧ ls.length ≤ c ∧ c ≤ maxLen ∧ ∀ i, i < ls.length → ∃ b o, A = some ⟨b, o, none⟩ ∧ w.cell? ⟨b, o + i, none⟩ = some (.int .u32 (ls.getD i 0)) ∧ w.frozen? ⟨b, o + i, none⟩ = false
theorem U32At.of_own {w : World} {base : Nat} {v : Value} {ls : List Int} (h : w.ownsRow base 22 1 v ls.length (ls.map (Value.int .u32))) : U32At w v ls := by
  rcases h.2 with ⟨rfl, h0⟩ | ⟨g, cap, cur, rfl, hb, hg, hn, hc, hs, ht⟩
  · have : ls = [] := List.length_eq_zero_iff.1 h0
    subst this
    exact ⟨none, 0, rfl, by simp, by simp, fun i hi => absurd hi (by simp)⟩
  · refine ⟨_, cap, rfl, hn, hc, fun i hi => ⟨g, 0, rfl, ?_, ?_⟩⟩
    · have := h.cellAt i (by omega)
      rw [Nat.zero_add, this]
      simp [hi, List.getD]
    · exact h.frozenAt _
theorem U32At.below {w w' : World} {v : Value} {ls : List Int} (h : U32At w v ls) (hb : Below w.heap.size w w') : U32At w' v ls := by
  obtain ⟨A, c, h1, h2, h3, h4⟩ := h
  exact ⟨A, c, h1, h2, h3, fun i hi => by obtain ⟨b, o, e1, e2, e3⟩ := h4 i hi; exact ⟨b, o, e1, keep hb e2, keepF hb _ e2 e3⟩⟩

set_option maxRecDepth 100000 in
set_option maxHeartbeats 1000000 in
theorem same_true {v1 v2 : Value} {ls : List Int} (w : World) (h1 : U32At w v1 ls) (h2 : U32At w v2 ls) :
    Calls Try.prog 41 #[v1, v2] w fun e' w' => e' = .returned (.bool true) ∧ Below w.heap.size w w' := by
  obtain ⟨A1, c1, rfl, g1, m1, hc1⟩ := h1
  obtain ⟨A2, c2, rfl, g2, m2, hc2⟩ := h2
  unfold maxLen at m1
  have H1 := Lib.hid hc1
  have H2 := Lib.hid hc2
  have hlen : ls.length ≤ 9223372036854775807 := by omega
  clear hc1 hc2 m1 m2 g1 g2
  have e0 : (((ls.length : Nat) : Int) != ((ls.length : Nat) : Int)) = false := by simp
  go_enter Try.func41, Try.ntmps41
  go_wp2_with fail
  go_loopw [13] (fun i wr => ∃ k : Nat, k ≤ ls.length ∧ i = .int .i64 k ∧ Below w.heap.size w wr) (fun i _ => ls.length - (intOf i).toNat)
  case atStart => exact ⟨0, by omega, rfl, Below.refl _ _⟩
  case round =>
    obtain ⟨k, hk, rfl, hBel⟩ := hrel
    have hwr := hBel.size
    by_cases hlt : k < ls.length
    · obtain ⟨b1, o1, ea, d1, f1⟩ := H1.out k hlt
      obtain ⟨b2, o2, eb, d2, f2⟩ := H2.out k hlt
      subst ea
      subst eb
      have c1 := keep (b := b1) (o := o1 + k) (W := w) (w1 := wr) hBel d1
      have c2 := keep (b := b2) (o := o2 + k) (W := w) (w1 := wr) hBel d2
      have j1 := keepF (b := b1) (o := o1 + k) (W := w) (w1 := wr) hBel _ d1 f1
      have j2 := keepF (b := b2) (o := o2 + k) (W := w) (w1 := wr) hBel _ d2 f2
      have hk0 : (0 : Int) ≤ (k : Int) := by omega
      have hk1 : (k : Int) < (ls.length : Int) := by omega
      clear d1 d2 f1 f2
      generalize hx : ls.getD k 0 = x at *
      clear hx
      go_wp2_with fail
      refine wpQ_region (by kernel_rfl) (by kernel_rfl) ?_
      apply wpQ_do
      · rfl
      · intro wq hC; go_light; first | (go_simp; first | done | rfl | exact ⟨rfl, rfl⟩) | (have k0 : wq.cell? ⟨b1, o1 + k, none⟩ = some (.int .u32 x) := hC.keep (by go_simp); have k1 : wq.cell? ⟨b2, o2 + k, none⟩ = some (.int .u32 x) := hC.keep (by go_simp); go_simp; first | done | rfl | exact ⟨rfl, rfl⟩)
      simp only [Act.put, List.setIfInBounds_toArray, List.set_cons_zero, List.set_cons_succ]
      apply wpQ_do
      · rfl
      · intro wq hC; go_light; first | (go_simp; first | done | rfl | exact ⟨rfl, rfl⟩) | (have k0 : wq.cell? ⟨b1, o1 + k, none⟩ = some (.int .u32 x) := hC.keep (by go_simp); have k1 : wq.cell? ⟨b2, o2 + k, none⟩ = some (.int .u32 x) := hC.keep (by go_simp); go_simp; first | done | rfl | exact ⟨rfl, rfl⟩)
      simp only [Act.put, List.setIfInBounds_toArray, List.set_cons_zero, List.set_cons_succ]
      apply wpQ_do
      · rfl
      · intro wq hC; go_light; first | (go_simp; first | done | rfl | exact ⟨rfl, rfl⟩) | (have k0 : wq.cell? ⟨b1, o1 + k, none⟩ = some (.int .u32 x) := hC.keep (by go_simp); have k1 : wq.cell? ⟨b2, o2 + k, none⟩ = some (.int .u32 x) := hC.keep (by go_simp); go_simp; first | done | rfl | exact ⟨rfl, rfl⟩)
      simp only [Act.put, List.setIfInBounds_toArray, List.set_cons_zero, List.set_cons_succ]
      apply wpQ_do
      · rfl
      · intro wq hC; go_light; first | (go_simp; first | done | rfl | exact ⟨rfl, rfl⟩) | (have k0 : wq.cell? ⟨b1, o1 + k, none⟩ = some (.int .u32 x) := hC.keep (by go_simp); have k1 : wq.cell? ⟨b2, o2 + k, none⟩ = some (.int .u32 x) := hC.keep (by go_simp); go_simp; first | done | rfl | exact ⟨rfl, rfl⟩)
      simp only [Act.put, List.setIfInBounds_toArray, List.set_cons_zero, List.set_cons_succ]
      apply wpQ_do
      · rfl
      · intro wq hC; go_light; first | (go_simp; first | done | rfl | exact ⟨rfl, rfl⟩) | (have k0 : wq.cell? ⟨b1, o1 + k, none⟩ = some (.int .u32 x) := hC.keep (by go_simp); have k1 : wq.cell? ⟨b2, o2 + k, none⟩ = some (.int .u32 x) := hC.keep (by go_simp); go_simp; first | done | rfl | exact ⟨rfl, rfl⟩)
      simp only [Act.put, List.setIfInBounds_toArray, List.set_cons_zero, List.set_cons_succ]
      apply wpQ_do
      · rfl
      · intro wq hC; go_light; first | (go_simp; first | done | rfl | exact ⟨rfl, rfl⟩) | (have k0 : wq.cell? ⟨b1, o1 + k, none⟩ = some (.int .u32 x) := hC.keep (by go_simp); have k1 : wq.cell? ⟨b2, o2 + k, none⟩ = some (.int .u32 x) := hC.keep (by go_simp); go_simp; first | done | rfl | exact ⟨rfl, rfl⟩)
      simp only [Act.put, List.setIfInBounds_toArray, List.set_cons_zero, List.set_cons_succ]
      apply wpQ_do
      · rfl
      · intro wq hC; go_light; first | (go_simp; first | done | rfl | exact ⟨rfl, rfl⟩) | (have k0 : wq.cell? ⟨b1, o1 + k, none⟩ = some (.int .u32 x) := hC.keep (by go_simp); have k1 : wq.cell? ⟨b2, o2 + k, none⟩ = some (.int .u32 x) := hC.keep (by go_simp); go_simp; first | done | rfl | exact ⟨rfl, rfl⟩)
      simp only [Act.put, List.setIfInBounds_toArray, List.set_cons_zero, List.set_cons_succ]
      apply wpQ_do
      · rfl
      · intro wq hC; go_light; first | (go_simp; first | done | rfl | exact ⟨rfl, rfl⟩) | (have k0 : wq.cell? ⟨b1, o1 + k, none⟩ = some (.int .u32 x) := hC.keep (by go_simp); have k1 : wq.cell? ⟨b2, o2 + k, none⟩ = some (.int .u32 x) := hC.keep (by go_simp); go_simp; first | done | rfl | exact ⟨rfl, rfl⟩)
      simp only [Act.put, List.setIfInBounds_toArray, List.set_cons_zero, List.set_cons_succ]
      apply wpQ_do
      · rfl
      · intro wq hC; go_light; first | (go_simp; first | done | rfl | exact ⟨rfl, rfl⟩) | (have k0 : wq.cell? ⟨b1, o1 + k, none⟩ = some (.int .u32 x) := hC.keep (by go_simp); have k1 : wq.cell? ⟨b2, o2 + k, none⟩ = some (.int .u32 x) := hC.keep (by go_simp); go_simp; first | done | rfl | exact ⟨rfl, rfl⟩)
      simp only [Act.put, List.setIfInBounds_toArray, List.set_cons_zero, List.set_cons_succ]
      apply wpQ_nil
      intro w3 hb3
      have hb3 : Below _ _ _ := hb3
      have yw3 : w.heap.size ≤ w3.heap.size := by (have := hb3.size; (try simp at this); omega)
      have c3_0 : w3.cell? ⟨b1, o1 + k, none⟩ = some (.int .u32 x) := keep hb3 (by go_simp)
      have f3_0 : w3.frozen? ⟨b1, o1 + k, none⟩ = false := keepF hb3 (.int .u32 x) (by go_simp) (by go_simp)
      have c3_1 : w3.cell? ⟨b2, o2 + k, none⟩ = some (.int .u32 x) := keep hb3 (by go_simp)
      have f3_1 : w3.frozen? ⟨b2, o2 + k, none⟩ = false := keepF hb3 (.int .u32 x) (by go_simp) (by go_simp)
      go_wp2_with fail
      go_roundw
      case rel => exact ⟨k + 1, by omega, by go_num, (by repeat (first | assumption | exact Below.refl _ _ | refine balloc ?_ _ | refine bdrew ?_ | refine bstep ?_ (by assumption)))⟩
      case measure => (try simp [intOf]); omega
    · have hkm : k = ls.length := by omega
      subst hkm
      clear hlt
      go_wp2_with fail
      go_ret
      exact ⟨rfl, (by repeat (first | assumption | exact Below.refl _ _ | refine balloc ?_ _ | refine bdrew ?_ | refine bstep ?_ (by assumption)))⟩

set_option maxRecDepth 100000 in
set_option maxHeartbeats 2000000 in
theorem awake26_any (w : World) : Calls Try.prog 39 #[] w fun e' w' => e' = .returned (.bool true) ∧ Below w.heap.size w w' := by
  go_enter Try.func39, Try.ntmps39
  go_wp2_with fail
  with_reducible refine (newL 2 _ (by decide) (by decide) (by decide)).mono ?_
  rintro e1 w1 ⟨rfl, hb1, hq1⟩
  have Q1 := Lib.hid hq1
  have S1 := Lib.hid hb1
  clear hq1
  go_wp2_with fail
  with_reducible refine (putL_ok _ Q1.out (by decide) (by decide)).mono ?_
  rintro e2 w2 ⟨rfl, hb2, hq2⟩
  have Q2 := Lib.hid hq2
  have S2 := Lib.hid (Only.toBelow S1.out (Nat.le_refl _) hb2)
  clear hq2
  go_wp2_with fail
  with_reducible refine (putL_ok _ Q2.out (by decide) (by decide)).mono ?_
  rintro e3 w3 ⟨rfl, hb3, hq3⟩
  have Q3 := Lib.hid hq3
  have S3 := Lib.hid (Only.toBelow S2.out (Nat.le_refl _) hb3)
  clear hq3
  go_wp2_with fail
  with_reducible refine (putL_low _ Q3.out (by decide)).mono ?_
  rintro e4 w4 ⟨rfl, hb4⟩
  have Q4 := Lib.hid (Q3.out.below hb4)
  have S4 := Lib.hid (bstep S3.out hb4)
  go_wp2_with fail
  with_reducible refine (putL_full _ Q4.out (by decide) rfl).mono ?_
  rintro e5 w5 ⟨rfl, hb5⟩
  have Q5 := Lib.hid (Q4.out.below hb5)
  have S5 := Lib.hid (bstep S4.out hb5)
  go_wp2_with fail
  with_reducible refine (firstL_cons _ Q5.out).mono ?_
  rintro e6 w6 ⟨rfl, hb6⟩
  have Q6 := Lib.hid (Q5.out.below hb6)
  have S6 := Lib.hid (bstep S5.out hb6)
  go_wp2_with fail
  with_reducible refine (dropL_yes (p := []) _ Q6.out (by simp)).mono ?_
  rintro e7 w7 ⟨rfl, hb7, hq7⟩
  have Q7 := Lib.hid hq7
  have S7 := Lib.hid (Only.toBelow S6.out (Nat.le_refl _) hb7)
  clear hq7
  go_wp2_with fail
  with_reducible refine (putL_ok _ Q7.out (by decide) (by decide)).mono ?_
  rintro e8 w8 ⟨rfl, hb8, hq8⟩
  have Q8 := Lib.hid hq8
  have S8 := Lib.hid (Only.toBelow S7.out (Nat.le_refl _) hb8)
  clear hq8
  go_wp2_with fail
  with_reducible refine (listL _ Q8.out).mono ?_
  rintro e9 w9 ⟨v, rfl, hv, hb9⟩
  have Q9 := Lib.hid (Q8.out.below hb9)
  have S9 := Lib.hid (bstep S8.out hb9)
  have V9 := Lib.hid (U32At.of_own (ls := [7, 9]) hv)
  clear hv
  go_wp2_with fail
  refine (same_true (ls := [7, 9]) _ (V9.out.below (balloc (Below.refl _ _) _)) ?_).mono ?_
  · refine ⟨_, _, rfl, by simp, by unfold maxLen; simp, fun i hi => ⟨w9.heap.size, 0, rfl, ?_, ?_⟩⟩
    · rw [World.cell?_alloc_at _ _ _ _ rfl]
      match i, hi with
      | 0, _ => rfl
      | 1, _ => rfl
    · rw [World.frozen?_alloc_at _ _ _ _ rfl]
  rintro e10 w10 ⟨rfl, hb10⟩
  have Q10 := Lib.hid ((Q9.out.below (balloc (Below.refl _ _) _)).below hb10)
  have S10 := Lib.hid (bstep (balloc S9.out _) hb10)
  go_wp2_with fail
  with_reducible refine (dropL_no _ Q10.out (by decide)).mono ?_
  rintro e11 w11 ⟨rfl, hb11⟩
  have Q11 := Lib.hid (Q10.out.below hb11)
  have S11 := Lib.hid (bstep S10.out hb11)
  go_wp2_with fail
  with_reducible refine (dropL_yes (p := [7]) _ Q11.out (by decide)).mono ?_
  rintro e12 w12 ⟨rfl, hb12, hq12⟩
  have Q12 := Lib.hid hq12
  have S12 := Lib.hid (Only.toBelow S11.out (Nat.le_refl _) hb12)
  clear hq12
  go_wp2_with fail
  with_reducible refine (putL_low _ Q12.out (by decide)).mono ?_
  rintro e13 w13 ⟨rfl, hb13⟩
  have Q13 := Lib.hid (Q12.out.below hb13)
  have S13 := Lib.hid (bstep S12.out hb13)
  go_wp2_with fail
  with_reducible refine (lenL _ Q13.out).mono ?_
  rintro e14 w14 ⟨rfl, hb14⟩
  have Q14 := Lib.hid (Q13.out.below hb14)
  have S14 := Lib.hid (bstep S13.out hb14)
  go_wp2_with fail
  go_ret
  exact ⟨rfl, S14.out⟩

end Go.Proofs.Ytnhfholodillaaa
