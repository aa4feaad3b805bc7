/- The log: rows of records, read. -/
import Derived.Test.YthgaphfelpnclaaNg
set_option linter.unusedVariables false
set_option linter.unusedSimpArgs false
namespace Go.Proofs.Ythgaphfelpnclaa
open Go.RowKit
/-- The cells of a record that lie at block b from o on. -/
structure RecAt (w : World) (b o : Nat) (r : Rc) (u : Value) : Prop where
  c0 : w.cell? ⟨b, o, none⟩ = some (.int .u8 r.wh)
  c1 : w.cell? ⟨b, o + 1, none⟩ = some (.int .u32 r.tx)
  c2 : w.cell? ⟨b, o + 2, none⟩ = some (.int .u8 r.who)
  c3 : w.cell? ⟨b, o + 3, none⟩ = some (.bool r.yes)
  c4 : w.cell? ⟨b, o + 4, none⟩ = some u
  txt : BAt w u r.text
theorem RecAt.below {w w' : World} {b o : Nat} {r : Rc} {u : Value} (h : RecAt w b o r u) (hb : Below w.heap.size w w') : RecAt w' b o r u :=
  ⟨keep hb h.c0, keep hb h.c1, keep hb h.c2, keep hb h.c3, keep hb h.c4, h.txt.below hb⟩
def RecsAt (w : World) (v : Value) (rs : List Rc) : Prop :=
  ∃ (A : Option Addr) (c : Nat), v = .slice A rs.length c ∧ rs.length ≤ c ∧ c ≤ maxLen ∧ ∀ i r, rs[i]? = some r → ∃ b o u, A = some ⟨b, o, none⟩ ∧ RecAt w b (o + i * 5) r u
theorem RecsAt.below {w w' : World} {v : Value} {rs : List Rc} (h : RecsAt w v rs) (hb : Below w.heap.size w w') : RecsAt w' v rs := by
  obtain ⟨A, c, h1, h2, h3, h4⟩ := h
  exact ⟨A, c, h1, h2, h3, fun i r hi => by obtain ⟨b, o, u, e1, e2⟩ := h4 i r hi; exact ⟨b, o, u, e1, e2.below hb⟩⟩
theorem RecsAt.take {w : World} {A : Option Addr} {n c : Nat} {rs : List Rc} (h : RecsAt w (.slice A n c) rs) {m : Nat} (hm : m ≤ rs.length) : RecsAt w (.slice A m c) (rs.take m) := by
  obtain ⟨A2, c2, e, h2, h3, h4⟩ := h
  simp only [Value.slice.injEq] at e
  obtain ⟨rfl, rfl, rfl⟩ := e
  refine ⟨A, c, by rw [List.length_take, Nat.min_eq_left hm], by rw [List.length_take]; omega, h3, fun i r hi => ?_⟩
  refine h4 i r ?_
  rw [List.getElem?_take] at hi
  split at hi
  · exact hi
  · cases hi
theorem cellsR_len (p : Rc × Value) : (cellsR p).length = 5 := rfl
theorem flatR_at : ∀ (ps : List (Rc × Value)) (i j : Nat) (p : Rc × Value), ps[i]? = some p → j < 5 → (flatR ps)[i * 5 + j]? = (cellsR p)[j]?
  | [], i, j, p, h, _ => by simp at h
  | q :: ps, 0, j, p, h, hj => by
    simp at h
    subst h
    rw [Nat.zero_mul, Nat.zero_add, show flatR (q :: ps) = cellsR q ++ flatR ps from rfl, List.getElem?_append_left (by rw [cellsR_len]; exact hj)]
  | q :: ps, i + 1, j, p, h, hj => by
    rw [show flatR (q :: ps) = cellsR q ++ flatR ps from rfl, List.getElem?_append_right (by rw [cellsR_len]; omega), cellsR_len, show (i + 1) * 5 + j - 5 = i * 5 + j by omega]
    exact flatR_at ps i j p (by simpa using h) hj
theorem flatR_len (ps : List (Rc × Value)) : (flatR ps).length = ps.length * 5 := by
  induction ps with
  | nil => rfl
  | cons q ps ih => rw [show flatR (q :: ps) = cellsR q ++ flatR ps from rfl, List.length_append, cellsR_len, ih, List.length_cons]; omega
theorem OwnR.recs {w : World} {base : Nat} {v : Value} {ps : List (Rc × Value)} (h : OwnR w base v ps) : RecsAt w v (ps.map (·.1)) := by
  rcases h.own.2 with ⟨rfl, h0⟩ | ⟨g, cap, cur, rfl, hb, hg, hn, hc, hs, ht⟩
  · have : ps = [] := List.length_eq_zero_iff.1 h0
    subst this
    exact ⟨none, 0, rfl, by simp, by simp, fun i r hi => by simp at hi⟩
  · refine ⟨_, cap, by rw [List.length_map], by rw [List.length_map]; exact hn, hc, fun i r hi => ?_⟩
    rw [List.getElem?_map] at hi
    cases hp : ps[i]? with
    | none => rw [hp] at hi; cases hi
    | some p =>
      rw [hp] at hi
      simp only [Option.map_some, Option.some.injEq] at hi
      subst hi
      have key : ∀ j u, j < 5 → (cellsR p)[j]? = some u → w.cell? ⟨g, 0 + i * 5 + j, none⟩ = some u := by
        intro j u hj hu
        have h1 := h.own.cells (g := g) rfl (i * 5 + j) u (by rw [flatR_at ps i j p hp hj]; exact hu)
        rw [show (⟨g, 0, none⟩ : Addr).add (i * 5 + j) = ⟨g, 0 + i * 5 + j, none⟩ from by unfold Addr.add; split <;> simp_all [Nat.add_assoc]] at h1
        exact h1
      exact ⟨g, 0, p.2, rfl, key 0 _ (by decide) rfl, key 1 _ (by decide) rfl, key 2 _ (by decide) rfl, key 3 _ (by decide) rfl, key 4 _ (by decide) rfl, (h.txt p (List.mem_of_getElem? hp)).1⟩
theorem sameRecE {x y : Rc} {v u : Value} {r : Bool} (w : World) (hv : BAt w v x.text) (hu : BAt w u y.text) (hx : U8s x.text) (hy : U8s y.text) (e : x.same y = r) :
    Calls Try.prog 57 #[x.val v, y.val u] w fun e' w' => e' = .returned (.bool r) ∧ Below w.heap.size w w' := by
  subst e; exact sameRec w hv hu hx hy
set_option maxRecDepth 100000 in
set_option maxHeartbeats 2000000 in
theorem allR {va vb : Value} {a b : List Rc} (w : World) (ha : RecsAt w va a) (hb : RecsAt w vb b) (ua : ∀ r ∈ a, U8s r.text) (ub : ∀ r ∈ b, U8s r.text) :
    Calls Try.prog 18 #[va, vb] w fun e' w' => ∃ r, e' = .returned (.bool r) ∧ (r = true ↔ a = b) ∧ Below w.heap.size w w' := by
  have HA := Lib.hid ha
  have HB := Lib.hid hb
  obtain ⟨A, c, rfl, h2, h3, _⟩ := ha
  obtain ⟨A2, c2, rfl, k2, k3, _⟩ := hb
  unfold maxLen at h3 k3
  by_cases hl : a.length = b.length
  · have e0 : ((a.length : Int) != (b.length : Int)) = false := by simp [hl]
    have hl2 := Lib.hid hl
    clear hl
    go_enter Try.func18, Try.ntmps18
    go_wp2_with fail
    go_loopw [13] (fun i wr => ∃ (k : Nat), k ≤ a.length ∧ i = .int .i64 k ∧ Below w.heap.size w wr ∧ a.take k = b.take k) (fun i _ => a.length - (intOf i).toNat)
    case atStart => exact ⟨0, by omega, rfl, Below.refl _ _, rfl⟩
    case round =>
      obtain ⟨k, hk, rfl, hB, hpre⟩ := hrel
      have hB0 := Lib.hid hB
      have PRE := Lib.hid hpre
      clear hpre
      by_cases hlt : k < a.length
      · obtain ⟨A3, c3, e, _, _, g4⟩ := HA.out.below hB
        simp only [Value.slice.injEq] at e
        obtain ⟨rfl, _, rfl⟩ := e
        obtain ⟨b1, o1, u1, rfl, r1⟩ := g4 k _ (List.getElem?_eq_getElem hlt)
        have hlt2 : k < b.length := by have := hl2.out; omega
        obtain ⟨A3, c3, e, _, _, g5⟩ := HB.out.below hB
        simp only [Value.slice.injEq] at e
        obtain ⟨rfl, _, rfl⟩ := e
        obtain ⟨b2, o2, u2, rfl, r2⟩ := g5 k _ (List.getElem?_eq_getElem hlt2)
        clear g4 g5 hB
        have E1 := Lib.hid (List.getElem?_eq_getElem hlt)
        have E2 := Lib.hid (List.getElem?_eq_getElem hlt2)
        have U1 := ua _ (List.getElem_mem hlt)
        have U2 := ub _ (List.getElem_mem hlt2)
        generalize a[k] = x at r1 U1 E1
        generalize b[k] = y at r2 U2 E2
        have R1 := Lib.hid r1
        have R2 := Lib.hid r2
        obtain ⟨p0, p1, p2, p3, p4, t1⟩ := r1
        obtain ⟨q0, q1, q2, q3, q4, t2⟩ := r2
        obtain ⟨X1, d1, rfl, _⟩ := t1
        obtain ⟨X2, d2, rfl, _⟩ := t2
        have hltI : (k : Int) < (a.length : Int) := by omega
        have hltI2 : (k : Int) < (b.length : Int) := by omega
        by_cases hs : x.same y = true
        · go_wp2_with fail
          refine wpQ_region (by kernel_rfl) (by kernel_rfl) ?_
          apply wpQ_do
          · rfl
          · intro wq hC; go_light; first | (go_simp; first | done | rfl | exact ⟨rfl, rfl⟩) | (have k0 := hC.keep p0; have k1 := hC.keep p1; have k2 := hC.keep p2; have k3 := hC.keep p3; have k4 := hC.keep p4; have k5 := hC.keep q0; have k6 := hC.keep q1; have k7 := hC.keep q2; have k8 := hC.keep q3; have k9 := hC.keep q4; go_simp; first | done | rfl | exact ⟨rfl, rfl⟩)
          simp only [Act.put, List.setIfInBounds_toArray, List.set_cons_zero, List.set_cons_succ]
          apply wpQ_do
          · rfl
          · intro wq hC; go_light; first | (go_simp; first | done | rfl | exact ⟨rfl, rfl⟩) | (have k0 := hC.keep p0; have k1 := hC.keep p1; have k2 := hC.keep p2; have k3 := hC.keep p3; have k4 := hC.keep p4; have k5 := hC.keep q0; have k6 := hC.keep q1; have k7 := hC.keep q2; have k8 := hC.keep q3; have k9 := hC.keep q4; go_simp; first | done | rfl | exact ⟨rfl, rfl⟩)
          simp only [Act.put, List.setIfInBounds_toArray, List.set_cons_zero, List.set_cons_succ]
          apply wpQ_do
          · rfl
          · intro wq hC; go_light; first | (go_simp; first | done | rfl | exact ⟨rfl, rfl⟩) | (have k0 := hC.keep p0; have k1 := hC.keep p1; have k2 := hC.keep p2; have k3 := hC.keep p3; have k4 := hC.keep p4; have k5 := hC.keep q0; have k6 := hC.keep q1; have k7 := hC.keep q2; have k8 := hC.keep q3; have k9 := hC.keep q4; go_simp; first | done | rfl | exact ⟨rfl, rfl⟩)
          simp only [Act.put, List.setIfInBounds_toArray, List.set_cons_zero, List.set_cons_succ]
          apply wpQ_do
          · rfl
          · intro wq hC; go_light; first | (go_simp; first | done | rfl | exact ⟨rfl, rfl⟩) | (have k0 := hC.keep p0; have k1 := hC.keep p1; have k2 := hC.keep p2; have k3 := hC.keep p3; have k4 := hC.keep p4; have k5 := hC.keep q0; have k6 := hC.keep q1; have k7 := hC.keep q2; have k8 := hC.keep q3; have k9 := hC.keep q4; go_simp; first | done | rfl | exact ⟨rfl, rfl⟩)
          simp only [Act.put, List.setIfInBounds_toArray, List.set_cons_zero, List.set_cons_succ]
          apply wpQ_do
          · rfl
          · intro wq hC; go_light; first | (go_simp; first | done | rfl | exact ⟨rfl, rfl⟩) | (have k0 := hC.keep p0; have k1 := hC.keep p1; have k2 := hC.keep p2; have k3 := hC.keep p3; have k4 := hC.keep p4; have k5 := hC.keep q0; have k6 := hC.keep q1; have k7 := hC.keep q2; have k8 := hC.keep q3; have k9 := hC.keep q4; go_simp; first | done | rfl | exact ⟨rfl, rfl⟩)
          simp only [Act.put, List.setIfInBounds_toArray, List.set_cons_zero, List.set_cons_succ]
          apply wpQ_do
          · rfl
          · intro wq hC; go_light; first | (go_simp; first | done | rfl | exact ⟨rfl, rfl⟩) | (have k0 := hC.keep p0; have k1 := hC.keep p1; have k2 := hC.keep p2; have k3 := hC.keep p3; have k4 := hC.keep p4; have k5 := hC.keep q0; have k6 := hC.keep q1; have k7 := hC.keep q2; have k8 := hC.keep q3; have k9 := hC.keep q4; go_simp; first | done | rfl | exact ⟨rfl, rfl⟩)
          simp only [Act.put, List.setIfInBounds_toArray, List.set_cons_zero, List.set_cons_succ]
          apply wpQ_do
          · rfl
          · intro wq hC; go_light; first | (go_simp; first | done | rfl | exact ⟨rfl, rfl⟩) | (have k0 := hC.keep p0; have k1 := hC.keep p1; have k2 := hC.keep p2; have k3 := hC.keep p3; have k4 := hC.keep p4; have k5 := hC.keep q0; have k6 := hC.keep q1; have k7 := hC.keep q2; have k8 := hC.keep q3; have k9 := hC.keep q4; go_simp; first | done | rfl | exact ⟨rfl, rfl⟩)
          simp only [Act.put, List.setIfInBounds_toArray, List.set_cons_zero, List.set_cons_succ]
          apply wpQ_do
          · rfl
          · intro wq hC; go_light; first | (go_simp; first | done | rfl | exact ⟨rfl, rfl⟩) | (have k0 := hC.keep p0; have k1 := hC.keep p1; have k2 := hC.keep p2; have k3 := hC.keep p3; have k4 := hC.keep p4; have k5 := hC.keep q0; have k6 := hC.keep q1; have k7 := hC.keep q2; have k8 := hC.keep q3; have k9 := hC.keep q4; go_simp; first | done | rfl | exact ⟨rfl, rfl⟩)
          simp only [Act.put, List.setIfInBounds_toArray, List.set_cons_zero, List.set_cons_succ]
          apply wpQ_do
          · rfl
          · intro wq hC; go_light; go_simp; refine Calls.mono (sameRecE (x := x) (y := y) _ (R1.out.txt.below hC) (R2.out.txt.below hC) U1 U2 hs) ?_; rintro eq wq2 ⟨rfl, hbq⟩; exact ⟨rfl, hC.step hbq⟩
          simp only [Act.put, List.setIfInBounds_toArray, List.set_cons_zero, List.set_cons_succ]
          apply wpQ_do
          · rfl
          · intro wq hC; go_light; first | (go_simp; first | done | rfl | exact ⟨rfl, rfl⟩) | (have k0 := hC.keep p0; have k1 := hC.keep p1; have k2 := hC.keep p2; have k3 := hC.keep p3; have k4 := hC.keep p4; have k5 := hC.keep q0; have k6 := hC.keep q1; have k7 := hC.keep q2; have k8 := hC.keep q3; have k9 := hC.keep q4; go_simp; first | done | rfl | exact ⟨rfl, rfl⟩)
          simp only [Act.put, List.setIfInBounds_toArray, List.set_cons_zero, List.set_cons_succ]
          apply wpQ_nil
          intro w9 hb9
          have hb9 : Below _ _ _ := hb9
          have HB9 := Lib.hid (bstep hB0.out hb9)
          go_wp2_with fail
          go_roundw
          case rel => exact ⟨k + 1, by omega, by go_num, HB9.out, by
            have h8 := PRE.out
            have h7 := E1.out
            have h6 := E2.out
            obtain ⟨l1, l2⟩ := List.getElem?_eq_some_iff.1 h7
            obtain ⟨l3, l4⟩ := List.getElem?_eq_some_iff.1 h6
            rw [List.take_succ_eq_append_getElem l1, List.take_succ_eq_append_getElem l3, h8, l2, l4, Rc.same_iff.1 hs]⟩
          case measure => (try simp [intOf]) <;> omega
        · have hs' : x.same y = false := by simpa using hs
          go_wp2_with fail
          refine wpQ_region (by kernel_rfl) (by kernel_rfl) ?_
          apply wpQ_do
          · rfl
          · intro wq hC; go_light; first | (go_simp; first | done | rfl | exact ⟨rfl, rfl⟩) | (have k0 := hC.keep p0; have k1 := hC.keep p1; have k2 := hC.keep p2; have k3 := hC.keep p3; have k4 := hC.keep p4; have k5 := hC.keep q0; have k6 := hC.keep q1; have k7 := hC.keep q2; have k8 := hC.keep q3; have k9 := hC.keep q4; go_simp; first | done | rfl | exact ⟨rfl, rfl⟩)
          simp only [Act.put, List.setIfInBounds_toArray, List.set_cons_zero, List.set_cons_succ]
          apply wpQ_do
          · rfl
          · intro wq hC; go_light; first | (go_simp; first | done | rfl | exact ⟨rfl, rfl⟩) | (have k0 := hC.keep p0; have k1 := hC.keep p1; have k2 := hC.keep p2; have k3 := hC.keep p3; have k4 := hC.keep p4; have k5 := hC.keep q0; have k6 := hC.keep q1; have k7 := hC.keep q2; have k8 := hC.keep q3; have k9 := hC.keep q4; go_simp; first | done | rfl | exact ⟨rfl, rfl⟩)
          simp only [Act.put, List.setIfInBounds_toArray, List.set_cons_zero, List.set_cons_succ]
          apply wpQ_do
          · rfl
          · intro wq hC; go_light; first | (go_simp; first | done | rfl | exact ⟨rfl, rfl⟩) | (have k0 := hC.keep p0; have k1 := hC.keep p1; have k2 := hC.keep p2; have k3 := hC.keep p3; have k4 := hC.keep p4; have k5 := hC.keep q0; have k6 := hC.keep q1; have k7 := hC.keep q2; have k8 := hC.keep q3; have k9 := hC.keep q4; go_simp; first | done | rfl | exact ⟨rfl, rfl⟩)
          simp only [Act.put, List.setIfInBounds_toArray, List.set_cons_zero, List.set_cons_succ]
          apply wpQ_do
          · rfl
          · intro wq hC; go_light; first | (go_simp; first | done | rfl | exact ⟨rfl, rfl⟩) | (have k0 := hC.keep p0; have k1 := hC.keep p1; have k2 := hC.keep p2; have k3 := hC.keep p3; have k4 := hC.keep p4; have k5 := hC.keep q0; have k6 := hC.keep q1; have k7 := hC.keep q2; have k8 := hC.keep q3; have k9 := hC.keep q4; go_simp; first | done | rfl | exact ⟨rfl, rfl⟩)
          simp only [Act.put, List.setIfInBounds_toArray, List.set_cons_zero, List.set_cons_succ]
          apply wpQ_do
          · rfl
          · intro wq hC; go_light; first | (go_simp; first | done | rfl | exact ⟨rfl, rfl⟩) | (have k0 := hC.keep p0; have k1 := hC.keep p1; have k2 := hC.keep p2; have k3 := hC.keep p3; have k4 := hC.keep p4; have k5 := hC.keep q0; have k6 := hC.keep q1; have k7 := hC.keep q2; have k8 := hC.keep q3; have k9 := hC.keep q4; go_simp; first | done | rfl | exact ⟨rfl, rfl⟩)
          simp only [Act.put, List.setIfInBounds_toArray, List.set_cons_zero, List.set_cons_succ]
          apply wpQ_do
          · rfl
          · intro wq hC; go_light; first | (go_simp; first | done | rfl | exact ⟨rfl, rfl⟩) | (have k0 := hC.keep p0; have k1 := hC.keep p1; have k2 := hC.keep p2; have k3 := hC.keep p3; have k4 := hC.keep p4; have k5 := hC.keep q0; have k6 := hC.keep q1; have k7 := hC.keep q2; have k8 := hC.keep q3; have k9 := hC.keep q4; go_simp; first | done | rfl | exact ⟨rfl, rfl⟩)
          simp only [Act.put, List.setIfInBounds_toArray, List.set_cons_zero, List.set_cons_succ]
          apply wpQ_do
          · rfl
          · intro wq hC; go_light; first | (go_simp; first | done | rfl | exact ⟨rfl, rfl⟩) | (have k0 := hC.keep p0; have k1 := hC.keep p1; have k2 := hC.keep p2; have k3 := hC.keep p3; have k4 := hC.keep p4; have k5 := hC.keep q0; have k6 := hC.keep q1; have k7 := hC.keep q2; have k8 := hC.keep q3; have k9 := hC.keep q4; go_simp; first | done | rfl | exact ⟨rfl, rfl⟩)
          simp only [Act.put, List.setIfInBounds_toArray, List.set_cons_zero, List.set_cons_succ]
          apply wpQ_do
          · rfl
          · intro wq hC; go_light; first | (go_simp; first | done | rfl | exact ⟨rfl, rfl⟩) | (have k0 := hC.keep p0; have k1 := hC.keep p1; have k2 := hC.keep p2; have k3 := hC.keep p3; have k4 := hC.keep p4; have k5 := hC.keep q0; have k6 := hC.keep q1; have k7 := hC.keep q2; have k8 := hC.keep q3; have k9 := hC.keep q4; go_simp; first | done | rfl | exact ⟨rfl, rfl⟩)
          simp only [Act.put, List.setIfInBounds_toArray, List.set_cons_zero, List.set_cons_succ]
          apply wpQ_do
          · rfl
          · intro wq hC; go_light; go_simp; refine Calls.mono (sameRecE (x := x) (y := y) _ (R1.out.txt.below hC) (R2.out.txt.below hC) U1 U2 hs') ?_; rintro eq wq2 ⟨rfl, hbq⟩; exact ⟨rfl, hC.step hbq⟩
          simp only [Act.put, List.setIfInBounds_toArray, List.set_cons_zero, List.set_cons_succ]
          apply wpQ_do
          · rfl
          · intro wq hC; go_light; first | (go_simp; first | done | rfl | exact ⟨rfl, rfl⟩) | (have k0 := hC.keep p0; have k1 := hC.keep p1; have k2 := hC.keep p2; have k3 := hC.keep p3; have k4 := hC.keep p4; have k5 := hC.keep q0; have k6 := hC.keep q1; have k7 := hC.keep q2; have k8 := hC.keep q3; have k9 := hC.keep q4; go_simp; first | done | rfl | exact ⟨rfl, rfl⟩)
          simp only [Act.put, List.setIfInBounds_toArray, List.set_cons_zero, List.set_cons_succ]
          apply wpQ_nil
          intro w9 hb9
          have hb9 : Below _ _ _ := hb9
          have HB9 := Lib.hid (bstep hB0.out hb9)
          go_wp2_with fail
          go_ret
          exact ⟨false, rfl, by
            simp only [Bool.false_eq_true, false_iff]
            intro e
            have h7 := E1.out
            have h6 := E2.out
            rw [e, h6] at h7
            injection h7 with h7
            exact hs (Rc.same_iff.2 h7.symm), HB9.out⟩
      · obtain rfl : k = a.length := by omega
        go_wp2_with fail
        go_ret
        exact ⟨true, rfl, by simp only [true_iff]; have h9 := PRE.out; rw [List.take_of_length_le (Nat.le_refl _), List.take_of_length_le (by have := hl2.out; omega)] at h9; exact h9, hB0.out⟩
  · have e0 : ((a.length : Int) != (b.length : Int)) = true := by simp; omega
    go_enter Try.func18, Try.ntmps18
    go_wp2_with fail
    go_ret
    exact ⟨false, rfl, by simp; intro e; exact hl (by rw [e]), Below.refl _ _⟩
end Go.Proofs.Ythgaphfelpnclaa
