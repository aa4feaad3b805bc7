/- A region that draws and ends in stores: the operations that only read are taken in the text's order. -/
import Derived.Test.YthgaphfelpnclaaDk
import Derived.StillTailTactics
set_option linter.unusedVariables false
set_option linter.unusedSimpArgs false
namespace Go.Proofs.Ythgaphfelpnclaa
open Go.RowKit

section
variable {P : Program} {ops : Array Oper} {md : Region.Mode} {Q : Exit → Act → World → Prop} {w : World}

/-- Does t wait for i, over others? -/
def reachB (md : Region.Mode) (ops : Array Oper) : Nat → Nat → Nat → Bool
  | 0, _, _ => false
  | f + 1, t, i => match ops[t]? with
    | none => false
    | some o => o.after.any fun e => Region.binds md e && (e.on == i || reachB md ops f e.on i)
theorem reach_listed {n : Nat} {listed : Array Bool} (inv : HeadInv md ops n listed) {i : Nat} : ∀ (f t : Nat), reachB md ops f t i = true → (∀ o, ops[t]? = some o → ∀ e ∈ o.after, Region.binds md e = true → listed.getD e.on false = true) → listed.getD i false = true
  | 0, _, h, _ => by cases h
  | f + 1, t, h, hd => by
    unfold reachB at h
    split at h
    · cases h
    · rename_i o ho
      obtain ⟨e, he, hb⟩ := Array.any_eq_true'.1 h
      simp only [Bool.and_eq_true, Bool.or_eq_true, beq_iff_eq] at hb
      have hl := hd o ho e he hb.1
      rcases hb.2 with h1 | h1
      · rw [← h1]; exact hl
      · exact reach_listed inv f e.on h1 (fun o2 ho2 e2 he2 hb2 => inv.closed e.on o2 ho2 hl e2 he2 hb2)
def lateB (md : Region.Mode) (ops : Array Oper) (n i : Nat) : Bool := (List.range ops.size).all fun t => decide (t < n) || reachB md ops ops.size t i
theorem late_spec {n i : Nat} {listed : Array Bool} (h : lateB md ops n i = true) (inv : HeadInv md ops n listed) (hun : listed.getD i true = false) : ∀ j ∈ Region.ready md ops listed, j < n := by
  intro j hj
  obtain ⟨_, o, ho, hall⟩ := mem_ready.1 hj
  have hjs : j < ops.size := (Array.getElem?_eq_some_iff.1 ho).1
  have h1 := (List.all_eq_true.1 h) j (List.mem_range.2 hjs)
  simp only [Bool.or_eq_true, decide_eq_true_eq] at h1
  rcases h1 with h1 | h1
  · exact h1
  · have h2 := reach_listed inv ops.size j h1 (fun o2 ho2 e he hb => by rw [ho] at ho2; cases ho2; exact hall e he hb)
    have h3 := getD_both hun
    rw [h2] at h3
    cases h3

/-- The walk of all orders, of which the operations below n leave the world as it was. -/
def wpT (P : Program) (md : Region.Mode) (ops : Array Oper) (Q : Exit → Act → World → Prop) (w : World) (n : Nat) : Nat → Array Bool → Act → Prop
  | 0, listed, a => wpAny P md ops Q 0 listed a w
  | f + 1, listed, a => wpAny P md ops Q (f + 1) listed a w ∧ ∀ j ∈ Region.ready md ops listed, j < n → stOp P ops w j (wpT P md ops Q w n f (listed.setIfInBounds j true)) a
theorem wpT.any {n : Nat} : ∀ {f : Nat} {listed : Array Bool} {a : Act}, wpT P md ops Q w n f listed a → wpAny P md ops Q f listed a w
  | 0, _, _, h => h
  | _ + 1, _, _, h => h.1
theorem wpT_first {n i : Nat} {oi : Oper} {v : Value} (hi : ops[i]? = some oi) (hsel : ∀ (j : Nat) (o : Oper) cs b, ops[j]? = some o → o.op ≠ .select cs b) (hl : lateB md ops n i = true) (hin : i < n) :
    ∀ (f : Nat) (listed : Array Bool) (a : Act), HeadInv md ops n listed →
      (∀ j oj, ops[j]? = some oj → j ≠ i → listed.getD j true = false → (∀ e ∈ oj.after, Region.binds md e = true → e.on ≠ i) → oi.apart ops oj = true) →
      i ∈ Region.ready md ops listed → YieldsAt P ops w oi v a → wpT P md ops Q w n f (listed.setIfInBounds i true) (a.put oi.dst v) → wpT P md ops Q w n (f + 1) listed a := by
  intro f
  induction f with
  | zero =>
    intro listed a inv hfree hr hy H
    have hall := late_spec hl inv (mem_ready.1 hr).1
    have C : ∀ j ∈ Region.ready md ops listed, stOp P ops w j (wpT P md ops Q w n 0 (listed.setIfInBounds j true)) a := by
      intro j hj
      by_cases hji : j = i
      · subst hji; exact hy.stOp hi H
      · have h1 := ready_mono hj hji
        rw [(show Region.ready md ops (listed.setIfInBounds i true) = [] from H.1)] at h1
        cases h1
    exact ⟨⟨fun h => (by rw [h] at hr; cases hr), fun j hj => wpOp_of_stOp (fun a' h' => h'.any) (C j hj)⟩, fun j hj _ => C j hj⟩
  | succ f ih =>
    intro listed a inv hfree hr hy H
    have hun : listed.getD i true = false := (mem_ready.1 hr).1
    have hall := late_spec hl inv hun
    have C : ∀ j ∈ Region.ready md ops listed, stOp P ops w j (wpT P md ops Q w n (f + 1) (listed.setIfInBounds j true)) a := by
      intro j hj
      have hjn := hall j hj
      by_cases hji : j = i
      · subst hji; exact hy.stOp hi H
      · have h1 := H.2 j (ready_mono hj hji) hjn
        obtain ⟨hjun, oj, hoj, hjall⟩ := mem_ready.1 hj
        have hnot : ∀ e ∈ oj.after, Region.binds md e = true → e.on ≠ i := fun e he hb heq => by
          have h1 := hjall e he hb
          rw [heq, getD_both hun] at h1
          cases h1
        have h2 := stOp_put hoj (hfree j oj hoj hji hjun hnot) (fun cs b => hsel i oi cs b hi) (fun cs b => hsel j oj cs b hoj) hy h1
        have hfree' : ∀ k ok, ops[k]? = some ok → k ≠ i → (listed.setIfInBounds j true).getD k true = false →
            (∀ e ∈ ok.after, Region.binds md e = true → e.on ≠ i) → oi.apart ops ok = true := fun k ok hk hki hku hno => by
          refine hfree k ok hk hki ?_ hno
          by_cases hjk : j = k
          · subst hjk; exact hjun
          · rw [getD_set_ne true hjk] at hku; exact hku
        refine stOp_mono (fun a' h3 => ih (listed.setIfInBounds j true) a' (inv.set hj hjn) hfree' (ready_mono hr (Ne.symm hji)) h3.1 ?_) h2
        rw [Array.setIfInBounds_comm _ _ hji]
        exact h3.2
    exact ⟨⟨fun h => (by rw [h] at hr; cases hr), fun j hj => wpOp_of_stOp (fun a' h' => h'.any) (C j hj)⟩, fun j hj _ => C j hj⟩
def headB (md : Region.Mode) (ops : Array Oper) (n : Nat) (lst : Array Bool) : Nat → Nat → Array Bool → Bool
  | 0, _, listed => decide (listed = lst)
  | f + 1, k, listed => (Region.ready md ops listed).contains k && Region.free md ops listed k && decide (k < n) && lateB md ops n k && headB md ops n lst f (k + 1) (listed.setIfInBounds k true)
theorem wpT_lex {n g : Nat} {lst : Array Bool} {Lq : Act → Prop} (hsel : Region.noSelect ops = true) (hL : ∀ a', Lq a' → wpT P md ops Q w n g lst a') :
    ∀ (l : List Oper) (k : Nat) (listed : Array Bool) (a : Act), (∀ j, j < l.length → l[j]? = ops[k + j]?) → HeadInv md ops n listed → headB md ops n lst l.length k listed = true → wpStill P ops w Lq l a → wpT P md ops Q w n (l.length + g) listed a
  | [], k, listed, a, _, _, hB, h => by
    have hl : listed = lst := by simpa [headB] using hB
    rw [List.length_nil, Nat.zero_add, hl]
    exact hL a h
  | o :: l, k, listed, a, hl, inv, hB, h => by
    have h0 : ops[k]? = some o := by simpa using (hl 0 (by simp)).symm
    simp only [List.length_cons, headB, Bool.and_eq_true, decide_eq_true_eq] at hB
    obtain ⟨⟨⟨⟨hr, hf⟩, hkn⟩, hlate⟩, hB'⟩ := hB
    have hr' : k ∈ Region.ready md ops listed := by simpa using hr
    have hst : stOp P ops w k (wpStill P ops w Lq l) a := by unfold stOp; simp only [h0]; exact h
    obtain ⟨v, hy, hK⟩ := yieldsAt_of_stOp h0 hst
    rw [List.length_cons, show l.length + 1 + g = (l.length + g) + 1 by omega]
    exact wpT_first h0 (Region.noSelect_spec hsel) hlate hkn _ listed a inv (Region.free_spec h0 hf) hr' hy
      (wpT_lex hsel hL l (k + 1) _ _ (fun j hj => by have := hl (j + 1) (by simp; omega); simpa [Nat.add_assoc, Nat.add_comm 1 j] using this) (inv.set hr' hkn) hB' hK)
end
theorem wp_region_head {P : Program} {id : Nat} {Q : Exit → Act → World → Prop} {a : Act} {w : World} {l : List Oper} (m n : Nat) (lst : Array Bool) (hm : P.follows .mixedOrders = true) (hs : Region.noSelect l.toArray = true) (hml : m ≤ l.length)
    (hB : headB .any l.toArray n lst m 0 (Array.replicate l.length false) = true)
    (h : wpStill P l.toArray w.drew (fun a' => wpT P .any l.toArray Q w.drew n (l.length - m) lst a') (l.take m) a) : (Code.region id l.toArray true).wp P Q a w := by
  refine wp_region_any hm ?_
  have htl : (l.take m).length = m := by rw [List.length_take]; omega
  have inv0 : HeadInv .any l.toArray n (Array.replicate l.length false) :=
    ⟨by simp, fun j oj _ hl => (by rw [getD_replicate_false] at hl; cases hl), fun t _ ht => getD_in (by simpa using ht) (getD_replicate_false _ _)⟩
  have H := wpT_lex (P := P) (md := .any) (Q := Q) (w := w.drew) (g := l.length - m) hs (fun a' h' => h') (l.take m) 0 _ a (fun j hj => by
    rw [htl] at hj
    simp [hj]) inv0 (by rw [htl]; exact hB) h
  rw [htl, show m + (l.length - m) = l.length by omega] at H
  have := H.any
  simpa using this
/-- Behind the head one operation more that only reckons may come anywhere ahead of what the next ones do: it is taken first; the others come in the text's order. -/
theorem wpT_base {P : Program} {l : List Oper} {Q : Exit → Act → World → Prop} {w : World} {a : Act} (i g : Nat) {oi : Oper} (v : Value) {lst : Array Bool} (hi : l.toArray[i]? = some oi) (hs : Region.noSelect l.toArray = true) (hf : Region.free .any l.toArray lst i = true)
    (hr : Region.ready .any l.toArray lst = [i, i + 1]) (hr2 : Region.ready .any l.toArray (lst.setIfInBounds i true) = [i + 1]) (hg : (l.drop (i + 1)).length = g) (hseq : Region.seqB .any l.toArray g (i + 1) (lst.setIfInBounds i true) = true)
    (hQ : ∀ c a w, Q (.panic c) (a.put oi.dst v) w → Q (.panic c) a w) (hy : Yields P l.toArray oi v a) (h : wpList P l.toArray Q (l.drop (i + 1)) (a.put oi.dst v) w) : wpT P .any l.toArray Q w (i + 1) (g + 1) lst a := by
  have h6 : wpAny P .any l.toArray Q g (lst.setIfInBounds i true) (a.put oi.dst v) w := by
    subst hg
    exact wpAny_of_seq (l.drop (i + 1)) (i + 1) _ _ _ (fun j => by simp [List.getElem?_drop]) hseq h
  refine ⟨wpAny_take hi hs hf (by rw [hr]; simp) hQ hy h6, fun j hj hjn => ?_⟩
  rw [hr] at hj
  have hji : j = i := by
    simp at hj
    omega
  subst hji
  have hy2 : YieldsAt P l.toArray w oi v a := by
    rcases hy with ⟨h1, h2⟩ | ⟨h1, h2⟩
    · exact .inl ⟨h1, .inl (h2 w)⟩
    · exact .inr ⟨h1, h2⟩
  refine hy2.stOp hi ?_
  cases g with
  | zero => exact h6
  | succ g =>
    refine ⟨h6, fun k hk hkn => ?_⟩
    rw [hr2] at hk
    simp at hk
    omega
end Go.Proofs.Ythgaphfelpnclaa
