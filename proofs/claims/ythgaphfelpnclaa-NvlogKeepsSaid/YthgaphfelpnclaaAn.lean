/- Regions that draw their order: operations taken one by one; what a row of bytes has. -/
import Derived.Test.YthgaphfelpnclaaTb
import Derived.OrdersHeld
import Derived.RegionTactic
import Derived.Deep.Cut
set_option linter.unusedVariables false
set_option linter.unusedSimpArgs false
namespace Go.Proofs.Ythgaphfelpnclaa
open Go.RowKit
section
variable {P : Program} {ops : Array Oper} {md : Region.Mode} {S S' : World → Prop} {C : World → Prop} {Q : Exit → Act → World → Prop}
/-- Behind operations that are only read in the text's order the condition S holds too. -/
theorem heldOfQuiet {Qa : Act → Prop} (hS : ∀ w, C w → S w) (hQ : ∀ a w, C w → Qa a → Q .normal a w) : ∀ (fuel : Nat) (listed : Array Bool) (a : Act) (w : World), C w →
    wpAnyQ P md ops C Qa fuel listed a → wpAnyH P md ops Q S fuel listed a w
  | 0, _, _, _, hw, h => ⟨h.1, hQ _ _ hw h.2⟩
  | fuel + 1, _, _, _, hw, h => ⟨fun h0 => hQ _ _ hw (h.1 h0), fun i hi => wpOp_of_qOp hw (fun a' w' hw' h' => ⟨hS w' hw', heldOfQuiet hS hQ fuel _ a' w' hw' h'⟩) (h.2 i hi)⟩
/-- A narrower condition. -/
theorem heldMono (hS : ∀ w, S' w → S w) : ∀ (fuel : Nat) (listed : Array Bool) (a : Act) (w : World), wpAnyH P md ops Q S' fuel listed a w → wpAnyH P md ops Q S fuel listed a w
  | 0, _, _, _, h => h
  | fuel + 1, _, _, _, h => ⟨h.1, fun i hi => wpOp_mono (fun a' w' h' => ⟨hS w' h'.1, heldMono hS fuel _ a' w' h'.2⟩) (h.2 i hi)⟩
/-- Only one operation may come up. -/
theorem anyOne {f : Nat} {listed : Array Bool} {a : Act} {w : World} (i : Nat) {o : Oper} (ho : ops[i]? = some o) (hr : Region.ready md ops listed = [i])
    (h : ∀ K' : Act → World → Prop, (∀ a w, wpAny P md ops Q f (listed.setIfInBounds i true) a w → K' a w) → if Region.wanted o (yielded ops a.tmps) = true then Oper.wp P o a w K' Q else K' (a.put o.dst undef) w) : wpAny P md ops Q (f + 1) listed a w :=
  wpAny_ready hr (by simp) (AllReady.cons ho h AllReady.nil)
theorem heldOne {f : Nat} {listed : Array Bool} {a : Act} {w : World} (i : Nat) {o : Oper} (ho : ops[i]? = some o) (hr : Region.ready md ops listed = [i])
    (h : ∀ K' : Act → World → Prop, (∀ a w, S w → wpAnyH P md ops Q S f (listed.setIfInBounds i true) a w → K' a w) → if Region.wanted o (yielded ops a.tmps) = true then Oper.wp P o a w K' Q else K' (a.put o.dst undef) w) : wpAnyH P md ops Q S (f + 1) listed a w := by
  refine wpAnyH_all hr (by simp) fun j hj => ?_
  obtain rfl : j = i := by simpa using hj
  exact wpOp_step ho (fun K' hK => h K' (fun a w hs hh => hK a w ⟨hs, hh⟩))
/-- One of two may come up. -/
theorem heldTwo {f : Nat} {listed : Array Bool} {a : Act} {w : World} (i j : Nat) {o o2 : Oper} (ho : ops[i]? = some o) (ho2 : ops[j]? = some o2) (hr : Region.ready md ops listed = [i, j])
    (h : ∀ K' : Act → World → Prop, (∀ a w, S w → wpAnyH P md ops Q S f (listed.setIfInBounds i true) a w → K' a w) → if Region.wanted o (yielded ops a.tmps) = true then Oper.wp P o a w K' Q else K' (a.put o.dst undef) w)
    (h2 : ∀ K' : Act → World → Prop, (∀ a w, S w → wpAnyH P md ops Q S f (listed.setIfInBounds j true) a w → K' a w) → if Region.wanted o2 (yielded ops a.tmps) = true then Oper.wp P o2 a w K' Q else K' (a.put o2.dst undef) w) : wpAnyH P md ops Q S (f + 1) listed a w := by
  refine wpAnyH_all hr (by simp) fun k hk => ?_
  have hk2 : k = i ∨ k = j := by simpa using hk
  rcases hk2 with rfl | rfl
  · exact wpOp_step ho (fun K' hK => h K' (fun a w hs hh => hK a w ⟨hs, hh⟩))
  · exact wpOp_step ho2 (fun K' hK => h2 K' (fun a w hs hh => hK a w ⟨hs, hh⟩))
/-- An operation that yields the same in every world that has what is there is taken first. -/
theorem heldTake {W : World} {fuel : Nat} {listed : Array Bool} {a : Act} {w : World} (i : Nat) {oi : Oper} (v : Value) (hi : ops[i]? = some oi)
    (hs : Region.noSelect ops = true) (hf : Region.free md ops listed i = true) (hr : (Region.ready md ops listed).contains i = true)
    (hQ : ∀ c a w, Q (.panic c) (a.put oi.dst v) w → Q (.panic c) a w) (hS : BelowC W w) (hw : Region.wanted oi (yielded ops a.tmps) = true) (hy : ∀ w', BelowC W w' → (execOp a.eval oi).run P w' = .ok (.value v) w')
    (h : wpAnyH P md ops Q (BelowC W) fuel (listed.setIfInBounds i true) (a.put oi.dst v) w) : wpAnyH P md ops Q (BelowC W) (fuel + 1) listed a w :=
  wpAnyH_take hi hs hf hr hQ (.inl ⟨hw, hy⟩) hS h
end
/-- The rest of a region, of operations that are only read, in the text's order. -/
theorem heldTail {P : Program} {l : List Oper} {S : World → Prop} {Q' : Exit → Act → World → Prop} {listed : Array Bool} {a : Act} {w : World} (m g : Nat) (hs : Region.noSelect l.toArray = true) (hg : (l.drop m).length = g) (hB : Region.lexFrom .any l.toArray g m listed = true)
    (hS : ∀ w', BelowC w w' → S w') (h : wpQ P l.toArray (BelowC w) (fun a' => ∀ w', BelowC w w' → Q' .normal a' w') (l.drop m) a) : wpAnyH P .any l.toArray Q' S g listed a w := by
  subst hg
  unfold wpQ at h
  exact heldOfQuiet (C := BelowC w) hS (fun _ w' hw' h => h w' hw') _ _ _ _ (BelowC.refl w) (wpAnyQ_lex hs (l.drop m) m listed a (fun j => by simp [List.getElem?_drop]) hB h)
/-- A region that draws begins: from the world behind the draw, under the condition that all of it stays. -/
theorem region_held {P : Program} {id : Nat} {Q : Exit → Act → World → Prop} {a : Act} {w : World} {ops : Array Oper} (hm : P.follows .mixedOrders = true)
    (h : ∀ w0, Below w.heap.size w w0 → w0.heap.size = w.heap.size → wpAnyH P .any ops Q (BelowC w0) ops.size (Array.replicate ops.size false) a w0) : (Code.region id ops true).wp P Q a w :=
  wp_region_held hm (h _ (Below.refl _ _).drew rfl)
theorem cell_other {w : World} {b o p j : Nat} {u v : Value} (h : w.cell? ⟨b, o, none⟩ = some v) (hb : b ≠ p) : (w.setCell ⟨p, j, none⟩ u).cell? ⟨b, o, none⟩ = some v := by
  rw [World.cell?_setCell_other]
  · exact h
  · intro x; injection x with x1 _; exact hb x1.symm
/-- A byte of a row. -/
theorem bat_get {w : World} {b o n c k : Nat} {ls : List Int} (h : BAt w (.slice (some ⟨b, o, none⟩) n c) ls) (hk : k < ls.length) : w.cell? ⟨b, o + k, none⟩ = some (.int .u8 (ls.getD k 0)) := by
  obtain ⟨A, c2, e, _, _, h4⟩ := h
  obtain ⟨b1, o1, rfl, e2⟩ := h4 k hk
  simp only [Value.slice.injEq, Option.some.injEq, Addr.mk.injEq] at e
  obtain ⟨⟨rfl, rfl, _⟩, _⟩ := e
  exact e2
theorem bat_addr {w : World} {A : Option Addr} {n c : Nat} {ls : List Int} (h : BAt w (.slice A n c) ls) (hk : 0 < ls.length) : n = ls.length ∧ ∃ b o, A = some ⟨b, o, none⟩ := by
  obtain ⟨A2, c2, e, _, _, h4⟩ := h
  obtain ⟨b1, o1, rfl, e2⟩ := h4 0 hk
  simp only [Value.slice.injEq] at e
  exact ⟨e.2.1, b1, o1, e.1⟩
end Go.Proofs.Ythgaphfelpnclaa
