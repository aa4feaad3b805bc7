/- The log's laws: rows of records put behind one another; what a round has in hand. -/
import Derived.Test.YthgaphfelpnclaaLk
import Derived.Test.YthgaphfelpnclaaLm
import Derived.Test.YthgaphfelpnclaaLl
set_option linter.unusedVariables false
set_option linter.unusedSimpArgs false
namespace Go.Proofs.Ythgaphfelpnclaa
open Go.RowKit
theorem flatR_append (a b : List (Rc × Value)) : flatR (a ++ b) = flatR a ++ flatR b := by simp [flatR]
theorem row_one {w : World} {base : Nat} {v : Value} {ps : List (Rc × Value)} (h : OwnR w base v ps) : ∀ p ∈ ps, p.2.oneCell' = true := by
  intro p hp
  obtain ⟨A, c, e, _⟩ := (h.txt p hp).1
  rw [e]; rfl
theorem flat_one {ps : List (Rc × Value)} (h : ∀ p ∈ ps, p.2.oneCell' = true) : ∀ u ∈ flatR ps, u.oneCell' = true := by
  intro u hu
  obtain ⟨p, hp, h2⟩ := List.mem_flatMap.1 hu
  simp only [cellsR, List.mem_cons, List.not_mem_nil, or_false] at h2
  rcases h2 with rfl | rfl | rfl | rfl | rfl
  · rfl
  · rfl
  · rfl
  · rfl
  · exact h p hp
theorem run_append_from5 (w : World) (base b2 : Nat) (ty : TypeId) (v u : Value) (n : Nat) (xs : List Value) (qs : List (Rc × Value)) (hown : w.ownsRow base 34 5 v n xs) (hu : OwnR w b2 u qs)
    (h63 : n + qs.length ≤ 1000000) (hbase : base ≤ w.heap.size) :
    ∃ v' w', (Builtin.append_ #[22, 22] ty #[v, u]).run Try.prog w = .ok v' w' ∧ w'.ownsRow base 34 5 v' (n + qs.length) (xs ++ flatR qs) ∧ w.grownBy w' v.ownBlock ∧ (∀ k, v'.ownBlock = some k → v.ownBlock = some k ∨ w.heap.size ≤ k) := by
  obtain ⟨i0, hi, hz0', hz1', hz2'⟩ := info_parts info34
  rcases hu.own.2 with ⟨rfl, h0⟩ | ⟨g, cap, cur, rfl, hb, hg, hn, hc, hs, ht⟩
  · have hq : qs = [] := List.length_eq_zero_iff.1 h0
    subst hq
    refine ⟨v, w, ?_, by simpa [flatR] using hown, ⟨rfl, rfl, rfl, Nat.le_refl _, fun _ _ _ => rfl⟩, fun k hk => .inl hk⟩
    rcases hown.2 with ⟨rfl, rfl⟩ | ⟨g, cap, cur, rfl, hbg, hg, hnc, hcm, hcs, htake⟩
    · simp [Builtin.append_, run_underlying Try.underlying22, sizeOf, typeInfo, hi, Builtin.lenOf, Builtin.firstCells, loadCells, loadCellsFrom]
    · simp [Builtin.append_, run_underlying Try.underlying22, sizeOf, typeInfo, hi, Builtin.lenOf, Builtin.firstCells, loadCells, loadCellsFrom, hnc, storeCells]
  · exact run_append_own5 w base 22 ty 34 i0 _ 40 Try.underlying22 hi hz0' hz1' hz2' rfl v n xs hown ⟨g, 0, none⟩ qs.length cap (flatR qs) (flatR_len qs) (hu.own.cells (g := g) rfl) (flat_one (row_one hu)) (by unfold maxLen; omega) (by omega) hbase
theorem wpList_append_from5 (w : World) {ops : Array Oper} {rest : List Oper} {o : Oper} {a : Act} {Q : Exit → Act → World → Prop} (hgd : o.guard = none) (s x : Operand)
    (ho : o.op = .call { callee := .builtin .append, args := #[s, x], argTypes := #[22, 22] })
    (base b2 : Nat) (v u : Value) (n : Nat) (xs : List Value) (qs : List (Rc × Value)) (hs : a.eval s = v) (hx : a.eval x = u) (hown : w.ownsRow base 34 5 v n xs) (hu : OwnR w b2 u qs)
    (h63 : n + qs.length ≤ 1000000) (hbase : base ≤ w.heap.size)
    (h : ∀ v' w', w'.ownsRow base 34 5 v' (n + qs.length) (xs ++ flatR qs) → w.grownBy w' v.ownBlock → (∀ k, v'.ownBlock = some k → v.ownBlock = some k ∨ w.heap.size ≤ k) → wpList Try.prog ops Q rest (a.put o.dst v') w') : wpList Try.prog ops Q (o :: rest) a w :=
  wpList_plain hgd fun _ hK => by
    obtain ⟨v', w', hr, h2, h3, h4⟩ := run_append_from5 w base b2 o.type v u n xs qs hown hu h63 hbase
    unfold Oper.wp execOp
    simp only [ho, resolve, invoke, builtin, Sem.run_bind, Sem.run_pure, Result.andThen_ok, List.map_toArray, List.map_cons, List.map_nil, hs, hx, hr]
    exact hK _ _ (h v' w' h2 h3 h4)
theorem OwnR.append {w w2 : World} {base b2 : Nat} {v v2 u : Value} {ps qs : List (Rc × Value)} (h : OwnR w base v ps) (hq : OwnR w b2 u qs) (hs : ∀ q ∈ qs, q.1.text ≠ [] → q.2.ownBlock ≠ v.ownBlock)
    (o : w2.ownsRow base 34 5 v2 (ps.length + qs.length) (flatR ps ++ flatR qs)) (g : w.grownBy w2 v.ownBlock) (f : ∀ k, v2.ownBlock = some k → v.ownBlock = some k ∨ w.heap.size ≤ k) : OwnR w2 base v2 (ps ++ qs) := by
  have key : ∀ (u : Value) (ls : List Int), BAt w u ls → (ls ≠ [] → u.ownBlock ≠ v.ownBlock) → BAt w2 u ls ∧ (ls ≠ [] → u.ownBlock ≠ v2.ownBlock) := by
    intro u ls hu hs
    refine ⟨bat_grown hu g hs, fun hne e => ?_⟩
    obtain ⟨k, hk, hlt⟩ := bat_some hu hne
    rcases f k (by rw [← e, hk]) with h9 | h9
    · exact hs hne (by rw [h9, hk])
    · omega
  refine ⟨by rw [List.length_append, flatR_append]; exact o, fun p hp => ?_⟩
  rcases List.mem_append.1 hp with hp | hp
  · exact key p.2 p.1.text (h.txt p hp).1 (h.txt p hp).2
  · exact key p.2 p.1.text (hq.txt p hp).1 (hs p hp)
/-- The box of an operation. -/
structure OpBox (w : World) (q : Nat) (p : Opr) (u : Value) : Prop where
  c0 : w.cell? ⟨q, 0, none⟩ = some (.int .u8 p.wh)
  c1 : w.cell? ⟨q, 1, none⟩ = some (.int .u8 p.x.wh)
  c2 : w.cell? ⟨q, 2, none⟩ = some (.int .u32 p.x.tx)
  c3 : w.cell? ⟨q, 3, none⟩ = some (.int .u8 p.x.who)
  c4 : w.cell? ⟨q, 4, none⟩ = some (.bool p.x.yes)
  c5 : w.cell? ⟨q, 5, none⟩ = some u
  c6 : w.cell? ⟨q, 6, none⟩ = some (.int .i64 p.n)
  txt : BAt w u p.x.text
theorem OpBox.below {w w' : World} {q : Nat} {p : Opr} {u : Value} (h : OpBox w q p u) (hb : Below w.heap.size w w') : OpBox w' q p u :=
  ⟨keep hb h.c0, keep hb h.c1, keep hb h.c2, keep hb h.c3, keep hb h.c4, keep hb h.c5, keep hb h.c6, h.txt.below hb⟩
theorem OpBox.step {w w' : World} {q B : Nat} {p : Opr} {u v v2 : Value} (h : OpBox w q p u) (s : Step B v v2 w w') (hB : q ≠ B) (hv : some q ≠ v.ownBlock) (ha : p.x.text ≠ [] → Apart B v u) : OpBox w' q p u :=
  ⟨s.cell h.c0 hB hv, s.cell h.c1 hB hv, s.cell h.c2 hB hv, s.cell h.c3 hB hv, s.cell h.c4 hB hv, s.cell h.c5 hB hv, s.cell h.c6 hB hv, h.txt.step s ha⟩
theorem OpBox.grown {w w' : World} {q : Nat} {p : Opr} {u : Value} {row : Option Nat} (h : OpBox w q p u) (g : w.grownBy w' row) (hq : some q ≠ row) (hu : p.x.text ≠ [] → u.ownBlock ≠ row) : OpBox w' q p u :=
  ⟨g.cell h.c0 hq, g.cell h.c1 hq, g.cell h.c2 hq, g.cell h.c3 hq, g.cell h.c4 hq, g.cell h.c5 hq, g.cell h.c6 hq, bat_grown h.txt g hu⟩
/-- What a round has in hand: the disk; the rows of what was told, of what was perhaps, of what was got; the operation; the logs. -/
structure KS (w W : World) (B q L1 L2 : Nat) (v hv pv gv u : Value) (d : Dsk) (ps pp gp : List (Rc × Value)) (p : Opr) : Prop where
  ds : DS W B B v d
  bel : Below w.heap.size w W
  hr : OwnR W w.heap.size hv ps
  hf : FarR B v hv ps
  pr : OwnR W w.heap.size pv pp
  pf : FarR B v pv pp
  gr : OwnR W w.heap.size gv gp
  gf : FarR B v gv gp
  op : OpBox W q p u
  oq : q ≠ B ∧ some q ≠ v.ownBlock ∧ (p.x.text ≠ [] → Apart B v u)
  l1 : W.cell? ⟨L1, 0, none⟩ = some (.pointer (some ⟨B, 0, none⟩))
  l2 : W.cell? ⟨L2, 0, none⟩ = some (.pointer (some ⟨B, 0, none⟩))
  q1 : L1 ≠ B ∧ some L1 ≠ v.ownBlock
  q2 : L2 ≠ B ∧ some L2 ≠ v.ownBlock
  n1 : some L1 ≠ hv.ownBlock
  n2 : some L2 ≠ gv.ownBlock
theorem FarR.nil (B : Nat) (v : Value) : FarR B v (.slice none 0 0) [] := ⟨fun k hk => by simp [Value.ownBlock] at hk, fun p hp => by cases hp⟩
theorem below_none {w w' : World} (g : w.grownBy w' none) : Below w.heap.size w w' := ⟨g.os, g.tape, g.output, g.size, fun k hk => g.block k hk (by simp)⟩
theorem ownS_form {w : World} {base e s n : Nat} {v : Value} {xs : List Value} (h : w.ownsRow base e s v n xs) : ∃ A c, v = .slice A n c := by
  rcases h.2 with ⟨rfl, h0⟩ | ⟨g, cap, cur, rfl, _⟩
  · exact ⟨_, _, by rw [h0]⟩
  · exact ⟨_, _, rfl⟩
theorem cat_count (rs : List Rc) : rs.length ≤ (catB rs).length := by
  induction rs with
  | nil => simp
  | cons x rs ih => rw [catB_cons, List.length_append, Rc.bytes_len, List.length_cons]; omega
/-- An append to a row that is not the disk's: a new block, or the same. -/
theorem apart_grow {w : World} {B b : Nat} {v u u2 : Value} (h : Apart B v u) (hB : B < b) (hv : ∀ k, v.ownBlock = some k → k < b) (f : ∀ k, u2.ownBlock = some k → u.ownBlock = some k ∨ b ≤ k) : Apart B v u2 := fun k hk => by
  rcases f k hk with h9 | h9
  · exact h k h9
  · exact ⟨by omega, fun e => by have := hv k e.symm; omega⟩
section
variable {w W W2 : World} {B q L1 L2 : Nat} {v v2 hv pv gv u : Value} {d d2 : Dsk} {ps pp gp : List (Rc × Value)} {p : Opr}
theorem KS.below (h : KS w W B q L1 L2 v hv pv gv u d ps pp gp p) (hb : Below W.heap.size W W2) : KS w W2 B q L1 L2 v hv pv gv u d ps pp gp p :=
  ⟨h.ds.below hb, bstep h.bel hb, h.hr.below hb, h.hf, h.pr.below hb, h.pf, h.gr.below hb, h.gf, h.op.below hb, h.oq, keep hb h.l1, keep hb h.l2, h.q1, h.q2, h.n1, h.n2⟩
theorem KS.step (h : KS w W B q L1 L2 v hv pv gv u d ps pp gp p) (hB : w.heap.size ≤ B) (s : Step B v v2 W W2) (hd : DS W2 B B v2 d2) : KS w W2 B q L1 L2 v2 hv pv gv u d2 ps pp gp p :=
  ⟨hd, DS.toBelow h.ds hB h.bel s, (h.hr.stepF h.hf s).1, (h.hr.stepF h.hf s).2, (h.pr.stepF h.pf s).1, (h.pr.stepF h.pf s).2, (h.gr.stepF h.gf s).1, (h.gr.stepF h.gf s).2, h.op.step s h.oq.1 h.oq.2.1 h.oq.2.2,
    ⟨h.oq.1, fun e => h.oq.2.1 (s.fresh q (cell_lt h.op.c0) e), fun hne => (h.oq.2.2 hne).step s (h.op.txt.lt hne)⟩, s.cell h.l1 h.q1.1 h.q1.2, s.cell h.l2 h.q2.1 h.q2.2, ⟨h.q1.1, fun e => h.q1.2 (s.fresh L1 (cell_lt h.l1) e)⟩, ⟨h.q2.1, fun e => h.q2.2 (s.fresh L2 (cell_lt h.l2) e)⟩, h.n1, h.n2⟩
/-- Something was got. -/
theorem KS.got (h : KS w W B q L1 L2 v hv pv gv u d ps pp gp p) {g2 : Value} {gp2 : List (Rc × Value)} {L3 : Nat} (hr : OwnR W w.heap.size g2 gp2) (hf : FarR B v g2 gp2) (hl : W.cell? ⟨L3, 0, none⟩ = some (.pointer (some ⟨B, 0, none⟩))) (hq : L3 ≠ B ∧ some L3 ≠ v.ownBlock) (hn : some L3 ≠ g2.ownBlock) : KS w W B q L1 L3 v hv pv g2 u d ps pp gp2 p :=
  ⟨h.ds, h.bel, h.hr, h.hf, h.pr, h.pf, hr, hf, h.op, h.oq, h.l1, hl, h.q1, hq, h.n1, hn⟩
end
end Go.Proofs.Ythgaphfelpnclaa
