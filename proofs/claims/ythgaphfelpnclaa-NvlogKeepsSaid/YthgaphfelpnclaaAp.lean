/- append of a row of bytes, whatever row, to a row of the call's own. -/
import Derived.Test.YthgaphfelpnclaaDa
set_option linter.unusedVariables false
set_option linter.unusedSimpArgs false
namespace Go.Proofs.Ythgaphfelpnclaa
open Go.RowKit

theorem BAt.news {w : World} {p : Addr} {ls : List Int} {n c : Nat} (h : BAt w (.slice (some p) n c) ls) : ∀ j u, (u8s ls)[j]? = some u → w.cell? (p.add j) = some u := by
  intro j u hu
  obtain ⟨A, c', e, h2, h3, h4⟩ := h
  simp only [Value.slice.injEq] at e
  obtain ⟨rfl, rfl, rfl⟩ := e
  by_cases hj : j < ls.length
  · obtain ⟨b, o, e1, e2⟩ := h4 j hj
    injection e1 with e1
    subst e1
    rw [show (⟨b, o, none⟩ : Addr).add j = ⟨b, o + j, none⟩ from by unfold Addr.add; split <;> simp_all, e2]
    simp [u8s, hj, List.getD] at hu ⊢
    exact hu
  · simp [u8s, List.getElem?_eq_none (Nat.le_of_not_lt hj)] at hu
theorem u8s_one (ls : List Int) : ∀ u ∈ u8s ls, u.oneCell' = true := by
  intro u hu
  obtain ⟨x, _, rfl⟩ := List.mem_map.1 hu
  rfl

theorem run_append_from (w : World) (base : Nat) (ty : TypeId) (v u : Value) (n : Nat) (xs : List Value) (ls : List Int) (hown : w.ownsRow base 5 1 v n xs) (hu : BAt w u ls)
    (h63 : n + ls.length ≤ 140737488355328) (hbase : base ≤ w.heap.size) :
    ∃ v' w', (Builtin.append_ #[24, 24] ty #[v, u]).run Try.prog w = .ok v' w' ∧ w'.ownsRow base 5 1 v' (n + ls.length) (xs ++ u8s ls) ∧ w.grownBy w' v.ownBlock ∧ (∀ k, v'.ownBlock = some k → v.ownBlock = some k ∨ w.heap.size ≤ k) := by
  obtain ⟨i0, hi, hz0', hz1', hz2'⟩ := info_parts info5
  have hu0 := hu
  obtain ⟨A, c, rfl, h2, h3, h4⟩ := hu
  cases A with
  | none =>
    have h0 : ls = [] := by
      cases ls with
      | nil => rfl
      | cons x r => obtain ⟨b, o, e, _⟩ := h4 0 (by simp); cases e
    subst h0
    refine ⟨v, w, ?_, by simpa [u8s] using hown, ⟨rfl, rfl, rfl, Nat.le_refl _, fun _ _ _ => rfl⟩, fun k hk => .inl hk⟩
    rcases hown.2 with ⟨rfl, rfl⟩ | ⟨g, cap, cur, rfl, hbg, hg, hnc, hcm, hcs, htake⟩
    · simp [Builtin.append_, run_underlying Try.underlying24, sizeOf, typeInfo, hi, Builtin.lenOf, Builtin.firstCells, loadCells, loadCellsFrom]
    · simp [Builtin.append_, run_underlying Try.underlying24, sizeOf, typeInfo, hi, Builtin.lenOf, Builtin.firstCells, loadCells, loadCellsFrom, hnc, storeCells]
  | some p =>
    exact run_append_own2 w base 24 ty 5 i0 (.int .u8 0) 1 Try.underlying24 hi hz0' hz1' hz2' rfl v n xs hown p ls.length c (u8s ls) (by rw [u8s_len]; omega) hu0.news (u8s_one _) (by unfold maxLen; omega) (by omega) hbase
theorem wpList_append_from (w : World) {ops : Array Oper} {rest : List Oper} {o : Oper} {a : Act} {Q : Exit → Act → World → Prop} (hgd : o.guard = none) (s x : Operand)
    (ho : o.op = .call { callee := .builtin .append, args := #[s, x], argTypes := #[24, 24] })
    (base : Nat) (v u : Value) (n : Nat) (xs : List Value) (ls : List Int) (hs : a.eval s = v) (hx : a.eval x = u) (hown : w.ownsRow base 5 1 v n xs) (hu : BAt w u ls)
    (h63 : n + ls.length ≤ 140737488355328) (hbase : base ≤ w.heap.size)
    (h : ∀ v' w', w'.ownsRow base 5 1 v' (n + ls.length) (xs ++ u8s ls) → w.grownBy w' v.ownBlock → (∀ k, v'.ownBlock = some k → v.ownBlock = some k ∨ w.heap.size ≤ k) → wpList Try.prog ops Q rest (a.put o.dst v') w') : wpList Try.prog ops Q (o :: rest) a w :=
  wpList_plain hgd fun _ hK => by
    obtain ⟨v', w', hr, h2, h3, h4⟩ := run_append_from w base o.type v u n xs ls hown hu h63 hbase
    unfold Oper.wp execOp
    simp only [ho, resolve, invoke, builtin, Sem.run_bind, Sem.run_pure, Result.andThen_ok, List.map_toArray, List.map_cons, List.map_nil, hs, hx, hr]
    exact hK _ _ (h v' w' h2 h3 h4)
theorem step_from {ops : Array Oper} {o : Oper} {a : Act} {w : World} {K : Act → World → Prop} {Q : Exit → Act → World → Prop} {E : Prop} (hg : o.guard = none) (s x : Operand)
    (hop : o.op = .call { callee := .builtin .append, args := #[s, x], argTypes := #[24, 24] })
    (base : Nat) (v u : Value) (n : Nat) (xs : List Value) (ls : List Int) (hs : a.eval s = v) (hx : a.eval x = u) (hown : w.ownsRow base 5 1 v n xs) (hu : BAt w u ls)
    (h63 : n + ls.length ≤ 140737488355328) (hbase : base ≤ w.heap.size)
    (h : ∀ v' w', w'.ownsRow base 5 1 v' (n + ls.length) (xs ++ u8s ls) → w.grownBy w' v.ownBlock → (∀ k, v'.ownBlock = some k → v.ownBlock = some k ∨ w.heap.size ≤ k) → K (a.put o.dst v') w') :
    if Region.wanted o (yielded ops a.tmps) = true then Oper.wp Try.prog o a w K Q else E := by
  have hw : Region.wanted o (yielded ops a.tmps) = true := by simp [Region.wanted, hg]
  rw [if_pos hw]
  obtain ⟨v', w', hr, h2, h3, h4⟩ := run_append_from w base o.type v u n xs ls hown hu h63 hbase
  unfold Oper.wp execOp
  simp only [hop, resolve, invoke, builtin, Sem.run_bind, Sem.run_pure, Result.andThen_ok, List.map_toArray, List.map_cons, List.map_nil, hs, hx, hr]
  exact h v' w' h2 h3 h4
end Go.Proofs.Ythgaphfelpnclaa
