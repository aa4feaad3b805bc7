/- The log: rows of records. -/
import Derived.Test.YthgaphfelpnclaaNd
set_option linter.unusedVariables false
set_option linter.unusedSimpArgs false
namespace Go.Proofs.Ythgaphfelpnclaa
open Go.RowKit
theorem info34 : (Try.prog.info? 34).map (fun i => (i.zero, i.size, i.bytes)) = some (some (.agg #[.int .u8 0, .int .u32 0, .int .u8 0, .bool false, .slice none 0 0]), 5, 40) := by kernel_rfl
theorem info3 : (Try.prog.info? 3).map (fun i => (i.zero, i.size, i.bytes)) = some (some (.int .i64 0), 1, 8) := by kernel_rfl
/-- append to a row of the call's own, elements of five cells: the row behind it is the same block, or a new one. -/
theorem run_append_own5 {P : Program} (w : World) (base : Nat) (t ty e : TypeId) (i : TypeInfo) (z : Value) (bytes : Nat) (ht : P.underlying t = some (.slice e)) (hi : P.info? e = some i) (hz : i.zero = some z)
    (hsize : i.size = 5) (hby : i.bytes = bytes) (hzs : z.cells.size = 5)
    (v : Value) (n : Nat) (xs : List Value) (hown : w.ownsRow base e 5 v n xs)
    (a : Addr) (m c : Nat) (news : List Value) (hl : news.length = m * 5) (hnews : ∀ j u, news[j]? = some u → w.cell? (a.add j) = some u) (h1 : ∀ u ∈ news, u.oneCell' = true)
    (h63 : n + m ≤ maxLen) (hbytes : (n + m) * bytes ≤ 140737488355328) (hbase : base ≤ w.heap.size) :
    ∃ v' w', (Builtin.append_ #[t, t] ty #[v, .slice (some a) m c]).run P w = .ok v' w' ∧ w'.ownsRow base e 5 v' (n + m) (xs ++ news) ∧ w.grownBy w' v.ownBlock ∧ (∀ k, v'.ownBlock = some k → v.ownBlock = some k ∨ w.heap.size ≤ k) := by
  obtain ⟨v', w', hr, h2, h3, h4⟩ := run_append_own (P := P) w base t ty e i z 5 bytes ht hi hz hsize hby hzs (by decide) v n xs hown a m c news hl hnews h1 h63 hbytes hbase
  refine ⟨v', w', hr, h2, h3, ?_⟩
  intro k hk
  have h63' : ((n + m : Nat) : Int) ≤ 9223372036854775807 := by simp only [maxLen] at h63; omega
  rcases hown.2 with ⟨rfl, rfl⟩ | ⟨g, cap, cur, rfl, hbg, hg, hnc, hcm, hcs, htake⟩
  · have hx : xs = [] := List.eq_nil_of_length_eq_zero (by simpa using hown.1)
    subst hx
    obtain ⟨v3, w3, hr3, h23, _, _⟩ := run_append_own (P := P) w w.heap.size t ty e i z 5 bytes ht hi hz hsize hby hzs (by decide) _ 0 [] (World.ownsRow_nil w w.heap.size e 5) a m c news hl hnews h1 h63 hbytes (Nat.le_refl _)
    rw [hr] at hr3
    injection hr3 with e1 e2
    subst e1
    exact .inr (h23.lt k hk).1
  · by_cases hroom : n + m ≤ cap
    · have hr3 := run_append_room (P := P) w t ty e i ht hi g n cap cur hg a m c news (by rw [hsize]; exact hl) hnews h1 hroom (by rw [hsize, hl, hcs]; omega)
      rw [hr] at hr3
      injection hr3 with e1 e2
      subst e1
      exact .inl hk
    · have holds : ∀ j u, xs[j]? = some u → w.cell? ((⟨g, 0, none⟩ : Addr).add j) = some u := hown.cells (g := g) rfl
      have hr3 := run_append_grow (P := P) w t ty e i z ht hi hz ⟨g, 0, none⟩ n cap xs (by rw [hsize]; exact hown.1) holds a m c news (by rw [hsize]; exact hl) hnews (by omega) h63' (by rw [hby]; exact growslice_fits (by omega) hbytes)
      rw [hr] at hr3
      injection hr3 with e1 e2
      subst e1
      simp [Value.ownBlock] at hk
      exact .inr (by omega)
theorem wpList_append_own5 {P : Program} (w : World) {ops : Array Oper} {rest : List Oper} {o : Oper} {a : Act} {Q : Exit → Act → World → Prop} (hgd : o.guard = none) (s x : Operand) (t : TypeId)
    (ho : o.op = .call { callee := .builtin .append, args := #[s, x], argTypes := #[t, t] })
    (base : Nat) (e : TypeId) (i : TypeInfo) (z : Value) (bytes : Nat) (ht : P.underlying t = some (.slice e)) (hi : P.info? e = some i) (hz : i.zero = some z)
    (hsize : i.size = 5) (hby : i.bytes = bytes) (hzs : z.cells.size = 5)
    (v : Value) (n : Nat) (xs : List Value) (hs : a.eval s = v) (hown : w.ownsRow base e 5 v n xs)
    (ad : Addr) (m c : Nat) (news : List Value) (hx : a.eval x = .slice (some ad) m c) (hl : news.length = m * 5) (hnews : ∀ j u, news[j]? = some u → w.cell? (ad.add j) = some u) (h1 : ∀ u ∈ news, u.oneCell' = true)
    (h63 : n + m ≤ maxLen) (hbytes : (n + m) * bytes ≤ 140737488355328) (hbase : base ≤ w.heap.size)
    (h : ∀ v' w', w'.ownsRow base e 5 v' (n + m) (xs ++ news) → w.grownBy w' v.ownBlock → (∀ k, v'.ownBlock = some k → v.ownBlock = some k ∨ w.heap.size ≤ k) → wpList P ops Q rest (a.put o.dst v') w') : wpList P ops Q (o :: rest) a w :=
  wpList_plain hgd fun _ hK => by
    obtain ⟨v', w', hr, h2, h3, h4⟩ := run_append_own5 (P := P) w base t o.type e i z bytes ht hi hz hsize hby hzs v n xs hown ad m c news hl hnews h1 h63 hbytes hbase
    unfold Oper.wp execOp
    simp only [ho, resolve, invoke, builtin, Sem.run_bind, Sem.run_pure, Result.andThen_ok, List.map_toArray, List.map_cons, List.map_nil, hs, hx, hr]
    exact hK _ _ (h v' w' h2 h3 h4)
theorem own_belowS {w w' : World} {base e s n : Nat} {v : Value} {xs : List Value} (h : w.ownsRow base e s v n xs) (hb : Below w.heap.size w w') : w'.ownsRow base e s v n xs :=
  h.kept (row := none) ⟨hb.os, hb.tape, hb.output, hb.size, fun k hk _ => hb.block k hk⟩ (by cases v.ownBlock <;> simp)
/-- A record's cells; with it the row of its text. -/
def cellsR (p : Rc × Value) : List Value := [.int .u8 p.1.wh, .int .u32 p.1.tx, .int .u8 p.1.who, .bool p.1.yes, p.2]
def flatR (ps : List (Rc × Value)) : List Value := ps.flatMap cellsR
theorem flatR_snoc (ps : List (Rc × Value)) (p : Rc × Value) : flatR (ps ++ [p]) = flatR ps ++ cellsR p := by simp [flatR]
/-- A row of records of the call's own. -/
structure OwnR (w : World) (base : Nat) (v : Value) (ps : List (Rc × Value)) : Prop where
  own : w.ownsRow base 34 5 v ps.length (flatR ps)
  txt : ∀ p ∈ ps, BAt w p.2 p.1.text ∧ (p.1.text ≠ [] → p.2.ownBlock ≠ v.ownBlock)
theorem OwnR.nil (w : World) (base : Nat) : OwnR w base (.slice none 0 0) [] := ⟨World.ownsRow_nil _ _ _ _, fun p hp => by cases hp⟩
theorem OwnR.below {w w' : World} {base : Nat} {v : Value} {ps : List (Rc × Value)} (h : OwnR w base v ps) (hb : Below w.heap.size w w') : OwnR w' base v ps :=
  ⟨own_belowS h.own hb, fun p hp => ⟨(h.txt p hp).1.below hb, (h.txt p hp).2⟩⟩
theorem bat_grown {w w' : World} {row : Option Nat} {u : Value} {ls : List Int} (h : BAt w u ls) (g : w.grownBy w' row) (hne : ls ≠ [] → u.ownBlock ≠ row) : BAt w' u ls := by
  obtain ⟨A, c, rfl, h2, h3, h4⟩ := h
  refine ⟨A, c, rfl, h2, h3, fun i hi => ?_⟩
  obtain ⟨b, o, rfl, e2⟩ := h4 i hi
  exact ⟨b, o, rfl, g.cell e2 (fun e => hne (by intro h0; rw [h0] at hi; simp at hi) (by simpa [Value.ownBlock] using e))⟩
theorem OwnR.snoc {w w2 : World} {base : Nat} {v v2 u : Value} {ps : List (Rc × Value)} {x : Rc} {ob : Obj} (h : OwnR w base v ps) (hu : BAt w u x.text) (hs : x.text ≠ [] → u.ownBlock ≠ v.ownBlock)
    (o : w2.ownsRow base 34 5 v2 (ps.length + 1) (flatR ps ++ cellsR (x, u))) (g : (w.alloc ob).grownBy w2 v.ownBlock) (f : ∀ k, v2.ownBlock = some k → v.ownBlock = some k ∨ w.heap.size + 1 ≤ k) : OwnR w2 base v2 (ps ++ [(x, u)]) := by
  have key : ∀ (u : Value) (ls : List Int), BAt w u ls → (ls ≠ [] → u.ownBlock ≠ v.ownBlock) → BAt w2 u ls ∧ (ls ≠ [] → u.ownBlock ≠ v2.ownBlock) := by
    intro u ls hu hs
    refine ⟨bat_grown (hu.below (balloc (Below.refl _ _) ob)) g hs, fun hne e => ?_⟩
    obtain ⟨A, c, rfl, h2, h3, h4⟩ := hu
    obtain ⟨b, o1, rfl, e2⟩ := h4 0 (List.length_pos_iff.2 hne)
    have hlt := cell_lt e2
    rcases f b e.symm with h9 | h9
    · exact hs hne (by rw [h9]; rfl)
    · omega
  refine ⟨by rw [List.length_append, flatR_snoc]; exact o, fun p hp => ?_⟩
  rcases List.mem_append.1 hp with hp | hp
  · exact key p.2 p.1.text (h.txt p hp).1 (h.txt p hp).2
  · obtain rfl : p = (x, u) := by simpa using hp
    exact key u x.text hu hs
/-- What bytes begin with, record by record, and how many bytes that is. -/
inductive Reads : List Int → List Rc → Nat → Prop
  | nil {ls : List Int} (h : first ls = none) : Reads ls [] 0
  | cons {ls : List Int} {x : Rc} {rs : List Rc} {n : Nat} (h : first ls = some x) (t : Reads (ls.drop (x.text.length + 13)) rs n) : Reads ls (x :: rs) (x.text.length + 13 + n)
theorem Reads.det {ls : List Int} {a : List Rc} {n : Nat} (h : Reads ls a n) : ∀ {b : List Rc} {m : Nat}, Reads ls b m → a = b ∧ n = m := by
  induction h with
  | nil h =>
    intro b m k
    cases k with
    | nil _ => exact ⟨rfl, rfl⟩
    | cons h2 _ => rw [h] at h2; cases h2
  | cons h t ih =>
    intro b m k
    cases k with
    | nil h2 => rw [h] at h2; cases h2
    | cons h2 t2 =>
      rw [h] at h2
      injection h2 with h2
      subst h2
      obtain ⟨rfl, rfl⟩ := ih t2
      exact ⟨rfl, rfl⟩
theorem first_len {ls : List Int} {x : Rc} (h : first ls = some x) : x.text.length + 13 ≤ ls.length := by
  unfold first at h
  split at h
  · cases h
  · split at h
    · cases h
    · split at h
      · split at h
        · cases h
        · split at h
          · injection h with h
            subst h
            simp only [firstX, List.length_take, List.length_drop]
            omega
          · cases h
      · cases h
theorem cellsR_at (w : World) (p : Rc × Value) : ∀ j u, (cellsR p)[j]? = some u → (w.alloc (.cells #[.int .u8 p.1.wh, .int .u32 p.1.tx, .int .u8 p.1.who, .bool p.1.yes, p.2] 34)).cell? ((⟨w.heap.size, 0, none⟩ : Addr).add j) = some u := by
  intro j u h
  rcases j with _ | _ | _ | _ | _ | j
  · simp [cellsR] at h; subst h; go_simp
  · simp [cellsR] at h; subst h; go_simp
  · simp [cellsR] at h; subst h; go_simp
  · simp [cellsR] at h; subst h; go_simp
  · simp [cellsR] at h; subst h; go_simp
  · simp [cellsR] at h
theorem cellsR_at' (w : World) (p : Rc × Value) (b : Nat) (hb : w.heap.size = b) : ∀ j u, (cellsR p)[j]? = some u → (w.alloc (.cells #[.int .u8 p.1.wh, .int .u32 p.1.tx, .int .u8 p.1.who, .bool p.1.yes, p.2] 34)).cell? ((⟨b, 0, none⟩ : Addr).add j) = some u := by
  subst hb; exact cellsR_at w p
end Go.Proofs.Ythgaphfelpnclaa
