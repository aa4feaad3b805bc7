/- The log: a row of right records and its bytes (the law's 'row'). -/
import Derived.Test.YthgaphfelpnclaaNp
set_option linter.unusedVariables false
set_option linter.unusedSimpArgs false
namespace Go.Proofs.Ythgaphfelpnclaa
open Go.RowKit
/-- Where the records' bytes end. -/
def endsOf (xs : List Rc) : List Int := (List.range (xs.length + 1)).map fun i => ((catB (xs.take i)).length : Int)
theorem endsOf_len (xs : List Rc) : (endsOf xs).length = xs.length + 1 := by simp [endsOf]
theorem endsOf_snoc (xs : List Rc) (x : Rc) : endsOf (xs ++ [x]) = endsOf xs ++ [((catB (xs ++ [x])).length : Int)] := by
  unfold endsOf
  rw [List.length_append, List.length_singleton, List.range_succ, List.map_append]
  congr 1
  · refine List.map_congr_left fun i hi => ?_
    have := List.mem_range.1 hi
    rw [List.take_append_of_le_length (by omega)]
  · rw [List.map_singleton, List.take_of_length_le (by simp)]
theorem endsOf_at (xs : List Rc) {i : Nat} (hi : i ≤ xs.length) : (endsOf xs)[i]? = some ((catB (xs.take i)).length : Int) := by
  simp [endsOf, show i < xs.length + 1 by omega]
def i64s (l : List Int) : List Value := l.map (Value.int .i64)
def goodB (x : Rc) : Bool := x.right && decide (x.text.length ≤ 300)
theorem own_grown {w w' : World} {base e s n : Nat} {u : Value} {xs : List Value} {row : Option Nat} (h : w.ownsRow base e s u n xs) (g : w.grownBy w' row) (hne : u.ownBlock = none ∨ u.ownBlock ≠ row) : w'.ownsRow base e s u n xs := h.kept g hne
theorem OwnR.grown {w w' : World} {base : Nat} {v : Value} {ps : List (Rc × Value)} {row : Option Nat} (h : OwnR w base v ps) (g : w.grownBy w' row) (hne : v.ownBlock = none ∨ v.ownBlock ≠ row) (ht : ∀ p ∈ ps, p.1.text ≠ [] → p.2.ownBlock ≠ row) : OwnR w' base v ps :=
  ⟨h.own.kept g hne, fun p hp => ⟨bat_grown (h.txt p hp).1 g (ht p hp), (h.txt p hp).2⟩⟩
/-- Two rows that do not lie in one block. -/
def Off (u v : Value) : Prop := u.ownBlock = none ∨ u.ownBlock ≠ v.ownBlock
theorem Off.fresh {w : World} {base e s n : Nat} {u v v2 : Value} {xs : List Value} (h : Off u v) (ho : w.ownsRow base e s u n xs) {b : Nat} (hb : w.heap.size ≤ b) (f : ∀ k, v2.ownBlock = some k → v.ownBlock = some k ∨ b ≤ k) : Off u v2 := by
  unfold Off at *
  cases hu : u.ownBlock with
  | none => exact .inl rfl
  | some k =>
    refine .inr fun e => ?_
    rcases f k e.symm with h9 | h9
    · rcases h with h | h
      · rw [hu] at h; cases h
      · exact h (by rw [hu, h9])
    · have := (ho.lt k hu).2; omega
theorem Off.turn {w : World} {base e s n : Nat} {u v v2 : Value} {xs : List Value} (h : Off v u) (ho : w.ownsRow base e s u n xs) {b : Nat} (hb : w.heap.size ≤ b) (f : ∀ k, v2.ownBlock = some k → v.ownBlock = some k ∨ b ≤ k) : Off v2 u := by
  unfold Off at *
  cases hv : v2.ownBlock with
  | none => exact .inl rfl
  | some k =>
    refine .inr fun e => ?_
    rcases f k hv with h9 | h9
    · rcases h with h | h
      · rw [h9] at h; cases h
      · exact h (by rw [h9, e])
    · have := (ho.lt k e.symm).2; omega
set_option maxRecDepth 100000 in
theorem run_slice22 {A : Option Addr} {n c : Nat} (k : Nat) (xk : Int) (ek : xk = k) (hk : k ≤ n) (hn : n ≤ c) (hc : c ≤ maxLen) :
    ∀ w', (Instr.slice 22 (.slice A n c) none (some (.int .i64 xk)) none).run Try.prog w' = .ok (.slice A k c) w' := by
  have hc2 : c ≤ 9223372036854775807 := by unfold maxLen at hc; omega
  subst ek
  intro w'
  obtain ⟨i0, hi, _, hz1, _⟩ := info_parts info34
  have hs : ∀ w, (sizeOf 34).run Try.prog w = .ok 5 w := fun w => by simp [sizeOf, typeInfo, hi, hz1]
  have he : Try.prog.elem 22 = 34 := by kernel_rfl
  rw [run_slice_h (P := Try.prog) w' 22 A n c Try.underlying22 .i64 k (by omega) (by omega), he, hs]
  simp [sliced, Result.andThen]
  intro _
  rcases A with _ | a
  · rfl
  · simp [Addr.add]
/-- Three rows of the call's own: records, bytes, numbers. -/
structure R3 (w wr : World) (v : Value) (ps : List (Rc × Value)) (vb : Value) (bl : List Int) (ve : Value) (el : List Int) : Prop where
  out : OwnR wr w.heap.size v ps
  bs : wr.ownsRow w.heap.size 5 1 vb bl.length (u8s bl)
  ends : wr.ownsRow w.heap.size 3 1 ve el.length (i64s el)
  off1 : Off v vb
  off2 : Off v ve
  off3 : Off vb v
  off4 : Off vb ve
  off5 : Off ve v
  off6 : Off ve vb
  txt : ∀ p ∈ ps, p.1.text ≠ [] → ∀ k, p.2.ownBlock = some k → k < w.heap.size
  bel : Below w.heap.size w wr
theorem R3.below {w wr w2 : World} {v vb ve : Value} {ps : List (Rc × Value)} {bl el : List Int} (h : R3 w wr v ps vb bl ve el) (hb : Below wr.heap.size wr w2) : R3 w w2 v ps vb bl ve el :=
  ⟨h.out.below hb, own_belowS h.bs hb, own_belowS h.ends hb, h.off1, h.off2, h.off3, h.off4, h.off5, h.off6, h.txt, bstep h.bel hb⟩
theorem bat_some {w : World} {u : Value} {ls : List Int} (h : BAt w u ls) (hne : ls ≠ []) : ∃ k, u.ownBlock = some k ∧ k < w.heap.size := by
  obtain ⟨A, c, rfl, _, _, h4⟩ := h
  obtain ⟨b, o, rfl, e2⟩ := h4 0 (List.length_pos_iff.2 hne)
  exact ⟨b, rfl, cell_lt e2⟩
theorem R3.apart {w wr : World} {v vb ve : Value} {ps : List (Rc × Value)} {bl el : List Int} (h : R3 w wr v ps vb bl ve el) {row : Option Nat} (hr : ∀ k, row = some k → w.heap.size ≤ k) : ∀ p ∈ ps, p.1.text ≠ [] → p.2.ownBlock ≠ row := by
  intro p hp hne e
  obtain ⟨k, hk, _⟩ := bat_some (h.out.txt p hp).1 hne
  have h1 := h.txt p hp hne k hk
  have h2 := hr k (by rw [← e, hk])
  omega
theorem R3.push1 {w wr w2 : World} {v v2 vb ve u : Value} {ps : List (Rc × Value)} {bl el : List Int} {x : Rc} {ob : Obj} (h : R3 w wr v ps vb bl ve el) (hu : BAt wr u x.text) (hub : x.text ≠ [] → ∀ k, u.ownBlock = some k → k < w.heap.size)
    (o : w2.ownsRow w.heap.size 34 5 v2 (ps.length + 1) (flatR ps ++ cellsR (x, u))) (g : (wr.alloc ob).grownBy w2 v.ownBlock) (f : ∀ k, v2.ownBlock = some k → v.ownBlock = some k ∨ wr.heap.size + 1 ≤ k) : R3 w w2 v2 (ps ++ [(x, u)]) vb bl ve el := by
  have hsep : x.text ≠ [] → u.ownBlock ≠ v.ownBlock := fun hne e => by
    obtain ⟨k, hk, _⟩ := bat_some hu hne
    have h1 := hub hne k hk
    have h2 := (h.out.own.lt k (by rw [← e, hk])).1
    omega
  have hb := balloc (Below.refl wr.heap.size wr) ob
  refine ⟨h.out.snoc hu hsep o g f, own_grown (own_belowS h.bs hb) g h.off3, own_grown (own_belowS h.ends hb) g h.off5, h.off1.turn h.bs (by omega) f, h.off2.turn h.ends (by omega) f, h.off3.fresh h.bs (Nat.le_succ _) f, h.off4, h.off5.fresh h.ends (Nat.le_succ _) f, h.off6, fun p hp => ?_, below_grown (bstep h.bel hb) g (fun k hk => (h.out.own.lt k hk).1)⟩
  rcases List.mem_append.1 hp with hp | hp
  · exact h.txt p hp
  · obtain rfl : p = (x, u) := by simpa using hp
    exact hub
theorem R3.push2 {w wr w2 : World} {v vb vb2 ve : Value} {ps : List (Rc × Value)} {bl el cl : List Int} (h : R3 w wr v ps vb bl ve el)
    (o : w2.ownsRow w.heap.size 5 1 vb2 (bl.length + cl.length) (u8s bl ++ u8s cl)) (g : wr.grownBy w2 vb.ownBlock) (f : ∀ k, vb2.ownBlock = some k → vb.ownBlock = some k ∨ wr.heap.size ≤ k) : R3 w w2 v ps vb2 (bl ++ cl) ve el := by
  refine ⟨h.out.grown g h.off1 (h.apart (fun k hk => (h.bs.lt k hk).1)), by rw [List.length_append, u8s_append]; exact o, own_grown h.ends g h.off6, h.off1.fresh h.out.own (Nat.le_refl _) f, h.off2, h.off3.turn h.out.own (Nat.le_refl _) f, h.off4.turn h.ends (Nat.le_refl _) f, h.off5, h.off6.fresh h.ends (Nat.le_refl _) f, h.txt, below_grown h.bel g (fun k hk => (h.bs.lt k hk).1)⟩
theorem i64s_snoc (a : List Int) (x : Int) : i64s (a ++ [x]) = i64s a ++ [.int .i64 x] := by simp [i64s]
theorem R3.push3 {w wr w2 : World} {v vb ve ve2 : Value} {ps : List (Rc × Value)} {bl el : List Int} {x : Int} {ob : Obj} (h : R3 w wr v ps vb bl ve el)
    (o : w2.ownsRow w.heap.size 3 1 ve2 (el.length + 1) (i64s el ++ [.int .i64 x])) (g : (wr.alloc ob).grownBy w2 ve.ownBlock) (f : ∀ k, ve2.ownBlock = some k → ve.ownBlock = some k ∨ wr.heap.size + 1 ≤ k) : R3 w w2 v ps vb bl ve2 (el ++ [x]) := by
  have hb := balloc (Below.refl wr.heap.size wr) ob
  refine ⟨(h.out.below hb).grown g h.off2 (h.apart (fun k hk => (h.ends.lt k hk).1)), own_grown (own_belowS h.bs hb) g h.off4, by rw [List.length_append, i64s_snoc]; exact o, h.off1, h.off2.fresh h.out.own (Nat.le_succ _) f, h.off3, h.off4.fresh h.bs (Nat.le_succ _) f, h.off5.turn h.out.own (Nat.le_succ _) f, h.off6.turn h.bs (Nat.le_succ _) f, h.txt, below_grown (bstep h.bel hb) g (fun k hk => (h.ends.lt k hk).1)⟩
end Go.Proofs.Ythgaphfelpnclaa
