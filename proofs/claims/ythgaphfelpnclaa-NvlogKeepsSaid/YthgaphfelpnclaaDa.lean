/- The disk: bytes are appended, one by one, till the power goes. -/
import Derived.Test.YthgaphfelpnclaaDk
set_option linter.unusedVariables false
set_option linter.unusedSimpArgs false
namespace Go.Proofs.Ythgaphfelpnclaa
open Go.RowKit

def Dsk.feed : Dsk → List Int → Dsk × Int
  | d, [] => (d, 0)
  | d, x :: r => if d.left = 0 then (d.dark, 6) else Dsk.feed { d.dec with b := d.b ++ [x] } r
def Dsk.appOn (d : Dsk) (ls : List Int) : Dsk × Int := if (d.room : Int) - d.b.length < ls.length then (d, 5) else d.feed ls
def Dsk.app (d : Dsk) (ls : List Int) : Dsk × Int := if d.off then (d, 6) else d.appOn ls

/-- A row of bytes: its value, and the cells where there are some. -/
def BAt (w : World) (v : Value) (ls : List Int) : Prop :=
  ∃ (A : Option Addr) (c : Nat), v = .slice A ls.length c ∧ ls.length ≤ c ∧ c ≤ maxLen ∧ ∀ i, i < ls.length → ∃ b o, A = some ⟨b, o, none⟩ ∧ w.cell? ⟨b, o + i, none⟩ = some (.int .u8 (ls.getD i 0))
theorem BAt.of_own {w : World} {base : Nat} {v : Value} {ls : List Int} (h : w.ownsRow base 5 1 v ls.length (u8s ls)) : BAt w v ls := by
  rcases h.2 with ⟨rfl, h0⟩ | ⟨g, cap, cur, rfl, hb, hg, hn, hc, hs, ht⟩
  · have : ls = [] := List.length_eq_zero_iff.1 h0
    subst this
    exact ⟨none, 0, rfl, by simp, by simp, fun i hi => absurd hi (by simp)⟩
  · refine ⟨_, cap, rfl, hn, hc, fun i hi => ⟨g, 0, rfl, ?_⟩⟩
    have h1 := h.cells (g := g) rfl i (.int .u8 (ls.getD i 0)) (by simp [u8s, List.getD, hi])
    rw [show (⟨g, 0, none⟩ : Addr).add i = ⟨g, 0 + i, none⟩ from by unfold Addr.add; split <;> simp_all] at h1
    exact h1
theorem BAt.below {w w' : World} {v : Value} {ls : List Int} (h : BAt w v ls) (hb : Below w.heap.size w w') : BAt w' v ls := by
  obtain ⟨A, c, h1, h2, h3, h4⟩ := h
  exact ⟨A, c, h1, h2, h3, fun i hi => by obtain ⟨b, o, e1, e2⟩ := h4 i hi; exact ⟨b, o, e1, keep hb e2⟩⟩
/-- Not the disk's own memory. -/
def Apart (B : Nat) (v u : Value) : Prop := ∀ k, u.ownBlock = some k → k ≠ B ∧ some k ≠ v.ownBlock
theorem BAt.step {w w' : World} {B : Nat} {u v v2 : Value} {ls : List Int} (h : BAt w u ls) (s : Step B v v2 w w') (ha : ls ≠ [] → Apart B v u) : BAt w' u ls := by
  obtain ⟨A, c, rfl, h2, h3, h4⟩ := h
  refine ⟨A, c, rfl, h2, h3, fun i hi => ?_⟩
  obtain ⟨b, o, rfl, e2⟩ := h4 i hi
  obtain ⟨a1, a2⟩ := ha (by intro h0; rw [h0] at hi; simp at hi) b rfl
  exact ⟨b, o, rfl, s.cell e2 a1 a2⟩
theorem BAt.lt {w : World} {u : Value} {ls : List Int} (h : BAt w u ls) (hn : ls ≠ []) : ∀ k, u.ownBlock = some k → k < w.heap.size := by
  obtain ⟨A, c, rfl, h2, h3, h4⟩ := h
  intro k hk
  obtain ⟨b, o, rfl, e2⟩ := h4 0 (List.length_pos_iff.2 hn)
  simp [Value.ownBlock] at hk
  subst hk
  exact cell_lt e2
theorem Apart.step {w w' : World} {B : Nat} {u v v2 : Value} (ha : Apart B v u) (s : Step B v v2 w w') (hl : ∀ k, u.ownBlock = some k → k < w.heap.size) : Apart B v2 u :=
  fun k hk => ⟨(ha k hk).1, fun e => (ha k hk).2 (s.fresh k (hl k hk) e)⟩

theorem len_of_own {w : World} {base e n : Nat} {v : Value} {xs : List Value} (h : w.ownsRow base e 1 v n xs) : ∃ A cp, v = .slice A n cp := by
  rcases h.2 with ⟨rfl, h0⟩ | ⟨g, cap, cur, rfl, _⟩
  · exact ⟨_, _, by rw [h0]⟩
  · exact ⟨_, _, rfl⟩

theorem below_drewN {B : Nat} {a w : World} (h : Below B a w) (n : Nat) : Below B a (w.drewN n) := h.trans ⟨rfl, rfl, rfl, Nat.le_refl _, fun _ _ => rfl⟩
theorem info5 : (Try.prog.info? 5).map (fun i => (i.zero, i.size, i.bytes)) = some (some (.int .u8 0), 1, 1) := by kernel_rfl

/-- append to a row of the call's own: the row behind it is the same block, or a new one. -/
theorem run_append_own2 {P : Program} (w : World) (base : Nat) (t ty e : TypeId) (i : TypeInfo) (z : Value) (bytes : Nat) (ht : P.underlying t = some (.slice e)) (hi : P.info? e = some i) (hz : i.zero = some z)
    (hsize : i.size = 1) (hby : i.bytes = bytes) (hzs : z.cells.size = 1)
    (v : Value) (n : Nat) (xs : List Value) (hown : w.ownsRow base e 1 v n xs)
    (a : Addr) (m c : Nat) (news : List Value) (hl : news.length = m * 1) (hnews : ∀ j u, news[j]? = some u → w.cell? (a.add j) = some u) (h1 : ∀ u ∈ news, u.oneCell' = true)
    (h63 : n + m ≤ maxLen) (hbytes : (n + m) * bytes ≤ 140737488355328) (hbase : base ≤ w.heap.size) :
    ∃ v' w', (Builtin.append_ #[t, t] ty #[v, .slice (some a) m c]).run P w = .ok v' w' ∧ w'.ownsRow base e 1 v' (n + m) (xs ++ news) ∧ w.grownBy w' v.ownBlock ∧ (∀ k, v'.ownBlock = some k → v.ownBlock = some k ∨ w.heap.size ≤ k) := by
  obtain ⟨v', w', hr, h2, h3, h4⟩ := run_append_own (P := P) w base t ty e i z 1 bytes ht hi hz hsize hby hzs (by decide) v n xs hown a m c news hl hnews h1 h63 hbytes hbase
  refine ⟨v', w', hr, h2, h3, ?_⟩
  intro k hk
  have h63' : ((n + m : Nat) : Int) ≤ 9223372036854775807 := by simp only [maxLen] at h63; omega
  rcases hown.2 with ⟨rfl, rfl⟩ | ⟨g, cap, cur, rfl, hbg, hg, hnc, hcm, hcs, htake⟩
  · have hx : xs = [] := List.eq_nil_of_length_eq_zero (by simpa using hown.1)
    subst hx
    obtain ⟨v3, w3, hr3, h23, _, _⟩ := run_append_own (P := P) w w.heap.size t ty e i z 1 bytes ht hi hz hsize hby hzs (by decide) _ 0 [] (World.ownsRow_nil w w.heap.size e 1) a m c news hl hnews h1 h63 hbytes (Nat.le_refl _)
    rw [hr] at hr3
    injection hr3 with e1 e2
    subst e1
    exact .inr (h23.lt k hk).1
  · by_cases hroom : n + m ≤ cap
    · have hr3 := run_append_room (P := P) w t ty e i ht hi g n cap cur hg a m c news (by rw [hsize]; exact hl) hnews h1 hroom (by rw [hsize, hl, hcs]; omega)
      rw [hr] at hr3
      injection hr3 with e1 e2
      subst e1
      exact .inl hk
    · have holds : ∀ j u, xs[j]? = some u → w.cell? ((⟨g, 0, none⟩ : Addr).add j) = some u := hown.cells (g := g) rfl
      have hr3 := run_append_grow (P := P) w t ty e i z ht hi hz ⟨g, 0, none⟩ n cap xs (by rw [hsize]; exact hown.1) holds a m c news (by rw [hsize]; exact hl) hnews (by omega) h63' (by rw [hby]; exact growslice_fits (by omega) hbytes)
      rw [hr] at hr3
      injection hr3 with e1 e2
      subst e1
      simp [Value.ownBlock] at hk
      exact .inr (by omega)
theorem wpList_append_own2 {P : Program} (w : World) {ops : Array Oper} {rest : List Oper} {o : Oper} {a : Act} {Q : Exit → Act → World → Prop} (hgd : o.guard = none) (s x : Operand) (t : TypeId)
    (ho : o.op = .call { callee := .builtin .append, args := #[s, x], argTypes := #[t, t] })
    (base : Nat) (e : TypeId) (i : TypeInfo) (z : Value) (bytes : Nat) (ht : P.underlying t = some (.slice e)) (hi : P.info? e = some i) (hz : i.zero = some z)
    (hsize : i.size = 1) (hby : i.bytes = bytes) (hzs : z.cells.size = 1)
    (v : Value) (n : Nat) (xs : List Value) (hs : a.eval s = v) (hown : w.ownsRow base e 1 v n xs)
    (ad : Addr) (m c : Nat) (news : List Value) (hx : a.eval x = .slice (some ad) m c) (hl : news.length = m * 1) (hnews : ∀ j u, news[j]? = some u → w.cell? (ad.add j) = some u) (h1 : ∀ u ∈ news, u.oneCell' = true)
    (h63 : n + m ≤ maxLen) (hbytes : (n + m) * bytes ≤ 140737488355328) (hbase : base ≤ w.heap.size)
    (h : ∀ v' w', w'.ownsRow base e 1 v' (n + m) (xs ++ news) → w.grownBy w' v.ownBlock → (∀ k, v'.ownBlock = some k → v.ownBlock = some k ∨ w.heap.size ≤ k) → wpList P ops Q rest (a.put o.dst v') w') : wpList P ops Q (o :: rest) a w :=
  wpList_plain hgd fun _ hK => by
    obtain ⟨v', w', hr, h2, h3, h4⟩ := run_append_own2 (P := P) w base t o.type e i z bytes ht hi hz hsize hby hzs v n xs hown ad m c news hl hnews h1 h63 hbytes hbase
    unfold Oper.wp execOp
    simp only [ho, resolve, invoke, builtin, Sem.run_bind, Sem.run_pure, Result.andThen_ok, List.map_toArray, List.map_cons, List.map_nil, hs, hx, hr]
    exact hK _ _ (h v' w' h2 h3 h4)
/-- append to a row of the call's own as a step of a region that draws. -/
theorem step_own2 {P : Program} {ops : Array Oper} {o : Oper} {a : Act} {w : World} {K : Act → World → Prop} {Q : Exit → Act → World → Prop} {E : Prop}
    (hg : o.guard = none) (s x : Operand) (t : TypeId) (hop : o.op = Op.call { callee := Callee.builtin Builtin.append, args := #[s, x], argTypes := #[t, t] })
    (base : Nat) (e : TypeId) (i : TypeInfo) (z : Value) (bytes : Nat) (ht : P.underlying t = some (.slice e)) (hi : P.info? e = some i) (hz : i.zero = some z) (hsize : i.size = 1) (hby : i.bytes = bytes) (hzs : z.cells.size = 1)
    (v : Value) (n : Nat) (xs : List Value) (hs : a.eval s = v) (hown : w.ownsRow base e 1 v n xs)
    (ad : Addr) (m c : Nat) (news : List Value) (hx : a.eval x = .slice (some ad) m c) (hl : news.length = m * 1) (hnews : ∀ j u, news[j]? = some u → w.cell? (ad.add j) = some u) (h1 : ∀ u ∈ news, u.oneCell' = true)
    (h63 : n + m ≤ maxLen) (hbytes : (n + m) * bytes ≤ 140737488355328) (hbase : base ≤ w.heap.size)
    (h : ∀ v' w', w'.ownsRow base e 1 v' (n + m) (xs ++ news) → w.grownBy w' v.ownBlock → (∀ k, v'.ownBlock = some k → v.ownBlock = some k ∨ w.heap.size ≤ k) → K (a.put o.dst v') w') :
    if Region.wanted o (yielded ops a.tmps) = true then Oper.wp P o a w K Q else E := by
  have hw : Region.wanted o (yielded ops a.tmps) = true := by simp [Region.wanted, hg]
  rw [if_pos hw]
  obtain ⟨v', w', hr, h2, h3, h4⟩ := run_append_own2 (P := P) w base t o.type e i z bytes ht hi hz hsize hby hzs v n xs hown ad m c news hl hnews h1 h63 hbytes hbase
  unfold Oper.wp execOp
  simp only [hop, resolve, invoke, builtin, Sem.run_bind, Sem.run_pure, Result.andThen_ok, List.map_toArray, List.map_cons, List.map_nil, hs, hx, hr]
  exact h v' w' h2 h3 h4
theorem grown_frozen {w w' : World} {row : Option Nat} (hg : w.grownBy w' row) {a : Addr} {v : Value} (h : w.cell? a = some v) (hf : w.frozen? a = false) (hne : some a.block ≠ row) : w'.frozen? a = false :=
  (World.frozen?_of_block (hg.block a.block (World.block_lt_of_cell? w a h) hne)).trans hf
/-- An append to the disk's row, as a step of the disk. -/
theorem Step.grown {B : Nat} {v v2 v3 : Value} {w w1 w2 : World} (s : Step B v v2 w w1) (g : w1.grownBy w2 v2.ownBlock) (f : ∀ k, v3.ownBlock = some k → v2.ownBlock = some k ∨ w1.heap.size ≤ k) : Step B v v3 w w2 :=
  s.trans ⟨g.os, g.tape, g.output, g.size, fun k hk _ hv => g.block k hk hv, fun k hk e => by
    rcases f k e.symm with h | h
    · exact h.symm
    · omega⟩
theorem cells_one {w : World} {b : Nat} {u : Value} (h : w.cell? ⟨b, 0, none⟩ = some u) : ∀ i u', [u][i]? = some u' → w.cell? ((⟨b, 0, none⟩ : Addr).add i) = some u' := by
  intro i u' hu
  rcases i with _ | i
  · simp at hu; subst hu; simpa [Addr.add] using h
  · simp at hu
/-- One byte more. -/
theorem DS.appended {w1 wA w9 : World} {base B : Nat} {v2 v9 : Value} {d3 : Dsk} {x : Int} (h : DS w1 base B v2 d3) (hb : Below w1.heap.size w1 wA) (g : wA.grownBy w9 v2.ownBlock)
    (o : w9.ownsRow base 5 1 v9 (d3.b.length + 1) (u8s d3.b ++ [.int .u8 x])) (f : ∀ k, v9.ownBlock = some k → v2.ownBlock = some k ∨ wA.heap.size ≤ k) (hroom : d3.b.length + 1 ≤ d3.room) :
    DS (w9.setCell ⟨B, 1, none⟩ v9) base B v9 { d3 with b := d3.b ++ [x] } ∧ Step B v2 v9 w1 (w9.setCell ⟨B, 1, none⟩ v9) := by
  have hA := h.below hb
  have hsep : some B ≠ v9.ownBlock := by
    intro e
    rcases f B e.symm with h1 | h1
    · exact h.sep h1.symm
    · have := hA.lt; omega
  refine ⟨⟨by rw [cell_set (g.cell hA.c0 hA.sep)]; rfl, by rw [cell_set (g.cell hA.c1 hA.sep)]; rfl, by rw [cell_set (g.cell hA.c2 hA.sep)]; rfl, by rw [cell_set (g.cell hA.c3 hA.sep)]; rfl, by rw [cell_set (g.cell hA.c4 hA.sep)]; rfl, by rw [cell_set (g.cell hA.c5 hA.sep)]; rfl, fun j hj => ?_, ?_, hsep, h.lo, ?_, h.hl, ?_⟩, ?_⟩
  · rw [World.frozen?_setCell, World.frozen?_of_block (w := wA) (a := ⟨B, j, none⟩) (g.block B hA.lt hA.sep)]; exact hA.fz j hj
  · have e : (d3.b ++ [x]).length = d3.b.length + 1 := by simp
    have e2 : u8s (d3.b ++ [x]) = u8s d3.b ++ [.int .u8 x] := by simp [u8s]
    show (w9.setCell _ _).ownsRow base 5 1 v9 (d3.b ++ [x]).length (u8s (d3.b ++ [x]))
    rw [e, e2]
    exact own_setB o hsep
  · have := h.hs; simp; omega
  · have := h.hr; simp; omega
  · exact (((Step.of_below (v := v2) hb).grown g f)).set (p := ⟨B, 1, none⟩) rfl _
end Go.Proofs.Ythgaphfelpnclaa
