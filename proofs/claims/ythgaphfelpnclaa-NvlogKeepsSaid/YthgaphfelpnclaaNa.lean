/- The log: a check is reckoned; a number in four bytes; which records are right. -/
import Derived.Test.YthgaphfelpnclaaAn
import Derived.MapKept
set_option linter.unusedVariables false
set_option linter.unusedSimpArgs false
namespace Go.Proofs.Ythgaphfelpnclaa
open Go.RowKit

/-- One bit is taken in. -/
def cbit (y : Int) : Int := bits BinOp.xor .u32 (y / 2) (bits BinOp.and .u32 3988292384 (-bits BinOp.and .u32 y 1 % 4294967296))
def cbits : Nat → Int → Int
  | 0, y => y
  | n + 1, y => cbit (cbits n y)
def chalf (y : Int) : Int := cbits 4 y
def cadd (s b : Int) : Int := chalf (chalf (bits BinOp.xor .u32 s b))
def csum (ls : List Int) : Int := ls.foldl cadd 4294967295
def U32 (x : Int) : Prop := 0 ≤ x ∧ x ≤ 4294967295
def U8s (ls : List Int) : Prop := ∀ n ∈ ls, 0 ≤ n ∧ n ≤ 255

set_option maxRecDepth 100000 in
theorem halfD (x : Int) (w : World) : Calls Try.prog 80 #[.int .u32 x] w fun e' w' => e' = .returned (.int .u32 (chalf x)) ∧ Below w.heap.size w w' := by
  go_enter Try.func80, Try.ntmps80
  go_wp2_with fail
  go_loopw [0, 3] (fun s i wr => ∃ (k : Nat), k ≤ 4 ∧ i = .int .i64 k ∧ s = .int .u32 (cbits k x) ∧ Below w.heap.size w wr) (fun _ i _ => 4 - (intOf i).toNat)
  case atStart => exact ⟨0, by omega, rfl, rfl, Below.refl _ _⟩
  case round =>
    obtain ⟨k, hk, rfl, rfl, hb⟩ := hrel
    by_cases hlt : k < 4
    · go_wp2_with fail
      case roundEnd => exact ⟨⟨k + 1, by omega, by go_num, rfl, hb⟩, by simp [intOf]; omega⟩
    · obtain rfl : k = 4 := by omega
      go_wp2_with fail
      go_ret
      exact ⟨rfl, hb⟩
set_option maxRecDepth 100000 in
theorem addD (x b : Int) (hb : 0 ≤ b ∧ b ≤ 255) (w : World) : Calls Try.prog 77 #[.int .u32 x, .int .u8 b] w fun e' w' => e' = .returned (.int .u32 (cadd x b)) ∧ Below w.heap.size w w' := by
  have h1 : b % 4294967296 = b := by omega
  go_enter Try.func77, Try.ntmps77
  go_wp2_with fail
  with_reducible refine Calls.mono (halfD _ _) ?_
  rintro e1 w1 ⟨rfl, hb1⟩
  go_wp2_with fail
  with_reducible refine Calls.mono (halfD _ _) ?_
  rintro e2 w2 ⟨rfl, hb2⟩
  go_wp2_with fail
  go_ret
  exact ⟨by simp [cadd, h1], bstep hb1 hb2⟩
theorem shapes_zero (w : World) : (zeroValue 113).run Try.prog w = .ok (.agg #[.bool false, .bool false, .int .i64 0]) w := by kernel_rfl
/-- The kinds of records, as the map has them. -/
def shapesE : List MapEntry := [⟨.int .u8 1, .agg #[.bool false, .bool false, .int .i64 0], 0⟩, ⟨.int .u8 2, .agg #[.bool true, .bool false, .int .i64 8192], 1⟩, ⟨.int .u8 3, .agg #[.bool false, .bool true, .int .i64 0], 2⟩, ⟨.int .u8 4, .agg #[.bool false, .bool false, .int .i64 0], 3⟩]
theorem map_put (es : List MapEntry) (c : Nat) (k : Int) (v : Value) (w : World) (hf : Instr.findNow (.int .u8) (.int .u8 k) es 0 = some none) :
    (Instr.mapUpdate 115 (.map (some w.heap.size)) (.int .u8 k) v).run Try.prog (w.alloc (.map es.toArray c)) = .ok () (w.alloc (.map (es ++ [({ key := .int .u8 k, val := v, born := c } : MapEntry)]).toArray (c + 1))) := by
  have hb : (w.alloc (.map es.toArray c)).heap[w.heap.size]? = some (.map es.toArray c) := by unfold World.alloc; simp
  have hc : (Instr.checkKey false 10000 5 (.int .u8 k)).run Try.prog (w.alloc (.map es.toArray c)) = .ok () (w.alloc (.map es.toArray c)) := MapKept.run_checkKey (k := .int .u8 k) Try.underlying5 (by simp [MapKept.IsKey]) false 9999
  have hk := MapKept.run_findKey (P := Try.prog) (w := w.alloc (.map es.toArray c)) Try.underlying5 hf
  simp [Instr.mapUpdate, run_underlying Try.underlying115, MapKept.run_getObj_map hb, hc, hk, MapKept.run_setObj_map _ hb, Result.andThen]
  have e : ∀ (xs : Array Obj) (a b : Obj), (xs.push a).setIfInBounds xs.size b = xs.push b := by
    intro xs a b
    apply Array.ext'
    simp [List.set_append]
  unfold World.alloc
  simp only [e]
def lookR (r : Option (Nat × Value)) : Value := match r with | some (_, v) => .tuple #[v, .bool true] | none => .tuple #[.agg #[.bool false, .bool false, .int .i64 0], .bool false]
theorem map_look {es : List MapEntry} {c b : Nat} {k : Int} {r : Option (Nat × Value)} {w : World} (hb : w.heap[b]? = some (.map es.toArray c)) (hf : Instr.findNow (.int .u8) (.int .u8 k) es 0 = some r) :
    (Instr.lookup 115 (.map (some b)) (.int .u8 k) true).run Try.prog w = .ok (lookR r) w := by
  have hc : ∀ e, (Instr.checkKey e 10000 5 (.int .u8 k)).run Try.prog w = .ok () w := fun e => MapKept.run_checkKey (k := .int .u8 k) Try.underlying5 (by simp [MapKept.IsKey]) e 9999
  have hk := MapKept.run_findKey (P := Try.prog) (w := w) Try.underlying5 hf
  cases r with
  | none => simp [Instr.lookup, run_underlying Try.underlying115, MapKept.run_getObj_map hb, hc, hk, Result.andThen, shapes_zero, lookR]
  | some p => simp [Instr.lookup, run_underlying Try.underlying115, MapKept.run_getObj_map hb, hc, hk, Result.andThen, lookR]
set_option maxRecDepth 100000 in
theorem shapesD (w : World) : Calls Try.prog 70 #[] w fun e' w' => e' = .returned (.map (some w.heap.size)) ∧ w'.heap[w.heap.size]? = some (.map shapesE.toArray 4) ∧ Below w.heap.size w w' := by
  have hmm := @run_makeMap Try.prog
  have p1 := map_put [] 0 1 (.agg #[.bool false, .bool false, .int .i64 0]) w rfl
  have p2 := map_put (shapesE.take 1) 1 2 (.agg #[.bool true, .bool false, .int .i64 8192]) w rfl
  have p3 := map_put (shapesE.take 2) 2 3 (.agg #[.bool false, .bool true, .int .i64 0]) w rfl
  have p4 := map_put (shapesE.take 3) 3 4 (.agg #[.bool false, .bool false, .int .i64 0]) w rfl
  simp only [shapesE, List.take_succ_cons, List.take_zero, List.cons_append, List.nil_append] at p1 p2 p3 p4
  go_enter Try.func70, Try.ntmps70
  go_wp2_with fail
  go_ret
  exact ⟨rfl, by unfold World.alloc; simp [shapesE], balloc (Below.refl _ _) _⟩
theorem BelowC.map {w w1 : World} (h : BelowC w w1) {b c : Nat} {es : Array MapEntry} (hm : w.heap[b]? = some (.map es c)) : w1.heap[b]? = some (.map es c) := by
  have hb : Below w.heap.size w w1 := h
  rw [hb.block b (Array.getElem?_eq_some_iff.1 hm).1]; exact hm
/-- Is a record of this kind right? -/
def rightB (wh who : Int) (yes : Bool) (n : Nat) : Bool :=
  if wh = 1 ∨ wh = 4 then (!decide (0 < who) && !yes && decide ((n : Int) ≤ 0)) else if wh = 2 then decide (0 < who) && !yes && decide ((n : Int) ≤ 8192) else if wh = 3 then !decide (0 < who) && decide ((n : Int) ≤ 0) else false
set_option maxRecDepth 100000 in
theorem rightD (wh tx who : Int) (yes : Bool) (A : Option Addr) (n c : Nat) (w : World) (hwh : 0 ≤ wh ∧ wh ≤ 255) (hwho : 0 ≤ who ∧ who ≤ 255) :
    Calls Try.prog 41 #[.agg #[.int .u8 wh, .int .u32 tx, .int .u8 who, .bool yes, .slice A n c]] w fun e' w' => e' = .returned (.bool (rightB wh who yes n)) ∧ Below w.heap.size w w' := by
  have hr : ∃ r sa sb sc kn, Instr.findNow (.int .u8) (.int .u8 wh) shapesE 0 = some r ∧ lookR r = .tuple #[.agg #[.bool sa, .bool sb, .int .i64 sc], .bool kn] ∧
      ((kn = false ∧ wh ≠ 1 ∧ wh ≠ 2 ∧ wh ≠ 3 ∧ wh ≠ 4) ∨ (kn = true ∧ ((wh = 1 ∨ wh = 4) ∧ sa = false ∧ sb = false ∧ sc = 0 ∨ wh = 2 ∧ sa = true ∧ sb = false ∧ sc = 8192 ∨ wh = 3 ∧ sa = false ∧ sb = true ∧ sc = 0))) := by
    simp only [shapesE, Instr.findNow, Instr.sameNow, if_true]
    by_cases h1 : wh = 1
    · exact ⟨some (0, _), false, false, 0, true, by simp [h1], rfl, by simp [h1]⟩
    · by_cases h2 : wh = 2
      · exact ⟨some (1, _), true, false, 8192, true, by simp [h2], rfl, by simp [h2]⟩
      · by_cases h3 : wh = 3
        · exact ⟨some (2, _), false, true, 0, true, by simp [h3], rfl, by simp [h3]⟩
        · by_cases h4 : wh = 4
          · exact ⟨some (3, _), false, false, 0, true, by simp [h4], rfl, by simp [h4]⟩
          · have e1 : (wh == 1) = false := by simpa using h1
            have e2 : (wh == 2) = false := by simpa using h2
            have e3 : (wh == 3) = false := by simpa using h3
            have e4 : (wh == 4) = false := by simpa using h4
            exact ⟨none, false, false, 0, false, by simp [e1, e2, e3, e4], rfl, by simp [h1, h2, h3, h4]⟩
  obtain ⟨r, sa, sb, sc, kn, hr, hv, hk⟩ := hr
  go_enter Try.func41, Try.ntmps41
  go_wp2_with fail
  generalize hQQ : Exit.then _ _ = QQ
  suffices key : ∀ (m s : Nat) (w' : World), Below w.heap.size w w' → w'.cell? ⟨w.heap.size, 2, none⟩ = some (.int .u8 who) → w'.cell? ⟨w.heap.size, 3, none⟩ = some (.bool yes) → w'.cell? ⟨w.heap.size, 4, none⟩ = some (.slice A n c) →
      w'.cell? ⟨s, 0, none⟩ = some (.bool sa) → w'.cell? ⟨s, 1, none⟩ = some (.bool sb) → w'.cell? ⟨s, 2, none⟩ = some (.int .i64 sc) →
      QQ .normal { tmps := #[.agg #[.int .u8 wh, .int .u32 tx, .int .u8 who, .bool yes, .slice A n c], .pointer (some ⟨w.heap.size, 0, none⟩), .bool false, .pointer (some ⟨s, 0, none⟩), .bool kn, .tuple #[.agg #[.bool sa, .bool sb, .int .i64 sc], .bool kn], .map (some m), .pointer (some ⟨w.heap.size, 0, none⟩), .int .u8 wh, .tuple #[.agg #[.bool sa, .bool sb, .int .i64 sc], .bool kn], .agg #[.bool sa, .bool sb, .int .i64 sc], .bool kn, undef, undef, undef, undef, undef, undef, undef, undef, undef, undef, undef, undef, undef, undef, undef, undef, undef, undef, undef, undef, undef, undef, undef, undef, undef, undef], defers := [] } w' by
    refine region_held (by kernel_rfl) ?_
    intro w0 hb0 hs0
    clear hs0
    have HS : BelowC w0 w0 := BelowC.refl w0
    have x0 : w0.cell? ⟨w.heap.size, 0, none⟩ = some (.int .u8 wh) := keep hb0 (by go_simp)
    have x2 : w0.cell? ⟨w.heap.size, 2, none⟩ = some (.int .u8 who) := keep hb0 (by go_simp)
    have x3 : w0.cell? ⟨w.heap.size, 3, none⟩ = some (.bool yes) := keep hb0 (by go_simp)
    have x4 : w0.cell? ⟨w.heap.size, 4, none⟩ = some (.slice A n c) := keep hb0 (by go_simp)
    have hlt := cell_lt x0
    have B0 : Below w.heap.size w w0 := bstep (balloc (Below.refl _ _) _) hb0
    refine heldTake 1 (.pointer (some ⟨w.heap.size, 0, none⟩)) rfl (by kernel_rfl) (by kernel_rfl) (by kernel_rfl) (fun _ _ _ h => by subst hQQ; exact h) HS (by rfl) (fun wq hC => by go_simp) ?_
    refine heldTake 2 (.int .u8 wh) rfl (by kernel_rfl) (by kernel_rfl) (by kernel_rfl) (fun _ _ _ h => by subst hQQ; exact h) HS (by rfl) (fun wq hC => by have := hC.keep x0; go_simp) ?_
    refine heldTwo 0 7 rfl rfl (by kernel_rfl) ?_ ?_
    · intro K hK
      go_simp
      with_reducible refine Calls.mono (shapesD _) ?_
      rintro e1 w1 ⟨rfl, hm, hb1⟩
      refine hK _ _ hb1 ?_
      clear hK K
      refine heldMono (S' := BelowC w1) (fun w2 h2 => BelowC.step hb1 h2) _ _ _ _ ?_
      have HS : BelowC w1 w1 := BelowC.refl w1
      refine heldTake 3 (.tuple #[.agg #[.bool sa, .bool sb, .int .i64 sc], .bool kn]) rfl (by kernel_rfl) (by kernel_rfl) (by kernel_rfl) (fun _ _ _ h => by subst hQQ; exact h) HS (by rfl) (fun wq hC => by have h9 := map_look (hC.map hm) hr; rw [hv] at h9; go_simp) ?_
      refine heldTake 4 (.tuple #[.agg #[.bool sa, .bool sb, .int .i64 sc], .bool kn]) rfl (by kernel_rfl) (by kernel_rfl) (by kernel_rfl) (fun _ _ _ h => by subst hQQ; exact h) HS (by rfl) (fun wq hC => by go_simp) ?_
      refine heldTake 5 (.agg #[.bool sa, .bool sb, .int .i64 sc]) rfl (by kernel_rfl) (by kernel_rfl) (by kernel_rfl) (fun _ _ _ h => by subst hQQ; exact h) HS (by rfl) (fun wq hC => by go_simp) ?_
      refine heldTake 6 (.bool kn) rfl (by kernel_rfl) (by kernel_rfl) (by kernel_rfl) (fun _ _ _ h => by subst hQQ; exact h) HS (by rfl) (fun wq hC => by go_simp) ?_
      refine heldOne 7 rfl (by kernel_rfl) ?_
      intro K hK
      go_simp
      refine hK _ _ (balloc (Below.refl _ _) _) ?_
      clear hK K
      refine heldOne 8 rfl (by kernel_rfl) ?_
      intro K hK
      go_simp
      refine hK _ _ (by repeat (first | exact Below.refl _ _ | refine bset ?_ (by first | (simp; done) | (simp; omega)) _ | refine balloc ?_ _)) ?_
      clear hK K
      refine heldOne 9 rfl (by kernel_rfl) ?_
      intro K hK
      go_simp
      refine hK _ _ (by repeat (first | exact Below.refl _ _ | refine bset ?_ (by first | (simp; done) | (simp; omega)) _ | refine balloc ?_ _)) ?_
      clear hK K
      refine wpAnyH_done (by kernel_rfl) ?_ _
      exact key _ _ _ (bstep (bstep B0 hb1) (balloc (Below.refl _ _) _)) (keep (balloc (Below.refl _ _) _) (keep hb1 x2)) (keep (balloc (Below.refl _ _) _) (keep hb1 x3)) (keep (balloc (Below.refl _ _) _) (keep hb1 x4)) (by go_simp) (by go_simp) (by go_simp)
    · intro K hK
      go_simp
      refine hK _ _ (balloc (Below.refl _ _) _) ?_
      clear hK K
      refine heldOne 0 rfl (by kernel_rfl) ?_
      intro K hK
      go_simp
      with_reducible refine Calls.mono (shapesD _) ?_
      rintro e1 w1 ⟨rfl, hm, hb1⟩
      refine hK _ _ (bstep (balloc (Below.refl _ _) _) hb1) ?_
      clear hK K
      have g0 : w1.cell? ⟨w0.heap.size, 0, none⟩ = some (.bool false) := keep hb1 (by go_simp)
      have g1 : w1.cell? ⟨w0.heap.size, 1, none⟩ = some (.bool false) := keep hb1 (by go_simp)
      have g2 : w1.cell? ⟨w0.heap.size, 2, none⟩ = some (.int .i64 0) := keep hb1 (by go_simp)
      have f0 : w1.frozen? ⟨w0.heap.size, 0, none⟩ = false := keepF hb1 (.bool false) (by go_simp) (by go_simp)
      have f1 : w1.frozen? ⟨w0.heap.size, 1, none⟩ = false := keepF hb1 (.bool false) (by go_simp) (by go_simp)
      have f2 : w1.frozen? ⟨w0.heap.size, 2, none⟩ = false := keepF hb1 (.int .i64 0) (by go_simp) (by go_simp)
      have hm : w1.heap[w0.heap.size + 1]? = some (.map shapesE.toArray 4) := by simpa using hm
      refine heldMono (S' := fun w2 => BelowC w0 w2 ∧ w2.heap[w0.heap.size + 1]? = some (.map shapesE.toArray 4)) (fun w2 h2 => h2.1) _ _ _ _ ?_
      have HS : BelowC w0 w1 ∧ w1.heap[w0.heap.size + 1]? = some (.map shapesE.toArray 4) := ⟨bstep (balloc (Below.refl _ _) _) hb1, hm⟩
      have HW : ∀ (u0 u1 u2 : Value), BelowC w0 (((w1.setCell ⟨w0.heap.size, 0, none⟩ u0).setCell ⟨w0.heap.size, 1, none⟩ u1).setCell ⟨w0.heap.size, 2, none⟩ u2) ∧ (((w1.setCell ⟨w0.heap.size, 0, none⟩ u0).setCell ⟨w0.heap.size, 1, none⟩ u1).setCell ⟨w0.heap.size, 2, none⟩ u2).heap[w0.heap.size + 1]? = some (.map shapesE.toArray 4) := by
        intro u0 u1 u2
        refine ⟨bset (bset (bset HS.1 (by simp) _) (by simp) _) (by simp) _, ?_⟩
        rw [Below.heap_setCell _ _ _ _ (by simp), Below.heap_setCell _ _ _ _ (by simp), Below.heap_setCell _ _ _ _ (by simp)]
        exact hm
      refine wpAnyH_take (i := 3) rfl (by kernel_rfl) (by kernel_rfl) (by kernel_rfl) (fun _ _ _ h => by subst hQQ; exact h) (v := .tuple #[.agg #[.bool sa, .bool sb, .int .i64 sc], .bool kn]) (.inl ⟨by rfl, fun wq hC => by have h9 := map_look hC.2 hr; rw [hv] at h9; go_simp⟩) HS ?_
      refine wpAnyH_take (i := 4) rfl (by kernel_rfl) (by kernel_rfl) (by kernel_rfl) (fun _ _ _ h => by subst hQQ; exact h) (v := .tuple #[.agg #[.bool sa, .bool sb, .int .i64 sc], .bool kn]) (.inl ⟨by rfl, fun wq hC => by go_simp⟩) HS ?_
      refine wpAnyH_take (i := 5) rfl (by kernel_rfl) (by kernel_rfl) (by kernel_rfl) (fun _ _ _ h => by subst hQQ; exact h) (v := .agg #[.bool sa, .bool sb, .int .i64 sc]) (.inl ⟨by rfl, fun wq hC => by go_simp⟩) HS ?_
      refine wpAnyH_take (i := 6) rfl (by kernel_rfl) (by kernel_rfl) (by kernel_rfl) (fun _ _ _ h => by subst hQQ; exact h) (v := .bool kn) (.inl ⟨by rfl, fun wq hC => by go_simp⟩) HS ?_
      refine heldOne 8 rfl (by kernel_rfl) ?_
      intro K hK
      go_simp
      refine hK _ _ (HW _ _ _) ?_
      clear hK K
      refine heldOne 9 rfl (by kernel_rfl) ?_
      intro K hK
      go_simp
      refine hK _ _ (HW _ _ _) ?_
      clear hK K
      refine wpAnyH_done (by kernel_rfl) ?_ _
      have B1 := bstep (bstep B0 (balloc (Below.refl _ _) _)) hb1
      have y2 := keep hb1 (keep (balloc (Below.refl _ _) _) x2)
      have y3 := keep hb1 (keep (balloc (Below.refl _ _) _) x3)
      have y4 := keep hb1 (keep (balloc (Below.refl _ _) _) x4)
      have hne : w.heap.size ≠ w0.heap.size := by omega
      exact key _ _ _ (bset (bset (bset B1 (by simp; omega) _) (by simp; omega) _) (by simp; omega) _) (cell_other (cell_other (cell_other y2 hne) hne) hne) (cell_other (cell_other (cell_other y3 hne) hne) hne) (cell_other (cell_other (cell_other y4 hne) hne) hne) (by go_simp) (by go_simp) (by go_simp)
  subst hQQ
  intro m s w' hb x2 x3 x4 s0 s1 s2
  rcases hk with ⟨rfl, hk⟩ | ⟨rfl, hk⟩
  · go_wp2_with fail
    go_ret
    exact ⟨by simp [rightB, hk], hb⟩
  · clear hr hv
    by_cases hw0 : 0 < who
    · have d0 : decide (0 < who) = true := by simpa using hw0
      cases yes with
      | true =>
        rcases hk with ⟨h1, rfl, rfl, rfl⟩ | ⟨rfl, rfl, rfl, rfl⟩ | ⟨rfl, rfl, rfl, rfl⟩
        · go_wp2_with fail
          go_ret
          exact ⟨by rcases h1 with rfl | rfl <;> simp [rightB, d0], hb⟩
        · go_wp2_with fail
          go_ret
          exact ⟨by simp [rightB, d0], hb⟩
        · go_wp2_with fail
          go_ret
          exact ⟨by simp [rightB, d0], hb⟩
      | false =>
        rcases hk with ⟨h1, rfl, rfl, rfl⟩ | ⟨rfl, rfl, rfl, rfl⟩ | ⟨rfl, rfl, rfl, rfl⟩
        · go_wp2_with fail
          go_ret
          exact ⟨by rcases h1 with rfl | rfl <;> simp [rightB, d0], hb⟩
        · go_wp2_with fail
          go_ret
          exact ⟨by simp [rightB, d0], hb⟩
        · go_wp2_with fail
          go_ret
          exact ⟨by simp [rightB, d0], hb⟩
    · have d0 : decide (0 < who) = false := by simpa using hw0
      cases yes with
      | true =>
        rcases hk with ⟨h1, rfl, rfl, rfl⟩ | ⟨rfl, rfl, rfl, rfl⟩ | ⟨rfl, rfl, rfl, rfl⟩
        · go_wp2_with fail
          go_ret
          exact ⟨by rcases h1 with rfl | rfl <;> simp [rightB, d0], hb⟩
        · go_wp2_with fail
          go_ret
          exact ⟨by simp [rightB, d0], hb⟩
        · go_wp2_with fail
          go_ret
          exact ⟨by simp [rightB, d0], hb⟩
      | false =>
        rcases hk with ⟨h1, rfl, rfl, rfl⟩ | ⟨rfl, rfl, rfl, rfl⟩ | ⟨rfl, rfl, rfl, rfl⟩
        · go_wp2_with fail
          go_ret
          exact ⟨by rcases h1 with rfl | rfl <;> simp [rightB, d0], hb⟩
        · go_wp2_with fail
          go_ret
          exact ⟨by simp [rightB, d0], hb⟩
        · go_wp2_with fail
          go_ret
          exact ⟨by simp [rightB, d0], hb⟩
end Go.Proofs.Ythgaphfelpnclaa
