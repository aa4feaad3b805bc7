/- The document's own disk: an operation (the law's 'model'). -/
import Derived.Test.YthgaphfelpnclaaRg
import Derived.Test.YthgaphfelpnclaaDl
set_option linter.unusedVariables false
set_option linter.unusedSimpArgs false
namespace Go.Proofs.Ythgaphfelpnclaa
open Go.RowKit
theorem bat_res {w w1 : World} {v v2 : Value} {l0 ls : List Int} {b : Nat} (h0 : BAt w v l0) (h : BAt w1 v2 ls) (hf : v2 = v ∨ ∀ k, v2.ownBlock = some k → b + 1 ≤ k) (hb : w.heap.size ≤ b) (j : Nat) (u : Value) : BAt (w1.setCell ⟨b, j, none⟩ u) v2 ls := by
  rcases hf with rfl | hf
  · obtain ⟨A0, c0, rfl, _, _, h4⟩ := h0
    obtain ⟨A, c, e, k2, k3, k4⟩ := h
    simp only [Value.slice.injEq] at e
    obtain ⟨rfl, e1, rfl⟩ := e
    refine ⟨A0, c0, by rw [e1], by omega, k3, fun i hi => ?_⟩
    obtain ⟨b1, o1, e2, e3⟩ := h4 i (by omega)
    have hlt := cell_lt e3
    obtain ⟨b2, o2, e4, e5⟩ := k4 i hi
    rw [e2] at e4
    simp only [Option.some.injEq, Addr.mk.injEq] at e4
    obtain ⟨rfl, rfl, _⟩ := e4
    refine ⟨b1, o1, e2, ?_⟩
    rw [World.cell?_of_block (w := w1) (a := ⟨b1, o1 + i, none⟩) (Below.heap_setCell _ _ _ _ (fun (x : b1 = b) => by omega))]
    exact e5
  · exact bat_setB (lo := b + 1) h hf (by simp) u
set_option maxRecDepth 100000 in
set_option maxHeartbeats 1000000 in
theorem rmodel {v u : Value} {d : Dsk} {ls : List Int} {wh n : Int} (w : World) (hv : BAt w v d.b) (hu : BAt w u ls) (hl : -1 ≤ d.left ∧ d.left ≤ 9223372036854775807) (hs : d.safe ≤ d.b.length) (hlen : d.b.length ≤ 262144) (hroom : d.room ≤ 262144) (h200 : ls.length ≤ 200) (hw : 0 ≤ wh ∧ wh ≤ 255) :
    Calls Try.prog 34 #[rag d v, .agg #[.int .u8 wh, u, .int .i64 n]] w fun e' w' => RPost w w' v (d.doOp wh ls n).1 (d.doOp wh ls n).2 e' := by
  have HU := Lib.hid hu
  obtain ⟨Au, cu, rfl, hu2, hu3, hu4⟩ := hu
  clear hu2 hu3 hu4
  have HV := Lib.hid hv
  obtain ⟨A, c, rfl, h2, h3, h4⟩ := hv
  clear h2 h3 h4
  unfold rag
  have hbw : Below w.heap.size w (((w.alloc (.cells #[.int .i64 ↑d.room, .int .i64 ↑d.safe, .int .i64 d.left, .slice A d.b.length c, .bool d.off] 58)).alloc (.cells #[.int .u8 wh, .slice Au ls.length cu, .int .i64 n] 52)).alloc (.cells #[.int .i64 0, .int .i64 0, .int .i64 0, .slice none 0 0, .bool false] 58)) := balloc (balloc (balloc (Below.refl _ w) _) _) _
  have hc : wh % 5 = 0 ∨ wh % 5 = 1 ∨ wh % 5 = 2 ∨ wh % 5 = 3 ∨ wh % 5 = 4 := by omega
  rcases hc with hm | hm | hm | hm | hm
  · have C := rapp _ (HV.out.below hbw) (HU.out.below hbw) hl hlen hroom h200
    obtain ⟨d2, r, hd⟩ : ∃ d2 r, d.app ls = (d2, r) := ⟨_, _, rfl⟩
    rw [hd] at C
    rw [show d.doOp wh ls n = (d2, r) from by rw [← hd]; simp [Dsk.doOp, hm]]
    clear hd
    unfold rag at C
    have C := Lib.hid C
    go_enter Try.func34, Try.ntmps34
    go_wp2_with fail
    with_reducible refine Calls.mono C.out ?_
    clear C
    rintro e1 w1 ⟨v2, rfl, hB, hb1, hf⟩
    have S1 := Lib.hid (bstep hbw hb1)
    have hs1 : w.heap.size + 1 + 1 + 1 ≤ w1.heap.size := by have := hb1.size; simp at this; omega
    have hf : v2 = .slice A d.b.length c ∨ ∀ k, v2.ownBlock = some k → w.heap.size + 1 + 1 + 1 ≤ k := by
      rcases hf with h9 | h9
      · exact .inl h9
      · exact .inr (fun k hk => by have := h9 k hk; simp at this; omega)
    have HF := Lib.hid hf
    have HB := Lib.hid hB
    obtain ⟨A2, c2, rfl, -, -, -⟩ := hB
    have xc0 : w1.cell? ⟨w.heap.size + 1 + 1, 0, none⟩ = some (.int .i64 0) := keep hb1 (by go_simp)
    have xf0 : w1.frozen? ⟨w.heap.size + 1 + 1, 0, none⟩ = false := keepF hb1 (.int .i64 0) (by go_simp) (by go_simp)
    have xc1 : w1.cell? ⟨w.heap.size + 1 + 1, 1, none⟩ = some (.int .i64 0) := keep hb1 (by go_simp)
    have xf1 : w1.frozen? ⟨w.heap.size + 1 + 1, 1, none⟩ = false := keepF hb1 (.int .i64 0) (by go_simp) (by go_simp)
    have xc2 : w1.cell? ⟨w.heap.size + 1 + 1, 2, none⟩ = some (.int .i64 0) := keep hb1 (by go_simp)
    have xf2 : w1.frozen? ⟨w.heap.size + 1 + 1, 2, none⟩ = false := keepF hb1 (.int .i64 0) (by go_simp) (by go_simp)
    have xc3 : w1.cell? ⟨w.heap.size + 1 + 1, 3, none⟩ = some (.slice none 0 0) := keep hb1 (by go_simp)
    have xf3 : w1.frozen? ⟨w.heap.size + 1 + 1, 3, none⟩ = false := keepF hb1 (.slice none 0 0) (by go_simp) (by go_simp)
    have xc4 : w1.cell? ⟨w.heap.size + 1 + 1, 4, none⟩ = some (.bool false) := keep hb1 (by go_simp)
    have xf4 : w1.frozen? ⟨w.heap.size + 1 + 1, 4, none⟩ = false := keepF hb1 (.bool false) (by go_simp) (by go_simp)
    have xz := cell_lt xc0
    clear hb1 hf
    unfold rag
    go_wp2_with fail
    refine bodyPost_ret (v := .tuple #[.agg #[.int .i64 ↑d2.room, .int .i64 ↑d2.safe, .int .i64 d2.left, .slice A2 d2.b.length c2, .bool d2.off], .int .i64 r]) ?_ rfl ?_
    · simp [results, Try.results34, go_sem, xz, xc0, xc1, xc2, xc3, xc4, xf0, xf1, xf2, xf3, xf4]
    · refine ⟨.slice A2 d2.b.length c2, rfl, ?_, ?_, ?_⟩
      · repeat (first | with_reducible exact HB.out | with_reducible refine bat_res HV.out ?_ HF.out (by omega) _ _)
      · repeat (first | with_reducible exact S1.out | with_reducible refine bset ?_ (by first | (simp; done) | (simp; omega)) _)
      · rcases HF.out with h9 | h9
        · exact .inl h9
        · exact .inr (fun k hk => by have := h9 k hk; omega)
  · have C := rsync _ (HV.out.below hbw) hl
    obtain ⟨d2, r, hd⟩ : ∃ d2 r, d.sync = (d2, r) := ⟨_, _, rfl⟩
    rw [hd] at C
    rw [show d.doOp wh ls n = (d2, r) from by rw [← hd]; simp [Dsk.doOp, hm]]
    clear hd
    unfold rag at C
    have C := Lib.hid C
    go_enter Try.func34, Try.ntmps34
    go_wp2_with fail
    with_reducible refine Calls.mono C.out ?_
    clear C
    rintro e1 w1 ⟨v2, rfl, hB, hb1, hf⟩
    have S1 := Lib.hid (bstep hbw hb1)
    have hs1 : w.heap.size + 1 + 1 + 1 ≤ w1.heap.size := by have := hb1.size; simp at this; omega
    have hf : v2 = .slice A d.b.length c ∨ ∀ k, v2.ownBlock = some k → w.heap.size + 1 + 1 + 1 ≤ k := by
      rcases hf with h9 | h9
      · exact .inl h9
      · exact .inr (fun k hk => by have := h9 k hk; simp at this; omega)
    have HF := Lib.hid hf
    have HB := Lib.hid hB
    obtain ⟨A2, c2, rfl, -, -, -⟩ := hB
    have xc0 : w1.cell? ⟨w.heap.size + 1 + 1, 0, none⟩ = some (.int .i64 0) := keep hb1 (by go_simp)
    have xf0 : w1.frozen? ⟨w.heap.size + 1 + 1, 0, none⟩ = false := keepF hb1 (.int .i64 0) (by go_simp) (by go_simp)
    have xc1 : w1.cell? ⟨w.heap.size + 1 + 1, 1, none⟩ = some (.int .i64 0) := keep hb1 (by go_simp)
    have xf1 : w1.frozen? ⟨w.heap.size + 1 + 1, 1, none⟩ = false := keepF hb1 (.int .i64 0) (by go_simp) (by go_simp)
    have xc2 : w1.cell? ⟨w.heap.size + 1 + 1, 2, none⟩ = some (.int .i64 0) := keep hb1 (by go_simp)
    have xf2 : w1.frozen? ⟨w.heap.size + 1 + 1, 2, none⟩ = false := keepF hb1 (.int .i64 0) (by go_simp) (by go_simp)
    have xc3 : w1.cell? ⟨w.heap.size + 1 + 1, 3, none⟩ = some (.slice none 0 0) := keep hb1 (by go_simp)
    have xf3 : w1.frozen? ⟨w.heap.size + 1 + 1, 3, none⟩ = false := keepF hb1 (.slice none 0 0) (by go_simp) (by go_simp)
    have xc4 : w1.cell? ⟨w.heap.size + 1 + 1, 4, none⟩ = some (.bool false) := keep hb1 (by go_simp)
    have xf4 : w1.frozen? ⟨w.heap.size + 1 + 1, 4, none⟩ = false := keepF hb1 (.bool false) (by go_simp) (by go_simp)
    have xz := cell_lt xc0
    clear hb1 hf
    unfold rag
    go_wp2_with fail
    refine bodyPost_ret (v := .tuple #[.agg #[.int .i64 ↑d2.room, .int .i64 ↑d2.safe, .int .i64 d2.left, .slice A2 d2.b.length c2, .bool d2.off], .int .i64 r]) ?_ rfl ?_
    · simp [results, Try.results34, go_sem, xz, xc0, xc1, xc2, xc3, xc4, xf0, xf1, xf2, xf3, xf4]
    · refine ⟨.slice A2 d2.b.length c2, rfl, ?_, ?_, ?_⟩
      · repeat (first | with_reducible exact HB.out | with_reducible refine bat_res HV.out ?_ HF.out (by omega) _ _)
      · repeat (first | with_reducible exact S1.out | with_reducible refine bset ?_ (by first | (simp; done) | (simp; omega)) _)
      · rcases HF.out with h9 | h9
        · exact .inl h9
        · exact .inr (fun k hk => by have := h9 k hk; omega)
  · have C := rcut _ (HV.out.below hbw) hl hlen n
    obtain ⟨d2, r, hd⟩ : ∃ d2 r, d.cut n = (d2, r) := ⟨_, _, rfl⟩
    rw [hd] at C
    rw [show d.doOp wh ls n = (d2, r) from by rw [← hd]; simp [Dsk.doOp, hm]]
    clear hd
    unfold rag at C
    have C := Lib.hid C
    go_enter Try.func34, Try.ntmps34
    go_wp2_with fail
    with_reducible refine Calls.mono C.out ?_
    clear C
    rintro e1 w1 ⟨v2, rfl, hB, hb1, hf⟩
    have S1 := Lib.hid (bstep hbw hb1)
    have hs1 : w.heap.size + 1 + 1 + 1 ≤ w1.heap.size := by have := hb1.size; simp at this; omega
    have hf : v2 = .slice A d.b.length c ∨ ∀ k, v2.ownBlock = some k → w.heap.size + 1 + 1 + 1 ≤ k := by
      rcases hf with h9 | h9
      · exact .inl h9
      · exact .inr (fun k hk => by have := h9 k hk; simp at this; omega)
    have HF := Lib.hid hf
    have HB := Lib.hid hB
    obtain ⟨A2, c2, rfl, -, -, -⟩ := hB
    have xc0 : w1.cell? ⟨w.heap.size + 1 + 1, 0, none⟩ = some (.int .i64 0) := keep hb1 (by go_simp)
    have xf0 : w1.frozen? ⟨w.heap.size + 1 + 1, 0, none⟩ = false := keepF hb1 (.int .i64 0) (by go_simp) (by go_simp)
    have xc1 : w1.cell? ⟨w.heap.size + 1 + 1, 1, none⟩ = some (.int .i64 0) := keep hb1 (by go_simp)
    have xf1 : w1.frozen? ⟨w.heap.size + 1 + 1, 1, none⟩ = false := keepF hb1 (.int .i64 0) (by go_simp) (by go_simp)
    have xc2 : w1.cell? ⟨w.heap.size + 1 + 1, 2, none⟩ = some (.int .i64 0) := keep hb1 (by go_simp)
    have xf2 : w1.frozen? ⟨w.heap.size + 1 + 1, 2, none⟩ = false := keepF hb1 (.int .i64 0) (by go_simp) (by go_simp)
    have xc3 : w1.cell? ⟨w.heap.size + 1 + 1, 3, none⟩ = some (.slice none 0 0) := keep hb1 (by go_simp)
    have xf3 : w1.frozen? ⟨w.heap.size + 1 + 1, 3, none⟩ = false := keepF hb1 (.slice none 0 0) (by go_simp) (by go_simp)
    have xc4 : w1.cell? ⟨w.heap.size + 1 + 1, 4, none⟩ = some (.bool false) := keep hb1 (by go_simp)
    have xf4 : w1.frozen? ⟨w.heap.size + 1 + 1, 4, none⟩ = false := keepF hb1 (.bool false) (by go_simp) (by go_simp)
    have xz := cell_lt xc0
    clear hb1 hf
    unfold rag
    go_wp2_with fail
    refine bodyPost_ret (v := .tuple #[.agg #[.int .i64 ↑d2.room, .int .i64 ↑d2.safe, .int .i64 d2.left, .slice A2 d2.b.length c2, .bool d2.off], .int .i64 r]) ?_ rfl ?_
    · simp [results, Try.results34, go_sem, xz, xc0, xc1, xc2, xc3, xc4, xf0, xf1, xf2, xf3, xf4]
    · refine ⟨.slice A2 d2.b.length c2, rfl, ?_, ?_, ?_⟩
      · repeat (first | with_reducible exact HB.out | with_reducible refine bat_res HV.out ?_ HF.out (by omega) _ _)
      · repeat (first | with_reducible exact S1.out | with_reducible refine bset ?_ (by first | (simp; done) | (simp; omega)) _)
      · rcases HF.out with h9 | h9
        · exact .inl h9
        · exact .inr (fun k hk => by have := h9 k hk; omega)
  · have C := rsparks _ (HV.out.below hbw) n
    obtain ⟨d2, hd⟩ : ∃ d2, d.sparks n = d2 := ⟨_, rfl⟩
    rw [hd] at C
    rw [show d.doOp wh ls n = (d2, 0) from by rw [← hd]; simp [Dsk.doOp, hm]]
    clear hd
    unfold rag at C
    have C := Lib.hid C
    go_enter Try.func34, Try.ntmps34
    go_wp2_with fail
    with_reducible refine Calls.mono C.out ?_
    clear C
    rintro e1 w1 ⟨v2, rfl, hB, hb1, hf⟩
    have S1 := Lib.hid (bstep hbw hb1)
    have hs1 : w.heap.size + 1 + 1 + 1 ≤ w1.heap.size := by have := hb1.size; simp at this; omega
    have hf : v2 = .slice A d.b.length c ∨ ∀ k, v2.ownBlock = some k → w.heap.size + 1 + 1 + 1 ≤ k := by
      rcases hf with h9 | h9
      · exact .inl h9
      · exact .inr (fun k hk => by have := h9 k hk; simp at this; omega)
    have HF := Lib.hid hf
    have HB := Lib.hid hB
    obtain ⟨A2, c2, rfl, -, -, -⟩ := hB
    have xc0 : w1.cell? ⟨w.heap.size + 1 + 1, 0, none⟩ = some (.int .i64 0) := keep hb1 (by go_simp)
    have xf0 : w1.frozen? ⟨w.heap.size + 1 + 1, 0, none⟩ = false := keepF hb1 (.int .i64 0) (by go_simp) (by go_simp)
    have xc1 : w1.cell? ⟨w.heap.size + 1 + 1, 1, none⟩ = some (.int .i64 0) := keep hb1 (by go_simp)
    have xf1 : w1.frozen? ⟨w.heap.size + 1 + 1, 1, none⟩ = false := keepF hb1 (.int .i64 0) (by go_simp) (by go_simp)
    have xc2 : w1.cell? ⟨w.heap.size + 1 + 1, 2, none⟩ = some (.int .i64 0) := keep hb1 (by go_simp)
    have xf2 : w1.frozen? ⟨w.heap.size + 1 + 1, 2, none⟩ = false := keepF hb1 (.int .i64 0) (by go_simp) (by go_simp)
    have xc3 : w1.cell? ⟨w.heap.size + 1 + 1, 3, none⟩ = some (.slice none 0 0) := keep hb1 (by go_simp)
    have xf3 : w1.frozen? ⟨w.heap.size + 1 + 1, 3, none⟩ = false := keepF hb1 (.slice none 0 0) (by go_simp) (by go_simp)
    have xc4 : w1.cell? ⟨w.heap.size + 1 + 1, 4, none⟩ = some (.bool false) := keep hb1 (by go_simp)
    have xf4 : w1.frozen? ⟨w.heap.size + 1 + 1, 4, none⟩ = false := keepF hb1 (.bool false) (by go_simp) (by go_simp)
    have xz := cell_lt xc0
    clear hb1 hf
    unfold rag
    go_wp2_with fail
    refine bodyPost_ret (v := .tuple #[.agg #[.int .i64 ↑d2.room, .int .i64 ↑d2.safe, .int .i64 d2.left, .slice A2 d2.b.length c2, .bool d2.off], .int .i64 0]) ?_ rfl ?_
    · simp [results, Try.results34, go_sem, xz, xc0, xc1, xc2, xc3, xc4, xf0, xf1, xf2, xf3, xf4]
    · refine ⟨.slice A2 d2.b.length c2, rfl, ?_, ?_, ?_⟩
      · repeat (first | with_reducible exact HB.out | with_reducible refine bat_res HV.out ?_ HF.out (by omega) _ _)
      · repeat (first | with_reducible exact S1.out | with_reducible refine bset ?_ (by first | (simp; done) | (simp; omega)) _)
      · rcases HF.out with h9 | h9
        · exact .inl h9
        · exact .inr (fun k hk => by have := h9 k hk; omega)
  · have C := rcrash _ (HV.out.below hbw) hs hlen n
    obtain ⟨d2, hd⟩ : ∃ d2, d.crash n = d2 := ⟨_, rfl⟩
    rw [hd] at C
    rw [show d.doOp wh ls n = (d2, 0) from by rw [← hd]; simp [Dsk.doOp, hm]]
    clear hd
    unfold rag at C
    have C := Lib.hid C
    go_enter Try.func34, Try.ntmps34
    go_wp2_with fail
    with_reducible refine Calls.mono C.out ?_
    clear C
    rintro e1 w1 ⟨v2, rfl, hB, hb1, hf⟩
    have S1 := Lib.hid (bstep hbw hb1)
    have hs1 : w.heap.size + 1 + 1 + 1 ≤ w1.heap.size := by have := hb1.size; simp at this; omega
    have hf : v2 = .slice A d.b.length c ∨ ∀ k, v2.ownBlock = some k → w.heap.size + 1 + 1 + 1 ≤ k := by
      rcases hf with h9 | h9
      · exact .inl h9
      · exact .inr (fun k hk => by have := h9 k hk; simp at this; omega)
    have HF := Lib.hid hf
    have HB := Lib.hid hB
    obtain ⟨A2, c2, rfl, -, -, -⟩ := hB
    have xc0 : w1.cell? ⟨w.heap.size + 1 + 1, 0, none⟩ = some (.int .i64 0) := keep hb1 (by go_simp)
    have xf0 : w1.frozen? ⟨w.heap.size + 1 + 1, 0, none⟩ = false := keepF hb1 (.int .i64 0) (by go_simp) (by go_simp)
    have xc1 : w1.cell? ⟨w.heap.size + 1 + 1, 1, none⟩ = some (.int .i64 0) := keep hb1 (by go_simp)
    have xf1 : w1.frozen? ⟨w.heap.size + 1 + 1, 1, none⟩ = false := keepF hb1 (.int .i64 0) (by go_simp) (by go_simp)
    have xc2 : w1.cell? ⟨w.heap.size + 1 + 1, 2, none⟩ = some (.int .i64 0) := keep hb1 (by go_simp)
    have xf2 : w1.frozen? ⟨w.heap.size + 1 + 1, 2, none⟩ = false := keepF hb1 (.int .i64 0) (by go_simp) (by go_simp)
    have xc3 : w1.cell? ⟨w.heap.size + 1 + 1, 3, none⟩ = some (.slice none 0 0) := keep hb1 (by go_simp)
    have xf3 : w1.frozen? ⟨w.heap.size + 1 + 1, 3, none⟩ = false := keepF hb1 (.slice none 0 0) (by go_simp) (by go_simp)
    have xc4 : w1.cell? ⟨w.heap.size + 1 + 1, 4, none⟩ = some (.bool false) := keep hb1 (by go_simp)
    have xf4 : w1.frozen? ⟨w.heap.size + 1 + 1, 4, none⟩ = false := keepF hb1 (.bool false) (by go_simp) (by go_simp)
    have xz := cell_lt xc0
    clear hb1 hf
    unfold rag
    go_wp2_with fail
    refine bodyPost_ret (v := .tuple #[.agg #[.int .i64 ↑d2.room, .int .i64 ↑d2.safe, .int .i64 d2.left, .slice A2 d2.b.length c2, .bool d2.off], .int .i64 0]) ?_ rfl ?_
    · simp [results, Try.results34, go_sem, xz, xc0, xc1, xc2, xc3, xc4, xf0, xf1, xf2, xf3, xf4]
    · refine ⟨.slice A2 d2.b.length c2, rfl, ?_, ?_, ?_⟩
      · repeat (first | with_reducible exact HB.out | with_reducible refine bat_res HV.out ?_ HF.out (by omega) _ _)
      · repeat (first | with_reducible exact S1.out | with_reducible refine bset ?_ (by first | (simp; done) | (simp; omega)) _)
      · rcases HF.out with h9 | h9
        · exact .inl h9
        · exact .inr (fun k hk => by have := h9 k hk; omega)
end Go.Proofs.Ythgaphfelpnclaa
