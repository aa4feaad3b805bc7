/- The log upon a disk: appending, what is free; a log that is none. -/
import Derived.Test.YthgaphfelpnclaaLg
set_option linter.unusedVariables false
set_option linter.unusedSimpArgs false
namespace Go.Proofs.Ythgaphfelpnclaa
open Go.RowKit
set_option maxRecDepth 100000 in
theorem noneL {Lp B : Nat} (w : World) (h : w.cell? ⟨Lp, 0, none⟩ = some (.pointer (some ⟨B, 0, none⟩))) : Calls Try.prog 69 #[.pointer (some ⟨Lp, 0, none⟩)] w fun e' w' => e' = .returned (.bool false) ∧ Below w.heap.size w w' := by
  go_enter Try.func69, Try.ntmps69
  go_wp2_with fail
  go_ret
  exact ⟨rfl, Below.refl _ _⟩
set_option maxRecDepth 100000 in
theorem noneE {Lp : Nat} (w : World) (h : w.cell? ⟨Lp, 0, none⟩ = some (.pointer none)) : Calls Try.prog 69 #[.pointer (some ⟨Lp, 0, none⟩)] w fun e' w' => e' = .returned (.bool true) ∧ Below w.heap.size w w' := by
  go_enter Try.func69, Try.ntmps69
  go_wp2_with fail
  go_ret
  exact ⟨rfl, Below.refl _ _⟩
set_option maxRecDepth 100000 in
theorem none0 (w : World) : Calls Try.prog 69 #[.pointer none] w fun e' w' => e' = .returned (.bool true) ∧ Below w.heap.size w w' := by
  go_enter Try.func69, Try.ntmps69
  go_wp2_with fail
  go_ret
  exact ⟨rfl, Below.refl _ _⟩
/-- What appending a record does. -/
def Dsk.put (d : Dsk) (x : Rc) : Dsk × Int := if x.right then (if (d.app x.bytes).2 = 0 then (d.app x.bytes).1.sync else d.app x.bytes) else (d, 50)
set_option maxRecDepth 100000 in
set_option maxHeartbeats 2000000 in
theorem putE {base B Lp : Nat} {v u : Value} {d d2 : Dsk} {x : Rc} {r : Int} (w : World) (h : DS w base B v d) (hL : w.cell? ⟨Lp, 0, none⟩ = some (.pointer (some ⟨B, 0, none⟩))) (hLB : Lp ≠ B) (hLv : some Lp ≠ v.ownBlock) (hok : x.ok) (hu : BAt w u x.text) (e : d.put x = (d2, r)) :
    Calls Try.prog 40 #[.pointer (some ⟨Lp, 0, none⟩), x.val u] w fun e' w' => ∃ v2, e' = .returned (.int .i64 r) ∧ DS w' base B v2 d2 ∧ Step B v v2 w w' := by
  have HU := Lib.hid hu
  obtain ⟨A, c, rfl, _⟩ := hu
  have H := Lib.hid h
  have hBw := h.lt
  have hLw := cell_lt hL
  have hvw := Lib.hid h.vlt
  have HLv := Lib.hid hLv
  clear h hLv
  have hb0 : Below w.heap.size w (w.alloc (.cells #[.int .u8 x.wh, .int .u32 x.tx, .int .u8 x.who, .bool x.yes, .slice A x.text.length c] 34)) := balloc (Below.refl _ _) _
  have C := Lib.hid (bytesR (x := x) _ hok (HU.out.below (w' := w) (Below.refl _ _)))
  unfold Rc.val
  go_enter Try.func40, Try.ntmps40
  go_wp2_with fail
  with_reducible refine Calls.mono (noneL (B := B) _ (keep hb0 hL)) ?_
  rintro e1 w1 ⟨rfl, hb1⟩
  have x0 : w1.cell? ⟨w.heap.size, 0, none⟩ = some (.int .u8 x.wh) := keep hb1 (by go_simp)
  have x1 : w1.cell? ⟨w.heap.size, 1, none⟩ = some (.int .u32 x.tx) := keep hb1 (by go_simp)
  have x2 : w1.cell? ⟨w.heap.size, 2, none⟩ = some (.int .u8 x.who) := keep hb1 (by go_simp)
  have x3 : w1.cell? ⟨w.heap.size, 3, none⟩ = some (.bool x.yes) := keep hb1 (by go_simp)
  have x4 : w1.cell? ⟨w.heap.size, 4, none⟩ = some (.slice A x.text.length c) := keep hb1 (by go_simp)
  have B1 := Lib.hid (bstep hb0 hb1)
  have l1 := keep B1.out hL
  clear hb1
  go_wp2_with fail
  have C2 := bytesR (x := x) w1 hok (HU.out.below B1.out)
  unfold Rc.val at C2
  with_reducible refine Calls.mono C2 ?_
  clear C2 C x0 x1 x2 x3 x4
  rintro e2 w2 ⟨v2, rfl, o2, hb2⟩
  have B2 := Lib.hid (bstep B1.out hb2)
  have l2 := keep hb2 l1
  have D2 := Lib.hid (H.out.below B2.out)
  have S2 := Lib.hid (Step.of_below (B := B) (v := v) B2.out)
  have hw2 := B2.out.size
  have hw1 := B1.out.size
  clear hb2 l1
  by_cases hr : x.right = true
  · simp only [if_pos hr] at o2 ⊢
    rw [Dsk.put, if_pos hr] at e
    obtain ⟨d3, r3, h3⟩ : ∃ d3 r3, d.app x.bytes = (d3, r3) := ⟨_, _, rfl⟩
    rw [h3] at e
    have H3 := Lib.hid h3
    have U2 := Lib.hid (BAt.of_own o2)
    have AP : x.bytes ≠ [] → Apart B v v2 := fun _ k hk => ⟨by have := (o2.lt k hk).1; omega, fun e => by have := (o2.lt k hk).1; have := hvw.out k e.symm; omega⟩
    have HAP := Lib.hid AP
    obtain ⟨A2, c2, rfl⟩ := len_of_own o2
    clear o2 AP h3
    go_wp2_with fail
    with_reducible refine Calls.mono (appE (d2 := d3) (r := r3) _ D2.out U2.out HAP.out H3.out) ?_
    rintro e3 w3 ⟨v3, rfl, hd3, hs3⟩
    have D3 := Lib.hid hd3
    have l3 := hs3.cell l2 hLB HLv.out
    have S3 := Lib.hid (S2.out.trans hs3)
    clear hd3 hs3 l2
    by_cases hr3 : r3 = 0
    · subst hr3
      have HSY := Lib.hid (show d3.sync = (d2, r) from by simpa using e)
      go_wp2_with fail
      with_reducible refine Calls.mono (syncE (d2 := d2) (r := r) _ D3.out HSY.out) ?_
      rintro e4 w4 ⟨v4, rfl, hd4, hs4⟩
      go_wp2_with fail
      go_ret
      exact ⟨v4, rfl, hd4, S3.out.trans hs4⟩
    · have e9 : (r3 != 0) = true := by simpa using hr3
      rw [if_neg hr3] at e
      injection e with ea eb
      subst ea eb
      go_wp2_with fail
      go_ret
      exact ⟨v3, rfl, D3.out, S3.out⟩
  · simp only [if_neg hr] at o2 ⊢
    rw [Dsk.put, if_neg hr] at e
    injection e with ea eb
    subst ea eb
    obtain ⟨A2, c2, rfl⟩ := len_of_own o2
    go_wp2_with fail
    go_ret
    exact ⟨v, rfl, D2.out, S2.out⟩
set_option maxRecDepth 100000 in
theorem freeE {base B Lp : Nat} {v : Value} {d : Dsk} {r : Int} (w : World) (h : DS w base B v d) (hL : w.cell? ⟨Lp, 0, none⟩ = some (.pointer (some ⟨B, 0, none⟩))) (e : (d.room : Int) - d.b.length = r) :
    Calls Try.prog 42 #[.pointer (some ⟨Lp, 0, none⟩)] w fun e' w' => e' = .returned (.int .i64 r) ∧ Below w.heap.size w w' := by
  have H := Lib.hid h
  have hlen := h.hr
  have HE := Lib.hid e
  clear h e
  go_enter Try.func42, Try.ntmps42
  go_wp2_with fail
  with_reducible refine Calls.mono (noneL (B := B) _ hL) ?_
  rintro e1 w1 ⟨rfl, hb1⟩
  have l1 := keep hb1 hL
  go_wp2_with fail
  have H1 := Lib.hid (H.out.below hb1)
  refine wpQ_region (by kernel_rfl) (by kernel_rfl) ?_
  apply wpQ_do
  · rfl
  · intro wq hC; go_light; first | (go_simp; first | done | rfl | exact ⟨rfl, rfl⟩) | (have k0 := hC.keep l1; go_simp; first | done | rfl | exact ⟨rfl, rfl⟩)
  simp only [Act.put, List.setIfInBounds_toArray, List.set_cons_zero, List.set_cons_succ]
  apply wpQ_do
  · rfl
  · intro wq hC; go_light; first | (go_simp; first | done | rfl | exact ⟨rfl, rfl⟩) | (have k0 := hC.keep l1; go_simp; first | done | rfl | exact ⟨rfl, rfl⟩)
  simp only [Act.put, List.setIfInBounds_toArray, List.set_cons_zero, List.set_cons_succ]
  apply wpQ_do
  · rfl
  · intro wq hC; go_light; first | (go_simp; first | done | rfl | exact ⟨rfl, rfl⟩) | (have k0 := hC.keep l1; go_simp; first | done | rfl | exact ⟨rfl, rfl⟩)
  simp only [Act.put, List.setIfInBounds_toArray, List.set_cons_zero, List.set_cons_succ]
  apply wpQ_do
  · rfl
  · intro wq hC; go_light; first | (go_simp; first | done | rfl | exact ⟨rfl, rfl⟩) | (have k0 := hC.keep l1; go_simp; first | done | rfl | exact ⟨rfl, rfl⟩)
  simp only [Act.put, List.setIfInBounds_toArray, List.set_cons_zero, List.set_cons_succ]
  apply wpQ_do
  · rfl
  · intro wq hC; go_light; go_simp; refine Calls.mono (roomD _ (H1.out.below hC)) ?_; rintro eq wq2 ⟨rfl, hbq⟩; exact ⟨rfl, hC.step hbq⟩
  simp only [Act.put, List.setIfInBounds_toArray, List.set_cons_zero, List.set_cons_succ]
  apply wpQ_do
  · rfl
  · intro wq hC; go_light; first | (go_simp; first | done | rfl | exact ⟨rfl, rfl⟩) | (have k0 := hC.keep l1; go_simp; first | done | rfl | exact ⟨rfl, rfl⟩)
  simp only [Act.put, List.setIfInBounds_toArray, List.set_cons_zero, List.set_cons_succ]
  apply wpQ_do
  · rfl
  · intro wq hC; go_light; first | (go_simp; first | done | rfl | exact ⟨rfl, rfl⟩) | (have k0 := hC.keep l1; go_simp; first | done | rfl | exact ⟨rfl, rfl⟩)
  simp only [Act.put, List.setIfInBounds_toArray, List.set_cons_zero, List.set_cons_succ]
  apply wpQ_do
  · rfl
  · intro wq hC; go_light; first | (go_simp; first | done | rfl | exact ⟨rfl, rfl⟩) | (have k0 := hC.keep l1; go_simp; first | done | rfl | exact ⟨rfl, rfl⟩)
  simp only [Act.put, List.setIfInBounds_toArray, List.set_cons_zero, List.set_cons_succ]
  apply wpQ_do
  · rfl
  · intro wq hC; go_light; first | (go_simp; first | done | rfl | exact ⟨rfl, rfl⟩) | (have k0 := hC.keep l1; go_simp; first | done | rfl | exact ⟨rfl, rfl⟩)
  simp only [Act.put, List.setIfInBounds_toArray, List.set_cons_zero, List.set_cons_succ]
  apply wpQ_do
  · rfl
  · intro wq hC; go_light; go_simp; refine Calls.mono (lenD _ (H1.out.below hC)) ?_; rintro eq wq2 ⟨rfl, hbq⟩; exact ⟨rfl, hC.step hbq⟩
  simp only [Act.put, List.setIfInBounds_toArray, List.set_cons_zero, List.set_cons_succ]
  apply wpQ_do
  · rfl
  · intro wq hC; go_light; first | (go_simp; first | done | rfl | exact ⟨rfl, rfl⟩) | (have k0 := hC.keep l1; go_simp; first | done | rfl | exact ⟨rfl, rfl⟩)
  simp only [Act.put, List.setIfInBounds_toArray, List.set_cons_zero, List.set_cons_succ]
  apply wpQ_do
  · rfl
  · intro wq hC; go_light; first | (go_simp; first | done | rfl | exact ⟨rfl, rfl⟩) | (have k0 := hC.keep l1; go_simp; first | done | rfl | exact ⟨rfl, rfl⟩)
  simp only [Act.put, List.setIfInBounds_toArray, List.set_cons_zero, List.set_cons_succ]
  apply wpQ_nil
  intro w9 hb9
  have hb9 : Below _ _ _ := hb9
  go_wp2_with fail
  go_ret
  exact ⟨by rw [← HE.out]; exact congrArg (fun z => Ending.returned (.int .i64 z)) (wrap_i64 ((d.room : Int) - d.b.length) (by omega)), bstep hb1 hb9⟩
end Go.Proofs.Ythgaphfelpnclaa
