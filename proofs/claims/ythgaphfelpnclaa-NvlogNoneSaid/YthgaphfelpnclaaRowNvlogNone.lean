/- The law NvlogNone: called with any arguments it returns true, and each argument reads behind the call as it read before. -/
import Derived.Test.YthgaphfelpnclaaRows
import Derived.Test.YthgaphfelpnclaaR
import Derived.Test.YthgaphfelpnclaaRb
import Derived.Test.YthgaphfelpnclaaRr
import Derived.Test.YthgaphfelpnclaaLnone
set_option linter.unusedVariables false
namespace Go.Proofs.Ythgaphfelpnclaa.nvlogNone
open Go.ChangeShapes Go.WideShapes Go.ChangeAt Go.RowKit
open Go.ChangeMaps (open_string shut_string)
open Go.Proofs.Ythgaphfelpnclaa
theorem own_ : ownKnob Try.prog.godebug = none := by kernel_rfl
theorem laidOut : laidOutB Try.prog = true := by kernel_rfl
theorem q4 : Try.prog.cellsOf 4 = 1 := by kernel_rfl
theorem q5 : Try.prog.cellsOf 5 = 1 := by kernel_rfl
theorem q24 : Try.prog.cellsOf 24 = 1 := by kernel_rfl
theorem q32 : Try.prog.cellsOf 32 = 1 := by kernel_rfl
theorem q34 : Try.prog.cellsOf 34 = 5 := by kernel_rfl

set_option maxRecDepth 100000 in
theorem lifted (os : Os) (started : os.Started) (H : Type) (enc : TypeId × Value → H) :
    ReturnsInHanded {} Try.checked os 11 .any (Rows.nvlogNoneSpec.pre6 enc Try.prog Try.f11 Rows.nvlogNoneRow.domain false) (Rows.nvlogNoneSpec.post enc Try.prog Try.f11 false true false false) := by
  refine returnsInHanded_of_change_sized (C := Try.checked) own_ started (by kernel_rfl) Try.func11
    (ChangeSpec.witness6 (enc := enc) (C := Try.checked) false ⟨#[], #[.agg #[.int .u8 0, .int .u32 0, .int .u8 0, .bool false, .slice none 0 0]], []⟩ 8 (by kernel_rfl) (by kernel_rfl) (by kernel_rfl) (by kernel_rfl)) ?_
  intro W base args ds gs before hval0 hW hcnd hsz0 _
  have hsz : (DataW.weightsEach Try.prog (Try.f11.params.toList ++ Rows.nvlogNoneSpec.plain.varTypes Try.prog) (ds ++ gs)).all (· ≤ reachBytes) = true := hsz0
  have hval : ∀ (j : Nat) t v, Try.f11.params[j]? = some t → args[j]? = some v → Value.okWide Try.prog W .any base t v := hval0
  have hW' := hW
  obtain ⟨p, q, hA0, hV, rfl, hfz, hnd⟩ := hW
  have hA : DataW.TrodAll enc Try.prog W 0 (fun _ => true) true Try.f11.params.toList args.toList ds p := hA0
  rw [Try.params11] at hA hval hsz
  obtain ⟨v0, vs0, d0, ds0, p0, q0, hargs, rfl, rfl, h0, r0⟩ := trodAll_cons hA
  obtain ⟨rfl, rfl, rfl⟩ := trodAll_nil r0
  obtain rfl : args = #[v0] := by cases args; simp_all
  obtain ⟨rfl, rfl⟩ := trodVars_none hV
  have k0 := h0
  have lt0 : ∀ x ∈ p0, x.block < W.heap.size := by obtain ⟨m, hm⟩ := k0; exact DataW.trod_lt m _ _ _ hm
  obtain ⟨cs0, xs0, n0, rfl, hc0, hx0, hf0⟩ := open_agg Try.underlying34 (hval 0 34 v0 rfl rfl) h0
  rw [q34] at hc0
  have hx0 : xs0.length = 5 := hx0
  obtain ⟨c0_0, c0_1, c0_2, c0_3, c0_4, rfl⟩ := list_5 hc0
  have g0_0 := hf0 0 _ rfl
  rw [List.getElem?_eq_getElem (by omega)] at g0_0
  obtain ⟨a0_0, e0_0, _, w0_0⟩ := DataW.trod_int Try.underlying5 g0_0
  obtain rfl : c0_0 = .int .u8 a0_0 := by simpa [q5] using e0_0
  have bd0_0 := wf_u8 w0_0
  have g0_1 := hf0 1 _ rfl
  rw [List.getElem?_eq_getElem (by omega)] at g0_1
  obtain ⟨a0_1, e0_1, _, w0_1⟩ := DataW.trod_int Try.underlying32 g0_1
  obtain rfl : c0_1 = .int .u32 a0_1 := by simpa [q32] using e0_1
  have bd0_1 := wf_u32 w0_1
  have g0_2 := hf0 2 _ rfl
  rw [List.getElem?_eq_getElem (by omega)] at g0_2
  obtain ⟨a0_2, e0_2, _, w0_2⟩ := DataW.trod_int Try.underlying5 g0_2
  obtain rfl : c0_2 = .int .u8 a0_2 := by simpa [q5] using e0_2
  have bd0_2 := wf_u8 w0_2
  have g0_3 := hf0 3 _ rfl
  rw [List.getElem?_eq_getElem (by omega)] at g0_3
  obtain ⟨a0_3, e0_3, _⟩ := DataW.trod_bool Try.underlying4 g0_3
  obtain rfl : c0_3 = .bool a0_3 := by simpa [q4] using e0_3
  have g0_4 := hf0 4 _ rfl
  rw [List.getElem?_eq_getElem (by omega)] at g0_4
  obtain ⟨ls0, hb0, hr0⟩ := bat_of_trod (v := c0_4) (by simpa [q24] using g0_4)
  clear hA0 hval0 hsz0 hsz
  refine (lnone_walk (x := ⟨a0_0, a0_1, a0_2, a0_3, ls0⟩) W ⟨bd0_0, bd0_1, bd0_2, hr0⟩ hb0).mono fun e W' ⟨he, bel⟩ => ?_
  subst he
  exact ⟨_, rfl, _, _, _, [], _, [], hW', trodAll_mk1 (shut_bool Try.underlying4 _), (trodAll_cons_mk (Below.trod laidOut (by kernel_rfl) (of_decide_eq_true (by kernel_rfl)) k0 bel lt0) trodAll_mk0), rfl, bel.frame _, fun h => by cases h⟩
theorem proved : Rows.NvlogNoneSaid :=
  OpenClaim.holds_of_wide 11 Try.f11 rfl rfl rfl rfl rfl rfl rfl ⟨rfl, rfl, rfl, rfl, rfl⟩ rfl rfl rfl rfl rfl (by kernel_rfl) Try.func11 (by kernel_rfl)
    (of_decide_eq_true (by kernel_rfl)) (by unfold Func.isWrapper; first | (rw [if_pos (by decide +kernel)]; kernel_rfl) | (rw [if_neg (by decide +kernel)]; exact ⟨rfl, rfl⟩))
    (fun os started H enc _ => lifted os started H enc)
end Go.Proofs.Ythgaphfelpnclaa.nvlogNone
namespace Go.Proofs.Ythgaphfelpnclaa
theorem nvlogNone_holds : Rows.NvlogNoneSaid := nvlogNone.proved
end Go.Proofs.Ythgaphfelpnclaa
