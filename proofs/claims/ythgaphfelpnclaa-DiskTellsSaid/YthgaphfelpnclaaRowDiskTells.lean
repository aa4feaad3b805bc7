/- The law DiskTells: called with any arguments it returns true, and each argument reads behind the call as it read before. -/
import Derived.Test.YthgaphfelpnclaaRows
import Derived.Test.YthgaphfelpnclaaR
import Derived.Test.YthgaphfelpnclaaRb
import Derived.Test.YthgaphfelpnclaaDt
set_option linter.unusedVariables false
namespace Go.Proofs.Ythgaphfelpnclaa.diskTells
open Go.ChangeShapes Go.WideShapes Go.ChangeAt Go.RowKit
open Go.ChangeMaps (open_string shut_string)
open Go.Proofs.Ythgaphfelpnclaa
theorem own_ : ownKnob Try.prog.godebug = none := by kernel_rfl
theorem laidOut : laidOutB Try.prog = true := by kernel_rfl
theorem q3 : Try.prog.cellsOf 3 = 1 := by kernel_rfl
theorem q5 : Try.prog.cellsOf 5 = 1 := by kernel_rfl
theorem q24 : Try.prog.cellsOf 24 = 1 := by kernel_rfl
theorem q52 : Try.prog.cellsOf 52 = 3 := by kernel_rfl
theorem elOp_of {H : Type} {enc : TypeId × Value → H} {w : World} {sp : Nat → Bool} {held : Bool} {m : Nat} {cs : List Value} {x : DataW H × List MemPlace} (h : DataW.trod enc Try.prog w 0 sp held m 52 cs = some x) : ElOp w cs := by
  obtain ⟨xs, m2, _, _, hl, hlen, hf⟩ := DataW.trod_struct Try.underlying52 h
  rw [q52] at hl
  have hlen : xs.length = 3 := hlen
  obtain ⟨c0, c1, c2, rfl⟩ := list_3 hl
  have g0 := hf 0 _ rfl
  rw [List.getElem?_eq_getElem (by omega)] at g0
  have g1 := hf 1 _ rfl
  rw [List.getElem?_eq_getElem (by omega)] at g1
  have g2 := hf 2 _ rfl
  rw [List.getElem?_eq_getElem (by omega)] at g2
  obtain ⟨a0, e0, _, w0⟩ := DataW.trod_int Try.underlying5 g0
  obtain rfl : c0 = .int .u8 a0 := by simpa [q5] using e0
  obtain ⟨ls, hb, hr⟩ := bat_of_trod (v := c1) (by simpa [q24] using g1)
  obtain ⟨a2, e2, _, w2⟩ := DataW.trod_int Try.underlying3 g2
  obtain rfl : c2 = .int .i64 a2 := by simpa [q3] using e2
  exact ⟨a0, c1, ls, a2, rfl, wf_u8 w0, wf_i64 w2, hb, hr⟩
theorem rowsOp {H : Type} {enc : TypeId × Value → H} {w : World} {sp : Nat → Bool} {held : Bool} {v : Value}
    (h : v = .slice none 0 0 ∨ ∃ (a : Addr) (len cap : Nat), v = .slice (some a) len cap ∧ len ≤ cap ∧ cap ≤ maxLen ∧
      ∀ i, i < len → ∃ (cs : List Value) (n : Nat) (x : DataW H × List MemPlace), cs.length = Try.prog.cellsOf 52 ∧ (∀ j, j < Try.prog.cellsOf 52 → w.cell? (a.add (i * Try.prog.cellsOf 52 + j)) = cs[j]?) ∧ DataW.trod enc Try.prog w 0 sp held n 52 cs = some x) :
    ∃ (A : Option Addr) (n cap : Nat), v = .slice A n cap ∧ n ≤ cap ∧ cap ≤ maxLen ∧ (A = none → cap = 0) ∧ RowsV w A n 3 (ElOp w) := by
  refine rows_of ?_
  rcases h with h | ⟨a, len, cap, h1, h2, h3, h4⟩
  · exact .inl h
  · refine .inr ⟨a, len, cap, h1, h2, h3, fun i hi => ?_⟩
    obtain ⟨cs, m, x, e1, e2, e3⟩ := h4 i hi
    rw [q52] at e1 e2
    exact ⟨cs, e1, e2, elOp_of e3⟩

set_option maxRecDepth 100000 in
theorem lifted (os : Os) (started : os.Started) (H : Type) (enc : TypeId × Value → H) :
    ReturnsInHanded {} Try.checked os 7 .any (Rows.diskTellsSpec.pre6 enc Try.prog Try.f7 Rows.diskTellsRow.domain false) (Rows.diskTellsSpec.post enc Try.prog Try.f7 false true false false) := by
  refine returnsInHanded_of_change_sized (C := Try.checked) own_ started (by kernel_rfl) Try.func7
    (ChangeSpec.witness6 (enc := enc) (C := Try.checked) false ⟨#[], #[.int .i64 0, .slice none 0 0], []⟩ 8 (by kernel_rfl) (by kernel_rfl) (by kernel_rfl) (by kernel_rfl)) ?_
  intro W base args ds gs before hval0 hW hcnd hsz0 _
  have hsz : (DataW.weightsEach Try.prog (Try.f7.params.toList ++ Rows.diskTellsSpec.plain.varTypes Try.prog) (ds ++ gs)).all (· ≤ reachBytes) = true := hsz0
  have hval : ∀ (j : Nat) t v, Try.f7.params[j]? = some t → args[j]? = some v → Value.okWide Try.prog W .any base t v := hval0
  have hW' := hW
  obtain ⟨p, q, hA0, hV, rfl, hfz, hnd⟩ := hW
  have hA : DataW.TrodAll enc Try.prog W 0 (fun _ => true) true Try.f7.params.toList args.toList ds p := hA0
  rw [Try.params7] at hA hval hsz
  obtain ⟨v0, vs0, d0, ds0, p0, q0, hargs, rfl, rfl, h0, r0⟩ := trodAll_cons hA
  obtain ⟨v1, vs1, d1, ds1, p1, q1, rfl, rfl, rfl, h1, r1⟩ := trodAll_cons r0
  obtain ⟨rfl, rfl, rfl⟩ := trodAll_nil r1
  obtain rfl : args = #[v0, v1] := by cases args; simp_all
  obtain ⟨rfl, rfl⟩ := trodVars_none hV
  obtain ⟨a0, rfl, rfl, rfl, w0⟩ := open_int Try.underlying3 (hval 0 3 v0 rfl rfl) h0
  have bd0 := wf_i64 w0
  have k1 := h1
  have lt1 : ∀ x ∈ p1, x.block < W.heap.size := by obtain ⟨m, hm⟩ := k1; exact DataW.trod_lt m _ _ _ hm
  have rw1 := open_rows Try.underlying47 (hval 1 47 v1 rfl rfl) h1
  have RW1 := rowsOp rw1
  clear rw1
  obtain ⟨A, n, cap, rfl, hn, hcap, hA, hv⟩ := RW1
  clear hA0 hval0 hsz0 hsz
  refine (tells_walk a0 A n cap W bd0 hn hcap hv).mono fun e W' ⟨he, bel⟩ => ?_
  subst he
  exact ⟨_, rfl, _, _, _, [], _, [], hW', trodAll_mk1 (shut_bool Try.underlying4 _), (trodAll_cons_mk (shut_int Try.underlying3 w0) (trodAll_cons_mk (Below.trod laidOut (by kernel_rfl) (of_decide_eq_true (by kernel_rfl)) k1 bel lt1) trodAll_mk0)), rfl, bel.frame _, fun h => by cases h⟩
theorem proved : Rows.DiskTellsSaid :=
  OpenClaim.holds_of_wide 7 Try.f7 rfl rfl rfl rfl rfl rfl rfl ⟨rfl, rfl, rfl, rfl, rfl⟩ rfl rfl rfl rfl rfl (by kernel_rfl) Try.func7 (by kernel_rfl)
    (of_decide_eq_true (by kernel_rfl)) (by unfold Func.isWrapper; first | (rw [if_pos (by decide +kernel)]; kernel_rfl) | (rw [if_neg (by decide +kernel)]; exact ⟨rfl, rfl⟩))
    (fun os started H enc _ => lifted os started H enc)
end Go.Proofs.Ythgaphfelpnclaa.diskTells
namespace Go.Proofs.Ythgaphfelpnclaa
theorem diskTells_holds : Rows.DiskTellsSaid := diskTells.proved
end Go.Proofs.Ythgaphfelpnclaa
