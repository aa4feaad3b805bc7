/- The log's laws: rows of operations; are they light? -/
import Derived.Test.YthgaphfelpnclaaLh
set_option linter.unusedVariables false
set_option linter.unusedSimpArgs false
namespace Go.Proofs.Ythgaphfelpnclaa
open Go.RowKit
structure Opr where
  wh : Int
  x : Rc
  n : Int
structure Opr.ok (p : Opr) : Prop where
  wh : 0 ≤ p.wh ∧ p.wh ≤ 255
  x : p.x.ok
  n : -9223372036854775808 ≤ p.n ∧ p.n ≤ 9223372036854775807
structure OpAt (w : World) (b o : Nat) (p : Opr) (u : Value) : Prop where
  c0 : w.cell? ⟨b, o, none⟩ = some (.int .u8 p.wh)
  c1 : w.cell? ⟨b, o + 1, none⟩ = some (.int .u8 p.x.wh)
  c2 : w.cell? ⟨b, o + 2, none⟩ = some (.int .u32 p.x.tx)
  c3 : w.cell? ⟨b, o + 3, none⟩ = some (.int .u8 p.x.who)
  c4 : w.cell? ⟨b, o + 4, none⟩ = some (.bool p.x.yes)
  c5 : w.cell? ⟨b, o + 5, none⟩ = some u
  c6 : w.cell? ⟨b, o + 6, none⟩ = some (.int .i64 p.n)
  txt : BAt w u p.x.text
theorem OpAt.below {w w' : World} {b o : Nat} {p : Opr} {u : Value} (h : OpAt w b o p u) (hb : Below w.heap.size w w') : OpAt w' b o p u :=
  ⟨keep hb h.c0, keep hb h.c1, keep hb h.c2, keep hb h.c3, keep hb h.c4, keep hb h.c5, keep hb h.c6, h.txt.below hb⟩
def OpsAt (w : World) (A : Option Addr) (os : List Opr) : Prop := ∀ i p, os[i]? = some p → ∃ b o u, A = some ⟨b, o, none⟩ ∧ OpAt w b (o + i * 7) p u
theorem OpsAt.below {w w' : World} {A : Option Addr} {os : List Opr} (h : OpsAt w A os) (hb : Below w.heap.size w w') : OpsAt w' A os := fun i p hi => by
  obtain ⟨b, o, u, e1, e2⟩ := h i p hi
  exact ⟨b, o, u, e1, e2.below hb⟩
set_option maxRecDepth 100000 in
theorem run_slice68 {A : Option Addr} {n c : Nat} (k : Nat) (xk : Int) (ek : xk = k) (hk : k ≤ n) (hn : n ≤ c) (hc : c ≤ maxLen) :
    ∀ w', (Instr.slice 68 (.slice A n c) none (some (.int .i64 xk)) none).run Try.prog w' = .ok (.slice A k c) w' := by
  have hc2 : c ≤ 9223372036854775807 := by unfold maxLen at hc; omega
  subst ek
  intro w'
  have hi7 : (Try.prog.info? 75).map (fun i => i.size) = some 7 := by kernel_rfl
  have hs : ∀ w, (sizeOf 75).run Try.prog w = .ok 7 w := fun w => by
    cases hq : Try.prog.info? 75 with
    | none => rw [hq] at hi7; cases hi7
    | some i => rw [hq] at hi7; simp at hi7; simp [sizeOf, typeInfo, hq, hi7]
  have he : Try.prog.elem 68 = 75 := by kernel_rfl
  rw [run_slice_h (P := Try.prog) w' 68 A n c Try.underlying68 .i64 k (by omega) (by omega), he, hs]
  simp [sliced, Result.andThen]
  intro _
  rcases A with _ | a
  · rfl
  · simp [Addr.add]
def LightL (os : List Opr) (m : Nat) : Prop := ∀ i p, i < m → os[i]? = some p → p.x.text.length ≤ 200
set_option maxRecDepth 100000 in
set_option maxHeartbeats 1000000 in
theorem lightL {A : Option Addr} {cap : Nat} {os : List Opr} (w : World) (hn : os.length ≤ cap) (hcap : cap ≤ maxLen) (h : OpsAt w A os) :
    Calls Try.prog 38 #[.slice A os.length cap] w fun e' w' => Below w.heap.size w w' ∧ (e' = .returned (.tuple #[.slice none 0 0, .bool false]) ∨ (LightL os (min os.length 40) ∧ e' = .returned (.tuple #[.slice A (min os.length 40) cap, .bool true]))) := by
  have H := Lib.hid h
  clear h
  have hcm := hcap
  unfold maxLen at hcap
  obtain ⟨M, hM⟩ : ∃ M : Nat, min os.length 40 = M := ⟨_, rfl⟩
  rw [hM]
  have hM2 : min (os.length : Int) 40 = (M : Int) := by omega
  have hMn : M ≤ os.length := by omega
  have hM40 : M ≤ 40 := by omega
  have hsl := run_slice68 (A := A) (n := os.length) (c := cap) M M rfl hMn hn hcm
  have HM := Lib.hid hM
  clear hM
  go_enter Try.func38, Try.ntmps38
  go_wp2_with fail
  go_loopw [13] (fun i wr => ∃ k : Nat, k ≤ M ∧ i = .int .i64 k ∧ Below w.heap.size w wr ∧ LightL os k) (fun i _ => M - (intOf i).toNat)
  case atStart => exact ⟨0, by omega, rfl, Below.refl _ _, fun i p hi _ => absurd hi (by omega)⟩
  case round =>
    obtain ⟨k, hk, rfl, hB, hL⟩ := hrel
    have SB := Lib.hid hB
    have SL := Lib.hid hL
    have hwr := hB.size
    clear hB hL
    by_cases hlt : k < M
    · have hko : k < os.length := by omega
      obtain ⟨b, o, u, rfl, r1⟩ := H.out.below SB.out k _ (List.getElem?_eq_getElem hko)
      have E1 := Lib.hid (List.getElem?_eq_getElem hko)
      generalize os[k] = p at r1 E1
      obtain ⟨p0, p1, p2, p3, p4, p5, p6, t1⟩ := r1
      obtain ⟨X1, d1, rfl, q1, q2, _⟩ := t1
      unfold maxLen at q2
      by_cases h200 : (200 : Int) < p.x.text.length
      · have hd : decide ((200 : Int) < p.x.text.length) = true := by simpa using h200
        go_wp2_with fail
        refine bodyPost_ret (v := .tuple #[.slice none 0 0, .bool false]) (by simp [results, Try.results38, go_sem, *]) rfl ⟨?_, .inl rfl⟩
        repeat (first | exact SB.out | refine bset ?_ (by simp; omega) _ | refine balloc ?_ _)
      · have hd : decide ((200 : Int) < p.x.text.length) = false := by simpa using h200
        go_wp2_with fail
        go_roundw
        case rel =>
          refine ⟨k + 1, by omega, by go_num, by repeat (first | exact SB.out | refine bset ?_ (by simp; omega) _ | refine balloc ?_ _), ?_⟩
          intro i q hi hq
          by_cases hik : i < k
          · exact SL.out i q hik hq
          · obtain rfl : i = k := by omega
            have h9 := E1.out
            rw [hq] at h9
            injection h9 with h9
            rw [h9]
            omega
        case measure => (try simp [intOf]) <;> omega
    · obtain rfl : k = M := by omega
      go_wp2_with fail
      refine bodyPost_ret (v := .tuple #[.slice A k cap, .bool true]) (by simp [results, Try.results38, go_sem, *]) rfl ⟨SB.out, .inr ⟨SL.out, rfl⟩⟩
end Go.Proofs.Ythgaphfelpnclaa
