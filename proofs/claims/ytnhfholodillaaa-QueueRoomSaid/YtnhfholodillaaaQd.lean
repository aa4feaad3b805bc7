/- Contract of package queue: Drop of one that waits behind the first. -/
import Derived.Test.YtnhfholodillaaaQc
set_option linter.unusedVariables false
set_option linter.unusedSimpArgs false
namespace Go.Proofs.Ytnhfholodillaaa
open Go.RowKit

theorem place_succ {B : Nat} {g : Nat → Int} {a m r : Nat} {l : Int} (i : Nat) (w : World) (h : QS w B g a m r l) (ha : a < 32) (hi : i + 1 ≤ 32) :
    Calls Try.prog 49 #[.pointer (some ⟨B, 0, none⟩), .int .i64 ((i : Int) + 1)] w fun e' w' => e' = .returned (.pointer (some ⟨B, (a + (i + 1)) % 32, none⟩)) ∧ Below w.heap.size w w' := by
  have := place_any (i + 1) w h ha hi
  simpa using this

/-- What the ring holds when those from t to j - 1 have been overwritten by the next ones. -/
def Shift (g gj : Nat → Int) (a m t j : Nat) : Prop := ∀ s, s < m → gj ((a + s) % 32) = if t ≤ s ∧ s < j then g ((a + (s + 1)) % 32) else g ((a + s) % 32)
theorem Shift.start (g : Nat → Int) (a m t : Nat) : Shift g g a m t t := fun s _ => by rw [if_neg (by omega)]
theorem Shift.next {g gj : Nat → Int} {a m t j : Nat} (h : Shift g gj a m t j) (hj : j + 1 < m) (hm : m ≤ 32) (ht : t ≤ j) : Shift g (upd gj ((a + j) % 32) (gj ((a + (j + 1)) % 32))) a m t (j + 1) := by
  intro s hs
  have h2 := h (j + 1) hj
  rw [if_neg (by omega)] at h2
  unfold upd
  by_cases e : s = j
  · subst e; rw [if_pos rfl, if_pos (by omega), h2]
  · rw [if_neg (by omega), h s hs]
    by_cases e2 : t ≤ s ∧ s < j
    · rw [if_pos e2, if_pos (by omega)]
    · rw [if_neg e2, if_neg (by omega)]

set_option maxHeartbeats 2000000 in
theorem drop_mid (x : Int) (t : Nat) {B : Nat} {g : Nat → Int} {a m r : Nat} {l : Int} (w : World) (h : QS w B g a m r l) (hr : 0 < r) (ha : a < 32) (hm : m ≤ 32) (h0 : 0 < t) (ht : t < m) (hx : ∀ j, j < t → ¬ g ((a + j) % 32) = x) (he : g ((a + t) % 32) = x) :
    Calls Try.prog 38 #[.pointer (some ⟨B, 0, none⟩), .int .u32 x] w fun e' w' => e' = .returned (.bool true) ∧ Only B w w' ∧ ∃ g', QS w' B g' a (m - 1) r l ∧ ∀ s, s < m - 1 → g' ((a + s) % 32) = if s < t then g ((a + s) % 32) else g ((a + (s + 1)) % 32) := by
  have HX := Lib.hid hx
  have HE := Lib.hid he
  clear hx he
  have k32 := h.ca
  have k33 := h.cm
  have k34 := h.cr
  have k35 := h.cl
  have j32 := h.fz 32 (by omega)
  have j33 := h.fz 33 (by omega)
  have j34 := h.fz 34 (by omega)
  have j35 := h.fz 35 (by omega)
  have zB := h.lt
  have H := Lib.hid h
  clear h
  have e0 : ((t : Int) == 0) = false := by simp; omega
  go_enter Try.func38, Try.ntmps38
  go_wp2_with fail
  with_reducible refine (none_no _ H.out hr).mono ?_
  rintro e1 w1 ⟨rfl, hb1⟩
  have yw1 : w.heap.size ≤ w1.heap.size := by (have := hb1.size; (try simp at this); omega)
  have c1_0 : w1.cell? ⟨B, 32, none⟩ = some (.int .i64 a) := keep hb1 (by go_simp)
  have f1_0 : w1.frozen? ⟨B, 32, none⟩ = false := keepF hb1 (.int .i64 a) (by go_simp) (by go_simp)
  have c1_1 : w1.cell? ⟨B, 33, none⟩ = some (.int .i64 m) := keep hb1 (by go_simp)
  have f1_1 : w1.frozen? ⟨B, 33, none⟩ = false := keepF hb1 (.int .i64 m) (by go_simp) (by go_simp)
  have c1_2 : w1.cell? ⟨B, 34, none⟩ = some (.int .i64 r) := keep hb1 (by go_simp)
  have f1_2 : w1.frozen? ⟨B, 34, none⟩ = false := keepF hb1 (.int .i64 r) (by go_simp) (by go_simp)
  have c1_3 : w1.cell? ⟨B, 35, none⟩ = some (.int .u32 l) := keep hb1 (by go_simp)
  have f1_3 : w1.frozen? ⟨B, 35, none⟩ = false := keepF hb1 (.int .u32 l) (by go_simp) (by go_simp)
  clear k32 k33 k34 k35 j32 j33 j34 j35
  go_wp2_with fail
  with_reducible refine (find_yes x t _ (H.out.below hb1) ha hm ht HX.out HE.out).mono ?_
  rintro e2 w2 ⟨rfl, hb2⟩
  have yw2 : w.heap.size ≤ w2.heap.size := by (have := hb2.size; (try simp at this); omega)
  have c2_0 : w2.cell? ⟨B, 32, none⟩ = some (.int .i64 a) := keep hb2 (by go_simp)
  have f2_0 : w2.frozen? ⟨B, 32, none⟩ = false := keepF hb2 (.int .i64 a) (by go_simp) (by go_simp)
  have c2_1 : w2.cell? ⟨B, 33, none⟩ = some (.int .i64 m) := keep hb2 (by go_simp)
  have f2_1 : w2.frozen? ⟨B, 33, none⟩ = false := keepF hb2 (.int .i64 m) (by go_simp) (by go_simp)
  have c2_2 : w2.cell? ⟨B, 34, none⟩ = some (.int .i64 r) := keep hb2 (by go_simp)
  have f2_2 : w2.frozen? ⟨B, 34, none⟩ = false := keepF hb2 (.int .i64 r) (by go_simp) (by go_simp)
  have c2_3 : w2.cell? ⟨B, 35, none⟩ = some (.int .u32 l) := keep hb2 (by go_simp)
  have f2_3 : w2.frozen? ⟨B, 35, none⟩ = false := keepF hb2 (.int .u32 l) (by go_simp) (by go_simp)
  clear c1_0 f1_0 c1_1 f1_1 c1_2 f1_2 c1_3 f1_3
  have HQ0 := Lib.hid ((H.out.below hb1).below hb2)
  have HB2 := Lib.hid (((Below.refl _ _).trans hb1).trans (hb2.mono hb1.size))
  go_wp2_with fail
  go_loopw [5] (fun i wr => ∃ (j : Nat) (gj : Nat → Int), t ≤ j ∧ j < m ∧ i = .int .i64 j ∧ QS wr B gj a m r l ∧ Shift g gj a m t j ∧ Only B w wr ∧ w.heap.size ≤ wr.heap.size) (fun i _ => m - (intOf i).toNat)
  case atStart => exact ⟨t, g, by omega, by omega, rfl, HQ0.out, Shift.start g a m t, .of_below HB2.out, yw2⟩
  case round =>
    obtain ⟨j, gj, htj, hjm, rfl, hq, hsh, hon, hwr⟩ := hrel
    have HSH := Lib.hid hsh
    clear hsh
    by_cases hlt : j + 1 < m
    · have n1 : ¬ (a + j) % 32 = 33 := by omega
      have k32 := hq.ca
      have k33 := hq.cm
      have k34 := hq.cr
      have k35 := hq.cl
      have j32 := hq.fz 32 (by omega)
      have j33 := hq.fz 33 (by omega)
      have j34 := hq.fz 34 (by omega)
      have j35 := hq.fz 35 (by omega)
      have zB := hq.lt
      have kr0 := hq.ring ((a + j) % 32) (by omega)
      have jr0 := hq.fz ((a + j) % 32) (by omega)
      have kr1 := hq.ring ((a + (j + 1)) % 32) (by omega)
      have jr1 := hq.fz ((a + (j + 1)) % 32) (by omega)
      have HQ := Lib.hid hq
      clear hq
      go_wp2_with fail
      with_reducible refine (place_any j _ HQ.out ha (by omega)).mono ?_
      rintro e5 w5 ⟨rfl, hb5⟩
      have yw5 : w.heap.size ≤ w5.heap.size := by (have := hb5.size; (try simp at this); omega)
      have c5_0 : w5.cell? ⟨B, 32, none⟩ = some (.int .i64 a) := keep hb5 (by go_simp)
      have f5_0 : w5.frozen? ⟨B, 32, none⟩ = false := keepF hb5 (.int .i64 a) (by go_simp) (by go_simp)
      have c5_1 : w5.cell? ⟨B, 33, none⟩ = some (.int .i64 m) := keep hb5 (by go_simp)
      have f5_1 : w5.frozen? ⟨B, 33, none⟩ = false := keepF hb5 (.int .i64 m) (by go_simp) (by go_simp)
      have c5_2 : w5.cell? ⟨B, 34, none⟩ = some (.int .i64 r) := keep hb5 (by go_simp)
      have f5_2 : w5.frozen? ⟨B, 34, none⟩ = false := keepF hb5 (.int .i64 r) (by go_simp) (by go_simp)
      have c5_3 : w5.cell? ⟨B, 35, none⟩ = some (.int .u32 l) := keep hb5 (by go_simp)
      have f5_3 : w5.frozen? ⟨B, 35, none⟩ = false := keepF hb5 (.int .u32 l) (by go_simp) (by go_simp)
      have c5_4 : w5.cell? ⟨B, ((a + j) % 32), none⟩ = some (.int .u32 (gj ((a + j) % 32))) := keep hb5 (by go_simp)
      have f5_4 : w5.frozen? ⟨B, ((a + j) % 32), none⟩ = false := keepF hb5 (.int .u32 (gj ((a + j) % 32))) (by go_simp) (by go_simp)
      have c5_5 : w5.cell? ⟨B, ((a + (j + 1)) % 32), none⟩ = some (.int .u32 (gj ((a + (j + 1)) % 32))) := keep hb5 (by go_simp)
      have f5_5 : w5.frozen? ⟨B, ((a + (j + 1)) % 32), none⟩ = false := keepF hb5 (.int .u32 (gj ((a + (j + 1)) % 32))) (by go_simp) (by go_simp)
      clear k32 k33 k34 k35 j32 j33 j34 j35 kr0 jr0 kr1 jr1
      go_wp2_with fail
      with_reducible refine (place_succ j _ (HQ.out.below hb5) ha (by omega)).mono ?_
      rintro e6 w6 ⟨rfl, hb6⟩
      have yw6 : w.heap.size ≤ w6.heap.size := by (have := hb6.size; (try simp at this); omega)
      have c6_0 : w6.cell? ⟨B, 32, none⟩ = some (.int .i64 a) := keep hb6 (by go_simp)
      have f6_0 : w6.frozen? ⟨B, 32, none⟩ = false := keepF hb6 (.int .i64 a) (by go_simp) (by go_simp)
      have c6_1 : w6.cell? ⟨B, 33, none⟩ = some (.int .i64 m) := keep hb6 (by go_simp)
      have f6_1 : w6.frozen? ⟨B, 33, none⟩ = false := keepF hb6 (.int .i64 m) (by go_simp) (by go_simp)
      have c6_2 : w6.cell? ⟨B, 34, none⟩ = some (.int .i64 r) := keep hb6 (by go_simp)
      have f6_2 : w6.frozen? ⟨B, 34, none⟩ = false := keepF hb6 (.int .i64 r) (by go_simp) (by go_simp)
      have c6_3 : w6.cell? ⟨B, 35, none⟩ = some (.int .u32 l) := keep hb6 (by go_simp)
      have f6_3 : w6.frozen? ⟨B, 35, none⟩ = false := keepF hb6 (.int .u32 l) (by go_simp) (by go_simp)
      have c6_4 : w6.cell? ⟨B, ((a + j) % 32), none⟩ = some (.int .u32 (gj ((a + j) % 32))) := keep hb6 (by go_simp)
      have f6_4 : w6.frozen? ⟨B, ((a + j) % 32), none⟩ = false := keepF hb6 (.int .u32 (gj ((a + j) % 32))) (by go_simp) (by go_simp)
      have c6_5 : w6.cell? ⟨B, ((a + (j + 1)) % 32), none⟩ = some (.int .u32 (gj ((a + (j + 1)) % 32))) := keep hb6 (by go_simp)
      have f6_5 : w6.frozen? ⟨B, ((a + (j + 1)) % 32), none⟩ = false := keepF hb6 (.int .u32 (gj ((a + (j + 1)) % 32))) (by go_simp) (by go_simp)
      clear c5_0 f5_0 c5_1 f5_1 c5_2 f5_2 c5_3 f5_3 c5_4 f5_4 c5_5 f5_5
      have HQ6 := Lib.hid ((HQ.out.below hb5).below hb6)
      go_wp2_with fail
      go_roundw
      case rel => exact ⟨j + 1, _, by omega, by omega, by go_num, HQ6.out.put (by omega) _, HSH.out.next hlt hm htj, (by repeat (first | assumption | exact Only.refl _ _ | refine Only.drew ?_ | refine Only.set ?_ (by rfl) _ | refine Only.step ?_ (by assumption))), by simp; omega⟩
      case measure => (try simp [intOf]); omega
    · have hjm1 : m = j + 1 := by omega
      have k32 := hq.ca
      have k33 := hq.cm
      have k34 := hq.cr
      have k35 := hq.cl
      have j32 := hq.fz 32 (by omega)
      have j33 := hq.fz 33 (by omega)
      have j34 := hq.fz 34 (by omega)
      have j35 := hq.fz 35 (by omega)
      have zB := hq.lt
      have HQ := Lib.hid hq
      clear hq
      have e6 : IntKind.i64.wrap ((m : Int) - 1) = (m : Int) - 1 := IntWalk.i64_in _ (by omega)
      have HM := Lib.hid hjm1
      clear hjm1
      go_wp2_with fail
      go_ret
      have e8 : (m : Int) - 1 = ((m - 1 : Nat) : Int) := by omega
      rw [e8]
      refine ⟨rfl, (by repeat (first | assumption | exact Only.refl _ _ | refine Only.drew ?_ | refine Only.set ?_ (by rfl) _ | refine Only.step ?_ (by assumption))), _, HQ.out.setM _, fun s hs => ?_⟩
      have := HSH.out s (by omega)
      rw [this]
      by_cases e : s < t
      · rw [if_pos e, if_neg (by omega)]
      · rw [if_neg e, if_pos (by have := HM.out; omega)]
end Go.Proofs.Ytnhfholodillaaa
