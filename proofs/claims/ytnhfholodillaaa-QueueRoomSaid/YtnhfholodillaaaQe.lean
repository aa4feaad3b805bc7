/- Contract of package queue: List. -/
import Derived.Test.YtnhfholodillaaaQd
set_option linter.unusedVariables false
set_option linter.unusedSimpArgs false
namespace Go.Proofs.Ytnhfholodillaaa
open Go.RowKit

set_option maxHeartbeats 1000000 in
theorem list_nil (w : World) :
    Calls Try.prog 34 #[.pointer none] w fun e' w' => e' = .returned (.slice none 0 0) ∧ Below w.heap.size w w' := by
  go_enter Try.func34, Try.ntmps34
  go_wp2_with fail
  with_reducible refine (none_nil _).mono ?_
  rintro e1 w1 ⟨rfl, hb1⟩
  have yw1 : w.heap.size ≤ w1.heap.size := by (have := hb1.size; (try simp at this); omega)
  go_wp2_with fail
  go_ret
  exact ⟨rfl, (by repeat (first | assumption | exact Below.refl _ _ | refine balloc ?_ _ | refine bdrew ?_ | refine bstep ?_ (by assumption)))⟩

set_option maxHeartbeats 1000000 in
theorem list_zero {B : Nat} (w : World) (h : w.cell? ⟨B, 34, none⟩ = some (.int .i64 0)) :
    Calls Try.prog 34 #[.pointer (some ⟨B, 0, none⟩)] w fun e' w' => e' = .returned (.slice none 0 0) ∧ Below w.heap.size w w' := by
  go_enter Try.func34, Try.ntmps34
  go_wp2_with fail
  with_reducible refine (none_zero _ h).mono ?_
  rintro e1 w1 ⟨rfl, hb1⟩
  have yw1 : w.heap.size ≤ w1.heap.size := by (have := hb1.size; (try simp at this); omega)
  go_wp2_with fail
  go_ret
  exact ⟨rfl, (by repeat (first | assumption | exact Below.refl _ _ | refine balloc ?_ _ | refine bdrew ?_ | refine bstep ?_ (by assumption)))⟩

theorem one_new (w : World) (x : Value) (t : TypeId) : ∀ j u, [x][j]? = some u → (w.alloc (.cells #[x] t)).cell? ((⟨w.heap.size, 0, none⟩ : Addr).add j) = some u := by
  intro j u h
  match j, h with
  | 0, h =>
    have h : x = u := by simpa using h
    subst h
    show (w.alloc (.cells #[x] t)).cell? ⟨w.heap.size, 0, none⟩ = some x
    rw [World.cell?_alloc_at _ _ _ _ rfl]; rfl
  | j + 1, h => simp at h

theorem info22 : (Try.prog.info? 22).map (fun i => (i.zero, i.size, i.bytes)) = some (some (.int .u32 0), 1, 4) := by kernel_rfl

set_option maxHeartbeats 2000000 in
theorem list_any {B : Nat} {g : Nat → Int} {a m r : Nat} {l : Int} (w : World) (h : QS w B g a m r l) (hr : 0 < r) (ha : a < 32) (hm : m ≤ 32) :
    Calls Try.prog 34 #[.pointer (some ⟨B, 0, none⟩)] w fun e' w' => ∃ v, e' = .returned v ∧ w'.ownsRow w.heap.size 22 1 v m ((List.range m).map fun t => Value.int .u32 (g ((a + t) % 32))) ∧ Below w.heap.size w w' := by
  obtain ⟨i0, hi, hz0, hz1, hz2⟩ := info_parts info22
  have k32 := h.ca
  have k33 := h.cm
  have k34 := h.cr
  have k35 := h.cl
  have j32 := h.fz 32 (by omega)
  have j33 := h.fz 33 (by omega)
  have j34 := h.fz 34 (by omega)
  have j35 := h.fz 35 (by omega)
  have zB := h.lt
  have H := Lib.hid h
  clear h
  go_enter Try.func34, Try.ntmps34
  go_wp2_with fail
  with_reducible refine (none_no _ H.out hr).mono ?_
  rintro e1 w1 ⟨rfl, hb1⟩
  have yw1 : w.heap.size ≤ w1.heap.size := by (have := hb1.size; (try simp at this); omega)
  have c1_0 : w1.cell? ⟨B, 32, none⟩ = some (.int .i64 a) := keep hb1 (by go_simp)
  have f1_0 : w1.frozen? ⟨B, 32, none⟩ = false := keepF hb1 (.int .i64 a) (by go_simp) (by go_simp)
  have c1_1 : w1.cell? ⟨B, 33, none⟩ = some (.int .i64 m) := keep hb1 (by go_simp)
  have f1_1 : w1.frozen? ⟨B, 33, none⟩ = false := keepF hb1 (.int .i64 m) (by go_simp) (by go_simp)
  have c1_2 : w1.cell? ⟨B, 34, none⟩ = some (.int .i64 r) := keep hb1 (by go_simp)
  have f1_2 : w1.frozen? ⟨B, 34, none⟩ = false := keepF hb1 (.int .i64 r) (by go_simp) (by go_simp)
  have c1_3 : w1.cell? ⟨B, 35, none⟩ = some (.int .u32 l) := keep hb1 (by go_simp)
  have f1_3 : w1.frozen? ⟨B, 35, none⟩ = false := keepF hb1 (.int .u32 l) (by go_simp) (by go_simp)
  clear k32 k33 k34 k35 j32 j33 j34 j35
  have HQ0 := Lib.hid (H.out.below hb1)
  go_wp2_with fail
  go_loopw [3, 12] (fun v i wr => ∃ k : Nat, k ≤ m ∧ i = .int .i64 k ∧ wr.ownsRow w.heap.size 22 1 v k ((List.range k).map fun t => Value.int .u32 (g ((a + t) % 32))) ∧ QS wr B g a m r l ∧ Below w.heap.size w wr) (fun _ i _ => m - (intOf i).toNat)
  case atStart => exact ⟨0, by omega, rfl, ⟨rfl, .inl ⟨rfl, rfl⟩⟩, HQ0.out, by assumption⟩
  case round =>
    obtain ⟨k, hk, rfl, hown, hq, hBel⟩ := hrel
    have hwr := hBel.size
    by_cases hlt : k < m
    · have k32 := hq.ca
      have k33 := hq.cm
      have k34 := hq.cr
      have k35 := hq.cl
      have j32 := hq.fz 32 (by omega)
      have j33 := hq.fz 33 (by omega)
      have j34 := hq.fz 34 (by omega)
      have j35 := hq.fz 35 (by omega)
      have zB := hq.lt
      have kr0 := hq.ring ((a + k) % 32) (by omega)
      have jr0 := hq.fz ((a + k) % 32) (by omega)
      have HQ := Lib.hid hq
      have HOWN := Lib.hid hown
      clear hq hown
      go_wp2_with fail
      with_reducible refine (place_any k _ HQ.out ha (by omega)).mono ?_
      rintro e5 w5 ⟨rfl, hb5⟩
      have yw5 : w.heap.size ≤ w5.heap.size := by (have := hb5.size; (try simp at this); omega)
      have c5_0 : w5.cell? ⟨B, 32, none⟩ = some (.int .i64 a) := keep hb5 (by go_simp)
      have f5_0 : w5.frozen? ⟨B, 32, none⟩ = false := keepF hb5 (.int .i64 a) (by go_simp) (by go_simp)
      have c5_1 : w5.cell? ⟨B, 33, none⟩ = some (.int .i64 m) := keep hb5 (by go_simp)
      have f5_1 : w5.frozen? ⟨B, 33, none⟩ = false := keepF hb5 (.int .i64 m) (by go_simp) (by go_simp)
      have c5_2 : w5.cell? ⟨B, 34, none⟩ = some (.int .i64 r) := keep hb5 (by go_simp)
      have f5_2 : w5.frozen? ⟨B, 34, none⟩ = false := keepF hb5 (.int .i64 r) (by go_simp) (by go_simp)
      have c5_3 : w5.cell? ⟨B, 35, none⟩ = some (.int .u32 l) := keep hb5 (by go_simp)
      have f5_3 : w5.frozen? ⟨B, 35, none⟩ = false := keepF hb5 (.int .u32 l) (by go_simp) (by go_simp)
      have c5_4 : w5.cell? ⟨B, ((a + k) % 32), none⟩ = some (.int .u32 (g ((a + k) % 32))) := keep hb5 (by go_simp)
      have f5_4 : w5.frozen? ⟨B, ((a + k) % 32), none⟩ = false := keepF hb5 (.int .u32 (g ((a + k) % 32))) (by go_simp) (by go_simp)
      clear k32 k33 k34 k35 j32 j33 j34 j35 kr0 jr0
      have HQ5 := Lib.hid (HQ.out.below hb5)
      have HB5 := Lib.hid (bstep hBel hb5)
      have HOWN5 := Lib.hid (HOWN.out.kept (row := none) ⟨hb5.os, hb5.tape, hb5.output, hb5.size, fun k h _ => hb5.block k h⟩ (by cases u3.ownBlock <;> simp))
      go_wp2_with (at_builtin; go_loud (refine wpList_append_own _ rfl _ _ 61 rfl w.heap.size 22 i0 (.int .u32 0) 1 4 Try.underlying61 hi hz0 hz1 hz2 rfl (by decide) _ _ _ rfl (HOWN5.out.alloc _) ⟨w5.heap.size, 0, none⟩ 1 1 [.int .u32 (g ((a + k) % 32))] rfl rfl ?qc1 ?qc2 ?qc3 ?qc4 ?qc5 ?_))
      case qc1 => exact one_new _ _ _
      case qc2 => simp [Value.oneCell']
      case qc3 => unfold maxLen; omega
      case qc4 => omega
      case qc5 => simp; omega
      intro v6 w6 hown6 hgrow6 _
      have hb6 : Below w.heap.size w w6 := (balloc HB5.out _).grown hgrow6 (by simp; omega) (fun k hk => (HOWN5.out.lt k hk).1)
      have HQ6 := Lib.hid (H.out.below hb6)
      have HOWN6 := Lib.hid hown6
      clear hown6 hgrow6
      go_wp2_with fail
      go_roundw
      case rel => exact ⟨k + 1, by omega, by go_num, by rw [List.range_succ, List.map_append]; exact HOWN6.out, HQ6.out, hb6⟩
      case measure => (try simp [intOf]); omega
    · have hkm : k = m := by omega
      subst hkm
      have HOWN := Lib.hid hown
      clear hlt hown hq
      go_wp2_with fail
      go_ret
      exact ⟨_, rfl, HOWN.out, hBel⟩
end Go.Proofs.Ytnhfholodillaaa
