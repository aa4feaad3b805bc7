/- Contracts of package queue: New, find. -/
import Derived.Test.YtnhfholodillaaaQa
set_option linter.unusedVariables false
set_option linter.unusedSimpArgs false
namespace Go.Proofs.Ytnhfholodillaaa
open Go.RowKit

theorem new_cells (r : Int) : ∀ j, j < 32 → (#[.int .u32 0, .int .u32 0, .int .u32 0, .int .u32 0, .int .u32 0, .int .u32 0, .int .u32 0, .int .u32 0, .int .u32 0, .int .u32 0, .int .u32 0, .int .u32 0, .int .u32 0, .int .u32 0, .int .u32 0, .int .u32 0, .int .u32 0, .int .u32 0, .int .u32 0, .int .u32 0, .int .u32 0, .int .u32 0, .int .u32 0, .int .u32 0, .int .u32 0, .int .u32 0, .int .u32 0, .int .u32 0, .int .u32 0, .int .u32 0, .int .u32 0, .int .u32 0, .int .i64 0, .int .i64 0, .int .i64 r, .int .u32 0] : Array Value)[j]? = some (.int .u32 0)
  | 0, _ => rfl
  | 1, _ => rfl
  | 2, _ => rfl
  | 3, _ => rfl
  | 4, _ => rfl
  | 5, _ => rfl
  | 6, _ => rfl
  | 7, _ => rfl
  | 8, _ => rfl
  | 9, _ => rfl
  | 10, _ => rfl
  | 11, _ => rfl
  | 12, _ => rfl
  | 13, _ => rfl
  | 14, _ => rfl
  | 15, _ => rfl
  | 16, _ => rfl
  | 17, _ => rfl
  | 18, _ => rfl
  | 19, _ => rfl
  | 20, _ => rfl
  | 21, _ => rfl
  | 22, _ => rfl
  | 23, _ => rfl
  | 24, _ => rfl
  | 25, _ => rfl
  | 26, _ => rfl
  | 27, _ => rfl
  | 28, _ => rfl
  | 29, _ => rfl
  | 30, _ => rfl
  | 31, _ => rfl
  | j + 32, h => absurd h (by omega)

set_option maxRecDepth 100000 in
set_option maxHeartbeats 1000000 in
theorem new_ok (r : Nat) (w : World) (h1 : 1 ≤ r) (h2 : r ≤ 32) :
    Calls Try.prog 33 #[.int .i64 r] w fun e' w' => e' = .returned (.tuple #[.pointer (some ⟨w.heap.size, 0, none⟩), .int .i64 0]) ∧ Below w.heap.size w w' ∧ QS w' w.heap.size (fun _ => 0) 0 0 r 0 := by
  have e1 : decide ((r : Int) < 1) = false := by simp; omega
  have e2 : decide ((32 : Int) < (r : Int)) = false := by simp; omega
  go_enter Try.func33, Try.ntmps33
  go_wp2_with fail
  go_ret2
  refine ⟨rfl, balloc (Below.refl _ _) _, ?_⟩
  refine ⟨fun j hj => ?_, ?_, ?_, ?_, ?_, fun j hj => World.frozen?_alloc_at _ _ _ _ rfl, by simp⟩
  · rw [World.cell?_alloc_at _ _ _ _ rfl]; exact new_cells r j hj
  all_goals
    rw [World.cell?_alloc_at _ _ _ _ rfl]; rfl

set_option maxHeartbeats 400000 in
theorem new_bad (r : Int) (w : World) (h : r < 1 ∨ 32 < r) :
    Calls Try.prog 33 #[.int .i64 r] w fun e' w' => e' = .returned (.tuple #[.pointer none, .int .i64 2]) ∧ Below w.heap.size w w' := by
  by_cases h1 : r < 1
  · go_enter Try.func33, Try.ntmps33
    go_wp2_with fail
    go_ret2
    exact ⟨rfl, (by repeat (first | assumption | exact Below.refl _ _ | refine balloc ?_ _ | refine bdrew ?_ | refine bstep ?_ (by assumption)))⟩
  · have h2 : 32 < r := by omega
    clear h
    go_enter Try.func33, Try.ntmps33
    go_wp2_with fail
    go_ret2
    exact ⟨rfl, (by repeat (first | assumption | exact Below.refl _ _ | refine balloc ?_ _ | refine bdrew ?_ | refine bstep ?_ (by assumption)))⟩

set_option maxHeartbeats 1000000 in
theorem find_no (x : Int) {B : Nat} {g : Nat → Int} {a m r : Nat} {l : Int} (w : World) (h : QS w B g a m r l) (ha : a < 32) (hm : m ≤ 32) (hx : ∀ j, j < m → ¬ g ((a + j) % 32) = x) :
    Calls Try.prog 50 #[.pointer (some ⟨B, 0, none⟩), .int .u32 x] w fun e' w' => e' = .returned (.tuple #[.int .i64 0, .bool false]) ∧ Below w.heap.size w w' := by
  have HX := Lib.hid hx
  clear hx
  have k32 := h.ca
  have k33 := h.cm
  have k34 := h.cr
  have k35 := h.cl
  have j32 := h.fz 32 (by omega)
  have j33 := h.fz 33 (by omega)
  have j34 := h.fz 34 (by omega)
  have j35 := h.fz 35 (by omega)
  have zB := h.lt
  have H := Lib.hid h
  clear h
  go_enter Try.func50, Try.ntmps50
  go_wp2_with fail
  go_loopw [11] (fun i wr => ∃ k : Nat, k ≤ m ∧ i = .int .i64 k ∧ QS wr B g a m r l ∧ Below w.heap.size w wr) (fun i _ => m - (intOf i).toNat)
  case atStart => exact ⟨0, by omega, rfl, H.out, Below.refl _ _⟩
  case round =>
    obtain ⟨k, hk, rfl, hq, hBel⟩ := hrel
    have hwr := hBel.size
    by_cases hlt : k < m
    · have k32 := hq.ca
      have k33 := hq.cm
      have k34 := hq.cr
      have k35 := hq.cl
      have j32 := hq.fz 32 (by omega)
      have j33 := hq.fz 33 (by omega)
      have j34 := hq.fz 34 (by omega)
      have j35 := hq.fz 35 (by omega)
      have zB := hq.lt
      have kr0 := hq.ring ((a + k) % 32) (by omega)
      have jr0 := hq.fz ((a + k) % 32) (by omega)
      have HQ := Lib.hid hq
      clear hq
      have e1 : (g ((a + k) % 32) == x) = false := by have := HX.out k hlt; simpa using this
      go_wp2_with fail
      with_reducible refine (place_any k _ HQ.out ha (by omega)).mono ?_
      rintro e3 w3 ⟨rfl, hb3⟩
      have yw3 : w.heap.size ≤ w3.heap.size := by (have := hb3.size; (try simp at this); omega)
      have c3_0 : w3.cell? ⟨B, 32, none⟩ = some (.int .i64 a) := keep hb3 (by go_simp)
      have f3_0 : w3.frozen? ⟨B, 32, none⟩ = false := keepF hb3 (.int .i64 a) (by go_simp) (by go_simp)
      have c3_1 : w3.cell? ⟨B, 33, none⟩ = some (.int .i64 m) := keep hb3 (by go_simp)
      have f3_1 : w3.frozen? ⟨B, 33, none⟩ = false := keepF hb3 (.int .i64 m) (by go_simp) (by go_simp)
      have c3_2 : w3.cell? ⟨B, 34, none⟩ = some (.int .i64 r) := keep hb3 (by go_simp)
      have f3_2 : w3.frozen? ⟨B, 34, none⟩ = false := keepF hb3 (.int .i64 r) (by go_simp) (by go_simp)
      have c3_3 : w3.cell? ⟨B, 35, none⟩ = some (.int .u32 l) := keep hb3 (by go_simp)
      have f3_3 : w3.frozen? ⟨B, 35, none⟩ = false := keepF hb3 (.int .u32 l) (by go_simp) (by go_simp)
      have c3_4 : w3.cell? ⟨B, ((a + k) % 32), none⟩ = some (.int .u32 (g ((a + k) % 32))) := keep hb3 (by go_simp)
      have f3_4 : w3.frozen? ⟨B, ((a + k) % 32), none⟩ = false := keepF hb3 (.int .u32 (g ((a + k) % 32))) (by go_simp) (by go_simp)
      clear k32 k33 k34 k35 j32 j33 j34 j35 kr0 jr0
      go_wp2_with fail
      go_roundw
      case rel => exact ⟨k + 1, by omega, by go_num, HQ.out.below hb3, (by repeat (first | assumption | exact Below.refl _ _ | refine balloc ?_ _ | refine bdrew ?_ | refine bstep ?_ (by assumption)))⟩
      case measure => (try simp [intOf]); omega
    · have hkm : k = m := by omega
      subst hkm
      clear hlt
      go_wp2_with fail
      go_ret2
      exact ⟨rfl, (by repeat (first | assumption | exact Below.refl _ _ | refine balloc ?_ _ | refine bdrew ?_ | refine bstep ?_ (by assumption)))⟩

set_option maxHeartbeats 1000000 in
theorem find_yes (x : Int) (t : Nat) {B : Nat} {g : Nat → Int} {a m r : Nat} {l : Int} (w : World) (h : QS w B g a m r l) (ha : a < 32) (hm : m ≤ 32) (ht : t < m) (hx : ∀ j, j < t → ¬ g ((a + j) % 32) = x) (he : g ((a + t) % 32) = x) :
    Calls Try.prog 50 #[.pointer (some ⟨B, 0, none⟩), .int .u32 x] w fun e' w' => e' = .returned (.tuple #[.int .i64 t, .bool true]) ∧ Below w.heap.size w w' := by
  have HX := Lib.hid hx
  have HE := Lib.hid he
  clear hx he
  have k32 := h.ca
  have k33 := h.cm
  have k34 := h.cr
  have k35 := h.cl
  have j32 := h.fz 32 (by omega)
  have j33 := h.fz 33 (by omega)
  have j34 := h.fz 34 (by omega)
  have j35 := h.fz 35 (by omega)
  have zB := h.lt
  have H := Lib.hid h
  clear h
  go_enter Try.func50, Try.ntmps50
  go_wp2_with fail
  go_loopw [11] (fun i wr => ∃ k : Nat, k ≤ t ∧ i = .int .i64 k ∧ QS wr B g a m r l ∧ Below w.heap.size w wr) (fun i _ => m - (intOf i).toNat)
  case atStart => exact ⟨0, by omega, rfl, H.out, Below.refl _ _⟩
  case round =>
    obtain ⟨k, hk, rfl, hq, hBel⟩ := hrel
    have hwr := hBel.size
    by_cases hlt : k < m
    · have k32 := hq.ca
      have k33 := hq.cm
      have k34 := hq.cr
      have k35 := hq.cl
      have j32 := hq.fz 32 (by omega)
      have j33 := hq.fz 33 (by omega)
      have j34 := hq.fz 34 (by omega)
      have j35 := hq.fz 35 (by omega)
      have zB := hq.lt
      have kr0 := hq.ring ((a + k) % 32) (by omega)
      have jr0 := hq.fz ((a + k) % 32) (by omega)
      have HQ := Lib.hid hq
      clear hq
      by_cases hkt : k = t
      · subst hkt
        have e1 : (g ((a + k) % 32) == x) = true := by have := HE.out; simpa using this
        go_wp2_with fail
        with_reducible refine (place_any k _ HQ.out ha (by omega)).mono ?_
        rintro e3 w3 ⟨rfl, hb3⟩
        have yw3 : w.heap.size ≤ w3.heap.size := by (have := hb3.size; (try simp at this); omega)
        have c3_0 : w3.cell? ⟨B, 32, none⟩ = some (.int .i64 a) := keep hb3 (by go_simp)
        have f3_0 : w3.frozen? ⟨B, 32, none⟩ = false := keepF hb3 (.int .i64 a) (by go_simp) (by go_simp)
        have c3_1 : w3.cell? ⟨B, 33, none⟩ = some (.int .i64 m) := keep hb3 (by go_simp)
        have f3_1 : w3.frozen? ⟨B, 33, none⟩ = false := keepF hb3 (.int .i64 m) (by go_simp) (by go_simp)
        have c3_2 : w3.cell? ⟨B, 34, none⟩ = some (.int .i64 r) := keep hb3 (by go_simp)
        have f3_2 : w3.frozen? ⟨B, 34, none⟩ = false := keepF hb3 (.int .i64 r) (by go_simp) (by go_simp)
        have c3_3 : w3.cell? ⟨B, 35, none⟩ = some (.int .u32 l) := keep hb3 (by go_simp)
        have f3_3 : w3.frozen? ⟨B, 35, none⟩ = false := keepF hb3 (.int .u32 l) (by go_simp) (by go_simp)
        have c3_4 : w3.cell? ⟨B, ((a + k) % 32), none⟩ = some (.int .u32 (g ((a + k) % 32))) := keep hb3 (by go_simp)
        have f3_4 : w3.frozen? ⟨B, ((a + k) % 32), none⟩ = false := keepF hb3 (.int .u32 (g ((a + k) % 32))) (by go_simp) (by go_simp)
        clear k32 k33 k34 k35 j32 j33 j34 j35 kr0 jr0
        go_wp2_with fail
        go_ret2
        exact ⟨rfl, (by repeat (first | assumption | exact Below.refl _ _ | refine balloc ?_ _ | refine bdrew ?_ | refine bstep ?_ (by assumption)))⟩
      · have e1 : (g ((a + k) % 32) == x) = false := by have := HX.out k (by omega); simpa using this
        go_wp2_with fail
        with_reducible refine (place_any k _ HQ.out ha (by omega)).mono ?_
        rintro e3 w3 ⟨rfl, hb3⟩
        have yw3 : w.heap.size ≤ w3.heap.size := by (have := hb3.size; (try simp at this); omega)
        have c3_0 : w3.cell? ⟨B, 32, none⟩ = some (.int .i64 a) := keep hb3 (by go_simp)
        have f3_0 : w3.frozen? ⟨B, 32, none⟩ = false := keepF hb3 (.int .i64 a) (by go_simp) (by go_simp)
        have c3_1 : w3.cell? ⟨B, 33, none⟩ = some (.int .i64 m) := keep hb3 (by go_simp)
        have f3_1 : w3.frozen? ⟨B, 33, none⟩ = false := keepF hb3 (.int .i64 m) (by go_simp) (by go_simp)
        have c3_2 : w3.cell? ⟨B, 34, none⟩ = some (.int .i64 r) := keep hb3 (by go_simp)
        have f3_2 : w3.frozen? ⟨B, 34, none⟩ = false := keepF hb3 (.int .i64 r) (by go_simp) (by go_simp)
        have c3_3 : w3.cell? ⟨B, 35, none⟩ = some (.int .u32 l) := keep hb3 (by go_simp)
        have f3_3 : w3.frozen? ⟨B, 35, none⟩ = false := keepF hb3 (.int .u32 l) (by go_simp) (by go_simp)
        have c3_4 : w3.cell? ⟨B, ((a + k) % 32), none⟩ = some (.int .u32 (g ((a + k) % 32))) := keep hb3 (by go_simp)
        have f3_4 : w3.frozen? ⟨B, ((a + k) % 32), none⟩ = false := keepF hb3 (.int .u32 (g ((a + k) % 32))) (by go_simp) (by go_simp)
        clear k32 k33 k34 k35 j32 j33 j34 j35 kr0 jr0
        go_wp2_with fail
        go_roundw
        case rel => exact ⟨k + 1, by omega, by go_num, HQ.out.below hb3, (by repeat (first | assumption | exact Below.refl _ _ | refine balloc ?_ _ | refine bdrew ?_ | refine bstep ?_ (by assumption)))⟩
        case measure => (try simp [intOf]); omega
    · omega
end Go.Proofs.Ytnhfholodillaaa
