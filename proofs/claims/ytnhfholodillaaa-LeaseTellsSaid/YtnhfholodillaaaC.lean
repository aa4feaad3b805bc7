/- Contracts of the reference of the lease: its answers are package lease's. -/
import Derived.Test.YtnhfholodillaaaB
set_option linter.unusedVariables false
set_option linter.unusedSimpArgs false
namespace Go.Proofs.Ytnhfholodillaaa
open Go.RowKit

theorem obj_twice (f g : Obj → Obj) (w : Array Obj) (b : Nat) : (w.modify b f).modify b g = w.modify b (fun o => g (f o)) := by
  apply Array.ext
  · simp
  · intro i h1 h2
    simp only [Array.getElem_modify]
    split <;> rfl
theorem setCell_twice (w : World) (a : Addr) (u v : Value) : (w.setCell a u).setCell a v = w.setCell a v := by
  unfold World.setCell
  simp only [obj_twice]
  congr 2
  funext o
  cases o <;> simp
  split <;> simp
attribute [local go_sem] setCell_twice
theorem field41_0 (p q : Int) (w : World) : (Instr.field 41 (.agg #[.int .u16 p, .int .i64 q]) 0).run Try.prog w = .ok (.int .u16 p) w := by kernel_rfl
attribute [local go_sem ↓] field41_0
def ras (a b : Int) : Int × Int := if rgt a b then (a, b) else (0, 0)
theorem ras_cases (a b : Int) : (a = 0 ∧ ras a b = (0, 0) ∧ fre a b = true) ∨ (¬ a = 0 ∧ b = -1 ∧ ras a b = (a, b) ∧ fre a b = false) ∨ (¬ a = 0 ∧ 1 ≤ b ∧ ras a b = (a, b) ∧ fre a b = false) ∨ (¬ a = 0 ∧ ras a b = (0, 0) ∧ fre a b = true) := by
  by_cases ha : a = 0
  · left; subst ha; by_cases hb : b = 0 <;> simp [ras, rgt, fre, hb]
  · by_cases h1 : b = -1
    · right; left; subst h1; simp [ras, rgt, fre, ha]
    · by_cases h2 : 1 ≤ b
      · right; right; left; simp [ras, rgt, fre, ha, h1, h2]
      · right; right; right; simp [ras, rgt, fre, ha, h1, h2]
set_option maxHeartbeats 400000 in
theorem rright_any (a b : Int) (w : World) :
    Calls Try.prog 26 #[.agg #[.int .u16 a, .int .i64 b]] w fun e' w' => e' = .returned (.bool (rgt a b)) ∧ Below w.heap.size w w' := by
  by_cases ha : a = 0
  · subst ha
    go_enter Try.func26, Try.ntmps26
    go_wp2
    all_goals go_ret
    all_goals exact ⟨by simp [rgt, *], (by repeat (first | exact Below.refl _ _ | refine balloc ?_ _ | refine bset ?_ (by first | (simp; done) | (simp; omega)) _ | refine bdrew ?_ | refine bstep ?_ (by assumption)))⟩
  · have hx : ∀ z : Bool, (decide (1 ≤ b) || b == -1) = z → rgt a b = z := by
      intro z hz
      have e1 : (a == 0) = false := by simpa using ha
      have e2 : (a != 0) = true := by simpa using ha
      simp only [rgt, e1, e2, Bool.false_and, Bool.false_or, Bool.true_and]; exact hz
    have Hx := Lib.hid hx
    clear hx
    by_cases h1 : 0 < b
    · have h2 : decide (1 ≤ b) = true := by simp; omega
      have Hy := Lib.hid (Hx.out true (by simp [h2]))
      rw [Hy.out]
      go_enter Try.func26, Try.ntmps26
      go_wp2
      all_goals go_ret
      all_goals exact ⟨by simp [*], (by repeat (first | exact Below.refl _ _ | refine balloc ?_ _ | refine bset ?_ (by first | (simp; done) | (simp; omega)) _ | refine bdrew ?_ | refine bstep ?_ (by assumption)))⟩
    · have h2 : decide (1 ≤ b) = false := by simp; omega
      have Hy := Lib.hid (Hx.out (b == -1) (by simp [h2]))
      rw [Hy.out]
      go_enter Try.func26, Try.ntmps26
      go_wp2
      all_goals go_ret
      all_goals exact ⟨by simp [*], (by repeat (first | exact Below.refl _ _ | refine balloc ?_ _ | refine bset ?_ (by first | (simp; done) | (simp; omega)) _ | refine bdrew ?_ | refine bstep ?_ (by assumption)))⟩
theorem rright_at {a b : Int} {z : Bool} (h : rgt a b = z) (w : World) :
    Calls Try.prog 26 #[.agg #[.int .u16 a, .int .i64 b]] w fun e' w' => e' = .returned (.bool z) ∧ Below w.heap.size w w' := by
  have := rright_any a b w
  rw [h] at this; exact this
set_option maxHeartbeats 400000 in
theorem ras_any (a b : Int) (w : World) :
    Calls Try.prog 46 #[.agg #[.int .u16 a, .int .i64 b]] w fun e' w' => e' = .returned (.agg #[.int .u16 (ras a b).1, .int .i64 (ras a b).2]) ∧ Below w.heap.size w w' := by
  obtain ⟨z, hz⟩ : ∃ z, rgt a b = z := ⟨_, rfl⟩
  have Hr := Lib.hid hz
  clear hz
  cases z
  · have Hx : Hid (ras a b = (0, 0)) := Lib.hid (by simp [ras, Hr.out])
    rw [Hx.out]
    go_enter Try.func46, Try.ntmps46
    go_wp2_with (go_at_call 26; refine ((rright_at Hr.out) _).mono ?_; rintro e1 w1 ⟨rfl, hb1⟩; have c1_0 : w1.cell? ⟨w.heap.size, 0, none⟩ = some (.int .u16 a) := keep hb1 (by go_simp); have f1_0 : w1.frozen? ⟨w.heap.size, 0, none⟩ = false := keepF hb1 (.int .u16 a) (by go_simp) (by go_simp); have c1_1 : w1.cell? ⟨w.heap.size, 1, none⟩ = some (.int .i64 b) := keep hb1 (by go_simp); have f1_1 : w1.frozen? ⟨w.heap.size, 1, none⟩ = false := keepF hb1 (.int .i64 b) (by go_simp) (by go_simp); have c1_2 : w1.cell? ⟨w.heap.size + 1, 0, none⟩ = some (.int .u16 0) := keep hb1 (by go_simp); have f1_2 : w1.frozen? ⟨w.heap.size + 1, 0, none⟩ = false := keepF hb1 (.int .u16 0) (by go_simp) (by go_simp); have c1_3 : w1.cell? ⟨w.heap.size + 1, 1, none⟩ = some (.int .i64 0) := keep hb1 (by go_simp); have f1_3 : w1.frozen? ⟨w.heap.size + 1, 1, none⟩ = false := keepF hb1 (.int .i64 0) (by go_simp) (by go_simp))
    all_goals go_light
    all_goals exact bodyPost_ret (v := .agg #[.int .u16 0, .int .i64 0]) (by simp [results, Try.results46, go_sem, *]) rfl ⟨rfl, (by repeat (first | exact Below.refl _ _ | refine balloc ?_ _ | refine bset ?_ (by first | (simp; done) | (simp; omega)) _ | refine bdrew ?_ | refine bstep ?_ (by assumption)))⟩
  · have Hx : Hid (ras a b = (a, b)) := Lib.hid (by simp [ras, Hr.out])
    rw [Hx.out]
    go_enter Try.func46, Try.ntmps46
    go_wp2_with (go_at_call 26; refine ((rright_at Hr.out) _).mono ?_; rintro e1 w1 ⟨rfl, hb1⟩; have c1_0 : w1.cell? ⟨w.heap.size, 0, none⟩ = some (.int .u16 a) := keep hb1 (by go_simp); have f1_0 : w1.frozen? ⟨w.heap.size, 0, none⟩ = false := keepF hb1 (.int .u16 a) (by go_simp) (by go_simp); have c1_1 : w1.cell? ⟨w.heap.size, 1, none⟩ = some (.int .i64 b) := keep hb1 (by go_simp); have f1_1 : w1.frozen? ⟨w.heap.size, 1, none⟩ = false := keepF hb1 (.int .i64 b) (by go_simp) (by go_simp); have c1_2 : w1.cell? ⟨w.heap.size + 1, 0, none⟩ = some (.int .u16 0) := keep hb1 (by go_simp); have f1_2 : w1.frozen? ⟨w.heap.size + 1, 0, none⟩ = false := keepF hb1 (.int .u16 0) (by go_simp) (by go_simp); have c1_3 : w1.cell? ⟨w.heap.size + 1, 1, none⟩ = some (.int .i64 0) := keep hb1 (by go_simp); have f1_3 : w1.frozen? ⟨w.heap.size + 1, 1, none⟩ = false := keepF hb1 (.int .i64 0) (by go_simp) (by go_simp))
    all_goals go_light
    all_goals exact bodyPost_ret (v := .agg #[.int .u16 a, .int .i64 b]) (by simp [results, Try.results46, go_sem, *]) rfl ⟨rfl, (by repeat (first | exact Below.refl _ _ | refine balloc ?_ _ | refine bset ?_ (by first | (simp; done) | (simp; omega)) _ | refine bdrew ?_ | refine bstep ?_ (by assumption)))⟩

def rtk (p q o t : Int) : Int × Int × Int := if o == 0 || !decide (1 ≤ t) then (p, q, 2) else if p != 0 && p != o then (p, q, 22) else if q == -1 then (p, q, 0) else (o, t, 0)
def row (p q o n m : Int) : Int × Int × Int := if o == 0 then (p, q, 2) else if p != o then (p, q, 22) else (n, m, 0)
def rti (p q : Int) : Int × Int × Bool := if decide (0 < q) then (if q - 1 == 0 then (0, 0, true) else (p, q - 1, false)) else (p, q, false)
def rbo (p q : Int) : Int × Int := if q == -1 then (p, q) else (0, 0)

set_option maxHeartbeats 1000000 in
theorem rfree_any (a b p q : Int) (w : World) (H46 : Hid (∀ w, Calls Try.prog 46 #[.agg #[.int .u16 a, .int .i64 b]] w fun e' w' => e' = .returned (.agg #[.int .u16 p, .int .i64 q]) ∧ Below w.heap.size w w')) :
    Calls Try.prog 28 #[.agg #[.int .u16 a, .int .i64 b]] w fun e' w' => e' = .returned (.bool (p == 0)) ∧ Below w.heap.size w w' := by
  go_enter Try.func28, Try.ntmps28
  go_wp2_with (go_at_call 46; refine (H46.out _).mono ?_; rintro e1 w1 ⟨rfl, hb1⟩)
  all_goals go_light
  all_goals go_ret
  all_goals exact ⟨by simp [*], (by repeat (first | exact Below.refl _ _ | refine balloc ?_ _ | refine bset ?_ (by first | (simp; done) | (simp; omega)) _ | refine bdrew ?_ | refine bstep ?_ (by assumption)))⟩

set_option maxHeartbeats 1000000 in
theorem rtak_any (a b o t p q : Int) (w : World) (H46 : Hid (∀ w, Calls Try.prog 46 #[.agg #[.int .u16 a, .int .i64 b]] w fun e' w' => e' = .returned (.agg #[.int .u16 p, .int .i64 q]) ∧ Below w.heap.size w w')) :
    Calls Try.prog 18 #[.agg #[.int .u16 a, .int .i64 b], .int .u16 o, .int .i64 t] w fun e' w' => e' = .returned (.tuple #[.agg #[.int .u16 (rtk p q o t).1, .int .i64 (rtk p q o t).2.1], .int .i64 (rtk p q o t).2.2]) ∧ Below w.heap.size w w' := by
  go_enter Try.func18, Try.ntmps18
  go_wp2_with (go_at_call 46; refine (H46.out _).mono ?_; rintro e1 w1 ⟨rfl, hb1⟩; have c1_0 : w1.cell? ⟨w.heap.size, 0, none⟩ = some (.int .u16 a) := keep hb1 (by go_simp); have f1_0 : w1.frozen? ⟨w.heap.size, 0, none⟩ = false := keepF hb1 (.int .u16 a) (by go_simp) (by go_simp); have c1_1 : w1.cell? ⟨w.heap.size, 1, none⟩ = some (.int .i64 b) := keep hb1 (by go_simp); have f1_1 : w1.frozen? ⟨w.heap.size, 1, none⟩ = false := keepF hb1 (.int .i64 b) (by go_simp) (by go_simp); have c1_2 : w1.cell? ⟨w.heap.size + 1, 0, none⟩ = some (.int .u16 0) := keep hb1 (by go_simp); have f1_2 : w1.frozen? ⟨w.heap.size + 1, 0, none⟩ = false := keepF hb1 (.int .u16 0) (by go_simp) (by go_simp); have c1_3 : w1.cell? ⟨w.heap.size + 1, 1, none⟩ = some (.int .i64 0) := keep hb1 (by go_simp); have f1_3 : w1.frozen? ⟨w.heap.size + 1, 1, none⟩ = false := keepF hb1 (.int .i64 0) (by go_simp) (by go_simp))
  all_goals go_light
  all_goals exact bodyPost_ret (v := (.tuple #[.agg #[.int .u16 (rtk p q o t).1, .int .i64 (rtk p q o t).2.1], .int .i64 (rtk p q o t).2.2])) (by simp [results, Try.results18, go_sem, *] <;> simp_all [rtk]) rfl ⟨rfl, (by repeat (first | exact Below.refl _ _ | refine balloc ?_ _ | refine bset ?_ (by first | (simp; done) | (simp; omega)) _ | refine bdrew ?_ | refine bstep ?_ (by assumption)))⟩

set_option maxHeartbeats 1000000 in
theorem rhold_any (a b o p q : Int) (w : World) (H46 : Hid (∀ w, Calls Try.prog 46 #[.agg #[.int .u16 a, .int .i64 b]] w fun e' w' => e' = .returned (.agg #[.int .u16 p, .int .i64 q]) ∧ Below w.heap.size w w')) :
    Calls Try.prog 20 #[.agg #[.int .u16 a, .int .i64 b], .int .u16 o] w fun e' w' => e' = .returned (.tuple #[.agg #[.int .u16 (row p q o o (-1)).1, .int .i64 (row p q o o (-1)).2.1], .int .i64 (row p q o o (-1)).2.2]) ∧ Below w.heap.size w w' := by
  go_enter Try.func20, Try.ntmps20
  go_wp2_with (go_at_call 46; refine (H46.out _).mono ?_; rintro e1 w1 ⟨rfl, hb1⟩; have c1_0 : w1.cell? ⟨w.heap.size, 0, none⟩ = some (.int .u16 a) := keep hb1 (by go_simp); have f1_0 : w1.frozen? ⟨w.heap.size, 0, none⟩ = false := keepF hb1 (.int .u16 a) (by go_simp) (by go_simp); have c1_1 : w1.cell? ⟨w.heap.size, 1, none⟩ = some (.int .i64 b) := keep hb1 (by go_simp); have f1_1 : w1.frozen? ⟨w.heap.size, 1, none⟩ = false := keepF hb1 (.int .i64 b) (by go_simp) (by go_simp); have c1_2 : w1.cell? ⟨w.heap.size + 1, 0, none⟩ = some (.int .u16 0) := keep hb1 (by go_simp); have f1_2 : w1.frozen? ⟨w.heap.size + 1, 0, none⟩ = false := keepF hb1 (.int .u16 0) (by go_simp) (by go_simp); have c1_3 : w1.cell? ⟨w.heap.size + 1, 1, none⟩ = some (.int .i64 0) := keep hb1 (by go_simp); have f1_3 : w1.frozen? ⟨w.heap.size + 1, 1, none⟩ = false := keepF hb1 (.int .i64 0) (by go_simp) (by go_simp))
  all_goals go_light
  all_goals exact bodyPost_ret (v := (.tuple #[.agg #[.int .u16 (row p q o o (-1)).1, .int .i64 (row p q o o (-1)).2.1], .int .i64 (row p q o o (-1)).2.2])) (by simp [results, Try.results20, go_sem, *] <;> simp_all [row]) rfl ⟨rfl, (by repeat (first | exact Below.refl _ _ | refine balloc ?_ _ | refine bset ?_ (by first | (simp; done) | (simp; omega)) _ | refine bdrew ?_ | refine bstep ?_ (by assumption)))⟩

set_option maxHeartbeats 1000000 in
theorem rleave_any (a b o p q : Int) (w : World) (H46 : Hid (∀ w, Calls Try.prog 46 #[.agg #[.int .u16 a, .int .i64 b]] w fun e' w' => e' = .returned (.agg #[.int .u16 p, .int .i64 q]) ∧ Below w.heap.size w w')) :
    Calls Try.prog 22 #[.agg #[.int .u16 a, .int .i64 b], .int .u16 o] w fun e' w' => e' = .returned (.tuple #[.agg #[.int .u16 (row p q o 0 0).1, .int .i64 (row p q o 0 0).2.1], .int .i64 (row p q o 0 0).2.2]) ∧ Below w.heap.size w w' := by
  go_enter Try.func22, Try.ntmps22
  go_wp2_with (go_at_call 46; refine (H46.out _).mono ?_; rintro e1 w1 ⟨rfl, hb1⟩; have c1_0 : w1.cell? ⟨w.heap.size, 0, none⟩ = some (.int .u16 a) := keep hb1 (by go_simp); have f1_0 : w1.frozen? ⟨w.heap.size, 0, none⟩ = false := keepF hb1 (.int .u16 a) (by go_simp) (by go_simp); have c1_1 : w1.cell? ⟨w.heap.size, 1, none⟩ = some (.int .i64 b) := keep hb1 (by go_simp); have f1_1 : w1.frozen? ⟨w.heap.size, 1, none⟩ = false := keepF hb1 (.int .i64 b) (by go_simp) (by go_simp); have c1_2 : w1.cell? ⟨w.heap.size + 1, 0, none⟩ = some (.int .u16 0) := keep hb1 (by go_simp); have f1_2 : w1.frozen? ⟨w.heap.size + 1, 0, none⟩ = false := keepF hb1 (.int .u16 0) (by go_simp) (by go_simp); have c1_3 : w1.cell? ⟨w.heap.size + 1, 1, none⟩ = some (.int .i64 0) := keep hb1 (by go_simp); have f1_3 : w1.frozen? ⟨w.heap.size + 1, 1, none⟩ = false := keepF hb1 (.int .i64 0) (by go_simp) (by go_simp))
  all_goals go_light
  all_goals exact bodyPost_ret (v := (.tuple #[.agg #[.int .u16 (row p q o 0 0).1, .int .i64 (row p q o 0 0).2.1], .int .i64 (row p q o 0 0).2.2])) (by simp [results, Try.results22, go_sem, *] <;> simp_all [row]) rfl ⟨rfl, (by repeat (first | exact Below.refl _ _ | refine balloc ?_ _ | refine bset ?_ (by first | (simp; done) | (simp; omega)) _ | refine bdrew ?_ | refine bstep ?_ (by assumption)))⟩

set_option maxHeartbeats 1000000 in
theorem rtick_any (a b p q : Int) (w : World) (H46 : Hid (∀ w, Calls Try.prog 46 #[.agg #[.int .u16 a, .int .i64 b]] w fun e' w' => e' = .returned (.agg #[.int .u16 p, .int .i64 q]) ∧ Below w.heap.size w w')) (hlo : -9223372036854775808 ≤ q) (hhi : q ≤ 9223372036854775807) :
    Calls Try.prog 24 #[.agg #[.int .u16 a, .int .i64 b]] w fun e' w' => e' = .returned (.tuple #[.agg #[.int .u16 (rti p q).1, .int .i64 (rti p q).2.1], .bool (rti p q).2.2]) ∧ Below w.heap.size w w' := by
  by_cases hq : 0 < q
  · by_cases h1 : q = 1
    · subst h1
      have HR : Hid (rti p 1 = (0, 0, true)) := Lib.hid (by simp [rti]; try omega)
      rw [HR.out]
      go_enter Try.func24, Try.ntmps24
      go_wp2_with (go_at_call 46; refine (H46.out _).mono ?_; rintro e1 w1 ⟨rfl, hb1⟩; have c1_0 : w1.cell? ⟨w.heap.size, 0, none⟩ = some (.int .u16 a) := keep hb1 (by go_simp); have f1_0 : w1.frozen? ⟨w.heap.size, 0, none⟩ = false := keepF hb1 (.int .u16 a) (by go_simp) (by go_simp); have c1_1 : w1.cell? ⟨w.heap.size, 1, none⟩ = some (.int .i64 b) := keep hb1 (by go_simp); have f1_1 : w1.frozen? ⟨w.heap.size, 1, none⟩ = false := keepF hb1 (.int .i64 b) (by go_simp) (by go_simp); have c1_2 : w1.cell? ⟨w.heap.size + 1, 0, none⟩ = some (.int .u16 0) := keep hb1 (by go_simp); have f1_2 : w1.frozen? ⟨w.heap.size + 1, 0, none⟩ = false := keepF hb1 (.int .u16 0) (by go_simp) (by go_simp); have c1_3 : w1.cell? ⟨w.heap.size + 1, 1, none⟩ = some (.int .i64 0) := keep hb1 (by go_simp); have f1_3 : w1.frozen? ⟨w.heap.size + 1, 1, none⟩ = false := keepF hb1 (.int .i64 0) (by go_simp) (by go_simp); have s1 : ((w1.setCell ⟨w.heap.size, 0, none⟩ (.int .u16 p)).setCell ⟨w.heap.size, 1, none⟩ (.int .i64 1)).cell? ⟨w.heap.size, 1, none⟩ = some (.int .i64 1) := by go_simp)
      all_goals exact bodyPost_ret (v := .tuple #[.agg #[.int .u16 ((0, 0, true) : Int × Int × Bool).1, .int .i64 ((0, 0, true) : Int × Int × Bool).2.1], .bool ((0, 0, true) : Int × Int × Bool).2.2]) (by simp [results, Try.results24, go_sem, *]) rfl ⟨rfl, (by repeat (first | exact Below.refl _ _ | refine balloc ?_ _ | refine bset ?_ (by first | (simp; done) | (simp; omega)) _ | refine bdrew ?_ | refine bstep ?_ (by assumption)))⟩
    · have hw : wrap64 (q - 1) = q - 1 := by unfold wrap64; omega
      have h2 : ¬ q - 1 = 0 := by omega
      have H2 := Lib.hid (show rti p q = (p, q - 1, false) by simp [rti, hq, h2])
      have HR : Hid (rti p q = (p, q - 1, false)) := H2
      rw [HR.out]
      go_enter Try.func24, Try.ntmps24
      go_wp2_with (go_at_call 46; refine (H46.out _).mono ?_; rintro e1 w1 ⟨rfl, hb1⟩; have c1_0 : w1.cell? ⟨w.heap.size, 0, none⟩ = some (.int .u16 a) := keep hb1 (by go_simp); have f1_0 : w1.frozen? ⟨w.heap.size, 0, none⟩ = false := keepF hb1 (.int .u16 a) (by go_simp) (by go_simp); have c1_1 : w1.cell? ⟨w.heap.size, 1, none⟩ = some (.int .i64 b) := keep hb1 (by go_simp); have f1_1 : w1.frozen? ⟨w.heap.size, 1, none⟩ = false := keepF hb1 (.int .i64 b) (by go_simp) (by go_simp); have c1_2 : w1.cell? ⟨w.heap.size + 1, 0, none⟩ = some (.int .u16 0) := keep hb1 (by go_simp); have f1_2 : w1.frozen? ⟨w.heap.size + 1, 0, none⟩ = false := keepF hb1 (.int .u16 0) (by go_simp) (by go_simp); have c1_3 : w1.cell? ⟨w.heap.size + 1, 1, none⟩ = some (.int .i64 0) := keep hb1 (by go_simp); have f1_3 : w1.frozen? ⟨w.heap.size + 1, 1, none⟩ = false := keepF hb1 (.int .i64 0) (by go_simp) (by go_simp); have s1 : ((w1.setCell ⟨w.heap.size, 0, none⟩ (.int .u16 p)).setCell ⟨w.heap.size, 1, none⟩ (.int .i64 q)).cell? ⟨w.heap.size, 1, none⟩ = some (.int .i64 q) := by go_simp)
      all_goals exact bodyPost_ret (v := .tuple #[.agg #[.int .u16 ((p, q - 1, false) : Int × Int × Bool).1, .int .i64 ((p, q - 1, false) : Int × Int × Bool).2.1], .bool ((p, q - 1, false) : Int × Int × Bool).2.2]) (by simp [results, Try.results24, go_sem, *]) rfl ⟨rfl, (by repeat (first | exact Below.refl _ _ | refine balloc ?_ _ | refine bset ?_ (by first | (simp; done) | (simp; omega)) _ | refine bdrew ?_ | refine bstep ?_ (by assumption)))⟩
  · have H2 := Lib.hid (show rti p q = (p, q, false) by simp [rti, hq])
    have HR : Hid (rti p q = (p, q, false)) := H2
    rw [HR.out]
    go_enter Try.func24, Try.ntmps24
    go_wp2_with (go_at_call 46; refine (H46.out _).mono ?_; rintro e1 w1 ⟨rfl, hb1⟩; have c1_0 : w1.cell? ⟨w.heap.size, 0, none⟩ = some (.int .u16 a) := keep hb1 (by go_simp); have f1_0 : w1.frozen? ⟨w.heap.size, 0, none⟩ = false := keepF hb1 (.int .u16 a) (by go_simp) (by go_simp); have c1_1 : w1.cell? ⟨w.heap.size, 1, none⟩ = some (.int .i64 b) := keep hb1 (by go_simp); have f1_1 : w1.frozen? ⟨w.heap.size, 1, none⟩ = false := keepF hb1 (.int .i64 b) (by go_simp) (by go_simp); have c1_2 : w1.cell? ⟨w.heap.size + 1, 0, none⟩ = some (.int .u16 0) := keep hb1 (by go_simp); have f1_2 : w1.frozen? ⟨w.heap.size + 1, 0, none⟩ = false := keepF hb1 (.int .u16 0) (by go_simp) (by go_simp); have c1_3 : w1.cell? ⟨w.heap.size + 1, 1, none⟩ = some (.int .i64 0) := keep hb1 (by go_simp); have f1_3 : w1.frozen? ⟨w.heap.size + 1, 1, none⟩ = false := keepF hb1 (.int .i64 0) (by go_simp) (by go_simp); have s1 : ((w1.setCell ⟨w.heap.size, 0, none⟩ (.int .u16 p)).setCell ⟨w.heap.size, 1, none⟩ (.int .i64 q)).cell? ⟨w.heap.size, 1, none⟩ = some (.int .i64 q) := by go_simp)
    all_goals exact bodyPost_ret (v := .tuple #[.agg #[.int .u16 ((p, q, false) : Int × Int × Bool).1, .int .i64 ((p, q, false) : Int × Int × Bool).2.1], .bool ((p, q, false) : Int × Int × Bool).2.2]) (by simp [results, Try.results24, go_sem, *]) rfl ⟨rfl, (by repeat (first | exact Below.refl _ _ | refine balloc ?_ _ | refine bset ?_ (by first | (simp; done) | (simp; omega)) _ | refine bdrew ?_ | refine bstep ?_ (by assumption)))⟩

set_option maxHeartbeats 1000000 in
theorem rboot_any (a b p q : Int) (w : World) (H46 : Hid (∀ w, Calls Try.prog 46 #[.agg #[.int .u16 a, .int .i64 b]] w fun e' w' => e' = .returned (.agg #[.int .u16 p, .int .i64 q]) ∧ Below w.heap.size w w')) :
    Calls Try.prog 30 #[.agg #[.int .u16 a, .int .i64 b]] w fun e' w' => e' = .returned (.agg #[.int .u16 (rbo p q).1, .int .i64 (rbo p q).2]) ∧ Below w.heap.size w w' := by
  go_enter Try.func30, Try.ntmps30
  go_wp2_with (go_at_call 46; refine (H46.out _).mono ?_; rintro e1 w1 ⟨rfl, hb1⟩; have c1_0 : w1.cell? ⟨w.heap.size, 0, none⟩ = some (.int .u16 a) := keep hb1 (by go_simp); have f1_0 : w1.frozen? ⟨w.heap.size, 0, none⟩ = false := keepF hb1 (.int .u16 a) (by go_simp) (by go_simp); have c1_1 : w1.cell? ⟨w.heap.size, 1, none⟩ = some (.int .i64 b) := keep hb1 (by go_simp); have f1_1 : w1.frozen? ⟨w.heap.size, 1, none⟩ = false := keepF hb1 (.int .i64 b) (by go_simp) (by go_simp); have c1_2 : w1.cell? ⟨w.heap.size + 1, 0, none⟩ = some (.int .u16 0) := keep hb1 (by go_simp); have f1_2 : w1.frozen? ⟨w.heap.size + 1, 0, none⟩ = false := keepF hb1 (.int .u16 0) (by go_simp) (by go_simp); have c1_3 : w1.cell? ⟨w.heap.size + 1, 1, none⟩ = some (.int .i64 0) := keep hb1 (by go_simp); have f1_3 : w1.frozen? ⟨w.heap.size + 1, 1, none⟩ = false := keepF hb1 (.int .i64 0) (by go_simp) (by go_simp))
  all_goals go_light
  all_goals exact bodyPost_ret (v := (.agg #[.int .u16 (rbo p q).1, .int .i64 (rbo p q).2])) (by simp [results, Try.results30, go_sem, *] <;> simp_all [rbo]) rfl ⟨rfl, (by repeat (first | exact Below.refl _ _ | refine balloc ?_ _ | refine bset ?_ (by first | (simp; done) | (simp; omega)) _ | refine bdrew ?_ | refine bstep ?_ (by assumption)))⟩

theorem ras_eqs (a b o t n m : Int) : ((ras a b).1 == 0) = fre a b ∧ rtk (ras a b).1 (ras a b).2 o t = tak a b o t ∧ row (ras a b).1 (ras a b).2 o n m = own a b o n m ∧ rti (ras a b).1 (ras a b).2 = tik a b ∧ rbo (ras a b).1 (ras a b).2 = boo a b := by
  rcases ras_cases a b with ⟨h1, hr, h3⟩ | ⟨h1, h2, hr, h3⟩ | ⟨h1, h2, hr, h3⟩ | ⟨h1, hr, h3⟩ <;> rw [hr]
  all_goals
    refine ⟨?_, ?_, ?_, ?_, ?_⟩
    · first | (simp [h3]; done) | (simp [h3, h1]; done)
    · simp only [rtk, tak, kept, hasB, h3]; by_cases ho : o = 0 <;> by_cases ht : 1 ≤ t <;> by_cases ha : a = o <;> simp [ho, ht, ha] <;> (try simp_all) <;> (try omega)
    · simp only [row, own, kept, hasB, h3]; by_cases ho : o = 0 <;> by_cases ha : a = o <;> simp [ho, ha] <;> (try simp_all) <;> (try omega)
    · simp only [rti, tik, h3]; by_cases hb : b = 1 <;> simp [hb] <;> (try simp_all) <;> (repeat' split) <;> (try simp) <;> (try omega)
    · simp only [rbo, boo, h3]; (try simp_all) <;> (try omega)
end Go.Proofs.Ytnhfholodillaaa
