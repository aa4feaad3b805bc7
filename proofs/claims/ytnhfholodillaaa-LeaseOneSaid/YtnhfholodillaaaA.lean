/- Contracts of package lease and of its reference: each returns what the plain functions of this text say, and writes nothing that was there. -/
import Derived.Test.YtnhfholodillaaaProg
import Derived.Test.YtnhfholodillaaaK
namespace Go.Proofs.Ytnhfholodillaaa
open Go.RowKit

def rgt (a b : Int) : Bool := (a == 0 && b == 0) || (a != 0 && (decide (1 ≤ b) || b == -1))
def fre (a b : Int) : Bool := a == 0 || !rgt a b
def hasB (a b o : Int) : Bool := !fre a b && a == o
def kept (a b e : Int) : Int × Int × Int := if fre a b then (0, 0, e) else (a, b, e)
def tak (a b o t : Int) : Int × Int × Int :=
  if o == 0 || !decide (1 ≤ t) then kept a b 2 else if !fre a b && a != o then kept a b 22 else if hasB a b o && b == -1 then (a, b, 0) else (o, t, 0)
def own (a b o n m : Int) : Int × Int × Int :=
  if o == 0 then kept a b 2 else if hasB a b o then (n, m, 0) else kept a b 22
def tik (a b : Int) : Int × Int × Bool :=
  if fre a b then (0, 0, false) else if b == -1 then (a, b, false) else if b == 1 then (0, 0, true) else (a, b - 1, false)
def boo (a b : Int) : Int × Int := if fre a b || b != -1 then (0, 0) else (a, b)

set_option maxHeartbeats 400000 in
theorem right_any (a b : Int) (w : World) :
    Calls Try.prog 25 #[.agg #[.int .u16 a, .int .i64 b]] w fun e w' => e = .returned (.bool (rgt a b)) ∧ Below w.heap.size w w' := by
  go_enter Try.func25, Try.ntmps25
  go_wp2
  all_goals go_ret
  all_goals exact ⟨by (try subst_vars); simp [rgt, *]; done, (by repeat (first | exact Below.refl _ _ | refine balloc ?_ _ | refine bset ?_ (by simp) _ | refine bdrew ?_ | refine bstep ?_ (by assumption)))⟩

set_option maxHeartbeats 400000 in
theorem free_any (a b : Int) (w : World) :
    Calls Try.prog 27 #[.agg #[.int .u16 a, .int .i64 b]] w fun e w' => e = .returned (.bool (fre a b)) ∧ Below w.heap.size w w' := by
  go_enter Try.func27, Try.ntmps27
  go_wp2_with (go_at_call 25; refine (right_any _ _ _).mono ?_; rintro e w1 ⟨rfl, hb⟩)
  all_goals go_ret
  all_goals exact ⟨by simp [fre, *], (by repeat (first | exact Below.refl _ _ | refine balloc ?_ _ | refine bset ?_ (by simp) _ | refine bdrew ?_ | refine bstep ?_ (by assumption)))⟩

set_option maxHeartbeats 400000 in
theorem kept_any (a b e : Int) (w : World) :
    Calls Try.prog 44 #[.agg #[.int .u16 a, .int .i64 b], .int .i64 e] w fun e' w' => e' = .returned (.tuple #[.agg #[.int .u16 (kept a b e).1, .int .i64 (kept a b e).2.1], .int .i64 (kept a b e).2.2]) ∧ Below w.heap.size w w' := by
  go_enter Try.func44, Try.ntmps44
  go_wp2_with (go_at_call 27; refine (free_any _ _ _).mono ?_; rintro e1 w1 ⟨rfl, hb1⟩; have c1_0 : w1.cell? ⟨w.heap.size, 0, none⟩ = some (.int .u16 a) := keep hb1 (by go_simp); have f1_0 : w1.frozen? ⟨w.heap.size, 0, none⟩ = false := keepF hb1 (.int .u16 a) (by go_simp) (by go_simp); have c1_1 : w1.cell? ⟨w.heap.size, 1, none⟩ = some (.int .i64 b) := keep hb1 (by go_simp); have f1_1 : w1.frozen? ⟨w.heap.size, 1, none⟩ = false := keepF hb1 (.int .i64 b) (by go_simp) (by go_simp); have c1_2 : w1.cell? ⟨w.heap.size + 1, 0, none⟩ = some (.int .u16 0) := keep hb1 (by go_simp); have f1_2 : w1.frozen? ⟨w.heap.size + 1, 0, none⟩ = false := keepF hb1 (.int .u16 0) (by go_simp) (by go_simp); have c1_3 : w1.cell? ⟨w.heap.size + 1, 1, none⟩ = some (.int .i64 0) := keep hb1 (by go_simp); have f1_3 : w1.frozen? ⟨w.heap.size + 1, 1, none⟩ = false := keepF hb1 (.int .i64 0) (by go_simp) (by go_simp))
  all_goals refine bodyPost_ret (v := (.tuple #[.agg #[.int .u16 (kept a b e).1, .int .i64 (kept a b e).2.1], .int .i64 (kept a b e).2.2])) (by simp [results, Try.results44, go_sem, kept, *]) rfl ⟨rfl, (by repeat (first | exact Below.refl _ _ | refine balloc ?_ _ | refine bset ?_ (by simp) _ | refine bdrew ?_ | refine bstep ?_ (by assumption)))⟩

set_option maxHeartbeats 400000 in
theorem has_any (a b o : Int) (w : World) :
    Calls Try.prog 45 #[.agg #[.int .u16 a, .int .i64 b], .int .u16 o] w fun e' w' => e' = .returned (.bool (hasB a b o)) ∧ Below w.heap.size w w' := by
  go_enter Try.func45, Try.ntmps45
  go_wp2_with (go_at_call 27; refine (free_any _ _ _).mono ?_; rintro e1 w1 ⟨rfl, hb1⟩; have c1_0 : w1.cell? ⟨w.heap.size, 0, none⟩ = some (.int .u16 a) := keep hb1 (by go_simp); have f1_0 : w1.frozen? ⟨w.heap.size, 0, none⟩ = false := keepF hb1 (.int .u16 a) (by go_simp) (by go_simp); have c1_1 : w1.cell? ⟨w.heap.size, 1, none⟩ = some (.int .i64 b) := keep hb1 (by go_simp); have f1_1 : w1.frozen? ⟨w.heap.size, 1, none⟩ = false := keepF hb1 (.int .i64 b) (by go_simp) (by go_simp))
  all_goals go_ret
  all_goals exact ⟨by simp [hasB, *], (by repeat (first | exact Below.refl _ _ | refine balloc ?_ _ | refine bset ?_ (by simp) _ | refine bdrew ?_ | refine bstep ?_ (by assumption)))⟩
end Go.Proofs.Ytnhfholodillaaa
