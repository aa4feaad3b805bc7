/- A disk that is none: nil, or one that New did not answer: its methods do nothing. -/
import Derived.Test.YthgaphfelpnclaaDl
set_option linter.unusedVariables false
set_option linter.unusedSimpArgs false
namespace Go.Proofs.Ythgaphfelpnclaa
open Go.RowKit

def Non (w : World) (p : Option Addr) : Prop := p = none ∨ ∃ B, p = some ⟨B, 0, none⟩ ∧ w.cell? ⟨B, 0, none⟩ = some (.bool false)
theorem Non.below {w w' : World} {p : Option Addr} (h : Non w p) (hb : Below w.heap.size w w') : Non w' p := by
  rcases h with h | ⟨B, h1, h2⟩
  · exact .inl h
  · exact .inr ⟨B, h1, keep hb h2⟩
theorem none_non {p : Option Addr} (w : World) (h : Non w p) : Calls Try.prog 63 #[.pointer p] w fun e' w' => e' = .returned (.bool true) ∧ w' = w := by
  rcases h with rfl | ⟨B, rfl, c0⟩
  · go_enter Try.func63, Try.ntmps63
    go_wp2_with fail
    go_ret
    exact ⟨rfl, rfl⟩
  · go_enter Try.func63, Try.ntmps63
    go_wp2_with fail
    go_ret
    exact ⟨rfl, rfl⟩
theorem lenN {p : Option Addr} (w : World) (h : Non w p) : Calls Try.prog 27 #[.pointer p] w fun e' w' => e' = .returned (.int .i64 0) ∧ Below w.heap.size w w' := by
  go_enter Try.func27, Try.ntmps27
  go_wp2_with fail
  with_reducible refine Calls.mono (none_non _ h) ?_
  rintro e1 w1 ⟨rfl, rfl⟩
  go_wp2_with fail
  go_ret
  exact ⟨rfl, Below.refl _ _⟩
theorem safeN {p : Option Addr} (w : World) (h : Non w p) : Calls Try.prog 32 #[.pointer p] w fun e' w' => e' = .returned (.int .i64 0) ∧ Below w.heap.size w w' := by
  go_enter Try.func32, Try.ntmps32
  go_wp2_with fail
  with_reducible refine Calls.mono (none_non _ h) ?_
  rintro e1 w1 ⟨rfl, rfl⟩
  go_wp2_with fail
  go_ret
  exact ⟨rfl, Below.refl _ _⟩
theorem roomN {p : Option Addr} (w : World) (h : Non w p) : Calls Try.prog 36 #[.pointer p] w fun e' w' => e' = .returned (.int .i64 0) ∧ Below w.heap.size w w' := by
  go_enter Try.func36, Try.ntmps36
  go_wp2_with fail
  with_reducible refine Calls.mono (none_non _ h) ?_
  rintro e1 w1 ⟨rfl, rfl⟩
  go_wp2_with fail
  go_ret
  exact ⟨rfl, Below.refl _ _⟩
theorem offN {p : Option Addr} (w : World) (h : Non w p) : Calls Try.prog 28 #[.pointer p] w fun e' w' => e' = .returned (.bool false) ∧ Below w.heap.size w w' := by
  go_enter Try.func28, Try.ntmps28
  go_wp2_with fail
  with_reducible refine Calls.mono (none_non _ h) ?_
  rintro e1 w1 ⟨rfl, rfl⟩
  go_wp2_with fail
  go_ret
  exact ⟨rfl, Below.refl _ _⟩
theorem bytesN {p : Option Addr} (w : World) (h : Non w p) : Calls Try.prog 24 #[.pointer p] w fun e' w' => e' = .returned (.slice none 0 0) ∧ Below w.heap.size w w' := by
  go_enter Try.func24, Try.ntmps24
  go_wp2_with fail
  with_reducible refine Calls.mono (none_non _ h) ?_
  rintro e1 w1 ⟨rfl, rfl⟩
  go_wp2_with fail
  go_ret
  exact ⟨rfl, Below.refl _ _⟩
theorem sparksN {p : Option Addr} (w : World) (h : Non w p) (n : Int) : Calls Try.prog 26 #[.pointer p, .int .i64 n] w fun e' w' => e' = .returned (.tuple #[]) ∧ Below w.heap.size w w' := by
  go_enter Try.func26, Try.ntmps26
  go_wp2_with fail
  with_reducible refine Calls.mono (none_non _ h) ?_
  rintro e1 w1 ⟨rfl, rfl⟩
  go_wp2_with fail
  first | go_end0 | refine bodyPost_ret (results_none rfl _ _ _) rfl ?_
  exact ⟨rfl, Below.refl _ _⟩
theorem crashN {p : Option Addr} (w : World) (h : Non w p) (n : Int) : Calls Try.prog 31 #[.pointer p, .int .i64 n] w fun e' w' => e' = .returned (.tuple #[]) ∧ Below w.heap.size w w' := by
  go_enter Try.func31, Try.ntmps31
  go_wp2_with fail
  with_reducible refine Calls.mono (none_non _ h) ?_
  rintro e1 w1 ⟨rfl, rfl⟩
  go_wp2_with fail
  first | go_end0 | refine bodyPost_ret (results_none rfl _ _ _) rfl ?_
  exact ⟨rfl, Below.refl _ _⟩
set_option maxRecDepth 100000 in
theorem poweredN {p : Option Addr} (w : World) (k : Nat) (caps : Array Value) (h : Non w p) :
    Calls Try.prog 60 #[.pointer p, .func (.func k) #[] caps] w fun e' w' => e' = .returned (.int .i64 1) ∧ Below w.heap.size w w' := by
  have hmf : ∀ (fn : Fn) (first cap : Array Value) (w : World), (Instr.makeFunc fn first cap).run Try.prog w = .ok (.func fn first cap) w := fun _ _ _ _ => rfl
  go_enter_defers Try.func60, Try.ntmps60
  go_wp2_with fail
  with_reducible refine Calls.mono (none_non _ (h.below (balloc (Below.refl _ _) _))) ?_
  rintro e1 w1 ⟨rfl, rfl⟩
  go_wp2_with fail
  refine leaves_cons (f := 78) (args := #[.pointer (some ⟨w.heap.size, 0, none⟩)]) (by simp) (by simp [go_sem]) ?_
  refine (catch_idle _ _).mono ?_
  rintro e u' w'' ⟨rfl, rfl, rfl⟩
  simp [Leaves, settle, results, Try.results60, go_sem]
  repeat (first | exact Below.refl _ _ | refine bset ?_ (by simp) _ | refine balloc ?_ _)
set_option maxRecDepth 100000 in
theorem appN {p : Option Addr} {A : Option Addr} {n c : Nat} (w : World) (h : Non w p) : Calls Try.prog 23 #[.pointer p, .slice A n c] w fun e' w' => e' = .returned (.int .i64 1) ∧ Below w.heap.size w w' := by
  have hmf : ∀ (fn : Fn) (first cap : Array Value) (w : World), (Instr.makeFunc fn first cap).run Try.prog w = .ok (.func fn first cap) w := fun _ _ _ _ => rfl
  go_enter Try.func23, Try.ntmps23
  go_wp2_with fail
  with_reducible refine Calls.mono (poweredN _ _ _ (h.below (balloc (balloc (Below.refl _ _) _) _))) ?_
  rintro e1 w1 ⟨rfl, hb1⟩
  go_wp2_with fail
  go_ret
  exact ⟨rfl, bstep (balloc (balloc (Below.refl _ _) _) _) hb1⟩
set_option maxRecDepth 100000 in
theorem syncN {p : Option Addr} (w : World) (h : Non w p) : Calls Try.prog 29 #[.pointer p] w fun e' w' => e' = .returned (.int .i64 1) ∧ Below w.heap.size w w' := by
  have hmf : ∀ (fn : Fn) (first cap : Array Value) (w : World), (Instr.makeFunc fn first cap).run Try.prog w = .ok (.func fn first cap) w := fun _ _ _ _ => rfl
  go_enter Try.func29, Try.ntmps29
  go_wp2_with fail
  with_reducible refine Calls.mono (poweredN _ _ _ (h.below (balloc (Below.refl _ _) _))) ?_
  rintro e1 w1 ⟨rfl, hb1⟩
  go_wp2_with fail
  go_ret
  exact ⟨rfl, bstep (balloc (Below.refl _ _) _) hb1⟩
set_option maxRecDepth 100000 in
theorem cutN {p : Option Addr} (w : World) (h : Non w p) (n : Int) : Calls Try.prog 30 #[.pointer p, .int .i64 n] w fun e' w' => e' = .returned (.int .i64 1) ∧ Below w.heap.size w w' := by
  have hmf : ∀ (fn : Fn) (first cap : Array Value) (w : World), (Instr.makeFunc fn first cap).run Try.prog w = .ok (.func fn first cap) w := fun _ _ _ _ => rfl
  go_enter Try.func30, Try.ntmps30
  go_wp2_with fail
  with_reducible refine Calls.mono (poweredN _ _ _ (h.below (balloc (balloc (Below.refl _ _) _) _))) ?_
  rintro e1 w1 ⟨rfl, hb1⟩
  go_wp2_with fail
  go_ret
  exact ⟨rfl, bstep (balloc (balloc (Below.refl _ _) _) _) hb1⟩
set_option maxRecDepth 100000 in
set_option maxHeartbeats 1000000 in
theorem doN {p A : Option Addr} {m c : Nat} {wh n : Int} (w : World) (h : Non w p) (hw : 0 ≤ wh ∧ wh ≤ 255) :
    Calls Try.prog 35 #[.pointer p, .agg #[.int .u8 wh, .slice A m c, .int .i64 n]] w fun e' w' => e' = .returned (.int .i64 (if 2 < wh % 5 then 0 else 1)) ∧ Below w.heap.size w w' := by
  have hbw : Below w.heap.size w (w.alloc (.cells #[.int .u8 wh, .slice A m c, .int .i64 n] 52)) := balloc (Below.refl _ w) _
  have hc : wh % 5 = 0 ∨ wh % 5 = 1 ∨ wh % 5 = 2 ∨ wh % 5 = 3 ∨ wh % 5 = 4 := by omega
  rcases hc with hm | hm | hm | hm | hm
  · rw [show (if 2 < wh % 5 then (0 : Int) else 1) = 1 from by rw [hm]; decide]
    go_enter Try.func35, Try.ntmps35
    go_wp2_with fail
    with_reducible refine Calls.mono (appN _ (h.below hbw)) ?_
    rintro e1 w1 ⟨rfl, hb1⟩
    go_wp2_with fail
    go_ret
    exact ⟨rfl, bstep hbw hb1⟩
  · rw [show (if 2 < wh % 5 then (0 : Int) else 1) = 1 from by rw [hm]; decide]
    go_enter Try.func35, Try.ntmps35
    go_wp2_with fail
    with_reducible refine Calls.mono (syncN _ (h.below hbw)) ?_
    rintro e1 w1 ⟨rfl, hb1⟩
    go_wp2_with fail
    go_ret
    exact ⟨rfl, bstep hbw hb1⟩
  · rw [show (if 2 < wh % 5 then (0 : Int) else 1) = 1 from by rw [hm]; decide]
    go_enter Try.func35, Try.ntmps35
    go_wp2_with fail
    with_reducible refine Calls.mono (cutN _ (h.below hbw) n) ?_
    rintro e1 w1 ⟨rfl, hb1⟩
    go_wp2_with fail
    go_ret
    exact ⟨rfl, bstep hbw hb1⟩
  · rw [show (if 2 < wh % 5 then (0 : Int) else 1) = 0 from by rw [hm]; decide]
    go_enter Try.func35, Try.ntmps35
    go_wp2_with fail
    with_reducible refine Calls.mono (sparksN _ (h.below hbw) n) ?_
    rintro e1 w1 ⟨rfl, hb1⟩
    go_wp2_with fail
    go_ret
    exact ⟨rfl, bstep hbw hb1⟩
  · rw [show (if 2 < wh % 5 then (0 : Int) else 1) = 0 from by rw [hm]; decide]
    go_enter Try.func35, Try.ntmps35
    go_wp2_with fail
    with_reducible refine Calls.mono (crashN _ (h.below hbw) n) ?_
    rintro e1 w1 ⟨rfl, hb1⟩
    go_wp2_with fail
    go_ret
    exact ⟨rfl, bstep hbw hb1⟩
end Go.Proofs.Ythgaphfelpnclaa
