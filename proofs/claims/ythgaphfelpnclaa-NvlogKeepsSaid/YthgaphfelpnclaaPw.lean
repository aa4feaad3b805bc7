/- The disk's words: what is written and what stays; a function that is done till the power goes. -/
import Derived.Test.YthgaphfelpnclaaProg
import Derived.Test.YthgaphfelpnclaaK
import Derived.Defers
import Derived.Recover
set_option linter.unusedVariables false
set_option linter.unusedSimpArgs false
namespace Go.Proofs.Ythgaphfelpnclaa
open Go.RowKit

/-- But for block B all that was there is as it was. -/
structure Only (B : Nat) (w w' : World) : Prop where
  os : w'.os = w.os
  tape : w'.tape = w.tape
  output : w'.output = w.output
  size : w.heap.size ≤ w'.heap.size
  block : ∀ k, k < w.heap.size → k ≠ B → w'.heap[k]? = w.heap[k]?
theorem Only.refl (B : Nat) (w : World) : Only B w w := ⟨rfl, rfl, rfl, Nat.le_refl _, fun _ _ _ => rfl⟩
theorem Only.trans {B : Nat} {a b c : World} (h : Only B a b) (k : Only B b c) : Only B a c :=
  ⟨k.os.trans h.os, k.tape.trans h.tape, k.output.trans h.output, Nat.le_trans h.size k.size, fun i hi hB => (k.block i (Nat.lt_of_lt_of_le hi h.size) hB).trans (h.block i hi hB)⟩
theorem Only.of_below {B : Nat} {w w' : World} (h : Below w.heap.size w w') : Only B w w' := ⟨h.os, h.tape, h.output, h.size, fun k hk _ => h.block k hk⟩
theorem Only.set {B : Nat} {w W : World} (h : Only B w W) {p : Addr} (hp : p.block = B) (u : Value) : Only B w (W.setCell p u) :=
  h.trans ⟨rfl, rfl, rfl, by simp [World.setCell], fun k _ hB => Below.heap_setCell _ _ _ _ (by omega)⟩
theorem Only.drew {B : Nat} {w W : World} (h : Only B w W) : Only B w W.drew := h.trans ⟨rfl, rfl, rfl, Nat.le_refl _, fun _ _ _ => rfl⟩
theorem Only.step {B : Nat} {w W w1 : World} (h : Only B w W) (hb : Below W.heap.size W w1) : Only B w w1 := h.trans (.of_below hb)
/-- A queue that the call itself has made may be written. -/
theorem Only.toBelow {B : Nat} {w W w1 : World} (h : Below w.heap.size w W) (hB : w.heap.size ≤ B) (ho : Only B W w1) : Below w.heap.size w w1 :=
  h.trans ⟨ho.os, ho.tape, ho.output, ho.size, fun k hk => ho.block k (Nat.lt_of_lt_of_le hk h.size) (by omega)⟩
theorem Only.keep {B : Nat} {W w1 : World} (hb : Only B W w1) {b o : Nat} {v : Value} (h : W.cell? ⟨b, o, none⟩ = some v) (hB : b ≠ B) : w1.cell? ⟨b, o, none⟩ = some v := by
  rw [World.cell?_of_block (w := W) (a := ⟨b, o, none⟩) (hb.block b (cell_lt h) hB)]; exact h
theorem Only.keepF {B : Nat} {W w1 : World} (hb : Only B W w1) {b o : Nat} (v : Value) (h : W.cell? ⟨b, o, none⟩ = some v) (hf : W.frozen? ⟨b, o, none⟩ = false) (hB : b ≠ B) : w1.frozen? ⟨b, o, none⟩ = false := by
  rw [World.frozen?_of_block (w := W) (a := ⟨b, o, none⟩) (hb.block b (cell_lt h) hB)]; exact hf




/-- But for the disk's own block B and its row (v's; then v2's, which is v's or new) all that was there is as it was. -/
structure Step (B : Nat) (v v2 : Value) (w w2 : World) : Prop where
  os : w2.os = w.os
  tape : w2.tape = w.tape
  output : w2.output = w.output
  size : w.heap.size ≤ w2.heap.size
  block : ∀ k, k < w.heap.size → k ≠ B → some k ≠ v.ownBlock → w2.heap[k]? = w.heap[k]?
  fresh : ∀ k, k < w.heap.size → some k = v2.ownBlock → some k = v.ownBlock
theorem Step.refl (B : Nat) (v : Value) (w : World) : Step B v v w w := ⟨rfl, rfl, rfl, Nat.le_refl _, fun _ _ _ _ => rfl, fun _ _ h => h⟩
theorem Step.trans {B : Nat} {v v2 v3 : Value} {a b c : World} (h : Step B v v2 a b) (k : Step B v2 v3 b c) : Step B v v3 a c :=
  ⟨k.os.trans h.os, k.tape.trans h.tape, k.output.trans h.output, Nat.le_trans h.size k.size,
   fun i hi hB hv => (k.block i (Nat.lt_of_lt_of_le hi h.size) hB (fun e => hv (h.fresh i hi e))).trans (h.block i hi hB hv),
   fun i hi e => h.fresh i hi (k.fresh i (Nat.lt_of_lt_of_le hi h.size) e)⟩
theorem Step.of_below {B : Nat} {v : Value} {w w2 : World} (h : Below w.heap.size w w2) : Step B v v w w2 := ⟨h.os, h.tape, h.output, h.size, fun k hk _ _ => h.block k hk, fun _ _ e => e⟩
theorem Step.below {B : Nat} {v v2 : Value} {w w2 w3 : World} (h : Step B v v2 w w2) (k : Below w2.heap.size w2 w3) : Step B v v2 w w3 := h.trans (.of_below k)
theorem Step.toBelow {B b0 : Nat} {v v2 : Value} {w0 w w2 : World} (h : Below b0 w0 w) (hb : b0 ≤ w0.heap.size) (hB : b0 ≤ B) (hv : ∀ k, v.ownBlock = some k → b0 ≤ k) (s : Step B v v2 w w2) : Below b0 w0 w2 :=
  h.trans ⟨s.os, s.tape, s.output, s.size, fun k hk => s.block k (by have := h.size; omega) (by omega) (fun e => by have := hv k e.symm; omega)⟩
theorem Step.cell {B : Nat} {v v2 : Value} {w w2 : World} (s : Step B v v2 w w2) {b o : Nat} {u : Value} (h : w.cell? ⟨b, o, none⟩ = some u) (hB : b ≠ B) (hv : some b ≠ v.ownBlock) : w2.cell? ⟨b, o, none⟩ = some u := by
  rw [World.cell?_of_block (w := w) (a := ⟨b, o, none⟩) (s.block b (cell_lt h) hB hv)]; exact h
theorem Step.frozen {B : Nat} {v v2 : Value} {w w2 : World} (s : Step B v v2 w w2) {b o : Nat} {u : Value} (h : w.cell? ⟨b, o, none⟩ = some u) (hf : w.frozen? ⟨b, o, none⟩ = false) (hB : b ≠ B) (hv : some b ≠ v.ownBlock) : w2.frozen? ⟨b, o, none⟩ = false := by
  rw [World.frozen?_of_block (w := w) (a := ⟨b, o, none⟩) (s.block b (cell_lt h) hB hv)]; exact hf
/-- A store into the disk's own block. -/
theorem Step.set {B : Nat} {v v2 : Value} {w w2 : World} (s : Step B v v2 w w2) {p : Addr} (hp : p.block = B) (u : Value) : Step B v v2 w (w2.setCell p u) :=
  s.trans ⟨rfl, rfl, rfl, by simp, fun k _ hB _ => Below.heap_setCell _ _ _ _ (by omega), fun _ _ e => e⟩
/-- A store into a block that is none of the old ones. -/
theorem Step.setNew {B : Nat} {v v2 : Value} {w w2 : World} (s : Step B v v2 w w2) {p : Addr} (hp : w.heap.size ≤ p.block) (u : Value) : Step B v v2 w (w2.setCell p u) :=
  ⟨s.os, s.tape, s.output, by simpa using s.size, fun k hk hB hv => (Below.heap_setCell _ _ _ _ (by omega)).trans (s.block k hk hB hv), s.fresh⟩
theorem Step.only {B e : Nat} {v v2 : Value} {w w2 w3 : World} (s : Step B v v2 w w2) (o : Only e w2 w3) (he : w.heap.size ≤ e) : Step B v v2 w w3 :=
  ⟨o.os.trans s.os, o.tape.trans s.tape, o.output.trans s.output, Nat.le_trans s.size o.size, fun k hk hB hv => (o.block k (Nat.lt_of_lt_of_le hk s.size) (by omega)).trans (s.block k hk hB hv), s.fresh⟩
/-- What was made within stays within. -/
theorem Step.alloc0 {B : Nat} {v v2 : Value} {w w1 w2 : World} (hb : Below w.heap.size w w1) (hv : ∀ k, v.ownBlock = some k → k < w.heap.size) (s : Step B v v2 w1 w2) : Step B v v2 w w2 := (Step.of_below hb).trans s

set_option maxRecDepth 100000 in
theorem catch_dark (pb : Nat) (x : Int) (older : List PanicEntry) (w : World) (hc : w.cell? ⟨pb, 0, none⟩ = some (.int .i64 x)) (hz : w.frozen? ⟨pb, 0, none⟩ = false) :
    CallsD Try.prog 78 #[.pointer (some ⟨pb, 0, none⟩)] (.panicking ({ v := .iface 125 (.agg #[]), recovered := false } :: older)) w fun e u' w' =>
      e = .returned (.tuple #[]) ∧ u' = .panicking ({ v := .iface 125 (.agg #[]), recovered := true } :: older) ∧ w' = (w.setCell ⟨pb, 0, none⟩ (.int .i64 6)).alloc (.cells #[] 125) := by
  refine callsD_of_wpS Try.func78 rfl fun c₀ cs hu => ?_
  have zp := cell_lt hc
  apply wpS_seq
  apply wpS_region
  simp [wpOpsS, go_sem, recoverD, hu, Try.ntmps78, Exit.thenS]
  have hta : ∀ w, (Instr.typeAssert (.iface 125 (.agg #[])) 20 125 true).run Try.prog w = .ok (.tuple #[.agg #[], .bool true]) w := fun _ => by kernel_rfl
  refine wpS_of_wp ?_
  rw [show #[Value.pointer (some ⟨pb, 0, none⟩)] ++ (Array.replicate 9 undef).setIfInBounds 3 (Value.iface 125 (Value.agg #[])) = #[Value.pointer (some ⟨pb, 0, none⟩), undef, undef, undef, Value.iface 125 (Value.agg #[]), undef, undef, undef, undef, undef] from rfl]
  go_wp2_with fail
  exact ⟨rfl, .panicking ({ v := .iface 125 (.agg #[]), recovered := true } :: older), by cases c₀; simp_all, .tuple #[], by simp [results, Try.results78, go_sem], rfl, rfl, rfl⟩
theorem catch_idle (p : Addr) (w : World) :
    CallsD Try.prog 78 #[.pointer (some p)] .returning w fun e u' w' => e = .returned (.tuple #[]) ∧ u' = .returning ∧ w' = w := by
  refine callsD_of_wpS Try.func78 rfl fun c₀ cs hu => ?_
  apply wpS_seq
  apply wpS_region
  simp [wpOpsS, go_sem, recoverD, hu, Try.ntmps78, Exit.thenS]
  refine wpS_of_wp ?_
  rw [show #[Value.pointer (some p)] ++ (Array.replicate 9 undef).setIfInBounds 3 Value.nilIface = #[Value.pointer (some p), undef, undef, undef, Value.nilIface, undef, undef, undef, undef, undef] from rfl]
  go_wp2_with fail
  exact ⟨rfl, .returning, by cases c₀; simp_all, .tuple #[], by simp [results, Try.results78, go_sem], rfl, rfl, rfl⟩
theorem none_made (w : World) (B : Nat) (c0 : w.cell? ⟨B, 0, none⟩ = some (.bool true)) :
    Calls Try.prog 63 #[.pointer (some ⟨B, 0, none⟩)] w fun e' w' => e' = .returned (.bool false) ∧ w' = w := by
  go_enter Try.func63, Try.ntmps63
  go_wp2_with fail
  go_ret
  exact ⟨rfl, rfl⟩
def dark : List PanicEntry := [{ v := .iface 125 (.agg #[]), recovered := false }]
set_option maxRecDepth 100000 in
theorem powered_on (w : World) (B : Nat) (k : Nat) (caps : Array Value) (c0 : w.cell? ⟨B, 0, none⟩ = some (.bool true)) (c5 : w.cell? ⟨B, 5, none⟩ = some (.bool false)) (R : Int → World → Prop) (hk : ∀ w, (callFunc k caps).run Try.prog w = .ok (.enter k caps) w)
    (h : ∀ w0, w0 = w.alloc (.cells #[.int .i64 0] 35) → Calls Try.prog k caps w0 fun e w' => ∃ x, w'.cell? ⟨w.heap.size, 0, none⟩ = some (.int .i64 0) ∧ w'.frozen? ⟨w.heap.size, 0, none⟩ = false ∧ R x w' ∧ ((e = .panicked dark ∧ x = 6) ∨ e = .returned (.int .i64 x))) :
    Calls Try.prog 60 #[.pointer (some ⟨B, 0, none⟩), .func (.func k) #[] caps] w fun e' w' => ∃ x w1, e' = .returned (.int .i64 x) ∧ R x w1 ∧ Only w.heap.size w1 w' := by
  have hmf : ∀ (fn : Fn) (first cap : Array Value) (w : World), (Instr.makeFunc fn first cap).run Try.prog w = .ok (.func fn first cap) w := fun _ _ _ _ => rfl
  have zB := cell_lt c0
  go_enter_defers Try.func60, Try.ntmps60
  go_wp2_with fail
  with_reducible refine (none_made _ B (by go_simp)).mono ?_
  rintro e1 w1 ⟨rfl, rfl⟩
  go_wp2_with fail
  with_reducible refine (h _ rfl).mono ?_
  rintro e2 w2 ⟨x, ce, fe, hR, he⟩
  rcases he with ⟨rfl, rfl⟩ | rfl
  · unfold dark
    go_wp2_with fail
    refine leaves_cons (f := 78) (args := #[.pointer (some ⟨w.heap.size, 0, none⟩)]) (by simp) (by simp [go_sem]) ?_
    refine (catch_dark _ _ _ _ ce fe).mono ?_
    rintro e u' w'' ⟨rfl, rfl, rfl⟩
    have zw2 := cell_lt ce
    have cc : ((w2.setCell ⟨w.heap.size, 0, none⟩ (.int .i64 6)).alloc (.cells #[] 125)).cell? ⟨w.heap.size, 0, none⟩ = some (.int .i64 6) := by go_simp
    simp [Leaves, settle, results, Try.results60, go_sem, cc]
    exact ⟨w2, hR, ((Only.refl w.heap.size w2).set (p := ⟨w.heap.size, 0, none⟩) rfl _).step ((Below.refl _ _).alloc (by simp) _)⟩
  · have zw2 := cell_lt ce
    go_wp2_with fail
    refine leaves_cons (f := 78) (args := #[.pointer (some ⟨w.heap.size, 0, none⟩)]) (by simp) (by simp [go_sem]) ?_
    refine (catch_idle _ _).mono ?_
    rintro e u' w'' ⟨rfl, rfl, rfl⟩
    have cc : (w2.setCell ⟨w.heap.size, 0, none⟩ (.int .i64 x)).cell? ⟨w.heap.size, 0, none⟩ = some (.int .i64 x) := by go_simp
    simp [Leaves, settle, results, Try.results60, go_sem, cc]
    exact ⟨w2, hR, (Only.refl w.heap.size w2).set (p := ⟨w.heap.size, 0, none⟩) rfl _⟩
end Go.Proofs.Ythgaphfelpnclaa
