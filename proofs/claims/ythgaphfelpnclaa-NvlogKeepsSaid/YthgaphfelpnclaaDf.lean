/- The disk in sequences: its methods with their results written out; rows of bytes that are literals; Same. -/
import Derived.Test.YthgaphfelpnclaaDe
import Derived.Laws.BytesArg
set_option linter.unusedVariables false
set_option linter.unusedSimpArgs false
namespace Go.Proofs.Ythgaphfelpnclaa
open Go.RowKit

theorem DS.toBelow {w0 w w2 : World} {base B : Nat} {v v2 : Value} {d : Dsk} (h : DS w base B v d) (hw : w0.heap.size ≤ base) (hS : Below w0.heap.size w0 w) (s : Step B v v2 w w2) : Below w0.heap.size w0 w2 :=
  Step.toBelow hS (Nat.le_refl _) (by have := h.lo; omega) (fun k hk => by have := h.vlo k hk; omega) s
theorem DS.apart_new {w : World} {base B : Nat} {v : Value} {d : Dsk} (h : DS w base B v d) (k n c o : Nat) (hk : w.heap.size ≤ k) : Apart B v (.slice (some ⟨k, o, none⟩) n c) := by
  intro b hb
  simp [Value.ownBlock] at hb
  subst hb
  exact ⟨by have := h.lt; omega, fun e => by have := h.vlt _ e.symm; omega⟩
theorem DS.apart_old {w : World} {base B : Nat} {v u : Value} {d : Dsk} (h : DS w base B v d) (hu : ∀ k, u.ownBlock = some k → k < base) : Apart B v u := by
  intro b hb
  have h1 := hu b hb
  exact ⟨by have := h.lo; omega, fun e => by have := h.vlo _ e.symm; omega⟩
theorem DS.apart_in {W w : World} {base B : Nat} {v u : Value} {d : Dsk} {ls : List Int} (h : DS w base B v d) (hW : W.heap.size ≤ base) (hu : BAt W u ls) : ls ≠ [] → Apart B v u :=
  fun h0 => h.apart_old fun k hk => by have := hu.lt h0 k hk; omega
theorem bat_lit (w : World) (ls : List Int) (hn : ls.length ≤ 262144) : BAt (w.alloc (.cells (u8s ls).toArray 5)) (.slice (some ⟨w.heap.size, 0, none⟩) ls.length ls.length) ls := by
  refine ⟨_, _, rfl, Nat.le_refl _, by unfold maxLen; omega, fun i hi => ⟨_, _, rfl, ?_⟩⟩
  rw [Nat.zero_add]
  have e : (w.alloc (.cells (u8s ls).toArray 5)).heap[w.heap.size]? = some (.cells (u8s ls).toArray 5) := heap_alloc_new w _
  simp only [World.cell?, e]
  simp [u8s, List.getD, hi]
theorem appE {base B : Nat} {v u : Value} {d d2 : Dsk} {ls : List Int} {r : Int} (w : World) (h : DS w base B v d) (hu : BAt w u ls) (ha : ls ≠ [] → Apart B v u) (e : d.app ls = (d2, r)) :
    Calls Try.prog 23 #[.pointer (some ⟨B, 0, none⟩), u] w fun e' w' => ∃ v2, e' = .returned (.int .i64 r) ∧ DS w' base B v2 d2 ∧ Step B v v2 w w' := by
  have := appD w h hu ha
  rw [e] at this
  exact this
theorem syncE {base B : Nat} {v : Value} {d d2 : Dsk} {r : Int} (w : World) (h : DS w base B v d) (e : d.sync = (d2, r)) :
    Calls Try.prog 29 #[.pointer (some ⟨B, 0, none⟩)] w fun e' w' => ∃ v2, e' = .returned (.int .i64 r) ∧ DS w' base B v2 d2 ∧ Step B v v2 w w' := by
  have := syncD w h
  rw [e] at this
  exact this
theorem cutE {base B : Nat} {v : Value} {d d2 : Dsk} {r : Int} (w : World) (h : DS w base B v d) (n : Int) (e : d.cut n = (d2, r)) :
    Calls Try.prog 30 #[.pointer (some ⟨B, 0, none⟩), .int .i64 n] w fun e' w' => ∃ v2, e' = .returned (.int .i64 r) ∧ DS w' base B v2 d2 ∧ Step B v v2 w w' := by
  have := cutD w h n
  rw [e] at this
  exact this
theorem sparksE {base B : Nat} {v : Value} {d d2 : Dsk} (w : World) (h : DS w base B v d) (n : Int) (hn : n ≤ 9223372036854775807) (e : d.sparks n = d2) :
    Calls Try.prog 26 #[.pointer (some ⟨B, 0, none⟩), .int .i64 n] w fun e' w' => ∃ v2, e' = .returned (.tuple #[]) ∧ DS w' base B v2 d2 ∧ Step B v v2 w w' := by
  subst e
  exact (sparksD w h n hn).mono fun _ _ ⟨a, b, c⟩ => ⟨_, a, b, c⟩
theorem crashE {base B : Nat} {v : Value} {d d2 : Dsk} (w : World) (h : DS w base B v d) (n : Int) (e : d.crash n = d2) :
    Calls Try.prog 31 #[.pointer (some ⟨B, 0, none⟩), .int .i64 n] w fun e' w' => ∃ v2, e' = .returned (.tuple #[]) ∧ DS w' base B v2 d2 ∧ Step B v v2 w w' := by
  subst e
  exact crashD w h n
theorem BAt.conv {w : World} {v : Value} {ls : List Int} (h : BAt w v ls) : ∀ w', w'.heap = w.heap → (convert 24 9 v).run Try.prog w' = .ok (.string (strOfNums ls)) w' := by
  intro w' he
  obtain ⟨A, c, rfl, h2, h3, h4⟩ := h
  by_cases h0 : ls = []
  · subst h0
    cases A with
    | none => exact run_convert_bytes_nil w' 24 5 Try.underlying24 Try.underlying5 _ _ 9 Try.underlying9
    | some p =>
      rw [run_convert_bytes_string w' 24 9 5 _ _ c Try.underlying24 Try.underlying5 Try.underlying9]
      simp [Conv.bytesToString, loadCells, loadCellsFrom, strOfNums]
      rfl
  · obtain ⟨b, o, rfl, _⟩ := h4 0 (List.length_pos_iff.2 h0)
    refine run_convert_bytes_arg w' 24 5 Try.underlying24 Try.underlying5 b o ls.length c ls rfl (fun i hi => ?_) 9 Try.underlying9
    obtain ⟨b2, o2, e1, e2⟩ := h4 i hi
    simp only [Option.some.injEq, Addr.mk.injEq, and_true] at e1
    obtain ⟨rfl, rfl⟩ := e1
    have e3 : w'.cell? ⟨b, o + i, none⟩ = w.cell? ⟨b, o + i, none⟩ := by simp [World.cell?, he]
    rw [e3]
    exact e2
theorem same_true {v1 v2 : Value} {ls : List Int} (w : World) (h1 : BAt w v1 ls) (h2 : BAt w v2 ls) :
    Calls Try.prog 20 #[v1, v2] w fun e' w' => e' = .returned (.bool true) ∧ Below w.heap.size w w' := by
  have k1 := h1.conv
  have k2 := h2.conv
  have a1 := k1 w rfl
  have a2 := k2 w rfl
  have b1 := k1 w.drew rfl
  have b2 := k2 w.drew rfl
  obtain ⟨A, c, rfl, _⟩ := h1
  obtain ⟨A2, c2, rfl, _⟩ := h2
  go_enter Try.func20, Try.ntmps20
  go_wp2_with fail
  go_ret
  exact ⟨rfl, Below.refl _ _⟩
theorem safeE {base B : Nat} {v : Value} {d : Dsk} {r : Int} (w : World) (h : DS w base B v d) (e : (d.safe : Int) = r) :
    Calls Try.prog 32 #[.pointer (some ⟨B, 0, none⟩)] w fun e' w' => e' = .returned (.int .i64 r) ∧ Below w.heap.size w w' := by
  subst e; exact safeD w h
theorem lenE {base B : Nat} {v : Value} {d : Dsk} {r : Int} (w : World) (h : DS w base B v d) (e : (d.b.length : Int) = r) :
    Calls Try.prog 27 #[.pointer (some ⟨B, 0, none⟩)] w fun e' w' => e' = .returned (.int .i64 r) ∧ Below w.heap.size w w' := by
  subst e; exact lenD w h
theorem offE {base B : Nat} {v : Value} {d : Dsk} {r : Bool} (w : World) (h : DS w base B v d) (e : d.off = r) :
    Calls Try.prog 28 #[.pointer (some ⟨B, 0, none⟩)] w fun e' w' => e' = .returned (.bool r) ∧ Below w.heap.size w w' := by
  subst e; exact offD w h
theorem bytesE {base B : Nat} {v : Value} {d : Dsk} {ls : List Int} (w : World) (h : DS w base B v d) (e : d.b = ls) :
    Calls Try.prog 24 #[.pointer (some ⟨B, 0, none⟩)] w fun e' w' => ∃ v2, e' = .returned v2 ∧ w'.ownsRow w.heap.size 5 1 v2 ls.length (u8s ls) ∧ Below w.heap.size w w' := by
  subst e; exact bytesD w h
theorem newE {r : Int} (room : Nat) (w : World) (e : r = room) (hr : room ≤ 262144) :
    Calls Try.prog 21 #[.int .i64 r] w fun e' w' => e' = .returned (.tuple #[.pointer (some ⟨w.heap.size, 0, none⟩), .int .i64 0]) ∧ Below w.heap.size w w' ∧ DS w' w.heap.size w.heap.size (.slice none 0 0) ⟨[], 0, -1, false, room⟩ := by
  subst e; exact newD room w hr
end Go.Proofs.Ythgaphfelpnclaa
