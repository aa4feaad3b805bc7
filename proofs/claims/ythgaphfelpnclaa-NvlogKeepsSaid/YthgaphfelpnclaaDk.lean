/- The disk: what its cells hold; and its methods that only read, or write a cell. -/
import Derived.Test.YthgaphfelpnclaaPw
import Derived.OwnWalk
import Derived.Laws.NewBlocks
import Derived.Lib.SliceRun
set_option linter.unusedVariables false
set_option linter.unusedSimpArgs false
namespace Go.Proofs.Ythgaphfelpnclaa
open Go.RowKit

/-- A disk as the document has it. -/
structure Dsk where
  b : List Int
  safe : Nat
  left : Int
  off : Bool
  room : Nat
def u8s (l : List Int) : List Value := l.map (Value.int .u8)
theorem u8s_len (l : List Int) : (u8s l).length = l.length := by simp [u8s]
theorem u8s_append (a b : List Int) : u8s (a ++ b) = u8s a ++ u8s b := by simp [u8s]
theorem u8s_take (a : List Int) (n : Nat) : u8s (a.take n) = (u8s a).take n := by simp [u8s]
structure DS (w : World) (base B : Nat) (v : Value) (d : Dsk) : Prop where
  c0 : w.cell? ⟨B, 0, none⟩ = some (.bool true)
  c1 : w.cell? ⟨B, 1, none⟩ = some v
  c2 : w.cell? ⟨B, 2, none⟩ = some (.int .i64 d.room)
  c3 : w.cell? ⟨B, 3, none⟩ = some (.int .i64 d.safe)
  c4 : w.cell? ⟨B, 4, none⟩ = some (.int .i64 d.left)
  c5 : w.cell? ⟨B, 5, none⟩ = some (.bool d.off)
  fz : ∀ j, j < 6 → w.frozen? ⟨B, j, none⟩ = false
  own : w.ownsRow base 5 1 v d.b.length (u8s d.b)
  sep : some B ≠ v.ownBlock
  lo : base ≤ B
  hs : d.safe ≤ d.b.length
  hl : -1 ≤ d.left ∧ d.left ≤ 9223372036854775807
  hr : d.b.length ≤ d.room ∧ d.room ≤ 262144
theorem DS.lt {w : World} {base B : Nat} {v : Value} {d : Dsk} (h : DS w base B v d) : B < w.heap.size := cell_lt h.c0
theorem DS.hb {w : World} {base B : Nat} {v : Value} {d : Dsk} (h : DS w base B v d) : base ≤ w.heap.size := by have := h.lt; have := h.lo; omega
theorem DS.vlo {w : World} {base B : Nat} {v : Value} {d : Dsk} (h : DS w base B v d) : ∀ k, v.ownBlock = some k → base ≤ k := fun k hk => (h.own.lt k hk).1
theorem DS.vlt {w : World} {base B : Nat} {v : Value} {d : Dsk} (h : DS w base B v d) : ∀ k, v.ownBlock = some k → k < w.heap.size := fun k hk => (h.own.lt k hk).2
theorem own_below {w w' : World} {base e n : Nat} {v : Value} {xs : List Value} (h : w.ownsRow base e 1 v n xs) (hb : Below w.heap.size w w') : w'.ownsRow base e 1 v n xs :=
  h.kept (row := none) ⟨hb.os, hb.tape, hb.output, hb.size, fun k hk _ => hb.block k hk⟩ (by cases v.ownBlock <;> simp)
theorem own_step {w w' : World} {base e n B : Nat} {u v v2 : Value} {xs : List Value} (h : w.ownsRow base e 1 u n xs) (s : Step B v v2 w w') (hB : some B ≠ u.ownBlock) (hv : u.ownBlock = none ∨ u.ownBlock ≠ v.ownBlock) : w'.ownsRow base e 1 u n xs := by
  refine ⟨h.1, ?_⟩
  rcases h.2 with hn | ⟨g, cap, cur, rfl, hb, hg, r⟩
  · exact .inl hn
  · refine .inr ⟨g, cap, cur, rfl, hb, ?_, r⟩
    simp [Value.ownBlock] at hB hv
    rw [s.block g (Array.getElem?_eq_some_iff.1 hg).1 (by omega) hv]
    exact hg
theorem DS.below {w w' : World} {base B : Nat} {v : Value} {d : Dsk} (h : DS w base B v d) (hb : Below w.heap.size w w') : DS w' base B v d :=
  ⟨keep hb h.c0, keep hb h.c1, keep hb h.c2, keep hb h.c3, keep hb h.c4, keep hb h.c5, fun j hj => by rw [hb.frozen (p := ⟨B, j, none⟩) h.lt]; exact h.fz j hj, own_below h.own hb, h.sep, h.lo, h.hs, h.hl, h.hr⟩
theorem DS.only {w w' : World} {base B e : Nat} {v : Value} {d : Dsk} (h : DS w base B v d) (o : Only e w w') (he : e ≠ B) (hv : some e ≠ v.ownBlock) : DS w' base B v d := by
  have hB : B ≠ e := fun x => he x.symm
  refine ⟨o.keep h.c0 hB, o.keep h.c1 hB, o.keep h.c2 hB, o.keep h.c3 hB, o.keep h.c4 hB, o.keep h.c5 hB, fun j hj => ?_, ?_, h.sep, h.lo, h.hs, h.hl, h.hr⟩
  · rw [World.frozen?_of_block (w := w) (a := ⟨B, j, none⟩) (o.block B h.lt hB)]; exact h.fz j hj
  · refine h.own.kept (row := some e) ⟨o.os, o.tape, o.output, o.size, fun k hk hn => o.block k hk (fun x => hn (by rw [x]))⟩ ?_
    cases hvb : v.ownBlock with
    | none => exact .inl rfl
    | some k => exact .inr (fun x => hv (by rw [hvb, x]))
theorem cell_set {w : World} {B i k : Nat} {u v : Value} (h : w.cell? ⟨B, i, none⟩ = some u) : (w.setCell ⟨B, k, none⟩ v).cell? ⟨B, i, none⟩ = some (if i = k then v else u) := by
  by_cases e : i = k
  · subst e; rw [if_pos rfl]; exact World.cell?_setCell_same _ _ _ h
  · rw [if_neg e, World.cell?_setCell_other]
    · exact h
    · intro x; injection x with _ x2; exact e x2.symm
theorem own_setB {w : World} {base e n B k : Nat} {v u : Value} {xs : List Value} (h : w.ownsRow base e 1 v n xs) (hB : some B ≠ v.ownBlock) : (w.setCell ⟨B, k, none⟩ u).ownsRow base e 1 v n xs := by
  refine h.kept (row := some B) ⟨rfl, rfl, rfl, by simp, fun k hk hn => Below.heap_setCell _ _ _ _ (fun x => hn (by rw [x]))⟩ ?_
  cases hvb : v.ownBlock with
  | none => exact .inl rfl
  | some g => exact .inr (fun x => hB (by rw [hvb, x]))
/-- One of the disk's own cells is written. -/
theorem DS.set {w : World} {base B : Nat} {v : Value} {d d2 : Dsk} (h : DS w base B v d) (k : Nat) (u : Value) (hk : 2 ≤ k)
    (hb : d2.b = d.b) (e2 : Value.int .i64 d2.room = if 2 = k then u else .int .i64 d.room) (e3 : Value.int .i64 d2.safe = if 3 = k then u else .int .i64 d.safe) (e4 : Value.int .i64 d2.left = if 4 = k then u else .int .i64 d.left) (e5 : Value.bool d2.off = if 5 = k then u else .bool d.off)
    (hs : d2.safe ≤ d2.b.length) (hl : -1 ≤ d2.left ∧ d2.left ≤ 9223372036854775807) (hr : d2.b.length ≤ d2.room ∧ d2.room ≤ 262144) : DS (w.setCell ⟨B, k, none⟩ u) base B v d2 :=
  ⟨by rw [cell_set h.c0, if_neg (by omega)], by rw [cell_set h.c1, if_neg (by omega)], by rw [cell_set h.c2, e2], by rw [cell_set h.c3, e3], by rw [cell_set h.c4, e4], by rw [cell_set h.c5, e5],
   fun j hj => by rw [World.frozen?_setCell]; exact h.fz j hj, by rw [hb]; exact own_setB h.own h.sep, h.sep, h.lo, hs, hl, hr⟩

set_option maxRecDepth 100000 in
theorem newD (room : Nat) (w : World) (hr : room ≤ 262144) :
    Calls Try.prog 21 #[.int .i64 room] w fun e' w' => e' = .returned (.tuple #[.pointer (some ⟨w.heap.size, 0, none⟩), .int .i64 0]) ∧ Below w.heap.size w w' ∧ DS w' w.heap.size w.heap.size (.slice none 0 0) ⟨[], 0, -1, false, room⟩ := by
  have h1 : ¬ ((room : Int) < 0) := by omega
  have h2 : (room : Int) ≤ 262144 := by omega
  go_enter Try.func21, Try.ntmps21
  go_wp2_with fail
  refine bodyPost_ret (v := .tuple #[.pointer (some ⟨w.heap.size, 0, none⟩), .int .i64 0]) (by simp [results, Try.results21, go_sem, *]) rfl ⟨rfl, (by repeat (first | exact Below.refl _ _ | refine bset ?_ (by simp) _ | refine balloc ?_ _)), ?_⟩
  refine ⟨by go_simp, by go_simp, by go_simp, by go_simp, by go_simp, by go_simp, fun j hj => by go_simp, ⟨rfl, .inl ⟨rfl, rfl⟩⟩, by simp [Value.ownBlock], Nat.le_refl _, by simp, by simp, by simp; omega⟩
theorem newD_bad (room : Int) (w : World) (hr : room < 0 ∨ 262144 < room) :
    Calls Try.prog 21 #[.int .i64 room] w fun e' w' => e' = .returned (.tuple #[.pointer none, .int .i64 2]) ∧ Below w.heap.size w w' := by
  go_enter Try.func21, Try.ntmps21
  by_cases h1 : room < 0
  · go_wp2_with fail
    exact bodyPost_ret (v := .tuple #[.pointer none, .int .i64 2]) (by simp [results, Try.results21, go_sem, *]) rfl ⟨rfl, Below.refl _ _⟩
  · have h2 : 262144 < room := by omega
    go_wp2_with fail
    exact bodyPost_ret (v := .tuple #[.pointer none, .int .i64 2]) (by simp [results, Try.results21, go_sem, *]) rfl ⟨rfl, Below.refl _ _⟩
theorem lenD {base B : Nat} {v : Value} {d : Dsk} (w : World) (h : DS w base B v d) :
    Calls Try.prog 27 #[.pointer (some ⟨B, 0, none⟩)] w fun e' w' => e' = .returned (.int .i64 d.b.length) ∧ Below w.heap.size w w' := by
  have c0 := h.c0
  have c1 := h.c1
  obtain ⟨A, cp, hv⟩ : ∃ A cp, v = .slice A d.b.length cp := by
    rcases h.own.2 with ⟨rfl, h0⟩ | ⟨g, cap, cur, rfl, _⟩
    · exact ⟨_, _, by rw [h0]⟩
    · exact ⟨_, _, rfl⟩
  subst hv
  have hlen := h.hr
  go_enter Try.func27, Try.ntmps27
  go_wp2_with fail
  with_reducible refine (none_made _ B (by go_simp)).mono ?_
  rintro e1 w1 ⟨rfl, rfl⟩
  go_wp2_with fail
  go_ret
  exact ⟨rfl, Below.refl _ _⟩
theorem safeD {base B : Nat} {v : Value} {d : Dsk} (w : World) (h : DS w base B v d) :
    Calls Try.prog 32 #[.pointer (some ⟨B, 0, none⟩)] w fun e' w' => e' = .returned (.int .i64 d.safe) ∧ Below w.heap.size w w' := by
  have c0 := h.c0
  have c3 := h.c3
  go_enter Try.func32, Try.ntmps32
  go_wp2_with fail
  with_reducible refine (none_made _ B (by go_simp)).mono ?_
  rintro e1 w1 ⟨rfl, rfl⟩
  go_wp2_with fail
  go_ret
  exact ⟨rfl, Below.refl _ _⟩
theorem roomD {base B : Nat} {v : Value} {d : Dsk} (w : World) (h : DS w base B v d) :
    Calls Try.prog 36 #[.pointer (some ⟨B, 0, none⟩)] w fun e' w' => e' = .returned (.int .i64 d.room) ∧ Below w.heap.size w w' := by
  have c0 := h.c0
  have c2 := h.c2
  go_enter Try.func36, Try.ntmps36
  go_wp2_with fail
  with_reducible refine (none_made _ B (by go_simp)).mono ?_
  rintro e1 w1 ⟨rfl, rfl⟩
  go_wp2_with fail
  go_ret
  exact ⟨rfl, Below.refl _ _⟩
theorem offD {base B : Nat} {v : Value} {d : Dsk} (w : World) (h : DS w base B v d) :
    Calls Try.prog 28 #[.pointer (some ⟨B, 0, none⟩)] w fun e' w' => e' = .returned (.bool d.off) ∧ Below w.heap.size w w' := by
  have c0 := h.c0
  have c5 := h.c5
  go_enter Try.func28, Try.ntmps28
  go_wp2_with fail
  with_reducible refine (none_made _ B (by go_simp)).mono ?_
  rintro e1 w1 ⟨rfl, rfl⟩
  go_wp2_with fail
  go_ret
  exact ⟨rfl, Below.refl _ _⟩
def Dsk.sparks (d : Dsk) (n : Int) : Dsk := { d with left := max n (-1) }
theorem sparksD {base B : Nat} {v : Value} {d : Dsk} (w : World) (h : DS w base B v d) (n : Int) (hn : n ≤ 9223372036854775807) :
    Calls Try.prog 26 #[.pointer (some ⟨B, 0, none⟩), .int .i64 n] w fun e' w' => e' = .returned (.tuple #[]) ∧ DS w' base B v (d.sparks n) ∧ Step B v v w w' := by
  have c0 := h.c0
  have c4 := h.c4
  have f4 := h.fz 4 (by decide)
  go_enter Try.func26, Try.ntmps26
  go_wp2_with fail
  with_reducible refine (none_made _ B (by go_simp)).mono ?_
  rintro e1 w1 ⟨rfl, rfl⟩
  go_wp2_with fail
  go_end0
  refine ⟨rfl, h.set 4 _ (by decide) rfl (by simp [Dsk.sparks]) (by simp [Dsk.sparks]) (by simp [Dsk.sparks]) (by simp [Dsk.sparks]) h.hs (by simp only [Dsk.sparks]; omega) h.hr, (Step.refl B v w1).set (p := ⟨B, 4, none⟩) rfl _⟩
def Dsk.dec (d : Dsk) : Dsk := { d with left := if d.left < 0 then d.left else d.left - 1 }
def Dsk.dark (d : Dsk) : Dsk := { d with off := true }
theorem spark_ok {base B : Nat} {v : Value} {d : Dsk} (w : World) (h : DS w base B v d) (hn : d.left ≠ 0) :
    Calls Try.prog 62 #[.pointer (some ⟨B, 0, none⟩)] w fun e' w' => e' = .returned (.tuple #[]) ∧ DS w' base B v d.dec ∧ Step B v v w w' := by
  have c4 := h.c4
  have f4 := h.fz 4 (by decide)
  have hl := h.hl
  have hz : (d.left == 0) = false := by simpa using hn
  go_enter Try.func62, Try.ntmps62
  by_cases hp : 0 < d.left
  · have hw : IntKind.i64.wrap (d.left - 1) = d.left - 1 := IntWalk.i64_in _ (by omega)
    go_wp2_with fail
    go_end0
    refine ⟨rfl, ?_, (Step.refl B v w).set (p := ⟨B, 4, none⟩) rfl _⟩
    have hd : ¬ d.left < 0 := by omega
    exact h.set 4 _ (by decide) rfl (by simp [Dsk.dec]) (by simp [Dsk.dec]) (by simp [Dsk.dec, hd]) (by simp [Dsk.dec]) h.hs (by simp only [Dsk.dec, if_neg hd]; omega) h.hr
  · go_wp2_with fail
    go_end0
    have hd : d.left < 0 := by omega
    have he : d.dec = d := by simp [Dsk.dec, hd]
    rw [he]
    exact ⟨rfl, h, Step.refl _ _ _⟩
theorem spark_dark {base B : Nat} {v : Value} {d : Dsk} (w : World) (h : DS w base B v d) (hn : d.left = 0) :
    Calls Try.prog 62 #[.pointer (some ⟨B, 0, none⟩)] w fun e' w' => e' = .panicked dark ∧ DS w' base B v d.dark ∧ Step B v v w w' := by
  have c4 := h.c4
  rw [hn] at c4
  have c5 := h.c5
  have f5 := h.fz 5 (by decide)
  go_enter Try.func62, Try.ntmps62
  go_wp2_with fail
  refine ⟨rfl, rfl, ?_, (Step.refl B v w).set (p := ⟨B, 5, none⟩) rfl _⟩
  exact h.set 5 _ (by decide) rfl (by simp [Dsk.dark]) (by simp [Dsk.dark]) (by simp [Dsk.dark]) (by simp [Dsk.dark]) h.hs h.hl h.hr
end Go.Proofs.Ythgaphfelpnclaa
