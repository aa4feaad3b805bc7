/- The log: the record that bytes begin with. -/
import Derived.Test.YthgaphfelpnclaaNc
import Derived.Test.YthgaphfelpnclaaSl
set_option linter.unusedVariables false
set_option linter.unusedSimpArgs false
namespace Go.Proofs.Ythgaphfelpnclaa
open Go.RowKit
theorem numberE {v : Value} {ls : List Int} {r : Int} (w : World) (h : BAt w v ls) (hu : U8s ls) (hl : 4 ≤ ls.length) (e : num4 ls = r) : Calls Try.prog 76 #[v] w fun e' w' => e' = .returned (.int .u32 r) ∧ Below w.heap.size w w' := by
  subst e; exact numberD w h hu hl
theorem u8s_drop {ls : List Int} (h : U8s ls) (k : Nat) : U8s (ls.drop k) := fun z hz => h z (List.mem_of_mem_drop hz)
theorem u8s_take' {ls : List Int} (h : U8s ls) (k : Nat) : U8s (ls.take k) := fun z hz => h z (List.mem_of_mem_take hz)
theorem sumC {v : Value} {ls : List Int} (w : World) (h : BAt w v ls) (hu : U8s ls) : Calls Try.prog 59 #[v] w fun e' w' => e' = .returned (.int .u32 (crc ls)) ∧ Below w.heap.size w w' := sumD w h hu
theorem wrap_i64 (n : Int) (h : -9223372036854775808 ≤ n ∧ n ≤ 9223372036854775807) : IntKind.i64.wrap n = n := IntWalk.i64_in _ h
theorem or_i64 (a b : Nat) (ha : a < 4294967296) (hb : b < 4294967296) : bits .or .i64 (a : Int) (b : Int) = ((a ||| b : Nat) : Int) := by
  have hx : a ||| b < 2 ^ 32 := Nat.or_lt_two_pow (by omega) (by omega)
  have h1 : (BitVec.ofInt 64 (a : Int)).toNat = a := by
    rw [BitVec.ofInt_natCast, BitVec.toNat_ofNat]; exact Nat.mod_eq_of_lt (by omega)
  have h2 : (BitVec.ofInt 64 (b : Int)).toNat = b := by
    rw [BitVec.ofInt_natCast, BitVec.toNat_ofNat]; exact Nat.mod_eq_of_lt (by omega)
  show IntKind.i64.wrap ((BitVec.ofInt 64 (a : Int) ||| BitVec.ofInt 64 (b : Int)).toNat : Int) = _
  rw [BitVec.toNat_or, h1, h2, wrap_i64]
  omega
/-- The length that a record's head tells. -/
def hdLen (ls : List Int) : Nat := (ls.getD 7 0 * 256 + ls.getD 8 0).toNat
def firstX (ls : List Int) : Rc := ⟨ls.getD 0 0, num4 (ls.drop 1), ls.getD 5 0, ls.getD 6 0 == 1, (ls.drop 9).take (hdLen ls)⟩
/-- The record that bytes begin with. -/
def first (ls : List Int) : Option Rc :=
  if ls.length < 13 then none else if ls.length < hdLen ls + 13 then none
  else if num4 (ls.drop (hdLen ls + 9)) = crc (ls.take (hdLen ls + 9)) then (if 1 < ls.getD 6 0 then none else if (firstX ls).right then some (firstX ls) else none) else none
structure Box (w : World) (p : Nat) : Prop where
  c0 : w.cell? ⟨p, 0, none⟩ = some (.int .u8 0)
  c1 : w.cell? ⟨p, 1, none⟩ = some (.int .u32 0)
  c2 : w.cell? ⟨p, 2, none⟩ = some (.int .u8 0)
  c3 : w.cell? ⟨p, 3, none⟩ = some (.bool false)
  c4 : w.cell? ⟨p, 4, none⟩ = some (.slice none 0 0)
  f0 : w.frozen? ⟨p, 0, none⟩ = false
  f1 : w.frozen? ⟨p, 1, none⟩ = false
  f2 : w.frozen? ⟨p, 2, none⟩ = false
  f3 : w.frozen? ⟨p, 3, none⟩ = false
  f4 : w.frozen? ⟨p, 4, none⟩ = false
theorem box_keep {W w1 : World} {p : Nat} (hb : Below W.heap.size W w1) (h : Box W p) : Box w1 p :=
  ⟨keep hb h.c0, keep hb h.c1, keep hb h.c2, keep hb h.c3, keep hb h.c4, keepF hb _ h.c0 h.f0, keepF hb _ h.c1 h.f1, keepF hb _ h.c2 h.f2, keepF hb _ h.c3 h.f3, keepF hb _ h.c4 h.f4⟩
theorem box_alloc (w : World) : Box (w.alloc (.cells #[.int .u8 0, .int .u32 0, .int .u8 0, .bool false, .slice none 0 0] 34)) w.heap.size :=
  ⟨by go_simp, by go_simp, by go_simp, by go_simp, by go_simp, by go_simp, by go_simp, by go_simp, by go_simp, by go_simp⟩
theorem box_set {w : World} {p q j : Nat} {u : Value} (h : Box w p) (hp : p ≠ q) : Box (w.setCell ⟨q, j, none⟩ u) p :=
  ⟨cell_other h.c0 hp, cell_other h.c1 hp, cell_other h.c2 hp, cell_other h.c3 hp, cell_other h.c4 hp, by rw [World.frozen?_setCell]; exact h.f0, by rw [World.frozen?_setCell]; exact h.f1, by rw [World.frozen?_setCell]; exact h.f2, by rw [World.frozen?_setCell]; exact h.f3, by rw [World.frozen?_setCell]; exact h.f4⟩
def zeroRec : Value := .agg #[.int .u8 0, .int .u32 0, .int .u8 0, .bool false, .slice none 0 0]
/-- What comes back. -/
def firstV (o : Option Rc) (v : Value) : Value := match o with | none => .tuple #[zeroRec, .int .i64 0] | some x => .tuple #[x.val v, .int .i64 (x.text.length + 13)]
def firstT (o : Option Rc) : List Int := match o with | none => [] | some x => x.text
set_option maxRecDepth 100000 in
set_option maxHeartbeats 8000000 in
theorem firstR {v : Value} {ls : List Int} (w : World) (h : BAt w v ls) (hu : U8s ls) (hlen : ls.length ≤ 262144) :
    Calls Try.prog 56 #[v] w fun e' w' => ∃ v2, e' = .returned (firstV (first ls) v2) ∧ w'.ownsRow w.heap.size 5 1 v2 (firstT (first ls)).length (u8s (firstT (first ls))) ∧ Below w.heap.size w w' := by
  have H := Lib.hid h
  obtain ⟨A, c, rfl, h2, h3, h4⟩ := h
  unfold maxLen at h3
  by_cases hl : ls.length < 13
  · rw [show first ls = none from by simp [first, hl]]
    have e0 : decide ((ls.length : Int) < 13) = true := by simp; omega
    go_enter Try.func56, Try.ntmps56
    go_wp2_with fail
    refine bodyPost_ret (v := .tuple #[zeroRec, .int .i64 0]) ?_ rfl ?_
    · simp [results, Try.results56, go_sem, zeroRec]
    · exact ⟨.slice none 0 0, rfl, World.ownsRow_nil _ _ _ _, (by repeat (first | with_reducible exact Below.refl _ _ | with_reducible refine balloc ?_ _ | with_reducible refine bset ?_ (by first | (simp; done) | (simp; omega)) _))⟩
  · have e0 : decide ((ls.length : Int) < 13) = false := by simp; omega
    obtain ⟨b, o, rfl, _⟩ := h4 0 (by omega)
    have l0 : 0 < ls.length := by omega
    have l5 : (5 : Int) < (ls.length : Int) := by omega
    have l6 : (6 : Int) < (ls.length : Int) := by omega
    have l7 : (7 : Int) < (ls.length : Int) := by omega
    have l8 : (8 : Int) < (ls.length : Int) := by omega
    clear h4
    have c0 := bat_get H.out (show 0 < ls.length by omega)
    have c5 := bat_get H.out (show 5 < ls.length by omega)
    have c6 := bat_get H.out (show 6 < ls.length by omega)
    have c7 := bat_get H.out (show 7 < ls.length by omega)
    have c8 := bat_get H.out (show 8 < ls.length by omega)
    rw [Nat.add_zero] at c0
    have hn : hdLen ls = (ls.getD 7 0 * 256 + ls.getD 8 0).toNat := rfl
    obtain ⟨nt, hnt⟩ : ∃ nt, num4 (ls.drop 1) = nt := ⟨_, rfl⟩
    have hX : firstX ls = ⟨ls.getD 0 0, nt, ls.getD 5 0, ls.getD 6 0 == 1, (ls.drop 9).take (hdLen ls)⟩ := by rw [← hnt]; rfl
    have HNT := Lib.hid hnt
    clear hnt
    have hf : first ls = if ls.length < hdLen ls + 13 then none
      else if num4 (ls.drop (hdLen ls + 9)) = crc (ls.take (hdLen ls + 9)) then (if 1 < ls.getD 6 0 then none else if (firstX ls).right then some (firstX ls) else none) else none := by rw [first, if_neg hl]
    have z0 := u8s_getD hu 0
    have z5 := u8s_getD hu 5
    have z6 := u8s_getD hu 6
    have z7 := u8s_getD hu 7
    have z8 := u8s_getD hu 8
    obtain ⟨y0, Y0⟩ : ∃ y, ls.getD 0 0 = y := ⟨_, rfl⟩
    obtain ⟨y5, Y5⟩ : ∃ y, ls.getD 5 0 = y := ⟨_, rfl⟩
    obtain ⟨y6, Y6⟩ : ∃ y, ls.getD 6 0 = y := ⟨_, rfl⟩
    rw [Y0] at c0 z0 hX
    rw [Y5] at c5 z5 hX
    rw [Y6] at c6 z6 hX hf
    have Y0 := Lib.hid Y0
    have Y5 := Lib.hid Y5
    have Y6 := Lib.hid Y6
    generalize ls.getD 7 0 = y7 at *
    generalize ls.getD 8 0 = y8 at *
    obtain ⟨m7, rfl⟩ := Int.eq_ofNat_of_zero_le z7.1
    obtain ⟨m8, rfl⟩ := Int.eq_ofNat_of_zero_le z8.1
    have ev : bits .or .i64 (IntKind.i64.wrap (IntKind.i64.wrap (m7 : Int) * 256)) (IntKind.i64.wrap (m8 : Int)) = ((m7 * 256 + m8 : Nat) : Int) := by
      rw [wrap_i64 m7 (by omega), wrap_i64 m8 (by omega), wrap_i64 (m7 * 256) (by omega), show (m7 : Int) * 256 = ((m7 * 2 ^ 8 : Nat) : Int) by omega, or_i64 _ _ (by omega) (by omega), or_add _ _ 8 (by omega)]
    have hn : hdLen ls = m7 * 256 + m8 := by rw [hn]; omega
    obtain ⟨m, hm⟩ : ∃ m, m = m7 * 256 + m8 := ⟨_, rfl⟩
    rw [← hm] at hn ev
    rw [hn] at hf hX
    have hmm : m ≤ 65535 := by omega
    have HF := Lib.hid hf
    have HX := Lib.hid hX
    have EV := Lib.hid ev
    clear hf hX hn hm ev
    go_enter Try.func56, Try.ntmps56
    go_wp2_with fail
    refine wpQ_region (by kernel_rfl) (by kernel_rfl) ?_
    apply wpQ_do
    · rfl
    · intro wq hC; go_light; first | (go_simp; first | done | rfl | exact ⟨rfl, rfl⟩) | (have k0 := hC.keep (keep (balloc (Below.refl _ w) _) c7); have k1 := hC.keep (keep (balloc (Below.refl _ w) _) c8); go_simp; first | done | rfl | exact ⟨rfl, rfl⟩)
    simp only [Act.put, List.setIfInBounds_toArray, List.set_cons_zero, List.set_cons_succ]
    apply wpQ_do
    · rfl
    · intro wq hC; go_light; first | (go_simp; first | done | rfl | exact ⟨rfl, rfl⟩) | (have k0 := hC.keep (keep (balloc (Below.refl _ w) _) c7); have k1 := hC.keep (keep (balloc (Below.refl _ w) _) c8); go_simp; first | done | rfl | exact ⟨rfl, rfl⟩)
    simp only [Act.put, List.setIfInBounds_toArray, List.set_cons_zero, List.set_cons_succ]
    apply wpQ_do
    · rfl
    · intro wq hC; go_light; first | (go_simp; first | done | rfl | exact ⟨rfl, rfl⟩) | (have k0 := hC.keep (keep (balloc (Below.refl _ w) _) c7); have k1 := hC.keep (keep (balloc (Below.refl _ w) _) c8); go_simp; first | done | rfl | exact ⟨rfl, rfl⟩)
    simp only [Act.put, List.setIfInBounds_toArray, List.set_cons_zero, List.set_cons_succ]
    apply wpQ_do
    · rfl
    · intro wq hC; go_light; first | (go_simp; first | done | rfl | exact ⟨rfl, rfl⟩) | (have k0 := hC.keep (keep (balloc (Below.refl _ w) _) c7); have k1 := hC.keep (keep (balloc (Below.refl _ w) _) c8); go_simp; first | done | rfl | exact ⟨rfl, rfl⟩)
    simp only [Act.put, List.setIfInBounds_toArray, List.set_cons_zero, List.set_cons_succ]
    apply wpQ_do
    · rfl
    · intro wq hC; go_light; first | (go_simp; first | done | rfl | exact ⟨rfl, rfl⟩) | (have k0 := hC.keep (keep (balloc (Below.refl _ w) _) c7); have k1 := hC.keep (keep (balloc (Below.refl _ w) _) c8); go_simp; first | done | rfl | exact ⟨rfl, rfl⟩)
    simp only [Act.put, List.setIfInBounds_toArray, List.set_cons_zero, List.set_cons_succ]
    apply wpQ_do
    · rfl
    · intro wq hC; go_light; first | (go_simp; first | done | rfl | exact ⟨rfl, rfl⟩) | (have k0 := hC.keep (keep (balloc (Below.refl _ w) _) c7); have k1 := hC.keep (keep (balloc (Below.refl _ w) _) c8); go_simp; first | done | rfl | exact ⟨rfl, rfl⟩)
    simp only [Act.put, List.setIfInBounds_toArray, List.set_cons_zero, List.set_cons_succ]
    apply wpQ_do
    · rfl
    · intro wq hC; go_light; first | (go_simp; first | done | rfl | exact ⟨rfl, rfl⟩) | (have k0 := hC.keep (keep (balloc (Below.refl _ w) _) c7); have k1 := hC.keep (keep (balloc (Below.refl _ w) _) c8); go_simp; first | done | rfl | exact ⟨rfl, rfl⟩)
    simp only [Act.put, List.setIfInBounds_toArray, List.set_cons_zero, List.set_cons_succ]
    apply wpQ_do
    · rfl
    · intro wq hC; go_light; first | (go_simp; first | done | rfl | exact ⟨rfl, rfl⟩) | (have k0 := hC.keep (keep (balloc (Below.refl _ w) _) c7); have k1 := hC.keep (keep (balloc (Below.refl _ w) _) c8); go_simp; first | done | rfl | exact ⟨rfl, rfl⟩)
    simp only [Act.put, List.setIfInBounds_toArray, List.set_cons_zero, List.set_cons_succ]
    apply wpQ_do
    · rfl
    · intro wq hC; go_light; first | (go_simp; first | done | rfl | exact ⟨rfl, rfl⟩) | (have k0 := hC.keep (keep (balloc (Below.refl _ w) _) c7); have k1 := hC.keep (keep (balloc (Below.refl _ w) _) c8); go_simp; first | done | rfl | exact ⟨rfl, rfl⟩)
    simp only [Act.put, List.setIfInBounds_toArray, List.set_cons_zero, List.set_cons_succ]
    apply wpQ_do
    · rfl
    · intro wq hC; go_light; first | (go_simp; first | done | rfl | exact ⟨rfl, rfl⟩) | (have k0 := hC.keep (keep (balloc (Below.refl _ w) _) c7); have k1 := hC.keep (keep (balloc (Below.refl _ w) _) c8); go_simp; first | done | rfl | exact ⟨rfl, rfl⟩)
    simp only [Act.put, List.setIfInBounds_toArray, List.set_cons_zero, List.set_cons_succ]
    apply wpQ_do
    · rfl
    · intro wq hC; go_light; first | (go_simp; first | done | rfl | exact ⟨rfl, rfl⟩) | (have k0 := hC.keep (keep (balloc (Below.refl _ w) _) c7); have k1 := hC.keep (keep (balloc (Below.refl _ w) _) c8); go_simp; first | done | rfl | exact ⟨rfl, rfl⟩)
    simp only [Act.put, List.setIfInBounds_toArray, List.set_cons_zero, List.set_cons_succ]
    apply wpQ_nil
    intro w9 hb9
    have hb9 : Below _ _ _ := hb9
    have D0 : Below w.heap.size w w9 := bstep (balloc (Below.refl _ _) _) hb9
    have xc0 : w9.cell? ⟨w.heap.size, 0, none⟩ = some (.int .u8 0) := keep hb9 (by go_simp)
    have xf0 : w9.frozen? ⟨w.heap.size, 0, none⟩ = false := keepF hb9 (.int .u8 0) (by go_simp) (by go_simp)
    have xc1 : w9.cell? ⟨w.heap.size, 1, none⟩ = some (.int .u32 0) := keep hb9 (by go_simp)
    have xf1 : w9.frozen? ⟨w.heap.size, 1, none⟩ = false := keepF hb9 (.int .u32 0) (by go_simp) (by go_simp)
    have xc2 : w9.cell? ⟨w.heap.size, 2, none⟩ = some (.int .u8 0) := keep hb9 (by go_simp)
    have xf2 : w9.frozen? ⟨w.heap.size, 2, none⟩ = false := keepF hb9 (.int .u8 0) (by go_simp) (by go_simp)
    have xc3 : w9.cell? ⟨w.heap.size, 3, none⟩ = some (.bool false) := keep hb9 (by go_simp)
    have xf3 : w9.frozen? ⟨w.heap.size, 3, none⟩ = false := keepF hb9 (.bool false) (by go_simp) (by go_simp)
    have xc4 : w9.cell? ⟨w.heap.size, 4, none⟩ = some (.slice none 0 0) := keep hb9 (by go_simp)
    have xf4 : w9.frozen? ⟨w.heap.size, 4, none⟩ = false := keepF hb9 (.slice none 0 0) (by go_simp) (by go_simp)
    have xz := cell_lt xc0
    clear hb9
    have H9 := Lib.hid (H.out.below D0)
    simp only [EV.out]
    go_wp2_with fail
    by_cases hlm : ls.length < m + 13
    · have e1 : decide ((ls.length : Int) < 9 + (m : Int) + 4) = true := by simp; omega
      have HN := Lib.hid (show first ls = none from by rw [HF.out, if_pos hlm])
      refine wpQ_region (by kernel_rfl) (by kernel_rfl) ?_
      apply wpQ_do
      · rfl
      · intro wq hC; go_light; first | (go_simp; first | done | rfl | exact ⟨rfl, rfl⟩)
      simp only [Act.put, List.setIfInBounds_toArray, List.set_cons_zero, List.set_cons_succ]
      apply wpQ_do
      · rfl
      · intro wq hC; go_light; first | (go_simp; first | done | rfl | exact ⟨rfl, rfl⟩)
      simp only [Act.put, List.setIfInBounds_toArray, List.set_cons_zero, List.set_cons_succ]
      apply wpQ_do
      · rfl
      · intro wq hC; go_light; first | (go_simp; first | done | rfl | exact ⟨rfl, rfl⟩)
      simp only [Act.put, List.setIfInBounds_toArray, List.set_cons_zero, List.set_cons_succ]
      apply wpQ_do
      · rfl
      · intro wq hC; go_light; first | (go_simp; first | done | rfl | exact ⟨rfl, rfl⟩)
      simp only [Act.put, List.setIfInBounds_toArray, List.set_cons_zero, List.set_cons_succ]
      apply wpQ_do
      · rfl
      · intro wq hC; go_light; first | (go_simp; first | done | rfl | exact ⟨rfl, rfl⟩)
      simp only [Act.put, List.setIfInBounds_toArray, List.set_cons_zero, List.set_cons_succ]
      apply wpQ_not
      · rfl
      simp only [Act.put, List.setIfInBounds_toArray, List.set_cons_zero, List.set_cons_succ]
      apply wpQ_not
      · rfl
      simp only [Act.put, List.setIfInBounds_toArray, List.set_cons_zero, List.set_cons_succ]
      apply wpQ_not
      · rfl
      simp only [Act.put, List.setIfInBounds_toArray, List.set_cons_zero, List.set_cons_succ]
      apply wpQ_not
      · rfl
      simp only [Act.put, List.setIfInBounds_toArray, List.set_cons_zero, List.set_cons_succ]
      apply wpQ_not
      · rfl
      simp only [Act.put, List.setIfInBounds_toArray, List.set_cons_zero, List.set_cons_succ]
      apply wpQ_not
      · rfl
      simp only [Act.put, List.setIfInBounds_toArray, List.set_cons_zero, List.set_cons_succ]
      apply wpQ_not
      · rfl
      simp only [Act.put, List.setIfInBounds_toArray, List.set_cons_zero, List.set_cons_succ]
      apply wpQ_not
      · rfl
      simp only [Act.put, List.setIfInBounds_toArray, List.set_cons_zero, List.set_cons_succ]
      apply wpQ_not
      · rfl
      simp only [Act.put, List.setIfInBounds_toArray, List.set_cons_zero, List.set_cons_succ]
      apply wpQ_not
      · rfl
      simp only [Act.put, List.setIfInBounds_toArray, List.set_cons_zero, List.set_cons_succ]
      apply wpQ_not
      · rfl
      simp only [Act.put, List.setIfInBounds_toArray, List.set_cons_zero, List.set_cons_succ]
      apply wpQ_do
      · rfl
      · intro wq hC; go_light; first | (go_simp; first | done | rfl | exact ⟨rfl, rfl⟩)
      simp only [Act.put, List.setIfInBounds_toArray, List.set_cons_zero, List.set_cons_succ]
      apply wpQ_do
      · rfl
      · intro wq hC; go_light; first | (go_simp; first | done | rfl | exact ⟨rfl, rfl⟩)
      simp only [Act.put, List.setIfInBounds_toArray, List.set_cons_zero, List.set_cons_succ]
      apply wpQ_not
      · rfl
      simp only [Act.put, List.setIfInBounds_toArray, List.set_cons_zero, List.set_cons_succ]
      apply wpQ_not
      · rfl
      simp only [Act.put, List.setIfInBounds_toArray, List.set_cons_zero, List.set_cons_succ]
      apply wpQ_not
      · rfl
      simp only [Act.put, List.setIfInBounds_toArray, List.set_cons_zero, List.set_cons_succ]
      apply wpQ_not
      · rfl
      simp only [Act.put, List.setIfInBounds_toArray, List.set_cons_zero, List.set_cons_succ]
      apply wpQ_do
      · rfl
      · intro wq hC; go_light; first | (go_simp; first | done | rfl | exact ⟨rfl, rfl⟩)
      simp only [Act.put, List.setIfInBounds_toArray, List.set_cons_zero, List.set_cons_succ]
      apply wpQ_nil
      intro w10 hb10
      have hb10 : Below _ _ _ := hb10
      have D1 := Lib.hid (bstep D0 hb10)
      have XB := box_keep hb10 ⟨xc0, xc1, xc2, xc3, xc4, xf0, xf1, xf2, xf3, xf4⟩
      clear xc0 xc1 xc2 xc3 xc4 xf0 xf1 xf2 xf3 xf4 xz
      obtain ⟨xc0, xc1, xc2, xc3, xc4, xf0, xf1, xf2, xf3, xf4⟩ := XB
      have xz := cell_lt xc0
      go_wp2_with fail
      refine bodyPost_ret (v := .tuple #[zeroRec, .int .i64 0]) ?_ rfl ?_
      · simp [results, Try.results56, go_sem, zeroRec, *]
      · rw [HN.out]; exact ⟨.slice none 0 0, rfl, World.ownsRow_nil _ _ _ _, (by repeat (first | with_reducible exact D1.out | with_reducible refine balloc ?_ _ | with_reducible refine bset ?_ (by first | (simp; done) | (simp; omega)) _))⟩
    · have e1 : decide ((ls.length : Int) < 9 + (m : Int) + 4) = false := by simp; omega
      have l6n : (6 : Int) < (ls.length : Int) := l6
      have hcm : c ≤ maxLen := by unfold maxLen; omega
      obtain ⟨V1, hV1, hB1⟩ := slice_low (A := some ⟨b, o, none⟩) (n := ls.length) (c := c) (m + 9) (IntKind.i64.wrap (9 + (m : Int))) (by rw [wrap_i64 _ (by omega)]; omega) (by omega) h2 hcm
      obtain ⟨V2, hV2, hB2⟩ := slice_high (A := some ⟨b, o, none⟩) (n := ls.length) (c := c) (m + 9) (IntKind.i64.wrap (9 + (m : Int))) (by rw [wrap_i64 _ (by omega)]; omega) (by omega) h2 hcm
      have HB1 := Lib.hid hB1
      have HB2 := Lib.hid hB2
      have k9 := D0.cell (p := ⟨b, o + 6, none⟩) (cell_lt c6)
      rw [c6] at k9
      clear hB1 hB2
      by_cases hs : num4 (ls.drop (m + 9)) = crc (ls.take (m + 9))
      · by_cases h1 : 1 < y6
        · have d1 : decide (1 < y6) = true := by simpa using h1
          have ne : (num4 (ls.drop (m + 9)) != crc (ls.take (m + 9))) = false := by simpa using hs
          have HN := Lib.hid (show first ls = none from by rw [HF.out, if_neg hlm, if_pos hs, if_pos h1])
          refine wpQ_region (by kernel_rfl) (by kernel_rfl) ?_
          apply wpQ_do
          · rfl
          · intro wq hC; go_light; first | (go_simp; first | done | rfl | exact ⟨rfl, rfl⟩) | (have k0 := hC.keep k9; go_simp; first | done | rfl | exact ⟨rfl, rfl⟩)
          simp only [Act.put, List.setIfInBounds_toArray, List.set_cons_zero, List.set_cons_succ]
          apply wpQ_do
          · rfl
          · intro wq hC; go_light; first | (go_simp; first | done | rfl | exact ⟨rfl, rfl⟩) | (have k0 := hC.keep k9; go_simp; first | done | rfl | exact ⟨rfl, rfl⟩)
          simp only [Act.put, List.setIfInBounds_toArray, List.set_cons_zero, List.set_cons_succ]
          apply wpQ_do
          · rfl
          · intro wq hC; go_light; first | (go_simp; first | done | rfl | exact ⟨rfl, rfl⟩) | (have k0 := hC.keep k9; go_simp; first | done | rfl | exact ⟨rfl, rfl⟩)
          simp only [Act.put, List.setIfInBounds_toArray, List.set_cons_zero, List.set_cons_succ]
          apply wpQ_do
          · rfl
          · intro wq hC; go_light; first | (go_simp; first | done | rfl | exact ⟨rfl, rfl⟩) | (have k0 := hC.keep k9; go_simp; first | done | rfl | exact ⟨rfl, rfl⟩)
          simp only [Act.put, List.setIfInBounds_toArray, List.set_cons_zero, List.set_cons_succ]
          apply wpQ_do
          · rfl
          · intro wq hC; go_light; first | (go_simp; first | done | rfl | exact ⟨rfl, rfl⟩) | (have k0 := hC.keep k9; go_simp; first | done | rfl | exact ⟨rfl, rfl⟩)
          simp only [Act.put, List.setIfInBounds_toArray, List.set_cons_zero, List.set_cons_succ]
          apply wpQ_do
          · rfl
          · intro wq hC; go_light; first | (go_simp; first | done | rfl | exact ⟨rfl, rfl⟩) | (have k0 := hC.keep k9; go_simp; first | done | rfl | exact ⟨rfl, rfl⟩)
          simp only [Act.put, List.setIfInBounds_toArray, List.set_cons_zero, List.set_cons_succ]
          apply wpQ_do
          · rfl
          · intro wq hC; go_light; first | (go_simp; first | done | rfl | exact ⟨rfl, rfl⟩) | (have k0 := hC.keep k9; go_simp; first | done | rfl | exact ⟨rfl, rfl⟩)
          simp only [Act.put, List.setIfInBounds_toArray, List.set_cons_zero, List.set_cons_succ]
          apply wpQ_do
          · rfl
          · intro wq hC; go_light; first | (go_simp; first | done | rfl | exact ⟨rfl, rfl⟩) | (have k0 := hC.keep k9; go_simp; first | done | rfl | exact ⟨rfl, rfl⟩)
          simp only [Act.put, List.setIfInBounds_toArray, List.set_cons_zero, List.set_cons_succ]
          apply wpQ_do
          · rfl
          · intro wq hC; go_light; first | (go_simp; first | done | rfl | exact ⟨rfl, rfl⟩) | (have k0 := hC.keep k9; go_simp; first | done | rfl | exact ⟨rfl, rfl⟩)
          simp only [Act.put, List.setIfInBounds_toArray, List.set_cons_zero, List.set_cons_succ]
          apply wpQ_do
          · rfl
          · intro wq hC; go_light; go_simp; refine Calls.mono (numberD _ (HB1.out _ _ (H9.out.below hC)) (u8s_drop hu _) (by rw [List.length_drop]; omega)) ?_; rintro eq wq2 ⟨rfl, hbq⟩; exact ⟨rfl, hC.step hbq⟩
          simp only [Act.put, List.setIfInBounds_toArray, List.set_cons_zero, List.set_cons_succ]
          apply wpQ_do
          · rfl
          · intro wq hC; go_light; first | (go_simp; first | done | rfl | exact ⟨rfl, rfl⟩) | (have k0 := hC.keep k9; go_simp; first | done | rfl | exact ⟨rfl, rfl⟩)
          simp only [Act.put, List.setIfInBounds_toArray, List.set_cons_zero, List.set_cons_succ]
          apply wpQ_do
          · rfl
          · intro wq hC; go_light; first | (go_simp; first | done | rfl | exact ⟨rfl, rfl⟩) | (have k0 := hC.keep k9; go_simp; first | done | rfl | exact ⟨rfl, rfl⟩)
          simp only [Act.put, List.setIfInBounds_toArray, List.set_cons_zero, List.set_cons_succ]
          apply wpQ_do
          · rfl
          · intro wq hC; go_light; first | (go_simp; first | done | rfl | exact ⟨rfl, rfl⟩) | (have k0 := hC.keep k9; go_simp; first | done | rfl | exact ⟨rfl, rfl⟩)
          simp only [Act.put, List.setIfInBounds_toArray, List.set_cons_zero, List.set_cons_succ]
          apply wpQ_do
          · rfl
          · intro wq hC; go_light; first | (go_simp; first | done | rfl | exact ⟨rfl, rfl⟩) | (have k0 := hC.keep k9; go_simp; first | done | rfl | exact ⟨rfl, rfl⟩)
          simp only [Act.put, List.setIfInBounds_toArray, List.set_cons_zero, List.set_cons_succ]
          apply wpQ_do
          · rfl
          · intro wq hC; go_light; go_simp; refine Calls.mono (sumC _ (HB2.out _ _ (H9.out.below hC)) (u8s_take' hu _)) ?_; rintro eq wq2 ⟨rfl, hbq⟩; exact ⟨rfl, hC.step hbq⟩
          simp only [Act.put, List.setIfInBounds_toArray, List.set_cons_zero, List.set_cons_succ]
          apply wpQ_do
          · rfl
          · intro wq hC; go_light; first | (go_simp; first | done | rfl | exact ⟨rfl, rfl⟩) | (have k0 := hC.keep k9; go_simp; first | done | rfl | exact ⟨rfl, rfl⟩)
          simp only [Act.put, List.setIfInBounds_toArray, List.set_cons_zero, List.set_cons_succ]
          apply wpQ_do
          · rfl
          · intro wq hC; go_light; first | (go_simp; first | done | rfl | exact ⟨rfl, rfl⟩) | (have k0 := hC.keep k9; go_simp; first | done | rfl | exact ⟨rfl, rfl⟩)
          simp only [Act.put, List.setIfInBounds_toArray, List.set_cons_zero, List.set_cons_succ]
          apply wpQ_do
          · rfl
          · intro wq hC; go_light; first | (go_simp; first | done | rfl | exact ⟨rfl, rfl⟩) | (have k0 := hC.keep k9; go_simp; first | done | rfl | exact ⟨rfl, rfl⟩)
          simp only [Act.put, List.setIfInBounds_toArray, List.set_cons_zero, List.set_cons_succ]
          apply wpQ_do
          · rfl
          · intro wq hC; go_light; first | (go_simp; first | done | rfl | exact ⟨rfl, rfl⟩) | (have k0 := hC.keep k9; go_simp; first | done | rfl | exact ⟨rfl, rfl⟩)
          simp only [Act.put, List.setIfInBounds_toArray, List.set_cons_zero, List.set_cons_succ]
          apply wpQ_do
          · rfl
          · intro wq hC; go_light; first | (go_simp; first | done | rfl | exact ⟨rfl, rfl⟩) | (have k0 := hC.keep k9; go_simp; first | done | rfl | exact ⟨rfl, rfl⟩)
          simp only [Act.put, List.setIfInBounds_toArray, List.set_cons_zero, List.set_cons_succ]
          apply wpQ_do
          · rfl
          · intro wq hC; go_light; first | (go_simp; first | done | rfl | exact ⟨rfl, rfl⟩) | (have k0 := hC.keep k9; go_simp; first | done | rfl | exact ⟨rfl, rfl⟩)
          simp only [Act.put, List.setIfInBounds_toArray, List.set_cons_zero, List.set_cons_succ]
          apply wpQ_do
          · rfl
          · intro wq hC; go_light; first | (go_simp; first | done | rfl | exact ⟨rfl, rfl⟩) | (have k0 := hC.keep k9; go_simp; first | done | rfl | exact ⟨rfl, rfl⟩)
          simp only [Act.put, List.setIfInBounds_toArray, List.set_cons_zero, List.set_cons_succ]
          apply wpQ_do
          · rfl
          · intro wq hC; go_light; first | (go_simp; first | done | rfl | exact ⟨rfl, rfl⟩) | (have k0 := hC.keep k9; go_simp; first | done | rfl | exact ⟨rfl, rfl⟩)
          simp only [Act.put, List.setIfInBounds_toArray, List.set_cons_zero, List.set_cons_succ]
          apply wpQ_nil
          intro w10 hb10
          have hb10 : Below _ _ _ := hb10
          have D1 := Lib.hid (bstep D0 hb10)
          have XB := box_keep hb10 ⟨xc0, xc1, xc2, xc3, xc4, xf0, xf1, xf2, xf3, xf4⟩
          clear xc0 xc1 xc2 xc3 xc4 xf0 xf1 xf2 xf3 xf4 xz
          obtain ⟨xc0, xc1, xc2, xc3, xc4, xf0, xf1, xf2, xf3, xf4⟩ := XB
          have xz := cell_lt xc0
          go_wp2_with fail
          refine bodyPost_ret (v := .tuple #[zeroRec, .int .i64 0]) ?_ rfl ?_
          · simp [results, Try.results56, go_sem, zeroRec, *]
          · rw [HN.out]; exact ⟨.slice none 0 0, rfl, World.ownsRow_nil _ _ _ _, (by repeat (first | with_reducible exact D1.out | with_reducible refine balloc ?_ _ | with_reducible refine bset ?_ (by first | (simp; done) | (simp; omega)) _))⟩
        · have d1 : decide (1 < y6) = false := by simpa using h1
          have ne : (num4 (ls.drop (m + 9)) != crc (ls.take (m + 9))) = false := by simpa using hs
          obtain ⟨tx, htx⟩ : ∃ tx, tx = (ls.drop 9).take m := ⟨_, rfl⟩
          have hlx : tx.length = m := by rw [htx, List.length_take, List.length_drop]; omega
          have htu : U8s tx := fun z hz => hu z (List.mem_of_mem_drop (List.mem_of_mem_take (htx ▸ hz)))
          have HFX := Lib.hid (show first ls = if rightB y0 y5 (y6 == 1) tx.length = true then some ⟨y0, nt, y5, y6 == 1, tx⟩ else none from by rw [HF.out, if_neg hlm, if_pos hs, if_neg h1, HX.out, ← htx]; rfl)
          obtain ⟨V3, hV3, hB3⟩ := slice_low (A := some ⟨b, o, none⟩) (n := ls.length) (c := c) 1 1 rfl (by omega) h2 hcm
          obtain ⟨V4, hV4, hB4⟩ := slice_mid (A := some ⟨b, o, none⟩) (n := ls.length) (c := c) 9 (m + 9) 9 (IntKind.i64.wrap (9 + (m : Int))) rfl (by rw [wrap_i64 _ (by omega)]; omega) (by omega) (by omega) h2 hcm
          have HB3 := Lib.hid hB3
          have HB4 := Lib.hid (fun w' (h9 : BAt w' (.slice (some ⟨b, o, none⟩) ls.length c) ls) => show BAt w' V4 tx from by have h8 := hB4 w' ls h9; rw [Nat.add_sub_cancel, ← htx] at h8; exact h8)
          have HTX := Lib.hid htx
          have HLX := Lib.hid hlx
          clear hB3 hB4 htx hlx
          refine wpQ_region (by kernel_rfl) (by kernel_rfl) ?_
          apply wpQ_do
          · rfl
          · intro wq hC; go_light; first | (go_simp; first | done | rfl | exact ⟨rfl, rfl⟩) | (have k0 := hC.keep k9; go_simp; first | done | rfl | exact ⟨rfl, rfl⟩)
          simp only [Act.put, List.setIfInBounds_toArray, List.set_cons_zero, List.set_cons_succ]
          apply wpQ_do
          · rfl
          · intro wq hC; go_light; first | (go_simp; first | done | rfl | exact ⟨rfl, rfl⟩) | (have k0 := hC.keep k9; go_simp; first | done | rfl | exact ⟨rfl, rfl⟩)
          simp only [Act.put, List.setIfInBounds_toArray, List.set_cons_zero, List.set_cons_succ]
          apply wpQ_do
          · rfl
          · intro wq hC; go_light; first | (go_simp; first | done | rfl | exact ⟨rfl, rfl⟩) | (have k0 := hC.keep k9; go_simp; first | done | rfl | exact ⟨rfl, rfl⟩)
          simp only [Act.put, List.setIfInBounds_toArray, List.set_cons_zero, List.set_cons_succ]
          apply wpQ_do
          · rfl
          · intro wq hC; go_light; first | (go_simp; first | done | rfl | exact ⟨rfl, rfl⟩) | (have k0 := hC.keep k9; go_simp; first | done | rfl | exact ⟨rfl, rfl⟩)
          simp only [Act.put, List.setIfInBounds_toArray, List.set_cons_zero, List.set_cons_succ]
          apply wpQ_do
          · rfl
          · intro wq hC; go_light; first | (go_simp; first | done | rfl | exact ⟨rfl, rfl⟩) | (have k0 := hC.keep k9; go_simp; first | done | rfl | exact ⟨rfl, rfl⟩)
          simp only [Act.put, List.setIfInBounds_toArray, List.set_cons_zero, List.set_cons_succ]
          apply wpQ_do
          · rfl
          · intro wq hC; go_light; first | (go_simp; first | done | rfl | exact ⟨rfl, rfl⟩) | (have k0 := hC.keep k9; go_simp; first | done | rfl | exact ⟨rfl, rfl⟩)
          simp only [Act.put, List.setIfInBounds_toArray, List.set_cons_zero, List.set_cons_succ]
          apply wpQ_do
          · rfl
          · intro wq hC; go_light; first | (go_simp; first | done | rfl | exact ⟨rfl, rfl⟩) | (have k0 := hC.keep k9; go_simp; first | done | rfl | exact ⟨rfl, rfl⟩)
          simp only [Act.put, List.setIfInBounds_toArray, List.set_cons_zero, List.set_cons_succ]
          apply wpQ_do
          · rfl
          · intro wq hC; go_light; first | (go_simp; first | done | rfl | exact ⟨rfl, rfl⟩) | (have k0 := hC.keep k9; go_simp; first | done | rfl | exact ⟨rfl, rfl⟩)
          simp only [Act.put, List.setIfInBounds_toArray, List.set_cons_zero, List.set_cons_succ]
          apply wpQ_do
          · rfl
          · intro wq hC; go_light; first | (go_simp; first | done | rfl | exact ⟨rfl, rfl⟩) | (have k0 := hC.keep k9; go_simp; first | done | rfl | exact ⟨rfl, rfl⟩)
          simp only [Act.put, List.setIfInBounds_toArray, List.set_cons_zero, List.set_cons_succ]
          apply wpQ_do
          · rfl
          · intro wq hC; go_light; go_simp; refine Calls.mono (numberD _ (HB1.out _ _ (H9.out.below hC)) (u8s_drop hu _) (by rw [List.length_drop]; omega)) ?_; rintro eq wq2 ⟨rfl, hbq⟩; exact ⟨rfl, hC.step hbq⟩
          simp only [Act.put, List.setIfInBounds_toArray, List.set_cons_zero, List.set_cons_succ]
          apply wpQ_do
          · rfl
          · intro wq hC; go_light; first | (go_simp; first | done | rfl | exact ⟨rfl, rfl⟩) | (have k0 := hC.keep k9; go_simp; first | done | rfl | exact ⟨rfl, rfl⟩)
          simp only [Act.put, List.setIfInBounds_toArray, List.set_cons_zero, List.set_cons_succ]
          apply wpQ_do
          · rfl
          · intro wq hC; go_light; first | (go_simp; first | done | rfl | exact ⟨rfl, rfl⟩) | (have k0 := hC.keep k9; go_simp; first | done | rfl | exact ⟨rfl, rfl⟩)
          simp only [Act.put, List.setIfInBounds_toArray, List.set_cons_zero, List.set_cons_succ]
          apply wpQ_do
          · rfl
          · intro wq hC; go_light; first | (go_simp; first | done | rfl | exact ⟨rfl, rfl⟩) | (have k0 := hC.keep k9; go_simp; first | done | rfl | exact ⟨rfl, rfl⟩)
          simp only [Act.put, List.setIfInBounds_toArray, List.set_cons_zero, List.set_cons_succ]
          apply wpQ_do
          · rfl
          · intro wq hC; go_light; first | (go_simp; first | done | rfl | exact ⟨rfl, rfl⟩) | (have k0 := hC.keep k9; go_simp; first | done | rfl | exact ⟨rfl, rfl⟩)
          simp only [Act.put, List.setIfInBounds_toArray, List.set_cons_zero, List.set_cons_succ]
          apply wpQ_do
          · rfl
          · intro wq hC; go_light; go_simp; refine Calls.mono (sumC _ (HB2.out _ _ (H9.out.below hC)) (u8s_take' hu _)) ?_; rintro eq wq2 ⟨rfl, hbq⟩; exact ⟨rfl, hC.step hbq⟩
          simp only [Act.put, List.setIfInBounds_toArray, List.set_cons_zero, List.set_cons_succ]
          apply wpQ_do
          · rfl
          · intro wq hC; go_light; first | (go_simp; first | done | rfl | exact ⟨rfl, rfl⟩) | (have k0 := hC.keep k9; go_simp; first | done | rfl | exact ⟨rfl, rfl⟩)
          simp only [Act.put, List.setIfInBounds_toArray, List.set_cons_zero, List.set_cons_succ]
          apply wpQ_do
          · rfl
          · intro wq hC; go_light; first | (go_simp; first | done | rfl | exact ⟨rfl, rfl⟩) | (have k0 := hC.keep k9; go_simp; first | done | rfl | exact ⟨rfl, rfl⟩)
          simp only [Act.put, List.setIfInBounds_toArray, List.set_cons_zero, List.set_cons_succ]
          apply wpQ_do
          · rfl
          · intro wq hC; go_light; first | (go_simp; first | done | rfl | exact ⟨rfl, rfl⟩) | (have k0 := hC.keep k9; go_simp; first | done | rfl | exact ⟨rfl, rfl⟩)
          simp only [Act.put, List.setIfInBounds_toArray, List.set_cons_zero, List.set_cons_succ]
          apply wpQ_do
          · rfl
          · intro wq hC; go_light; first | (go_simp; first | done | rfl | exact ⟨rfl, rfl⟩) | (have k0 := hC.keep k9; go_simp; first | done | rfl | exact ⟨rfl, rfl⟩)
          simp only [Act.put, List.setIfInBounds_toArray, List.set_cons_zero, List.set_cons_succ]
          apply wpQ_do
          · rfl
          · intro wq hC; go_light; first | (go_simp; first | done | rfl | exact ⟨rfl, rfl⟩) | (have k0 := hC.keep k9; go_simp; first | done | rfl | exact ⟨rfl, rfl⟩)
          simp only [Act.put, List.setIfInBounds_toArray, List.set_cons_zero, List.set_cons_succ]
          apply wpQ_do
          · rfl
          · intro wq hC; go_light; first | (go_simp; first | done | rfl | exact ⟨rfl, rfl⟩) | (have k0 := hC.keep k9; go_simp; first | done | rfl | exact ⟨rfl, rfl⟩)
          simp only [Act.put, List.setIfInBounds_toArray, List.set_cons_zero, List.set_cons_succ]
          apply wpQ_do
          · rfl
          · intro wq hC; go_light; first | (go_simp; first | done | rfl | exact ⟨rfl, rfl⟩) | (have k0 := hC.keep k9; go_simp; first | done | rfl | exact ⟨rfl, rfl⟩)
          simp only [Act.put, List.setIfInBounds_toArray, List.set_cons_zero, List.set_cons_succ]
          apply wpQ_do
          · rfl
          · intro wq hC; go_light; first | (go_simp; first | done | rfl | exact ⟨rfl, rfl⟩) | (have k0 := hC.keep k9; go_simp; first | done | rfl | exact ⟨rfl, rfl⟩)
          simp only [Act.put, List.setIfInBounds_toArray, List.set_cons_zero, List.set_cons_succ]
          apply wpQ_nil
          intro w10 hb10
          have hb10 : Below _ _ _ := hb10
          have D1 := Lib.hid (bstep D0 hb10)
          have H10 := Lib.hid (H9.out.below hb10)
          have XB := box_keep hb10 ⟨xc0, xc1, xc2, xc3, xc4, xf0, xf1, xf2, xf3, xf4⟩
          clear xc0 xc1 xc2 xc3 xc4 xf0 xf1 xf2 xf3 xf4 xz
          obtain ⟨xc0, xc1, xc2, xc3, xc4, xf0, xf1, xf2, xf3, xf4⟩ := XB
          have xz := cell_lt xc0
          clear hb10
          go_wp2_with fail
          refine region_held (by kernel_rfl) ?_
          intro w0 hb0 hs0
          clear hs0
          have HS : BelowC w0 w0 := BelowC.refl w0
          have DW := Lib.hid (bstep D1.out hb0)
          have H0 := Lib.hid (H10.out.below hb0)
          have a0 : w0.cell? ⟨b, o, none⟩ = some (.int .u8 y0) := by have := bat_get H0.out (show 0 < ls.length by omega); rw [Nat.add_zero, Y0.out] at this; exact this
          have a5 : w0.cell? ⟨b, o + 5, none⟩ = some (.int .u8 y5) := by have := bat_get H0.out (show 5 < ls.length by omega); rw [Y5.out] at this; exact this
          have a6 : w0.cell? ⟨b, o + 6, none⟩ = some (.int .u8 y6) := by have := bat_get H0.out (show 6 < ls.length by omega); rw [Y6.out] at this; exact this
          have XB := Lib.hid (box_keep hb0 ⟨xc0, xc1, xc2, xc3, xc4, xf0, xf1, xf2, xf3, xf4⟩)
          clear hb0 xc0 xc1 xc2 xc3 xc4 xf0 xf1 xf2 xf3 xf4
          refine heldTake 0 (.slice (some ⟨b, o, none⟩) ls.length c) rfl (by kernel_rfl) (by kernel_rfl) (by kernel_rfl) (fun _ _ _ h => h) HS (by rfl) (fun wq hC => by go_simp) ?_
          refine heldTake 1 (.pointer (some ⟨b, o, none⟩)) rfl (by kernel_rfl) (by kernel_rfl) (by kernel_rfl) (fun _ _ _ h => h) HS (by rfl) (fun wq hC => by go_simp) ?_
          refine heldTake 2 (.int .u8 y0) rfl (by kernel_rfl) (by kernel_rfl) (by kernel_rfl) (fun _ _ _ h => h) HS (by rfl) (fun wq hC => by have := hC.keep a0; go_simp) ?_
          refine heldTake 3 (.slice (some ⟨b, o, none⟩) ls.length c) rfl (by kernel_rfl) (by kernel_rfl) (by kernel_rfl) (fun _ _ _ h => h) HS (by rfl) (fun wq hC => by go_simp) ?_
          refine heldTake 4 (V3) rfl (by kernel_rfl) (by kernel_rfl) (by kernel_rfl) (fun _ _ _ h => h) HS (by rfl) (fun wq hC => by go_simp) ?_
          refine heldTake 6 (.slice (some ⟨b, o, none⟩) ls.length c) rfl (by kernel_rfl) (by kernel_rfl) (by kernel_rfl) (fun _ _ _ h => h) HS (by rfl) (fun wq hC => by go_simp) ?_
          refine heldTake 7 (.pointer (some ⟨b, o + 5, none⟩)) rfl (by kernel_rfl) (by kernel_rfl) (by kernel_rfl) (fun _ _ _ h => h) HS (by rfl) (fun wq hC => by go_simp) ?_
          refine heldTake 8 (.int .u8 y5) rfl (by kernel_rfl) (by kernel_rfl) (by kernel_rfl) (fun _ _ _ h => h) HS (by rfl) (fun wq hC => by have := hC.keep a5; go_simp) ?_
          refine heldTake 9 (.slice (some ⟨b, o, none⟩) ls.length c) rfl (by kernel_rfl) (by kernel_rfl) (by kernel_rfl) (fun _ _ _ h => h) HS (by rfl) (fun wq hC => by go_simp) ?_
          refine heldTake 10 (.pointer (some ⟨b, o + 6, none⟩)) rfl (by kernel_rfl) (by kernel_rfl) (by kernel_rfl) (fun _ _ _ h => h) HS (by rfl) (fun wq hC => by go_simp) ?_
          refine heldTake 11 (.int .u8 y6) rfl (by kernel_rfl) (by kernel_rfl) (by kernel_rfl) (fun _ _ _ h => h) HS (by rfl) (fun wq hC => by have := hC.keep a6; go_simp) ?_
          refine heldTake 12 (.bool (y6 == 1)) rfl (by kernel_rfl) (by kernel_rfl) (by kernel_rfl) (fun _ _ _ h => h) HS (by rfl) (fun wq hC => by go_simp) ?_
          refine heldTake 13 (.slice (some ⟨b, o, none⟩) ls.length c) rfl (by kernel_rfl) (by kernel_rfl) (by kernel_rfl) (fun _ _ _ h => h) HS (by rfl) (fun wq hC => by go_simp) ?_
          refine heldTake 14 (.int .i64 m) rfl (by kernel_rfl) (by kernel_rfl) (by kernel_rfl) (fun _ _ _ h => h) HS (by rfl) (fun wq hC => by go_simp) ?_
          refine heldTake 15 (.int .i64 (IntKind.i64.wrap (9 + (m : Int)))) rfl (by kernel_rfl) (by kernel_rfl) (by kernel_rfl) (fun _ _ _ h => h) HS (by rfl) (fun wq hC => by go_simp) ?_
          refine heldTake 16 (V4) rfl (by kernel_rfl) (by kernel_rfl) (by kernel_rfl) (fun _ _ _ h => h) HS (by rfl) (fun wq hC => by go_simp) ?_
          refine heldTwo 5 19 rfl rfl (by kernel_rfl) ?_ ?_
          · intro K hK
            go_simp
            with_reducible refine Calls.mono (numberE _ (HB3.out _ _ H0.out) (u8s_drop hu _) (by rw [List.length_drop]; omega) HNT.out) ?_
            rintro e1 w1 ⟨rfl, hb1⟩
            refine hK _ _ hb1 ?_
            have h01 := hb1.size
            clear hK K
            refine heldTwo 17 19 rfl rfl (by kernel_rfl) ?_ ?_
            · intro K hK
              go_simp
              with_reducible refine Calls.mono (cloneB _ (HB4.out _ (H0.out.below hb1)) (by have := HLX.out; omega)) ?_
              rintro e2 w2 ⟨v2, rfl, o2, hb2⟩
              have HS : BelowC w0 w2 := bstep hb1 hb2
              obtain ⟨A2, c2, rfl⟩ := len_of_own o2
              refine hK _ _ HS ?_
              clear hK K
              refine heldTake 18 (.agg #[.int .u8 y0, .int .u32 (nt), .int .u8 y5, .bool (y6 == 1), .slice A2 tx.length c2]) rfl (by kernel_rfl) (by kernel_rfl) (by kernel_rfl) (fun _ _ _ h => h) HS (by rfl) (fun wq hC => by go_simp) ?_
              refine heldOne 19 rfl (by kernel_rfl) ?_
              intro K hK
              go_simp
              refine hK _ _ (by repeat (first | exact HS | refine bset ?_ (by first | (simp; done) | (simp; omega)) _ | refine balloc ?_ _)) ?_
              clear hK K
              refine heldOne 20 rfl (by kernel_rfl) ?_
              intro K hK
              go_simp
              refine hK _ _ (by repeat (first | exact HS | refine bset ?_ (by first | (simp; done) | (simp; omega)) _ | refine balloc ?_ _)) ?_
              clear hK K
              refine wpAnyH_done (by kernel_rfl) ?_ _
              obtain ⟨w5, hw5⟩ : ∃ w5, w5 = (w2.alloc (.cells #[.int .u8 y0, .int .u32 (nt), .int .u8 y5, .bool (y6 == 1), .slice A2 tx.length c2] 34)) := ⟨_, rfl⟩
              rw [← hw5]
              have S5 := Lib.hid (show Below w.heap.size w w5 from by subst hw5; exact bstep DW.out (w1 := (w2.alloc (.cells #[.int .u8 y0, .int .u32 (nt), .int .u8 y5, .bool (y6 == 1), .slice A2 tx.length c2] 34))) (by repeat (first | exact HS | refine bset ?_ (by first | (simp; done) | (simp; omega)) _ | refine balloc ?_ _)))
              have B5 := Lib.hid (show Box w5 w.heap.size from by subst hw5; exact box_keep (balloc (Below.refl _ _) _) (box_keep (W := w0) HS XB.out))
              have o5 := Lib.hid (show w5.ownsRow (w.heap.size + 1) 5 1 (.slice A2 tx.length c2) tx.length (u8s tx) from by subst hw5; exact own_lower (own_below o2 (balloc (Below.refl _ _) _)) (by have := cell_lt XB.out.c0; (try simp only [World.size_alloc]); omega))
              have q0 : w5.cell? ⟨w2.heap.size, 0, none⟩ = some (.int .u8 y0) := by subst hw5; go_simp
              have q1 : w5.cell? ⟨w2.heap.size, 1, none⟩ = some (.int .u32 (nt)) := by subst hw5; go_simp
              have q2 : w5.cell? ⟨w2.heap.size, 2, none⟩ = some (.int .u8 y5) := by subst hw5; go_simp
              have q3 : w5.cell? ⟨w2.heap.size, 3, none⟩ = some (.bool (y6 == 1)) := by subst hw5; go_simp
              have q4 : w5.cell? ⟨w2.heap.size, 4, none⟩ = some (.slice A2 tx.length c2) := by subst hw5; go_simp
              clear hw5 o2
              obtain ⟨xc0, xc1, xc2, xc3, xc4, xf0, xf1, xf2, xf3, xf4⟩ := B5.out
              go_wp2_with fail
              with_reducible refine Calls.mono (rightD _ _ _ _ _ _ _ _ z0 z5) ?_
              rintro e8 w8 ⟨rfl, hb8⟩
              have S8 := Lib.hid (bstep S5.out hb8)
              have o8 := Lib.hid (own_below o5.out hb8)
              have XQ := box_keep hb8 B5.out
              have hp8 : some w.heap.size ≠ (Value.slice A2 tx.length c2).ownBlock := fun e => by have := (o8.out.lt _ e.symm).1; omega
              clear xc0 xc1 xc2 xc3 xc4 xf0 xf1 xf2 xf3 xf4
              obtain ⟨xc0, xc1, xc2, xc3, xc4, xf0, xf1, xf2, xf3, xf4⟩ := XQ
              have q0 := keep hb8 q0
              have q1 := keep hb8 q1
              have q2 := keep hb8 q2
              have q3 := keep hb8 q3
              have q4 := keep hb8 q4
              clear hb8
              cases hrt : rightB y0 y5 (y6 == 1) tx.length with
              | true =>
                have HS9 := Lib.hid (show first ls = some ⟨y0, nt, y5, y6 == 1, tx⟩ from by rw [HFX.out, if_pos hrt])
                go_wp2_with fail
                refine bodyPost_ret (v := .tuple #[.agg #[.int .u8 y0, .int .u32 (nt), .int .u8 y5, .bool (y6 == 1), .slice A2 tx.length c2], .int .i64 (9 + (m : Int) + 4)]) ?_ rfl ?_
                · simp [results, Try.results56, go_sem, *]
                · rw [HS9.out]
                  exact ⟨.slice A2 tx.length c2, by rw [show (9 : Int) + (m : Int) + 4 = (tx.length : Int) + 13 from by have := HLX.out; omega]; rfl, own_lower (own_setB (own_setB (own_setB (own_setB (own_setB o8.out hp8) hp8) hp8) hp8) hp8) (by omega), bset (bset (bset (bset (bset S8.out (by simp) _) (by simp) _) (by simp) _) (by simp) _) (by simp) _⟩
              | false =>
                have HN := Lib.hid (show first ls = none from by rw [HFX.out, if_neg (by rw [hrt]; simp)])
                go_wp2_with fail
                refine bodyPost_ret (v := .tuple #[zeroRec, .int .i64 0]) ?_ rfl ?_
                · simp [results, Try.results56, go_sem, zeroRec, *]
                · rw [HN.out]; exact ⟨.slice none 0 0, rfl, World.ownsRow_nil _ _ _ _, (by repeat (first | with_reducible exact S8.out | with_reducible refine balloc ?_ _ | with_reducible refine bset ?_ (by first | (simp; done) | (simp; omega)) _))⟩
            · intro K hK
              go_simp
              refine hK _ _ (bstep hb1 (balloc (Below.refl _ _) _)) ?_
              clear hK K
              have QB := Lib.hid (box_alloc w1)
              have hpq : w.heap.size ≠ w1.heap.size := by have := cell_lt XB.out.c0; have := hb1.size; omega
              refine heldOne 17 rfl (by kernel_rfl) ?_
              intro K hK
              go_simp
              with_reducible refine Calls.mono (cloneB _ (HB4.out _ ((H0.out.below hb1).below (balloc (Below.refl _ _) _))) (by have := HLX.out; omega)) ?_
              rintro e2 w2 ⟨v2, rfl, o2, hb2⟩
              have HS : BelowC w0 w2 := bstep (bstep hb1 (balloc (Below.refl _ _) _)) hb2
              have QB := Lib.hid (box_keep hb2 QB.out)
              obtain ⟨A2, c2, rfl⟩ := len_of_own o2
              refine hK _ _ HS ?_
              clear hK K
              refine heldTake 18 (.agg #[.int .u8 y0, .int .u32 (nt), .int .u8 y5, .bool (y6 == 1), .slice A2 tx.length c2]) rfl (by kernel_rfl) (by kernel_rfl) (by kernel_rfl) (fun _ _ _ h => h) HS (by rfl) (fun wq hC => by go_simp) ?_
              obtain ⟨zc0, zc1, zc2, zc3, zc4, zf0, zf1, zf2, zf3, zf4⟩ := QB.out
              refine heldOne 20 rfl (by kernel_rfl) ?_
              intro K hK
              go_simp
              refine hK _ _ (by repeat (first | exact HS | refine bset ?_ (by first | (simp; done) | (simp; omega)) _ | refine balloc ?_ _)) ?_
              clear hK K
              refine wpAnyH_done (by kernel_rfl) ?_ _
              obtain ⟨w5, hw5⟩ : ∃ w5, w5 = (((((w2.setCell ⟨w1.heap.size, 0, none⟩ (.int .u8 y0)).setCell ⟨w1.heap.size, 1, none⟩ (.int .u32 (nt))).setCell ⟨w1.heap.size, 2, none⟩ (.int .u8 y5)).setCell ⟨w1.heap.size, 3, none⟩ (.bool (y6 == 1))).setCell ⟨w1.heap.size, 4, none⟩ (.slice A2 tx.length c2)) := ⟨_, rfl⟩
              rw [← hw5]
              have S5 := Lib.hid (show Below w.heap.size w w5 from by subst hw5; exact bstep DW.out (w1 := (((((w2.setCell ⟨w1.heap.size, 0, none⟩ (.int .u8 y0)).setCell ⟨w1.heap.size, 1, none⟩ (.int .u32 (nt))).setCell ⟨w1.heap.size, 2, none⟩ (.int .u8 y5)).setCell ⟨w1.heap.size, 3, none⟩ (.bool (y6 == 1))).setCell ⟨w1.heap.size, 4, none⟩ (.slice A2 tx.length c2))) (by repeat (first | exact HS | refine bset ?_ (by first | (simp; done) | (simp; omega)) _ | refine balloc ?_ _)))
              have B5 := Lib.hid (show Box w5 w.heap.size from by subst hw5; exact box_set (box_set (box_set (box_set (box_set (box_keep (W := w0) HS XB.out) hpq) hpq) hpq) hpq) hpq)
              have hoq : some (w1.heap.size) ≠ (Value.slice A2 tx.length c2).ownBlock := fun e => by have := (o2.lt _ e.symm).1; (try simp at this); omega
              have o5 := Lib.hid (show w5.ownsRow (w.heap.size + 1) 5 1 (.slice A2 tx.length c2) tx.length (u8s tx) from by subst hw5; exact own_lower (own_setB (own_setB (own_setB (own_setB (own_setB o2 hoq) hoq) hoq) hoq) hoq) (by have := cell_lt XB.out.c0; (try simp only [World.size_alloc]); omega))
              have q0 : w5.cell? ⟨w1.heap.size, 0, none⟩ = some (.int .u8 y0) := by subst hw5; go_simp
              have q1 : w5.cell? ⟨w1.heap.size, 1, none⟩ = some (.int .u32 (nt)) := by subst hw5; go_simp
              have q2 : w5.cell? ⟨w1.heap.size, 2, none⟩ = some (.int .u8 y5) := by subst hw5; go_simp
              have q3 : w5.cell? ⟨w1.heap.size, 3, none⟩ = some (.bool (y6 == 1)) := by subst hw5; go_simp
              have q4 : w5.cell? ⟨w1.heap.size, 4, none⟩ = some (.slice A2 tx.length c2) := by subst hw5; go_simp
              clear hw5 o2
              obtain ⟨xc0, xc1, xc2, xc3, xc4, xf0, xf1, xf2, xf3, xf4⟩ := B5.out
              go_wp2_with fail
              with_reducible refine Calls.mono (rightD _ _ _ _ _ _ _ _ z0 z5) ?_
              rintro e8 w8 ⟨rfl, hb8⟩
              have S8 := Lib.hid (bstep S5.out hb8)
              have o8 := Lib.hid (own_below o5.out hb8)
              have XQ := box_keep hb8 B5.out
              have hp8 : some w.heap.size ≠ (Value.slice A2 tx.length c2).ownBlock := fun e => by have := (o8.out.lt _ e.symm).1; omega
              clear xc0 xc1 xc2 xc3 xc4 xf0 xf1 xf2 xf3 xf4
              obtain ⟨xc0, xc1, xc2, xc3, xc4, xf0, xf1, xf2, xf3, xf4⟩ := XQ
              have q0 := keep hb8 q0
              have q1 := keep hb8 q1
              have q2 := keep hb8 q2
              have q3 := keep hb8 q3
              have q4 := keep hb8 q4
              clear hb8
              cases hrt : rightB y0 y5 (y6 == 1) tx.length with
              | true =>
                have HS9 := Lib.hid (show first ls = some ⟨y0, nt, y5, y6 == 1, tx⟩ from by rw [HFX.out, if_pos hrt])
                go_wp2_with fail
                refine bodyPost_ret (v := .tuple #[.agg #[.int .u8 y0, .int .u32 (nt), .int .u8 y5, .bool (y6 == 1), .slice A2 tx.length c2], .int .i64 (9 + (m : Int) + 4)]) ?_ rfl ?_
                · simp [results, Try.results56, go_sem, *]
                · rw [HS9.out]
                  exact ⟨.slice A2 tx.length c2, by rw [show (9 : Int) + (m : Int) + 4 = (tx.length : Int) + 13 from by have := HLX.out; omega]; rfl, own_lower (own_setB (own_setB (own_setB (own_setB (own_setB o8.out hp8) hp8) hp8) hp8) hp8) (by omega), bset (bset (bset (bset (bset S8.out (by simp) _) (by simp) _) (by simp) _) (by simp) _) (by simp) _⟩
              | false =>
                have HN := Lib.hid (show first ls = none from by rw [HFX.out, if_neg (by rw [hrt]; simp)])
                go_wp2_with fail
                refine bodyPost_ret (v := .tuple #[zeroRec, .int .i64 0]) ?_ rfl ?_
                · simp [results, Try.results56, go_sem, zeroRec, *]
                · rw [HN.out]; exact ⟨.slice none 0 0, rfl, World.ownsRow_nil _ _ _ _, (by repeat (first | with_reducible exact S8.out | with_reducible refine balloc ?_ _ | with_reducible refine bset ?_ (by first | (simp; done) | (simp; omega)) _))⟩
          · intro K hK
            go_simp
            refine hK _ _ (balloc (Below.refl _ _) _) ?_
            clear hK K
            have QB := Lib.hid (box_alloc w0)
            have hpq : w.heap.size ≠ w0.heap.size := by have := cell_lt XB.out.c0; omega
            refine heldOne 5 rfl (by kernel_rfl) ?_
            intro K hK
            go_simp
            with_reducible refine Calls.mono (numberE _ (HB3.out _ _ (H0.out.below (balloc (Below.refl _ _) _))) (u8s_drop hu _) (by rw [List.length_drop]; omega) HNT.out) ?_
            rintro e1 w1 ⟨rfl, hb1⟩
            have QB := Lib.hid (box_keep hb1 QB.out)
            have hs1 : w0.heap.size < w1.heap.size := by have := hb1.size; simp at this; omega
            have hb1 : Below w0.heap.size w0 w1 := bstep (balloc (Below.refl _ _) _) hb1
            refine hK _ _ hb1 ?_
            have h01 := hb1.size
            clear hK K
            refine heldOne 17 rfl (by kernel_rfl) ?_
            intro K hK
            go_simp
            with_reducible refine Calls.mono (cloneB _ (HB4.out _ (H0.out.below hb1)) (by have := HLX.out; omega)) ?_
            rintro e2 w2 ⟨v2, rfl, o2, hb2⟩
            have HS : BelowC w0 w2 := bstep hb1 hb2
            have QB := Lib.hid (box_keep hb2 QB.out)
            obtain ⟨A2, c2, rfl⟩ := len_of_own o2
            refine hK _ _ HS ?_
            clear hK K
            refine heldTake 18 (.agg #[.int .u8 y0, .int .u32 (nt), .int .u8 y5, .bool (y6 == 1), .slice A2 tx.length c2]) rfl (by kernel_rfl) (by kernel_rfl) (by kernel_rfl) (fun _ _ _ h => h) HS (by rfl) (fun wq hC => by go_simp) ?_
            obtain ⟨zc0, zc1, zc2, zc3, zc4, zf0, zf1, zf2, zf3, zf4⟩ := QB.out
            refine heldOne 20 rfl (by kernel_rfl) ?_
            intro K hK
            go_simp
            refine hK _ _ (by repeat (first | exact HS | refine bset ?_ (by first | (simp; done) | (simp; omega)) _ | refine balloc ?_ _)) ?_
            clear hK K
            refine wpAnyH_done (by kernel_rfl) ?_ _
            obtain ⟨w5, hw5⟩ : ∃ w5, w5 = (((((w2.setCell ⟨w0.heap.size, 0, none⟩ (.int .u8 y0)).setCell ⟨w0.heap.size, 1, none⟩ (.int .u32 (nt))).setCell ⟨w0.heap.size, 2, none⟩ (.int .u8 y5)).setCell ⟨w0.heap.size, 3, none⟩ (.bool (y6 == 1))).setCell ⟨w0.heap.size, 4, none⟩ (.slice A2 tx.length c2)) := ⟨_, rfl⟩
            rw [← hw5]
            have S5 := Lib.hid (show Below w.heap.size w w5 from by subst hw5; exact bstep DW.out (w1 := (((((w2.setCell ⟨w0.heap.size, 0, none⟩ (.int .u8 y0)).setCell ⟨w0.heap.size, 1, none⟩ (.int .u32 (nt))).setCell ⟨w0.heap.size, 2, none⟩ (.int .u8 y5)).setCell ⟨w0.heap.size, 3, none⟩ (.bool (y6 == 1))).setCell ⟨w0.heap.size, 4, none⟩ (.slice A2 tx.length c2))) (by repeat (first | exact HS | refine bset ?_ (by first | (simp; done) | (simp; omega)) _ | refine balloc ?_ _)))
            have B5 := Lib.hid (show Box w5 w.heap.size from by subst hw5; exact box_set (box_set (box_set (box_set (box_set (box_keep (W := w0) HS XB.out) hpq) hpq) hpq) hpq) hpq)
            have hoq : some (w0.heap.size) ≠ (Value.slice A2 tx.length c2).ownBlock := fun e => by have := (o2.lt _ e.symm).1; (try simp at this); omega
            have o5 := Lib.hid (show w5.ownsRow (w.heap.size + 1) 5 1 (.slice A2 tx.length c2) tx.length (u8s tx) from by subst hw5; exact own_lower (own_setB (own_setB (own_setB (own_setB (own_setB o2 hoq) hoq) hoq) hoq) hoq) (by have := cell_lt XB.out.c0; (try simp only [World.size_alloc]); omega))
            have q0 : w5.cell? ⟨w0.heap.size, 0, none⟩ = some (.int .u8 y0) := by subst hw5; go_simp
            have q1 : w5.cell? ⟨w0.heap.size, 1, none⟩ = some (.int .u32 (nt)) := by subst hw5; go_simp
            have q2 : w5.cell? ⟨w0.heap.size, 2, none⟩ = some (.int .u8 y5) := by subst hw5; go_simp
            have q3 : w5.cell? ⟨w0.heap.size, 3, none⟩ = some (.bool (y6 == 1)) := by subst hw5; go_simp
            have q4 : w5.cell? ⟨w0.heap.size, 4, none⟩ = some (.slice A2 tx.length c2) := by subst hw5; go_simp
            clear hw5 o2
            obtain ⟨xc0, xc1, xc2, xc3, xc4, xf0, xf1, xf2, xf3, xf4⟩ := B5.out
            go_wp2_with fail
            with_reducible refine Calls.mono (rightD _ _ _ _ _ _ _ _ z0 z5) ?_
            rintro e8 w8 ⟨rfl, hb8⟩
            have S8 := Lib.hid (bstep S5.out hb8)
            have o8 := Lib.hid (own_below o5.out hb8)
            have XQ := box_keep hb8 B5.out
            have hp8 : some w.heap.size ≠ (Value.slice A2 tx.length c2).ownBlock := fun e => by have := (o8.out.lt _ e.symm).1; omega
            clear xc0 xc1 xc2 xc3 xc4 xf0 xf1 xf2 xf3 xf4
            obtain ⟨xc0, xc1, xc2, xc3, xc4, xf0, xf1, xf2, xf3, xf4⟩ := XQ
            have q0 := keep hb8 q0
            have q1 := keep hb8 q1
            have q2 := keep hb8 q2
            have q3 := keep hb8 q3
            have q4 := keep hb8 q4
            clear hb8
            cases hrt : rightB y0 y5 (y6 == 1) tx.length with
            | true =>
              have HS9 := Lib.hid (show first ls = some ⟨y0, nt, y5, y6 == 1, tx⟩ from by rw [HFX.out, if_pos hrt])
              go_wp2_with fail
              refine bodyPost_ret (v := .tuple #[.agg #[.int .u8 y0, .int .u32 (nt), .int .u8 y5, .bool (y6 == 1), .slice A2 tx.length c2], .int .i64 (9 + (m : Int) + 4)]) ?_ rfl ?_
              · simp [results, Try.results56, go_sem, *]
              · rw [HS9.out]
                exact ⟨.slice A2 tx.length c2, by rw [show (9 : Int) + (m : Int) + 4 = (tx.length : Int) + 13 from by have := HLX.out; omega]; rfl, own_lower (own_setB (own_setB (own_setB (own_setB (own_setB o8.out hp8) hp8) hp8) hp8) hp8) (by omega), bset (bset (bset (bset (bset S8.out (by simp) _) (by simp) _) (by simp) _) (by simp) _) (by simp) _⟩
            | false =>
              have HN := Lib.hid (show first ls = none from by rw [HFX.out, if_neg (by rw [hrt]; simp)])
              go_wp2_with fail
              refine bodyPost_ret (v := .tuple #[zeroRec, .int .i64 0]) ?_ rfl ?_
              · simp [results, Try.results56, go_sem, zeroRec, *]
              · rw [HN.out]; exact ⟨.slice none 0 0, rfl, World.ownsRow_nil _ _ _ _, (by repeat (first | with_reducible exact S8.out | with_reducible refine balloc ?_ _ | with_reducible refine bset ?_ (by first | (simp; done) | (simp; omega)) _))⟩
      · have ne : (num4 (ls.drop (m + 9)) != crc (ls.take (m + 9))) = true := by simpa using hs
        have HN := Lib.hid (show first ls = none from by rw [HF.out, if_neg hlm, if_neg hs])
        refine wpQ_region (by kernel_rfl) (by kernel_rfl) ?_
        apply wpQ_do
        · rfl
        · intro wq hC; go_light; first | (go_simp; first | done | rfl | exact ⟨rfl, rfl⟩) | (have k0 := hC.keep k9; go_simp; first | done | rfl | exact ⟨rfl, rfl⟩)
        simp only [Act.put, List.setIfInBounds_toArray, List.set_cons_zero, List.set_cons_succ]
        apply wpQ_do
        · rfl
        · intro wq hC; go_light; first | (go_simp; first | done | rfl | exact ⟨rfl, rfl⟩) | (have k0 := hC.keep k9; go_simp; first | done | rfl | exact ⟨rfl, rfl⟩)
        simp only [Act.put, List.setIfInBounds_toArray, List.set_cons_zero, List.set_cons_succ]
        apply wpQ_do
        · rfl
        · intro wq hC; go_light; first | (go_simp; first | done | rfl | exact ⟨rfl, rfl⟩) | (have k0 := hC.keep k9; go_simp; first | done | rfl | exact ⟨rfl, rfl⟩)
        simp only [Act.put, List.setIfInBounds_toArray, List.set_cons_zero, List.set_cons_succ]
        apply wpQ_do
        · rfl
        · intro wq hC; go_light; first | (go_simp; first | done | rfl | exact ⟨rfl, rfl⟩) | (have k0 := hC.keep k9; go_simp; first | done | rfl | exact ⟨rfl, rfl⟩)
        simp only [Act.put, List.setIfInBounds_toArray, List.set_cons_zero, List.set_cons_succ]
        apply wpQ_do
        · rfl
        · intro wq hC; go_light; first | (go_simp; first | done | rfl | exact ⟨rfl, rfl⟩) | (have k0 := hC.keep k9; go_simp; first | done | rfl | exact ⟨rfl, rfl⟩)
        simp only [Act.put, List.setIfInBounds_toArray, List.set_cons_zero, List.set_cons_succ]
        apply wpQ_do
        · rfl
        · intro wq hC; go_light; first | (go_simp; first | done | rfl | exact ⟨rfl, rfl⟩) | (have k0 := hC.keep k9; go_simp; first | done | rfl | exact ⟨rfl, rfl⟩)
        simp only [Act.put, List.setIfInBounds_toArray, List.set_cons_zero, List.set_cons_succ]
        apply wpQ_do
        · rfl
        · intro wq hC; go_light; first | (go_simp; first | done | rfl | exact ⟨rfl, rfl⟩) | (have k0 := hC.keep k9; go_simp; first | done | rfl | exact ⟨rfl, rfl⟩)
        simp only [Act.put, List.setIfInBounds_toArray, List.set_cons_zero, List.set_cons_succ]
        apply wpQ_do
        · rfl
        · intro wq hC; go_light; first | (go_simp; first | done | rfl | exact ⟨rfl, rfl⟩) | (have k0 := hC.keep k9; go_simp; first | done | rfl | exact ⟨rfl, rfl⟩)
        simp only [Act.put, List.setIfInBounds_toArray, List.set_cons_zero, List.set_cons_succ]
        apply wpQ_do
        · rfl
        · intro wq hC; go_light; first | (go_simp; first | done | rfl | exact ⟨rfl, rfl⟩) | (have k0 := hC.keep k9; go_simp; first | done | rfl | exact ⟨rfl, rfl⟩)
        simp only [Act.put, List.setIfInBounds_toArray, List.set_cons_zero, List.set_cons_succ]
        apply wpQ_do
        · rfl
        · intro wq hC; go_light; go_simp; refine Calls.mono (numberD _ (HB1.out _ _ (H9.out.below hC)) (u8s_drop hu _) (by rw [List.length_drop]; omega)) ?_; rintro eq wq2 ⟨rfl, hbq⟩; exact ⟨rfl, hC.step hbq⟩
        simp only [Act.put, List.setIfInBounds_toArray, List.set_cons_zero, List.set_cons_succ]
        apply wpQ_do
        · rfl
        · intro wq hC; go_light; first | (go_simp; first | done | rfl | exact ⟨rfl, rfl⟩) | (have k0 := hC.keep k9; go_simp; first | done | rfl | exact ⟨rfl, rfl⟩)
        simp only [Act.put, List.setIfInBounds_toArray, List.set_cons_zero, List.set_cons_succ]
        apply wpQ_do
        · rfl
        · intro wq hC; go_light; first | (go_simp; first | done | rfl | exact ⟨rfl, rfl⟩) | (have k0 := hC.keep k9; go_simp; first | done | rfl | exact ⟨rfl, rfl⟩)
        simp only [Act.put, List.setIfInBounds_toArray, List.set_cons_zero, List.set_cons_succ]
        apply wpQ_do
        · rfl
        · intro wq hC; go_light; first | (go_simp; first | done | rfl | exact ⟨rfl, rfl⟩) | (have k0 := hC.keep k9; go_simp; first | done | rfl | exact ⟨rfl, rfl⟩)
        simp only [Act.put, List.setIfInBounds_toArray, List.set_cons_zero, List.set_cons_succ]
        apply wpQ_do
        · rfl
        · intro wq hC; go_light; first | (go_simp; first | done | rfl | exact ⟨rfl, rfl⟩) | (have k0 := hC.keep k9; go_simp; first | done | rfl | exact ⟨rfl, rfl⟩)
        simp only [Act.put, List.setIfInBounds_toArray, List.set_cons_zero, List.set_cons_succ]
        apply wpQ_do
        · rfl
        · intro wq hC; go_light; go_simp; refine Calls.mono (sumC _ (HB2.out _ _ (H9.out.below hC)) (u8s_take' hu _)) ?_; rintro eq wq2 ⟨rfl, hbq⟩; exact ⟨rfl, hC.step hbq⟩
        simp only [Act.put, List.setIfInBounds_toArray, List.set_cons_zero, List.set_cons_succ]
        apply wpQ_do
        · rfl
        · intro wq hC; go_light; first | (go_simp; first | done | rfl | exact ⟨rfl, rfl⟩) | (have k0 := hC.keep k9; go_simp; first | done | rfl | exact ⟨rfl, rfl⟩)
        simp only [Act.put, List.setIfInBounds_toArray, List.set_cons_zero, List.set_cons_succ]
        apply wpQ_do
        · rfl
        · intro wq hC; go_light; first | (go_simp; first | done | rfl | exact ⟨rfl, rfl⟩) | (have k0 := hC.keep k9; go_simp; first | done | rfl | exact ⟨rfl, rfl⟩)
        simp only [Act.put, List.setIfInBounds_toArray, List.set_cons_zero, List.set_cons_succ]
        apply wpQ_do
        · rfl
        · intro wq hC; go_light; first | (go_simp; first | done | rfl | exact ⟨rfl, rfl⟩) | (have k0 := hC.keep k9; go_simp; first | done | rfl | exact ⟨rfl, rfl⟩)
        simp only [Act.put, List.setIfInBounds_toArray, List.set_cons_zero, List.set_cons_succ]
        apply wpQ_not
        · rfl
        simp only [Act.put, List.setIfInBounds_toArray, List.set_cons_zero, List.set_cons_succ]
        apply wpQ_not
        · rfl
        simp only [Act.put, List.setIfInBounds_toArray, List.set_cons_zero, List.set_cons_succ]
        apply wpQ_not
        · rfl
        simp only [Act.put, List.setIfInBounds_toArray, List.set_cons_zero, List.set_cons_succ]
        apply wpQ_not
        · rfl
        simp only [Act.put, List.setIfInBounds_toArray, List.set_cons_zero, List.set_cons_succ]
        apply wpQ_do
        · rfl
        · intro wq hC; go_light; first | (go_simp; first | done | rfl | exact ⟨rfl, rfl⟩) | (have k0 := hC.keep k9; go_simp; first | done | rfl | exact ⟨rfl, rfl⟩)
        simp only [Act.put, List.setIfInBounds_toArray, List.set_cons_zero, List.set_cons_succ]
        apply wpQ_nil
        intro w10 hb10
        have hb10 : Below _ _ _ := hb10
        have D1 := Lib.hid (bstep D0 hb10)
        have XB := box_keep hb10 ⟨xc0, xc1, xc2, xc3, xc4, xf0, xf1, xf2, xf3, xf4⟩
        clear xc0 xc1 xc2 xc3 xc4 xf0 xf1 xf2 xf3 xf4 xz
        obtain ⟨xc0, xc1, xc2, xc3, xc4, xf0, xf1, xf2, xf3, xf4⟩ := XB
        have xz := cell_lt xc0
        go_wp2_with fail
        refine bodyPost_ret (v := .tuple #[zeroRec, .int .i64 0]) ?_ rfl ?_
        · simp [results, Try.results56, go_sem, zeroRec, *]
        · rw [HN.out]; exact ⟨.slice none 0 0, rfl, World.ownsRow_nil _ _ _ _, (by repeat (first | with_reducible exact D1.out | with_reducible refine balloc ?_ _ | with_reducible refine bset ?_ (by first | (simp; done) | (simp; omega)) _))⟩
end Go.Proofs.Ythgaphfelpnclaa
