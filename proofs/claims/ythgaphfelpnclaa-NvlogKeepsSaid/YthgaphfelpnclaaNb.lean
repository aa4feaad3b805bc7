/- The log: a check of bytes; four bytes as a number, and the other way about. -/
import Derived.Test.YthgaphfelpnclaaNa
import Derived.Maps.AppendAt
set_option linter.unusedVariables false
set_option linter.unusedSimpArgs false
namespace Go.Proofs.Ythgaphfelpnclaa
open Go.RowKit
theorem grown_alloc {w w' : World} {o : Obj} {row : Option Nat} (g : (w.alloc o).grownBy w' row) : w.grownBy w' row :=
  World.grownBy.trans (b := w.alloc o) ⟨(balloc (Below.refl _ w) o).os, (balloc (Below.refl _ w) o).tape, (balloc (Below.refl _ w) o).output, (balloc (Below.refl _ w) o).size, fun k hk _ => (balloc (Below.refl _ w) o).block k hk⟩ g
theorem fold_take {f : Int → Int → Int} {s : Int} {ls : List Int} {k : Nat} (h : k < ls.length) : (ls.take (k + 1)).foldl f s = f ((ls.take k).foldl f s) (ls.getD k 0) := by
  rw [List.take_succ_eq_append_getElem h, List.foldl_append]
  simp [List.getD, h]
theorem u8s_getD {ls : List Int} (h : U8s ls) (k : Nat) : 0 ≤ ls.getD k 0 ∧ ls.getD k 0 ≤ 255 := by
  by_cases hk : k < ls.length
  · have := h (ls[k]) (List.getElem_mem hk)
    simpa [List.getD, hk] using this
  · simp [List.getD, hk]
theorem wrap_u32 (n : Int) : IntKind.u32.wrap n = n % 4294967296 := by simp [IntKind.wrap, IntKind.bits, IntKind.signed]
theorem or_u32 (a b : Nat) (ha : a < 4294967296) (hb : b < 4294967296) : bits .or .u32 (a : Int) (b : Int) = ((a ||| b : Nat) : Int) := by
  have hx : a ||| b < 2 ^ 32 := Nat.or_lt_two_pow (by omega) (by omega)
  have h1 : (BitVec.ofInt 32 (a : Int)).toNat = a := by
    rw [BitVec.ofInt_natCast, BitVec.toNat_ofNat]; exact Nat.mod_eq_of_lt (by omega)
  have h2 : (BitVec.ofInt 32 (b : Int)).toNat = b := by
    rw [BitVec.ofInt_natCast, BitVec.toNat_ofNat]; exact Nat.mod_eq_of_lt (by omega)
  show IntKind.u32.wrap ((BitVec.ofInt 32 (a : Int) ||| BitVec.ofInt 32 (b : Int)).toNat : Int) = _
  rw [BitVec.toNat_or, h1, h2, wrap_u32]
  omega
theorem or_add (a b k : Nat) (hb : b < 2 ^ k) : a * 2 ^ k ||| b = a * 2 ^ k + b := by
  rw [Nat.mul_comm, Nat.two_pow_add_eq_or_of_lt hb]
/-- Four bytes as a number. -/
def num4 (ls : List Int) : Int := ls.getD 0 0 * 16777216 + ls.getD 1 0 * 65536 + ls.getD 2 0 * 256 + ls.getD 3 0
theorem num4_or (y0 y1 y2 y3 : Int) (z0 : 0 ≤ y0 ∧ y0 ≤ 255) (z1 : 0 ≤ y1 ∧ y1 ≤ 255) (z2 : 0 ≤ y2 ∧ y2 ≤ 255) (z3 : 0 ≤ y3 ∧ y3 ≤ 255) :
    bits BinOp.or IntKind.u32 (bits BinOp.or IntKind.u32 (bits BinOp.or IntKind.u32 (IntKind.u32.wrap (IntKind.u32.wrap y0 * 16777216)) (IntKind.u32.wrap (IntKind.u32.wrap y1 * 65536))) (IntKind.u32.wrap (IntKind.u32.wrap y2 * 256))) (IntKind.u32.wrap y3) = y0 * 16777216 + y1 * 65536 + y2 * 256 + y3 := by
  obtain ⟨n0, rfl⟩ := Int.eq_ofNat_of_zero_le z0.1
  obtain ⟨n1, rfl⟩ := Int.eq_ofNat_of_zero_le z1.1
  obtain ⟨n2, rfl⟩ := Int.eq_ofNat_of_zero_le z2.1
  obtain ⟨n3, rfl⟩ := Int.eq_ofNat_of_zero_le z3.1
  simp only [wrap_u32]
  rw [show (n0 : Int) % 4294967296 * 16777216 % 4294967296 = ((n0 * 2 ^ 24 : Nat) : Int) by omega, show (n1 : Int) % 4294967296 * 65536 % 4294967296 = ((n1 * 65536 : Nat) : Int) by omega, show (n2 : Int) % 4294967296 * 256 % 4294967296 = ((n2 * 256 : Nat) : Int) by omega, show (n3 : Int) % 4294967296 = (n3 : Int) by omega]
  rw [or_u32 _ _ (by omega) (by omega), or_add n0 _ 24 (by omega), show n0 * 2 ^ 24 + n1 * 65536 = (n0 * 256 + n1) * 2 ^ 16 by omega, or_u32 _ _ (by omega) (by omega), or_add _ _ 16 (by omega),
    show (n0 * 256 + n1) * 2 ^ 16 + n2 * 256 = (n0 * 65536 + n1 * 256 + n2) * 2 ^ 8 by omega, or_u32 _ _ (by omega) (by omega), or_add _ _ 8 (by omega)]
  omega
set_option maxRecDepth 100000 in
theorem sumD {v : Value} {ls : List Int} (w : World) (h : BAt w v ls) (hu : U8s ls) :
    Calls Try.prog 59 #[v] w fun e' w' => e' = .returned (.int .u32 (bits BinOp.xor .u32 4294967295 (csum ls))) ∧ Below w.heap.size w w' := by
  have H := Lib.hid h
  obtain ⟨A, c, rfl, h2, h3, h4⟩ := h
  unfold maxLen at h3
  go_enter Try.func59, Try.ntmps59
  go_wp2_with fail
  go_loopw [3, 8] (fun s i wr => ∃ (k : Nat), k ≤ ls.length ∧ i = .int .i64 k ∧ s = .int .u32 ((ls.take k).foldl cadd 4294967295) ∧ Below w.heap.size w wr) (fun _ i _ => ls.length - (intOf i).toNat)
  case atStart => exact ⟨0, by omega, rfl, rfl, Below.refl _ _⟩
  case round =>
    obtain ⟨k, hk, rfl, rfl, hb⟩ := hrel
    by_cases hlt : k < ls.length
    · obtain ⟨b, o, rfl, _⟩ := h4 k hlt
      have hc := bat_get (H.out.below hb) hlt
      have hz := u8s_getD hu k
      have hf := fold_take (f := cadd) (s := 4294967295) hlt
      generalize ls.getD k 0 = z at hc hz hf
      go_wp2_with fail
      with_reducible refine Calls.mono (addD _ _ hz _) ?_
      rintro e1 w1 ⟨rfl, hb1⟩
      go_wp2_with fail
      go_roundw
      case rel => exact ⟨k + 1, by omega, by go_num, by rw [hf], bstep hb hb1⟩
      case measure => (try simp [intOf]) <;> omega
    · obtain rfl : k = ls.length := by omega
      go_wp2_with fail
      go_ret
      exact ⟨rfl, hb⟩
set_option maxRecDepth 100000 in
theorem numberD {v : Value} {ls : List Int} (w : World) (h : BAt w v ls) (hu : U8s ls) (hl : 4 ≤ ls.length) :
    Calls Try.prog 76 #[v] w fun e' w' => e' = .returned (.int .u32 (num4 ls)) ∧ Below w.heap.size w w' := by
  have H := Lib.hid h
  unfold num4
  obtain ⟨A, c, rfl, h2, h3, h4⟩ := h
  unfold maxLen at h3
  obtain ⟨b, o, rfl, _⟩ := h4 0 (by omega)
  have c0 := bat_get H.out (show 0 < ls.length by omega)
  have c1 := bat_get H.out (show 1 < ls.length by omega)
  have c2 := bat_get H.out (show 2 < ls.length by omega)
  have c3 := bat_get H.out (show 3 < ls.length by omega)
  rw [Nat.add_zero] at c0
  have l0 : 0 < ls.length := by omega
  have l1 : (1 : Int) < (ls.length : Int) := by omega
  have l2 : (2 : Int) < (ls.length : Int) := by omega
  have l3 : (3 : Int) < (ls.length : Int) := by omega
  have z0 := u8s_getD hu 0
  have z1 := u8s_getD hu 1
  have z2 := u8s_getD hu 2
  have z3 := u8s_getD hu 3
  generalize ls.getD 0 0 = y0 at *
  generalize ls.getD 1 0 = y1 at *
  generalize ls.getD 2 0 = y2 at *
  generalize ls.getD 3 0 = y3 at *
  go_enter Try.func76, Try.ntmps76
  go_wp2_with fail
  refine wpQ_region (by kernel_rfl) (by kernel_rfl) ?_
  apply wpQ_do
  · rfl
  · intro wq hC; go_light; first | (go_simp; first | done | rfl | exact ⟨rfl, rfl⟩) | (have k0 := hC.keep c0; have k1 := hC.keep c1; have k2 := hC.keep c2; have k3 := hC.keep c3; go_simp; first | done | rfl | exact ⟨rfl, rfl⟩)
  simp only [Act.put, List.setIfInBounds_toArray, List.set_cons_zero, List.set_cons_succ]
  apply wpQ_do
  · rfl
  · intro wq hC; go_light; first | (go_simp; first | done | rfl | exact ⟨rfl, rfl⟩) | (have k0 := hC.keep c0; have k1 := hC.keep c1; have k2 := hC.keep c2; have k3 := hC.keep c3; go_simp; first | done | rfl | exact ⟨rfl, rfl⟩)
  simp only [Act.put, List.setIfInBounds_toArray, List.set_cons_zero, List.set_cons_succ]
  apply wpQ_do
  · rfl
  · intro wq hC; go_light; first | (go_simp; first | done | rfl | exact ⟨rfl, rfl⟩) | (have k0 := hC.keep c0; have k1 := hC.keep c1; have k2 := hC.keep c2; have k3 := hC.keep c3; go_simp; first | done | rfl | exact ⟨rfl, rfl⟩)
  simp only [Act.put, List.setIfInBounds_toArray, List.set_cons_zero, List.set_cons_succ]
  apply wpQ_do
  · rfl
  · intro wq hC; go_light; first | (go_simp; first | done | rfl | exact ⟨rfl, rfl⟩) | (have k0 := hC.keep c0; have k1 := hC.keep c1; have k2 := hC.keep c2; have k3 := hC.keep c3; go_simp; first | done | rfl | exact ⟨rfl, rfl⟩)
  simp only [Act.put, List.setIfInBounds_toArray, List.set_cons_zero, List.set_cons_succ]
  apply wpQ_do
  · rfl
  · intro wq hC; go_light; first | (go_simp; first | done | rfl | exact ⟨rfl, rfl⟩) | (have k0 := hC.keep c0; have k1 := hC.keep c1; have k2 := hC.keep c2; have k3 := hC.keep c3; go_simp; first | done | rfl | exact ⟨rfl, rfl⟩)
  simp only [Act.put, List.setIfInBounds_toArray, List.set_cons_zero, List.set_cons_succ]
  apply wpQ_do
  · rfl
  · intro wq hC; go_light; first | (go_simp; first | done | rfl | exact ⟨rfl, rfl⟩) | (have k0 := hC.keep c0; have k1 := hC.keep c1; have k2 := hC.keep c2; have k3 := hC.keep c3; go_simp; first | done | rfl | exact ⟨rfl, rfl⟩)
  simp only [Act.put, List.setIfInBounds_toArray, List.set_cons_zero, List.set_cons_succ]
  apply wpQ_do
  · rfl
  · intro wq hC; go_light; first | (go_simp; first | done | rfl | exact ⟨rfl, rfl⟩) | (have k0 := hC.keep c0; have k1 := hC.keep c1; have k2 := hC.keep c2; have k3 := hC.keep c3; go_simp; first | done | rfl | exact ⟨rfl, rfl⟩)
  simp only [Act.put, List.setIfInBounds_toArray, List.set_cons_zero, List.set_cons_succ]
  apply wpQ_do
  · rfl
  · intro wq hC; go_light; first | (go_simp; first | done | rfl | exact ⟨rfl, rfl⟩) | (have k0 := hC.keep c0; have k1 := hC.keep c1; have k2 := hC.keep c2; have k3 := hC.keep c3; go_simp; first | done | rfl | exact ⟨rfl, rfl⟩)
  simp only [Act.put, List.setIfInBounds_toArray, List.set_cons_zero, List.set_cons_succ]
  apply wpQ_do
  · rfl
  · intro wq hC; go_light; first | (go_simp; first | done | rfl | exact ⟨rfl, rfl⟩) | (have k0 := hC.keep c0; have k1 := hC.keep c1; have k2 := hC.keep c2; have k3 := hC.keep c3; go_simp; first | done | rfl | exact ⟨rfl, rfl⟩)
  simp only [Act.put, List.setIfInBounds_toArray, List.set_cons_zero, List.set_cons_succ]
  apply wpQ_do
  · rfl
  · intro wq hC; go_light; first | (go_simp; first | done | rfl | exact ⟨rfl, rfl⟩) | (have k0 := hC.keep c0; have k1 := hC.keep c1; have k2 := hC.keep c2; have k3 := hC.keep c3; go_simp; first | done | rfl | exact ⟨rfl, rfl⟩)
  simp only [Act.put, List.setIfInBounds_toArray, List.set_cons_zero, List.set_cons_succ]
  apply wpQ_do
  · rfl
  · intro wq hC; go_light; first | (go_simp; first | done | rfl | exact ⟨rfl, rfl⟩) | (have k0 := hC.keep c0; have k1 := hC.keep c1; have k2 := hC.keep c2; have k3 := hC.keep c3; go_simp; first | done | rfl | exact ⟨rfl, rfl⟩)
  simp only [Act.put, List.setIfInBounds_toArray, List.set_cons_zero, List.set_cons_succ]
  apply wpQ_do
  · rfl
  · intro wq hC; go_light; first | (go_simp; first | done | rfl | exact ⟨rfl, rfl⟩) | (have k0 := hC.keep c0; have k1 := hC.keep c1; have k2 := hC.keep c2; have k3 := hC.keep c3; go_simp; first | done | rfl | exact ⟨rfl, rfl⟩)
  simp only [Act.put, List.setIfInBounds_toArray, List.set_cons_zero, List.set_cons_succ]
  apply wpQ_do
  · rfl
  · intro wq hC; go_light; first | (go_simp; first | done | rfl | exact ⟨rfl, rfl⟩) | (have k0 := hC.keep c0; have k1 := hC.keep c1; have k2 := hC.keep c2; have k3 := hC.keep c3; go_simp; first | done | rfl | exact ⟨rfl, rfl⟩)
  simp only [Act.put, List.setIfInBounds_toArray, List.set_cons_zero, List.set_cons_succ]
  apply wpQ_do
  · rfl
  · intro wq hC; go_light; first | (go_simp; first | done | rfl | exact ⟨rfl, rfl⟩) | (have k0 := hC.keep c0; have k1 := hC.keep c1; have k2 := hC.keep c2; have k3 := hC.keep c3; go_simp; first | done | rfl | exact ⟨rfl, rfl⟩)
  simp only [Act.put, List.setIfInBounds_toArray, List.set_cons_zero, List.set_cons_succ]
  apply wpQ_do
  · rfl
  · intro wq hC; go_light; first | (go_simp; first | done | rfl | exact ⟨rfl, rfl⟩) | (have k0 := hC.keep c0; have k1 := hC.keep c1; have k2 := hC.keep c2; have k3 := hC.keep c3; go_simp; first | done | rfl | exact ⟨rfl, rfl⟩)
  simp only [Act.put, List.setIfInBounds_toArray, List.set_cons_zero, List.set_cons_succ]
  apply wpQ_do
  · rfl
  · intro wq hC; go_light; first | (go_simp; first | done | rfl | exact ⟨rfl, rfl⟩) | (have k0 := hC.keep c0; have k1 := hC.keep c1; have k2 := hC.keep c2; have k3 := hC.keep c3; go_simp; first | done | rfl | exact ⟨rfl, rfl⟩)
  simp only [Act.put, List.setIfInBounds_toArray, List.set_cons_zero, List.set_cons_succ]
  apply wpQ_do
  · rfl
  · intro wq hC; go_light; first | (go_simp; first | done | rfl | exact ⟨rfl, rfl⟩) | (have k0 := hC.keep c0; have k1 := hC.keep c1; have k2 := hC.keep c2; have k3 := hC.keep c3; go_simp; first | done | rfl | exact ⟨rfl, rfl⟩)
  simp only [Act.put, List.setIfInBounds_toArray, List.set_cons_zero, List.set_cons_succ]
  apply wpQ_do
  · rfl
  · intro wq hC; go_light; first | (go_simp; first | done | rfl | exact ⟨rfl, rfl⟩) | (have k0 := hC.keep c0; have k1 := hC.keep c1; have k2 := hC.keep c2; have k3 := hC.keep c3; go_simp; first | done | rfl | exact ⟨rfl, rfl⟩)
  simp only [Act.put, List.setIfInBounds_toArray, List.set_cons_zero, List.set_cons_succ]
  apply wpQ_do
  · rfl
  · intro wq hC; go_light; first | (go_simp; first | done | rfl | exact ⟨rfl, rfl⟩) | (have k0 := hC.keep c0; have k1 := hC.keep c1; have k2 := hC.keep c2; have k3 := hC.keep c3; go_simp; first | done | rfl | exact ⟨rfl, rfl⟩)
  simp only [Act.put, List.setIfInBounds_toArray, List.set_cons_zero, List.set_cons_succ]
  apply wpQ_do
  · rfl
  · intro wq hC; go_light; first | (go_simp; first | done | rfl | exact ⟨rfl, rfl⟩) | (have k0 := hC.keep c0; have k1 := hC.keep c1; have k2 := hC.keep c2; have k3 := hC.keep c3; go_simp; first | done | rfl | exact ⟨rfl, rfl⟩)
  simp only [Act.put, List.setIfInBounds_toArray, List.set_cons_zero, List.set_cons_succ]
  apply wpQ_do
  · rfl
  · intro wq hC; go_light; first | (go_simp; first | done | rfl | exact ⟨rfl, rfl⟩) | (have k0 := hC.keep c0; have k1 := hC.keep c1; have k2 := hC.keep c2; have k3 := hC.keep c3; go_simp; first | done | rfl | exact ⟨rfl, rfl⟩)
  simp only [Act.put, List.setIfInBounds_toArray, List.set_cons_zero, List.set_cons_succ]
  apply wpQ_do
  · rfl
  · intro wq hC; go_light; first | (go_simp; first | done | rfl | exact ⟨rfl, rfl⟩) | (have k0 := hC.keep c0; have k1 := hC.keep c1; have k2 := hC.keep c2; have k3 := hC.keep c3; go_simp; first | done | rfl | exact ⟨rfl, rfl⟩)
  simp only [Act.put, List.setIfInBounds_toArray, List.set_cons_zero, List.set_cons_succ]
  apply wpQ_do
  · rfl
  · intro wq hC; go_light; first | (go_simp; first | done | rfl | exact ⟨rfl, rfl⟩) | (have k0 := hC.keep c0; have k1 := hC.keep c1; have k2 := hC.keep c2; have k3 := hC.keep c3; go_simp; first | done | rfl | exact ⟨rfl, rfl⟩)
  simp only [Act.put, List.setIfInBounds_toArray, List.set_cons_zero, List.set_cons_succ]
  apply wpQ_nil
  intro w9 hb9
  have hb9 : Below _ _ _ := hb9
  go_wp2_with fail
  go_ret
  exact ⟨by rw [← num4_or y0 y1 y2 y3 z0 z1 z2 z3]; rfl, hb9⟩
def be4 (x : Int) : List Int := [x / 16777216 % 256, x / 65536 % 256, x / 256 % 256, x % 256]
set_option maxRecDepth 100000 in
theorem wideD {base : Nat} {v : Value} {b : List Int} {x : Int} (w : World) (hown : w.ownsRow base 5 1 v b.length (u8s b)) (hbase : base ≤ w.heap.size) (hl : b.length ≤ 100000) :
    Calls Try.prog 58 #[v, .int .u32 x] w fun e' w' => ∃ v2, e' = .returned v2 ∧ w'.ownsRow base 5 1 v2 (b ++ be4 x).length (u8s (b ++ be4 x)) ∧ w.grownBy w' v.ownBlock ∧ (∀ k, v2.ownBlock = some k → v.ownBlock = some k ∨ w.heap.size ≤ k) := by
  obtain ⟨A, c, rfl⟩ := len_of_own hown
  have hb0 : Below w.heap.size w (w.alloc (.cells (u8s (be4 x)).toArray 5)) := balloc (Below.refl _ _) _
  have hbl := bat_lit w (be4 x) (by simp [be4])
  have ho := Lib.hid (own_below hown hb0)
  go_enter Try.func58, Try.ntmps58
  go_wp2_with (at_builtin; refine wpList_append_from _ rfl _ _ rfl base (.slice A b.length c) (.slice (some ⟨w.heap.size, 0, none⟩) 4 4) b.length (u8s b) (be4 x) rfl rfl ho.out hbl (by simp [be4]; omega) (by (try simp); omega) ?_)
  intro v2 w2 o2 g2 f2
  go_wp2_with fail
  go_ret
  refine ⟨v2, rfl, ?_, ?_, ?_⟩
  · rw [List.length_append, u8s_append]; exact o2
  · exact grown_alloc g2
  · intro k hk
    rcases f2 k hk with h9 | h9
    · exact .inl h9
    · exact .inr (by omega)
end Go.Proofs.Ythgaphfelpnclaa
