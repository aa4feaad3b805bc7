/- The log, plain: a record's bytes begin with that record; what bytes begin with is that record's bytes. -/
import Derived.Test.YthgaphfelpnclaaNh
set_option linter.unusedVariables false
set_option linter.unusedSimpArgs false
namespace Go.Proofs.Ythgaphfelpnclaa
open Go.RowKit
theorem num4_be4 {x : Int} (h : 0 ≤ x ∧ x ≤ 4294967295) (r : List Int) : num4 (be4 x ++ r) = x := by
  simp only [num4, be4, List.cons_append, List.nil_append, List.getD_cons_zero, List.getD_cons_succ]
  omega
theorem be4_num4 {a b c d : Int} (ha : 0 ≤ a ∧ a ≤ 255) (hb : 0 ≤ b ∧ b ≤ 255) (hc : 0 ≤ c ∧ c ≤ 255) (hd : 0 ≤ d ∧ d ≤ 255) (r : List Int) : be4 (num4 (a :: b :: c :: d :: r)) = [a, b, c, d] := by
  simp only [num4, be4, List.getD_cons_zero, List.getD_cons_succ, List.cons.injEq, and_true]
  omega
def yesB (b : Bool) : Int := if b then 1 else 0
theorem Rc.body_eq (x : Rc) : x.body = x.wh :: (be4 x.tx ++ (x.who :: yesB x.yes :: (x.text.length : Int) / 256 :: (x.text.length : Int) % 256 :: x.text)) := by
  simp [Rc.body, yesB]
theorem head_eq (x : Rc) (t : List Int) : x.wh :: (be4 x.tx ++ (x.who :: yesB x.yes :: (x.text.length : Int) / 256 :: (x.text.length : Int) % 256 :: t)) = x.wh :: x.tx / 16777216 % 256 :: x.tx / 65536 % 256 :: x.tx / 256 % 256 :: x.tx % 256 :: x.who :: yesB x.yes :: (x.text.length : Int) / 256 :: (x.text.length : Int) % 256 :: t := rfl
theorem hdLen_eq {a0 a1 a2 a3 a4 a5 a6 : Int} {n : Nat} {t : List Int} : hdLen (a0 :: a1 :: a2 :: a3 :: a4 :: a5 :: a6 :: (n : Int) / 256 :: (n : Int) % 256 :: t) = n := by
  simp only [hdLen, List.getD_cons_zero, List.getD_cons_succ]
  omega
theorem yesB_le (b : Bool) : ¬ 1 < yesB b := by cases b <;> simp [yesB]
theorem yesB_eq (b : Bool) : (yesB b == 1) = b := by cases b <;> simp [yesB]
theorem bytes_form (x : Rc) (cc : Int) (rest : List Int) : x.body ++ (be4 cc ++ rest) = x.wh :: x.tx / 16777216 % 256 :: x.tx / 65536 % 256 :: x.tx / 256 % 256 :: x.tx % 256 :: x.who :: yesB x.yes :: (x.text.length : Int) / 256 :: (x.text.length : Int) % 256 :: (x.text ++ (be4 cc ++ rest)) := by
  rw [Rc.body_eq]
  rfl
theorem first_bytes {x : Rc} (hok : x.ok) (hr : x.right = true) (rest : List Int) : first (x.bytes ++ rest) = some x := by
  have hc := crc_u32 x.body
  have e1 : x.bytes ++ rest = x.body ++ (be4 (crc x.body) ++ rest) := by simp [Rc.bytes]
  have hbl := Rc.body_len x
  have hl : (x.bytes ++ rest).length = x.text.length + 13 + rest.length := by rw [List.length_append, Rc.bytes_len]
  have e2 : x.bytes ++ rest = x.wh :: x.tx / 16777216 % 256 :: x.tx / 65536 % 256 :: x.tx / 256 % 256 :: x.tx % 256 :: x.who :: yesB x.yes :: (x.text.length : Int) / 256 :: (x.text.length : Int) % 256 :: (x.text ++ (be4 (crc x.body) ++ rest)) := by
    rw [e1]
    exact bytes_form x _ rest
  have hh : hdLen (x.bytes ++ rest) = x.text.length := by rw [e2]; exact hdLen_eq
  have ht : (x.bytes ++ rest).take (x.text.length + 9) = x.body := by rw [e1, List.take_append_of_le_length (by omega), List.take_of_length_le (by omega)]
  have hd : (x.bytes ++ rest).drop (x.text.length + 9) = be4 (crc x.body) ++ rest := by rw [e1, ← hbl, List.drop_left]
  have hX : firstX (x.bytes ++ rest) = x := by
    unfold firstX
    rw [hh]
    rw [e2]
    simp only [List.getD_cons_zero, List.getD_cons_succ, List.drop_succ_cons, List.drop_zero, yesB_eq]
    rw [List.take_append_of_le_length (Nat.le_refl _), List.take_of_length_le (Nat.le_refl _)]
    have h4 := num4_be4 hok.tx (x.who :: yesB x.yes :: (x.text.length : Int) / 256 :: (x.text.length : Int) % 256 :: (x.text ++ (be4 (crc x.body) ++ rest)))
    simp only [be4, List.cons_append, List.nil_append] at h4 ⊢
    rw [h4]
  unfold first
  rw [if_neg (by omega), hh, if_neg (by omega), ht, hd, num4_be4 hc, if_pos rfl, hX, if_neg (by rw [e2]; simp only [List.getD_cons_zero, List.getD_cons_succ]; exact yesB_le _), if_pos hr]
/-- Bytes that are cut begin with no record. -/
theorem first_cut {x : Rc} {j : Nat} (hj : j < x.bytes.length) : first (x.bytes.take j) = none := by
  have hl := Rc.bytes_len x
  unfold first
  by_cases h13 : j < 13
  · rw [if_pos (by rw [List.length_take]; omega)]
  · rw [if_neg (by rw [List.length_take]; omega)]
    have hh : hdLen (x.bytes.take j) = x.text.length := by
      have e2 : x.bytes = x.wh :: x.tx / 16777216 % 256 :: x.tx / 65536 % 256 :: x.tx / 256 % 256 :: x.tx % 256 :: x.who :: yesB x.yes :: (x.text.length : Int) / 256 :: (x.text.length : Int) % 256 :: (x.text ++ be4 (crc x.body)) := by
        have := bytes_form x (crc x.body) []
        simpa [Rc.bytes] using this
      obtain ⟨i, rfl⟩ : ∃ i, j = i + 9 := ⟨j - 9, by omega⟩
      rw [e2]
      exact hdLen_eq
    rw [if_pos (by rw [List.length_take, hh]; omega)]
theorem first_sound {ls : List Int} {x : Rc} (hu : U8s ls) (h : first ls = some x) : x.ok ∧ x.right = true ∧ x.bytes = ls.take (x.text.length + 13) := by
  have hlen := first_len h
  unfold first at h
  split at h
  · cases h
  · split at h
    · cases h
    · split at h
      · split at h
        · cases h
        · split at h
          · rename_i h1 h2 h3 h4 h5
            injection h with h
            subst h
            obtain ⟨a0, a1, a2, a3, a4, a5, a6, a7, a8, t, rfl⟩ : ∃ a0 a1 a2 a3 a4 a5 a6 a7 a8 t, ls = a0 :: a1 :: a2 :: a3 :: a4 :: a5 :: a6 :: a7 :: a8 :: t := by
              rcases ls with _ | ⟨a0, _ | ⟨a1, _ | ⟨a2, _ | ⟨a3, _ | ⟨a4, _ | ⟨a5, _ | ⟨a6, _ | ⟨a7, _ | ⟨a8, t⟩⟩⟩⟩⟩⟩⟩⟩⟩ <;> simp at h1
              exact ⟨a0, a1, a2, a3, a4, a5, a6, a7, a8, t, rfl⟩
            have u := fun z hz => hu z hz
            have u0 := u a0 (by simp)
            have u1 := u a1 (by simp)
            have u2 := u a2 (by simp)
            have u3 := u a3 (by simp)
            have u4 := u a4 (by simp)
            have u5 := u a5 (by simp)
            have u6 := u a6 (by simp)
            have u7 := u a7 (by simp)
            have u8 := u a8 (by simp)
            have ut : U8s t := fun z hz => u z (by simp [hz])
            obtain ⟨m, hm⟩ : ∃ m, hdLen (a0 :: a1 :: a2 :: a3 :: a4 :: a5 :: a6 :: a7 :: a8 :: t) = m := ⟨_, rfl⟩
            have hm7 : a7 = (m : Int) / 256 ∧ a8 = (m : Int) % 256 := by
              rw [← hm]
              simp only [hdLen, List.getD_cons_zero, List.getD_cons_succ]
              omega
            rw [hm] at h2 h3
            simp only [List.length_cons] at h2
            have hX : firstX (a0 :: a1 :: a2 :: a3 :: a4 :: a5 :: a6 :: a7 :: a8 :: t) = ⟨a0, num4 (a1 :: a2 :: a3 :: a4 :: a5 :: a6 :: a7 :: a8 :: t), a5, a6 == 1, t.take m⟩ := by
              unfold firstX
              rw [hm]
              rfl
            rw [hX] at h5 hlen ⊢
            have htl : (t.take m).length = m := by rw [List.length_take]; omega
            have h6 : a6 = yesB (a6 == 1) := by
              simp only [List.getD_cons_zero, List.getD_cons_succ] at h4
              by_cases h1 : a6 = 1
              · simp [h1, yesB]
              · have : a6 = 0 := by omega
                simp [this, yesB]
            refine ⟨⟨u0, ?_, u5, u8s_take' ut m⟩, h5, ?_⟩
            · simp only [num4, List.getD_cons_zero, List.getD_cons_succ]; omega
            · have hbody : (Rc.mk a0 (num4 (a1 :: a2 :: a3 :: a4 :: a5 :: a6 :: a7 :: a8 :: t)) a5 (a6 == 1) (t.take m)).body = (a0 :: a1 :: a2 :: a3 :: a4 :: a5 :: a6 :: a7 :: a8 :: t).take (m + 9) := by
                rw [Rc.body_eq]
                simp only
                rw [be4_num4 u1 u2 u3 u4, htl, ← hm7.1, ← hm7.2, ← h6]
                rfl
              rw [Rc.bytes, hbody, ← h3, htl]
              obtain ⟨t1, ht1⟩ : ∃ t1, t.drop m = t1 := ⟨_, rfl⟩
              have ht1l : 4 ≤ t1.length := by rw [← ht1, List.length_drop]; omega
              have ht1u : U8s t1 := ht1 ▸ u8s_drop ut m
              obtain ⟨c0, c1, c2, c3, t2, rfl⟩ : ∃ c0 c1 c2 c3 t2, t1 = c0 :: c1 :: c2 :: c3 :: t2 := by
                rcases t1 with _ | ⟨c0, _ | ⟨c1, _ | ⟨c2, _ | ⟨c3, t2⟩⟩⟩⟩ <;> simp at ht1l
                exact ⟨c0, c1, c2, c3, t2, rfl⟩
              have hdrop : (a0 :: a1 :: a2 :: a3 :: a4 :: a5 :: a6 :: a7 :: a8 :: t).drop (m + 9) = c0 :: c1 :: c2 :: c3 :: t2 := by
                rw [← ht1]; rfl
              rw [hdrop, be4_num4 (ht1u c0 (by simp)) (ht1u c1 (by simp)) (ht1u c2 (by simp)) (ht1u c3 (by simp))]
              rw [show m + 13 = (m + 9) + 4 by omega]
              refine Eq.trans ?_ List.take_add.symm
              rw [hdrop]
              rfl
          · cases h
      · cases h
/-- Records' bytes, one behind the other. -/
def catB (rs : List Rc) : List Int := rs.flatMap Rc.bytes
theorem catB_cons (x : Rc) (rs : List Rc) : catB (x :: rs) = x.bytes ++ catB rs := rfl
theorem catB_snoc (rs : List Rc) (x : Rc) : catB (rs ++ [x]) = catB rs ++ x.bytes := by simp [catB]
theorem reads_cat : ∀ (rs : List Rc) (tail : List Int), (∀ x ∈ rs, x.ok ∧ x.right = true) → first tail = none → Reads (catB rs ++ tail) rs (catB rs).length
  | [], tail, _, ht => by simpa [catB] using Reads.nil ht
  | x :: rs, tail, h, ht => by
    obtain ⟨h1, h2⟩ := h x (by simp)
    rw [catB_cons, List.append_assoc, List.length_append, Rc.bytes_len]
    refine Reads.cons (first_bytes h1 h2 _) ?_
    rw [← Rc.bytes_len, List.drop_left]
    exact reads_cat rs tail (fun y hy => h y (by simp [hy])) ht
theorem reads_sound {ls : List Int} {rs : List Rc} {n : Nat} (hu : U8s ls) (h : Reads ls rs n) : n ≤ ls.length ∧ catB rs = ls.take n ∧ ∀ x ∈ rs, x.ok ∧ x.right = true := by
  induction h with
  | nil h => exact ⟨by omega, by simp [catB], by simp⟩
  | @cons ls x rs n h t ih =>
    obtain ⟨i1, i2, i3⟩ := ih (u8s_drop hu _)
    obtain ⟨s1, s2, s3⟩ := first_sound hu h
    have hl := first_len h
    rw [List.length_drop] at i1
    refine ⟨by omega, ?_, fun y hy => ?_⟩
    · rw [catB_cons, s3, i2]; exact List.take_add.symm
    · rcases List.mem_cons.1 hy with rfl | hy
      · exact ⟨s1, s2⟩
      · exact i3 y hy
theorem first_nil : first [] = none := by simp [first]
end Go.Proofs.Ythgaphfelpnclaa
