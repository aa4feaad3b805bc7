/- The log: are two records, two rows of them, the same? -/
import Derived.Test.YthgaphfelpnclaaAn
import Derived.Test.YthgaphfelpnclaaNf
import Derived.Lib.Bytes
set_option linter.unusedVariables false
set_option linter.unusedSimpArgs false
namespace Go.Proofs.Ythgaphfelpnclaa
open Go.RowKit
theorem map_u8_inj : ∀ {a b : List Int}, U8s a → U8s b → a.map (fun n => UInt8.ofNat n.toNat) = b.map (fun n => UInt8.ofNat n.toNat) → a = b
  | [], [], _, _, _ => rfl
  | [], _ :: _, _, _, h => by cases h
  | _ :: _, [], _, _, h => by cases h
  | x :: a, y :: b, ha, hb, h => by
    simp only [List.map_cons, List.cons.injEq] at h
    have h1 := ha x (by simp)
    have h2 := hb y (by simp)
    have h3 := congrArg UInt8.toNat h.1
    simp only [UInt8.toNat_ofNat'] at h3
    rw [map_u8_inj (fun z hz => ha z (by simp [hz])) (fun z hz => hb z (by simp [hz])) h.2, show x = y by omega]
theorem same_bytes {v1 v2 : Value} {a b : List Int} (w : World) (h1 : BAt w v1 a) (h2 : BAt w v2 b) (ha : U8s a) (hb : U8s b) (r : Bool) (hr : decide (a = b) = r) :
    Calls Try.prog 20 #[v1, v2] w fun e' w' => e' = .returned (.bool r) ∧ Below w.heap.size w w' := by
  by_cases hab : a = b
  · subst hab
    have hr : r = true := by simpa using hr.symm
    subst hr
    exact same_true w h1 h2
  · have hr : r = false := by rw [← hr]; simpa using hab
    subst hr
    have hs : ((strOfNums a).toList == (strOfNums b).toList) = false := by
      have : (strOfNums a).toList ≠ (strOfNums b).toList := fun e => hab (map_u8_inj ha hb (by rw [Lib.strOfNums_toList, Lib.strOfNums_toList] at e; exact e))
      simpa using this
    have k1 := h1.conv
    have k2 := h2.conv
    have a1 := k1 w rfl
    have a2 := k2 w rfl
    have b1 := k1 w.drew rfl
    have b2 := k2 w.drew rfl
    obtain ⟨A, c, rfl, _⟩ := h1
    obtain ⟨A2, c2, rfl, _⟩ := h2
    go_enter Try.func20, Try.ntmps20
    go_wp2_with fail
    go_ret
    exact ⟨rfl, Below.refl _ _⟩
def Rc.same (x y : Rc) : Bool := x.wh == y.wh && x.tx == y.tx && x.who == y.who && x.yes == y.yes && decide (x.text = y.text)
theorem Rc.same_iff {x y : Rc} : x.same y = true ↔ x = y := by
  cases x; cases y
  simp [Rc.same]
  constructor
  · rintro ⟨⟨⟨⟨a, b⟩, c⟩, d⟩, e⟩; exact ⟨a, b, c, d, e⟩
  · rintro ⟨a, b, c, d, e⟩; exact ⟨⟨⟨⟨a, b⟩, c⟩, d⟩, e⟩
set_option maxRecDepth 100000 in
theorem sameRec {x y : Rc} {v u : Value} (w : World) (hv : BAt w v x.text) (hu : BAt w u y.text) (hx : U8s x.text) (hy : U8s y.text) :
    Calls Try.prog 57 #[x.val v, y.val u] w fun e' w' => e' = .returned (.bool (x.same y)) ∧ Below w.heap.size w w' := by
  have HV := Lib.hid hv
  have HU := Lib.hid hu
  obtain ⟨A, c, rfl, _⟩ := hv
  obtain ⟨A2, c2, rfl, _⟩ := hu
  unfold Rc.val
  by_cases h1 : x.wh = y.wh
  · have e1 : (x.wh == y.wh) = true := by simpa using h1
    clear h1
    by_cases h2 : x.tx = y.tx
    · have e2 : (x.tx == y.tx) = true := by simpa using h2
      clear h2
      by_cases h3 : x.who = y.who
      · have e3 : (x.who == y.who) = true := by simpa using h3
        clear h3
        by_cases h4 : x.yes = y.yes
        · have e4 : (x.yes == y.yes) = true := by simpa using h4
          clear h4
          have hb : Below w.heap.size w ((w.alloc (.cells #[.int .u8 x.wh, .int .u32 x.tx, .int .u8 x.who, .bool x.yes, .slice A x.text.length c] 34)).alloc (.cells #[.int .u8 y.wh, .int .u32 y.tx, .int .u8 y.who, .bool y.yes, .slice A2 y.text.length c2] 34)) := balloc (balloc (Below.refl _ _) _) _
          go_enter Try.func57, Try.ntmps57
          go_wp2_with fail
          with_reducible refine Calls.mono (same_bytes _ (HV.out.below hb) (HU.out.below hb) hx hy (decide (x.text = y.text)) rfl) ?_
          rintro e5 w5 ⟨rfl, hb5⟩
          go_wp2_with fail
          go_ret
          exact ⟨by simp [Rc.same, e1, e2, e3, e4], bstep hb hb5⟩
        · have e4 : (x.yes == y.yes) = false := by simpa using h4
          clear h4
          go_enter Try.func57, Try.ntmps57
          go_wp2_with fail
          go_ret
          exact ⟨by simp [Rc.same, e4], balloc (balloc (Below.refl _ _) _) _⟩
      · have e3 : (x.who == y.who) = false := by simpa using h3
        clear h3
        go_enter Try.func57, Try.ntmps57
        go_wp2_with fail
        go_ret
        exact ⟨by simp [Rc.same, e3], balloc (balloc (Below.refl _ _) _) _⟩
    · have e2 : (x.tx == y.tx) = false := by simpa using h2
      clear h2
      go_enter Try.func57, Try.ntmps57
      go_wp2_with fail
      go_ret
      exact ⟨by simp [Rc.same, e2], balloc (balloc (Below.refl _ _) _) _⟩
  · have e1 : (x.wh == y.wh) = false := by simpa using h1
    clear h1
    go_enter Try.func57, Try.ntmps57
    go_wp2_with fail
    go_ret
    exact ⟨by simp [Rc.same, e1], balloc (balloc (Below.refl _ _) _) _⟩
end Go.Proofs.Ythgaphfelpnclaa
