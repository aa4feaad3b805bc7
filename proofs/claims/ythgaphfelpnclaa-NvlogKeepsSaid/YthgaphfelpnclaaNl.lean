/- The log: the chapter's examples. -/
import Derived.Test.YthgaphfelpnclaaNp
set_option linter.unusedVariables false
set_option linter.unusedSimpArgs false
namespace Go.Proofs.Ythgaphfelpnclaa
open Go.RowKit
def x258 : Rc := ⟨4, 258, 0, false, []⟩
theorem x258_ok : x258.ok := ⟨by decide, by decide, by decide, fun n hn => by cases hn⟩
theorem x258_right : x258.right = true := by decide
theorem x258_take : x258.bytes.take 9 = [4, 0, 0, 1, 2, 0, 0, 0, 0] := by
  rw [Rc.bytes, List.take_append_of_le_length (by rw [Rc.body_len]; decide)]
  decide
def xBad : Rc := ⟨2, 1, 0, false, []⟩
theorem xBad_ok : xBad.ok := ⟨by decide, by decide, by decide, fun n hn => by cases hn⟩
theorem xBad_right : xBad.right = false := by decide
theorem bat_none (w : World) : BAt w (.slice none 0 0) [] := ⟨none, 0, rfl, by simp, by simp, fun i hi => absurd hi (by simp)⟩
theorem bytesT {x : Rc} {wh tx who : Int} {yes : Bool} {v : Value} (w : World) (e : x.val v = .agg #[.int .u8 wh, .int .u32 tx, .int .u8 who, .bool yes, v]) (hok : x.ok) (hr : x.right = true) (h : BAt w v x.text) :
    Calls Try.prog 19 #[.agg #[.int .u8 wh, .int .u32 tx, .int .u8 who, .bool yes, v]] w fun e' w' => ∃ v2, e' = .returned (.tuple #[v2, .int .i64 0]) ∧ w'.ownsRow w.heap.size 5 1 v2 x.bytes.length (u8s x.bytes) ∧ Below w.heap.size w w' := by
  have := bytesR w hok h
  simp only [if_pos hr] at this
  rw [← e]
  exact this
theorem bytesF {x : Rc} {wh tx who : Int} {yes : Bool} {v : Value} (w : World) (e : x.val v = .agg #[.int .u8 wh, .int .u32 tx, .int .u8 who, .bool yes, v]) (hok : x.ok) (hr : x.right = false) (h : BAt w v x.text) :
    Calls Try.prog 19 #[.agg #[.int .u8 wh, .int .u32 tx, .int .u8 who, .bool yes, v]] w fun e' w' => ∃ v2, e' = .returned (.tuple #[v2, .int .i64 50]) ∧ w'.ownsRow w.heap.size 5 1 v2 0 [] ∧ Below w.heap.size w w' := by
  have := bytesR w hok h
  simp only [hr, Bool.false_eq_true, if_false] at this
  rw [← e]
  exact this
set_option maxRecDepth 100000 in
set_option maxHeartbeats 2000000 in
theorem awake10 (w : World) : Calls Try.prog 15 #[] w fun e' w' => e' = .returned (.bool true) ∧ Below w.heap.size w w' := by
  have hn : BAt w (.slice none 0 0) x258.text := bat_none w
  go_enter Try.func15, Try.ntmps15
  go_wp2_with fail
  with_reducible refine Calls.mono (bytesT (x := x258) _ rfl x258_ok x258_right hn) ?_
  rintro e1 w1 ⟨v1, rfl, o1, hb1⟩
  have hl1 : x258.bytes.length = 13 := by rw [Rc.bytes_len]; rfl
  have o2 := o1
  rw [hl1] at o2
  obtain ⟨A1, c1, rfl⟩ := len_of_own o2
  have hcap := own_cap o2
  have S1 := Lib.hid hb1
  have B1 := Lib.hid (show BAt w1 (.slice A1 13 c1) x258.bytes from BAt.of_own o1)
  obtain ⟨V, hV, hVB⟩ := slice_high (A := A1) (n := 13) (c := c1) 9 9 rfl (by omega) hcap.1 hcap.2
  have HVB := Lib.hid (hVB w1 _ B1.out)
  obtain ⟨V2, hV2, hVB2⟩ := slice_high (A := A1) (n := 13) (c := c1) 12 12 rfl (by omega) hcap.1 hcap.2
  have HVB2 := Lib.hid hVB2
  have hcm := hcap.2
  unfold maxLen at hcm
  clear hVB hVB2 o1 o2 hb1 hl1
  go_wp2_with fail
  have hlit : BAt (w1.alloc (.cells #[.int .u8 4, .int .u8 0, .int .u8 0, .int .u8 1, .int .u8 2, .int .u8 0, .int .u8 0, .int .u8 0, .int .u8 0] 5)) (.slice (some ⟨w1.heap.size, 0, none⟩) 9 9) [4, 0, 0, 1, 2, 0, 0, 0, 0] := bat_lit w1 [4, 0, 0, 1, 2, 0, 0, 0, 0] (by decide)
  have hb0 : Below w1.heap.size w1 (w1.alloc (.cells #[.int .u8 4, .int .u8 0, .int .u8 0, .int .u8 1, .int .u8 2, .int .u8 0, .int .u8 0, .int .u8 0, .int .u8 0] 5)) := balloc (Below.refl _ _) _
  have h9 := HVB.out
  rw [x258_take] at h9
  with_reducible refine Calls.mono (same_true _ (h9.below hb0) hlit) ?_
  rintro e2 w2 ⟨rfl, hb2⟩
  have hb2 : Below w1.heap.size w1 w2 := bstep hb0 hb2
  have S2 := Lib.hid (bstep S1.out hb2)
  have B2 := Lib.hid (B1.out.below hb2)
  clear h9 hb0 hlit hb2
  go_wp2_with fail
  with_reducible refine Calls.mono (readR _ B2.out (x258_ok.bytes x258_right) (by rw [Rc.bytes_len]; decide)) ?_
  rintro e3 w3 ⟨v3, ps, n, rfl, hrd, O3, hb3⟩
  have hcat := reads_cat [x258] [] (fun x hx => by rw [show x = x258 from by simpa using hx]; exact ⟨x258_ok, x258_right⟩) first_nil
  have hdet := hrd.det (show Reads x258.bytes [x258] 13 from by simpa [catB, Rc.bytes_len, x258] using hcat)
  obtain ⟨hps, rfl⟩ := hdet
  have Q3 := O3.recs
  rw [hps] at Q3
  have B3 := Lib.hid (B2.out.below hb3)
  have S3 := Lib.hid (bstep S2.out hb3)
  have HV2 := Lib.hid (HVB2.out _ _ B3.out)
  obtain ⟨A3, c3, rfl, q1, q2, q3⟩ := Q3
  have Q3' := q3 0 x258 rfl
  clear q3 hcat hrd O3 hb3 hps
  go_wp2_with fail
  with_reducible refine Calls.mono (readR _ HV2.out (u8s_take' (x258_ok.bytes x258_right) 12) (by rw [List.length_take, Rc.bytes_len]; decide)) ?_
  rintro e4 w4 ⟨v4, ps4, n4, rfl, hrd4, O4, hb4⟩
  have hdet4 := hrd4.det (show Reads (x258.bytes.take 12) [] 0 from Reads.nil (first_cut (by rw [Rc.bytes_len]; decide)))
  obtain ⟨hps4, rfl⟩ := hdet4
  have Q4 := O4.recs
  rw [hps4] at Q4
  obtain ⟨A4, c4, rfl, r1, r2, r3⟩ := Q4
  have S4 := Lib.hid (bstep S3.out hb4)
  obtain ⟨b3, o3, u3, rfl, rec3⟩ := Q3'
  have g1 := (rec3.below hb4).c1
  clear r3 hrd4 O4 hps4 hb4 rec3
  go_wp2_with fail
  have hn4 : BAt w4 (.slice none 0 0) xBad.text := bat_none w4
  with_reducible refine Calls.mono (bytesF (x := xBad) _ rfl xBad_ok xBad_right hn4) ?_
  rintro e5 w5 ⟨v5, rfl, o5, hb5⟩
  have g1 := keep hb5 g1
  have S5 := Lib.hid (bstep S4.out hb5)
  clear hb5
  go_wp2_with fail
  go_ret
  exact ⟨rfl, S5.out⟩
end Go.Proofs.Ythgaphfelpnclaa
