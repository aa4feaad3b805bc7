/- The log: the law's 'row', walked. -/
import Derived.Test.YthgaphfelpnclaaNi
set_option linter.unusedVariables false
set_option linter.unusedSimpArgs false
namespace Go.Proofs.Ythgaphfelpnclaa
open Go.RowKit
theorem skip_eq {rs l : List Rc} {k : Nat} {x : Rc} (h : l = (rs.take k).filter goodB) (hx : rs[k]? = some x) (hg : goodB x = false) : l = (rs.take (k + 1)).filter goodB := by
  obtain ⟨l1, l2⟩ := List.getElem?_eq_some_iff.1 hx
  rw [List.take_succ_eq_append_getElem l1, List.filter_append, l2, h]
  simp [hg]
theorem take_eq {rs l : List Rc} {k : Nat} {x : Rc} (h : l = (rs.take k).filter goodB) (hx : rs[k]? = some x) (hg : goodB x = true) : l ++ [x] = (rs.take (k + 1)).filter goodB := by
  obtain ⟨l1, l2⟩ := List.getElem?_eq_some_iff.1 hx
  rw [List.take_succ_eq_append_getElem l1, List.filter_append, l2, h]
  simp [hg]
theorem take_min12 (rs : List Rc) : rs.take (min rs.length 12) = rs.take 12 := by
  by_cases h : rs.length ≤ 12
  · rw [Nat.min_eq_left h, List.take_of_length_le (Nat.le_refl _), List.take_of_length_le h]
  · rw [Nat.min_eq_right (by omega)]
theorem own_int (w : World) (x : Int) : (w.alloc (.cells #[.int .i64 x] 3)).ownsRow w.heap.size 3 1 (.slice (some ⟨w.heap.size, 0, none⟩) 1 1) 1 (i64s [x]) :=
  ⟨rfl, .inr ⟨w.heap.size, 1, #[.int .i64 x], rfl, Nat.le_refl _, by unfold World.alloc; simp, Nat.le_refl _, by unfold maxLen; omega, rfl, rfl⟩⟩
set_option maxRecDepth 100000 in
set_option maxHeartbeats 4000000 in
theorem rowR {v : Value} {rs : List Rc} (w : World) (h : RecsAt w v rs) (hok : ∀ r ∈ rs, r.ok) :
    Calls Try.prog 16 #[v] w fun e' w' => ∃ v2 vb ve ps, e' = .returned (.tuple #[v2, vb, ve]) ∧ R3 w w' v2 ps vb (catB (ps.map (·.1))) ve (endsOf (ps.map (·.1))) ∧ ps.map (·.1) = (rs.take 12).filter goodB := by
  have H := Lib.hid h
  obtain ⟨A, c, rfl, h2, h3, _⟩ := h
  have hc := h3
  unfold maxLen at h3
  obtain ⟨i34, hi, hz0, hz1, hz2⟩ := info_parts info34
  obtain ⟨i3, hj, hy0, hy1, hy2⟩ := info_parts info3
  obtain ⟨M, hM⟩ : ∃ M, M = min rs.length 12 := ⟨_, rfl⟩
  have hM2 : min (rs.length : Int) 12 = (M : Int) := by omega
  have hsl := run_slice22 (A := A) (n := rs.length) (c := c) M M rfl (by omega) h2 hc
  have hM12 : M ≤ 12 := by omega
  have HM := Lib.hid hM
  clear hM
  have R0 := Lib.hid (show R3 w (w.alloc (.cells #[.int .i64 0] 3)) (.slice none 0 0) [] (.slice none 0 0) [] (.slice (some ⟨w.heap.size, 0, none⟩) 1 1) [0] from
    ⟨OwnR.nil _ _, World.ownsRow_nil _ _ _ _, own_int w 0, .inl rfl, .inl rfl, .inl rfl, .inl rfl, .inr (by simp [Value.ownBlock]), .inr (by simp [Value.ownBlock]), fun p hp => (by cases hp), balloc (Below.refl _ _) _⟩)
  go_enter Try.func16, Try.ntmps16
  go_wp2_with fail
  go_loopw [5, 6, 7, 19] (fun out b ends i wr => ∃ (k : Nat) (ps : List (Rc × Value)), k ≤ M ∧ i = .int .i64 k ∧ R3 w wr out ps b (catB (ps.map (·.1))) ends (endsOf (ps.map (·.1))) ∧ ps.map (·.1) = (rs.take k).filter goodB ∧ ps.length ≤ k ∧ (catB (ps.map (·.1))).length ≤ ps.length * 313) (fun _ _ _ i _ => M - (intOf i).toNat)
  case atStart => exact ⟨0, [], by omega, rfl, R0.out, rfl, by simp, by simp [catB]⟩
  case round =>
    obtain ⟨k, ps, hk, rfl, hR, heq, hpl, hbl⟩ := hrel
    have HR := Lib.hid hR
    have HE := Lib.hid heq
    have HBl := Lib.hid hbl
    have hsz := hR.bel.size
    clear heq hbl
    by_cases hlt : k < M
    · have hkr : k < rs.length := by have := HM.out; omega
      obtain ⟨A3, c3, e, _, _, g4⟩ := H.out.below hR.bel
      simp only [Value.slice.injEq] at e
      obtain ⟨rfl, _, rfl⟩ := e
      obtain ⟨b1, o1, u1, rfl, r1⟩ := g4 k _ (List.getElem?_eq_getElem hkr)
      obtain ⟨A9, c9, e9, _, _, g9⟩ := H.out
      simp only [Value.slice.injEq] at e9
      obtain ⟨rfl, _, rfl⟩ := e9
      obtain ⟨b9, o9, u9, e8, r9⟩ := g9 k _ (List.getElem?_eq_getElem hkr)
      simp only [Option.some.injEq, Addr.mk.injEq, and_true] at e8
      obtain ⟨rfl, rfl⟩ := e8
      obtain rfl : u1 = u9 := by
        have h9 := keep hR.bel r9.c4
        rw [r1.c4] at h9
        injection h9
      have HU9 := Lib.hid r9.txt
      have E1 := Lib.hid (List.getElem?_eq_getElem hkr)
      have OK := hok _ (List.getElem_mem hkr)
      generalize rs[k] = x at r1 r9 E1 OK HU9
      clear g4 g9 hR r9
      obtain ⟨p0, p1, p2, p3, p4, t1⟩ := r1
      have T1 := Lib.hid t1
      obtain ⟨X1, d1, rfl, q1, q2, _⟩ := t1
      unfold maxLen at q2
      go_wp2_with fail
      have hbw : Below wr.heap.size wr (wr.alloc (.cells #[.int .u8 x.wh, .int .u32 x.tx, .int .u8 x.who, .bool x.yes, .slice X1 x.text.length d1] 34)) := balloc (Below.refl _ _) _
      have C5 := bytesR (x := x) _ OK (T1.out.below hbw)
      unfold Rc.val at C5
      with_reducible refine Calls.mono C5 ?_
      clear C5
      rintro e5 w5 ⟨v5, rfl, o5, hb5⟩
      have x0 : w5.cell? ⟨wr.heap.size, 0, none⟩ = some (.int .u8 x.wh) := keep hb5 (by go_simp)
      have x1 : w5.cell? ⟨wr.heap.size, 1, none⟩ = some (.int .u32 x.tx) := keep hb5 (by go_simp)
      have x2 : w5.cell? ⟨wr.heap.size, 2, none⟩ = some (.int .u8 x.who) := keep hb5 (by go_simp)
      have x3 : w5.cell? ⟨wr.heap.size, 3, none⟩ = some (.bool x.yes) := keep hb5 (by go_simp)
      have x4 : w5.cell? ⟨wr.heap.size, 4, none⟩ = some (.slice X1 x.text.length d1) := keep hb5 (by go_simp)
      have R5 := Lib.hid (HR.out.below (bstep hbw hb5))
      have hlt5 : wr.heap.size < w5.heap.size := cell_lt x0
      have hb5' := Lib.hid hb5
      clear hb5 hbw p0 p1 p2 p3 p4
      by_cases hr : x.right = true
      · simp only [if_pos hr] at o5 ⊢
        obtain ⟨A5, c5, rfl⟩ := len_of_own o5
        by_cases h3 : x.text.length ≤ 300
        · have d3 : decide ((x.text.length : Int) ≤ 300) = true := by simp; omega
          have hg : goodB x = true := by simp [goodB, hr, h3]
          have hl9 := Lib.hid (Rc.bytes_len x)
          have T5 := Lib.hid (T1.out.below (bstep (balloc (Below.refl _ wr) _) hb5'.out))
          have hOa := Lib.hid (own_belowS R5.out.out.own (balloc (Below.refl _ _) (.cells #[.int .u8 x.wh, .int .u32 x.tx, .int .u8 x.who, .bool x.yes, .slice X1 x.text.length d1] 34)))
          have HCX := Lib.hid (cellsR_at w5 (x, .slice X1 x.text.length d1))
          go_wp2_with (at_builtin; refine wpList_append_own5 _ rfl _ _ 22 rfl w.heap.size 34 i34 _ 40 Try.underlying22 hi hz0 hz1 hz2 rfl _ ps.length (flatR ps) rfl hOa.out ⟨w5.heap.size, 0, none⟩ 1 1 (cellsR (x, .slice X1 x.text.length d1)) rfl rfl HCX.out (by simp [cellsR, Value.oneCell']) (by unfold maxLen; omega) (by omega) (by (try simp); omega) ?_)
          intro v6 w6 o6 g6 f6
          have R6 := Lib.hid (R5.out.push1 (x := x) T5.out (fun hne k hk => HU9.out.lt hne k hk) o6 g6 (by intro k hk; rcases f6 k hk with h9 | h9; exact .inl h9; exact .inr (by simpa using h9)))
          have hx5 : (Value.slice A5 x.bytes.length c5).ownBlock = none ∨ (Value.slice A5 x.bytes.length c5).ownBlock ≠ u5.ownBlock := by
            cases hq : (Value.slice A5 x.bytes.length c5).ownBlock with
            | none => exact .inl rfl
            | some q =>
              refine .inr fun e => ?_
              have h8 := (o5.lt q hq).1
              have h7 := (HR.out.out.own.lt q e.symm).2
              simp at h8
              omega
          have C6 := Lib.hid (BAt.of_own (own_grown (own_belowS o5 (balloc (Below.refl _ _) _)) g6 hx5))
          have hs6 : w5.heap.size < w6.heap.size := by have := g6.size; simp at this; omega
          clear g6 f6 hOa HCX hx5
          go_wp2_with (at_builtin; refine wpList_append_from _ rfl _ _ rfl w.heap.size u6 (.slice A5 x.bytes.length c5) (catB (ps.map (·.1))).length (u8s (catB (ps.map (·.1)))) x.bytes rfl rfl R6.out.bs C6.out (by have := HBl.out; have := hl9.out; omega) (by (try simp); omega) ?_)
          intro v7 w7 o7 g7 f7
          have R7 := Lib.hid (R6.out.push2 o7 g7 f7)
          obtain ⟨N2, hN2⟩ : ∃ N2, N2 = (catB (ps.map (·.1))).length + x.bytes.length := ⟨_, rfl⟩
          rw [← hN2] at o7
          obtain ⟨A7, c7, rfl⟩ := len_of_own o7
          have HN2 := Lib.hid hN2
          have hs7 : w6.heap.size ≤ w7.heap.size := g7.size
          clear g7 f7 hN2
          have hOb := Lib.hid (own_belowS R7.out.ends (balloc (Below.refl _ _) (.cells #[.int .i64 (N2 : Int)] 3)))
          have HC1 := Lib.hid (cells_one (w := w7.alloc (.cells #[.int .i64 (N2 : Int)] 3)) (b := w7.heap.size) (u := .int .i64 (N2 : Int)) (by go_simp))
          have hel := Lib.hid (endsOf_len (ps.map (·.1)))
          go_wp2_with (at_builtin; refine wpList_append_own2 _ rfl _ _ 26 rfl w.heap.size 3 i3 _ 8 Try.underlying26 hj hy0 hy1 hy2 rfl u7 (endsOf (ps.map (·.1))).length (i64s (endsOf (ps.map (·.1)))) rfl hOb.out ⟨w7.heap.size, 0, none⟩ 1 1 [.int .i64 (N2 : Int)] rfl rfl HC1.out (by simp [Value.oneCell']) (by unfold maxLen; have := hel.out; rw [List.length_map] at this; omega) (by have := hel.out; rw [List.length_map] at this; omega) (by (try simp); omega) ?_)
          intro v8 w8 o8 g8 f8
          have R8 := Lib.hid (R7.out.push3 (x := (N2 : Int)) o8 g8 (by intro k hk; rcases f8 k hk with h9 | h9; exact .inl h9; exact .inr (by simpa using h9)))
          have hcb : catB ((ps ++ [(x, Value.slice X1 x.text.length d1)]).map (·.1)) = catB (ps.map (·.1)) ++ x.bytes := by rw [List.map_append]; exact catB_snoc _ _
          have hce : endsOf ((ps ++ [(x, Value.slice X1 x.text.length d1)]).map (·.1)) = endsOf (ps.map (·.1)) ++ [(N2 : Int)] := by
            rw [List.map_append]
            exact (endsOf_snoc _ _).trans (by rw [catB_snoc, List.length_append, HN2.out])
          clear g8 f8 hOb HC1
          have HCB := Lib.hid hcb
          have HCE := Lib.hid hce
          clear hcb hce
          go_wp2_with fail
          go_roundw
          case rel => exact ⟨k + 1, ps ++ [(x, .slice X1 x.text.length d1)], by omega, by go_num, by rw [HCB.out, HCE.out]; exact R8.out, by rw [List.map_append]; exact take_eq HE.out E1.out hg, by simp; omega, by rw [HCB.out, List.length_append, List.length_append]; have := HBl.out; have := hl9.out; simp; omega⟩
          case measure => (try simp [intOf]) <;> omega
        · have d3 : decide ((x.text.length : Int) ≤ 300) = false := by simp; omega
          have hg : goodB x = false := by simp [goodB, h3]
          go_wp2_with fail
          go_roundw
          case rel => exact ⟨k + 1, ps, by omega, by go_num, R5.out, by rw [skip_eq HE.out E1.out hg], by omega, HBl.out⟩
          case measure => (try simp [intOf]) <;> omega
      · have hg : goodB x = false := by simp [goodB, hr]
        simp only [if_neg hr] at o5 ⊢
        obtain ⟨A5, c5, rfl⟩ := len_of_own o5
        go_wp2_with fail
        go_roundw
        case rel => exact ⟨k + 1, ps, by omega, by go_num, R5.out, by rw [skip_eq HE.out E1.out hg], by omega, HBl.out⟩
        case measure => (try simp [intOf]) <;> omega
    · obtain rfl : k = M := by omega
      go_wp2_with fail
      refine bodyPost_ret (v := .tuple #[u5, u6, u7]) ?_ rfl ?_
      · simp [results, Try.results16, go_sem, *]
      · exact ⟨u5, u6, u7, rfl, ps, HR.out, by rw [HE.out, show rs.take k = rs.take 12 from by rw [HM.out, take_min12]]⟩
end Go.Proofs.Ythgaphfelpnclaa
