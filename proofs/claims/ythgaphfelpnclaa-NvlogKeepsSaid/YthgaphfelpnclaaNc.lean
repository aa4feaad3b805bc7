/- The log: a record's bytes. -/
import Derived.Test.YthgaphfelpnclaaNb
set_option linter.unusedVariables false
set_option linter.unusedSimpArgs false
namespace Go.Proofs.Ythgaphfelpnclaa
open Go.RowKit
/-- A record. -/
structure Rc where
  wh : Int
  tx : Int
  who : Int
  yes : Bool
  text : List Int
/-- Its fields as a value; v: the row of its text. -/
def Rc.val (x : Rc) (v : Value) : Value := .agg #[.int .u8 x.wh, .int .u32 x.tx, .int .u8 x.who, .bool x.yes, v]
structure Rc.ok (x : Rc) : Prop where
  wh : 0 ≤ x.wh ∧ x.wh ≤ 255
  tx : 0 ≤ x.tx ∧ x.tx ≤ 4294967295
  who : 0 ≤ x.who ∧ x.who ≤ 255
  text : U8s x.text
def Rc.right (x : Rc) : Bool := rightB x.wh x.who x.yes x.text.length
def Rc.body (x : Rc) : List Int := [x.wh] ++ be4 x.tx ++ [x.who, if x.yes then 1 else 0, (x.text.length : Int) / 256, (x.text.length : Int) % 256] ++ x.text
def crc (ls : List Int) : Int := bits BinOp.xor .u32 4294967295 (csum ls)
def Rc.bytes (x : Rc) : List Int := x.body ++ be4 (crc x.body)
theorem Rc.right_len {x : Rc} (h : x.right = true) : x.text.length ≤ 8192 := by
  unfold Rc.right rightB at h
  split at h
  · simp only [Bool.and_eq_true, decide_eq_true_eq] at h; omega
  · split at h
    · simp only [Bool.and_eq_true, decide_eq_true_eq] at h; omega
    · split at h
      · simp only [Bool.and_eq_true, decide_eq_true_eq] at h; omega
      · cases h
theorem own_lit (w : World) (ls : List Int) (hl : ls.length ≤ 262144) : (w.alloc (.cells (u8s ls).toArray 5)).ownsRow w.heap.size 5 1 (.slice (some ⟨w.heap.size, 0, none⟩) ls.length ls.length) ls.length (u8s ls) := by
  refine ⟨by rw [u8s_len]; omega, .inr ⟨w.heap.size, ls.length, (u8s ls).toArray, rfl, Nat.le_refl _, by unfold World.alloc; simp, Nat.le_refl _, by unfold maxLen; omega, by simp [u8s], ?_⟩⟩
  exact List.take_of_length_le (by rw [u8s_len]; omega)
theorem own_lower {w : World} {b b0 e n : Nat} {v : Value} {xs : List Value} (h : w.ownsRow b e 1 v n xs) (hb : b0 ≤ b) : w.ownsRow b0 e 1 v n xs := by
  refine ⟨h.1, ?_⟩
  rcases h.2 with h | ⟨g, cap, cur, h1, h2, h3⟩
  · exact .inl h
  · exact .inr ⟨g, cap, cur, h1, by omega, h3⟩
theorem u8s_be4 {x : Int} : U8s (be4 x) := by
  intro n hn
  simp [be4] at hn
  rcases hn with rfl | rfl | rfl | rfl <;> omega
theorem U8s.append {a b : List Int} (ha : U8s a) (hb : U8s b) : U8s (a ++ b) := fun n hn => by
  rcases List.mem_append.1 hn with h | h
  · exact ha n h
  · exact hb n h
theorem Rc.ok.body {x : Rc} (h : x.ok) (hr : x.right = true) : U8s x.body := by
  have hl := Rc.right_len hr
  refine U8s.append (U8s.append (U8s.append ?_ u8s_be4) ?_) h.text
  · intro n hn; simp at hn; subst hn; exact h.wh
  · intro n hn
    simp at hn
    have := h.who
    rcases hn with rfl | rfl | rfl | rfl
    · exact h.who
    · split <;> omega
    · omega
    · omega
theorem crc_u32 (ls : List Int) : 0 ≤ crc ls ∧ crc ls ≤ 4294967295 := bits_within .xor .u32 _ _
theorem Rc.ok.bytes {x : Rc} (h : x.ok) (hr : x.right = true) : U8s x.bytes := (h.body hr).append u8s_be4
theorem be4_len (x : Int) : (be4 x).length = 4 := rfl
theorem Rc.body_len (x : Rc) : x.body.length = x.text.length + 9 := by simp [Rc.body, be4]
theorem Rc.bytes_len (x : Rc) : x.bytes.length = x.text.length + 13 := by simp [Rc.bytes, be4_len, Rc.body_len]
set_option maxRecDepth 100000 in
set_option maxHeartbeats 1000000 in
theorem bytesR {x : Rc} {v : Value} (w : World) (hok : x.ok) (h : BAt w v x.text) :
    Calls Try.prog 19 #[x.val v] w fun e' w' => ∃ v2, e' = .returned (.tuple #[v2, .int .i64 (if x.right then 0 else 50)]) ∧ w'.ownsRow w.heap.size 5 1 v2 (if x.right then x.bytes else []).length (u8s (if x.right then x.bytes else [])) ∧ Below w.heap.size w w' := by
  have H := Lib.hid h
  obtain ⟨A, c, rfl, h2, h3, _⟩ := h
  unfold maxLen at h3
  unfold Rc.val
  by_cases hr : x.right = true
  · rw [if_pos hr, if_pos hr]
    have hlen := Rc.right_len hr
    have hr' : rightB x.wh x.who x.yes x.text.length = true := hr
    cases hy : x.yes with
    | true =>
      rw [hy] at hr'
      · have hN1 : (x.text.length : Int) / 256 % 256 = (x.text.length : Int) / 256 % 256 := rfl
        go_enter Try.func19, Try.ntmps19
        go_wp2_with fail
        with_reducible refine Calls.mono (rightD _ _ _ _ _ _ _ _ hok.wh hok.who) ?_
        rintro e1 w1 ⟨rfl, hb1⟩
        rw [hr']
        have x0 : w1.cell? ⟨w.heap.size, 0, none⟩ = some (.int .u8 x.wh) := keep hb1 (by go_simp)
        have x1 : w1.cell? ⟨w.heap.size, 1, none⟩ = some (.int .u32 x.tx) := keep hb1 (by go_simp)
        have x2 : w1.cell? ⟨w.heap.size, 2, none⟩ = some (.int .u8 x.who) := keep hb1 (by go_simp)
        have x3 : w1.cell? ⟨w.heap.size, 3, none⟩ = some (.bool true) := keep hb1 (by go_simp)
        have x4 : w1.cell? ⟨w.heap.size, 4, none⟩ = some (.slice A x.text.length c) := keep hb1 (by go_simp)
        have S1 := Lib.hid (bstep (balloc (Below.refl _ w) _) hb1)
        have T1 := Lib.hid (H.out.below S1.out)
        have xz := cell_lt x0
        clear hb1
        go_wp2_with fail
        have o0 : (w1.alloc (.cells #[.int .u8 x.wh] 5)).ownsRow w1.heap.size 5 1 (.slice (some ⟨w1.heap.size, 0, none⟩) 1 1) [x.wh].length (u8s [x.wh]) := own_lit w1 [x.wh] (by simp)
        with_reducible refine Calls.mono (wideD (base := w1.heap.size) (b := [x.wh]) _ o0 (by simp) (by simp)) ?_
        rintro e2 w2 ⟨v2, rfl, o2, g2, f2⟩
        have S2 := Lib.hid (below_grown (balloc S1.out _) g2 (fun k hk => by simp [Value.ownBlock] at hk; omega))
        have T2 := Lib.hid (H.out.below S2.out)
        have nb2 : ∀ k, v2.ownBlock = some k → w1.heap.size ≤ k := fun k hk => (o2.lt k hk).1
        have x0 : w2.cell? ⟨w.heap.size, 0, none⟩ = some (.int .u8 x.wh) := g2.cell (by go_simp) (by simp [Value.ownBlock]; omega)
        have x2 : w2.cell? ⟨w.heap.size, 2, none⟩ = some (.int .u8 x.who) := g2.cell (by go_simp) (by simp [Value.ownBlock]; omega)
        have x4 : w2.cell? ⟨w.heap.size, 4, none⟩ = some (.slice A x.text.length c) := g2.cell (by go_simp) (by simp [Value.ownBlock]; omega)
        have hs2 : w1.heap.size + 1 ≤ w2.heap.size := by have := g2.size; simpa using this
        have xz2 := cell_lt x0
        clear g2 f2 S1 T1 x1 x3
        obtain ⟨b2, hb2⟩ : ∃ b2, b2 = [x.wh] ++ be4 x.tx := ⟨_, rfl⟩
        have hl2 : b2.length = 5 := by rw [hb2]; rfl
        rw [← hb2, hl2] at o2
        have HB2 := Lib.hid hb2
        clear hb2
        obtain ⟨A2, c2, rfl⟩ := len_of_own o2
        have q2 := own_below o2 (balloc (Below.refl _ w2) (.cells (u8s [x.who, 1, (x.text.length : Int) / 256, (x.text.length : Int) % 256]).toArray 5))
        have p2 := bat_lit w2 [x.who, 1, (x.text.length : Int) / 256, (x.text.length : Int) % 256] (by simp)
        go_wp2_with (at_builtin; refine wpList_append_from _ rfl _ _ rfl w1.heap.size (.slice A2 5 c2) (.slice (some ⟨w2.heap.size, 0, none⟩) 4 4) 5 (u8s b2) [x.who, 1, (x.text.length : Int) / 256, (x.text.length : Int) % 256] rfl rfl q2 p2 (by simp) (by (try simp); omega) ?_)
        intro v3 w3 o3 g3 f3
        have S3 := Lib.hid (below_grown (balloc S2.out _) g3 (fun k hk => by have := nb2 k hk; omega))
        have T3 := Lib.hid (H.out.below S3.out)
        have ne2 : ∀ k, k < w1.heap.size → some k ≠ (Value.slice A2 5 c2).ownBlock := fun k hk e => by have := nb2 k e.symm; omega
        have x0 : w3.cell? ⟨w.heap.size, 0, none⟩ = some (.int .u8 x.wh) := g3.cell (by go_simp) (ne2 _ (by omega))
        have x4 : w3.cell? ⟨w.heap.size, 4, none⟩ = some (.slice A x.text.length c) := g3.cell (by go_simp) (ne2 _ (by omega))
        have hs3 : w2.heap.size + 1 ≤ w3.heap.size := by have := g3.size; simpa using this
        have nb3 : ∀ k, v3.ownBlock = some k → w1.heap.size ≤ k := fun k hk => (o3.lt k hk).1
        have xz3 := cell_lt x0
        clear g3 f3 S2 T2 q2 p2 x2 ne2
        obtain ⟨b3, hb3⟩ : ∃ b3, b3 = b2 ++ [x.who, 1, (x.text.length : Int) / 256, (x.text.length : Int) % 256] := ⟨_, rfl⟩
        rw [← u8s_append, ← hb3] at o3
        have hl3 : b3.length = 9 := by rw [hb3, List.length_append, hl2]; rfl
        have HB3 := Lib.hid hb3
        clear hb3
        obtain ⟨A3, c3, rfl⟩ := len_of_own o3
        go_wp2_with (at_builtin; refine wpList_append_from _ rfl _ _ rfl w1.heap.size (.slice A3 9 c3) (.slice A x.text.length c) 9 (u8s b3) x.text rfl rfl o3 T3.out (by omega) (by (try simp); omega) ?_)
        intro v4 w4 o4 g4 f4
        have S4 := Lib.hid (below_grown S3.out g4 (fun k hk => by have := nb3 k hk; omega))
        rw [← u8s_append] at o4
        have hb4 : x.body = b3 ++ x.text := by rw [HB3.out, HB2.out, Rc.body, hy]; rfl
        have hl4 : x.body.length = 9 + x.text.length := by rw [hb4, List.length_append, hl3]
        rw [← hb4, ← hl4] at o4
        have HL4 := Lib.hid hl4
        have hs4 : w3.heap.size ≤ w4.heap.size := g4.size
        clear g4 f4 S3 T3 hb4 hl4
        obtain ⟨A4, c4, rfl⟩ := len_of_own o4
        go_wp2_with fail
        with_reducible refine Calls.mono (sumD _ (BAt.of_own o4) (hok.body hr)) ?_
        rintro e5 w5 ⟨rfl, hb5⟩
        have o5 := own_below o4 hb5
        have S5 := Lib.hid (bstep S4.out hb5)
        have xz5 : w1.heap.size ≤ w5.heap.size := by have := hs4; have := hb5.size; omega
        clear hb5
        go_wp2_with fail
        with_reducible refine Calls.mono (wideD _ o5 (by have := S5.out.size; have := xz5; omega) (by have := HL4.out; omega)) ?_
        rintro e6 w6 ⟨v6, rfl, o6, g6, f6⟩
        have S6 := Lib.hid (below_grown S5.out g6 (fun k hk => by have := (o5.lt k hk).1; omega))
        go_wp2_with fail
        refine bodyPost_ret (v := .tuple #[v6, .int .i64 0]) (by simp [results, Try.results19, go_sem, *]) rfl ⟨_, rfl, own_lower o6 (by omega), S6.out⟩
    | false =>
      rw [hy] at hr'
      · have hN1 : (x.text.length : Int) / 256 % 256 = (x.text.length : Int) / 256 % 256 := rfl
        go_enter Try.func19, Try.ntmps19
        go_wp2_with fail
        with_reducible refine Calls.mono (rightD _ _ _ _ _ _ _ _ hok.wh hok.who) ?_
        rintro e1 w1 ⟨rfl, hb1⟩
        rw [hr']
        have x0 : w1.cell? ⟨w.heap.size, 0, none⟩ = some (.int .u8 x.wh) := keep hb1 (by go_simp)
        have x1 : w1.cell? ⟨w.heap.size, 1, none⟩ = some (.int .u32 x.tx) := keep hb1 (by go_simp)
        have x2 : w1.cell? ⟨w.heap.size, 2, none⟩ = some (.int .u8 x.who) := keep hb1 (by go_simp)
        have x3 : w1.cell? ⟨w.heap.size, 3, none⟩ = some (.bool false) := keep hb1 (by go_simp)
        have x4 : w1.cell? ⟨w.heap.size, 4, none⟩ = some (.slice A x.text.length c) := keep hb1 (by go_simp)
        have S1 := Lib.hid (bstep (balloc (Below.refl _ w) _) hb1)
        have T1 := Lib.hid (H.out.below S1.out)
        have xz := cell_lt x0
        clear hb1
        go_wp2_with fail
        have o0 : (w1.alloc (.cells #[.int .u8 x.wh] 5)).ownsRow w1.heap.size 5 1 (.slice (some ⟨w1.heap.size, 0, none⟩) 1 1) [x.wh].length (u8s [x.wh]) := own_lit w1 [x.wh] (by simp)
        with_reducible refine Calls.mono (wideD (base := w1.heap.size) (b := [x.wh]) _ o0 (by simp) (by simp)) ?_
        rintro e2 w2 ⟨v2, rfl, o2, g2, f2⟩
        have S2 := Lib.hid (below_grown (balloc S1.out _) g2 (fun k hk => by simp [Value.ownBlock] at hk; omega))
        have T2 := Lib.hid (H.out.below S2.out)
        have nb2 : ∀ k, v2.ownBlock = some k → w1.heap.size ≤ k := fun k hk => (o2.lt k hk).1
        have x0 : w2.cell? ⟨w.heap.size, 0, none⟩ = some (.int .u8 x.wh) := g2.cell (by go_simp) (by simp [Value.ownBlock]; omega)
        have x2 : w2.cell? ⟨w.heap.size, 2, none⟩ = some (.int .u8 x.who) := g2.cell (by go_simp) (by simp [Value.ownBlock]; omega)
        have x4 : w2.cell? ⟨w.heap.size, 4, none⟩ = some (.slice A x.text.length c) := g2.cell (by go_simp) (by simp [Value.ownBlock]; omega)
        have hs2 : w1.heap.size + 1 ≤ w2.heap.size := by have := g2.size; simpa using this
        have xz2 := cell_lt x0
        clear g2 f2 S1 T1 x1 x3
        obtain ⟨b2, hb2⟩ : ∃ b2, b2 = [x.wh] ++ be4 x.tx := ⟨_, rfl⟩
        have hl2 : b2.length = 5 := by rw [hb2]; rfl
        rw [← hb2, hl2] at o2
        have HB2 := Lib.hid hb2
        clear hb2
        obtain ⟨A2, c2, rfl⟩ := len_of_own o2
        have q2 := own_below o2 (balloc (Below.refl _ w2) (.cells (u8s [x.who, 0, (x.text.length : Int) / 256, (x.text.length : Int) % 256]).toArray 5))
        have p2 := bat_lit w2 [x.who, 0, (x.text.length : Int) / 256, (x.text.length : Int) % 256] (by simp)
        go_wp2_with (at_builtin; refine wpList_append_from _ rfl _ _ rfl w1.heap.size (.slice A2 5 c2) (.slice (some ⟨w2.heap.size, 0, none⟩) 4 4) 5 (u8s b2) [x.who, 0, (x.text.length : Int) / 256, (x.text.length : Int) % 256] rfl rfl q2 p2 (by simp) (by (try simp); omega) ?_)
        intro v3 w3 o3 g3 f3
        have S3 := Lib.hid (below_grown (balloc S2.out _) g3 (fun k hk => by have := nb2 k hk; omega))
        have T3 := Lib.hid (H.out.below S3.out)
        have ne2 : ∀ k, k < w1.heap.size → some k ≠ (Value.slice A2 5 c2).ownBlock := fun k hk e => by have := nb2 k e.symm; omega
        have x0 : w3.cell? ⟨w.heap.size, 0, none⟩ = some (.int .u8 x.wh) := g3.cell (by go_simp) (ne2 _ (by omega))
        have x4 : w3.cell? ⟨w.heap.size, 4, none⟩ = some (.slice A x.text.length c) := g3.cell (by go_simp) (ne2 _ (by omega))
        have hs3 : w2.heap.size + 1 ≤ w3.heap.size := by have := g3.size; simpa using this
        have nb3 : ∀ k, v3.ownBlock = some k → w1.heap.size ≤ k := fun k hk => (o3.lt k hk).1
        have xz3 := cell_lt x0
        clear g3 f3 S2 T2 q2 p2 x2 ne2
        obtain ⟨b3, hb3⟩ : ∃ b3, b3 = b2 ++ [x.who, 0, (x.text.length : Int) / 256, (x.text.length : Int) % 256] := ⟨_, rfl⟩
        rw [← u8s_append, ← hb3] at o3
        have hl3 : b3.length = 9 := by rw [hb3, List.length_append, hl2]; rfl
        have HB3 := Lib.hid hb3
        clear hb3
        obtain ⟨A3, c3, rfl⟩ := len_of_own o3
        go_wp2_with (at_builtin; refine wpList_append_from _ rfl _ _ rfl w1.heap.size (.slice A3 9 c3) (.slice A x.text.length c) 9 (u8s b3) x.text rfl rfl o3 T3.out (by omega) (by (try simp); omega) ?_)
        intro v4 w4 o4 g4 f4
        have S4 := Lib.hid (below_grown S3.out g4 (fun k hk => by have := nb3 k hk; omega))
        rw [← u8s_append] at o4
        have hb4 : x.body = b3 ++ x.text := by rw [HB3.out, HB2.out, Rc.body, hy]; rfl
        have hl4 : x.body.length = 9 + x.text.length := by rw [hb4, List.length_append, hl3]
        rw [← hb4, ← hl4] at o4
        have HL4 := Lib.hid hl4
        have hs4 : w3.heap.size ≤ w4.heap.size := g4.size
        clear g4 f4 S3 T3 hb4 hl4
        obtain ⟨A4, c4, rfl⟩ := len_of_own o4
        go_wp2_with fail
        with_reducible refine Calls.mono (sumD _ (BAt.of_own o4) (hok.body hr)) ?_
        rintro e5 w5 ⟨rfl, hb5⟩
        have o5 := own_below o4 hb5
        have S5 := Lib.hid (bstep S4.out hb5)
        have xz5 : w1.heap.size ≤ w5.heap.size := by have := hs4; have := hb5.size; omega
        clear hb5
        go_wp2_with fail
        with_reducible refine Calls.mono (wideD _ o5 (by have := S5.out.size; have := xz5; omega) (by have := HL4.out; omega)) ?_
        rintro e6 w6 ⟨v6, rfl, o6, g6, f6⟩
        have S6 := Lib.hid (below_grown S5.out g6 (fun k hk => by have := (o5.lt k hk).1; omega))
        go_wp2_with fail
        refine bodyPost_ret (v := .tuple #[v6, .int .i64 0]) (by simp [results, Try.results19, go_sem, *]) rfl ⟨_, rfl, own_lower o6 (by omega), S6.out⟩
  · have hr' : rightB x.wh x.who x.yes x.text.length = false := by simpa [Rc.right] using hr
    rw [if_neg hr, if_neg hr]
    go_enter Try.func19, Try.ntmps19
    go_wp2_with fail
    with_reducible refine Calls.mono (rightD _ _ _ _ _ _ _ _ hok.wh hok.who) ?_
    rintro e1 w1 ⟨rfl, hb1⟩
    rw [hr']
    go_wp2_with fail
    refine bodyPost_ret (v := .tuple #[.slice none 0 0, .int .i64 50]) (by simp [results, Try.results19, go_sem, *]) rfl ⟨_, rfl, World.ownsRow_nil _ _ _ _, bstep (balloc (Below.refl _ w) _) hb1⟩
end Go.Proofs.Ythgaphfelpnclaa
