/- The log: all records that bytes begin with, and where their texts lie. -/
import Derived.Test.YthgaphfelpnclaaNk
import Derived.Test.YthgaphfelpnclaaNl
set_option linter.unusedVariables false
set_option linter.unusedSimpArgs false
namespace Go.Proofs.Ythgaphfelpnclaa
open Go.RowKit
/-- The texts lie in blocks from b on. -/
def Hi (b : Nat) (ps : List (Rc × Value)) : Prop := ∀ p ∈ ps, ∀ k, p.2.ownBlock = some k → b ≤ k
theorem Hi.nil (b : Nat) : Hi b [] := fun p hp => by cases hp
theorem Hi.snoc {b : Nat} {ps : List (Rc × Value)} {p : Rc × Value} (h : Hi b ps) (hp : ∀ k, p.2.ownBlock = some k → b ≤ k) : Hi b (ps ++ [p]) := fun q hq => by
  rcases List.mem_append.1 hq with hq | hq
  · exact h q hq
  · obtain rfl : q = p := by simpa using hq
    exact hp
theorem own_stepS {w w' : World} {base e s n B : Nat} {u v v2 : Value} {xs : List Value} (h : w.ownsRow base e s u n xs) (st : Step B v v2 w w') (hB : B < base) (hv : ∀ k, v.ownBlock = some k → k < base) : w'.ownsRow base e s u n xs := by
  refine ⟨h.1, ?_⟩
  rcases h.2 with hn | ⟨g, cap, cur, rfl, hb, hg, r⟩
  · exact .inl hn
  · refine .inr ⟨g, cap, cur, rfl, hb, ?_, r⟩
    rw [st.block g (Array.getElem?_eq_some_iff.1 hg).1 (by omega) (fun e => by have := hv g e.symm; omega)]
    exact hg
theorem OwnR.step {w w' : World} {base B : Nat} {u v v2 : Value} {ps : List (Rc × Value)} (h : OwnR w base u ps) (hi : Hi base ps) (st : Step B v v2 w w') (hB : B < base) (hv : ∀ k, v.ownBlock = some k → k < base) : OwnR w' base u ps :=
  ⟨own_stepS h.own st hB hv, fun p hp => ⟨(h.txt p hp).1.step st (fun _ k hk => ⟨by have := hi p hp k hk; omega, fun e => by have := hi p hp k hk; have := hv k e.symm; omega⟩), (h.txt p hp).2⟩⟩
set_option maxRecDepth 100000 in
set_option maxHeartbeats 2000000 in
theorem readF {v : Value} {ls : List Int} (w : World) (h : BAt w v ls) (hu : U8s ls) (hlen : ls.length ≤ 262144) :
    Calls Try.prog 17 #[v] w fun e' w' => ∃ v2 ps n, e' = .returned (.tuple #[v2, .int .i64 (n : Nat)]) ∧ Reads ls (ps.map (·.1)) n ∧ OwnR w' w.heap.size v2 ps ∧ Hi w.heap.size ps ∧ Below w.heap.size w w' := by
  have H := Lib.hid h
  obtain ⟨A, c, rfl, h2, h3, _⟩ := h
  have hc := h3
  unfold maxLen at h3
  obtain ⟨i34, hi, hz0, hz1, hz2⟩ := info_parts info34
  go_enter Try.func17, Try.ntmps17
  go_wp2_with fail
  go_loopw [4, 5] (fun out at_ wr => ∃ (k : Nat) (v : Value) (ps : List (Rc × Value)), k ≤ ls.length ∧ at_ = .int .i64 k ∧ out = v ∧ OwnR wr w.heap.size v ps ∧ Hi w.heap.size ps ∧ Below w.heap.size w wr ∧ ps.length ≤ k ∧ (∀ rs n, Reads (ls.drop k) rs n → Reads ls (ps.map (·.1) ++ rs) (k + n))) (fun _ at_ _ => ls.length - (intOf at_).toNat)
  case atStart => exact ⟨0, _, [], by omega, rfl, rfl, OwnR.nil _ _, Hi.nil _, Below.refl _ _, by simp, fun rs n hr => by simpa using hr⟩
  case round =>
    obtain ⟨k, v, ps, hk, rfl, rfl, hO, hHi, hB, hps, hR⟩ := hrel
    have HHi := Lib.hid hHi
    clear hHi
    have HO := Lib.hid hO
    have HB := Lib.hid hB
    have HR := Lib.hid hR
    have hsz := hB.size
    obtain ⟨V, hV, hVB⟩ := slice_low (A := A) (n := ls.length) (c := c) k k rfl hk h2 hc
    have HVB := Lib.hid (hVB _ _ (H.out.below hB))
    clear hO hB hR hVB
    go_wp2_with fail
    with_reducible refine Calls.mono (firstR _ HVB.out (u8s_drop hu k) (by rw [List.length_drop]; omega)) ?_
    rintro e1 w1 ⟨v1, rfl, o1, hb1⟩
    cases hf : first (ls.drop k) with
    | none =>
      rw [hf] at o1
      simp only [firstV, zeroRec]
      go_wp2_with fail
      refine bodyPost_ret (v := .tuple #[u4, .int .i64 (k : Nat)]) ?_ rfl ?_
      · simp [results, Try.results17, go_sem, *]
      · exact ⟨u4, ps, k, rfl, by simpa using HR.out [] 0 (Reads.nil hf), HO.out.below (bstep hb1 (balloc (Below.refl _ _) _)), HHi.out, bstep (bstep HB.out hb1) (balloc (Below.refl _ _) _)⟩
    | some x =>
      rw [hf] at o1
      have hx := first_len hf
      rw [List.length_drop] at hx
      replace o1 : w1.ownsRow wr.heap.size 5 1 v1 x.text.length (u8s x.text) := o1
      obtain ⟨A1, c1, rfl⟩ := len_of_own o1
      have hx2 : (k : Int) + ((x.text.length : Int) + 13) ≤ 262144 := by omega
      have HX := Lib.hid hx
      have HF := Lib.hid hf
      have en : ((x.text.length : Int) + 13 == 0) = false := by simp; omega
      have hO1 : OwnR (w1.alloc (.cells #[.int .u8 x.wh, .int .u32 x.tx, .int .u8 x.who, .bool x.yes, .slice A1 x.text.length c1] 34)) w.heap.size u4 ps := HO.out.below (bstep hb1 (balloc (Below.refl _ _) _))
      have hcx := cellsR_at' (w1.alloc (.cells #[.int .u8 x.wh, .int .u32 x.tx, .int .u8 x.who, .bool x.yes, .slice A1 x.text.length c1] 34)) (x, .slice A1 x.text.length c1) (w1.heap.size + 1) (by simp)
      have hOa := Lib.hid (own_belowS hO1.own (balloc (Below.refl _ _) (.cells #[.int .u8 x.wh, .int .u32 x.tx, .int .u8 x.who, .bool x.yes, .slice A1 x.text.length c1] 34)))
      have HO1 := Lib.hid hO1
      have HCX := Lib.hid hcx
      clear hx hf hO1 hcx
      simp only [firstV, Rc.val]
      go_wp2_with (at_builtin; refine wpList_append_own5 _ rfl _ _ 22 rfl w.heap.size 34 i34 _ 40 Try.underlying22 hi hz0 hz1 hz2 rfl _ ps.length (flatR ps) rfl hOa.out ⟨w1.heap.size + 1, 0, none⟩ 1 1 (cellsR (x, .slice A1 x.text.length c1)) rfl rfl HCX.out (by simp [cellsR, Value.oneCell']) (by unfold maxLen; omega) (by omega) (by (try simp); have := hb1.size; omega) ?_)
      intro v2 w2 o2 g2 f2
      have S2 := Lib.hid (below_grown (show Below w.heap.size w _ from balloc (balloc (bstep HB.out hb1) _) _) g2 (fun k hk => (HO1.out.own.lt k hk).1))
      have ht1 : BAt (w1.alloc (.cells #[.int .u8 x.wh, .int .u32 x.tx, .int .u8 x.who, .bool x.yes, .slice A1 x.text.length c1] 34)) (.slice A1 x.text.length c1) x.text := (BAt.of_own o1).below (balloc (Below.refl _ _) _)
      have O2 := Lib.hid (HO1.out.snoc (x := x) ht1 (fun _ e => by
        cases A1 with
        | none => rename_i hne; exact hne (List.length_eq_zero_iff.1 (by have := own_cap o1; have := (BAt.of_own o1); obtain ⟨A, c, e9, h9⟩ := this; simp only [Value.slice.injEq] at e9; obtain ⟨rfl, _, rfl⟩ := e9; by_cases h0 : x.text.length = 0; exact h0; obtain ⟨b9, o9, e8, _⟩ := h9.2.2 0 (by omega); cases e8))
        | some a =>
          have h8 := (o1.lt a.block rfl).1
          have h7 := HO.out.own.lt a.block e.symm
          omega) o2 g2 (by intro k hk; rcases f2 k hk with h9 | h9; exact .inl h9; exact .inr (by simpa using h9)))
      clear g2 f2
      go_wp2_with fail
      go_roundw
      case rel => exact ⟨k + (x.text.length + 13), v2, ps ++ [(x, .slice A1 x.text.length c1)], by have := HX.out; omega, by go_num, rfl, O2.out, HHi.out.snoc (fun k hk => by have := (o1.lt k hk).1; omega), S2.out, by simp; omega, fun rs n hr => by
        have h9 := HR.out (x :: rs) (x.text.length + 13 + n) (Reads.cons HF.out (by rw [List.drop_drop]; exact hr))
        simpa [Nat.add_assoc] using h9⟩
      case measure => have := HX.out; (try simp [intOf]) <;> omega
end Go.Proofs.Ythgaphfelpnclaa
