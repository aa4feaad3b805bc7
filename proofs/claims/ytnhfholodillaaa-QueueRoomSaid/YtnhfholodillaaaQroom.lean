/- The law QueueRoom, walked: for any room, any numbers that came and went ahead, and any one that is dropped, it returns true and writes nothing that was there. -/
import Derived.Test.YtnhfholodillaaaQg
import Derived.Deep.RegionLaw
import Derived.Deep.DeepCutAuto
import Derived.OwnWalk
set_option linter.unusedVariables false
set_option linter.unusedSimpArgs false
namespace Go.Proofs.Ytnhfholodillaaa
open Go.RowKit

def seqL (n j : Nat) : List Int := (List.range j).map fun (i : Nat) => ((n : Int) + (i : Int) + 1)
theorem seqL_length (n j : Nat) : (seqL n j).length = j := by simp [seqL]
theorem seqL_succ (n j : Nat) : seqL n j ++ [(n : Int) + (j : Int) + 1] = seqL n (j + 1) := by simp [seqL, List.range_succ]
theorem seqL_split (n j K : Nat) (h : K < j) : seqL n j = (seqL n j).take K ++ ((n : Int) + (K : Int) + 1) :: (seqL n j).drop (K + 1) := by
  have hK : K < (seqL n j).length := by rw [seqL_length]; exact h
  have e : (seqL n j)[K] = (n : Int) + (K : Int) + 1 := by simp [seqL]
  rw [← e, ← List.drop_eq_getElem_cons hK, List.take_append_drop]
theorem seqL_notin (n j K : Nat) (h : K < j) : ((n : Int) + (K : Int) + 1) ∉ (seqL n j).take K := by
  intro hm
  obtain ⟨i, hi, he⟩ := List.getElem_of_mem hm
  simp [seqL] at hi he
  omega
theorem seqL_notin2 (n j K : Nat) (h : K < j) : ((n : Int) + (K : Int) + 1) ∉ (seqL n j).take K ++ (seqL n j).drop (K + 1) := by
  intro hm
  rcases List.mem_append.1 hm with hm | hm
  · exact seqL_notin n j K h hm
  · obtain ⟨i, hi, he⟩ := List.getElem_of_mem hm
    simp [seqL] at hi he
    omega
theorem seqL_lens (n j K : Nat) (h : K < j) : ((seqL n j).take K ++ (seqL n j).drop (K + 1)).length = j - 1 := by
  simp [seqL]; omega
theorem U32At.cell {w : World} {g n c : Nat} {ls : List Int} (h : U32At w (.slice (some ⟨g, 0, none⟩) n c) ls) {i : Nat} (hi : i < ls.length) : w.cell? ⟨g, i, none⟩ = some (.int .u32 (ls.getD i 0)) ∧ w.frozen? ⟨g, i, none⟩ = false := by
  obtain ⟨A, c', e, h2, h3, h4⟩ := h
  obtain ⟨b, o, e1, e2, e3⟩ := h4 i hi
  simp only [Value.slice.injEq] at e
  obtain ⟨ea, _, _⟩ := e
  rw [← ea] at e1
  simp only [Option.some.injEq, Addr.mk.injEq, and_true] at e1
  obtain ⟨rfl, rfl⟩ := e1
  rw [Nat.zero_add] at e2 e3
  exact ⟨e2, e3⟩
theorem U32At.only {w w' : World} {B g n c : Nat} {ls : List Int} (h : U32At w (.slice (some ⟨g, 0, none⟩) n c) ls) (ho : Only B w w') (hB : g ≠ B) : U32At w' (.slice (some ⟨g, 0, none⟩) n c) ls := by
  have hc := fun (i : Nat) (hi : i < ls.length) => h.cell hi
  obtain ⟨A, c', e, h2, h3, h4⟩ := h
  simp only [Value.slice.injEq] at e
  obtain ⟨ea, en, ec⟩ := e
  subst ec
  refine ⟨_, _, by rw [en], h2, h3, fun i hi => ⟨g, 0, rfl, ?_, ?_⟩⟩
  · rw [Nat.zero_add]; exact ho.keep (hc i hi).1 hB
  · rw [Nat.zero_add]; exact ho.keepF _ (hc i hi).1 (hc i hi).2 hB
/-- A row of its own that is not empty, written out. -/
theorem own_form {w : World} {base e n : Nat} {v : Value} {xs : List Value} (h : w.ownsRow base e 1 v n xs) (hn : 0 < n) : ∃ g cap, v = .slice (some ⟨g, 0, none⟩) n cap ∧ base ≤ g ∧ n ≤ cap ∧ cap ≤ maxLen := by
  rcases h.2 with ⟨_, h0⟩ | ⟨g, cap, cur, hv, hb, _, h1, h2, _⟩
  · omega
  · exact ⟨g, cap, hv, hb, h1, h2⟩
/-- append to a row of the call's own, as one step of a region that draws; nothing below B is touched. -/
theorem step_own {P : Program} {ops : Array Oper} {o : Oper} {a : Act} {w wB : World} {K : Act → World → Prop} {Q : Exit → Act → World → Prop} {E : Prop}
    (hg : o.guard = none) (s x : Operand) (t : TypeId) (hop : o.op = Op.call { callee := Callee.builtin Builtin.append, args := #[s, x], argTypes := #[t, t] })
    (e : TypeId) (i : TypeInfo) (z : Value) (bytes : Nat) (ht : P.underlying t = some (.slice e)) (hi : P.info? e = some i) (hz : i.zero = some z) (hsize : i.size = 1) (hby : i.bytes = bytes) (hzs : z.cells.size = 1)
    (hb : Below wB.heap.size wB w) (v : Value) (n : Nat) (xs : List Value) (hs : a.eval s = v) (hown : w.ownsRow wB.heap.size e 1 v n xs)
    (ad : Addr) (m c : Nat) (news : List Value) (hx : a.eval x = .slice (some ad) m c) (hl : news.length = m) (hnews : ∀ j u, news[j]? = some u → w.cell? (ad.add j) = some u) (h1 : ∀ u ∈ news, u.oneCell' = true)
    (h63 : n + m ≤ maxLen) (hbytes : (n + m) * bytes ≤ 140737488355328)
    (h : ∀ v' w', w'.ownsRow wB.heap.size e 1 v' (n + m) (xs ++ news) → Below wB.heap.size wB w' → K (a.put o.dst v') w') :
    if Region.wanted o (yielded ops a.tmps) = true then Oper.wp P o a w K Q else E := by
  have hw : Region.wanted o (yielded ops a.tmps) = true := by simp [Region.wanted, hg]
  rw [if_pos hw]
  exact wp_append_own _ s x t hop wB.heap.size e i z 1 bytes ht hi hz hsize hby hzs (by decide) v n xs hs hown ad m c news hx (by omega) hnews h1 h63 hbytes hb.size fun v' w' h2 h3 _ => h v' w' h2 (hb.grown h3 hb.size fun k hk => (hown.lt k hk).1)
theorem own_made1 (w : World) (base b : Nat) (hb : b = w.heap.size) (h : base ≤ w.heap.size) : (w.alloc (.cells #[] 22)).ownsRow base 22 1 (.slice (some ⟨b, 0, none⟩) 0 0) 0 [] := by
  subst hb
  exact World.ownsRow_made w #[] 0 h (by decide) rfl
/-- The cells of a part of a row of numbers. -/
theorem U32At.part {w : World} {g n c : Nat} {ls : List Int} (h : U32At w (.slice (some ⟨g, 0, none⟩) n c) ls) (D : Nat) (xs : List Int) (hx : ∀ i, i < xs.length → D + i < ls.length ∧ xs.getD i 0 = ls.getD (D + i) 0) :
    ∀ i u, (xs.map (Value.int .u32))[i]? = some u → w.cell? ((⟨g, D, none⟩ : Addr).add i) = some u := by
  intro i u hu
  rw [List.getElem?_map] at hu
  by_cases hi : i < xs.length
  · rw [List.getElem?_eq_getElem hi] at hu
    simp at hu
    subst hu
    obtain ⟨h1, h2⟩ := hx i hi
    have h3 := (h.cell h1).1
    simp only [List.getD, List.getElem?_eq_getElem hi, Option.getD_some] at h2
    rcases Nat.eq_zero_or_pos i with h0 | h0
    · subst h0; simpa [Addr.add, h2] using h3
    · rw [show (⟨g, D, none⟩ : Addr).add i = ⟨g, D + i, none⟩ from by simp [Addr.add, Nat.ne_of_gt h0], h2]; exact h3
  · rw [List.getElem?_eq_none (by omega)] at hu
    simp at hu
theorem ones (xs : List Int) : ∀ u ∈ xs.map (Value.int .u32), u.oneCell' = true := by
  intro u hu
  obtain ⟨x, _, rfl⟩ := List.mem_map.1 hu
  rfl
/-- Not the row's block: another number stands there. -/
theorem own_sep {w : World} {base n : Nat} {v : Value} {x : Int} {xs : List Value} (h : w.ownsRow base 22 1 v n (.int .u32 x :: xs)) {b : Nat} {y : Int} (hc : w.cell? ⟨b, 0, none⟩ = some (.int .u32 y)) (hne : x ≠ y) : some b ≠ v.ownBlock := by
  intro e
  rcases h.2 with ⟨rfl, h0⟩ | ⟨g, cap, cur, rfl, hb, hg, h1, h2, h3, h4⟩
  · simp [Value.ownBlock] at e
  · simp [Value.ownBlock] at e
    subst e
    have hl := h.1
    simp only [List.length_cons] at hl
    have h5 := hc
    simp [World.cell?, hg] at h5
    have h6 : cur.toList.take (n * 1) = .int .u32 x :: xs := h4
    have h7 : cur[0]? = some (.int .u32 x) := by
      have := congrArg (fun l => l[0]?) h6
      simp [List.getElem?_take] at this
      have h8 : 0 < n := by omega
      simpa [h8] using this
    rw [h7] at h5
    simp at h5
    exact hne h5
/-- append to an own row as a step of a region that draws, and a cell that stays. -/
theorem step_ownC {P : Program} {ops : Array Oper} {o : Oper} {a : Act} {w wB : World} {K : Act → World → Prop} {Q : Exit → Act → World → Prop} {E : Prop}
    (hg : o.guard = none) (s x : Operand) (t : TypeId) (hop : o.op = Op.call { callee := Callee.builtin Builtin.append, args := #[s, x], argTypes := #[t, t] })
    (e : TypeId) (i : TypeInfo) (z : Value) (bytes : Nat) (ht : P.underlying t = some (.slice e)) (hi : P.info? e = some i) (hz : i.zero = some z) (hsize : i.size = 1) (hby : i.bytes = bytes) (hzs : z.cells.size = 1)
    (hb : Below wB.heap.size wB w) (v : Value) (n : Nat) (xs : List Value) (hs : a.eval s = v) (hown : w.ownsRow wB.heap.size e 1 v n xs)
    (ad : Addr) (m c : Nat) (news : List Value) (hx : a.eval x = .slice (some ad) m c) (hl : news.length = m) (hnews : ∀ j u, news[j]? = some u → w.cell? (ad.add j) = some u) (h1 : ∀ u ∈ news, u.oneCell' = true)
    (h63 : n + m ≤ maxLen) (hbytes : (n + m) * bytes ≤ 140737488355328)
    (b0 : Nat) (u0 : Value) (hc0 : w.cell? ⟨b0, 0, none⟩ = some u0) (hne : w.cell? ⟨b0, 0, none⟩ = some u0 → w.ownsRow wB.heap.size e 1 v n xs → some b0 ≠ v.ownBlock)
    (h : ∀ v' w', w'.ownsRow wB.heap.size e 1 v' (n + m) (xs ++ news) → Below wB.heap.size wB w' → w'.cell? ⟨b0, 0, none⟩ = some u0 → K (a.put o.dst v') w') :
    if Region.wanted o (yielded ops a.tmps) = true then Oper.wp P o a w K Q else E := by
  have hw : Region.wanted o (yielded ops a.tmps) = true := by simp [Region.wanted, hg]
  rw [if_pos hw]
  exact wp_append_own _ s x t hop wB.heap.size e i z 1 bytes ht hi hz hsize hby hzs (by decide) v n xs hs hown ad m c news hx (by omega) hnews h1 h63 hbytes hb.size fun v' w' h2 h3 _ => h v' w' h2 (hb.grown h3 hb.size fun k hk => (hown.lt k hk).1) (h3.cell hc0 (hne hc0 hown))
theorem List.getD_take_of_lt {l : List Int} {n i : Nat} (h : i < n) : (l.take n).getD i 0 = l.getD i 0 := by simp [List.getD, List.getElem?_take, h]
theorem List.getD_drop_add {l : List Int} {n i : Nat} : (l.drop n).getD i 0 = l.getD (n + i) 0 := by simp [List.getD, List.getElem?_drop]
theorem seqL_head (n j K : Nat) (h : 0 < K) (hj : K ≤ j) : ∃ s, (seqL n j).take K = ((n : Int) + 1) :: s := by
  obtain ⟨a, rfl⟩ : ∃ a, K = a + 1 := ⟨K - 1, by omega⟩
  obtain ⟨b, rfl⟩ : ∃ b, j = b + 1 := ⟨j - 1, by omega⟩
  exact ⟨((List.range b).map ((fun (i : Nat) => (n : Int) + (i : Int) + 1) ∘ Nat.succ)).take a, by simp [seqL, List.range_succ_eq_map]⟩
theorem own_sep2 {w : World} {base n : Nat} {v : Value} {x : Int} {ls s : List Int} (h : w.ownsRow base 22 1 v n ([] ++ ls.map (Value.int .u32))) (hs : ls = x :: s) {b : Nat} {y : Int} (hc : w.cell? ⟨b, 0, none⟩ = some (.int .u32 y)) (hne : x ≠ y) : some b ≠ v.ownBlock := by
  subst hs
  exact own_sep (by simpa using h) hc hne
theorem cells_one {w : World} {b : Nat} {u : Value} (h : w.cell? ⟨b, 0, none⟩ = some u) : ∀ i u', [u][i]? = some u' → w.cell? ((⟨b, 0, none⟩ : Addr).add i) = some u' := by
  intro i u' hu
  rcases i with _ | i
  · simp at hu; subst hu; simpa [Addr.add] using h
  · simp at hu
theorem oneU (y : Int) : ∀ u ∈ [Value.int .u32 y], u.oneCell' = true := by simp [Value.oneCell']

/-- append of nothing: the same row. -/
theorem step_none {P : Program} {ops : Array Oper} {o : Oper} {a : Act} {w : World} {K : Act → World → Prop} {Q : Exit → Act → World → Prop} {E : Prop}
    (hg : o.guard = none) (s x : Operand) (t : TypeId) (hop : o.op = Op.call { callee := Callee.builtin Builtin.append, args := #[s, x], argTypes := #[t, t] })
    (e : TypeId) (i : TypeInfo) (h1 : P.underlying t = some (.slice e)) (h2 : P.info? e = some i)
    (b n cap : Nat) (hs : a.eval s = .slice (some ⟨b, 0, none⟩) n cap) (hn : n ≤ cap)
    (ad : Addr) (c : Nat) (hx : a.eval x = .slice (some ad) 0 c)
    (hK : K (a.put o.dst (.slice (some ⟨b, 0, none⟩) n cap)) w) :
    if Region.wanted o (yielded ops a.tmps) = true then Oper.wp P o a w K Q else E :=
  step_append_room hg s x t hop e i i.size h1 h2 rfl b 0 n cap hs ad 0 c [] hx (by simp) (by simp) (by simp) (by omega) (by simp) hK

theorem seqL_get (n j i : Nat) (h : i < j) : (seqL n j).getD i 0 = (n : Int) + (i : Int) + 1 := by simp [seqL, List.getD, h]

set_option maxRecDepth 100000 in
set_option maxHeartbeats 4000000 in
theorem room_walk (x y z : Int) (w : World) (hx : 0 ≤ x ∧ x ≤ 255) (hy : 0 ≤ y ∧ y ≤ 255) (hz : 0 ≤ z ∧ z ≤ 255) :
    Calls Try.prog 10 #[.int .u8 x, .int .u8 y, .int .u8 z] w fun e' w' => e' = .returned (.bool true) ∧ Below w.heap.size w w' := by
  obtain ⟨hx0, hx1⟩ := hx
  obtain ⟨hy0, hy1⟩ := hy
  obtain ⟨hz0, hz1⟩ := hz
  obtain ⟨i0, hi, hz0', hz1', hz2'⟩ := info_parts info22
  go_enter Try.func10, Try.ntmps10
  go_wp2_with fail
  have hr : 1 ≤ 1 + x % 32 ∧ 1 + x % 32 ≤ 32 := by omega
  generalize 1 + x % 32 = r0 at *
  obtain ⟨hr1, hr2⟩ := hr
  obtain ⟨r, rfl⟩ := Int.eq_ofNat_of_zero_le (show 0 ≤ r0 by omega)
  with_reducible refine (newL r _ rfl (by omega) (by omega)).mono ?_
  rintro e1 w1 ⟨rfl, hb1, hq1⟩
  have Q1 := Lib.hid hq1
  have S1 := Lib.hid hb1
  clear hq1
  have hN : 0 ≤ y % 201 ∧ y % 201 ≤ 200 := by omega
  go_wp2_with fail
  generalize y % 201 = N0 at *
  obtain ⟨hN0, hN1⟩ := hN
  obtain ⟨N, rfl⟩ := Int.eq_ofNat_of_zero_le hN0
  go_loopw [10, 30] (fun t i wr => ∃ k : Nat, k ≤ N ∧ i = .int .i64 k ∧ t = .int .u32 k ∧ QL wr w.heap.size r k [] ∧ Below w.heap.size w wr) (fun _ i _ => N - (intOf i).toNat)
  case atStart => exact ⟨0, by omega, rfl, rfl, Q1.out, S1.out⟩
  case round =>
    obtain ⟨k, hk, rfl, rfl, hq, hBel⟩ := hrel
    have HQ := Lib.hid hq
    have HS := Lib.hid hBel
    have hwr := hBel.size
    clear hq hBel
    by_cases hlt : k < N
    · have hk2 : (k : Int) + 1 ≤ 300 := by omega
      go_wp2_with fail
      with_reducible refine (putL_ok _ HQ.out (by omega) (by simp; omega)).mono ?_
      rintro e3 w3 ⟨rfl, hb3, hq3⟩
      have Q3 := Lib.hid hq3
      have S3 := Lib.hid (Only.toBelow HS.out (Nat.le_refl _) hb3)
      clear hq3
      go_wp2_with fail
      with_reducible refine (dropL_yes (p := []) _ Q3.out (by simp)).mono ?_
      rintro e4 w4 ⟨rfl, hb4, hq4⟩
      have Q4 := Lib.hid hq4
      have S4 := Lib.hid (Only.toBelow S3.out (Nat.le_refl _) hb4)
      clear hq4
      go_wp2_with fail
      with_reducible refine (lenL _ Q4.out).mono ?_
      rintro e5 w5 ⟨rfl, hb5⟩
      have Q5 := Lib.hid (Q4.out.below (bstep (Below.refl _ _) hb5))
      have S5 := Lib.hid (bstep S4.out (bstep (Below.refl _ _) hb5))
      go_wp2_with fail
      go_roundw
      case rel => exact ⟨k + 1, by omega, by go_num, by go_num, by simpa using Q5.out, S5.out⟩
      case measure => (try simp [intOf]); omega
    · have hkN : k = N := by omega
      subst hkN
      clear hlt
      go_wp2_with fail
      go_loopw [10, 51] (fun t i wr => ∃ j : Nat, j ≤ r ∧ i = .int .i64 j ∧ t = .int .u32 ((k : Int) + j) ∧ QL wr w.heap.size r ((k : Int) + j) (seqL k j) ∧ Below w.heap.size w wr) (fun _ i _ => r - (intOf i).toNat)
      case atStart => exact ⟨0, by omega, rfl, by simp, by simpa [seqL] using HQ.out, HS.out⟩
      case round =>
        obtain ⟨j, hj, rfl, rfl, hq, hBel⟩ := hrel
        have HQ2 := Lib.hid hq
        have HS2 := Lib.hid hBel
        have hwr2 := hBel.size
        clear hq hBel
        by_cases hlt : j < r
        · have hk2 : (k : Int) + j + 1 ≤ 300 := by omega
          go_wp2_with fail
          with_reducible refine (putL_ok _ HQ2.out (by omega) (by rw [seqL_length]; omega)).mono ?_
          rintro e11 w11 ⟨rfl, hb11, hq11⟩
          have Q11 := Lib.hid hq11
          have S11 := Lib.hid (Only.toBelow HS2.out (Nat.le_refl _) hb11)
          clear hq11
          go_wp2_with fail
          go_roundw
          case rel => exact ⟨j + 1, by omega, by go_num, by go_num, by have := Q11.out; rw [seqL_succ] at this; simpa [Int.add_assoc] using this, S11.out⟩
          case measure => (try simp [intOf]); omega
        · have hjr : j = r := by omega
          subst hjr
          clear hlt
          have hk2 : (k : Int) + j + 1 ≤ 300 := by omega
          go_wp2_with fail
          with_reducible refine (listL _ HQ2.out).mono ?_
          rintro e21 w21 ⟨v21, rfl, hv21, hb21⟩
          have Q21 := Lib.hid (HQ2.out.below (bstep (Below.refl _ _) hb21))
          have S21 := Lib.hid (bstep HS2.out (bstep (Below.refl _ _) hb21))
          have V21 := Lib.hid (U32At.of_own hv21)
          have O21 := Lib.hid hv21
          clear hv21
          have o21 := O21.out
          rw [seqL_length] at o21
          obtain ⟨g, cap, rfl, hgB, hjc, hcm⟩ := own_form o21 (by omega)
          clear o21
          have HG := Lib.hid hgB
          unfold maxLen at hcm
          have hzj : 0 ≤ z % (j : Int) ∧ z % (j : Int) < j := ⟨Int.emod_nonneg _ (by omega), Int.emod_lt_of_pos _ (by omega)⟩
          go_wp2_with fail
          with_reducible refine (putL_full _ Q21.out (by omega) (seqL_length _ _)).mono ?_
          rintro e22 w22 ⟨rfl, hb22⟩
          have Q22 := Lib.hid (Q21.out.below (bstep (Below.refl _ _) hb22))
          have S22 := Lib.hid (bstep S21.out (bstep (Below.refl _ _) hb22))
          go_wp2_with fail
          with_reducible refine (listL _ Q22.out).mono ?_
          rintro e23 w23 ⟨v23, rfl, hv23, hb23⟩
          have Q23 := Lib.hid (Q22.out.below (bstep (Below.refl _ _) hb23))
          have S23 := Lib.hid (bstep S22.out (bstep (Below.refl _ _) hb23))
          have V23 := Lib.hid (U32At.of_own hv23)
          have O23 := Lib.hid hv23
          clear hv23
          go_wp2_with fail
          with_reducible refine (same_true _ V23.out ((V21.out.below hb22).below hb23)).mono ?_
          rintro e24 w24 ⟨rfl, hb24⟩
          have Q24 := Lib.hid (Q23.out.below hb24)
          have S24 := Lib.hid (bstep S23.out hb24)
          have W24 := Lib.hid (((V21.out.below hb22).below hb23).below hb24)
          obtain ⟨K, hzK⟩ := Int.eq_ofNat_of_zero_le hzj.1
          have hKj : K < j := by have := hzj.2; omega
          clear hzj
          have hK0 : (0 : Int) ≤ (K : Int) := by omega
          have hK1 : (K : Int) < (j : Int) := by omega
          have hgne : g ≠ w.heap.size := by have := HQ2.out.lt; have := HG.out; omega
          have d24 : w24.cell? ⟨g, K, none⟩ = some (.int .u32 ((k : Int) + K + 1)) := by rw [(W24.out.cell (i := K) (by rw [seqL_length]; omega)).1, seqL_get _ _ _ hKj]
          have QP := Lib.hid (show QL w24 w.heap.size j ((k : Int) + j) ((seqL k j).take K ++ ((k : Int) + K + 1) :: (seqL k j).drop (K + 1)) by have := Q24.out; rw [seqL_split k j K hKj] at this; exact this)
          go_wp2_with fail
          with_reducible refine (dropL_yes _ QP.out (seqL_notin k j K hKj)).mono ?_
          rintro e25 w25 ⟨rfl, hb25, hq25⟩
          have Q25 := Lib.hid hq25
          have S25 := Lib.hid (Only.toBelow S24.out (Nat.le_refl _) hb25)
          have W25 := Lib.hid (W24.out.only hb25 hgne)
          have d25 := hb25.keep d24 hgne
          clear hq25
          go_wp2_with fail
          with_reducible refine (dropL_no _ Q25.out (seqL_notin2 k j K hKj)).mono ?_
          rintro e26 w26 ⟨rfl, hb26⟩
          have Q26 := Lib.hid (Q25.out.below hb26)
          have S26 := Lib.hid (bstep S25.out hb26)
          have W26 := Lib.hid (W25.out.below hb26)
          go_wp2_with fail
          with_reducible refine (putL_ok _ Q26.out (by omega) (by rw [seqL_lens k j K hKj]; omega)).mono ?_
          rintro e27 w27 ⟨rfl, hb27, hq27⟩
          have Q27 := Lib.hid hq27
          have S27 := Lib.hid (Only.toBelow S26.out (Nat.le_refl _) hb27)
          have W27 := Lib.hid (W26.out.only hb27 hgne)
          clear hq27
          have hKc : K ≤ cap := by omega
          have hcK1 : K + 1 ≤ cap := by omega
          have hcK : ((cap : Int) < (K : Int) + 1) = False := by simp; omega
          have hTk : ((seqL k j).take K).length = K := by rw [List.length_take, seqL_length]; omega
          have hDk : ((seqL k j).drop (K + 1)).length = j - (K + 1) := by rw [List.length_drop, seqL_length]
          have hwK : IntKind.i64.wrap ((K : Int) + 1) = (K : Int) + 1 := IntWalk.i64_in _ (by omega)
          have hwu : IntKind.u32.wrap ((k : Int) + (j : Int) + 1) = (k : Int) + (j : Int) + 1 := IntWalk.u32_in _ (by omega)
          have hwK0 : (0 : Int) ≤ (K : Int) + 1 := by omega
          have hwK1 : (K : Int) + 1 ≤ (j : Int) := by omega
          have hwKn : ((K : Int) + 1).toNat = K + 1 := by omega
          have HTK := Lib.hid hTk
          have HDK := Lib.hid hDk
          clear hTk hDk
          go_upto_region 24 with fail
          go_cut [13] (fun v wx => wx.ownsRow w27.heap.size 22 1 v ((0 + K) + (j - (K + 1)) + 1) ((([] ++ ((seqL k j).take K).map (Value.int .u32)) ++ ((seqL k j).drop (K + 1)).map (Value.int .u32)) ++ [Value.int .u32 ((k : Int) + j + 1)]) ∧ Below w27.heap.size w27 wx)
          case first =>
            rcases Nat.eq_zero_or_pos K with hK9 | hK9
            · subst hK9
              have hw1 : IntKind.i64.wrap 1 = 1 := by decide
              have hj9 : (1 : Int) ≤ (j : Int) := by omega
              have HDK := Lib.hid (show ((seqL k j).drop 1).length = j - 1 from HDK.out)
              rcases Nat.eq_or_lt_of_le hcK1 with hc9 | hc9
              · have hc8 : (cap = 1) = True := by simp; omega
                have HJ9 := Lib.hid (show j - 1 = 0 by omega)
                clear hc9
                go_region_law (first
                  | (refine step_none rfl (.tmp 106) (.tmp 109) 61 rfl 22 i0 Try.underlying61 hi w27.heap.size 0 0 rfl (Nat.le_refl _) ⟨g, 0, none⟩ cap rfl ?_)
                  | (refine step_none rfl (.tmp 106) (.tmp 109) 61 rfl 22 i0 Try.underlying61 hi (w27.heap.size + 1) 0 0 rfl (Nat.le_refl _) ⟨g, 0, none⟩ cap rfl ?_)
                  | (refine step_ownC (wB := w27) rfl (.tmp 110) (.tmp 114) 61 rfl 22 i0 (.int .u32 0) 4 Try.underlying61 hi hz0' hz1' hz2' rfl ?hb (.slice (some ⟨w27.heap.size, 0, none⟩) 0 0) 0 [] rfl ?own ⟨g, 0, none⟩ (j - 1) (cap - 1) [] rfl ?hl ?hn (fun u hu => by simp at hu) (by unfold maxLen; omega) (by omega) (w27.heap.size + 1) (.int .u32 ((k : Int) + j + 1)) ?hc ?hne ?_
                     case hb => (repeat (first | exact Below.refl _ _ | assumption | refine bdrew ?_ | refine balloc ?_ _))
                     case own => (repeat (first | exact own_made1 _ _ _ (by simp) (by simp) | assumption | refine World.ownsRow.drew ?_ | refine World.ownsRow.alloc ?_ _))
                     case hl => (have := HJ9.out; show 0 = j - 1; omega)
                     case hn => intro i u hu; simp at hu
                     case hc => first | assumption | (go_simp; done)
                     case hne => exact fun _ _ => by simp [Value.ownBlock]
                     intro v9 w9 o9 b9 c9)
                  | (refine step_ownC (wB := w27) rfl (.tmp 110) (.tmp 114) 61 rfl 22 i0 (.int .u32 0) 4 Try.underlying61 hi hz0' hz1' hz2' rfl ?hb (.slice (some ⟨(w27.heap.size + 1), 0, none⟩) 0 0) 0 [] rfl ?own ⟨g, 0, none⟩ (j - 1) (cap - 1) [] rfl ?hl ?hn (fun u hu => by simp at hu) (by unfold maxLen; omega) (by omega) w27.heap.size (.int .u32 ((k : Int) + j + 1)) ?hc ?hne ?_
                     case hb => (repeat (first | exact Below.refl _ _ | assumption | refine bdrew ?_ | refine balloc ?_ _))
                     case own => (repeat (first | exact own_made1 _ _ _ (by simp) (by simp) | assumption | refine World.ownsRow.drew ?_ | refine World.ownsRow.alloc ?_ _))
                     case hl => (have := HJ9.out; show 0 = j - 1; omega)
                     case hn => intro i u hu; simp at hu
                     case hc => first | assumption | (go_simp; done)
                     case hne => exact fun _ _ => by simp [Value.ownBlock]
                     intro v9 w9 o9 b9 c9)
                  | (refine step_ownC (wB := w27) rfl (.tmp 110) (.tmp 114) 61 rfl 22 i0 (.int .u32 0) 4 Try.underlying61 hi hz0' hz1' hz2' rfl ?hb (.slice (some ⟨(w27.heap.size + 1), 0, none⟩) 0 0) 0 [] rfl ?own ⟨g, 0, none⟩ (j - 1) (cap - 1) [] rfl ?hl ?hn (fun u hu => by simp at hu) (by unfold maxLen; omega) (by omega) w4.heap.size (.int .u32 ((k : Int) + j + 1)) ?hc ?hne ?_
                     case hb => (repeat (first | exact Below.refl _ _ | assumption | refine bdrew ?_ | refine balloc ?_ _))
                     case own => (repeat (first | exact own_made1 _ _ _ (by simp) (by simp) | assumption | refine World.ownsRow.drew ?_ | refine World.ownsRow.alloc ?_ _))
                     case hl => (have := HJ9.out; show 0 = j - 1; omega)
                     case hn => intro i u hu; simp at hu
                     case hc => first | assumption | (go_simp; done)
                     case hne => exact fun _ _ => by simp [Value.ownBlock]
                     intro v9 w9 o9 b9 c9)
                  | (refine step_own (wB := w27) rfl (.tmp 110) (.tmp 114) 61 rfl 22 i0 (.int .u32 0) 4 Try.underlying61 hi hz0' hz1' hz2' rfl ?hb _ 0 [] rfl ?own ⟨g, 0, none⟩ (j - 1) (cap - 1) [] rfl ?hl ?hn (fun u hu => by simp at hu) (by unfold maxLen; omega) (by omega) ?_
                     case hb => (repeat (first | exact Below.refl _ _ | assumption | refine bdrew ?_ | refine balloc ?_ _))
                     case own => (repeat (first | exact own_made1 _ _ _ (by simp) (by simp) | assumption | refine World.ownsRow.drew ?_ | refine World.ownsRow.alloc ?_ _))
                     case hl => (have := HJ9.out; show 0 = j - 1; omega)
                     case hn => intro i u hu; simp at hu
                     intro v9 w9 o9 b9)
                  | (refine step_own (wB := w27) rfl (.tmp 115) (.tmp 118) 61 rfl 22 i0 (.int .u32 0) 4 Try.underlying61 hi hz0' hz1' hz2' rfl ?hb _ (0 + (j - 1)) ([] ++ []) rfl ?own _ 1 1 [.int .u32 ((k : Int) + j + 1)] rfl ?hl ?hn (oneU _) (by unfold maxLen; omega) (by omega) ?_
                     case hb => (repeat (first | exact Below.refl _ _ | assumption | refine bdrew ?_ | refine balloc ?_ _))
                     case own => (repeat (first | exact own_made1 _ _ _ (by simp) (by simp) | assumption | refine World.ownsRow.drew ?_ | refine World.ownsRow.alloc ?_ _))
                     case hl => rfl
                     case hn => exact cells_one (by first | assumption | (go_simp; done))
                     intro v13 w13 o13 b13)
                  | fail)
                all_goals (go_wp2_with fail; go_meet; exact ⟨by have := HJ9.out; have hj0 : j = 1 := (by omega); subst hj0; simpa [seqL] using o13, b13⟩)
              · have hc8 : (cap = 1) = False := by simp; omega
                go_region_law (first
                  | (refine step_none rfl (.tmp 106) (.tmp 109) 61 rfl 22 i0 Try.underlying61 hi w27.heap.size 0 0 rfl (Nat.le_refl _) ⟨g, 0, none⟩ cap rfl ?_)
                  | (refine step_none rfl (.tmp 106) (.tmp 109) 61 rfl 22 i0 Try.underlying61 hi (w27.heap.size + 1) 0 0 rfl (Nat.le_refl _) ⟨g, 0, none⟩ cap rfl ?_)
                  | (refine step_ownC (wB := w27) rfl (.tmp 110) (.tmp 114) 61 rfl 22 i0 (.int .u32 0) 4 Try.underlying61 hi hz0' hz1' hz2' rfl ?hb (.slice (some ⟨w27.heap.size, 0, none⟩) 0 0) 0 [] rfl ?own ⟨g, 1, none⟩ (j - 1) (cap - 1) (((seqL k j).drop 1).map (Value.int .u32)) rfl ?hl ?hn (ones _) (by unfold maxLen; omega) (by omega) (w27.heap.size + 1) (.int .u32 ((k : Int) + j + 1)) ?hc ?hne ?_
                     case hb => (repeat (first | exact Below.refl _ _ | assumption | refine bdrew ?_ | refine balloc ?_ _))
                     case own => (repeat (first | exact own_made1 _ _ _ (by simp) (by simp) | assumption | refine World.ownsRow.drew ?_ | refine World.ownsRow.alloc ?_ _))
                     case hl => rw [List.length_map]; exact HDK.out
                     case hn => exact (W27.out.below (by (repeat (first | exact Below.refl _ _ | assumption | refine bdrew ?_ | refine balloc ?_ _)))).part 1 _ (fun i hi => ⟨by have := HDK.out; rw [seqL_length]; omega, List.getD_drop_add⟩)
                     case hc => first | assumption | (go_simp; done)
                     case hne => exact fun _ _ => by simp [Value.ownBlock]
                     intro v9 w9 o9 b9 c9)
                  | (refine step_ownC (wB := w27) rfl (.tmp 110) (.tmp 114) 61 rfl 22 i0 (.int .u32 0) 4 Try.underlying61 hi hz0' hz1' hz2' rfl ?hb (.slice (some ⟨(w27.heap.size + 1), 0, none⟩) 0 0) 0 [] rfl ?own ⟨g, 1, none⟩ (j - 1) (cap - 1) (((seqL k j).drop 1).map (Value.int .u32)) rfl ?hl ?hn (ones _) (by unfold maxLen; omega) (by omega) w27.heap.size (.int .u32 ((k : Int) + j + 1)) ?hc ?hne ?_
                     case hb => (repeat (first | exact Below.refl _ _ | assumption | refine bdrew ?_ | refine balloc ?_ _))
                     case own => (repeat (first | exact own_made1 _ _ _ (by simp) (by simp) | assumption | refine World.ownsRow.drew ?_ | refine World.ownsRow.alloc ?_ _))
                     case hl => rw [List.length_map]; exact HDK.out
                     case hn => exact (W27.out.below (by (repeat (first | exact Below.refl _ _ | assumption | refine bdrew ?_ | refine balloc ?_ _)))).part 1 _ (fun i hi => ⟨by have := HDK.out; rw [seqL_length]; omega, List.getD_drop_add⟩)
                     case hc => first | assumption | (go_simp; done)
                     case hne => exact fun _ _ => by simp [Value.ownBlock]
                     intro v9 w9 o9 b9 c9)
                  | (refine step_ownC (wB := w27) rfl (.tmp 110) (.tmp 114) 61 rfl 22 i0 (.int .u32 0) 4 Try.underlying61 hi hz0' hz1' hz2' rfl ?hb (.slice (some ⟨(w27.heap.size + 1), 0, none⟩) 0 0) 0 [] rfl ?own ⟨g, 1, none⟩ (j - 1) (cap - 1) (((seqL k j).drop 1).map (Value.int .u32)) rfl ?hl ?hn (ones _) (by unfold maxLen; omega) (by omega) w4.heap.size (.int .u32 ((k : Int) + j + 1)) ?hc ?hne ?_
                     case hb => (repeat (first | exact Below.refl _ _ | assumption | refine bdrew ?_ | refine balloc ?_ _))
                     case own => (repeat (first | exact own_made1 _ _ _ (by simp) (by simp) | assumption | refine World.ownsRow.drew ?_ | refine World.ownsRow.alloc ?_ _))
                     case hl => rw [List.length_map]; exact HDK.out
                     case hn => exact (W27.out.below (by (repeat (first | exact Below.refl _ _ | assumption | refine bdrew ?_ | refine balloc ?_ _)))).part 1 _ (fun i hi => ⟨by have := HDK.out; rw [seqL_length]; omega, List.getD_drop_add⟩)
                     case hc => first | assumption | (go_simp; done)
                     case hne => exact fun _ _ => by simp [Value.ownBlock]
                     intro v9 w9 o9 b9 c9)
                  | (refine step_own (wB := w27) rfl (.tmp 110) (.tmp 114) 61 rfl 22 i0 (.int .u32 0) 4 Try.underlying61 hi hz0' hz1' hz2' rfl ?hb _ 0 [] rfl ?own ⟨g, 1, none⟩ (j - 1) (cap - 1) (((seqL k j).drop 1).map (Value.int .u32)) rfl ?hl ?hn (ones _) (by unfold maxLen; omega) (by omega) ?_
                     case hb => (repeat (first | exact Below.refl _ _ | assumption | refine bdrew ?_ | refine balloc ?_ _))
                     case own => (repeat (first | exact own_made1 _ _ _ (by simp) (by simp) | assumption | refine World.ownsRow.drew ?_ | refine World.ownsRow.alloc ?_ _))
                     case hl => rw [List.length_map]; exact HDK.out
                     case hn => exact (W27.out.below (by (repeat (first | exact Below.refl _ _ | assumption | refine bdrew ?_ | refine balloc ?_ _)))).part 1 _ (fun i hi => ⟨by have := HDK.out; rw [seqL_length]; omega, List.getD_drop_add⟩)
                     intro v9 w9 o9 b9)
                  | (refine step_own (wB := w27) rfl (.tmp 115) (.tmp 118) 61 rfl 22 i0 (.int .u32 0) 4 Try.underlying61 hi hz0' hz1' hz2' rfl ?hb _ (0 + (j - 1)) ([] ++ ((seqL k j).drop 1).map (Value.int .u32)) rfl ?own _ 1 1 [.int .u32 ((k : Int) + j + 1)] rfl ?hl ?hn (oneU _) (by unfold maxLen; omega) (by omega) ?_
                     case hb => (repeat (first | exact Below.refl _ _ | assumption | refine bdrew ?_ | refine balloc ?_ _))
                     case own => (repeat (first | exact own_made1 _ _ _ (by simp) (by simp) | assumption | refine World.ownsRow.drew ?_ | refine World.ownsRow.alloc ?_ _))
                     case hl => rfl
                     case hn => exact cells_one (by first | assumption | (go_simp; done))
                     intro v13 w13 o13 b13)
                  | fail)
                all_goals (go_wp2_with fail; go_meet; exact ⟨by simpa using o13, b13⟩)
            · obtain ⟨s0, hs0⟩ := seqL_head k j K hK9 (by omega)
              have HS0 := Lib.hid hs0
              clear hs0
              rcases Nat.eq_or_lt_of_le hcK1 with hc9 | hc9
              · have hc8 : (cap = K + 1) = True := by simp; omega
                go_region_law (first
                  | (refine step_ownC (wB := w27) rfl (.tmp 106) (.tmp 109) 61 rfl 22 i0 (.int .u32 0) 4 Try.underlying61 hi hz0' hz1' hz2' rfl ?hb (.slice (some ⟨w27.heap.size, 0, none⟩) 0 0) 0 [] rfl ?own ⟨g, 0, none⟩ K cap (((seqL k j).take K).map (Value.int .u32)) rfl ?hl ?hn (ones _) (by unfold maxLen; omega) (by omega) (w27.heap.size + 1) (.int .u32 ((k : Int) + j + 1)) ?hc ?hne ?_
                     case hb => (repeat (first | exact Below.refl _ _ | assumption | refine bdrew ?_ | refine balloc ?_ _))
                     case own => (repeat (first | exact own_made1 _ _ _ (by simp) (by simp) | assumption | refine World.ownsRow.drew ?_ | refine World.ownsRow.alloc ?_ _))
                     case hl => rw [List.length_map]; exact HTK.out
                     case hn => exact (W27.out.below (by (repeat (first | exact Below.refl _ _ | assumption | refine bdrew ?_ | refine balloc ?_ _)))).part 0 _ (fun i hi => ⟨by have := HTK.out; rw [seqL_length]; omega, by have := HTK.out; rw [List.getD_take_of_lt (by omega)]; simp⟩)
                     case hc => first | assumption | (go_simp; done)
                     case hne => exact fun _ _ => by simp [Value.ownBlock]
                     intro v4 w4 o4 b4 c4)
                  | (refine step_ownC (wB := w27) rfl (.tmp 106) (.tmp 109) 61 rfl 22 i0 (.int .u32 0) 4 Try.underlying61 hi hz0' hz1' hz2' rfl ?hb (.slice (some ⟨(w27.heap.size + 1), 0, none⟩) 0 0) 0 [] rfl ?own ⟨g, 0, none⟩ K cap (((seqL k j).take K).map (Value.int .u32)) rfl ?hl ?hn (ones _) (by unfold maxLen; omega) (by omega) w27.heap.size (.int .u32 ((k : Int) + j + 1)) ?hc ?hne ?_
                     case hb => (repeat (first | exact Below.refl _ _ | assumption | refine bdrew ?_ | refine balloc ?_ _))
                     case own => (repeat (first | exact own_made1 _ _ _ (by simp) (by simp) | assumption | refine World.ownsRow.drew ?_ | refine World.ownsRow.alloc ?_ _))
                     case hl => rw [List.length_map]; exact HTK.out
                     case hn => exact (W27.out.below (by (repeat (first | exact Below.refl _ _ | assumption | refine bdrew ?_ | refine balloc ?_ _)))).part 0 _ (fun i hi => ⟨by have := HTK.out; rw [seqL_length]; omega, by have := HTK.out; rw [List.getD_take_of_lt (by omega)]; simp⟩)
                     case hc => first | assumption | (go_simp; done)
                     case hne => exact fun _ _ => by simp [Value.ownBlock]
                     intro v4 w4 o4 b4 c4)
                  | (refine step_own (wB := w27) rfl (.tmp 106) (.tmp 109) 61 rfl 22 i0 (.int .u32 0) 4 Try.underlying61 hi hz0' hz1' hz2' rfl ?hb _ 0 [] rfl ?own ⟨g, 0, none⟩ K cap (((seqL k j).take K).map (Value.int .u32)) rfl ?hl ?hn (ones _) (by unfold maxLen; omega) (by omega) ?_
                     case hb => (repeat (first | exact Below.refl _ _ | assumption | refine bdrew ?_ | refine balloc ?_ _))
                     case own => (repeat (first | exact own_made1 _ _ _ (by simp) (by simp) | assumption | refine World.ownsRow.drew ?_ | refine World.ownsRow.alloc ?_ _))
                     case hl => rw [List.length_map]; exact HTK.out
                     case hn => exact (W27.out.below (by (repeat (first | exact Below.refl _ _ | assumption | refine bdrew ?_ | refine balloc ?_ _)))).part 0 _ (fun i hi => ⟨by have := HTK.out; rw [seqL_length]; omega, by have := HTK.out; rw [List.getD_take_of_lt (by omega)]; simp⟩)
                     intro v4 w4 o4 b4)
                  | (refine step_ownC (wB := w27) rfl (.tmp 110) (.tmp 114) 61 rfl 22 i0 (.int .u32 0) 4 Try.underlying61 hi hz0' hz1' hz2' rfl ?hb _ (0 + K) ([] ++ ((seqL k j).take K).map (Value.int .u32)) rfl ?own ⟨g, 0, none⟩ 0 0 [] rfl ?hl ?hn (fun u hu => by simp at hu) (by unfold maxLen; omega) (by omega) (w27.heap.size + 1) (.int .u32 ((k : Int) + j + 1)) ?hc ?hne ?_
                     case hb => (repeat (first | exact Below.refl _ _ | assumption | refine bdrew ?_ | refine balloc ?_ _))
                     case own => (repeat (first | exact own_made1 _ _ _ (by simp) (by simp) | assumption | refine World.ownsRow.drew ?_ | refine World.ownsRow.alloc ?_ _))
                     case hl => rfl
                     case hn => intro i u hu; simp at hu
                     case hc => first | assumption | (go_simp; done)
                     case hne => exact fun ho1 ho2 => own_sep2 ho2 HS0.out ho1 (by omega)
                     intro v9 w9 o9 b9 c9)
                  | (refine step_ownC (wB := w27) rfl (.tmp 110) (.tmp 114) 61 rfl 22 i0 (.int .u32 0) 4 Try.underlying61 hi hz0' hz1' hz2' rfl ?hb _ (0 + K) ([] ++ ((seqL k j).take K).map (Value.int .u32)) rfl ?own ⟨g, 0, none⟩ 0 0 [] rfl ?hl ?hn (fun u hu => by simp at hu) (by unfold maxLen; omega) (by omega) w27.heap.size (.int .u32 ((k : Int) + j + 1)) ?hc ?hne ?_
                     case hb => (repeat (first | exact Below.refl _ _ | assumption | refine bdrew ?_ | refine balloc ?_ _))
                     case own => (repeat (first | exact own_made1 _ _ _ (by simp) (by simp) | assumption | refine World.ownsRow.drew ?_ | refine World.ownsRow.alloc ?_ _))
                     case hl => rfl
                     case hn => intro i u hu; simp at hu
                     case hc => first | assumption | (go_simp; done)
                     case hne => exact fun ho1 ho2 => own_sep2 ho2 HS0.out ho1 (by omega)
                     intro v9 w9 o9 b9 c9)
                  | (refine step_ownC (wB := w27) rfl (.tmp 110) (.tmp 114) 61 rfl 22 i0 (.int .u32 0) 4 Try.underlying61 hi hz0' hz1' hz2' rfl ?hb _ (0 + K) ([] ++ ((seqL k j).take K).map (Value.int .u32)) rfl ?own ⟨g, 0, none⟩ 0 0 [] rfl ?hl ?hn (fun u hu => by simp at hu) (by unfold maxLen; omega) (by omega) w4.heap.size (.int .u32 ((k : Int) + j + 1)) ?hc ?hne ?_
                     case hb => (repeat (first | exact Below.refl _ _ | assumption | refine bdrew ?_ | refine balloc ?_ _))
                     case own => (repeat (first | exact own_made1 _ _ _ (by simp) (by simp) | assumption | refine World.ownsRow.drew ?_ | refine World.ownsRow.alloc ?_ _))
                     case hl => rfl
                     case hn => intro i u hu; simp at hu
                     case hc => first | assumption | (go_simp; done)
                     case hne => exact fun ho1 ho2 => own_sep2 ho2 HS0.out ho1 (by omega)
                     intro v9 w9 o9 b9 c9)
                  | (refine step_own (wB := w27) rfl (.tmp 110) (.tmp 114) 61 rfl 22 i0 (.int .u32 0) 4 Try.underlying61 hi hz0' hz1' hz2' rfl ?hb _ (0 + K) ([] ++ ((seqL k j).take K).map (Value.int .u32)) rfl ?own ⟨g, 0, none⟩ 0 0 [] rfl ?hl ?hn (fun u hu => by simp at hu) (by unfold maxLen; omega) (by omega) ?_
                     case hb => (repeat (first | exact Below.refl _ _ | assumption | refine bdrew ?_ | refine balloc ?_ _))
                     case own => (repeat (first | exact own_made1 _ _ _ (by simp) (by simp) | assumption | refine World.ownsRow.drew ?_ | refine World.ownsRow.alloc ?_ _))
                     case hl => rfl
                     case hn => intro i u hu; simp at hu
                     intro v9 w9 o9 b9)
                  | (refine step_own (wB := w27) rfl (.tmp 115) (.tmp 118) 61 rfl 22 i0 (.int .u32 0) 4 Try.underlying61 hi hz0' hz1' hz2' rfl ?hb _ (0 + K + 0) (([] ++ ((seqL k j).take K).map (Value.int .u32)) ++ []) rfl ?own _ 1 1 [.int .u32 ((k : Int) + j + 1)] rfl ?hl ?hn (oneU _) (by unfold maxLen; omega) (by omega) ?_
                     case hb => (repeat (first | exact Below.refl _ _ | assumption | refine bdrew ?_ | refine balloc ?_ _))
                     case own => (repeat (first | exact own_made1 _ _ _ (by simp) (by simp) | assumption | refine World.ownsRow.drew ?_ | refine World.ownsRow.alloc ?_ _))
                     case hl => rfl
                     case hn => exact cells_one (by first | assumption | (go_simp; done))
                     intro v13 w13 o13 b13)
                  | fail)
                all_goals (go_wp2_with fail; go_meet; exact ⟨by have hj1 : (seqL k j).drop (K + 1) = [] := List.drop_eq_nil_of_le (by have := seqL_length k j; omega); have hj2 : j - (K + 1) = 0 := (by omega); rw [hj1, hj2]; exact o13, b13⟩)
              · have hc8 : (cap = K + 1) = False := by simp; omega
                go_region_law (first
                  | (refine step_ownC (wB := w27) rfl (.tmp 106) (.tmp 109) 61 rfl 22 i0 (.int .u32 0) 4 Try.underlying61 hi hz0' hz1' hz2' rfl ?hb (.slice (some ⟨w27.heap.size, 0, none⟩) 0 0) 0 [] rfl ?own ⟨g, 0, none⟩ K cap (((seqL k j).take K).map (Value.int .u32)) rfl ?hl ?hn (ones _) (by unfold maxLen; omega) (by omega) (w27.heap.size + 1) (.int .u32 ((k : Int) + j + 1)) ?hc ?hne ?_
                     case hb => (repeat (first | exact Below.refl _ _ | assumption | refine bdrew ?_ | refine balloc ?_ _))
                     case own => (repeat (first | exact own_made1 _ _ _ (by simp) (by simp) | assumption | refine World.ownsRow.drew ?_ | refine World.ownsRow.alloc ?_ _))
                     case hl => rw [List.length_map]; exact HTK.out
                     case hn => exact (W27.out.below (by (repeat (first | exact Below.refl _ _ | assumption | refine bdrew ?_ | refine balloc ?_ _)))).part 0 _ (fun i hi => ⟨by have := HTK.out; rw [seqL_length]; omega, by have := HTK.out; rw [List.getD_take_of_lt (by omega)]; simp⟩)
                     case hc => first | assumption | (go_simp; done)
                     case hne => exact fun _ _ => by simp [Value.ownBlock]
                     intro v4 w4 o4 b4 c4)
                  | (refine step_ownC (wB := w27) rfl (.tmp 106) (.tmp 109) 61 rfl 22 i0 (.int .u32 0) 4 Try.underlying61 hi hz0' hz1' hz2' rfl ?hb (.slice (some ⟨(w27.heap.size + 1), 0, none⟩) 0 0) 0 [] rfl ?own ⟨g, 0, none⟩ K cap (((seqL k j).take K).map (Value.int .u32)) rfl ?hl ?hn (ones _) (by unfold maxLen; omega) (by omega) w27.heap.size (.int .u32 ((k : Int) + j + 1)) ?hc ?hne ?_
                     case hb => (repeat (first | exact Below.refl _ _ | assumption | refine bdrew ?_ | refine balloc ?_ _))
                     case own => (repeat (first | exact own_made1 _ _ _ (by simp) (by simp) | assumption | refine World.ownsRow.drew ?_ | refine World.ownsRow.alloc ?_ _))
                     case hl => rw [List.length_map]; exact HTK.out
                     case hn => exact (W27.out.below (by (repeat (first | exact Below.refl _ _ | assumption | refine bdrew ?_ | refine balloc ?_ _)))).part 0 _ (fun i hi => ⟨by have := HTK.out; rw [seqL_length]; omega, by have := HTK.out; rw [List.getD_take_of_lt (by omega)]; simp⟩)
                     case hc => first | assumption | (go_simp; done)
                     case hne => exact fun _ _ => by simp [Value.ownBlock]
                     intro v4 w4 o4 b4 c4)
                  | (refine step_own (wB := w27) rfl (.tmp 106) (.tmp 109) 61 rfl 22 i0 (.int .u32 0) 4 Try.underlying61 hi hz0' hz1' hz2' rfl ?hb _ 0 [] rfl ?own ⟨g, 0, none⟩ K cap (((seqL k j).take K).map (Value.int .u32)) rfl ?hl ?hn (ones _) (by unfold maxLen; omega) (by omega) ?_
                     case hb => (repeat (first | exact Below.refl _ _ | assumption | refine bdrew ?_ | refine balloc ?_ _))
                     case own => (repeat (first | exact own_made1 _ _ _ (by simp) (by simp) | assumption | refine World.ownsRow.drew ?_ | refine World.ownsRow.alloc ?_ _))
                     case hl => rw [List.length_map]; exact HTK.out
                     case hn => exact (W27.out.below (by (repeat (first | exact Below.refl _ _ | assumption | refine bdrew ?_ | refine balloc ?_ _)))).part 0 _ (fun i hi => ⟨by have := HTK.out; rw [seqL_length]; omega, by have := HTK.out; rw [List.getD_take_of_lt (by omega)]; simp⟩)
                     intro v4 w4 o4 b4)
                  | (refine step_ownC (wB := w27) rfl (.tmp 110) (.tmp 114) 61 rfl 22 i0 (.int .u32 0) 4 Try.underlying61 hi hz0' hz1' hz2' rfl ?hb _ (0 + K) ([] ++ ((seqL k j).take K).map (Value.int .u32)) rfl ?own ⟨g, K + 1, none⟩ (j - (K + 1)) (cap - (K + 1)) (((seqL k j).drop (K + 1)).map (Value.int .u32)) rfl ?hl ?hn (ones _) (by unfold maxLen; omega) (by omega) (w27.heap.size + 1) (.int .u32 ((k : Int) + j + 1)) ?hc ?hne ?_
                     case hb => (repeat (first | exact Below.refl _ _ | assumption | refine bdrew ?_ | refine balloc ?_ _))
                     case own => (repeat (first | exact own_made1 _ _ _ (by simp) (by simp) | assumption | refine World.ownsRow.drew ?_ | refine World.ownsRow.alloc ?_ _))
                     case hl => rw [List.length_map]; exact HDK.out
                     case hn => exact (W27.out.below (by (repeat (first | exact Below.refl _ _ | assumption | refine bdrew ?_ | refine balloc ?_ _)))).part (K + 1) _ (fun i hi => ⟨by have := HDK.out; rw [seqL_length]; omega, List.getD_drop_add⟩)
                     case hc => first | assumption | (go_simp; done)
                     case hne => exact fun ho1 ho2 => own_sep2 ho2 HS0.out ho1 (by omega)
                     intro v9 w9 o9 b9 c9)
                  | (refine step_ownC (wB := w27) rfl (.tmp 110) (.tmp 114) 61 rfl 22 i0 (.int .u32 0) 4 Try.underlying61 hi hz0' hz1' hz2' rfl ?hb _ (0 + K) ([] ++ ((seqL k j).take K).map (Value.int .u32)) rfl ?own ⟨g, K + 1, none⟩ (j - (K + 1)) (cap - (K + 1)) (((seqL k j).drop (K + 1)).map (Value.int .u32)) rfl ?hl ?hn (ones _) (by unfold maxLen; omega) (by omega) w27.heap.size (.int .u32 ((k : Int) + j + 1)) ?hc ?hne ?_
                     case hb => (repeat (first | exact Below.refl _ _ | assumption | refine bdrew ?_ | refine balloc ?_ _))
                     case own => (repeat (first | exact own_made1 _ _ _ (by simp) (by simp) | assumption | refine World.ownsRow.drew ?_ | refine World.ownsRow.alloc ?_ _))
                     case hl => rw [List.length_map]; exact HDK.out
                     case hn => exact (W27.out.below (by (repeat (first | exact Below.refl _ _ | assumption | refine bdrew ?_ | refine balloc ?_ _)))).part (K + 1) _ (fun i hi => ⟨by have := HDK.out; rw [seqL_length]; omega, List.getD_drop_add⟩)
                     case hc => first | assumption | (go_simp; done)
                     case hne => exact fun ho1 ho2 => own_sep2 ho2 HS0.out ho1 (by omega)
                     intro v9 w9 o9 b9 c9)
                  | (refine step_ownC (wB := w27) rfl (.tmp 110) (.tmp 114) 61 rfl 22 i0 (.int .u32 0) 4 Try.underlying61 hi hz0' hz1' hz2' rfl ?hb _ (0 + K) ([] ++ ((seqL k j).take K).map (Value.int .u32)) rfl ?own ⟨g, K + 1, none⟩ (j - (K + 1)) (cap - (K + 1)) (((seqL k j).drop (K + 1)).map (Value.int .u32)) rfl ?hl ?hn (ones _) (by unfold maxLen; omega) (by omega) w4.heap.size (.int .u32 ((k : Int) + j + 1)) ?hc ?hne ?_
                     case hb => (repeat (first | exact Below.refl _ _ | assumption | refine bdrew ?_ | refine balloc ?_ _))
                     case own => (repeat (first | exact own_made1 _ _ _ (by simp) (by simp) | assumption | refine World.ownsRow.drew ?_ | refine World.ownsRow.alloc ?_ _))
                     case hl => rw [List.length_map]; exact HDK.out
                     case hn => exact (W27.out.below (by (repeat (first | exact Below.refl _ _ | assumption | refine bdrew ?_ | refine balloc ?_ _)))).part (K + 1) _ (fun i hi => ⟨by have := HDK.out; rw [seqL_length]; omega, List.getD_drop_add⟩)
                     case hc => first | assumption | (go_simp; done)
                     case hne => exact fun ho1 ho2 => own_sep2 ho2 HS0.out ho1 (by omega)
                     intro v9 w9 o9 b9 c9)
                  | (refine step_own (wB := w27) rfl (.tmp 110) (.tmp 114) 61 rfl 22 i0 (.int .u32 0) 4 Try.underlying61 hi hz0' hz1' hz2' rfl ?hb _ (0 + K) ([] ++ ((seqL k j).take K).map (Value.int .u32)) rfl ?own ⟨g, K + 1, none⟩ (j - (K + 1)) (cap - (K + 1)) (((seqL k j).drop (K + 1)).map (Value.int .u32)) rfl ?hl ?hn (ones _) (by unfold maxLen; omega) (by omega) ?_
                     case hb => (repeat (first | exact Below.refl _ _ | assumption | refine bdrew ?_ | refine balloc ?_ _))
                     case own => (repeat (first | exact own_made1 _ _ _ (by simp) (by simp) | assumption | refine World.ownsRow.drew ?_ | refine World.ownsRow.alloc ?_ _))
                     case hl => rw [List.length_map]; exact HDK.out
                     case hn => exact (W27.out.below (by (repeat (first | exact Below.refl _ _ | assumption | refine bdrew ?_ | refine balloc ?_ _)))).part (K + 1) _ (fun i hi => ⟨by have := HDK.out; rw [seqL_length]; omega, List.getD_drop_add⟩)
                     intro v9 w9 o9 b9)
                  | (refine step_own (wB := w27) rfl (.tmp 115) (.tmp 118) 61 rfl 22 i0 (.int .u32 0) 4 Try.underlying61 hi hz0' hz1' hz2' rfl ?hb _ (0 + K + (j - (K + 1))) (([] ++ ((seqL k j).take K).map (Value.int .u32)) ++ ((seqL k j).drop (K + 1)).map (Value.int .u32)) rfl ?own _ 1 1 [.int .u32 ((k : Int) + j + 1)] rfl ?hl ?hn (oneU _) (by unfold maxLen; omega) (by omega) ?_
                     case hb => (repeat (first | exact Below.refl _ _ | assumption | refine bdrew ?_ | refine balloc ?_ _))
                     case own => (repeat (first | exact own_made1 _ _ _ (by simp) (by simp) | assumption | refine World.ownsRow.drew ?_ | refine World.ownsRow.alloc ?_ _))
                     case hl => rfl
                     case hn => exact cells_one (by first | assumption | (go_simp; done))
                     intro v13 w13 o13 b13)
                  | fail)
                all_goals (go_wp2_with fail; go_meet; exact ⟨by assumption, by assumption⟩)
          case rest =>
            obtain ⟨hown, hbel⟩ := hcut
            have hLl : ((seqL k j).take K ++ (seqL k j).drop (K + 1) ++ [(k : Int) + (j : Int) + 1]).length = 0 + K + (j - (K + 1)) + 1 := by simp only [List.length_append, HTK.out, HDK.out, List.length_singleton]; omega
            have hLj : ((seqL k j).take K ++ (seqL k j).drop (K + 1) ++ [(k : Int) + (j : Int) + 1]).length = j := by rw [hLl]; omega
            have hw9 : wc.ownsRow w27.heap.size 22 1 u13 ((seqL k j).take K ++ (seqL k j).drop (K + 1) ++ [(k : Int) + (j : Int) + 1]).length (((seqL k j).take K ++ (seqL k j).drop (K + 1) ++ [(k : Int) + (j : Int) + 1]).map (Value.int .u32)) := by rw [hLl]; simpa using hown
            have QX := Lib.hid (Q27.out.below hbel)
            have SX := Lib.hid (bstep S27.out hbel)
            have WX := Lib.hid (U32At.of_own hw9)
            clear hown hw9 W27 Q27 Q26 S27 hbel
            go_wp2_with fail
            with_reducible refine (listL _ QX.out).mono ?_
            rintro e28 w28 ⟨v28, rfl, hv28, hb28⟩
            have Q28 := Lib.hid (QX.out.below (bstep (Below.refl _ _) hb28))
            have S28 := Lib.hid (bstep SX.out (bstep (Below.refl _ _) hb28))
            have V28 := Lib.hid (U32At.of_own hv28)
            have O28 := Lib.hid hv28
            clear hv28
            have o28 := O28.out
            rw [hLj] at o28
            obtain ⟨g2, cap2, e28, hg2, hc2, hm2⟩ := own_form o28 (by omega)
            clear o28
            subst e28
            unfold maxLen at hm2
            have C28 : ∀ t, t < j → ∃ x, w28.cell? ⟨g2, t, none⟩ = some (.int .u32 x) ∧ w28.frozen? ⟨g2, t, none⟩ = false := fun t ht => ⟨_, V28.out.cell (i := t) (by omega)⟩
            have HC28 := Lib.hid C28
            clear C28
            have HB28 := Lib.hid hb28
            clear hb28
            go_wp2_with fail
            obtain ⟨wo, hwo⟩ : ∃ x, x = wr := ⟨_, rfl⟩
            try subst hwo
            go_loopw [124] (fun i wl => ∃ t : Nat, t ≤ j ∧ i = .int .i64 t ∧ Below wc.heap.size wc wl ∧ ∀ s, s < j → ∃ x, wl.cell? ⟨g2, s, none⟩ = some (.int .u32 x) ∧ wl.frozen? ⟨g2, s, none⟩ = false) (fun i _ => j - (intOf i).toNat)
            case atStart => exact ⟨0, by omega, rfl, HB28.out, HC28.out⟩
            case round =>
              obtain ⟨t, ht, rfl, hBl, hCl⟩ := hrel
              have HBL := Lib.hid hBl
              have HCL := Lib.hid hCl
              clear hBl hCl
              by_cases hlt : t < j
              · obtain ⟨x, hx, fx⟩ := HCL.out t hlt
                go_wp2_with fail
                go_roundw
                case rel =>
                  refine ⟨t + 1, by omega, by go_num, HBL.out.setCell hg2 _, fun s hs => ?_⟩
                  obtain ⟨y, hy, fy⟩ := HCL.out s hs
                  by_cases es : s = t
                  · exact ⟨_, by rw [cell_set hy, if_pos es], by rw [World.frozen?_setCell]; exact fy⟩
                  · exact ⟨_, by rw [cell_set hy, if_neg es], by rw [World.frozen?_setCell]; exact fy⟩
                case measure => (try simp [intOf]) <;> omega
              · have hkn : t = j := by omega
                have QE := Lib.hid (QX.out.below HBL.out)
                have SE := Lib.hid (bstep SX.out HBL.out)
                have WE := Lib.hid (WX.out.below HBL.out)
                go_wp2_with fail
                with_reducible refine (listL _ QE.out).mono ?_
                rintro e31 w31 ⟨v31, rfl, hv31, hb31⟩
                have Q31 := Lib.hid (QE.out.below (bstep (Below.refl _ _) hb31))
                have S31 := Lib.hid (bstep SE.out (bstep (Below.refl _ _) hb31))
                have V31 := Lib.hid (U32At.of_own hv31)
                have O31 := Lib.hid hv31
                clear hv31
                go_wp2_with fail
                with_reducible refine (same_true _ V31.out (WE.out.below hb31)).mono ?_
                rintro e32 w32 ⟨rfl, hb32⟩
                have S32 := Lib.hid (bstep S31.out hb32)
                go_wp2_with fail
                with_reducible refine (awake26_any _).mono ?_
                rintro e33 w33 ⟨rfl, hb33⟩
                have S33 := Lib.hid (bstep S32.out hb33)
                go_wp2_with fail
                go_ret
                exact ⟨rfl, S33.out⟩
end Go.Proofs.Ytnhfholodillaaa
