/- The law DiskKeeps, walked. -/
import Derived.Test.YthgaphfelpnclaaDs
set_option linter.unusedVariables false
set_option linter.unusedSimpArgs false
namespace Go.Proofs.Ythgaphfelpnclaa
open Go.RowKit

theorem take_bat {w : World} {A : Option Addr} {n c m : Nat} {ls : List Int} (h : BAt w (.slice A n c) ls) (hm : m ≤ ls.length) : BAt w (.slice A m c) (ls.take m) := by
  obtain ⟨A2, c2, e, h2, h3, h4⟩ := h
  simp only [Value.slice.injEq] at e
  obtain ⟨rfl, _, rfl⟩ := e
  have hl : (ls.take m).length = m := by rw [List.length_take]; omega
  refine ⟨A, c, by rw [hl], by omega, h3, fun i hi => ?_⟩
  obtain ⟨b, o, e1, e2⟩ := h4 i (by omega)
  refine ⟨b, o, e1, ?_⟩
  rw [e2]
  congr 2
  simp [List.getD, List.getElem?_take, show i < m by omega]
set_option maxRecDepth 100000 in
theorem begins_true {vb va : Value} {lb la : List Int} (w : World) (hb : BAt w vb lb) (ha : BAt w va la) (hl : la.length ≤ lb.length) (hp : lb.take la.length = la) :
    Calls Try.prog 37 #[vb, va] w fun e' w' => e' = .returned (.bool true) ∧ Below w.heap.size w w' := by
  have HB := Lib.hid hb
  have HA := Lib.hid ha
  obtain ⟨A, c, rfl, h2, h3, _⟩ := hb
  obtain ⟨A2, c2, rfl, k2, k3, _⟩ := ha
  unfold maxLen at h3 k3
  have hm : min (la.length : Int) (lb.length : Int) = (la.length : Int) := by omega
  have h0 : (0 : Int) ≤ (la.length : Int) ∧ (la.length : Int) ≤ (c : Int) := by omega
  go_enter Try.func37, Try.ntmps37
  go_wp2_with fail
  have h9 := take_bat HB.out hl
  rw [hp] at h9
  with_reducible refine Calls.mono (same_true _ h9 HA.out) ?_
  rintro e1 w1 ⟨rfl, hb1⟩
  go_wp2_with fail
  go_ret
  exact ⟨rfl, hb1⟩

theorem feed_keeps : ∀ (ls : List Int) (d : Dsk), ∃ j, j ≤ ls.length ∧ (d.feed ls).1.b = d.b ++ ls.take j ∧ (d.feed ls).1.safe = d.safe ∧ (((d.feed ls).2 = 0 ∧ j = ls.length) ∨ ((d.feed ls).2 = 6 ∧ j < ls.length))
  | [], d => ⟨0, by simp, by simp [Dsk.feed], by simp [Dsk.feed], .inl ⟨rfl, rfl⟩⟩
  | x :: r, d => by
    by_cases hz : d.left = 0
    · refine ⟨0, by simp, ?_, ?_, .inr ⟨?_, by simp⟩⟩ <;> simp [Dsk.feed, hz, Dsk.dark]
    · obtain ⟨j, h1, h2, h3, h4⟩ := feed_keeps r { d.dec with b := d.b ++ [x] }
      have e : d.feed (x :: r) = Dsk.feed { d.dec with b := d.b ++ [x] } r := by rw [Dsk.feed, if_neg hz]
      rw [e]
      refine ⟨j + 1, by simp; omega, by rw [h2]; simp, by rw [h3]; rfl, ?_⟩
      rcases h4 with ⟨a, b⟩ | ⟨a, b⟩
      · exact .inl ⟨a, by simp; omega⟩
      · exact .inr ⟨a, by simp; omega⟩
theorem app_keeps (d : Dsk) (ls : List Int) (hr : d.b.length ≤ d.room) : ∃ j, j ≤ ls.length ∧ (d.app ls).1.b = d.b ++ ls.take j ∧ (d.app ls).1.safe = d.safe ∧ (((d.app ls).2 = 0 ∧ j = ls.length) ∨ ((d.app ls).2 ≠ 0 ∧ j < ls.length) ∨ ((d.app ls).2 ≠ 0 ∧ ls.length = 0)) := by
  unfold Dsk.app
  by_cases ho : d.off = true
  · rw [if_pos ho]
    by_cases hl : ls.length = 0
    · exact ⟨0, by omega, by simp, rfl, .inr (.inr ⟨by simp, hl⟩)⟩
    · exact ⟨0, by omega, by simp, rfl, .inr (.inl ⟨by simp, by omega⟩)⟩
  · rw [if_neg ho]
    unfold Dsk.appOn
    by_cases hf : (d.room : Int) - d.b.length < ls.length
    · rw [if_pos hf]
      exact ⟨0, by omega, by simp, rfl, .inr (.inl ⟨by simp, by omega⟩)⟩
    · rw [if_neg hf]
      obtain ⟨j, h1, h2, h3, h4⟩ := feed_keeps ls d
      refine ⟨j, h1, h2, h3, ?_⟩
      rcases h4 with ⟨a, b⟩ | ⟨a, b⟩
      · exact .inl ⟨a, b⟩
      · exact .inr (.inl ⟨by rw [a]; decide, b⟩)
theorem own_forms {w : World} {base n : Nat} {v : Value} {xs : List Value} (h : w.ownsRow base 5 1 v n xs) : (v = .slice none 0 0 ∧ n = 0) ∨ ∃ g c, v = .slice (some ⟨g, 0, none⟩) n c := by
  rcases h.2 with h | ⟨g, cap, cur, hv, _⟩
  · exact .inl h
  · exact .inr ⟨g, cap, hv⟩
theorem bat_nil {ls : List Int} (w : World) (h : ls.length = 0) : BAt w (.slice none 0 0) ls := by
  obtain rfl : ls = [] := List.length_eq_zero_iff.1 h
  exact ⟨none, 0, rfl, by simp, by simp, fun i hi => absurd hi (by simp)⟩
theorem hout2 {r : Int} {j n : Nat} (h : (r = 0 ∧ j = n) ∨ (r ≠ 0 ∧ j < n) ∨ (r ≠ 0 ∧ n = 0)) : (∃ bq, (r == 0) = bq ∧ decide (j = n) = bq) ∨ (r ≠ 0 ∧ n = 0) := by
  rcases h with ⟨a, b⟩ | ⟨a, b⟩ | h
  · exact .inl ⟨true, by simp [a], by simp [b]⟩
  · exact .inl ⟨false, by simpa using a, by simp; omega⟩
  · exact .inr h
theorem drop_bat {w : World} {g n c k : Nat} {ls : List Int} (h : BAt w (.slice (some ⟨g, 0, none⟩) n c) ls) (hk : k ≤ ls.length) : BAt w (.slice (if c = k then some ⟨g, 0, none⟩ else some ⟨g, k, none⟩) (n - k) (c - k)) (ls.drop k) := by
  obtain ⟨A2, c2, e, h2, h3, h4⟩ := h
  simp only [Value.slice.injEq] at e
  obtain ⟨rfl, rfl, rfl⟩ := e
  have hl : (ls.drop k).length = ls.length - k := by rw [List.length_drop]
  refine ⟨_, c - k, by rw [hl], by omega, by unfold maxLen at h3 ⊢; omega, fun i hi => ?_⟩
  obtain ⟨b, o, e1, e2⟩ := h4 (k + i) (by omega)
  simp only [Option.some.injEq, Addr.mk.injEq, and_true] at e1
  obtain ⟨rfl, rfl⟩ := e1
  refine ⟨g, k, by rw [if_neg (by omega)], ?_⟩
  rw [Nat.zero_add] at e2
  rw [e2]
  congr 2
  simp [List.getD, List.getElem?_drop]
set_option maxRecDepth 100000 in
/-- now[k:], whatever row now is. -/
theorem slice_from {w : World} {base n k : Nat} {v : Value} {xs : List Value} (h : w.ownsRow base 5 1 v n xs) (hk : k ≤ n) :
    ∃ V, (∀ w', (Instr.slice 24 v (some (.int .i64 k)) none none).run Try.prog w' = .ok V w') ∧ (∀ w' ls, BAt w' v ls → BAt w' V (ls.drop k)) := by
  obtain ⟨A, cp, rfl⟩ := len_of_own h
  have hc := own_cap h
  refine ⟨.slice (if cp = k then A else A.map (·.add k)) (n - k) (cp - k), fun w' => ?_, fun w' ls hb => ?_⟩
  · obtain ⟨i0, hi, _, hz1, _⟩ := info_parts info5
    have hs : ∀ w, (sizeOf 5).run Try.prog w = .ok 1 w := fun w => by simp [sizeOf, typeInfo, hi, hz1]
    have := run_slice_l (P := Try.prog) w' 24 A n cp Try.underlying24 .i64 k (by omega) (by omega)
    rw [this]
    have he : Try.prog.elem 24 = 5 := by kernel_rfl
    rw [he, hs]
    simp [sliced, Result.andThen]
  · obtain ⟨A2, c2, e, h2, h3, h4⟩ := hb
    simp only [Value.slice.injEq] at e
    obtain ⟨rfl, rfl, rfl⟩ := e
    have hl : (ls.drop k).length = ls.length - k := by rw [List.length_drop]
    refine ⟨_, cp - k, by rw [hl], by omega, by unfold maxLen at h3 ⊢; omega, fun i hi => ?_⟩
    obtain ⟨b, o, rfl, e2⟩ := h4 (k + i) (by omega)
    refine ⟨b, o + k, by rw [if_neg (by omega)]; simp [add_flat], ?_⟩
    rw [Nat.add_assoc, e2]
    congr 2
    simp [List.getD, List.getElem?_drop]
theorem app_room (d : Dsk) (ls : List Int) : (d.app ls).1.room = d.room := by
  have hf : ∀ (ls : List Int) (d : Dsk), (d.feed ls).1.room = d.room := by
    intro ls
    induction ls with
    | nil => intro d; rfl
    | cons x r ih =>
      intro d
      rw [Dsk.feed]
      split
      · rfl
      · rw [ih]; rfl
  unfold Dsk.app Dsk.appOn
  split
  · rfl
  · split
    · rfl
    · exact hf ls d
theorem sync_keeps (d : Dsk) (hs : d.safe ≤ d.b.length) : (d.sync).1.b = d.b ∧ (d.sync).1.room = d.room ∧ d.safe ≤ (d.sync).1.safe := by
  unfold Dsk.sync Dsk.syncOn
  split
  · exact ⟨rfl, rfl, Nat.le_refl _⟩
  · split
    · exact ⟨rfl, rfl, Nat.le_refl _⟩
    · exact ⟨rfl, rfl, hs⟩
theorem cut_keeps (d : Dsk) (n : Int) : ((d.cut n).2 = 0 ∧ 0 ≤ n ∧ n ≤ d.b.length ∧ (d.cut n).1.b = d.b.take n.toNat ∧ (d.cut n).1.room = d.room) ∨ ((d.cut n).2 ≠ 0 ∧ (d.cut n).1.b = d.b ∧ (d.cut n).1.room = d.room ∧ (d.cut n).1.safe = d.safe) := by
  unfold Dsk.cut Dsk.cutOn
  split
  · exact .inr ⟨by simp, rfl, rfl, rfl⟩
  · split
    · exact .inr ⟨by simp, rfl, rfl, rfl⟩
    · split
      · exact .inr ⟨by simp, rfl, rfl, rfl⟩
      · exact .inl ⟨rfl, by omega, by omega, rfl, rfl⟩
theorem roomE {base B : Nat} {v : Value} {d : Dsk} {r : Int} (w : World) (h : DS w base B v d) (e : (d.room : Int) = r) :
    Calls Try.prog 36 #[.pointer (some ⟨B, 0, none⟩)] w fun e' w' => e' = .returned (.int .i64 r) ∧ Below w.heap.size w w' := by
  subst e; exact roomD w h
theorem doOpE {base B : Nat} {v u : Value} {d d2 : Dsk} {ls : List Int} {wh n r : Int} (w : World) (h : DS w base B v d) (hu : BAt w u ls) (ha : ls ≠ [] → Apart B v u) (hw : 0 ≤ wh ∧ wh ≤ 255) (hn : n ≤ 9223372036854775807) (e : d.doOp wh ls n = (d2, r)) :
    Calls Try.prog 35 #[.pointer (some ⟨B, 0, none⟩), .agg #[.int .u8 wh, u, .int .i64 n]] w fun e' w' => ∃ v2, e' = .returned (.int .i64 r) ∧ DS w' base B v2 d2 ∧ Step B v v2 w w' := by
  have := doD w h hu ha hw hn
  rw [e] at this
  exact this
set_option maxRecDepth 100000 in
set_option maxHeartbeats 4000000 in
theorem keeps_walk (x : Int) (A : Option Addr) (n cap : Nat) (w : World) (hx : 0 ≤ x ∧ x ≤ 65535) (hn : n ≤ cap) (hcap : cap ≤ maxLen) (hv : RowsV w A n 3 (ElOp w)) :
    Calls Try.prog 8 #[.int .u16 x, .slice A n cap] w fun e' w' => e' = .returned (.bool true) ∧ Below w.heap.size w w' := by
  have HV := Lib.hid hv
  clear hv
  have hcap0 := hcap
  unfold maxLen at hcap
  have hL : 0 ≤ x % 2001 ∧ x % 2001 ≤ 2000 := by omega
  go_enter Try.func8, Try.ntmps8
  go_wp2_with fail
  generalize x % 2001 = R0 at *
  obtain ⟨R, rfl⟩ := Int.eq_ofNat_of_zero_le hL.1
  with_reducible refine Calls.mono (newD R _ (by omega)) ?_
  rintro e1 w1 ⟨rfl, hb1, hd1⟩
  have S1 := Lib.hid hb1
  have D1 := Lib.hid hd1
  clear hb1 hd1
  have HV1 := Lib.hid (rows_below HV.out S1.out)
  go_wp2_with fail
  with_reducible refine Calls.mono (lightD _ hn hcap0 HV1.out) ?_
  rintro e2 w2 ⟨hb2, hres⟩
  have D2 := Lib.hid (D1.out.below hb2)
  have S2 := Lib.hid (bstep S1.out hb2)
  rcases hres with rfl | ⟨hLt, rfl⟩
  · go_wp2_with fail
    with_reducible refine Calls.mono (awake09 _) ?_
    rintro e3 w3 ⟨rfl, hb3⟩
    go_wp2_with fail
    go_ret
    exact ⟨rfl, bstep S2.out hb3⟩
  · have LT := Lib.hid (light_back hLt S1.out)
    clear hLt hb2
    obtain ⟨M, hM⟩ : ∃ M : Nat, min n 60 = M := ⟨_, rfl⟩
    rw [hM] at LT ⊢
    go_wp2_with fail
    go_loopw [40] (fun i wr => ∃ (k : Nat) (v : Value) (d : Dsk), k ≤ M ∧ i = .int .i64 k ∧ DS wr w.heap.size w.heap.size v d ∧ Below w.heap.size w wr ∧ d.room = R) (fun i _ => M - (intOf i).toNat)
    case atStart => exact ⟨0, _, _, by omega, rfl, D2.out, S2.out, rfl⟩
    case round =>
      obtain ⟨k, v, d, hk, rfl, hd, hBel, hroom⟩ := hrel
      have HD := Lib.hid hd
      have HS := Lib.hid hBel
      have HB0 := Lib.hid hd.lt
      have HV0 := Lib.hid hd.vlt
      have hsz := hBel.size
      have hdS := hd.hs
      have hdR := hd.hr
      clear hd hBel
      by_cases hlt : k < M
      · obtain ⟨b, o, wh, u, ls, y, rfl, d0, d1, d2c, hw0, hy0, hu, hr, cu⟩ := op_at HV.out HS.out (show k < n by omega)
        have h200 := LT.out k hlt b o u ls rfl cu hu
        have HU := Lib.hid hu
        obtain ⟨A2, c9, rfl, hcc, hcm, _⟩ := hu
        clear cu hr
        unfold maxLen at hcm
        have eA : decide ((d.b.length : Int) < (d.safe : Int)) = false := by simp; omega
        obtain ⟨d2, r, hE⟩ : ∃ d2 r, d.doOp wh ls y = (d2, r) := ⟨_, _, rfl⟩
        have hE := Lib.hid hE
        have hc5 : wh % 5 = 0 ∨ wh % 5 = 1 ∨ wh % 5 = 2 ∨ wh % 5 = 3 ∨ wh % 5 = 4 := by omega
        rcases hc5 with h5 | h5 | h5 | h5 | h5
        · obtain ⟨j, hj, hb2, hsf, hout⟩ := app_keeps d ls hdR.1
          have hEe : d.app ls = (d2, r) := by have := hE.out; simpa [Dsk.doOp, h5] using this
          rw [hEe] at hb2 hsf hout
          have hrm : d2.room = d.room := by have := app_room d ls; rw [hEe] at this; exact this
          have hl2 : d2.b.length = d.b.length + j := by rw [hb2, List.length_append, List.length_take]; omega
          simp only at hb2 hsf hout
          have e6 : IntKind.i64.wrap ((d.b.length : Int) + ls.length) = (d.b.length : Int) + ls.length := IntWalk.i64_in _ (by omega)
          have e7 : min (d.b.length : Int) (d2.b.length : Int) = (d.b.length : Int) := by omega
          have e8 : decide ((d2.safe : Int) < (d.safe : Int)) = false := by simp; omega
          have hle : d.safe ≤ d2.safe := by omega
          have HB2 := Lib.hid hb2; have HRM := Lib.hid hrm; have HSF := Lib.hid hsf; have HRO := Lib.hid hroom
          have HL2 := Lib.hid hl2
          clear hb2 hrm hsf hl2 hroom
          go_wp2_with fail
          with_reducible refine Calls.mono (bytesE (ls := d.b) _ (HD.out.below (by repeat (first | exact Below.refl _ _ | refine balloc ?_ _ | refine bdrew ?_))) rfl) ?_
          rintro e4 w4 ⟨v4, rfl, hv4, hb4⟩
          have O4 := Lib.hid hv4
          clear hv4
          have S4 := Lib.hid (bstep HS.out (bstep (by repeat (first | exact Below.refl _ _ | refine balloc ?_ _ | refine bdrew ?_)) hb4))
          have D4 := Lib.hid (HD.out.below (bstep (by repeat (first | exact Below.refl _ _ | refine balloc ?_ _ | refine bdrew ?_)) hb4))
          have c4_0 : w4.cell? ⟨wr.heap.size, 0, none⟩ = some (.int .u8 wh) := keep hb4 (by go_simp)
          have c4_1 : w4.cell? ⟨wr.heap.size, 1, none⟩ = some (.slice A2 ls.length c9) := keep hb4 (by go_simp)
          have c4_2 : w4.cell? ⟨wr.heap.size, 2, none⟩ = some (.int .i64 y) := keep hb4 (by go_simp)
          have hO4 := fun (k : Nat) (hk : v4.ownBlock = some k) => (O4.out.lt k hk).1
          have RW := Lib.hid (BAt.of_own O4.out)
          have hAP : d.b ≠ [] → Apart w.heap.size v v4 := fun _ k hk => ⟨by have := hO4 k hk; have := HB0.out; (try simp at *); omega, fun e => by have := hO4 k hk; have := HV0.out _ e.symm; (try simp at *); omega⟩
          obtain ⟨Aw, cw, rfl⟩ := len_of_own O4.out
          have hcw := own_cap O4.out
          clear O4 hO4
          go_wp2_with fail
          with_reducible refine Calls.mono (safeE (r := (d.safe : Int)) _ (D4.out.below (by repeat (first | exact Below.refl _ _ | refine balloc ?_ _ | refine bdrew ?_))) rfl) ?_
          rintro e5 w5 ⟨rfl, hb5⟩
          have S5 := Lib.hid (bstep S4.out (bstep (by repeat (first | exact Below.refl _ _ | refine balloc ?_ _ | refine bdrew ?_)) hb5))
          have D5 := Lib.hid (D4.out.below (bstep (by repeat (first | exact Below.refl _ _ | refine balloc ?_ _ | refine bdrew ?_)) hb5))
          have c5_0 : w5.cell? ⟨wr.heap.size, 0, none⟩ = some (.int .u8 wh) := keep hb5 (by go_simp)
          have c5_1 : w5.cell? ⟨wr.heap.size, 1, none⟩ = some (.slice A2 ls.length c9) := keep hb5 (by go_simp)
          have c5_2 : w5.cell? ⟨wr.heap.size, 2, none⟩ = some (.int .i64 y) := keep hb5 (by go_simp)
          clear c4_0 c4_1 c4_2
          have RW := Lib.hid (RW.out.below (bstep (by repeat (first | exact Below.refl _ _ | refine balloc ?_ _ | refine bdrew ?_)) hb5))
          go_wp2_with fail
          with_reducible refine Calls.mono (doOpE _ D5.out (HU.out.below S5.out) (fun h0 => D5.out.apart_in (Nat.le_refl _) HU.out h0) hw0 hy0.2 hE.out) ?_
          rintro e6 w6 ⟨v6, rfl, hd6, hs6⟩
          have S6 := Lib.hid (DS.toBelow D5.out (Nat.le_refl _) S5.out hs6)
          have c6_0 : w6.cell? ⟨wr.heap.size, 0, none⟩ = some (.int .u8 wh) := hs6.cell (by go_simp) (by have := HB0.out; omega) (fun e => by have := HV0.out _ e.symm; omega)
          have c6_1 : w6.cell? ⟨wr.heap.size, 1, none⟩ = some (.slice A2 ls.length c9) := hs6.cell (by go_simp) (by have := HB0.out; omega) (fun e => by have := HV0.out _ e.symm; omega)
          have c6_2 : w6.cell? ⟨wr.heap.size, 2, none⟩ = some (.int .i64 y) := hs6.cell (by go_simp) (by have := HB0.out; omega) (fun e => by have := HV0.out _ e.symm; omega)
          have RW := Lib.hid (RW.out.step hs6 hAP)
          have D6 := Lib.hid hd6
          clear hd6 hs6 hAP
          clear c5_0 c5_1 c5_2
          go_wp2_with fail
          with_reducible refine Calls.mono (bytesE (ls := d2.b) _ (D6.out.below (by repeat (first | exact Below.refl _ _ | refine balloc ?_ _ | refine bdrew ?_))) rfl) ?_
          rintro e7 w7 ⟨v7, rfl, hv7, hb7⟩
          have O7 := Lib.hid hv7
          clear hv7
          have S7 := Lib.hid (bstep S6.out (bstep (by repeat (first | exact Below.refl _ _ | refine balloc ?_ _ | refine bdrew ?_)) hb7))
          have D7 := Lib.hid (D6.out.below (bstep (by repeat (first | exact Below.refl _ _ | refine balloc ?_ _ | refine bdrew ?_)) hb7))
          have c7_0 : w7.cell? ⟨wr.heap.size, 0, none⟩ = some (.int .u8 wh) := keep hb7 (by go_simp)
          have c7_1 : w7.cell? ⟨wr.heap.size, 1, none⟩ = some (.slice A2 ls.length c9) := keep hb7 (by go_simp)
          have c7_2 : w7.cell? ⟨wr.heap.size, 2, none⟩ = some (.int .i64 y) := keep hb7 (by go_simp)
          clear c6_0 c6_1 c6_2
          have RW := Lib.hid (RW.out.below (bstep (by repeat (first | exact Below.refl _ _ | refine balloc ?_ _ | refine bdrew ?_)) hb7))
          have RN := Lib.hid (BAt.of_own O7.out)
          have hds := D7.out.hs
          have hdr := D7.out.hr
          have eB : decide ((d2.b.length : Int) < (d2.safe : Int)) = false := by simp; omega
          have eC : decide ((d2.room : Int) < (d2.b.length : Int)) = false := by simp; omega
          rcases hout2 hout with ⟨bq, hbq1, hbq2⟩ | ⟨hr0, hj2⟩
          · have eR : (r == 0) = bq := hbq1
            have eL : ((d2.b.length : Int) == (d.b.length : Int) + ls.length) = bq := by have h := HL2.out; rw [← hbq2, Bool.eq_iff_iff]; simp; omega
            clear hbq1 hbq2 hout
            have hle2 : (d.b.length : Int) ≤ (d2.b.length : Int) := by have := HL2.out; omega
            obtain ⟨V9, hsl, hV9⟩ := slice_from O7.out (show d.b.length ≤ d2.b.length by omega)
            have HV9 := Lib.hid hV9
            obtain ⟨An, cn, rfl⟩ := len_of_own O7.out
            have hcn := own_cap O7.out
            clear O7 hV9
            go_wp2_with fail
            with_reducible refine Calls.mono (safeE (r := (d2.safe : Int)) _ (D7.out.below (by repeat (first | exact Below.refl _ _ | refine balloc ?_ _ | refine bdrew ?_))) rfl) ?_
            rintro e8 w8 ⟨rfl, hb8⟩
            have S8 := Lib.hid (bstep S7.out (bstep (by repeat (first | exact Below.refl _ _ | refine balloc ?_ _ | refine bdrew ?_)) hb8))
            have D8 := Lib.hid (D7.out.below (bstep (by repeat (first | exact Below.refl _ _ | refine balloc ?_ _ | refine bdrew ?_)) hb8))
            have c8_0 : w8.cell? ⟨wr.heap.size, 0, none⟩ = some (.int .u8 wh) := keep hb8 (by go_simp)
            have c8_1 : w8.cell? ⟨wr.heap.size, 1, none⟩ = some (.slice A2 ls.length c9) := keep hb8 (by go_simp)
            have c8_2 : w8.cell? ⟨wr.heap.size, 2, none⟩ = some (.int .i64 y) := keep hb8 (by go_simp)
            clear c7_0 c7_1 c7_2
            have RW := Lib.hid (RW.out.below (bstep (by repeat (first | exact Below.refl _ _ | refine balloc ?_ _ | refine bdrew ?_)) hb8))
            have RN := Lib.hid (RN.out.below (bstep (by repeat (first | exact Below.refl _ _ | refine balloc ?_ _ | refine bdrew ?_)) hb8))
            go_wp2_with fail
            with_reducible refine Calls.mono (lenE (r := (d2.b.length : Int)) _ (D8.out.below (by repeat (first | exact Below.refl _ _ | refine balloc ?_ _ | refine bdrew ?_))) rfl) ?_
            rintro e9 w9 ⟨rfl, hb9⟩
            have S9 := Lib.hid (bstep S8.out (bstep (by repeat (first | exact Below.refl _ _ | refine balloc ?_ _ | refine bdrew ?_)) hb9))
            have D9 := Lib.hid (D8.out.below (bstep (by repeat (first | exact Below.refl _ _ | refine balloc ?_ _ | refine bdrew ?_)) hb9))
            have c9_0 : w9.cell? ⟨wr.heap.size, 0, none⟩ = some (.int .u8 wh) := keep hb9 (by go_simp)
            have c9_1 : w9.cell? ⟨wr.heap.size, 1, none⟩ = some (.slice A2 ls.length c9) := keep hb9 (by go_simp)
            have c9_2 : w9.cell? ⟨wr.heap.size, 2, none⟩ = some (.int .i64 y) := keep hb9 (by go_simp)
            clear c8_0 c8_1 c8_2
            have RW := Lib.hid (RW.out.below (bstep (by repeat (first | exact Below.refl _ _ | refine balloc ?_ _ | refine bdrew ?_)) hb9))
            have RN := Lib.hid (RN.out.below (bstep (by repeat (first | exact Below.refl _ _ | refine balloc ?_ _ | refine bdrew ?_)) hb9))
            go_wp2_with fail
            with_reducible refine Calls.mono (roomE (r := (d2.room : Int)) _ (D9.out.below (by repeat (first | exact Below.refl _ _ | refine balloc ?_ _ | refine bdrew ?_))) rfl) ?_
            rintro e10 w10 ⟨rfl, hb10⟩
            have S10 := Lib.hid (bstep S9.out (bstep (by repeat (first | exact Below.refl _ _ | refine balloc ?_ _ | refine bdrew ?_)) hb10))
            have D10 := Lib.hid (D9.out.below (bstep (by repeat (first | exact Below.refl _ _ | refine balloc ?_ _ | refine bdrew ?_)) hb10))
            have c10_0 : w10.cell? ⟨wr.heap.size, 0, none⟩ = some (.int .u8 wh) := keep hb10 (by go_simp)
            have c10_1 : w10.cell? ⟨wr.heap.size, 1, none⟩ = some (.slice A2 ls.length c9) := keep hb10 (by go_simp)
            have c10_2 : w10.cell? ⟨wr.heap.size, 2, none⟩ = some (.int .i64 y) := keep hb10 (by go_simp)
            clear c9_0 c9_1 c9_2
            have RW := Lib.hid (RW.out.below (bstep (by repeat (first | exact Below.refl _ _ | refine balloc ?_ _ | refine bdrew ?_)) hb10))
            have RN := Lib.hid (RN.out.below (bstep (by repeat (first | exact Below.refl _ _ | refine balloc ?_ _ | refine bdrew ?_)) hb10))
            go_wp2_with fail
            with_reducible refine Calls.mono (safeE (r := (d2.safe : Int)) _ (D10.out.below (by repeat (first | exact Below.refl _ _ | refine balloc ?_ _ | refine bdrew ?_))) rfl) ?_
            rintro e11 w11 ⟨rfl, hb11⟩
            have S11 := Lib.hid (bstep S10.out (bstep (by repeat (first | exact Below.refl _ _ | refine balloc ?_ _ | refine bdrew ?_)) hb11))
            have D11 := Lib.hid (D10.out.below (bstep (by repeat (first | exact Below.refl _ _ | refine balloc ?_ _ | refine bdrew ?_)) hb11))
            have c11_0 : w11.cell? ⟨wr.heap.size, 0, none⟩ = some (.int .u8 wh) := keep hb11 (by go_simp)
            have c11_1 : w11.cell? ⟨wr.heap.size, 1, none⟩ = some (.slice A2 ls.length c9) := keep hb11 (by go_simp)
            have c11_2 : w11.cell? ⟨wr.heap.size, 2, none⟩ = some (.int .i64 y) := keep hb11 (by go_simp)
            clear c10_0 c10_1 c10_2
            have RW := Lib.hid (RW.out.below (bstep (by repeat (first | exact Below.refl _ _ | refine balloc ?_ _ | refine bdrew ?_)) hb11))
            have RN := Lib.hid (RN.out.below (bstep (by repeat (first | exact Below.refl _ _ | refine balloc ?_ _ | refine bdrew ?_)) hb11))
            go_wp2_with fail
            with_reducible refine Calls.mono (begins_true _ RN.out (take_bat RW.out (by omega)) (by have := HL2.out; rw [List.length_take]; omega) (by rw [HB2.out, List.length_take, Nat.min_eq_left (by omega), List.take_append_of_le_length (by omega)])) ?_
            rintro e12 w12 ⟨rfl, hb12⟩
            have S12 := Lib.hid (bstep S11.out (bstep (by repeat (first | exact Below.refl _ _ | refine balloc ?_ _ | refine bdrew ?_)) hb12))
            have D12 := Lib.hid (D11.out.below (bstep (by repeat (first | exact Below.refl _ _ | refine balloc ?_ _ | refine bdrew ?_)) hb12))
            have c12_0 : w12.cell? ⟨wr.heap.size, 0, none⟩ = some (.int .u8 wh) := keep hb12 (by go_simp)
            have c12_1 : w12.cell? ⟨wr.heap.size, 1, none⟩ = some (.slice A2 ls.length c9) := keep hb12 (by go_simp)
            have c12_2 : w12.cell? ⟨wr.heap.size, 2, none⟩ = some (.int .i64 y) := keep hb12 (by go_simp)
            clear c11_0 c11_1 c11_2
            have RW := Lib.hid (RW.out.below (bstep (by repeat (first | exact Below.refl _ _ | refine balloc ?_ _ | refine bdrew ?_)) hb12))
            have RN := Lib.hid (RN.out.below (bstep (by repeat (first | exact Below.refl _ _ | refine balloc ?_ _ | refine bdrew ?_)) hb12))
            have HDR := Lib.hid (show d2.b.drop d.b.length = ls.take j by rw [HB2.out]; simp)
            go_wp2_with fail
            refine wpQ_region (by kernel_rfl) (by kernel_rfl) ?_
            apply wpQ_do
            · rfl
            · intro wq hC; go_light; first | (go_simp; first | done | rfl | exact ⟨rfl, rfl⟩) | (have k0 : wq.cell? ⟨wr.heap.size, 0, none⟩ = some (.int .u8 wh) := hC.keep (by go_simp); have k1 : wq.cell? ⟨wr.heap.size, 1, none⟩ = some (.slice A2 ls.length c9) := hC.keep (by go_simp); have k2 : wq.cell? ⟨wr.heap.size, 2, none⟩ = some (.int .i64 y) := hC.keep (by go_simp); go_simp; first | done | rfl | exact ⟨rfl, rfl⟩)
            simp only [Act.put, List.setIfInBounds_toArray, List.set_cons_zero, List.set_cons_succ]
            apply wpQ_do
            · rfl
            · intro wq hC; go_light; first | (go_simp; first | done | rfl | exact ⟨rfl, rfl⟩) | (have k0 : wq.cell? ⟨wr.heap.size, 0, none⟩ = some (.int .u8 wh) := hC.keep (by go_simp); have k1 : wq.cell? ⟨wr.heap.size, 1, none⟩ = some (.slice A2 ls.length c9) := hC.keep (by go_simp); have k2 : wq.cell? ⟨wr.heap.size, 2, none⟩ = some (.int .i64 y) := hC.keep (by go_simp); go_simp; first | done | rfl | exact ⟨rfl, rfl⟩)
            simp only [Act.put, List.setIfInBounds_toArray, List.set_cons_zero, List.set_cons_succ]
            apply wpQ_do
            · rfl
            · intro wq hC; go_light; go_simp; refine Calls.mono (begins_true _ (RN.out.below hC) (RW.out.below hC) (by have := HL2.out; omega) (by rw [HB2.out]; simp)) ?_; rintro eq wq2 ⟨rfl, hbq⟩; exact ⟨rfl, hC.step hbq⟩
            simp only [Act.put, List.setIfInBounds_toArray, List.set_cons_zero, List.set_cons_succ]
            apply wpQ_do
            · rfl
            · intro wq hC; go_light; first | (go_simp; first | done | rfl | exact ⟨rfl, rfl⟩) | (have k0 : wq.cell? ⟨wr.heap.size, 0, none⟩ = some (.int .u8 wh) := hC.keep (by go_simp); have k1 : wq.cell? ⟨wr.heap.size, 1, none⟩ = some (.slice A2 ls.length c9) := hC.keep (by go_simp); have k2 : wq.cell? ⟨wr.heap.size, 2, none⟩ = some (.int .i64 y) := hC.keep (by go_simp); go_simp; first | done | rfl | exact ⟨rfl, rfl⟩)
            simp only [Act.put, List.setIfInBounds_toArray, List.set_cons_zero, List.set_cons_succ]
            apply wpQ_do
            · rfl
            · intro wq hC; go_light; first | (go_simp; first | done | rfl | exact ⟨rfl, rfl⟩) | (have k0 : wq.cell? ⟨wr.heap.size, 0, none⟩ = some (.int .u8 wh) := hC.keep (by go_simp); have k1 : wq.cell? ⟨wr.heap.size, 1, none⟩ = some (.slice A2 ls.length c9) := hC.keep (by go_simp); have k2 : wq.cell? ⟨wr.heap.size, 2, none⟩ = some (.int .i64 y) := hC.keep (by go_simp); go_simp; first | done | rfl | exact ⟨rfl, rfl⟩)
            simp only [Act.put, List.setIfInBounds_toArray, List.set_cons_zero, List.set_cons_succ]
            apply wpQ_do
            · rfl
            · intro wq hC; go_light; first | (go_simp; first | done | rfl | exact ⟨rfl, rfl⟩) | (have k0 : wq.cell? ⟨wr.heap.size, 0, none⟩ = some (.int .u8 wh) := hC.keep (by go_simp); have k1 : wq.cell? ⟨wr.heap.size, 1, none⟩ = some (.slice A2 ls.length c9) := hC.keep (by go_simp); have k2 : wq.cell? ⟨wr.heap.size, 2, none⟩ = some (.int .i64 y) := hC.keep (by go_simp); go_simp; first | done | rfl | exact ⟨rfl, rfl⟩)
            simp only [Act.put, List.setIfInBounds_toArray, List.set_cons_zero, List.set_cons_succ]
            apply wpQ_do
            · rfl
            · intro wq hC; go_light; first | (go_simp; first | done | rfl | exact ⟨rfl, rfl⟩) | (have k0 : wq.cell? ⟨wr.heap.size, 0, none⟩ = some (.int .u8 wh) := hC.keep (by go_simp); have k1 : wq.cell? ⟨wr.heap.size, 1, none⟩ = some (.slice A2 ls.length c9) := hC.keep (by go_simp); have k2 : wq.cell? ⟨wr.heap.size, 2, none⟩ = some (.int .i64 y) := hC.keep (by go_simp); go_simp; first | done | rfl | exact ⟨rfl, rfl⟩)
            simp only [Act.put, List.setIfInBounds_toArray, List.set_cons_zero, List.set_cons_succ]
            apply wpQ_do
            · rfl
            · intro wq hC; go_light; first | (go_simp; first | done | rfl | exact ⟨rfl, rfl⟩) | (have k0 : wq.cell? ⟨wr.heap.size, 0, none⟩ = some (.int .u8 wh) := hC.keep (by go_simp); have k1 : wq.cell? ⟨wr.heap.size, 1, none⟩ = some (.slice A2 ls.length c9) := hC.keep (by go_simp); have k2 : wq.cell? ⟨wr.heap.size, 2, none⟩ = some (.int .i64 y) := hC.keep (by go_simp); go_simp; first | done | rfl | exact ⟨rfl, rfl⟩)
            simp only [Act.put, List.setIfInBounds_toArray, List.set_cons_zero, List.set_cons_succ]
            apply wpQ_do
            · rfl
            · intro wq hC; go_light; first | (go_simp; first | done | rfl | exact ⟨rfl, rfl⟩) | (have k0 : wq.cell? ⟨wr.heap.size, 0, none⟩ = some (.int .u8 wh) := hC.keep (by go_simp); have k1 : wq.cell? ⟨wr.heap.size, 1, none⟩ = some (.slice A2 ls.length c9) := hC.keep (by go_simp); have k2 : wq.cell? ⟨wr.heap.size, 2, none⟩ = some (.int .i64 y) := hC.keep (by go_simp); go_simp; first | done | rfl | exact ⟨rfl, rfl⟩)
            simp only [Act.put, List.setIfInBounds_toArray, List.set_cons_zero, List.set_cons_succ]
            apply wpQ_do
            · rfl
            · intro wq hC; go_light; first | (go_simp; first | done | rfl | exact ⟨rfl, rfl⟩) | (have k0 : wq.cell? ⟨wr.heap.size, 0, none⟩ = some (.int .u8 wh) := hC.keep (by go_simp); have k1 : wq.cell? ⟨wr.heap.size, 1, none⟩ = some (.slice A2 ls.length c9) := hC.keep (by go_simp); have k2 : wq.cell? ⟨wr.heap.size, 2, none⟩ = some (.int .i64 y) := hC.keep (by go_simp); go_simp; first | done | rfl | exact ⟨rfl, rfl⟩)
            simp only [Act.put, List.setIfInBounds_toArray, List.set_cons_zero, List.set_cons_succ]
            apply wpQ_do
            · rfl
            · intro wq hC; go_light; first | (go_simp; first | done | rfl | exact ⟨rfl, rfl⟩) | (have k0 : wq.cell? ⟨wr.heap.size, 0, none⟩ = some (.int .u8 wh) := hC.keep (by go_simp); have k1 : wq.cell? ⟨wr.heap.size, 1, none⟩ = some (.slice A2 ls.length c9) := hC.keep (by go_simp); have k2 : wq.cell? ⟨wr.heap.size, 2, none⟩ = some (.int .i64 y) := hC.keep (by go_simp); go_simp; first | done | rfl | exact ⟨rfl, rfl⟩)
            simp only [Act.put, List.setIfInBounds_toArray, List.set_cons_zero, List.set_cons_succ]
            apply wpQ_do
            · rfl
            · intro wq hC; go_light; first | (go_simp; first | done | rfl | exact ⟨rfl, rfl⟩) | (have k0 : wq.cell? ⟨wr.heap.size, 0, none⟩ = some (.int .u8 wh) := hC.keep (by go_simp); have k1 : wq.cell? ⟨wr.heap.size, 1, none⟩ = some (.slice A2 ls.length c9) := hC.keep (by go_simp); have k2 : wq.cell? ⟨wr.heap.size, 2, none⟩ = some (.int .i64 y) := hC.keep (by go_simp); go_simp; first | done | rfl | exact ⟨rfl, rfl⟩)
            simp only [Act.put, List.setIfInBounds_toArray, List.set_cons_zero, List.set_cons_succ]
            apply wpQ_do
            · rfl
            · intro wq hC; go_light; first | (go_simp; first | done | rfl | exact ⟨rfl, rfl⟩) | (have k0 : wq.cell? ⟨wr.heap.size, 0, none⟩ = some (.int .u8 wh) := hC.keep (by go_simp); have k1 : wq.cell? ⟨wr.heap.size, 1, none⟩ = some (.slice A2 ls.length c9) := hC.keep (by go_simp); have k2 : wq.cell? ⟨wr.heap.size, 2, none⟩ = some (.int .i64 y) := hC.keep (by go_simp); go_simp; first | done | rfl | exact ⟨rfl, rfl⟩)
            simp only [Act.put, List.setIfInBounds_toArray, List.set_cons_zero, List.set_cons_succ]
            apply wpQ_do
            · rfl
            · intro wq hC; go_light; first | (go_simp; first | done | rfl | exact ⟨rfl, rfl⟩) | (have k0 : wq.cell? ⟨wr.heap.size, 0, none⟩ = some (.int .u8 wh) := hC.keep (by go_simp); have k1 : wq.cell? ⟨wr.heap.size, 1, none⟩ = some (.slice A2 ls.length c9) := hC.keep (by go_simp); have k2 : wq.cell? ⟨wr.heap.size, 2, none⟩ = some (.int .i64 y) := hC.keep (by go_simp); go_simp; first | done | rfl | exact ⟨rfl, rfl⟩)
            simp only [Act.put, List.setIfInBounds_toArray, List.set_cons_zero, List.set_cons_succ]
            apply wpQ_do
            · rfl
            · intro wq hC; go_light; go_simp; refine Calls.mono (begins_true _ ((HU.out.below S12.out).below hC) (Eq.mp (congrArg (fun l => BAt _ _ l) HDR.out) (HV9.out _ _ (RN.out.below hC))) (by rw [List.length_take]; omega) (by rw [List.length_take, Nat.min_eq_left hj])) ?_; rintro eq wq2 ⟨rfl, hbq⟩; exact ⟨rfl, hC.step hbq⟩
            simp only [Act.put, List.setIfInBounds_toArray, List.set_cons_zero, List.set_cons_succ]
            apply wpQ_do
            · rfl
            · intro wq hC; go_light; first | (go_simp; first | done | rfl | exact ⟨rfl, rfl⟩) | (have k0 : wq.cell? ⟨wr.heap.size, 0, none⟩ = some (.int .u8 wh) := hC.keep (by go_simp); have k1 : wq.cell? ⟨wr.heap.size, 1, none⟩ = some (.slice A2 ls.length c9) := hC.keep (by go_simp); have k2 : wq.cell? ⟨wr.heap.size, 2, none⟩ = some (.int .i64 y) := hC.keep (by go_simp); go_simp; first | done | rfl | exact ⟨rfl, rfl⟩)
            simp only [Act.put, List.setIfInBounds_toArray, List.set_cons_zero, List.set_cons_succ]
            apply wpQ_do
            · rfl
            · intro wq hC; go_light; first | (go_simp; first | done | rfl | exact ⟨rfl, rfl⟩) | (have k0 : wq.cell? ⟨wr.heap.size, 0, none⟩ = some (.int .u8 wh) := hC.keep (by go_simp); have k1 : wq.cell? ⟨wr.heap.size, 1, none⟩ = some (.slice A2 ls.length c9) := hC.keep (by go_simp); have k2 : wq.cell? ⟨wr.heap.size, 2, none⟩ = some (.int .i64 y) := hC.keep (by go_simp); go_simp; first | done | rfl | exact ⟨rfl, rfl⟩)
            simp only [Act.put, List.setIfInBounds_toArray, List.set_cons_zero, List.set_cons_succ]
            apply wpQ_do
            · rfl
            · intro wq hC; go_light; first | (go_simp; first | done | rfl | exact ⟨rfl, rfl⟩) | (have k0 : wq.cell? ⟨wr.heap.size, 0, none⟩ = some (.int .u8 wh) := hC.keep (by go_simp); have k1 : wq.cell? ⟨wr.heap.size, 1, none⟩ = some (.slice A2 ls.length c9) := hC.keep (by go_simp); have k2 : wq.cell? ⟨wr.heap.size, 2, none⟩ = some (.int .i64 y) := hC.keep (by go_simp); go_simp; first | done | rfl | exact ⟨rfl, rfl⟩)
            simp only [Act.put, List.setIfInBounds_toArray, List.set_cons_zero, List.set_cons_succ]
            apply wpQ_do
            · rfl
            · intro wq hC; go_light; first | (go_simp; first | done | rfl | exact ⟨rfl, rfl⟩) | (have k0 : wq.cell? ⟨wr.heap.size, 0, none⟩ = some (.int .u8 wh) := hC.keep (by go_simp); have k1 : wq.cell? ⟨wr.heap.size, 1, none⟩ = some (.slice A2 ls.length c9) := hC.keep (by go_simp); have k2 : wq.cell? ⟨wr.heap.size, 2, none⟩ = some (.int .i64 y) := hC.keep (by go_simp); go_simp; first | done | rfl | exact ⟨rfl, rfl⟩)
            simp only [Act.put, List.setIfInBounds_toArray, List.set_cons_zero, List.set_cons_succ]
            apply wpQ_do
            · rfl
            · intro wq hC; go_light; first | (go_simp; first | done | rfl | exact ⟨rfl, rfl⟩) | (have k0 : wq.cell? ⟨wr.heap.size, 0, none⟩ = some (.int .u8 wh) := hC.keep (by go_simp); have k1 : wq.cell? ⟨wr.heap.size, 1, none⟩ = some (.slice A2 ls.length c9) := hC.keep (by go_simp); have k2 : wq.cell? ⟨wr.heap.size, 2, none⟩ = some (.int .i64 y) := hC.keep (by go_simp); go_simp; first | done | rfl | exact ⟨rfl, rfl⟩)
            simp only [Act.put, List.setIfInBounds_toArray, List.set_cons_zero, List.set_cons_succ]
            apply wpQ_do
            · rfl
            · intro wq hC; go_light; first | (go_simp; first | done | rfl | exact ⟨rfl, rfl⟩) | (have k0 : wq.cell? ⟨wr.heap.size, 0, none⟩ = some (.int .u8 wh) := hC.keep (by go_simp); have k1 : wq.cell? ⟨wr.heap.size, 1, none⟩ = some (.slice A2 ls.length c9) := hC.keep (by go_simp); have k2 : wq.cell? ⟨wr.heap.size, 2, none⟩ = some (.int .i64 y) := hC.keep (by go_simp); go_simp; first | done | rfl | exact ⟨rfl, rfl⟩)
            simp only [Act.put, List.setIfInBounds_toArray, List.set_cons_zero, List.set_cons_succ]
            apply wpQ_do
            · rfl
            · intro wq hC; go_light; first | (go_simp; first | done | rfl | exact ⟨rfl, rfl⟩) | (have k0 : wq.cell? ⟨wr.heap.size, 0, none⟩ = some (.int .u8 wh) := hC.keep (by go_simp); have k1 : wq.cell? ⟨wr.heap.size, 1, none⟩ = some (.slice A2 ls.length c9) := hC.keep (by go_simp); have k2 : wq.cell? ⟨wr.heap.size, 2, none⟩ = some (.int .i64 y) := hC.keep (by go_simp); go_simp; first | done | rfl | exact ⟨rfl, rfl⟩)
            simp only [Act.put, List.setIfInBounds_toArray, List.set_cons_zero, List.set_cons_succ]
            apply wpQ_do
            · rfl
            · intro wq hC; go_light; first | (go_simp; first | done | rfl | exact ⟨rfl, rfl⟩) | (have k0 : wq.cell? ⟨wr.heap.size, 0, none⟩ = some (.int .u8 wh) := hC.keep (by go_simp); have k1 : wq.cell? ⟨wr.heap.size, 1, none⟩ = some (.slice A2 ls.length c9) := hC.keep (by go_simp); have k2 : wq.cell? ⟨wr.heap.size, 2, none⟩ = some (.int .i64 y) := hC.keep (by go_simp); go_simp; first | done | rfl | exact ⟨rfl, rfl⟩)
            simp only [Act.put, List.setIfInBounds_toArray, List.set_cons_zero, List.set_cons_succ]
            apply wpQ_do
            · rfl
            · intro wq hC; go_light; first | (go_simp; first | done | rfl | exact ⟨rfl, rfl⟩) | (have k0 : wq.cell? ⟨wr.heap.size, 0, none⟩ = some (.int .u8 wh) := hC.keep (by go_simp); have k1 : wq.cell? ⟨wr.heap.size, 1, none⟩ = some (.slice A2 ls.length c9) := hC.keep (by go_simp); have k2 : wq.cell? ⟨wr.heap.size, 2, none⟩ = some (.int .i64 y) := hC.keep (by go_simp); go_simp; first | done | rfl | exact ⟨rfl, rfl⟩)
            simp only [Act.put, List.setIfInBounds_toArray, List.set_cons_zero, List.set_cons_succ]
            apply wpQ_do
            · rfl
            · intro wq hC; go_light; first | (go_simp; first | done | rfl | exact ⟨rfl, rfl⟩) | (have k0 : wq.cell? ⟨wr.heap.size, 0, none⟩ = some (.int .u8 wh) := hC.keep (by go_simp); have k1 : wq.cell? ⟨wr.heap.size, 1, none⟩ = some (.slice A2 ls.length c9) := hC.keep (by go_simp); have k2 : wq.cell? ⟨wr.heap.size, 2, none⟩ = some (.int .i64 y) := hC.keep (by go_simp); go_simp; first | done | rfl | exact ⟨rfl, rfl⟩)
            simp only [Act.put, List.setIfInBounds_toArray, List.set_cons_zero, List.set_cons_succ]
            apply wpQ_do
            · rfl
            · intro wq hC; go_light; first | (go_simp; first | done | rfl | exact ⟨rfl, rfl⟩) | (have k0 : wq.cell? ⟨wr.heap.size, 0, none⟩ = some (.int .u8 wh) := hC.keep (by go_simp); have k1 : wq.cell? ⟨wr.heap.size, 1, none⟩ = some (.slice A2 ls.length c9) := hC.keep (by go_simp); have k2 : wq.cell? ⟨wr.heap.size, 2, none⟩ = some (.int .i64 y) := hC.keep (by go_simp); go_simp; first | done | rfl | exact ⟨rfl, rfl⟩)
            simp only [Act.put, List.setIfInBounds_toArray, List.set_cons_zero, List.set_cons_succ]
            apply wpQ_do
            · rfl
            · intro wq hC; go_light; first | (go_simp; first | done | rfl | exact ⟨rfl, rfl⟩) | (have k0 : wq.cell? ⟨wr.heap.size, 0, none⟩ = some (.int .u8 wh) := hC.keep (by go_simp); have k1 : wq.cell? ⟨wr.heap.size, 1, none⟩ = some (.slice A2 ls.length c9) := hC.keep (by go_simp); have k2 : wq.cell? ⟨wr.heap.size, 2, none⟩ = some (.int .i64 y) := hC.keep (by go_simp); go_simp; first | done | rfl | exact ⟨rfl, rfl⟩)
            simp only [Act.put, List.setIfInBounds_toArray, List.set_cons_zero, List.set_cons_succ]
            apply wpQ_do
            · rfl
            · intro wq hC; go_light; first | (go_simp; first | done | rfl | exact ⟨rfl, rfl⟩) | (have k0 : wq.cell? ⟨wr.heap.size, 0, none⟩ = some (.int .u8 wh) := hC.keep (by go_simp); have k1 : wq.cell? ⟨wr.heap.size, 1, none⟩ = some (.slice A2 ls.length c9) := hC.keep (by go_simp); have k2 : wq.cell? ⟨wr.heap.size, 2, none⟩ = some (.int .i64 y) := hC.keep (by go_simp); go_simp; first | done | rfl | exact ⟨rfl, rfl⟩)
            simp only [Act.put, List.setIfInBounds_toArray, List.set_cons_zero, List.set_cons_succ]
            apply wpQ_do
            · rfl
            · intro wq hC; go_light; first | (go_simp; first | done | rfl | exact ⟨rfl, rfl⟩) | (have k0 : wq.cell? ⟨wr.heap.size, 0, none⟩ = some (.int .u8 wh) := hC.keep (by go_simp); have k1 : wq.cell? ⟨wr.heap.size, 1, none⟩ = some (.slice A2 ls.length c9) := hC.keep (by go_simp); have k2 : wq.cell? ⟨wr.heap.size, 2, none⟩ = some (.int .i64 y) := hC.keep (by go_simp); go_simp; first | done | rfl | exact ⟨rfl, rfl⟩)
            simp only [Act.put, List.setIfInBounds_toArray, List.set_cons_zero, List.set_cons_succ]
            apply wpQ_do
            · rfl
            · intro wq hC; go_light; first | (go_simp; first | done | rfl | exact ⟨rfl, rfl⟩) | (have k0 : wq.cell? ⟨wr.heap.size, 0, none⟩ = some (.int .u8 wh) := hC.keep (by go_simp); have k1 : wq.cell? ⟨wr.heap.size, 1, none⟩ = some (.slice A2 ls.length c9) := hC.keep (by go_simp); have k2 : wq.cell? ⟨wr.heap.size, 2, none⟩ = some (.int .i64 y) := hC.keep (by go_simp); go_simp; first | done | rfl | exact ⟨rfl, rfl⟩)
            simp only [Act.put, List.setIfInBounds_toArray, List.set_cons_zero, List.set_cons_succ]
            apply wpQ_do
            · rfl
            · intro wq hC; go_light; first | (go_simp; first | done | rfl | exact ⟨rfl, rfl⟩) | (have k0 : wq.cell? ⟨wr.heap.size, 0, none⟩ = some (.int .u8 wh) := hC.keep (by go_simp); have k1 : wq.cell? ⟨wr.heap.size, 1, none⟩ = some (.slice A2 ls.length c9) := hC.keep (by go_simp); have k2 : wq.cell? ⟨wr.heap.size, 2, none⟩ = some (.int .i64 y) := hC.keep (by go_simp); go_simp; first | done | rfl | exact ⟨rfl, rfl⟩)
            simp only [Act.put, List.setIfInBounds_toArray, List.set_cons_zero, List.set_cons_succ]
            apply wpQ_not
            · rfl
            simp only [Act.put, List.setIfInBounds_toArray, List.set_cons_zero, List.set_cons_succ]
            apply wpQ_not
            · rfl
            simp only [Act.put, List.setIfInBounds_toArray, List.set_cons_zero, List.set_cons_succ]
            apply wpQ_not
            · rfl
            simp only [Act.put, List.setIfInBounds_toArray, List.set_cons_zero, List.set_cons_succ]
            apply wpQ_not
            · rfl
            simp only [Act.put, List.setIfInBounds_toArray, List.set_cons_zero, List.set_cons_succ]
            apply wpQ_do
            · rfl
            · intro wq hC; go_light; first | (go_simp; first | done | rfl | exact ⟨rfl, rfl⟩) | (have k0 : wq.cell? ⟨wr.heap.size, 0, none⟩ = some (.int .u8 wh) := hC.keep (by go_simp); have k1 : wq.cell? ⟨wr.heap.size, 1, none⟩ = some (.slice A2 ls.length c9) := hC.keep (by go_simp); have k2 : wq.cell? ⟨wr.heap.size, 2, none⟩ = some (.int .i64 y) := hC.keep (by go_simp); go_simp; first | done | rfl | exact ⟨rfl, rfl⟩)
            simp only [Act.put, List.setIfInBounds_toArray, List.set_cons_zero, List.set_cons_succ]
            apply wpQ_do
            · rfl
            · intro wq hC; go_light; first | (go_simp; first | done | rfl | exact ⟨rfl, rfl⟩) | (have k0 : wq.cell? ⟨wr.heap.size, 0, none⟩ = some (.int .u8 wh) := hC.keep (by go_simp); have k1 : wq.cell? ⟨wr.heap.size, 1, none⟩ = some (.slice A2 ls.length c9) := hC.keep (by go_simp); have k2 : wq.cell? ⟨wr.heap.size, 2, none⟩ = some (.int .i64 y) := hC.keep (by go_simp); go_simp; first | done | rfl | exact ⟨rfl, rfl⟩)
            simp only [Act.put, List.setIfInBounds_toArray, List.set_cons_zero, List.set_cons_succ]
            apply wpQ_nil
            intro w13 hb13
            have hb13 : Below _ _ _ := hb13
            have S13 := Lib.hid (bstep S12.out hb13)
            have D13 := Lib.hid (D12.out.below hb13)
            have c13_0 : w13.cell? ⟨wr.heap.size, 0, none⟩ = some (.int .u8 wh) := keep hb13 (by go_simp)
            have c13_1 : w13.cell? ⟨wr.heap.size, 1, none⟩ = some (.slice A2 ls.length c9) := keep hb13 (by go_simp)
            have c13_2 : w13.cell? ⟨wr.heap.size, 2, none⟩ = some (.int .i64 y) := keep hb13 (by go_simp)
            clear c12_0 c12_1 c12_2
            go_wp2_with fail
            go_roundw
            case rel => exact ⟨k + 1, v6, d2, by omega, by go_num, D13.out, S13.out, by rw [HRM.out]; exact HRO.out⟩
            case measure => (try simp [intOf]) <;> omega
          · have eR : (r == 0) = false := by simpa using hr0
            have eL : ((d2.b.length : Int) == (d.b.length : Int) + ls.length) = true := by have := HL2.out; simp; omega
            have HJ := Lib.hid hj2
            clear hj2 hr0 hout
            have eG : decide ((0 : Int) < (ls.length : Int)) = false := decide_eq_false (by have := HJ.out; omega)
            have eG2 : ¬ 0 < ls.length := by have := HJ.out; omega
            have hle2 : (d.b.length : Int) ≤ (d2.b.length : Int) := by have := HL2.out; omega
            obtain ⟨V9, hsl, hV9⟩ := slice_from O7.out (show d.b.length ≤ d2.b.length by omega)
            have HV9 := Lib.hid hV9
            obtain ⟨An, cn, rfl⟩ := len_of_own O7.out
            have hcn := own_cap O7.out
            clear O7 hV9
            go_wp2_with fail
            with_reducible refine Calls.mono (safeE (r := (d2.safe : Int)) _ (D7.out.below (by repeat (first | exact Below.refl _ _ | refine balloc ?_ _ | refine bdrew ?_))) rfl) ?_
            rintro e8 w8 ⟨rfl, hb8⟩
            have S8 := Lib.hid (bstep S7.out (bstep (by repeat (first | exact Below.refl _ _ | refine balloc ?_ _ | refine bdrew ?_)) hb8))
            have D8 := Lib.hid (D7.out.below (bstep (by repeat (first | exact Below.refl _ _ | refine balloc ?_ _ | refine bdrew ?_)) hb8))
            have c8_0 : w8.cell? ⟨wr.heap.size, 0, none⟩ = some (.int .u8 wh) := keep hb8 (by go_simp)
            have c8_1 : w8.cell? ⟨wr.heap.size, 1, none⟩ = some (.slice A2 ls.length c9) := keep hb8 (by go_simp)
            have c8_2 : w8.cell? ⟨wr.heap.size, 2, none⟩ = some (.int .i64 y) := keep hb8 (by go_simp)
            clear c7_0 c7_1 c7_2
            have RW := Lib.hid (RW.out.below (bstep (by repeat (first | exact Below.refl _ _ | refine balloc ?_ _ | refine bdrew ?_)) hb8))
            have RN := Lib.hid (RN.out.below (bstep (by repeat (first | exact Below.refl _ _ | refine balloc ?_ _ | refine bdrew ?_)) hb8))
            go_wp2_with fail
            with_reducible refine Calls.mono (lenE (r := (d2.b.length : Int)) _ (D8.out.below (by repeat (first | exact Below.refl _ _ | refine balloc ?_ _ | refine bdrew ?_))) rfl) ?_
            rintro e9 w9 ⟨rfl, hb9⟩
            have S9 := Lib.hid (bstep S8.out (bstep (by repeat (first | exact Below.refl _ _ | refine balloc ?_ _ | refine bdrew ?_)) hb9))
            have D9 := Lib.hid (D8.out.below (bstep (by repeat (first | exact Below.refl _ _ | refine balloc ?_ _ | refine bdrew ?_)) hb9))
            have c9_0 : w9.cell? ⟨wr.heap.size, 0, none⟩ = some (.int .u8 wh) := keep hb9 (by go_simp)
            have c9_1 : w9.cell? ⟨wr.heap.size, 1, none⟩ = some (.slice A2 ls.length c9) := keep hb9 (by go_simp)
            have c9_2 : w9.cell? ⟨wr.heap.size, 2, none⟩ = some (.int .i64 y) := keep hb9 (by go_simp)
            clear c8_0 c8_1 c8_2
            have RW := Lib.hid (RW.out.below (bstep (by repeat (first | exact Below.refl _ _ | refine balloc ?_ _ | refine bdrew ?_)) hb9))
            have RN := Lib.hid (RN.out.below (bstep (by repeat (first | exact Below.refl _ _ | refine balloc ?_ _ | refine bdrew ?_)) hb9))
            go_wp2_with fail
            with_reducible refine Calls.mono (roomE (r := (d2.room : Int)) _ (D9.out.below (by repeat (first | exact Below.refl _ _ | refine balloc ?_ _ | refine bdrew ?_))) rfl) ?_
            rintro e10 w10 ⟨rfl, hb10⟩
            have S10 := Lib.hid (bstep S9.out (bstep (by repeat (first | exact Below.refl _ _ | refine balloc ?_ _ | refine bdrew ?_)) hb10))
            have D10 := Lib.hid (D9.out.below (bstep (by repeat (first | exact Below.refl _ _ | refine balloc ?_ _ | refine bdrew ?_)) hb10))
            have c10_0 : w10.cell? ⟨wr.heap.size, 0, none⟩ = some (.int .u8 wh) := keep hb10 (by go_simp)
            have c10_1 : w10.cell? ⟨wr.heap.size, 1, none⟩ = some (.slice A2 ls.length c9) := keep hb10 (by go_simp)
            have c10_2 : w10.cell? ⟨wr.heap.size, 2, none⟩ = some (.int .i64 y) := keep hb10 (by go_simp)
            clear c9_0 c9_1 c9_2
            have RW := Lib.hid (RW.out.below (bstep (by repeat (first | exact Below.refl _ _ | refine balloc ?_ _ | refine bdrew ?_)) hb10))
            have RN := Lib.hid (RN.out.below (bstep (by repeat (first | exact Below.refl _ _ | refine balloc ?_ _ | refine bdrew ?_)) hb10))
            go_wp2_with fail
            with_reducible refine Calls.mono (safeE (r := (d2.safe : Int)) _ (D10.out.below (by repeat (first | exact Below.refl _ _ | refine balloc ?_ _ | refine bdrew ?_))) rfl) ?_
            rintro e11 w11 ⟨rfl, hb11⟩
            have S11 := Lib.hid (bstep S10.out (bstep (by repeat (first | exact Below.refl _ _ | refine balloc ?_ _ | refine bdrew ?_)) hb11))
            have D11 := Lib.hid (D10.out.below (bstep (by repeat (first | exact Below.refl _ _ | refine balloc ?_ _ | refine bdrew ?_)) hb11))
            have c11_0 : w11.cell? ⟨wr.heap.size, 0, none⟩ = some (.int .u8 wh) := keep hb11 (by go_simp)
            have c11_1 : w11.cell? ⟨wr.heap.size, 1, none⟩ = some (.slice A2 ls.length c9) := keep hb11 (by go_simp)
            have c11_2 : w11.cell? ⟨wr.heap.size, 2, none⟩ = some (.int .i64 y) := keep hb11 (by go_simp)
            clear c10_0 c10_1 c10_2
            have RW := Lib.hid (RW.out.below (bstep (by repeat (first | exact Below.refl _ _ | refine balloc ?_ _ | refine bdrew ?_)) hb11))
            have RN := Lib.hid (RN.out.below (bstep (by repeat (first | exact Below.refl _ _ | refine balloc ?_ _ | refine bdrew ?_)) hb11))
            go_wp2_with fail
            with_reducible refine Calls.mono (begins_true _ RN.out (take_bat RW.out (by omega)) (by have := HL2.out; rw [List.length_take]; omega) (by rw [HB2.out, List.length_take, Nat.min_eq_left (by omega), List.take_append_of_le_length (by omega)])) ?_
            rintro e12 w12 ⟨rfl, hb12⟩
            have S12 := Lib.hid (bstep S11.out (bstep (by repeat (first | exact Below.refl _ _ | refine balloc ?_ _ | refine bdrew ?_)) hb12))
            have D12 := Lib.hid (D11.out.below (bstep (by repeat (first | exact Below.refl _ _ | refine balloc ?_ _ | refine bdrew ?_)) hb12))
            have c12_0 : w12.cell? ⟨wr.heap.size, 0, none⟩ = some (.int .u8 wh) := keep hb12 (by go_simp)
            have c12_1 : w12.cell? ⟨wr.heap.size, 1, none⟩ = some (.slice A2 ls.length c9) := keep hb12 (by go_simp)
            have c12_2 : w12.cell? ⟨wr.heap.size, 2, none⟩ = some (.int .i64 y) := keep hb12 (by go_simp)
            clear c11_0 c11_1 c11_2
            have RW := Lib.hid (RW.out.below (bstep (by repeat (first | exact Below.refl _ _ | refine balloc ?_ _ | refine bdrew ?_)) hb12))
            have RN := Lib.hid (RN.out.below (bstep (by repeat (first | exact Below.refl _ _ | refine balloc ?_ _ | refine bdrew ?_)) hb12))
            have HDR := Lib.hid (show d2.b.drop d.b.length = ls.take j by rw [HB2.out]; simp)
            go_wp2_with fail
            refine wpQ_region (by kernel_rfl) (by kernel_rfl) ?_
            apply wpQ_do
            · rfl
            · intro wq hC; go_light; first | (go_simp; first | done | rfl | exact ⟨rfl, rfl⟩) | (have k0 : wq.cell? ⟨wr.heap.size, 0, none⟩ = some (.int .u8 wh) := hC.keep (by go_simp); have k1 : wq.cell? ⟨wr.heap.size, 1, none⟩ = some (.slice A2 ls.length c9) := hC.keep (by go_simp); have k2 : wq.cell? ⟨wr.heap.size, 2, none⟩ = some (.int .i64 y) := hC.keep (by go_simp); go_simp; first | done | rfl | exact ⟨rfl, rfl⟩)
            simp only [Act.put, List.setIfInBounds_toArray, List.set_cons_zero, List.set_cons_succ]
            apply wpQ_do
            · rfl
            · intro wq hC; go_light; first | (go_simp; first | done | rfl | exact ⟨rfl, rfl⟩) | (have k0 : wq.cell? ⟨wr.heap.size, 0, none⟩ = some (.int .u8 wh) := hC.keep (by go_simp); have k1 : wq.cell? ⟨wr.heap.size, 1, none⟩ = some (.slice A2 ls.length c9) := hC.keep (by go_simp); have k2 : wq.cell? ⟨wr.heap.size, 2, none⟩ = some (.int .i64 y) := hC.keep (by go_simp); go_simp; first | done | rfl | exact ⟨rfl, rfl⟩)
            simp only [Act.put, List.setIfInBounds_toArray, List.set_cons_zero, List.set_cons_succ]
            apply wpQ_do
            · rfl
            · intro wq hC; go_light; go_simp; refine Calls.mono (begins_true _ (RN.out.below hC) (RW.out.below hC) (by have := HL2.out; omega) (by rw [HB2.out]; simp)) ?_; rintro eq wq2 ⟨rfl, hbq⟩; exact ⟨rfl, hC.step hbq⟩
            simp only [Act.put, List.setIfInBounds_toArray, List.set_cons_zero, List.set_cons_succ]
            apply wpQ_do
            · rfl
            · intro wq hC; go_light; first | (go_simp; first | done | rfl | exact ⟨rfl, rfl⟩) | (have k0 : wq.cell? ⟨wr.heap.size, 0, none⟩ = some (.int .u8 wh) := hC.keep (by go_simp); have k1 : wq.cell? ⟨wr.heap.size, 1, none⟩ = some (.slice A2 ls.length c9) := hC.keep (by go_simp); have k2 : wq.cell? ⟨wr.heap.size, 2, none⟩ = some (.int .i64 y) := hC.keep (by go_simp); go_simp; first | done | rfl | exact ⟨rfl, rfl⟩)
            simp only [Act.put, List.setIfInBounds_toArray, List.set_cons_zero, List.set_cons_succ]
            apply wpQ_do
            · rfl
            · intro wq hC; go_light; first | (go_simp; first | done | rfl | exact ⟨rfl, rfl⟩) | (have k0 : wq.cell? ⟨wr.heap.size, 0, none⟩ = some (.int .u8 wh) := hC.keep (by go_simp); have k1 : wq.cell? ⟨wr.heap.size, 1, none⟩ = some (.slice A2 ls.length c9) := hC.keep (by go_simp); have k2 : wq.cell? ⟨wr.heap.size, 2, none⟩ = some (.int .i64 y) := hC.keep (by go_simp); go_simp; first | done | rfl | exact ⟨rfl, rfl⟩)
            simp only [Act.put, List.setIfInBounds_toArray, List.set_cons_zero, List.set_cons_succ]
            apply wpQ_do
            · rfl
            · intro wq hC; go_light; first | (go_simp; first | done | rfl | exact ⟨rfl, rfl⟩) | (have k0 : wq.cell? ⟨wr.heap.size, 0, none⟩ = some (.int .u8 wh) := hC.keep (by go_simp); have k1 : wq.cell? ⟨wr.heap.size, 1, none⟩ = some (.slice A2 ls.length c9) := hC.keep (by go_simp); have k2 : wq.cell? ⟨wr.heap.size, 2, none⟩ = some (.int .i64 y) := hC.keep (by go_simp); go_simp; first | done | rfl | exact ⟨rfl, rfl⟩)
            simp only [Act.put, List.setIfInBounds_toArray, List.set_cons_zero, List.set_cons_succ]
            apply wpQ_do
            · rfl
            · intro wq hC; go_light; first | (go_simp; first | done | rfl | exact ⟨rfl, rfl⟩) | (have k0 : wq.cell? ⟨wr.heap.size, 0, none⟩ = some (.int .u8 wh) := hC.keep (by go_simp); have k1 : wq.cell? ⟨wr.heap.size, 1, none⟩ = some (.slice A2 ls.length c9) := hC.keep (by go_simp); have k2 : wq.cell? ⟨wr.heap.size, 2, none⟩ = some (.int .i64 y) := hC.keep (by go_simp); go_simp; first | done | rfl | exact ⟨rfl, rfl⟩)
            simp only [Act.put, List.setIfInBounds_toArray, List.set_cons_zero, List.set_cons_succ]
            apply wpQ_do
            · rfl
            · intro wq hC; go_light; first | (go_simp; first | done | rfl | exact ⟨rfl, rfl⟩) | (have k0 : wq.cell? ⟨wr.heap.size, 0, none⟩ = some (.int .u8 wh) := hC.keep (by go_simp); have k1 : wq.cell? ⟨wr.heap.size, 1, none⟩ = some (.slice A2 ls.length c9) := hC.keep (by go_simp); have k2 : wq.cell? ⟨wr.heap.size, 2, none⟩ = some (.int .i64 y) := hC.keep (by go_simp); go_simp; first | done | rfl | exact ⟨rfl, rfl⟩)
            simp only [Act.put, List.setIfInBounds_toArray, List.set_cons_zero, List.set_cons_succ]
            apply wpQ_do
            · rfl
            · intro wq hC; go_light; first | (go_simp; first | done | rfl | exact ⟨rfl, rfl⟩) | (have k0 : wq.cell? ⟨wr.heap.size, 0, none⟩ = some (.int .u8 wh) := hC.keep (by go_simp); have k1 : wq.cell? ⟨wr.heap.size, 1, none⟩ = some (.slice A2 ls.length c9) := hC.keep (by go_simp); have k2 : wq.cell? ⟨wr.heap.size, 2, none⟩ = some (.int .i64 y) := hC.keep (by go_simp); go_simp; first | done | rfl | exact ⟨rfl, rfl⟩)
            simp only [Act.put, List.setIfInBounds_toArray, List.set_cons_zero, List.set_cons_succ]
            apply wpQ_do
            · rfl
            · intro wq hC; go_light; first | (go_simp; first | done | rfl | exact ⟨rfl, rfl⟩) | (have k0 : wq.cell? ⟨wr.heap.size, 0, none⟩ = some (.int .u8 wh) := hC.keep (by go_simp); have k1 : wq.cell? ⟨wr.heap.size, 1, none⟩ = some (.slice A2 ls.length c9) := hC.keep (by go_simp); have k2 : wq.cell? ⟨wr.heap.size, 2, none⟩ = some (.int .i64 y) := hC.keep (by go_simp); go_simp; first | done | rfl | exact ⟨rfl, rfl⟩)
            simp only [Act.put, List.setIfInBounds_toArray, List.set_cons_zero, List.set_cons_succ]
            apply wpQ_do
            · rfl
            · intro wq hC; go_light; first | (go_simp; first | done | rfl | exact ⟨rfl, rfl⟩) | (have k0 : wq.cell? ⟨wr.heap.size, 0, none⟩ = some (.int .u8 wh) := hC.keep (by go_simp); have k1 : wq.cell? ⟨wr.heap.size, 1, none⟩ = some (.slice A2 ls.length c9) := hC.keep (by go_simp); have k2 : wq.cell? ⟨wr.heap.size, 2, none⟩ = some (.int .i64 y) := hC.keep (by go_simp); go_simp; first | done | rfl | exact ⟨rfl, rfl⟩)
            simp only [Act.put, List.setIfInBounds_toArray, List.set_cons_zero, List.set_cons_succ]
            apply wpQ_do
            · rfl
            · intro wq hC; go_light; first | (go_simp; first | done | rfl | exact ⟨rfl, rfl⟩) | (have k0 : wq.cell? ⟨wr.heap.size, 0, none⟩ = some (.int .u8 wh) := hC.keep (by go_simp); have k1 : wq.cell? ⟨wr.heap.size, 1, none⟩ = some (.slice A2 ls.length c9) := hC.keep (by go_simp); have k2 : wq.cell? ⟨wr.heap.size, 2, none⟩ = some (.int .i64 y) := hC.keep (by go_simp); go_simp; first | done | rfl | exact ⟨rfl, rfl⟩)
            simp only [Act.put, List.setIfInBounds_toArray, List.set_cons_zero, List.set_cons_succ]
            apply wpQ_do
            · rfl
            · intro wq hC; go_light; first | (go_simp; first | done | rfl | exact ⟨rfl, rfl⟩) | (have k0 : wq.cell? ⟨wr.heap.size, 0, none⟩ = some (.int .u8 wh) := hC.keep (by go_simp); have k1 : wq.cell? ⟨wr.heap.size, 1, none⟩ = some (.slice A2 ls.length c9) := hC.keep (by go_simp); have k2 : wq.cell? ⟨wr.heap.size, 2, none⟩ = some (.int .i64 y) := hC.keep (by go_simp); go_simp; first | done | rfl | exact ⟨rfl, rfl⟩)
            simp only [Act.put, List.setIfInBounds_toArray, List.set_cons_zero, List.set_cons_succ]
            apply wpQ_do
            · rfl
            · intro wq hC; go_light; first | (go_simp; first | done | rfl | exact ⟨rfl, rfl⟩) | (have k0 : wq.cell? ⟨wr.heap.size, 0, none⟩ = some (.int .u8 wh) := hC.keep (by go_simp); have k1 : wq.cell? ⟨wr.heap.size, 1, none⟩ = some (.slice A2 ls.length c9) := hC.keep (by go_simp); have k2 : wq.cell? ⟨wr.heap.size, 2, none⟩ = some (.int .i64 y) := hC.keep (by go_simp); go_simp; first | done | rfl | exact ⟨rfl, rfl⟩)
            simp only [Act.put, List.setIfInBounds_toArray, List.set_cons_zero, List.set_cons_succ]
            apply wpQ_do
            · rfl
            · intro wq hC; go_light; go_simp; refine Calls.mono (begins_true _ ((HU.out.below S12.out).below hC) (Eq.mp (congrArg (fun l => BAt _ _ l) HDR.out) (HV9.out _ _ (RN.out.below hC))) (by rw [List.length_take]; omega) (by rw [List.length_take, Nat.min_eq_left hj])) ?_; rintro eq wq2 ⟨rfl, hbq⟩; exact ⟨rfl, hC.step hbq⟩
            simp only [Act.put, List.setIfInBounds_toArray, List.set_cons_zero, List.set_cons_succ]
            apply wpQ_do
            · rfl
            · intro wq hC; go_light; first | (go_simp; first | done | rfl | exact ⟨rfl, rfl⟩) | (have k0 : wq.cell? ⟨wr.heap.size, 0, none⟩ = some (.int .u8 wh) := hC.keep (by go_simp); have k1 : wq.cell? ⟨wr.heap.size, 1, none⟩ = some (.slice A2 ls.length c9) := hC.keep (by go_simp); have k2 : wq.cell? ⟨wr.heap.size, 2, none⟩ = some (.int .i64 y) := hC.keep (by go_simp); go_simp; first | done | rfl | exact ⟨rfl, rfl⟩)
            simp only [Act.put, List.setIfInBounds_toArray, List.set_cons_zero, List.set_cons_succ]
            apply wpQ_do
            · rfl
            · intro wq hC; go_light; first | (go_simp; first | done | rfl | exact ⟨rfl, rfl⟩) | (have k0 : wq.cell? ⟨wr.heap.size, 0, none⟩ = some (.int .u8 wh) := hC.keep (by go_simp); have k1 : wq.cell? ⟨wr.heap.size, 1, none⟩ = some (.slice A2 ls.length c9) := hC.keep (by go_simp); have k2 : wq.cell? ⟨wr.heap.size, 2, none⟩ = some (.int .i64 y) := hC.keep (by go_simp); go_simp; first | done | rfl | exact ⟨rfl, rfl⟩)
            simp only [Act.put, List.setIfInBounds_toArray, List.set_cons_zero, List.set_cons_succ]
            apply wpQ_do
            · rfl
            · intro wq hC; go_light; first | (go_simp; first | done | rfl | exact ⟨rfl, rfl⟩) | (have k0 : wq.cell? ⟨wr.heap.size, 0, none⟩ = some (.int .u8 wh) := hC.keep (by go_simp); have k1 : wq.cell? ⟨wr.heap.size, 1, none⟩ = some (.slice A2 ls.length c9) := hC.keep (by go_simp); have k2 : wq.cell? ⟨wr.heap.size, 2, none⟩ = some (.int .i64 y) := hC.keep (by go_simp); go_simp; first | done | rfl | exact ⟨rfl, rfl⟩)
            simp only [Act.put, List.setIfInBounds_toArray, List.set_cons_zero, List.set_cons_succ]
            apply wpQ_do
            · rfl
            · intro wq hC; go_light; first | (go_simp; first | done | rfl | exact ⟨rfl, rfl⟩) | (have k0 : wq.cell? ⟨wr.heap.size, 0, none⟩ = some (.int .u8 wh) := hC.keep (by go_simp); have k1 : wq.cell? ⟨wr.heap.size, 1, none⟩ = some (.slice A2 ls.length c9) := hC.keep (by go_simp); have k2 : wq.cell? ⟨wr.heap.size, 2, none⟩ = some (.int .i64 y) := hC.keep (by go_simp); go_simp; first | done | rfl | exact ⟨rfl, rfl⟩)
            simp only [Act.put, List.setIfInBounds_toArray, List.set_cons_zero, List.set_cons_succ]
            apply wpQ_do
            · rfl
            · intro wq hC; go_light; first | (go_simp; first | done | rfl | exact ⟨rfl, rfl⟩) | (have k0 : wq.cell? ⟨wr.heap.size, 0, none⟩ = some (.int .u8 wh) := hC.keep (by go_simp); have k1 : wq.cell? ⟨wr.heap.size, 1, none⟩ = some (.slice A2 ls.length c9) := hC.keep (by go_simp); have k2 : wq.cell? ⟨wr.heap.size, 2, none⟩ = some (.int .i64 y) := hC.keep (by go_simp); go_simp; first | done | rfl | exact ⟨rfl, rfl⟩)
            simp only [Act.put, List.setIfInBounds_toArray, List.set_cons_zero, List.set_cons_succ]
            apply wpQ_do
            · rfl
            · intro wq hC; go_light; first | (go_simp; first | done | rfl | exact ⟨rfl, rfl⟩) | (have k0 : wq.cell? ⟨wr.heap.size, 0, none⟩ = some (.int .u8 wh) := hC.keep (by go_simp); have k1 : wq.cell? ⟨wr.heap.size, 1, none⟩ = some (.slice A2 ls.length c9) := hC.keep (by go_simp); have k2 : wq.cell? ⟨wr.heap.size, 2, none⟩ = some (.int .i64 y) := hC.keep (by go_simp); go_simp; first | done | rfl | exact ⟨rfl, rfl⟩)
            simp only [Act.put, List.setIfInBounds_toArray, List.set_cons_zero, List.set_cons_succ]
            apply wpQ_do
            · rfl
            · intro wq hC; go_light; first | (go_simp; first | done | rfl | exact ⟨rfl, rfl⟩) | (have k0 : wq.cell? ⟨wr.heap.size, 0, none⟩ = some (.int .u8 wh) := hC.keep (by go_simp); have k1 : wq.cell? ⟨wr.heap.size, 1, none⟩ = some (.slice A2 ls.length c9) := hC.keep (by go_simp); have k2 : wq.cell? ⟨wr.heap.size, 2, none⟩ = some (.int .i64 y) := hC.keep (by go_simp); go_simp; first | done | rfl | exact ⟨rfl, rfl⟩)
            simp only [Act.put, List.setIfInBounds_toArray, List.set_cons_zero, List.set_cons_succ]
            apply wpQ_do
            · rfl
            · intro wq hC; go_light; first | (go_simp; first | done | rfl | exact ⟨rfl, rfl⟩) | (have k0 : wq.cell? ⟨wr.heap.size, 0, none⟩ = some (.int .u8 wh) := hC.keep (by go_simp); have k1 : wq.cell? ⟨wr.heap.size, 1, none⟩ = some (.slice A2 ls.length c9) := hC.keep (by go_simp); have k2 : wq.cell? ⟨wr.heap.size, 2, none⟩ = some (.int .i64 y) := hC.keep (by go_simp); go_simp; first | done | rfl | exact ⟨rfl, rfl⟩)
            simp only [Act.put, List.setIfInBounds_toArray, List.set_cons_zero, List.set_cons_succ]
            apply wpQ_do
            · rfl
            · intro wq hC; go_light; first | (go_simp; first | done | rfl | exact ⟨rfl, rfl⟩) | (have k0 : wq.cell? ⟨wr.heap.size, 0, none⟩ = some (.int .u8 wh) := hC.keep (by go_simp); have k1 : wq.cell? ⟨wr.heap.size, 1, none⟩ = some (.slice A2 ls.length c9) := hC.keep (by go_simp); have k2 : wq.cell? ⟨wr.heap.size, 2, none⟩ = some (.int .i64 y) := hC.keep (by go_simp); go_simp; first | done | rfl | exact ⟨rfl, rfl⟩)
            simp only [Act.put, List.setIfInBounds_toArray, List.set_cons_zero, List.set_cons_succ]
            apply wpQ_do
            · rfl
            · intro wq hC; go_light; first | (go_simp; first | done | rfl | exact ⟨rfl, rfl⟩) | (have k0 : wq.cell? ⟨wr.heap.size, 0, none⟩ = some (.int .u8 wh) := hC.keep (by go_simp); have k1 : wq.cell? ⟨wr.heap.size, 1, none⟩ = some (.slice A2 ls.length c9) := hC.keep (by go_simp); have k2 : wq.cell? ⟨wr.heap.size, 2, none⟩ = some (.int .i64 y) := hC.keep (by go_simp); go_simp; first | done | rfl | exact ⟨rfl, rfl⟩)
            simp only [Act.put, List.setIfInBounds_toArray, List.set_cons_zero, List.set_cons_succ]
            apply wpQ_do
            · rfl
            · intro wq hC; go_light; first | (go_simp; first | done | rfl | exact ⟨rfl, rfl⟩) | (have k0 : wq.cell? ⟨wr.heap.size, 0, none⟩ = some (.int .u8 wh) := hC.keep (by go_simp); have k1 : wq.cell? ⟨wr.heap.size, 1, none⟩ = some (.slice A2 ls.length c9) := hC.keep (by go_simp); have k2 : wq.cell? ⟨wr.heap.size, 2, none⟩ = some (.int .i64 y) := hC.keep (by go_simp); go_simp; first | done | rfl | exact ⟨rfl, rfl⟩)
            simp only [Act.put, List.setIfInBounds_toArray, List.set_cons_zero, List.set_cons_succ]
            apply wpQ_do
            · rfl
            · intro wq hC; go_light; first | (go_simp; first | done | rfl | exact ⟨rfl, rfl⟩) | (have k0 : wq.cell? ⟨wr.heap.size, 0, none⟩ = some (.int .u8 wh) := hC.keep (by go_simp); have k1 : wq.cell? ⟨wr.heap.size, 1, none⟩ = some (.slice A2 ls.length c9) := hC.keep (by go_simp); have k2 : wq.cell? ⟨wr.heap.size, 2, none⟩ = some (.int .i64 y) := hC.keep (by go_simp); go_simp; first | done | rfl | exact ⟨rfl, rfl⟩)
            simp only [Act.put, List.setIfInBounds_toArray, List.set_cons_zero, List.set_cons_succ]
            apply wpQ_do
            · rfl
            · intro wq hC; go_light; first | (go_simp; first | done | rfl | exact ⟨rfl, rfl⟩) | (have k0 : wq.cell? ⟨wr.heap.size, 0, none⟩ = some (.int .u8 wh) := hC.keep (by go_simp); have k1 : wq.cell? ⟨wr.heap.size, 1, none⟩ = some (.slice A2 ls.length c9) := hC.keep (by go_simp); have k2 : wq.cell? ⟨wr.heap.size, 2, none⟩ = some (.int .i64 y) := hC.keep (by go_simp); go_simp; first | done | rfl | exact ⟨rfl, rfl⟩)
            simp only [Act.put, List.setIfInBounds_toArray, List.set_cons_zero, List.set_cons_succ]
            apply wpQ_do
            · rfl
            · intro wq hC; go_light; first | (go_simp; first | done | rfl | exact ⟨rfl, rfl⟩) | (have k0 : wq.cell? ⟨wr.heap.size, 0, none⟩ = some (.int .u8 wh) := hC.keep (by go_simp); have k1 : wq.cell? ⟨wr.heap.size, 1, none⟩ = some (.slice A2 ls.length c9) := hC.keep (by go_simp); have k2 : wq.cell? ⟨wr.heap.size, 2, none⟩ = some (.int .i64 y) := hC.keep (by go_simp); go_simp; first | done | rfl | exact ⟨rfl, rfl⟩)
            simp only [Act.put, List.setIfInBounds_toArray, List.set_cons_zero, List.set_cons_succ]
            apply wpQ_do
            · rfl
            · intro wq hC; go_light; first | (go_simp; first | done | rfl | exact ⟨rfl, rfl⟩) | (have k0 : wq.cell? ⟨wr.heap.size, 0, none⟩ = some (.int .u8 wh) := hC.keep (by go_simp); have k1 : wq.cell? ⟨wr.heap.size, 1, none⟩ = some (.slice A2 ls.length c9) := hC.keep (by go_simp); have k2 : wq.cell? ⟨wr.heap.size, 2, none⟩ = some (.int .i64 y) := hC.keep (by go_simp); go_simp; first | done | rfl | exact ⟨rfl, rfl⟩)
            simp only [Act.put, List.setIfInBounds_toArray, List.set_cons_zero, List.set_cons_succ]
            apply wpQ_do
            · rfl
            · intro wq hC; go_light; first | (go_simp; first | done | rfl | exact ⟨rfl, rfl⟩) | (have k0 : wq.cell? ⟨wr.heap.size, 0, none⟩ = some (.int .u8 wh) := hC.keep (by go_simp); have k1 : wq.cell? ⟨wr.heap.size, 1, none⟩ = some (.slice A2 ls.length c9) := hC.keep (by go_simp); have k2 : wq.cell? ⟨wr.heap.size, 2, none⟩ = some (.int .i64 y) := hC.keep (by go_simp); go_simp; first | done | rfl | exact ⟨rfl, rfl⟩)
            simp only [Act.put, List.setIfInBounds_toArray, List.set_cons_zero, List.set_cons_succ]
            apply wpQ_do
            · rfl
            · intro wq hC; go_light; first | (go_simp; first | done | rfl | exact ⟨rfl, rfl⟩) | (have k0 : wq.cell? ⟨wr.heap.size, 0, none⟩ = some (.int .u8 wh) := hC.keep (by go_simp); have k1 : wq.cell? ⟨wr.heap.size, 1, none⟩ = some (.slice A2 ls.length c9) := hC.keep (by go_simp); have k2 : wq.cell? ⟨wr.heap.size, 2, none⟩ = some (.int .i64 y) := hC.keep (by go_simp); go_simp; first | done | rfl | exact ⟨rfl, rfl⟩)
            simp only [Act.put, List.setIfInBounds_toArray, List.set_cons_zero, List.set_cons_succ]
            apply wpQ_do
            · rfl
            · intro wq hC; go_light; first | (go_simp; first | done | rfl | exact ⟨rfl, rfl⟩) | (have k0 : wq.cell? ⟨wr.heap.size, 0, none⟩ = some (.int .u8 wh) := hC.keep (by go_simp); have k1 : wq.cell? ⟨wr.heap.size, 1, none⟩ = some (.slice A2 ls.length c9) := hC.keep (by go_simp); have k2 : wq.cell? ⟨wr.heap.size, 2, none⟩ = some (.int .i64 y) := hC.keep (by go_simp); go_simp; first | done | rfl | exact ⟨rfl, rfl⟩)
            simp only [Act.put, List.setIfInBounds_toArray, List.set_cons_zero, List.set_cons_succ]
            apply wpQ_do
            · rfl
            · intro wq hC; go_light; first | (go_simp; first | done | rfl | exact ⟨rfl, rfl⟩) | (have k0 : wq.cell? ⟨wr.heap.size, 0, none⟩ = some (.int .u8 wh) := hC.keep (by go_simp); have k1 : wq.cell? ⟨wr.heap.size, 1, none⟩ = some (.slice A2 ls.length c9) := hC.keep (by go_simp); have k2 : wq.cell? ⟨wr.heap.size, 2, none⟩ = some (.int .i64 y) := hC.keep (by go_simp); go_simp; first | done | rfl | exact ⟨rfl, rfl⟩)
            simp only [Act.put, List.setIfInBounds_toArray, List.set_cons_zero, List.set_cons_succ]
            apply wpQ_do
            · rfl
            · intro wq hC; go_light; first | (go_simp; first | done | rfl | exact ⟨rfl, rfl⟩) | (have k0 : wq.cell? ⟨wr.heap.size, 0, none⟩ = some (.int .u8 wh) := hC.keep (by go_simp); have k1 : wq.cell? ⟨wr.heap.size, 1, none⟩ = some (.slice A2 ls.length c9) := hC.keep (by go_simp); have k2 : wq.cell? ⟨wr.heap.size, 2, none⟩ = some (.int .i64 y) := hC.keep (by go_simp); go_simp; first | done | rfl | exact ⟨rfl, rfl⟩)
            simp only [Act.put, List.setIfInBounds_toArray, List.set_cons_zero, List.set_cons_succ]
            apply wpQ_do
            · rfl
            · intro wq hC; go_light; first | (go_simp; first | done | rfl | exact ⟨rfl, rfl⟩) | (have k0 : wq.cell? ⟨wr.heap.size, 0, none⟩ = some (.int .u8 wh) := hC.keep (by go_simp); have k1 : wq.cell? ⟨wr.heap.size, 1, none⟩ = some (.slice A2 ls.length c9) := hC.keep (by go_simp); have k2 : wq.cell? ⟨wr.heap.size, 2, none⟩ = some (.int .i64 y) := hC.keep (by go_simp); go_simp; first | done | rfl | exact ⟨rfl, rfl⟩)
            simp only [Act.put, List.setIfInBounds_toArray, List.set_cons_zero, List.set_cons_succ]
            apply wpQ_do
            · rfl
            · intro wq hC; go_light; first | (go_simp; first | done | rfl | exact ⟨rfl, rfl⟩) | (have k0 : wq.cell? ⟨wr.heap.size, 0, none⟩ = some (.int .u8 wh) := hC.keep (by go_simp); have k1 : wq.cell? ⟨wr.heap.size, 1, none⟩ = some (.slice A2 ls.length c9) := hC.keep (by go_simp); have k2 : wq.cell? ⟨wr.heap.size, 2, none⟩ = some (.int .i64 y) := hC.keep (by go_simp); go_simp; first | done | rfl | exact ⟨rfl, rfl⟩)
            simp only [Act.put, List.setIfInBounds_toArray, List.set_cons_zero, List.set_cons_succ]
            apply wpQ_nil
            intro w13 hb13
            have hb13 : Below _ _ _ := hb13
            have S13 := Lib.hid (bstep S12.out hb13)
            have D13 := Lib.hid (D12.out.below hb13)
            have c13_0 : w13.cell? ⟨wr.heap.size, 0, none⟩ = some (.int .u8 wh) := keep hb13 (by go_simp)
            have c13_1 : w13.cell? ⟨wr.heap.size, 1, none⟩ = some (.slice A2 ls.length c9) := keep hb13 (by go_simp)
            have c13_2 : w13.cell? ⟨wr.heap.size, 2, none⟩ = some (.int .i64 y) := keep hb13 (by go_simp)
            clear c12_0 c12_1 c12_2
            go_wp2_with fail
            go_roundw
            case rel => exact ⟨k + 1, v6, d2, by omega, by go_num, D13.out, S13.out, by rw [HRM.out]; exact HRO.out⟩
            case measure => (try simp [intOf]) <;> omega
        · obtain ⟨hb2, hrm, hsf⟩ : d2.b = d.b ∧ d2.room = d.room ∧ d.safe ≤ d2.safe := by
            have hEe : d.sync = (d2, r) := by have := hE.out; simpa [Dsk.doOp, h5] using this
            have := sync_keeps d hdS
            rw [hEe] at this
            exact this
          have e8 : decide ((d2.safe : Int) < (d.safe : Int)) = false := by simp; omega
          have hle : d.safe ≤ d2.safe := by omega
          have HB2 := Lib.hid hb2; have HRM := Lib.hid hrm; have HSF := Lib.hid hsf; have HRO := Lib.hid hroom
          clear hb2 hrm hsf hroom
          go_wp2_with fail
          with_reducible refine Calls.mono (bytesE (ls := d.b) _ (HD.out.below (by repeat (first | exact Below.refl _ _ | refine balloc ?_ _ | refine bdrew ?_))) rfl) ?_
          rintro e4 w4 ⟨v4, rfl, hv4, hb4⟩
          have O4 := Lib.hid hv4
          clear hv4
          have S4 := Lib.hid (bstep HS.out (bstep (by repeat (first | exact Below.refl _ _ | refine balloc ?_ _ | refine bdrew ?_)) hb4))
          have D4 := Lib.hid (HD.out.below (bstep (by repeat (first | exact Below.refl _ _ | refine balloc ?_ _ | refine bdrew ?_)) hb4))
          have c4_0 : w4.cell? ⟨wr.heap.size, 0, none⟩ = some (.int .u8 wh) := keep hb4 (by go_simp)
          have c4_1 : w4.cell? ⟨wr.heap.size, 1, none⟩ = some (.slice A2 ls.length c9) := keep hb4 (by go_simp)
          have c4_2 : w4.cell? ⟨wr.heap.size, 2, none⟩ = some (.int .i64 y) := keep hb4 (by go_simp)
          have hO4 := fun (k : Nat) (hk : v4.ownBlock = some k) => (O4.out.lt k hk).1
          have RW := Lib.hid (BAt.of_own O4.out)
          have hAP : d.b ≠ [] → Apart w.heap.size v v4 := fun _ k hk => ⟨by have := hO4 k hk; have := HB0.out; (try simp at *); omega, fun e => by have := hO4 k hk; have := HV0.out _ e.symm; (try simp at *); omega⟩
          obtain ⟨Aw, cw, rfl⟩ := len_of_own O4.out
          have hcw := own_cap O4.out
          clear O4 hO4
          go_wp2_with fail
          with_reducible refine Calls.mono (safeE (r := (d.safe : Int)) _ (D4.out.below (by repeat (first | exact Below.refl _ _ | refine balloc ?_ _ | refine bdrew ?_))) rfl) ?_
          rintro e5 w5 ⟨rfl, hb5⟩
          have S5 := Lib.hid (bstep S4.out (bstep (by repeat (first | exact Below.refl _ _ | refine balloc ?_ _ | refine bdrew ?_)) hb5))
          have D5 := Lib.hid (D4.out.below (bstep (by repeat (first | exact Below.refl _ _ | refine balloc ?_ _ | refine bdrew ?_)) hb5))
          have c5_0 : w5.cell? ⟨wr.heap.size, 0, none⟩ = some (.int .u8 wh) := keep hb5 (by go_simp)
          have c5_1 : w5.cell? ⟨wr.heap.size, 1, none⟩ = some (.slice A2 ls.length c9) := keep hb5 (by go_simp)
          have c5_2 : w5.cell? ⟨wr.heap.size, 2, none⟩ = some (.int .i64 y) := keep hb5 (by go_simp)
          clear c4_0 c4_1 c4_2
          have RW := Lib.hid (RW.out.below (bstep (by repeat (first | exact Below.refl _ _ | refine balloc ?_ _ | refine bdrew ?_)) hb5))
          go_wp2_with fail
          with_reducible refine Calls.mono (doOpE _ D5.out (HU.out.below S5.out) (fun h0 => D5.out.apart_in (Nat.le_refl _) HU.out h0) hw0 hy0.2 hE.out) ?_
          rintro e6 w6 ⟨v6, rfl, hd6, hs6⟩
          have S6 := Lib.hid (DS.toBelow D5.out (Nat.le_refl _) S5.out hs6)
          have c6_0 : w6.cell? ⟨wr.heap.size, 0, none⟩ = some (.int .u8 wh) := hs6.cell (by go_simp) (by have := HB0.out; omega) (fun e => by have := HV0.out _ e.symm; omega)
          have c6_1 : w6.cell? ⟨wr.heap.size, 1, none⟩ = some (.slice A2 ls.length c9) := hs6.cell (by go_simp) (by have := HB0.out; omega) (fun e => by have := HV0.out _ e.symm; omega)
          have c6_2 : w6.cell? ⟨wr.heap.size, 2, none⟩ = some (.int .i64 y) := hs6.cell (by go_simp) (by have := HB0.out; omega) (fun e => by have := HV0.out _ e.symm; omega)
          have RW := Lib.hid (RW.out.step hs6 hAP)
          have D6 := Lib.hid hd6
          clear hd6 hs6 hAP
          clear c5_0 c5_1 c5_2
          go_wp2_with fail
          with_reducible refine Calls.mono (bytesE (ls := d2.b) _ (D6.out.below (by repeat (first | exact Below.refl _ _ | refine balloc ?_ _ | refine bdrew ?_))) rfl) ?_
          rintro e7 w7 ⟨v7, rfl, hv7, hb7⟩
          have O7 := Lib.hid hv7
          clear hv7
          have S7 := Lib.hid (bstep S6.out (bstep (by repeat (first | exact Below.refl _ _ | refine balloc ?_ _ | refine bdrew ?_)) hb7))
          have D7 := Lib.hid (D6.out.below (bstep (by repeat (first | exact Below.refl _ _ | refine balloc ?_ _ | refine bdrew ?_)) hb7))
          have c7_0 : w7.cell? ⟨wr.heap.size, 0, none⟩ = some (.int .u8 wh) := keep hb7 (by go_simp)
          have c7_1 : w7.cell? ⟨wr.heap.size, 1, none⟩ = some (.slice A2 ls.length c9) := keep hb7 (by go_simp)
          have c7_2 : w7.cell? ⟨wr.heap.size, 2, none⟩ = some (.int .i64 y) := keep hb7 (by go_simp)
          clear c6_0 c6_1 c6_2
          have RW := Lib.hid (RW.out.below (bstep (by repeat (first | exact Below.refl _ _ | refine balloc ?_ _ | refine bdrew ?_)) hb7))
          have RN := Lib.hid (BAt.of_own O7.out)
          have hds := D7.out.hs
          have hdr := D7.out.hr
          have eB : decide ((d2.b.length : Int) < (d2.safe : Int)) = false := by simp; omega
          have eC : decide ((d2.room : Int) < (d2.b.length : Int)) = false := by simp; omega
          obtain ⟨An, cn, rfl⟩ := len_of_own O7.out
          have hcn := own_cap O7.out
          clear O7
          go_wp2_with fail
          with_reducible refine Calls.mono (safeE (r := (d2.safe : Int)) _ (D7.out.below (by repeat (first | exact Below.refl _ _ | refine balloc ?_ _ | refine bdrew ?_))) rfl) ?_
          rintro e8 w8 ⟨rfl, hb8⟩
          have S8 := Lib.hid (bstep S7.out (bstep (by repeat (first | exact Below.refl _ _ | refine balloc ?_ _ | refine bdrew ?_)) hb8))
          have D8 := Lib.hid (D7.out.below (bstep (by repeat (first | exact Below.refl _ _ | refine balloc ?_ _ | refine bdrew ?_)) hb8))
          have c8_0 : w8.cell? ⟨wr.heap.size, 0, none⟩ = some (.int .u8 wh) := keep hb8 (by go_simp)
          have c8_1 : w8.cell? ⟨wr.heap.size, 1, none⟩ = some (.slice A2 ls.length c9) := keep hb8 (by go_simp)
          have c8_2 : w8.cell? ⟨wr.heap.size, 2, none⟩ = some (.int .i64 y) := keep hb8 (by go_simp)
          clear c7_0 c7_1 c7_2
          have RW := Lib.hid (RW.out.below (bstep (by repeat (first | exact Below.refl _ _ | refine balloc ?_ _ | refine bdrew ?_)) hb8))
          have RN := Lib.hid (RN.out.below (bstep (by repeat (first | exact Below.refl _ _ | refine balloc ?_ _ | refine bdrew ?_)) hb8))
          go_wp2_with fail
          with_reducible refine Calls.mono (lenE (r := (d2.b.length : Int)) _ (D8.out.below (by repeat (first | exact Below.refl _ _ | refine balloc ?_ _ | refine bdrew ?_))) rfl) ?_
          rintro e9 w9 ⟨rfl, hb9⟩
          have S9 := Lib.hid (bstep S8.out (bstep (by repeat (first | exact Below.refl _ _ | refine balloc ?_ _ | refine bdrew ?_)) hb9))
          have D9 := Lib.hid (D8.out.below (bstep (by repeat (first | exact Below.refl _ _ | refine balloc ?_ _ | refine bdrew ?_)) hb9))
          have c9_0 : w9.cell? ⟨wr.heap.size, 0, none⟩ = some (.int .u8 wh) := keep hb9 (by go_simp)
          have c9_1 : w9.cell? ⟨wr.heap.size, 1, none⟩ = some (.slice A2 ls.length c9) := keep hb9 (by go_simp)
          have c9_2 : w9.cell? ⟨wr.heap.size, 2, none⟩ = some (.int .i64 y) := keep hb9 (by go_simp)
          clear c8_0 c8_1 c8_2
          have RW := Lib.hid (RW.out.below (bstep (by repeat (first | exact Below.refl _ _ | refine balloc ?_ _ | refine bdrew ?_)) hb9))
          have RN := Lib.hid (RN.out.below (bstep (by repeat (first | exact Below.refl _ _ | refine balloc ?_ _ | refine bdrew ?_)) hb9))
          go_wp2_with fail
          with_reducible refine Calls.mono (roomE (r := (d2.room : Int)) _ (D9.out.below (by repeat (first | exact Below.refl _ _ | refine balloc ?_ _ | refine bdrew ?_))) rfl) ?_
          rintro e10 w10 ⟨rfl, hb10⟩
          have S10 := Lib.hid (bstep S9.out (bstep (by repeat (first | exact Below.refl _ _ | refine balloc ?_ _ | refine bdrew ?_)) hb10))
          have D10 := Lib.hid (D9.out.below (bstep (by repeat (first | exact Below.refl _ _ | refine balloc ?_ _ | refine bdrew ?_)) hb10))
          have c10_0 : w10.cell? ⟨wr.heap.size, 0, none⟩ = some (.int .u8 wh) := keep hb10 (by go_simp)
          have c10_1 : w10.cell? ⟨wr.heap.size, 1, none⟩ = some (.slice A2 ls.length c9) := keep hb10 (by go_simp)
          have c10_2 : w10.cell? ⟨wr.heap.size, 2, none⟩ = some (.int .i64 y) := keep hb10 (by go_simp)
          clear c9_0 c9_1 c9_2
          have RW := Lib.hid (RW.out.below (bstep (by repeat (first | exact Below.refl _ _ | refine balloc ?_ _ | refine bdrew ?_)) hb10))
          have RN := Lib.hid (RN.out.below (bstep (by repeat (first | exact Below.refl _ _ | refine balloc ?_ _ | refine bdrew ?_)) hb10))
          go_wp2_with fail
          with_reducible refine Calls.mono (safeE (r := (d2.safe : Int)) _ (D10.out.below (by repeat (first | exact Below.refl _ _ | refine balloc ?_ _ | refine bdrew ?_))) rfl) ?_
          rintro e11 w11 ⟨rfl, hb11⟩
          have S11 := Lib.hid (bstep S10.out (bstep (by repeat (first | exact Below.refl _ _ | refine balloc ?_ _ | refine bdrew ?_)) hb11))
          have D11 := Lib.hid (D10.out.below (bstep (by repeat (first | exact Below.refl _ _ | refine balloc ?_ _ | refine bdrew ?_)) hb11))
          have c11_0 : w11.cell? ⟨wr.heap.size, 0, none⟩ = some (.int .u8 wh) := keep hb11 (by go_simp)
          have c11_1 : w11.cell? ⟨wr.heap.size, 1, none⟩ = some (.slice A2 ls.length c9) := keep hb11 (by go_simp)
          have c11_2 : w11.cell? ⟨wr.heap.size, 2, none⟩ = some (.int .i64 y) := keep hb11 (by go_simp)
          clear c10_0 c10_1 c10_2
          have RW := Lib.hid (RW.out.below (bstep (by repeat (first | exact Below.refl _ _ | refine balloc ?_ _ | refine bdrew ?_)) hb11))
          have RN := Lib.hid (RN.out.below (bstep (by repeat (first | exact Below.refl _ _ | refine balloc ?_ _ | refine bdrew ?_)) hb11))
          go_wp2_with fail
          with_reducible refine Calls.mono (begins_true _ RN.out (take_bat RW.out (by omega)) (by rw [List.length_take, HB2.out]; omega) (by rw [HB2.out, List.length_take, Nat.min_eq_left (by omega)])) ?_
          rintro e12 w12 ⟨rfl, hb12⟩
          have S12 := Lib.hid (bstep S11.out (bstep (by repeat (first | exact Below.refl _ _ | refine balloc ?_ _ | refine bdrew ?_)) hb12))
          have D12 := Lib.hid (D11.out.below (bstep (by repeat (first | exact Below.refl _ _ | refine balloc ?_ _ | refine bdrew ?_)) hb12))
          have c12_0 : w12.cell? ⟨wr.heap.size, 0, none⟩ = some (.int .u8 wh) := keep hb12 (by go_simp)
          have c12_1 : w12.cell? ⟨wr.heap.size, 1, none⟩ = some (.slice A2 ls.length c9) := keep hb12 (by go_simp)
          have c12_2 : w12.cell? ⟨wr.heap.size, 2, none⟩ = some (.int .i64 y) := keep hb12 (by go_simp)
          clear c11_0 c11_1 c11_2
          have RW := Lib.hid (RW.out.below (bstep (by repeat (first | exact Below.refl _ _ | refine balloc ?_ _ | refine bdrew ?_)) hb12))
          have RN := Lib.hid (RN.out.below (bstep (by repeat (first | exact Below.refl _ _ | refine balloc ?_ _ | refine bdrew ?_)) hb12))
          go_wp2_with fail
          with_reducible refine Calls.mono (same_true _ RW.out (Eq.mp (congrArg (fun l => BAt _ _ l) HB2.out) RN.out)) ?_
          rintro e13 w13 ⟨rfl, hb13⟩
          have S13 := Lib.hid (bstep S12.out (bstep (by repeat (first | exact Below.refl _ _ | refine balloc ?_ _ | refine bdrew ?_)) hb13))
          have D13 := Lib.hid (D12.out.below (bstep (by repeat (first | exact Below.refl _ _ | refine balloc ?_ _ | refine bdrew ?_)) hb13))
          have c13_0 : w13.cell? ⟨wr.heap.size, 0, none⟩ = some (.int .u8 wh) := keep hb13 (by go_simp)
          have c13_1 : w13.cell? ⟨wr.heap.size, 1, none⟩ = some (.slice A2 ls.length c9) := keep hb13 (by go_simp)
          have c13_2 : w13.cell? ⟨wr.heap.size, 2, none⟩ = some (.int .i64 y) := keep hb13 (by go_simp)
          clear c12_0 c12_1 c12_2
          go_wp2_with fail
          go_roundw
          case rel => exact ⟨k + 1, v6, d2, by omega, by go_num, D13.out, S13.out, by rw [HRM.out]; exact HRO.out⟩
          case measure => (try simp [intOf]) <;> omega
        · have hEe : d.cut y = (d2, r) := by have := hE.out; simpa [Dsk.doOp, h5] using this
          rcases cut_keeps d y with ⟨hr0, hy1, hy2, hb2, hrm⟩ | ⟨hr0, hb2, hrm, hsf⟩
          · rw [hEe] at hr0 hb2 hrm
            simp only at hr0 hb2 hrm
            subst hr0
            have hl2 : (d2.b.length : Int) = y := by rw [hb2, List.length_take]; omega
            have eY : ((d2.b.length : Int) != y) = false := by simp [hl2]
            have HB2 := Lib.hid hb2; have HRM := Lib.hid hrm; have HRO := Lib.hid hroom
            have HL2 := Lib.hid hl2
            clear hb2 hrm hl2 hroom
            go_wp2_with fail
            with_reducible refine Calls.mono (bytesE (ls := d.b) _ (HD.out.below (by repeat (first | exact Below.refl _ _ | refine balloc ?_ _ | refine bdrew ?_))) rfl) ?_
            rintro e4 w4 ⟨v4, rfl, hv4, hb4⟩
            have O4 := Lib.hid hv4
            clear hv4
            have S4 := Lib.hid (bstep HS.out (bstep (by repeat (first | exact Below.refl _ _ | refine balloc ?_ _ | refine bdrew ?_)) hb4))
            have D4 := Lib.hid (HD.out.below (bstep (by repeat (first | exact Below.refl _ _ | refine balloc ?_ _ | refine bdrew ?_)) hb4))
            have c4_0 : w4.cell? ⟨wr.heap.size, 0, none⟩ = some (.int .u8 wh) := keep hb4 (by go_simp)
            have c4_1 : w4.cell? ⟨wr.heap.size, 1, none⟩ = some (.slice A2 ls.length c9) := keep hb4 (by go_simp)
            have c4_2 : w4.cell? ⟨wr.heap.size, 2, none⟩ = some (.int .i64 y) := keep hb4 (by go_simp)
            have hO4 := fun (k : Nat) (hk : v4.ownBlock = some k) => (O4.out.lt k hk).1
            have RW := Lib.hid (BAt.of_own O4.out)
            have hAP : d.b ≠ [] → Apart w.heap.size v v4 := fun _ k hk => ⟨by have := hO4 k hk; have := HB0.out; (try simp at *); omega, fun e => by have := hO4 k hk; have := HV0.out _ e.symm; (try simp at *); omega⟩
            obtain ⟨Aw, cw, rfl⟩ := len_of_own O4.out
            have hcw := own_cap O4.out
            clear O4 hO4
            go_wp2_with fail
            with_reducible refine Calls.mono (safeE (r := (d.safe : Int)) _ (D4.out.below (by repeat (first | exact Below.refl _ _ | refine balloc ?_ _ | refine bdrew ?_))) rfl) ?_
            rintro e5 w5 ⟨rfl, hb5⟩
            have S5 := Lib.hid (bstep S4.out (bstep (by repeat (first | exact Below.refl _ _ | refine balloc ?_ _ | refine bdrew ?_)) hb5))
            have D5 := Lib.hid (D4.out.below (bstep (by repeat (first | exact Below.refl _ _ | refine balloc ?_ _ | refine bdrew ?_)) hb5))
            have c5_0 : w5.cell? ⟨wr.heap.size, 0, none⟩ = some (.int .u8 wh) := keep hb5 (by go_simp)
            have c5_1 : w5.cell? ⟨wr.heap.size, 1, none⟩ = some (.slice A2 ls.length c9) := keep hb5 (by go_simp)
            have c5_2 : w5.cell? ⟨wr.heap.size, 2, none⟩ = some (.int .i64 y) := keep hb5 (by go_simp)
            clear c4_0 c4_1 c4_2
            have RW := Lib.hid (RW.out.below (bstep (by repeat (first | exact Below.refl _ _ | refine balloc ?_ _ | refine bdrew ?_)) hb5))
            go_wp2_with fail
            with_reducible refine Calls.mono (doOpE _ D5.out (HU.out.below S5.out) (fun h0 => D5.out.apart_in (Nat.le_refl _) HU.out h0) hw0 hy0.2 hE.out) ?_
            rintro e6 w6 ⟨v6, rfl, hd6, hs6⟩
            have S6 := Lib.hid (DS.toBelow D5.out (Nat.le_refl _) S5.out hs6)
            have c6_0 : w6.cell? ⟨wr.heap.size, 0, none⟩ = some (.int .u8 wh) := hs6.cell (by go_simp) (by have := HB0.out; omega) (fun e => by have := HV0.out _ e.symm; omega)
            have c6_1 : w6.cell? ⟨wr.heap.size, 1, none⟩ = some (.slice A2 ls.length c9) := hs6.cell (by go_simp) (by have := HB0.out; omega) (fun e => by have := HV0.out _ e.symm; omega)
            have c6_2 : w6.cell? ⟨wr.heap.size, 2, none⟩ = some (.int .i64 y) := hs6.cell (by go_simp) (by have := HB0.out; omega) (fun e => by have := HV0.out _ e.symm; omega)
            have RW := Lib.hid (RW.out.step hs6 hAP)
            have D6 := Lib.hid hd6
            clear hd6 hs6 hAP
            clear c5_0 c5_1 c5_2
            go_wp2_with fail
            with_reducible refine Calls.mono (bytesE (ls := d2.b) _ (D6.out.below (by repeat (first | exact Below.refl _ _ | refine balloc ?_ _ | refine bdrew ?_))) rfl) ?_
            rintro e7 w7 ⟨v7, rfl, hv7, hb7⟩
            have O7 := Lib.hid hv7
            clear hv7
            have S7 := Lib.hid (bstep S6.out (bstep (by repeat (first | exact Below.refl _ _ | refine balloc ?_ _ | refine bdrew ?_)) hb7))
            have D7 := Lib.hid (D6.out.below (bstep (by repeat (first | exact Below.refl _ _ | refine balloc ?_ _ | refine bdrew ?_)) hb7))
            have c7_0 : w7.cell? ⟨wr.heap.size, 0, none⟩ = some (.int .u8 wh) := keep hb7 (by go_simp)
            have c7_1 : w7.cell? ⟨wr.heap.size, 1, none⟩ = some (.slice A2 ls.length c9) := keep hb7 (by go_simp)
            have c7_2 : w7.cell? ⟨wr.heap.size, 2, none⟩ = some (.int .i64 y) := keep hb7 (by go_simp)
            clear c6_0 c6_1 c6_2
            have RW := Lib.hid (RW.out.below (bstep (by repeat (first | exact Below.refl _ _ | refine balloc ?_ _ | refine bdrew ?_)) hb7))
            have RN := Lib.hid (BAt.of_own O7.out)
            have hds := D7.out.hs
            have hdr := D7.out.hr
            have eB : decide ((d2.b.length : Int) < (d2.safe : Int)) = false := by simp; omega
            have eC : decide ((d2.room : Int) < (d2.b.length : Int)) = false := by simp; omega
            obtain ⟨An, cn, rfl⟩ := len_of_own O7.out
            have hcn := own_cap O7.out
            clear O7
            go_wp2_with fail
            with_reducible refine Calls.mono (safeE (r := (d2.safe : Int)) _ (D7.out.below (by repeat (first | exact Below.refl _ _ | refine balloc ?_ _ | refine bdrew ?_))) rfl) ?_
            rintro e8 w8 ⟨rfl, hb8⟩
            have S8 := Lib.hid (bstep S7.out (bstep (by repeat (first | exact Below.refl _ _ | refine balloc ?_ _ | refine bdrew ?_)) hb8))
            have D8 := Lib.hid (D7.out.below (bstep (by repeat (first | exact Below.refl _ _ | refine balloc ?_ _ | refine bdrew ?_)) hb8))
            have c8_0 : w8.cell? ⟨wr.heap.size, 0, none⟩ = some (.int .u8 wh) := keep hb8 (by go_simp)
            have c8_1 : w8.cell? ⟨wr.heap.size, 1, none⟩ = some (.slice A2 ls.length c9) := keep hb8 (by go_simp)
            have c8_2 : w8.cell? ⟨wr.heap.size, 2, none⟩ = some (.int .i64 y) := keep hb8 (by go_simp)
            clear c7_0 c7_1 c7_2
            have RW := Lib.hid (RW.out.below (bstep (by repeat (first | exact Below.refl _ _ | refine balloc ?_ _ | refine bdrew ?_)) hb8))
            have RN := Lib.hid (RN.out.below (bstep (by repeat (first | exact Below.refl _ _ | refine balloc ?_ _ | refine bdrew ?_)) hb8))
            go_wp2_with fail
            with_reducible refine Calls.mono (lenE (r := (d2.b.length : Int)) _ (D8.out.below (by repeat (first | exact Below.refl _ _ | refine balloc ?_ _ | refine bdrew ?_))) rfl) ?_
            rintro e9 w9 ⟨rfl, hb9⟩
            have S9 := Lib.hid (bstep S8.out (bstep (by repeat (first | exact Below.refl _ _ | refine balloc ?_ _ | refine bdrew ?_)) hb9))
            have D9 := Lib.hid (D8.out.below (bstep (by repeat (first | exact Below.refl _ _ | refine balloc ?_ _ | refine bdrew ?_)) hb9))
            have c9_0 : w9.cell? ⟨wr.heap.size, 0, none⟩ = some (.int .u8 wh) := keep hb9 (by go_simp)
            have c9_1 : w9.cell? ⟨wr.heap.size, 1, none⟩ = some (.slice A2 ls.length c9) := keep hb9 (by go_simp)
            have c9_2 : w9.cell? ⟨wr.heap.size, 2, none⟩ = some (.int .i64 y) := keep hb9 (by go_simp)
            clear c8_0 c8_1 c8_2
            have RW := Lib.hid (RW.out.below (bstep (by repeat (first | exact Below.refl _ _ | refine balloc ?_ _ | refine bdrew ?_)) hb9))
            have RN := Lib.hid (RN.out.below (bstep (by repeat (first | exact Below.refl _ _ | refine balloc ?_ _ | refine bdrew ?_)) hb9))
            go_wp2_with fail
            with_reducible refine Calls.mono (roomE (r := (d2.room : Int)) _ (D9.out.below (by repeat (first | exact Below.refl _ _ | refine balloc ?_ _ | refine bdrew ?_))) rfl) ?_
            rintro e10 w10 ⟨rfl, hb10⟩
            have S10 := Lib.hid (bstep S9.out (bstep (by repeat (first | exact Below.refl _ _ | refine balloc ?_ _ | refine bdrew ?_)) hb10))
            have D10 := Lib.hid (D9.out.below (bstep (by repeat (first | exact Below.refl _ _ | refine balloc ?_ _ | refine bdrew ?_)) hb10))
            have c10_0 : w10.cell? ⟨wr.heap.size, 0, none⟩ = some (.int .u8 wh) := keep hb10 (by go_simp)
            have c10_1 : w10.cell? ⟨wr.heap.size, 1, none⟩ = some (.slice A2 ls.length c9) := keep hb10 (by go_simp)
            have c10_2 : w10.cell? ⟨wr.heap.size, 2, none⟩ = some (.int .i64 y) := keep hb10 (by go_simp)
            clear c9_0 c9_1 c9_2
            have RW := Lib.hid (RW.out.below (bstep (by repeat (first | exact Below.refl _ _ | refine balloc ?_ _ | refine bdrew ?_)) hb10))
            have RN := Lib.hid (RN.out.below (bstep (by repeat (first | exact Below.refl _ _ | refine balloc ?_ _ | refine bdrew ?_)) hb10))
            go_wp2_with fail
            with_reducible refine Calls.mono (begins_true _ RW.out RN.out (by have := HL2.out; omega) (by rw [show d2.b.length = y.toNat by have := HL2.out; omega]; exact HB2.out.symm)) ?_
            rintro e11 w11 ⟨rfl, hb11⟩
            have S11 := Lib.hid (bstep S10.out (bstep (by repeat (first | exact Below.refl _ _ | refine balloc ?_ _ | refine bdrew ?_)) hb11))
            have D11 := Lib.hid (D10.out.below (bstep (by repeat (first | exact Below.refl _ _ | refine balloc ?_ _ | refine bdrew ?_)) hb11))
            have c11_0 : w11.cell? ⟨wr.heap.size, 0, none⟩ = some (.int .u8 wh) := keep hb11 (by go_simp)
            have c11_1 : w11.cell? ⟨wr.heap.size, 1, none⟩ = some (.slice A2 ls.length c9) := keep hb11 (by go_simp)
            have c11_2 : w11.cell? ⟨wr.heap.size, 2, none⟩ = some (.int .i64 y) := keep hb11 (by go_simp)
            clear c10_0 c10_1 c10_2
            go_wp2_with fail
            go_roundw
            case rel => exact ⟨k + 1, v6, d2, by omega, by go_num, D11.out, S11.out, by rw [HRM.out]; exact HRO.out⟩
            case measure => (try simp [intOf]) <;> omega
          · rw [hEe] at hr0 hb2 hrm hsf
            simp only at hr0 hb2 hrm hsf
            have eR : (r == 0) = false := by simpa using hr0
            have e8 : decide ((d2.safe : Int) < (d.safe : Int)) = false := by simp; omega
            have hle : d.safe ≤ d2.safe := by omega
            have HB2 := Lib.hid hb2; have HRM := Lib.hid hrm; have HSF := Lib.hid hsf; have HRO := Lib.hid hroom
            clear hb2 hrm hsf hroom hr0
            go_wp2_with fail
            with_reducible refine Calls.mono (bytesE (ls := d.b) _ (HD.out.below (by repeat (first | exact Below.refl _ _ | refine balloc ?_ _ | refine bdrew ?_))) rfl) ?_
            rintro e4 w4 ⟨v4, rfl, hv4, hb4⟩
            have O4 := Lib.hid hv4
            clear hv4
            have S4 := Lib.hid (bstep HS.out (bstep (by repeat (first | exact Below.refl _ _ | refine balloc ?_ _ | refine bdrew ?_)) hb4))
            have D4 := Lib.hid (HD.out.below (bstep (by repeat (first | exact Below.refl _ _ | refine balloc ?_ _ | refine bdrew ?_)) hb4))
            have c4_0 : w4.cell? ⟨wr.heap.size, 0, none⟩ = some (.int .u8 wh) := keep hb4 (by go_simp)
            have c4_1 : w4.cell? ⟨wr.heap.size, 1, none⟩ = some (.slice A2 ls.length c9) := keep hb4 (by go_simp)
            have c4_2 : w4.cell? ⟨wr.heap.size, 2, none⟩ = some (.int .i64 y) := keep hb4 (by go_simp)
            have hO4 := fun (k : Nat) (hk : v4.ownBlock = some k) => (O4.out.lt k hk).1
            have RW := Lib.hid (BAt.of_own O4.out)
            have hAP : d.b ≠ [] → Apart w.heap.size v v4 := fun _ k hk => ⟨by have := hO4 k hk; have := HB0.out; (try simp at *); omega, fun e => by have := hO4 k hk; have := HV0.out _ e.symm; (try simp at *); omega⟩
            obtain ⟨Aw, cw, rfl⟩ := len_of_own O4.out
            have hcw := own_cap O4.out
            clear O4 hO4
            go_wp2_with fail
            with_reducible refine Calls.mono (safeE (r := (d.safe : Int)) _ (D4.out.below (by repeat (first | exact Below.refl _ _ | refine balloc ?_ _ | refine bdrew ?_))) rfl) ?_
            rintro e5 w5 ⟨rfl, hb5⟩
            have S5 := Lib.hid (bstep S4.out (bstep (by repeat (first | exact Below.refl _ _ | refine balloc ?_ _ | refine bdrew ?_)) hb5))
            have D5 := Lib.hid (D4.out.below (bstep (by repeat (first | exact Below.refl _ _ | refine balloc ?_ _ | refine bdrew ?_)) hb5))
            have c5_0 : w5.cell? ⟨wr.heap.size, 0, none⟩ = some (.int .u8 wh) := keep hb5 (by go_simp)
            have c5_1 : w5.cell? ⟨wr.heap.size, 1, none⟩ = some (.slice A2 ls.length c9) := keep hb5 (by go_simp)
            have c5_2 : w5.cell? ⟨wr.heap.size, 2, none⟩ = some (.int .i64 y) := keep hb5 (by go_simp)
            clear c4_0 c4_1 c4_2
            have RW := Lib.hid (RW.out.below (bstep (by repeat (first | exact Below.refl _ _ | refine balloc ?_ _ | refine bdrew ?_)) hb5))
            go_wp2_with fail
            with_reducible refine Calls.mono (doOpE _ D5.out (HU.out.below S5.out) (fun h0 => D5.out.apart_in (Nat.le_refl _) HU.out h0) hw0 hy0.2 hE.out) ?_
            rintro e6 w6 ⟨v6, rfl, hd6, hs6⟩
            have S6 := Lib.hid (DS.toBelow D5.out (Nat.le_refl _) S5.out hs6)
            have c6_0 : w6.cell? ⟨wr.heap.size, 0, none⟩ = some (.int .u8 wh) := hs6.cell (by go_simp) (by have := HB0.out; omega) (fun e => by have := HV0.out _ e.symm; omega)
            have c6_1 : w6.cell? ⟨wr.heap.size, 1, none⟩ = some (.slice A2 ls.length c9) := hs6.cell (by go_simp) (by have := HB0.out; omega) (fun e => by have := HV0.out _ e.symm; omega)
            have c6_2 : w6.cell? ⟨wr.heap.size, 2, none⟩ = some (.int .i64 y) := hs6.cell (by go_simp) (by have := HB0.out; omega) (fun e => by have := HV0.out _ e.symm; omega)
            have RW := Lib.hid (RW.out.step hs6 hAP)
            have D6 := Lib.hid hd6
            clear hd6 hs6 hAP
            clear c5_0 c5_1 c5_2
            go_wp2_with fail
            with_reducible refine Calls.mono (bytesE (ls := d2.b) _ (D6.out.below (by repeat (first | exact Below.refl _ _ | refine balloc ?_ _ | refine bdrew ?_))) rfl) ?_
            rintro e7 w7 ⟨v7, rfl, hv7, hb7⟩
            have O7 := Lib.hid hv7
            clear hv7
            have S7 := Lib.hid (bstep S6.out (bstep (by repeat (first | exact Below.refl _ _ | refine balloc ?_ _ | refine bdrew ?_)) hb7))
            have D7 := Lib.hid (D6.out.below (bstep (by repeat (first | exact Below.refl _ _ | refine balloc ?_ _ | refine bdrew ?_)) hb7))
            have c7_0 : w7.cell? ⟨wr.heap.size, 0, none⟩ = some (.int .u8 wh) := keep hb7 (by go_simp)
            have c7_1 : w7.cell? ⟨wr.heap.size, 1, none⟩ = some (.slice A2 ls.length c9) := keep hb7 (by go_simp)
            have c7_2 : w7.cell? ⟨wr.heap.size, 2, none⟩ = some (.int .i64 y) := keep hb7 (by go_simp)
            clear c6_0 c6_1 c6_2
            have RW := Lib.hid (RW.out.below (bstep (by repeat (first | exact Below.refl _ _ | refine balloc ?_ _ | refine bdrew ?_)) hb7))
            have RN := Lib.hid (BAt.of_own O7.out)
            have hds := D7.out.hs
            have hdr := D7.out.hr
            have eB : decide ((d2.b.length : Int) < (d2.safe : Int)) = false := by simp; omega
            have eC : decide ((d2.room : Int) < (d2.b.length : Int)) = false := by simp; omega
            obtain ⟨An, cn, rfl⟩ := len_of_own O7.out
            have hcn := own_cap O7.out
            clear O7
            go_wp2_with fail
            with_reducible refine Calls.mono (safeE (r := (d2.safe : Int)) _ (D7.out.below (by repeat (first | exact Below.refl _ _ | refine balloc ?_ _ | refine bdrew ?_))) rfl) ?_
            rintro e8 w8 ⟨rfl, hb8⟩
            have S8 := Lib.hid (bstep S7.out (bstep (by repeat (first | exact Below.refl _ _ | refine balloc ?_ _ | refine bdrew ?_)) hb8))
            have D8 := Lib.hid (D7.out.below (bstep (by repeat (first | exact Below.refl _ _ | refine balloc ?_ _ | refine bdrew ?_)) hb8))
            have c8_0 : w8.cell? ⟨wr.heap.size, 0, none⟩ = some (.int .u8 wh) := keep hb8 (by go_simp)
            have c8_1 : w8.cell? ⟨wr.heap.size, 1, none⟩ = some (.slice A2 ls.length c9) := keep hb8 (by go_simp)
            have c8_2 : w8.cell? ⟨wr.heap.size, 2, none⟩ = some (.int .i64 y) := keep hb8 (by go_simp)
            clear c7_0 c7_1 c7_2
            have RW := Lib.hid (RW.out.below (bstep (by repeat (first | exact Below.refl _ _ | refine balloc ?_ _ | refine bdrew ?_)) hb8))
            have RN := Lib.hid (RN.out.below (bstep (by repeat (first | exact Below.refl _ _ | refine balloc ?_ _ | refine bdrew ?_)) hb8))
            go_wp2_with fail
            with_reducible refine Calls.mono (lenE (r := (d2.b.length : Int)) _ (D8.out.below (by repeat (first | exact Below.refl _ _ | refine balloc ?_ _ | refine bdrew ?_))) rfl) ?_
            rintro e9 w9 ⟨rfl, hb9⟩
            have S9 := Lib.hid (bstep S8.out (bstep (by repeat (first | exact Below.refl _ _ | refine balloc ?_ _ | refine bdrew ?_)) hb9))
            have D9 := Lib.hid (D8.out.below (bstep (by repeat (first | exact Below.refl _ _ | refine balloc ?_ _ | refine bdrew ?_)) hb9))
            have c9_0 : w9.cell? ⟨wr.heap.size, 0, none⟩ = some (.int .u8 wh) := keep hb9 (by go_simp)
            have c9_1 : w9.cell? ⟨wr.heap.size, 1, none⟩ = some (.slice A2 ls.length c9) := keep hb9 (by go_simp)
            have c9_2 : w9.cell? ⟨wr.heap.size, 2, none⟩ = some (.int .i64 y) := keep hb9 (by go_simp)
            clear c8_0 c8_1 c8_2
            have RW := Lib.hid (RW.out.below (bstep (by repeat (first | exact Below.refl _ _ | refine balloc ?_ _ | refine bdrew ?_)) hb9))
            have RN := Lib.hid (RN.out.below (bstep (by repeat (first | exact Below.refl _ _ | refine balloc ?_ _ | refine bdrew ?_)) hb9))
            go_wp2_with fail
            with_reducible refine Calls.mono (roomE (r := (d2.room : Int)) _ (D9.out.below (by repeat (first | exact Below.refl _ _ | refine balloc ?_ _ | refine bdrew ?_))) rfl) ?_
            rintro e10 w10 ⟨rfl, hb10⟩
            have S10 := Lib.hid (bstep S9.out (bstep (by repeat (first | exact Below.refl _ _ | refine balloc ?_ _ | refine bdrew ?_)) hb10))
            have D10 := Lib.hid (D9.out.below (bstep (by repeat (first | exact Below.refl _ _ | refine balloc ?_ _ | refine bdrew ?_)) hb10))
            have c10_0 : w10.cell? ⟨wr.heap.size, 0, none⟩ = some (.int .u8 wh) := keep hb10 (by go_simp)
            have c10_1 : w10.cell? ⟨wr.heap.size, 1, none⟩ = some (.slice A2 ls.length c9) := keep hb10 (by go_simp)
            have c10_2 : w10.cell? ⟨wr.heap.size, 2, none⟩ = some (.int .i64 y) := keep hb10 (by go_simp)
            clear c9_0 c9_1 c9_2
            have RW := Lib.hid (RW.out.below (bstep (by repeat (first | exact Below.refl _ _ | refine balloc ?_ _ | refine bdrew ?_)) hb10))
            have RN := Lib.hid (RN.out.below (bstep (by repeat (first | exact Below.refl _ _ | refine balloc ?_ _ | refine bdrew ?_)) hb10))
            go_wp2_with fail
            with_reducible refine Calls.mono (safeE (r := (d2.safe : Int)) _ (D10.out.below (by repeat (first | exact Below.refl _ _ | refine balloc ?_ _ | refine bdrew ?_))) rfl) ?_
            rintro e11 w11 ⟨rfl, hb11⟩
            have S11 := Lib.hid (bstep S10.out (bstep (by repeat (first | exact Below.refl _ _ | refine balloc ?_ _ | refine bdrew ?_)) hb11))
            have D11 := Lib.hid (D10.out.below (bstep (by repeat (first | exact Below.refl _ _ | refine balloc ?_ _ | refine bdrew ?_)) hb11))
            have c11_0 : w11.cell? ⟨wr.heap.size, 0, none⟩ = some (.int .u8 wh) := keep hb11 (by go_simp)
            have c11_1 : w11.cell? ⟨wr.heap.size, 1, none⟩ = some (.slice A2 ls.length c9) := keep hb11 (by go_simp)
            have c11_2 : w11.cell? ⟨wr.heap.size, 2, none⟩ = some (.int .i64 y) := keep hb11 (by go_simp)
            clear c10_0 c10_1 c10_2
            have RW := Lib.hid (RW.out.below (bstep (by repeat (first | exact Below.refl _ _ | refine balloc ?_ _ | refine bdrew ?_)) hb11))
            have RN := Lib.hid (RN.out.below (bstep (by repeat (first | exact Below.refl _ _ | refine balloc ?_ _ | refine bdrew ?_)) hb11))
            go_wp2_with fail
            with_reducible refine Calls.mono (begins_true _ RN.out (take_bat RW.out (by omega)) (by rw [List.length_take, HB2.out]; omega) (by rw [HB2.out, List.length_take, Nat.min_eq_left (by omega)])) ?_
            rintro e12 w12 ⟨rfl, hb12⟩
            have S12 := Lib.hid (bstep S11.out (bstep (by repeat (first | exact Below.refl _ _ | refine balloc ?_ _ | refine bdrew ?_)) hb12))
            have D12 := Lib.hid (D11.out.below (bstep (by repeat (first | exact Below.refl _ _ | refine balloc ?_ _ | refine bdrew ?_)) hb12))
            have c12_0 : w12.cell? ⟨wr.heap.size, 0, none⟩ = some (.int .u8 wh) := keep hb12 (by go_simp)
            have c12_1 : w12.cell? ⟨wr.heap.size, 1, none⟩ = some (.slice A2 ls.length c9) := keep hb12 (by go_simp)
            have c12_2 : w12.cell? ⟨wr.heap.size, 2, none⟩ = some (.int .i64 y) := keep hb12 (by go_simp)
            clear c11_0 c11_1 c11_2
            have RW := Lib.hid (RW.out.below (bstep (by repeat (first | exact Below.refl _ _ | refine balloc ?_ _ | refine bdrew ?_)) hb12))
            have RN := Lib.hid (RN.out.below (bstep (by repeat (first | exact Below.refl _ _ | refine balloc ?_ _ | refine bdrew ?_)) hb12))
            go_wp2_with fail
            with_reducible refine Calls.mono (same_true _ RW.out (Eq.mp (congrArg (fun l => BAt _ _ l) HB2.out) RN.out)) ?_
            rintro e13 w13 ⟨rfl, hb13⟩
            have S13 := Lib.hid (bstep S12.out (bstep (by repeat (first | exact Below.refl _ _ | refine balloc ?_ _ | refine bdrew ?_)) hb13))
            have D13 := Lib.hid (D12.out.below (bstep (by repeat (first | exact Below.refl _ _ | refine balloc ?_ _ | refine bdrew ?_)) hb13))
            have c13_0 : w13.cell? ⟨wr.heap.size, 0, none⟩ = some (.int .u8 wh) := keep hb13 (by go_simp)
            have c13_1 : w13.cell? ⟨wr.heap.size, 1, none⟩ = some (.slice A2 ls.length c9) := keep hb13 (by go_simp)
            have c13_2 : w13.cell? ⟨wr.heap.size, 2, none⟩ = some (.int .i64 y) := keep hb13 (by go_simp)
            clear c12_0 c12_1 c12_2
            go_wp2_with fail
            go_roundw
            case rel => exact ⟨k + 1, v6, d2, by omega, by go_num, D13.out, S13.out, by rw [HRM.out]; exact HRO.out⟩
            case measure => (try simp [intOf]) <;> omega
        · obtain ⟨hb2, hrm, hsf⟩ : d2.b = d.b ∧ d2.room = d.room ∧ d2.safe = d.safe := by
            have hEe : (d.sparks y, (0 : Int)) = (d2, r) := by have := hE.out; simpa [Dsk.doOp, h5] using this
            injection hEe with h1 h2
            subst h1
            exact ⟨rfl, rfl, rfl⟩
          have e8 : decide ((d2.safe : Int) < (d.safe : Int)) = false := by simp; omega
          have hle : d.safe ≤ d2.safe := by omega
          have HB2 := Lib.hid hb2; have HRM := Lib.hid hrm; have HSF := Lib.hid hsf; have HRO := Lib.hid hroom
          clear hb2 hrm hsf hroom
          go_wp2_with fail
          with_reducible refine Calls.mono (bytesE (ls := d.b) _ (HD.out.below (by repeat (first | exact Below.refl _ _ | refine balloc ?_ _ | refine bdrew ?_))) rfl) ?_
          rintro e4 w4 ⟨v4, rfl, hv4, hb4⟩
          have O4 := Lib.hid hv4
          clear hv4
          have S4 := Lib.hid (bstep HS.out (bstep (by repeat (first | exact Below.refl _ _ | refine balloc ?_ _ | refine bdrew ?_)) hb4))
          have D4 := Lib.hid (HD.out.below (bstep (by repeat (first | exact Below.refl _ _ | refine balloc ?_ _ | refine bdrew ?_)) hb4))
          have c4_0 : w4.cell? ⟨wr.heap.size, 0, none⟩ = some (.int .u8 wh) := keep hb4 (by go_simp)
          have c4_1 : w4.cell? ⟨wr.heap.size, 1, none⟩ = some (.slice A2 ls.length c9) := keep hb4 (by go_simp)
          have c4_2 : w4.cell? ⟨wr.heap.size, 2, none⟩ = some (.int .i64 y) := keep hb4 (by go_simp)
          have hO4 := fun (k : Nat) (hk : v4.ownBlock = some k) => (O4.out.lt k hk).1
          have RW := Lib.hid (BAt.of_own O4.out)
          have hAP : d.b ≠ [] → Apart w.heap.size v v4 := fun _ k hk => ⟨by have := hO4 k hk; have := HB0.out; (try simp at *); omega, fun e => by have := hO4 k hk; have := HV0.out _ e.symm; (try simp at *); omega⟩
          obtain ⟨Aw, cw, rfl⟩ := len_of_own O4.out
          have hcw := own_cap O4.out
          clear O4 hO4
          go_wp2_with fail
          with_reducible refine Calls.mono (safeE (r := (d.safe : Int)) _ (D4.out.below (by repeat (first | exact Below.refl _ _ | refine balloc ?_ _ | refine bdrew ?_))) rfl) ?_
          rintro e5 w5 ⟨rfl, hb5⟩
          have S5 := Lib.hid (bstep S4.out (bstep (by repeat (first | exact Below.refl _ _ | refine balloc ?_ _ | refine bdrew ?_)) hb5))
          have D5 := Lib.hid (D4.out.below (bstep (by repeat (first | exact Below.refl _ _ | refine balloc ?_ _ | refine bdrew ?_)) hb5))
          have c5_0 : w5.cell? ⟨wr.heap.size, 0, none⟩ = some (.int .u8 wh) := keep hb5 (by go_simp)
          have c5_1 : w5.cell? ⟨wr.heap.size, 1, none⟩ = some (.slice A2 ls.length c9) := keep hb5 (by go_simp)
          have c5_2 : w5.cell? ⟨wr.heap.size, 2, none⟩ = some (.int .i64 y) := keep hb5 (by go_simp)
          clear c4_0 c4_1 c4_2
          have RW := Lib.hid (RW.out.below (bstep (by repeat (first | exact Below.refl _ _ | refine balloc ?_ _ | refine bdrew ?_)) hb5))
          go_wp2_with fail
          with_reducible refine Calls.mono (doOpE _ D5.out (HU.out.below S5.out) (fun h0 => D5.out.apart_in (Nat.le_refl _) HU.out h0) hw0 hy0.2 hE.out) ?_
          rintro e6 w6 ⟨v6, rfl, hd6, hs6⟩
          have S6 := Lib.hid (DS.toBelow D5.out (Nat.le_refl _) S5.out hs6)
          have c6_0 : w6.cell? ⟨wr.heap.size, 0, none⟩ = some (.int .u8 wh) := hs6.cell (by go_simp) (by have := HB0.out; omega) (fun e => by have := HV0.out _ e.symm; omega)
          have c6_1 : w6.cell? ⟨wr.heap.size, 1, none⟩ = some (.slice A2 ls.length c9) := hs6.cell (by go_simp) (by have := HB0.out; omega) (fun e => by have := HV0.out _ e.symm; omega)
          have c6_2 : w6.cell? ⟨wr.heap.size, 2, none⟩ = some (.int .i64 y) := hs6.cell (by go_simp) (by have := HB0.out; omega) (fun e => by have := HV0.out _ e.symm; omega)
          have RW := Lib.hid (RW.out.step hs6 hAP)
          have D6 := Lib.hid hd6
          clear hd6 hs6 hAP
          clear c5_0 c5_1 c5_2
          go_wp2_with fail
          with_reducible refine Calls.mono (bytesE (ls := d2.b) _ (D6.out.below (by repeat (first | exact Below.refl _ _ | refine balloc ?_ _ | refine bdrew ?_))) rfl) ?_
          rintro e7 w7 ⟨v7, rfl, hv7, hb7⟩
          have O7 := Lib.hid hv7
          clear hv7
          have S7 := Lib.hid (bstep S6.out (bstep (by repeat (first | exact Below.refl _ _ | refine balloc ?_ _ | refine bdrew ?_)) hb7))
          have D7 := Lib.hid (D6.out.below (bstep (by repeat (first | exact Below.refl _ _ | refine balloc ?_ _ | refine bdrew ?_)) hb7))
          have c7_0 : w7.cell? ⟨wr.heap.size, 0, none⟩ = some (.int .u8 wh) := keep hb7 (by go_simp)
          have c7_1 : w7.cell? ⟨wr.heap.size, 1, none⟩ = some (.slice A2 ls.length c9) := keep hb7 (by go_simp)
          have c7_2 : w7.cell? ⟨wr.heap.size, 2, none⟩ = some (.int .i64 y) := keep hb7 (by go_simp)
          clear c6_0 c6_1 c6_2
          have RW := Lib.hid (RW.out.below (bstep (by repeat (first | exact Below.refl _ _ | refine balloc ?_ _ | refine bdrew ?_)) hb7))
          have RN := Lib.hid (BAt.of_own O7.out)
          have hds := D7.out.hs
          have hdr := D7.out.hr
          have eB : decide ((d2.b.length : Int) < (d2.safe : Int)) = false := by simp; omega
          have eC : decide ((d2.room : Int) < (d2.b.length : Int)) = false := by simp; omega
          obtain ⟨An, cn, rfl⟩ := len_of_own O7.out
          have hcn := own_cap O7.out
          clear O7
          go_wp2_with fail
          with_reducible refine Calls.mono (safeE (r := (d2.safe : Int)) _ (D7.out.below (by repeat (first | exact Below.refl _ _ | refine balloc ?_ _ | refine bdrew ?_))) rfl) ?_
          rintro e8 w8 ⟨rfl, hb8⟩
          have S8 := Lib.hid (bstep S7.out (bstep (by repeat (first | exact Below.refl _ _ | refine balloc ?_ _ | refine bdrew ?_)) hb8))
          have D8 := Lib.hid (D7.out.below (bstep (by repeat (first | exact Below.refl _ _ | refine balloc ?_ _ | refine bdrew ?_)) hb8))
          have c8_0 : w8.cell? ⟨wr.heap.size, 0, none⟩ = some (.int .u8 wh) := keep hb8 (by go_simp)
          have c8_1 : w8.cell? ⟨wr.heap.size, 1, none⟩ = some (.slice A2 ls.length c9) := keep hb8 (by go_simp)
          have c8_2 : w8.cell? ⟨wr.heap.size, 2, none⟩ = some (.int .i64 y) := keep hb8 (by go_simp)
          clear c7_0 c7_1 c7_2
          have RW := Lib.hid (RW.out.below (bstep (by repeat (first | exact Below.refl _ _ | refine balloc ?_ _ | refine bdrew ?_)) hb8))
          have RN := Lib.hid (RN.out.below (bstep (by repeat (first | exact Below.refl _ _ | refine balloc ?_ _ | refine bdrew ?_)) hb8))
          go_wp2_with fail
          with_reducible refine Calls.mono (lenE (r := (d2.b.length : Int)) _ (D8.out.below (by repeat (first | exact Below.refl _ _ | refine balloc ?_ _ | refine bdrew ?_))) rfl) ?_
          rintro e9 w9 ⟨rfl, hb9⟩
          have S9 := Lib.hid (bstep S8.out (bstep (by repeat (first | exact Below.refl _ _ | refine balloc ?_ _ | refine bdrew ?_)) hb9))
          have D9 := Lib.hid (D8.out.below (bstep (by repeat (first | exact Below.refl _ _ | refine balloc ?_ _ | refine bdrew ?_)) hb9))
          have c9_0 : w9.cell? ⟨wr.heap.size, 0, none⟩ = some (.int .u8 wh) := keep hb9 (by go_simp)
          have c9_1 : w9.cell? ⟨wr.heap.size, 1, none⟩ = some (.slice A2 ls.length c9) := keep hb9 (by go_simp)
          have c9_2 : w9.cell? ⟨wr.heap.size, 2, none⟩ = some (.int .i64 y) := keep hb9 (by go_simp)
          clear c8_0 c8_1 c8_2
          have RW := Lib.hid (RW.out.below (bstep (by repeat (first | exact Below.refl _ _ | refine balloc ?_ _ | refine bdrew ?_)) hb9))
          have RN := Lib.hid (RN.out.below (bstep (by repeat (first | exact Below.refl _ _ | refine balloc ?_ _ | refine bdrew ?_)) hb9))
          go_wp2_with fail
          with_reducible refine Calls.mono (roomE (r := (d2.room : Int)) _ (D9.out.below (by repeat (first | exact Below.refl _ _ | refine balloc ?_ _ | refine bdrew ?_))) rfl) ?_
          rintro e10 w10 ⟨rfl, hb10⟩
          have S10 := Lib.hid (bstep S9.out (bstep (by repeat (first | exact Below.refl _ _ | refine balloc ?_ _ | refine bdrew ?_)) hb10))
          have D10 := Lib.hid (D9.out.below (bstep (by repeat (first | exact Below.refl _ _ | refine balloc ?_ _ | refine bdrew ?_)) hb10))
          have c10_0 : w10.cell? ⟨wr.heap.size, 0, none⟩ = some (.int .u8 wh) := keep hb10 (by go_simp)
          have c10_1 : w10.cell? ⟨wr.heap.size, 1, none⟩ = some (.slice A2 ls.length c9) := keep hb10 (by go_simp)
          have c10_2 : w10.cell? ⟨wr.heap.size, 2, none⟩ = some (.int .i64 y) := keep hb10 (by go_simp)
          clear c9_0 c9_1 c9_2
          have RW := Lib.hid (RW.out.below (bstep (by repeat (first | exact Below.refl _ _ | refine balloc ?_ _ | refine bdrew ?_)) hb10))
          have RN := Lib.hid (RN.out.below (bstep (by repeat (first | exact Below.refl _ _ | refine balloc ?_ _ | refine bdrew ?_)) hb10))
          go_wp2_with fail
          with_reducible refine Calls.mono (safeE (r := (d2.safe : Int)) _ (D10.out.below (by repeat (first | exact Below.refl _ _ | refine balloc ?_ _ | refine bdrew ?_))) rfl) ?_
          rintro e11 w11 ⟨rfl, hb11⟩
          have S11 := Lib.hid (bstep S10.out (bstep (by repeat (first | exact Below.refl _ _ | refine balloc ?_ _ | refine bdrew ?_)) hb11))
          have D11 := Lib.hid (D10.out.below (bstep (by repeat (first | exact Below.refl _ _ | refine balloc ?_ _ | refine bdrew ?_)) hb11))
          have c11_0 : w11.cell? ⟨wr.heap.size, 0, none⟩ = some (.int .u8 wh) := keep hb11 (by go_simp)
          have c11_1 : w11.cell? ⟨wr.heap.size, 1, none⟩ = some (.slice A2 ls.length c9) := keep hb11 (by go_simp)
          have c11_2 : w11.cell? ⟨wr.heap.size, 2, none⟩ = some (.int .i64 y) := keep hb11 (by go_simp)
          clear c10_0 c10_1 c10_2
          have RW := Lib.hid (RW.out.below (bstep (by repeat (first | exact Below.refl _ _ | refine balloc ?_ _ | refine bdrew ?_)) hb11))
          have RN := Lib.hid (RN.out.below (bstep (by repeat (first | exact Below.refl _ _ | refine balloc ?_ _ | refine bdrew ?_)) hb11))
          go_wp2_with fail
          with_reducible refine Calls.mono (begins_true _ RN.out (take_bat RW.out (by omega)) (by rw [List.length_take, HB2.out]; omega) (by rw [HB2.out, List.length_take, Nat.min_eq_left (by omega)])) ?_
          rintro e12 w12 ⟨rfl, hb12⟩
          have S12 := Lib.hid (bstep S11.out (bstep (by repeat (first | exact Below.refl _ _ | refine balloc ?_ _ | refine bdrew ?_)) hb12))
          have D12 := Lib.hid (D11.out.below (bstep (by repeat (first | exact Below.refl _ _ | refine balloc ?_ _ | refine bdrew ?_)) hb12))
          have c12_0 : w12.cell? ⟨wr.heap.size, 0, none⟩ = some (.int .u8 wh) := keep hb12 (by go_simp)
          have c12_1 : w12.cell? ⟨wr.heap.size, 1, none⟩ = some (.slice A2 ls.length c9) := keep hb12 (by go_simp)
          have c12_2 : w12.cell? ⟨wr.heap.size, 2, none⟩ = some (.int .i64 y) := keep hb12 (by go_simp)
          clear c11_0 c11_1 c11_2
          have RW := Lib.hid (RW.out.below (bstep (by repeat (first | exact Below.refl _ _ | refine balloc ?_ _ | refine bdrew ?_)) hb12))
          have RN := Lib.hid (RN.out.below (bstep (by repeat (first | exact Below.refl _ _ | refine balloc ?_ _ | refine bdrew ?_)) hb12))
          go_wp2_with fail
          with_reducible refine Calls.mono (same_true _ RW.out (Eq.mp (congrArg (fun l => BAt _ _ l) HB2.out) RN.out)) ?_
          rintro e13 w13 ⟨rfl, hb13⟩
          have S13 := Lib.hid (bstep S12.out (bstep (by repeat (first | exact Below.refl _ _ | refine balloc ?_ _ | refine bdrew ?_)) hb13))
          have D13 := Lib.hid (D12.out.below (bstep (by repeat (first | exact Below.refl _ _ | refine balloc ?_ _ | refine bdrew ?_)) hb13))
          have c13_0 : w13.cell? ⟨wr.heap.size, 0, none⟩ = some (.int .u8 wh) := keep hb13 (by go_simp)
          have c13_1 : w13.cell? ⟨wr.heap.size, 1, none⟩ = some (.slice A2 ls.length c9) := keep hb13 (by go_simp)
          have c13_2 : w13.cell? ⟨wr.heap.size, 2, none⟩ = some (.int .i64 y) := keep hb13 (by go_simp)
          clear c12_0 c12_1 c12_2
          go_wp2_with fail
          go_roundw
          case rel => exact ⟨k + 1, v6, d2, by omega, by go_num, D13.out, S13.out, by rw [HRM.out]; exact HRO.out⟩
          case measure => (try simp [intOf]) <;> omega
        · obtain ⟨hb2, hrm, hsf, hkp, hkl, hof⟩ : d2.b = d.b.take d2.safe ∧ d2.room = d.room ∧ d.safe ≤ d2.safe ∧ d2.safe ≤ d.b.length ∧ d2.b.length = d2.safe ∧ d2.off = false := by
            have hEe : (d.crash y, (0 : Int)) = (d2, r) := by have := hE.out; simpa [Dsk.doOp, h5] using this
            injection hEe with h1 h2
            subst h1
            have hk9 : d.keep y ≤ d.b.length ∧ d.safe ≤ d.keep y := by simp only [Dsk.keep]; omega
            exact ⟨rfl, rfl, hk9.2, hk9.1, by simp only [Dsk.crash, List.length_take]; omega, rfl⟩
          have e8 : decide ((d2.safe : Int) < (d.safe : Int)) = false := by simp; omega
          have e9 : ((d2.b.length : Int) != (d2.b.length : Int)) = false := by simp
          have hle : d.safe ≤ d2.safe := by omega
          have HB2 := Lib.hid hb2; have HRM := Lib.hid hrm; have HSF := Lib.hid hsf; have HRO := Lib.hid hroom
          have HKL := Lib.hid hkl
          have HOF := Lib.hid hof
          clear hb2 hrm hsf hroom hkl hof
          go_wp2_with fail
          with_reducible refine Calls.mono (bytesE (ls := d.b) _ (HD.out.below (by repeat (first | exact Below.refl _ _ | refine balloc ?_ _ | refine bdrew ?_))) rfl) ?_
          rintro e4 w4 ⟨v4, rfl, hv4, hb4⟩
          have O4 := Lib.hid hv4
          clear hv4
          have S4 := Lib.hid (bstep HS.out (bstep (by repeat (first | exact Below.refl _ _ | refine balloc ?_ _ | refine bdrew ?_)) hb4))
          have D4 := Lib.hid (HD.out.below (bstep (by repeat (first | exact Below.refl _ _ | refine balloc ?_ _ | refine bdrew ?_)) hb4))
          have c4_0 : w4.cell? ⟨wr.heap.size, 0, none⟩ = some (.int .u8 wh) := keep hb4 (by go_simp)
          have c4_1 : w4.cell? ⟨wr.heap.size, 1, none⟩ = some (.slice A2 ls.length c9) := keep hb4 (by go_simp)
          have c4_2 : w4.cell? ⟨wr.heap.size, 2, none⟩ = some (.int .i64 y) := keep hb4 (by go_simp)
          have hO4 := fun (k : Nat) (hk : v4.ownBlock = some k) => (O4.out.lt k hk).1
          have RW := Lib.hid (BAt.of_own O4.out)
          have hAP : d.b ≠ [] → Apart w.heap.size v v4 := fun _ k hk => ⟨by have := hO4 k hk; have := HB0.out; (try simp at *); omega, fun e => by have := hO4 k hk; have := HV0.out _ e.symm; (try simp at *); omega⟩
          obtain ⟨Aw, cw, rfl⟩ := len_of_own O4.out
          have hcw := own_cap O4.out
          clear O4 hO4
          go_wp2_with fail
          with_reducible refine Calls.mono (safeE (r := (d.safe : Int)) _ (D4.out.below (by repeat (first | exact Below.refl _ _ | refine balloc ?_ _ | refine bdrew ?_))) rfl) ?_
          rintro e5 w5 ⟨rfl, hb5⟩
          have S5 := Lib.hid (bstep S4.out (bstep (by repeat (first | exact Below.refl _ _ | refine balloc ?_ _ | refine bdrew ?_)) hb5))
          have D5 := Lib.hid (D4.out.below (bstep (by repeat (first | exact Below.refl _ _ | refine balloc ?_ _ | refine bdrew ?_)) hb5))
          have c5_0 : w5.cell? ⟨wr.heap.size, 0, none⟩ = some (.int .u8 wh) := keep hb5 (by go_simp)
          have c5_1 : w5.cell? ⟨wr.heap.size, 1, none⟩ = some (.slice A2 ls.length c9) := keep hb5 (by go_simp)
          have c5_2 : w5.cell? ⟨wr.heap.size, 2, none⟩ = some (.int .i64 y) := keep hb5 (by go_simp)
          clear c4_0 c4_1 c4_2
          have RW := Lib.hid (RW.out.below (bstep (by repeat (first | exact Below.refl _ _ | refine balloc ?_ _ | refine bdrew ?_)) hb5))
          go_wp2_with fail
          with_reducible refine Calls.mono (doOpE _ D5.out (HU.out.below S5.out) (fun h0 => D5.out.apart_in (Nat.le_refl _) HU.out h0) hw0 hy0.2 hE.out) ?_
          rintro e6 w6 ⟨v6, rfl, hd6, hs6⟩
          have S6 := Lib.hid (DS.toBelow D5.out (Nat.le_refl _) S5.out hs6)
          have c6_0 : w6.cell? ⟨wr.heap.size, 0, none⟩ = some (.int .u8 wh) := hs6.cell (by go_simp) (by have := HB0.out; omega) (fun e => by have := HV0.out _ e.symm; omega)
          have c6_1 : w6.cell? ⟨wr.heap.size, 1, none⟩ = some (.slice A2 ls.length c9) := hs6.cell (by go_simp) (by have := HB0.out; omega) (fun e => by have := HV0.out _ e.symm; omega)
          have c6_2 : w6.cell? ⟨wr.heap.size, 2, none⟩ = some (.int .i64 y) := hs6.cell (by go_simp) (by have := HB0.out; omega) (fun e => by have := HV0.out _ e.symm; omega)
          have RW := Lib.hid (RW.out.step hs6 hAP)
          have D6 := Lib.hid hd6
          clear hd6 hs6 hAP
          clear c5_0 c5_1 c5_2
          go_wp2_with fail
          with_reducible refine Calls.mono (bytesE (ls := d2.b) _ (D6.out.below (by repeat (first | exact Below.refl _ _ | refine balloc ?_ _ | refine bdrew ?_))) rfl) ?_
          rintro e7 w7 ⟨v7, rfl, hv7, hb7⟩
          have O7 := Lib.hid hv7
          clear hv7
          have S7 := Lib.hid (bstep S6.out (bstep (by repeat (first | exact Below.refl _ _ | refine balloc ?_ _ | refine bdrew ?_)) hb7))
          have D7 := Lib.hid (D6.out.below (bstep (by repeat (first | exact Below.refl _ _ | refine balloc ?_ _ | refine bdrew ?_)) hb7))
          have c7_0 : w7.cell? ⟨wr.heap.size, 0, none⟩ = some (.int .u8 wh) := keep hb7 (by go_simp)
          have c7_1 : w7.cell? ⟨wr.heap.size, 1, none⟩ = some (.slice A2 ls.length c9) := keep hb7 (by go_simp)
          have c7_2 : w7.cell? ⟨wr.heap.size, 2, none⟩ = some (.int .i64 y) := keep hb7 (by go_simp)
          clear c6_0 c6_1 c6_2
          have RW := Lib.hid (RW.out.below (bstep (by repeat (first | exact Below.refl _ _ | refine balloc ?_ _ | refine bdrew ?_)) hb7))
          have RN := Lib.hid (BAt.of_own O7.out)
          have hds := D7.out.hs
          have hdr := D7.out.hr
          have eB : decide ((d2.b.length : Int) < (d2.safe : Int)) = false := by simp; omega
          have eC : decide ((d2.room : Int) < (d2.b.length : Int)) = false := by simp; omega
          obtain ⟨An, cn, rfl⟩ := len_of_own O7.out
          have hcn := own_cap O7.out
          clear O7
          go_wp2_with fail
          with_reducible refine Calls.mono (safeE (r := (d2.safe : Int)) _ (D7.out.below (by repeat (first | exact Below.refl _ _ | refine balloc ?_ _ | refine bdrew ?_))) rfl) ?_
          rintro e8 w8 ⟨rfl, hb8⟩
          have S8 := Lib.hid (bstep S7.out (bstep (by repeat (first | exact Below.refl _ _ | refine balloc ?_ _ | refine bdrew ?_)) hb8))
          have D8 := Lib.hid (D7.out.below (bstep (by repeat (first | exact Below.refl _ _ | refine balloc ?_ _ | refine bdrew ?_)) hb8))
          have c8_0 : w8.cell? ⟨wr.heap.size, 0, none⟩ = some (.int .u8 wh) := keep hb8 (by go_simp)
          have c8_1 : w8.cell? ⟨wr.heap.size, 1, none⟩ = some (.slice A2 ls.length c9) := keep hb8 (by go_simp)
          have c8_2 : w8.cell? ⟨wr.heap.size, 2, none⟩ = some (.int .i64 y) := keep hb8 (by go_simp)
          clear c7_0 c7_1 c7_2
          have RW := Lib.hid (RW.out.below (bstep (by repeat (first | exact Below.refl _ _ | refine balloc ?_ _ | refine bdrew ?_)) hb8))
          have RN := Lib.hid (RN.out.below (bstep (by repeat (first | exact Below.refl _ _ | refine balloc ?_ _ | refine bdrew ?_)) hb8))
          go_wp2_with fail
          with_reducible refine Calls.mono (lenE (r := (d2.b.length : Int)) _ (D8.out.below (by repeat (first | exact Below.refl _ _ | refine balloc ?_ _ | refine bdrew ?_))) rfl) ?_
          rintro e9 w9 ⟨rfl, hb9⟩
          have S9 := Lib.hid (bstep S8.out (bstep (by repeat (first | exact Below.refl _ _ | refine balloc ?_ _ | refine bdrew ?_)) hb9))
          have D9 := Lib.hid (D8.out.below (bstep (by repeat (first | exact Below.refl _ _ | refine balloc ?_ _ | refine bdrew ?_)) hb9))
          have c9_0 : w9.cell? ⟨wr.heap.size, 0, none⟩ = some (.int .u8 wh) := keep hb9 (by go_simp)
          have c9_1 : w9.cell? ⟨wr.heap.size, 1, none⟩ = some (.slice A2 ls.length c9) := keep hb9 (by go_simp)
          have c9_2 : w9.cell? ⟨wr.heap.size, 2, none⟩ = some (.int .i64 y) := keep hb9 (by go_simp)
          clear c8_0 c8_1 c8_2
          have RW := Lib.hid (RW.out.below (bstep (by repeat (first | exact Below.refl _ _ | refine balloc ?_ _ | refine bdrew ?_)) hb9))
          have RN := Lib.hid (RN.out.below (bstep (by repeat (first | exact Below.refl _ _ | refine balloc ?_ _ | refine bdrew ?_)) hb9))
          go_wp2_with fail
          with_reducible refine Calls.mono (roomE (r := (d2.room : Int)) _ (D9.out.below (by repeat (first | exact Below.refl _ _ | refine balloc ?_ _ | refine bdrew ?_))) rfl) ?_
          rintro e10 w10 ⟨rfl, hb10⟩
          have S10 := Lib.hid (bstep S9.out (bstep (by repeat (first | exact Below.refl _ _ | refine balloc ?_ _ | refine bdrew ?_)) hb10))
          have D10 := Lib.hid (D9.out.below (bstep (by repeat (first | exact Below.refl _ _ | refine balloc ?_ _ | refine bdrew ?_)) hb10))
          have c10_0 : w10.cell? ⟨wr.heap.size, 0, none⟩ = some (.int .u8 wh) := keep hb10 (by go_simp)
          have c10_1 : w10.cell? ⟨wr.heap.size, 1, none⟩ = some (.slice A2 ls.length c9) := keep hb10 (by go_simp)
          have c10_2 : w10.cell? ⟨wr.heap.size, 2, none⟩ = some (.int .i64 y) := keep hb10 (by go_simp)
          clear c9_0 c9_1 c9_2
          have RW := Lib.hid (RW.out.below (bstep (by repeat (first | exact Below.refl _ _ | refine balloc ?_ _ | refine bdrew ?_)) hb10))
          have RN := Lib.hid (RN.out.below (bstep (by repeat (first | exact Below.refl _ _ | refine balloc ?_ _ | refine bdrew ?_)) hb10))
          go_wp2_with fail
          with_reducible refine Calls.mono (safeE (r := (d2.safe : Int)) _ (D10.out.below (by repeat (first | exact Below.refl _ _ | refine balloc ?_ _ | refine bdrew ?_))) rfl) ?_
          rintro e11 w11 ⟨rfl, hb11⟩
          have S11 := Lib.hid (bstep S10.out (bstep (by repeat (first | exact Below.refl _ _ | refine balloc ?_ _ | refine bdrew ?_)) hb11))
          have D11 := Lib.hid (D10.out.below (bstep (by repeat (first | exact Below.refl _ _ | refine balloc ?_ _ | refine bdrew ?_)) hb11))
          have c11_0 : w11.cell? ⟨wr.heap.size, 0, none⟩ = some (.int .u8 wh) := keep hb11 (by go_simp)
          have c11_1 : w11.cell? ⟨wr.heap.size, 1, none⟩ = some (.slice A2 ls.length c9) := keep hb11 (by go_simp)
          have c11_2 : w11.cell? ⟨wr.heap.size, 2, none⟩ = some (.int .i64 y) := keep hb11 (by go_simp)
          clear c10_0 c10_1 c10_2
          have RW := Lib.hid (RW.out.below (bstep (by repeat (first | exact Below.refl _ _ | refine balloc ?_ _ | refine bdrew ?_)) hb11))
          have RN := Lib.hid (RN.out.below (bstep (by repeat (first | exact Below.refl _ _ | refine balloc ?_ _ | refine bdrew ?_)) hb11))
          go_wp2_with fail
          with_reducible refine Calls.mono (begins_true _ RN.out (take_bat RW.out (by omega)) (by rw [List.length_take, HKL.out]; omega) (by rw [HB2.out, List.length_take, Nat.min_eq_left (by omega), List.take_take, Nat.min_eq_left (by omega)])) ?_
          rintro e12 w12 ⟨rfl, hb12⟩
          have S12 := Lib.hid (bstep S11.out (bstep (by repeat (first | exact Below.refl _ _ | refine balloc ?_ _ | refine bdrew ?_)) hb12))
          have D12 := Lib.hid (D11.out.below (bstep (by repeat (first | exact Below.refl _ _ | refine balloc ?_ _ | refine bdrew ?_)) hb12))
          have c12_0 : w12.cell? ⟨wr.heap.size, 0, none⟩ = some (.int .u8 wh) := keep hb12 (by go_simp)
          have c12_1 : w12.cell? ⟨wr.heap.size, 1, none⟩ = some (.slice A2 ls.length c9) := keep hb12 (by go_simp)
          have c12_2 : w12.cell? ⟨wr.heap.size, 2, none⟩ = some (.int .i64 y) := keep hb12 (by go_simp)
          clear c11_0 c11_1 c11_2
          have RW := Lib.hid (RW.out.below (bstep (by repeat (first | exact Below.refl _ _ | refine balloc ?_ _ | refine bdrew ?_)) hb12))
          have RN := Lib.hid (RN.out.below (bstep (by repeat (first | exact Below.refl _ _ | refine balloc ?_ _ | refine bdrew ?_)) hb12))
          go_wp2_with fail
          with_reducible refine Calls.mono (begins_true _ RW.out RN.out (by rw [HKL.out]; omega) (by rw [HKL.out]; exact HB2.out.symm)) ?_
          rintro e13 w13 ⟨rfl, hb13⟩
          have S13 := Lib.hid (bstep S12.out (bstep (by repeat (first | exact Below.refl _ _ | refine balloc ?_ _ | refine bdrew ?_)) hb13))
          have D13 := Lib.hid (D12.out.below (bstep (by repeat (first | exact Below.refl _ _ | refine balloc ?_ _ | refine bdrew ?_)) hb13))
          have c13_0 : w13.cell? ⟨wr.heap.size, 0, none⟩ = some (.int .u8 wh) := keep hb13 (by go_simp)
          have c13_1 : w13.cell? ⟨wr.heap.size, 1, none⟩ = some (.slice A2 ls.length c9) := keep hb13 (by go_simp)
          have c13_2 : w13.cell? ⟨wr.heap.size, 2, none⟩ = some (.int .i64 y) := keep hb13 (by go_simp)
          clear c12_0 c12_1 c12_2
          have RW := Lib.hid (RW.out.below (bstep (by repeat (first | exact Below.refl _ _ | refine balloc ?_ _ | refine bdrew ?_)) hb13))
          have RN := Lib.hid (RN.out.below (bstep (by repeat (first | exact Below.refl _ _ | refine balloc ?_ _ | refine bdrew ?_)) hb13))
          go_wp2_with fail
          with_reducible refine Calls.mono (safeE (r := (d2.b.length : Int)) _ (D13.out.below (by repeat (first | exact Below.refl _ _ | refine balloc ?_ _ | refine bdrew ?_))) (by rw [HKL.out])) ?_
          rintro e14 w14 ⟨rfl, hb14⟩
          have S14 := Lib.hid (bstep S13.out (bstep (by repeat (first | exact Below.refl _ _ | refine balloc ?_ _ | refine bdrew ?_)) hb14))
          have D14 := Lib.hid (D13.out.below (bstep (by repeat (first | exact Below.refl _ _ | refine balloc ?_ _ | refine bdrew ?_)) hb14))
          have c14_0 : w14.cell? ⟨wr.heap.size, 0, none⟩ = some (.int .u8 wh) := keep hb14 (by go_simp)
          have c14_1 : w14.cell? ⟨wr.heap.size, 1, none⟩ = some (.slice A2 ls.length c9) := keep hb14 (by go_simp)
          have c14_2 : w14.cell? ⟨wr.heap.size, 2, none⟩ = some (.int .i64 y) := keep hb14 (by go_simp)
          clear c13_0 c13_1 c13_2
          have RW := Lib.hid (RW.out.below (bstep (by repeat (first | exact Below.refl _ _ | refine balloc ?_ _ | refine bdrew ?_)) hb14))
          have RN := Lib.hid (RN.out.below (bstep (by repeat (first | exact Below.refl _ _ | refine balloc ?_ _ | refine bdrew ?_)) hb14))
          go_wp2_with fail
          with_reducible refine Calls.mono (offE (r := false) _ (D14.out.below (by repeat (first | exact Below.refl _ _ | refine balloc ?_ _ | refine bdrew ?_))) HOF.out) ?_
          rintro e15 w15 ⟨rfl, hb15⟩
          have S15 := Lib.hid (bstep S14.out (bstep (by repeat (first | exact Below.refl _ _ | refine balloc ?_ _ | refine bdrew ?_)) hb15))
          have D15 := Lib.hid (D14.out.below (bstep (by repeat (first | exact Below.refl _ _ | refine balloc ?_ _ | refine bdrew ?_)) hb15))
          have c15_0 : w15.cell? ⟨wr.heap.size, 0, none⟩ = some (.int .u8 wh) := keep hb15 (by go_simp)
          have c15_1 : w15.cell? ⟨wr.heap.size, 1, none⟩ = some (.slice A2 ls.length c9) := keep hb15 (by go_simp)
          have c15_2 : w15.cell? ⟨wr.heap.size, 2, none⟩ = some (.int .i64 y) := keep hb15 (by go_simp)
          clear c14_0 c14_1 c14_2
          go_wp2_with fail
          go_roundw
          case rel => exact ⟨k + 1, v6, d2, by omega, by go_num, D15.out, S15.out, by rw [HRM.out]; exact HRO.out⟩
          case measure => (try simp [intOf]) <;> omega
      · obtain rfl : k = M := by omega
        go_wp2_with fail
        with_reducible refine Calls.mono (awake09 _) ?_
        rintro e30 w30 ⟨rfl, hb30⟩
        go_wp2_with fail
        go_ret
        exact ⟨rfl, bstep HS.out hb30⟩
end Go.Proofs.Ythgaphfelpnclaa
