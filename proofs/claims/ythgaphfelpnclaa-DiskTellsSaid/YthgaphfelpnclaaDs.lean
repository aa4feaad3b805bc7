/- The law DiskSparks, walked. -/
import Derived.Test.YthgaphfelpnclaaDl
set_option linter.unusedVariables false
set_option linter.unusedSimpArgs false
namespace Go.Proofs.Ythgaphfelpnclaa
open Go.RowKit

theorem rows_below {w w' : World} {A : Option Addr} {n : Nat} (h : RowsV w A n 3 (ElOp w)) (hb : Below w.heap.size w w') : RowsV w' A n 3 (ElOp w') := by
  rcases h with h | ⟨a, ha, hall⟩
  · exact .inl h
  · refine .inr ⟨a, ha, fun i hi => ?_⟩
    obtain ⟨cs, hl, ⟨wh, u, ls, x, rfl, h1, h2, h3, h4⟩, hc⟩ := hall i hi
    refine ⟨_, hl, ⟨wh, u, ls, x, rfl, h1, h2, h3.below hb, h4⟩, fun j hj => ?_⟩
    have h0 := hc j hj
    rw [List.getElem?_eq_getElem (by simpa using hj)] at h0 ⊢
    have ha2 := spot_none h0
    rw [ha2] at h0 ⊢
    exact keep hb h0
theorem feed_enough : ∀ (ls : List Int) (d : Dsk), 0 ≤ d.left → (ls.length : Int) ≤ d.left → d.feed ls = ({ d with b := d.b ++ ls, left := d.left - ls.length }, 0)
  | [], d, _, _ => by simp [Dsk.feed]
  | x :: r, d, h0, h => by
    simp only [List.length_cons] at h
    have e : d.dec.left = d.left - 1 := by simp only [Dsk.dec]; rw [if_neg (by omega)]
    have ih := feed_enough r { d.dec with b := d.b ++ [x] } (show 0 ≤ d.dec.left by omega) (show (r.length : Int) ≤ d.dec.left by omega)
    rw [Dsk.feed, if_neg (by omega)]
    refine Eq.trans ih ?_
    simp only [e, List.append_assoc, List.singleton_append, List.length_cons]
    congr 2
    all_goals (first | rfl | omega)
theorem feed_short : ∀ (ls : List Int) (d : Dsk), 0 ≤ d.left → d.left < (ls.length : Int) → d.feed ls = ({ d with b := d.b ++ ls.take d.left.toNat, left := 0, off := true }, 6)
  | [], d, h0, h => by simp at h; omega
  | x :: r, d, h0, h => by
    simp only [List.length_cons] at h
    by_cases hz : d.left = 0
    · rw [Dsk.feed, if_pos hz]
      simp [Dsk.dark, hz]
    · have e : d.dec.left = d.left - 1 := by simp only [Dsk.dec]; rw [if_neg (by omega)]
      have ih := feed_short r { d.dec with b := d.b ++ [x] } (show 0 ≤ d.dec.left by omega) (show d.dec.left < (r.length : Int) by omega)
      rw [Dsk.feed, if_neg hz]
      refine Eq.trans ih ?_
      have e2 : d.left.toNat = (d.left - 1).toNat + 1 := by omega
      simp only [e, e2, List.take_succ_cons, List.append_assoc, List.singleton_append]
      rfl

theorem light_back {w w' : World} {A : Option Addr} {m : Nat} (h : Light w' A m) (hb : Below w.heap.size w w') : Light w A m :=
  fun i hi b o u ls hA hc hu => h i hi b o u ls hA (keep hb hc) (hu.below hb)
structure SI (d : Dsk) (L : Int) (k : Nat) : Prop where
  room : d.room = 262144
  len : d.b.length ≤ 200 * k
  bnd : -200 - (k : Int) ≤ L ∧ L ≤ 3000
  st : (0 ≤ L ∧ d.left = L ∧ d.off = false) ∨ (L < 0 ∧ d.off = true)
theorem app_enough {d : Dsk} {ls : List Int} (ho : d.off = false) (h0 : 0 ≤ d.left) (h : (ls.length : Int) ≤ d.left) (hr : d.b.length + ls.length ≤ d.room) : d.app ls = ({ d with b := d.b ++ ls, left := d.left - ls.length }, 0) := by
  unfold Dsk.app Dsk.appOn
  rw [if_neg (by simp [ho]), if_neg (by omega), feed_enough ls d h0 h]
theorem app_short {d : Dsk} {ls : List Int} (ho : d.off = false) (h0 : 0 ≤ d.left) (h : d.left < (ls.length : Int)) (hr : d.b.length + ls.length ≤ d.room) : d.app ls = ({ d with b := d.b ++ ls.take d.left.toNat, left := 0, off := true }, 6) := by
  unfold Dsk.app Dsk.appOn
  rw [if_neg (by simp [ho]), if_neg (by omega), feed_short ls d h0 h]
theorem app_off {d : Dsk} {ls : List Int} (ho : d.off = true) : d.app ls = (d, 6) := by simp [Dsk.app, ho]

set_option maxRecDepth 100000 in
set_option maxHeartbeats 4000000 in
theorem sparks_walk (x : Int) (A : Option Addr) (n cap : Nat) (w : World) (hx : 0 ≤ x ∧ x ≤ 65535) (hn : n ≤ cap) (hcap : cap ≤ maxLen) (hv : RowsV w A n 3 (ElOp w)) :
    Calls Try.prog 6 #[.int .u16 x, .slice A n cap] w fun e' w' => e' = .returned (.bool true) ∧ Below w.heap.size w w' := by
  have HV := Lib.hid hv
  clear hv
  have hcap0 := hcap
  unfold maxLen at hcap
  have hL : 0 ≤ x % 3001 ∧ x % 3001 ≤ 3000 := by omega
  go_enter Try.func6, Try.ntmps6
  go_wp2_with fail
  with_reducible refine Calls.mono (newE (r := 262144) 262144 _ (by decide) (by decide)) ?_
  rintro e1 w1 ⟨rfl, hb1, hd1⟩
  have S1 := Lib.hid hb1
  have D1 := Lib.hid hd1
  clear hb1 hd1
  have HV1 := Lib.hid (rows_below HV.out S1.out)
  go_wp2_with fail
  with_reducible refine Calls.mono (lightD _ hn hcap0 HV1.out) ?_
  rintro e2 w2 ⟨hb2, hres⟩
  have D2 := Lib.hid (D1.out.below hb2)
  have S2 := Lib.hid (bstep S1.out hb2)
  rcases hres with rfl | ⟨hLt, rfl⟩
  · go_wp2_with fail
    with_reducible refine Calls.mono (awake09 _) ?_
    rintro e3 w3 ⟨rfl, hb3⟩
    go_wp2_with fail
    go_ret
    exact ⟨rfl, bstep S2.out hb3⟩
  · have LT := Lib.hid (light_back hLt S1.out)
    have HB2 := Lib.hid hb2
    clear hLt hb2
    obtain ⟨M, hM⟩ : ∃ M : Nat, min n 60 = M := ⟨_, rfl⟩
    rw [hM] at LT ⊢
    go_wp2_with fail
    generalize x % 3001 = L0 at *
    obtain ⟨hL0, hL1⟩ := hL
    with_reducible refine Calls.mono (sparksE (d2 := ⟨[], 0, L0, false, 262144⟩) _ D2.out L0 (by omega) (by simp [Dsk.sparks]; omega)) ?_
    rintro e3 w3 ⟨v3, rfl, hd3, hs3⟩
    have S3 := Lib.hid (DS.toBelow D2.out (Nat.le_refl _) S2.out hs3)
    have D3 := Lib.hid hd3
    clear hd3 hs3 D2 D1 S1
    go_wp2_with fail
    go_loopw [8, 42] (fun l i wr => ∃ (k : Nat) (L : Int) (v : Value) (d : Dsk), k ≤ M ∧ i = .int .i64 k ∧ l = .int .i64 L ∧ DS wr w.heap.size w.heap.size v d ∧ Below w.heap.size w wr ∧ SI d L k) (fun _ i _ => M - (intOf i).toNat)
    case atStart => exact ⟨0, L0, v3, _, by omega, rfl, rfl, D3.out, S3.out, ⟨rfl, by simp, by omega, .inl ⟨hL0, rfl, rfl⟩⟩⟩
    case round =>
      obtain ⟨k, L, v, d, hk, rfl, rfl, hd, hBel, hsi⟩ := hrel
      obtain ⟨hroom, hlen, hbnd, hst⟩ := hsi
      have HD := Lib.hid hd
      have HS := Lib.hid hBel
      have HB0 := Lib.hid hd.lt
      have HV0 := Lib.hid hd.vlt
      have hsz := hBel.size
      clear hd hBel
      by_cases hlt : k < M
      · obtain ⟨b, o, wh, u, ls, y, rfl, d0, d1, d2, hw0, hy0, hu, hr, cu⟩ := op_at HV.out HS.out (show k < n by omega)
        have h200 := LT.out k hlt b o u ls rfl cu hu
        have HU := Lib.hid hu
        obtain ⟨A2, c9, rfl, hcc, hcm, _⟩ := hu
        clear cu hr
        unfold maxLen at hcm
        have hc3 : wh % 3 = 0 ∨ wh % 3 = 1 ∨ wh % 3 = 2 := by omega
        rcases hc3 with h3 | h3 | h3
        · skip
          rcases hst with ⟨hLp, hleft, hoff⟩ | ⟨hLn, hoff⟩
          · have e1 : decide (L < 0) = false := by simpa using hLp
            have e2 : decide (0 ≤ L) = true := by simpa using hLp
            have e3 : max L 0 = L := by omega
            by_cases hen : (ls.length : Int) ≤ L
            · have e4 : decide ((ls.length : Int) ≤ L) = true := by simpa using hen
              have e5 : min (ls.length : Int) L = ls.length := by omega
              have e6 : IntKind.i64.wrap ((d.b.length : Int) + ls.length) = (d.b.length : Int) + ls.length := IntWalk.i64_in _ (by omega)
              go_wp2_with fail
              with_reducible refine Calls.mono (lenE (r := (d.b.length : Int)) _ (HD.out.below (by repeat (first | exact Below.refl _ _ | refine balloc ?_ _ | refine bdrew ?_))) rfl) ?_
              rintro e5 w5 ⟨rfl, hb5⟩
              have S5 := Lib.hid (bstep HS.out (bstep (by repeat (first | exact Below.refl _ _ | refine balloc ?_ _ | refine bdrew ?_)) hb5))
              have D5 := Lib.hid (HD.out.below (bstep (by repeat (first | exact Below.refl _ _ | refine balloc ?_ _ | refine bdrew ?_)) hb5))
              have c5_0 : w5.cell? ⟨wr.heap.size, 0, none⟩ = some (.int .u8 wh) := keep hb5 (by go_simp)
              have c5_1 : w5.cell? ⟨wr.heap.size, 1, none⟩ = some (.slice A2 ls.length c9) := keep hb5 (by go_simp)
              have c5_2 : w5.cell? ⟨wr.heap.size, 2, none⟩ = some (.int .i64 y) := keep hb5 (by go_simp)
              go_wp2_with fail
              with_reducible refine Calls.mono (offE (r := false) _ (D5.out.below (by repeat (first | exact Below.refl _ _ | refine balloc ?_ _ | refine bdrew ?_))) hoff) ?_
              rintro e6 w6 ⟨rfl, hb6⟩
              have S6 := Lib.hid (bstep S5.out (bstep (by repeat (first | exact Below.refl _ _ | refine balloc ?_ _ | refine bdrew ?_)) hb6))
              have D6 := Lib.hid (D5.out.below (bstep (by repeat (first | exact Below.refl _ _ | refine balloc ?_ _ | refine bdrew ?_)) hb6))
              have c6_0 : w6.cell? ⟨wr.heap.size, 0, none⟩ = some (.int .u8 wh) := keep hb6 (by go_simp)
              have c6_1 : w6.cell? ⟨wr.heap.size, 1, none⟩ = some (.slice A2 ls.length c9) := keep hb6 (by go_simp)
              have c6_2 : w6.cell? ⟨wr.heap.size, 2, none⟩ = some (.int .i64 y) := keep hb6 (by go_simp)
              clear c5_0 c5_1 c5_2
              go_wp2_with fail
              with_reducible refine Calls.mono (appE (d2 := { d with b := d.b ++ ls, left := L - ls.length }) (r := 0) _ (D6.out.below (by repeat (first | exact Below.refl _ _ | refine balloc ?_ _ | refine bdrew ?_))) (HU.out.below (S6.out)) (fun h0 => (D6.out.apart_in (Nat.le_refl _) HU.out h0)) (by rw [app_enough hoff (by omega) (by omega) (by omega), hleft])) ?_
              rintro e7 w7 ⟨v7, rfl, hd7, hs7⟩
              have S7 := Lib.hid (DS.toBelow (D6.out.below (by repeat (first | exact Below.refl _ _ | refine balloc ?_ _ | refine bdrew ?_))) (Nat.le_refl _) (bstep S6.out (by repeat (first | exact Below.refl _ _ | refine balloc ?_ _ | refine bdrew ?_))) hs7)
              have c7_0 : w7.cell? ⟨wr.heap.size, 0, none⟩ = some (.int .u8 wh) := hs7.cell (by go_simp) (by have := HB0.out; omega) (fun e => by have := HV0.out _ e.symm; omega)
              have c7_1 : w7.cell? ⟨wr.heap.size, 1, none⟩ = some (.slice A2 ls.length c9) := hs7.cell (by go_simp) (by have := HB0.out; omega) (fun e => by have := HV0.out _ e.symm; omega)
              have c7_2 : w7.cell? ⟨wr.heap.size, 2, none⟩ = some (.int .i64 y) := hs7.cell (by go_simp) (by have := HB0.out; omega) (fun e => by have := HV0.out _ e.symm; omega)
              have D7 := Lib.hid hd7
              clear hd7 hs7
              clear c6_0 c6_1 c6_2
              go_wp2_with fail
              refine wpQ_region (by kernel_rfl) (by kernel_rfl) ?_
              apply wpQ_do
              · rfl
              · intro wq hC; go_light; first | (go_simp; first | done | rfl | exact ⟨rfl, rfl⟩) | (have k0 : wq.cell? ⟨wr.heap.size, 0, none⟩ = some (.int .u8 wh) := hC.keep (by go_simp); have k1 : wq.cell? ⟨wr.heap.size, 1, none⟩ = some (.slice A2 ls.length c9) := hC.keep (by go_simp); have k2 : wq.cell? ⟨wr.heap.size, 2, none⟩ = some (.int .i64 y) := hC.keep (by go_simp); go_simp; first | done | rfl | exact ⟨rfl, rfl⟩)
              simp only [Act.put, List.setIfInBounds_toArray, List.set_cons_zero, List.set_cons_succ]
              apply wpQ_do
              · rfl
              · intro wq hC; go_light; go_simp; refine Calls.mono (lenE (r := (d.b.length : Int) + ls.length) _ (D7.out.below hC) (by simp)) ?_; rintro eq wq2 ⟨rfl, hbq⟩; exact ⟨rfl, hC.step hbq⟩
              simp only [Act.put, List.setIfInBounds_toArray, List.set_cons_zero, List.set_cons_succ]
              apply wpQ_do
              · rfl
              · intro wq hC; go_light; first | (go_simp; first | done | rfl | exact ⟨rfl, rfl⟩) | (have k0 : wq.cell? ⟨wr.heap.size, 0, none⟩ = some (.int .u8 wh) := hC.keep (by go_simp); have k1 : wq.cell? ⟨wr.heap.size, 1, none⟩ = some (.slice A2 ls.length c9) := hC.keep (by go_simp); have k2 : wq.cell? ⟨wr.heap.size, 2, none⟩ = some (.int .i64 y) := hC.keep (by go_simp); go_simp; first | done | rfl | exact ⟨rfl, rfl⟩)
              simp only [Act.put, List.setIfInBounds_toArray, List.set_cons_zero, List.set_cons_succ]
              apply wpQ_do
              · rfl
              · intro wq hC; go_light; first | (go_simp; first | done | rfl | exact ⟨rfl, rfl⟩) | (have k0 : wq.cell? ⟨wr.heap.size, 0, none⟩ = some (.int .u8 wh) := hC.keep (by go_simp); have k1 : wq.cell? ⟨wr.heap.size, 1, none⟩ = some (.slice A2 ls.length c9) := hC.keep (by go_simp); have k2 : wq.cell? ⟨wr.heap.size, 2, none⟩ = some (.int .i64 y) := hC.keep (by go_simp); go_simp; first | done | rfl | exact ⟨rfl, rfl⟩)
              simp only [Act.put, List.setIfInBounds_toArray, List.set_cons_zero, List.set_cons_succ]
              apply wpQ_do
              · rfl
              · intro wq hC; go_light; first | (go_simp; first | done | rfl | exact ⟨rfl, rfl⟩) | (have k0 : wq.cell? ⟨wr.heap.size, 0, none⟩ = some (.int .u8 wh) := hC.keep (by go_simp); have k1 : wq.cell? ⟨wr.heap.size, 1, none⟩ = some (.slice A2 ls.length c9) := hC.keep (by go_simp); have k2 : wq.cell? ⟨wr.heap.size, 2, none⟩ = some (.int .i64 y) := hC.keep (by go_simp); go_simp; first | done | rfl | exact ⟨rfl, rfl⟩)
              simp only [Act.put, List.setIfInBounds_toArray, List.set_cons_zero, List.set_cons_succ]
              apply wpQ_do
              · rfl
              · intro wq hC; go_light; first | (go_simp; first | done | rfl | exact ⟨rfl, rfl⟩) | (have k0 : wq.cell? ⟨wr.heap.size, 0, none⟩ = some (.int .u8 wh) := hC.keep (by go_simp); have k1 : wq.cell? ⟨wr.heap.size, 1, none⟩ = some (.slice A2 ls.length c9) := hC.keep (by go_simp); have k2 : wq.cell? ⟨wr.heap.size, 2, none⟩ = some (.int .i64 y) := hC.keep (by go_simp); go_simp; first | done | rfl | exact ⟨rfl, rfl⟩)
              simp only [Act.put, List.setIfInBounds_toArray, List.set_cons_zero, List.set_cons_succ]
              apply wpQ_do
              · rfl
              · intro wq hC; go_light; first | (go_simp; first | done | rfl | exact ⟨rfl, rfl⟩) | (have k0 : wq.cell? ⟨wr.heap.size, 0, none⟩ = some (.int .u8 wh) := hC.keep (by go_simp); have k1 : wq.cell? ⟨wr.heap.size, 1, none⟩ = some (.slice A2 ls.length c9) := hC.keep (by go_simp); have k2 : wq.cell? ⟨wr.heap.size, 2, none⟩ = some (.int .i64 y) := hC.keep (by go_simp); go_simp; first | done | rfl | exact ⟨rfl, rfl⟩)
              simp only [Act.put, List.setIfInBounds_toArray, List.set_cons_zero, List.set_cons_succ]
              apply wpQ_do
              · rfl
              · intro wq hC; go_light; first | (go_simp; first | done | rfl | exact ⟨rfl, rfl⟩) | (have k0 : wq.cell? ⟨wr.heap.size, 0, none⟩ = some (.int .u8 wh) := hC.keep (by go_simp); have k1 : wq.cell? ⟨wr.heap.size, 1, none⟩ = some (.slice A2 ls.length c9) := hC.keep (by go_simp); have k2 : wq.cell? ⟨wr.heap.size, 2, none⟩ = some (.int .i64 y) := hC.keep (by go_simp); go_simp; first | done | rfl | exact ⟨rfl, rfl⟩)
              simp only [Act.put, List.setIfInBounds_toArray, List.set_cons_zero, List.set_cons_succ]
              apply wpQ_do
              · rfl
              · intro wq hC; go_light; first | (go_simp; first | done | rfl | exact ⟨rfl, rfl⟩) | (have k0 : wq.cell? ⟨wr.heap.size, 0, none⟩ = some (.int .u8 wh) := hC.keep (by go_simp); have k1 : wq.cell? ⟨wr.heap.size, 1, none⟩ = some (.slice A2 ls.length c9) := hC.keep (by go_simp); have k2 : wq.cell? ⟨wr.heap.size, 2, none⟩ = some (.int .i64 y) := hC.keep (by go_simp); go_simp; first | done | rfl | exact ⟨rfl, rfl⟩)
              simp only [Act.put, List.setIfInBounds_toArray, List.set_cons_zero, List.set_cons_succ]
              apply wpQ_do
              · rfl
              · intro wq hC; go_light; first | (go_simp; first | done | rfl | exact ⟨rfl, rfl⟩) | (have k0 : wq.cell? ⟨wr.heap.size, 0, none⟩ = some (.int .u8 wh) := hC.keep (by go_simp); have k1 : wq.cell? ⟨wr.heap.size, 1, none⟩ = some (.slice A2 ls.length c9) := hC.keep (by go_simp); have k2 : wq.cell? ⟨wr.heap.size, 2, none⟩ = some (.int .i64 y) := hC.keep (by go_simp); go_simp; first | done | rfl | exact ⟨rfl, rfl⟩)
              simp only [Act.put, List.setIfInBounds_toArray, List.set_cons_zero, List.set_cons_succ]
              apply wpQ_do
              · rfl
              · intro wq hC; go_light; first | (go_simp; first | done | rfl | exact ⟨rfl, rfl⟩) | (have k0 : wq.cell? ⟨wr.heap.size, 0, none⟩ = some (.int .u8 wh) := hC.keep (by go_simp); have k1 : wq.cell? ⟨wr.heap.size, 1, none⟩ = some (.slice A2 ls.length c9) := hC.keep (by go_simp); have k2 : wq.cell? ⟨wr.heap.size, 2, none⟩ = some (.int .i64 y) := hC.keep (by go_simp); go_simp; first | done | rfl | exact ⟨rfl, rfl⟩)
              simp only [Act.put, List.setIfInBounds_toArray, List.set_cons_zero, List.set_cons_succ]
              apply wpQ_do
              · rfl
              · intro wq hC; go_light; first | (go_simp; first | done | rfl | exact ⟨rfl, rfl⟩) | (have k0 : wq.cell? ⟨wr.heap.size, 0, none⟩ = some (.int .u8 wh) := hC.keep (by go_simp); have k1 : wq.cell? ⟨wr.heap.size, 1, none⟩ = some (.slice A2 ls.length c9) := hC.keep (by go_simp); have k2 : wq.cell? ⟨wr.heap.size, 2, none⟩ = some (.int .i64 y) := hC.keep (by go_simp); go_simp; first | done | rfl | exact ⟨rfl, rfl⟩)
              simp only [Act.put, List.setIfInBounds_toArray, List.set_cons_zero, List.set_cons_succ]
              apply wpQ_do
              · rfl
              · intro wq hC; go_light; first | (go_simp; first | done | rfl | exact ⟨rfl, rfl⟩) | (have k0 : wq.cell? ⟨wr.heap.size, 0, none⟩ = some (.int .u8 wh) := hC.keep (by go_simp); have k1 : wq.cell? ⟨wr.heap.size, 1, none⟩ = some (.slice A2 ls.length c9) := hC.keep (by go_simp); have k2 : wq.cell? ⟨wr.heap.size, 2, none⟩ = some (.int .i64 y) := hC.keep (by go_simp); go_simp; first | done | rfl | exact ⟨rfl, rfl⟩)
              simp only [Act.put, List.setIfInBounds_toArray, List.set_cons_zero, List.set_cons_succ]
              apply wpQ_do
              · rfl
              · intro wq hC; go_light; first | (go_simp; first | done | rfl | exact ⟨rfl, rfl⟩) | (have k0 : wq.cell? ⟨wr.heap.size, 0, none⟩ = some (.int .u8 wh) := hC.keep (by go_simp); have k1 : wq.cell? ⟨wr.heap.size, 1, none⟩ = some (.slice A2 ls.length c9) := hC.keep (by go_simp); have k2 : wq.cell? ⟨wr.heap.size, 2, none⟩ = some (.int .i64 y) := hC.keep (by go_simp); go_simp; first | done | rfl | exact ⟨rfl, rfl⟩)
              simp only [Act.put, List.setIfInBounds_toArray, List.set_cons_zero, List.set_cons_succ]
              apply wpQ_do
              · rfl
              · intro wq hC; go_light; first | (go_simp; first | done | rfl | exact ⟨rfl, rfl⟩) | (have k0 : wq.cell? ⟨wr.heap.size, 0, none⟩ = some (.int .u8 wh) := hC.keep (by go_simp); have k1 : wq.cell? ⟨wr.heap.size, 1, none⟩ = some (.slice A2 ls.length c9) := hC.keep (by go_simp); have k2 : wq.cell? ⟨wr.heap.size, 2, none⟩ = some (.int .i64 y) := hC.keep (by go_simp); go_simp; first | done | rfl | exact ⟨rfl, rfl⟩)
              simp only [Act.put, List.setIfInBounds_toArray, List.set_cons_zero, List.set_cons_succ]
              apply wpQ_do
              · rfl
              · intro wq hC; go_light; first | (go_simp; first | done | rfl | exact ⟨rfl, rfl⟩) | (have k0 : wq.cell? ⟨wr.heap.size, 0, none⟩ = some (.int .u8 wh) := hC.keep (by go_simp); have k1 : wq.cell? ⟨wr.heap.size, 1, none⟩ = some (.slice A2 ls.length c9) := hC.keep (by go_simp); have k2 : wq.cell? ⟨wr.heap.size, 2, none⟩ = some (.int .i64 y) := hC.keep (by go_simp); go_simp; first | done | rfl | exact ⟨rfl, rfl⟩)
              simp only [Act.put, List.setIfInBounds_toArray, List.set_cons_zero, List.set_cons_succ]
              apply wpQ_do
              · rfl
              · intro wq hC; go_light; first | (go_simp; first | done | rfl | exact ⟨rfl, rfl⟩) | (have k0 : wq.cell? ⟨wr.heap.size, 0, none⟩ = some (.int .u8 wh) := hC.keep (by go_simp); have k1 : wq.cell? ⟨wr.heap.size, 1, none⟩ = some (.slice A2 ls.length c9) := hC.keep (by go_simp); have k2 : wq.cell? ⟨wr.heap.size, 2, none⟩ = some (.int .i64 y) := hC.keep (by go_simp); go_simp; first | done | rfl | exact ⟨rfl, rfl⟩)
              simp only [Act.put, List.setIfInBounds_toArray, List.set_cons_zero, List.set_cons_succ]
              apply wpQ_do
              · rfl
              · intro wq hC; go_light; first | (go_simp; first | done | rfl | exact ⟨rfl, rfl⟩) | (have k0 : wq.cell? ⟨wr.heap.size, 0, none⟩ = some (.int .u8 wh) := hC.keep (by go_simp); have k1 : wq.cell? ⟨wr.heap.size, 1, none⟩ = some (.slice A2 ls.length c9) := hC.keep (by go_simp); have k2 : wq.cell? ⟨wr.heap.size, 2, none⟩ = some (.int .i64 y) := hC.keep (by go_simp); go_simp; first | done | rfl | exact ⟨rfl, rfl⟩)
              simp only [Act.put, List.setIfInBounds_toArray, List.set_cons_zero, List.set_cons_succ]
              apply wpQ_do
              · rfl
              · intro wq hC; go_light; first | (go_simp; first | done | rfl | exact ⟨rfl, rfl⟩) | (have k0 : wq.cell? ⟨wr.heap.size, 0, none⟩ = some (.int .u8 wh) := hC.keep (by go_simp); have k1 : wq.cell? ⟨wr.heap.size, 1, none⟩ = some (.slice A2 ls.length c9) := hC.keep (by go_simp); have k2 : wq.cell? ⟨wr.heap.size, 2, none⟩ = some (.int .i64 y) := hC.keep (by go_simp); go_simp; first | done | rfl | exact ⟨rfl, rfl⟩)
              simp only [Act.put, List.setIfInBounds_toArray, List.set_cons_zero, List.set_cons_succ]
              apply wpQ_do
              · rfl
              · intro wq hC; go_light; first | (go_simp; first | done | rfl | exact ⟨rfl, rfl⟩) | (have k0 : wq.cell? ⟨wr.heap.size, 0, none⟩ = some (.int .u8 wh) := hC.keep (by go_simp); have k1 : wq.cell? ⟨wr.heap.size, 1, none⟩ = some (.slice A2 ls.length c9) := hC.keep (by go_simp); have k2 : wq.cell? ⟨wr.heap.size, 2, none⟩ = some (.int .i64 y) := hC.keep (by go_simp); go_simp; first | done | rfl | exact ⟨rfl, rfl⟩)
              simp only [Act.put, List.setIfInBounds_toArray, List.set_cons_zero, List.set_cons_succ]
              apply wpQ_do
              · rfl
              · intro wq hC; go_light; first | (go_simp; first | done | rfl | exact ⟨rfl, rfl⟩) | (have k0 : wq.cell? ⟨wr.heap.size, 0, none⟩ = some (.int .u8 wh) := hC.keep (by go_simp); have k1 : wq.cell? ⟨wr.heap.size, 1, none⟩ = some (.slice A2 ls.length c9) := hC.keep (by go_simp); have k2 : wq.cell? ⟨wr.heap.size, 2, none⟩ = some (.int .i64 y) := hC.keep (by go_simp); go_simp; first | done | rfl | exact ⟨rfl, rfl⟩)
              simp only [Act.put, List.setIfInBounds_toArray, List.set_cons_zero, List.set_cons_succ]
              apply wpQ_do
              · rfl
              · intro wq hC; go_light; first | (go_simp; first | done | rfl | exact ⟨rfl, rfl⟩) | (have k0 : wq.cell? ⟨wr.heap.size, 0, none⟩ = some (.int .u8 wh) := hC.keep (by go_simp); have k1 : wq.cell? ⟨wr.heap.size, 1, none⟩ = some (.slice A2 ls.length c9) := hC.keep (by go_simp); have k2 : wq.cell? ⟨wr.heap.size, 2, none⟩ = some (.int .i64 y) := hC.keep (by go_simp); go_simp; first | done | rfl | exact ⟨rfl, rfl⟩)
              simp only [Act.put, List.setIfInBounds_toArray, List.set_cons_zero, List.set_cons_succ]
              apply wpQ_do
              · rfl
              · intro wq hC; go_light; first | (go_simp; first | done | rfl | exact ⟨rfl, rfl⟩) | (have k0 : wq.cell? ⟨wr.heap.size, 0, none⟩ = some (.int .u8 wh) := hC.keep (by go_simp); have k1 : wq.cell? ⟨wr.heap.size, 1, none⟩ = some (.slice A2 ls.length c9) := hC.keep (by go_simp); have k2 : wq.cell? ⟨wr.heap.size, 2, none⟩ = some (.int .i64 y) := hC.keep (by go_simp); go_simp; first | done | rfl | exact ⟨rfl, rfl⟩)
              simp only [Act.put, List.setIfInBounds_toArray, List.set_cons_zero, List.set_cons_succ]
              apply wpQ_do
              · rfl
              · intro wq hC; go_light; first | (go_simp; first | done | rfl | exact ⟨rfl, rfl⟩) | (have k0 : wq.cell? ⟨wr.heap.size, 0, none⟩ = some (.int .u8 wh) := hC.keep (by go_simp); have k1 : wq.cell? ⟨wr.heap.size, 1, none⟩ = some (.slice A2 ls.length c9) := hC.keep (by go_simp); have k2 : wq.cell? ⟨wr.heap.size, 2, none⟩ = some (.int .i64 y) := hC.keep (by go_simp); go_simp; first | done | rfl | exact ⟨rfl, rfl⟩)
              simp only [Act.put, List.setIfInBounds_toArray, List.set_cons_zero, List.set_cons_succ]
              apply wpQ_do
              · rfl
              · intro wq hC; go_light; first | (go_simp; first | done | rfl | exact ⟨rfl, rfl⟩) | (have k0 : wq.cell? ⟨wr.heap.size, 0, none⟩ = some (.int .u8 wh) := hC.keep (by go_simp); have k1 : wq.cell? ⟨wr.heap.size, 1, none⟩ = some (.slice A2 ls.length c9) := hC.keep (by go_simp); have k2 : wq.cell? ⟨wr.heap.size, 2, none⟩ = some (.int .i64 y) := hC.keep (by go_simp); go_simp; first | done | rfl | exact ⟨rfl, rfl⟩)
              simp only [Act.put, List.setIfInBounds_toArray, List.set_cons_zero, List.set_cons_succ]
              apply wpQ_nil
              intro w8 hb8
              have hb8 : Below _ _ _ := hb8
              have S8 := Lib.hid (bstep S7.out hb8)
              have D8 := Lib.hid (D7.out.below hb8)
              have c8_0 : w8.cell? ⟨wr.heap.size, 0, none⟩ = some (.int .u8 wh) := keep hb8 (by go_simp)
              have c8_1 : w8.cell? ⟨wr.heap.size, 1, none⟩ = some (.slice A2 ls.length c9) := keep hb8 (by go_simp)
              have c8_2 : w8.cell? ⟨wr.heap.size, 2, none⟩ = some (.int .i64 y) := keep hb8 (by go_simp)
              clear c7_0 c7_1 c7_2
              go_wp2_with fail
              go_roundw
              case rel => exact ⟨k + 1, L - ls.length, v7, _, by omega, by go_num, by go_num, D8.out, S8.out, ⟨hroom, (by simp; omega), by omega, .inl ⟨by omega, rfl, hoff⟩⟩⟩
              case measure => (try simp [intOf]) <;> omega
            · have e4 : decide ((ls.length : Int) ≤ L) = false := by simpa using hen
              have e5 : min (ls.length : Int) L = L := by omega
              have e6 : IntKind.i64.wrap ((d.b.length : Int) + L) = (d.b.length : Int) + L := IntWalk.i64_in _ (by omega)
              go_wp2_with fail
              with_reducible refine Calls.mono (lenE (r := (d.b.length : Int)) _ (HD.out.below (by repeat (first | exact Below.refl _ _ | refine balloc ?_ _ | refine bdrew ?_))) rfl) ?_
              rintro e5 w5 ⟨rfl, hb5⟩
              have S5 := Lib.hid (bstep HS.out (bstep (by repeat (first | exact Below.refl _ _ | refine balloc ?_ _ | refine bdrew ?_)) hb5))
              have D5 := Lib.hid (HD.out.below (bstep (by repeat (first | exact Below.refl _ _ | refine balloc ?_ _ | refine bdrew ?_)) hb5))
              have c5_0 : w5.cell? ⟨wr.heap.size, 0, none⟩ = some (.int .u8 wh) := keep hb5 (by go_simp)
              have c5_1 : w5.cell? ⟨wr.heap.size, 1, none⟩ = some (.slice A2 ls.length c9) := keep hb5 (by go_simp)
              have c5_2 : w5.cell? ⟨wr.heap.size, 2, none⟩ = some (.int .i64 y) := keep hb5 (by go_simp)
              go_wp2_with fail
              with_reducible refine Calls.mono (offE (r := false) _ (D5.out.below (by repeat (first | exact Below.refl _ _ | refine balloc ?_ _ | refine bdrew ?_))) hoff) ?_
              rintro e6 w6 ⟨rfl, hb6⟩
              have S6 := Lib.hid (bstep S5.out (bstep (by repeat (first | exact Below.refl _ _ | refine balloc ?_ _ | refine bdrew ?_)) hb6))
              have D6 := Lib.hid (D5.out.below (bstep (by repeat (first | exact Below.refl _ _ | refine balloc ?_ _ | refine bdrew ?_)) hb6))
              have c6_0 : w6.cell? ⟨wr.heap.size, 0, none⟩ = some (.int .u8 wh) := keep hb6 (by go_simp)
              have c6_1 : w6.cell? ⟨wr.heap.size, 1, none⟩ = some (.slice A2 ls.length c9) := keep hb6 (by go_simp)
              have c6_2 : w6.cell? ⟨wr.heap.size, 2, none⟩ = some (.int .i64 y) := keep hb6 (by go_simp)
              clear c5_0 c5_1 c5_2
              go_wp2_with fail
              with_reducible refine Calls.mono (appE (d2 := { d with b := d.b ++ ls.take L.toNat, left := 0, off := true }) (r := 6) _ (D6.out.below (by repeat (first | exact Below.refl _ _ | refine balloc ?_ _ | refine bdrew ?_))) (HU.out.below (S6.out)) (fun h0 => (D6.out.apart_in (Nat.le_refl _) HU.out h0)) (by rw [app_short hoff (by omega) (by omega) (by omega), hleft])) ?_
              rintro e7 w7 ⟨v7, rfl, hd7, hs7⟩
              have S7 := Lib.hid (DS.toBelow (D6.out.below (by repeat (first | exact Below.refl _ _ | refine balloc ?_ _ | refine bdrew ?_))) (Nat.le_refl _) (bstep S6.out (by repeat (first | exact Below.refl _ _ | refine balloc ?_ _ | refine bdrew ?_))) hs7)
              have c7_0 : w7.cell? ⟨wr.heap.size, 0, none⟩ = some (.int .u8 wh) := hs7.cell (by go_simp) (by have := HB0.out; omega) (fun e => by have := HV0.out _ e.symm; omega)
              have c7_1 : w7.cell? ⟨wr.heap.size, 1, none⟩ = some (.slice A2 ls.length c9) := hs7.cell (by go_simp) (by have := HB0.out; omega) (fun e => by have := HV0.out _ e.symm; omega)
              have c7_2 : w7.cell? ⟨wr.heap.size, 2, none⟩ = some (.int .i64 y) := hs7.cell (by go_simp) (by have := HB0.out; omega) (fun e => by have := HV0.out _ e.symm; omega)
              have D7 := Lib.hid hd7
              clear hd7 hs7
              clear c6_0 c6_1 c6_2
              go_wp2_with fail
              refine wpQ_region (by kernel_rfl) (by kernel_rfl) ?_
              apply wpQ_do
              · rfl
              · intro wq hC; go_light; first | (go_simp; first | done | rfl | exact ⟨rfl, rfl⟩) | (have k0 : wq.cell? ⟨wr.heap.size, 0, none⟩ = some (.int .u8 wh) := hC.keep (by go_simp); have k1 : wq.cell? ⟨wr.heap.size, 1, none⟩ = some (.slice A2 ls.length c9) := hC.keep (by go_simp); have k2 : wq.cell? ⟨wr.heap.size, 2, none⟩ = some (.int .i64 y) := hC.keep (by go_simp); go_simp; first | done | rfl | exact ⟨rfl, rfl⟩)
              simp only [Act.put, List.setIfInBounds_toArray, List.set_cons_zero, List.set_cons_succ]
              apply wpQ_do
              · rfl
              · intro wq hC; go_light; go_simp; refine Calls.mono (lenE (r := (d.b.length : Int) + L) _ (D7.out.below hC) (by simp; omega)) ?_; rintro eq wq2 ⟨rfl, hbq⟩; exact ⟨rfl, hC.step hbq⟩
              simp only [Act.put, List.setIfInBounds_toArray, List.set_cons_zero, List.set_cons_succ]
              apply wpQ_do
              · rfl
              · intro wq hC; go_light; first | (go_simp; first | done | rfl | exact ⟨rfl, rfl⟩) | (have k0 : wq.cell? ⟨wr.heap.size, 0, none⟩ = some (.int .u8 wh) := hC.keep (by go_simp); have k1 : wq.cell? ⟨wr.heap.size, 1, none⟩ = some (.slice A2 ls.length c9) := hC.keep (by go_simp); have k2 : wq.cell? ⟨wr.heap.size, 2, none⟩ = some (.int .i64 y) := hC.keep (by go_simp); go_simp; first | done | rfl | exact ⟨rfl, rfl⟩)
              simp only [Act.put, List.setIfInBounds_toArray, List.set_cons_zero, List.set_cons_succ]
              apply wpQ_do
              · rfl
              · intro wq hC; go_light; first | (go_simp; first | done | rfl | exact ⟨rfl, rfl⟩) | (have k0 : wq.cell? ⟨wr.heap.size, 0, none⟩ = some (.int .u8 wh) := hC.keep (by go_simp); have k1 : wq.cell? ⟨wr.heap.size, 1, none⟩ = some (.slice A2 ls.length c9) := hC.keep (by go_simp); have k2 : wq.cell? ⟨wr.heap.size, 2, none⟩ = some (.int .i64 y) := hC.keep (by go_simp); go_simp; first | done | rfl | exact ⟨rfl, rfl⟩)
              simp only [Act.put, List.setIfInBounds_toArray, List.set_cons_zero, List.set_cons_succ]
              apply wpQ_do
              · rfl
              · intro wq hC; go_light; first | (go_simp; first | done | rfl | exact ⟨rfl, rfl⟩) | (have k0 : wq.cell? ⟨wr.heap.size, 0, none⟩ = some (.int .u8 wh) := hC.keep (by go_simp); have k1 : wq.cell? ⟨wr.heap.size, 1, none⟩ = some (.slice A2 ls.length c9) := hC.keep (by go_simp); have k2 : wq.cell? ⟨wr.heap.size, 2, none⟩ = some (.int .i64 y) := hC.keep (by go_simp); go_simp; first | done | rfl | exact ⟨rfl, rfl⟩)
              simp only [Act.put, List.setIfInBounds_toArray, List.set_cons_zero, List.set_cons_succ]
              apply wpQ_do
              · rfl
              · intro wq hC; go_light; first | (go_simp; first | done | rfl | exact ⟨rfl, rfl⟩) | (have k0 : wq.cell? ⟨wr.heap.size, 0, none⟩ = some (.int .u8 wh) := hC.keep (by go_simp); have k1 : wq.cell? ⟨wr.heap.size, 1, none⟩ = some (.slice A2 ls.length c9) := hC.keep (by go_simp); have k2 : wq.cell? ⟨wr.heap.size, 2, none⟩ = some (.int .i64 y) := hC.keep (by go_simp); go_simp; first | done | rfl | exact ⟨rfl, rfl⟩)
              simp only [Act.put, List.setIfInBounds_toArray, List.set_cons_zero, List.set_cons_succ]
              apply wpQ_do
              · rfl
              · intro wq hC; go_light; first | (go_simp; first | done | rfl | exact ⟨rfl, rfl⟩) | (have k0 : wq.cell? ⟨wr.heap.size, 0, none⟩ = some (.int .u8 wh) := hC.keep (by go_simp); have k1 : wq.cell? ⟨wr.heap.size, 1, none⟩ = some (.slice A2 ls.length c9) := hC.keep (by go_simp); have k2 : wq.cell? ⟨wr.heap.size, 2, none⟩ = some (.int .i64 y) := hC.keep (by go_simp); go_simp; first | done | rfl | exact ⟨rfl, rfl⟩)
              simp only [Act.put, List.setIfInBounds_toArray, List.set_cons_zero, List.set_cons_succ]
              apply wpQ_do
              · rfl
              · intro wq hC; go_light; first | (go_simp; first | done | rfl | exact ⟨rfl, rfl⟩) | (have k0 : wq.cell? ⟨wr.heap.size, 0, none⟩ = some (.int .u8 wh) := hC.keep (by go_simp); have k1 : wq.cell? ⟨wr.heap.size, 1, none⟩ = some (.slice A2 ls.length c9) := hC.keep (by go_simp); have k2 : wq.cell? ⟨wr.heap.size, 2, none⟩ = some (.int .i64 y) := hC.keep (by go_simp); go_simp; first | done | rfl | exact ⟨rfl, rfl⟩)
              simp only [Act.put, List.setIfInBounds_toArray, List.set_cons_zero, List.set_cons_succ]
              apply wpQ_do
              · rfl
              · intro wq hC; go_light; first | (go_simp; first | done | rfl | exact ⟨rfl, rfl⟩) | (have k0 : wq.cell? ⟨wr.heap.size, 0, none⟩ = some (.int .u8 wh) := hC.keep (by go_simp); have k1 : wq.cell? ⟨wr.heap.size, 1, none⟩ = some (.slice A2 ls.length c9) := hC.keep (by go_simp); have k2 : wq.cell? ⟨wr.heap.size, 2, none⟩ = some (.int .i64 y) := hC.keep (by go_simp); go_simp; first | done | rfl | exact ⟨rfl, rfl⟩)
              simp only [Act.put, List.setIfInBounds_toArray, List.set_cons_zero, List.set_cons_succ]
              apply wpQ_do
              · rfl
              · intro wq hC; go_light; first | (go_simp; first | done | rfl | exact ⟨rfl, rfl⟩) | (have k0 : wq.cell? ⟨wr.heap.size, 0, none⟩ = some (.int .u8 wh) := hC.keep (by go_simp); have k1 : wq.cell? ⟨wr.heap.size, 1, none⟩ = some (.slice A2 ls.length c9) := hC.keep (by go_simp); have k2 : wq.cell? ⟨wr.heap.size, 2, none⟩ = some (.int .i64 y) := hC.keep (by go_simp); go_simp; first | done | rfl | exact ⟨rfl, rfl⟩)
              simp only [Act.put, List.setIfInBounds_toArray, List.set_cons_zero, List.set_cons_succ]
              apply wpQ_do
              · rfl
              · intro wq hC; go_light; first | (go_simp; first | done | rfl | exact ⟨rfl, rfl⟩) | (have k0 : wq.cell? ⟨wr.heap.size, 0, none⟩ = some (.int .u8 wh) := hC.keep (by go_simp); have k1 : wq.cell? ⟨wr.heap.size, 1, none⟩ = some (.slice A2 ls.length c9) := hC.keep (by go_simp); have k2 : wq.cell? ⟨wr.heap.size, 2, none⟩ = some (.int .i64 y) := hC.keep (by go_simp); go_simp; first | done | rfl | exact ⟨rfl, rfl⟩)
              simp only [Act.put, List.setIfInBounds_toArray, List.set_cons_zero, List.set_cons_succ]
              apply wpQ_do
              · rfl
              · intro wq hC; go_light; first | (go_simp; first | done | rfl | exact ⟨rfl, rfl⟩) | (have k0 : wq.cell? ⟨wr.heap.size, 0, none⟩ = some (.int .u8 wh) := hC.keep (by go_simp); have k1 : wq.cell? ⟨wr.heap.size, 1, none⟩ = some (.slice A2 ls.length c9) := hC.keep (by go_simp); have k2 : wq.cell? ⟨wr.heap.size, 2, none⟩ = some (.int .i64 y) := hC.keep (by go_simp); go_simp; first | done | rfl | exact ⟨rfl, rfl⟩)
              simp only [Act.put, List.setIfInBounds_toArray, List.set_cons_zero, List.set_cons_succ]
              apply wpQ_do
              · rfl
              · intro wq hC; go_light; first | (go_simp; first | done | rfl | exact ⟨rfl, rfl⟩) | (have k0 : wq.cell? ⟨wr.heap.size, 0, none⟩ = some (.int .u8 wh) := hC.keep (by go_simp); have k1 : wq.cell? ⟨wr.heap.size, 1, none⟩ = some (.slice A2 ls.length c9) := hC.keep (by go_simp); have k2 : wq.cell? ⟨wr.heap.size, 2, none⟩ = some (.int .i64 y) := hC.keep (by go_simp); go_simp; first | done | rfl | exact ⟨rfl, rfl⟩)
              simp only [Act.put, List.setIfInBounds_toArray, List.set_cons_zero, List.set_cons_succ]
              apply wpQ_do
              · rfl
              · intro wq hC; go_light; first | (go_simp; first | done | rfl | exact ⟨rfl, rfl⟩) | (have k0 : wq.cell? ⟨wr.heap.size, 0, none⟩ = some (.int .u8 wh) := hC.keep (by go_simp); have k1 : wq.cell? ⟨wr.heap.size, 1, none⟩ = some (.slice A2 ls.length c9) := hC.keep (by go_simp); have k2 : wq.cell? ⟨wr.heap.size, 2, none⟩ = some (.int .i64 y) := hC.keep (by go_simp); go_simp; first | done | rfl | exact ⟨rfl, rfl⟩)
              simp only [Act.put, List.setIfInBounds_toArray, List.set_cons_zero, List.set_cons_succ]
              apply wpQ_do
              · rfl
              · intro wq hC; go_light; first | (go_simp; first | done | rfl | exact ⟨rfl, rfl⟩) | (have k0 : wq.cell? ⟨wr.heap.size, 0, none⟩ = some (.int .u8 wh) := hC.keep (by go_simp); have k1 : wq.cell? ⟨wr.heap.size, 1, none⟩ = some (.slice A2 ls.length c9) := hC.keep (by go_simp); have k2 : wq.cell? ⟨wr.heap.size, 2, none⟩ = some (.int .i64 y) := hC.keep (by go_simp); go_simp; first | done | rfl | exact ⟨rfl, rfl⟩)
              simp only [Act.put, List.setIfInBounds_toArray, List.set_cons_zero, List.set_cons_succ]
              apply wpQ_do
              · rfl
              · intro wq hC; go_light; first | (go_simp; first | done | rfl | exact ⟨rfl, rfl⟩) | (have k0 : wq.cell? ⟨wr.heap.size, 0, none⟩ = some (.int .u8 wh) := hC.keep (by go_simp); have k1 : wq.cell? ⟨wr.heap.size, 1, none⟩ = some (.slice A2 ls.length c9) := hC.keep (by go_simp); have k2 : wq.cell? ⟨wr.heap.size, 2, none⟩ = some (.int .i64 y) := hC.keep (by go_simp); go_simp; first | done | rfl | exact ⟨rfl, rfl⟩)
              simp only [Act.put, List.setIfInBounds_toArray, List.set_cons_zero, List.set_cons_succ]
              apply wpQ_do
              · rfl
              · intro wq hC; go_light; first | (go_simp; first | done | rfl | exact ⟨rfl, rfl⟩) | (have k0 : wq.cell? ⟨wr.heap.size, 0, none⟩ = some (.int .u8 wh) := hC.keep (by go_simp); have k1 : wq.cell? ⟨wr.heap.size, 1, none⟩ = some (.slice A2 ls.length c9) := hC.keep (by go_simp); have k2 : wq.cell? ⟨wr.heap.size, 2, none⟩ = some (.int .i64 y) := hC.keep (by go_simp); go_simp; first | done | rfl | exact ⟨rfl, rfl⟩)
              simp only [Act.put, List.setIfInBounds_toArray, List.set_cons_zero, List.set_cons_succ]
              apply wpQ_do
              · rfl
              · intro wq hC; go_light; first | (go_simp; first | done | rfl | exact ⟨rfl, rfl⟩) | (have k0 : wq.cell? ⟨wr.heap.size, 0, none⟩ = some (.int .u8 wh) := hC.keep (by go_simp); have k1 : wq.cell? ⟨wr.heap.size, 1, none⟩ = some (.slice A2 ls.length c9) := hC.keep (by go_simp); have k2 : wq.cell? ⟨wr.heap.size, 2, none⟩ = some (.int .i64 y) := hC.keep (by go_simp); go_simp; first | done | rfl | exact ⟨rfl, rfl⟩)
              simp only [Act.put, List.setIfInBounds_toArray, List.set_cons_zero, List.set_cons_succ]
              apply wpQ_do
              · rfl
              · intro wq hC; go_light; first | (go_simp; first | done | rfl | exact ⟨rfl, rfl⟩) | (have k0 : wq.cell? ⟨wr.heap.size, 0, none⟩ = some (.int .u8 wh) := hC.keep (by go_simp); have k1 : wq.cell? ⟨wr.heap.size, 1, none⟩ = some (.slice A2 ls.length c9) := hC.keep (by go_simp); have k2 : wq.cell? ⟨wr.heap.size, 2, none⟩ = some (.int .i64 y) := hC.keep (by go_simp); go_simp; first | done | rfl | exact ⟨rfl, rfl⟩)
              simp only [Act.put, List.setIfInBounds_toArray, List.set_cons_zero, List.set_cons_succ]
              apply wpQ_do
              · rfl
              · intro wq hC; go_light; first | (go_simp; first | done | rfl | exact ⟨rfl, rfl⟩) | (have k0 : wq.cell? ⟨wr.heap.size, 0, none⟩ = some (.int .u8 wh) := hC.keep (by go_simp); have k1 : wq.cell? ⟨wr.heap.size, 1, none⟩ = some (.slice A2 ls.length c9) := hC.keep (by go_simp); have k2 : wq.cell? ⟨wr.heap.size, 2, none⟩ = some (.int .i64 y) := hC.keep (by go_simp); go_simp; first | done | rfl | exact ⟨rfl, rfl⟩)
              simp only [Act.put, List.setIfInBounds_toArray, List.set_cons_zero, List.set_cons_succ]
              apply wpQ_do
              · rfl
              · intro wq hC; go_light; first | (go_simp; first | done | rfl | exact ⟨rfl, rfl⟩) | (have k0 : wq.cell? ⟨wr.heap.size, 0, none⟩ = some (.int .u8 wh) := hC.keep (by go_simp); have k1 : wq.cell? ⟨wr.heap.size, 1, none⟩ = some (.slice A2 ls.length c9) := hC.keep (by go_simp); have k2 : wq.cell? ⟨wr.heap.size, 2, none⟩ = some (.int .i64 y) := hC.keep (by go_simp); go_simp; first | done | rfl | exact ⟨rfl, rfl⟩)
              simp only [Act.put, List.setIfInBounds_toArray, List.set_cons_zero, List.set_cons_succ]
              apply wpQ_do
              · rfl
              · intro wq hC; go_light; first | (go_simp; first | done | rfl | exact ⟨rfl, rfl⟩) | (have k0 : wq.cell? ⟨wr.heap.size, 0, none⟩ = some (.int .u8 wh) := hC.keep (by go_simp); have k1 : wq.cell? ⟨wr.heap.size, 1, none⟩ = some (.slice A2 ls.length c9) := hC.keep (by go_simp); have k2 : wq.cell? ⟨wr.heap.size, 2, none⟩ = some (.int .i64 y) := hC.keep (by go_simp); go_simp; first | done | rfl | exact ⟨rfl, rfl⟩)
              simp only [Act.put, List.setIfInBounds_toArray, List.set_cons_zero, List.set_cons_succ]
              apply wpQ_do
              · rfl
              · intro wq hC; go_light; first | (go_simp; first | done | rfl | exact ⟨rfl, rfl⟩) | (have k0 : wq.cell? ⟨wr.heap.size, 0, none⟩ = some (.int .u8 wh) := hC.keep (by go_simp); have k1 : wq.cell? ⟨wr.heap.size, 1, none⟩ = some (.slice A2 ls.length c9) := hC.keep (by go_simp); have k2 : wq.cell? ⟨wr.heap.size, 2, none⟩ = some (.int .i64 y) := hC.keep (by go_simp); go_simp; first | done | rfl | exact ⟨rfl, rfl⟩)
              simp only [Act.put, List.setIfInBounds_toArray, List.set_cons_zero, List.set_cons_succ]
              apply wpQ_do
              · rfl
              · intro wq hC; go_light; first | (go_simp; first | done | rfl | exact ⟨rfl, rfl⟩) | (have k0 : wq.cell? ⟨wr.heap.size, 0, none⟩ = some (.int .u8 wh) := hC.keep (by go_simp); have k1 : wq.cell? ⟨wr.heap.size, 1, none⟩ = some (.slice A2 ls.length c9) := hC.keep (by go_simp); have k2 : wq.cell? ⟨wr.heap.size, 2, none⟩ = some (.int .i64 y) := hC.keep (by go_simp); go_simp; first | done | rfl | exact ⟨rfl, rfl⟩)
              simp only [Act.put, List.setIfInBounds_toArray, List.set_cons_zero, List.set_cons_succ]
              apply wpQ_do
              · rfl
              · intro wq hC; go_light; first | (go_simp; first | done | rfl | exact ⟨rfl, rfl⟩) | (have k0 : wq.cell? ⟨wr.heap.size, 0, none⟩ = some (.int .u8 wh) := hC.keep (by go_simp); have k1 : wq.cell? ⟨wr.heap.size, 1, none⟩ = some (.slice A2 ls.length c9) := hC.keep (by go_simp); have k2 : wq.cell? ⟨wr.heap.size, 2, none⟩ = some (.int .i64 y) := hC.keep (by go_simp); go_simp; first | done | rfl | exact ⟨rfl, rfl⟩)
              simp only [Act.put, List.setIfInBounds_toArray, List.set_cons_zero, List.set_cons_succ]
              apply wpQ_nil
              intro w8 hb8
              have hb8 : Below _ _ _ := hb8
              have S8 := Lib.hid (bstep S7.out hb8)
              have D8 := Lib.hid (D7.out.below hb8)
              have c8_0 : w8.cell? ⟨wr.heap.size, 0, none⟩ = some (.int .u8 wh) := keep hb8 (by go_simp)
              have c8_1 : w8.cell? ⟨wr.heap.size, 1, none⟩ = some (.slice A2 ls.length c9) := keep hb8 (by go_simp)
              have c8_2 : w8.cell? ⟨wr.heap.size, 2, none⟩ = some (.int .i64 y) := keep hb8 (by go_simp)
              clear c7_0 c7_1 c7_2
              go_wp2_with fail
              go_roundw
              case rel => exact ⟨k + 1, L - ls.length, v7, _, by omega, by go_num, by go_num, D8.out, S8.out, ⟨hroom, (by simp; omega), by omega, .inr ⟨by omega, rfl⟩⟩⟩
              case measure => (try simp [intOf]) <;> omega
          · have e1 : decide (L < 0) = true := by simpa using hLn
            have e2 : decide (0 ≤ L) = false := by simp; omega
            have e3 : max L 0 = 0 := by omega
            have e5 : min (ls.length : Int) 0 = 0 := by omega
            have e6 : IntKind.i64.wrap (d.b.length : Int) = (d.b.length : Int) := IntWalk.i64_in _ (by omega)
            go_wp2_with fail
            with_reducible refine Calls.mono (lenE (r := (d.b.length : Int)) _ (HD.out.below (by repeat (first | exact Below.refl _ _ | refine balloc ?_ _ | refine bdrew ?_))) rfl) ?_
            rintro e5 w5 ⟨rfl, hb5⟩
            have S5 := Lib.hid (bstep HS.out (bstep (by repeat (first | exact Below.refl _ _ | refine balloc ?_ _ | refine bdrew ?_)) hb5))
            have D5 := Lib.hid (HD.out.below (bstep (by repeat (first | exact Below.refl _ _ | refine balloc ?_ _ | refine bdrew ?_)) hb5))
            have c5_0 : w5.cell? ⟨wr.heap.size, 0, none⟩ = some (.int .u8 wh) := keep hb5 (by go_simp)
            have c5_1 : w5.cell? ⟨wr.heap.size, 1, none⟩ = some (.slice A2 ls.length c9) := keep hb5 (by go_simp)
            have c5_2 : w5.cell? ⟨wr.heap.size, 2, none⟩ = some (.int .i64 y) := keep hb5 (by go_simp)
            go_wp2_with fail
            with_reducible refine Calls.mono (offE (r := true) _ (D5.out.below (by repeat (first | exact Below.refl _ _ | refine balloc ?_ _ | refine bdrew ?_))) hoff) ?_
            rintro e6 w6 ⟨rfl, hb6⟩
            have S6 := Lib.hid (bstep S5.out (bstep (by repeat (first | exact Below.refl _ _ | refine balloc ?_ _ | refine bdrew ?_)) hb6))
            have D6 := Lib.hid (D5.out.below (bstep (by repeat (first | exact Below.refl _ _ | refine balloc ?_ _ | refine bdrew ?_)) hb6))
            have c6_0 : w6.cell? ⟨wr.heap.size, 0, none⟩ = some (.int .u8 wh) := keep hb6 (by go_simp)
            have c6_1 : w6.cell? ⟨wr.heap.size, 1, none⟩ = some (.slice A2 ls.length c9) := keep hb6 (by go_simp)
            have c6_2 : w6.cell? ⟨wr.heap.size, 2, none⟩ = some (.int .i64 y) := keep hb6 (by go_simp)
            clear c5_0 c5_1 c5_2
            go_wp2_with fail
            with_reducible refine Calls.mono (appE (d2 := d) (r := 6) _ (D6.out.below (by repeat (first | exact Below.refl _ _ | refine balloc ?_ _ | refine bdrew ?_))) (HU.out.below (S6.out)) (fun h0 => (D6.out.apart_in (Nat.le_refl _) HU.out h0)) (app_off hoff)) ?_
            rintro e7 w7 ⟨v7, rfl, hd7, hs7⟩
            have S7 := Lib.hid (DS.toBelow (D6.out.below (by repeat (first | exact Below.refl _ _ | refine balloc ?_ _ | refine bdrew ?_))) (Nat.le_refl _) (bstep S6.out (by repeat (first | exact Below.refl _ _ | refine balloc ?_ _ | refine bdrew ?_))) hs7)
            have c7_0 : w7.cell? ⟨wr.heap.size, 0, none⟩ = some (.int .u8 wh) := hs7.cell (by go_simp) (by have := HB0.out; omega) (fun e => by have := HV0.out _ e.symm; omega)
            have c7_1 : w7.cell? ⟨wr.heap.size, 1, none⟩ = some (.slice A2 ls.length c9) := hs7.cell (by go_simp) (by have := HB0.out; omega) (fun e => by have := HV0.out _ e.symm; omega)
            have c7_2 : w7.cell? ⟨wr.heap.size, 2, none⟩ = some (.int .i64 y) := hs7.cell (by go_simp) (by have := HB0.out; omega) (fun e => by have := HV0.out _ e.symm; omega)
            have D7 := Lib.hid hd7
            clear hd7 hs7
            clear c6_0 c6_1 c6_2
            go_wp2_with fail
            refine wpQ_region (by kernel_rfl) (by kernel_rfl) ?_
            apply wpQ_do
            · rfl
            · intro wq hC; go_light; first | (go_simp; first | done | rfl | exact ⟨rfl, rfl⟩) | (have k0 : wq.cell? ⟨wr.heap.size, 0, none⟩ = some (.int .u8 wh) := hC.keep (by go_simp); have k1 : wq.cell? ⟨wr.heap.size, 1, none⟩ = some (.slice A2 ls.length c9) := hC.keep (by go_simp); have k2 : wq.cell? ⟨wr.heap.size, 2, none⟩ = some (.int .i64 y) := hC.keep (by go_simp); go_simp; first | done | rfl | exact ⟨rfl, rfl⟩)
            simp only [Act.put, List.setIfInBounds_toArray, List.set_cons_zero, List.set_cons_succ]
            apply wpQ_do
            · rfl
            · intro wq hC; go_light; go_simp; refine Calls.mono (lenE (r := (d.b.length : Int)) _ (D7.out.below hC) (rfl)) ?_; rintro eq wq2 ⟨rfl, hbq⟩; exact ⟨rfl, hC.step hbq⟩
            simp only [Act.put, List.setIfInBounds_toArray, List.set_cons_zero, List.set_cons_succ]
            apply wpQ_do
            · rfl
            · intro wq hC; go_light; first | (go_simp; first | done | rfl | exact ⟨rfl, rfl⟩) | (have k0 : wq.cell? ⟨wr.heap.size, 0, none⟩ = some (.int .u8 wh) := hC.keep (by go_simp); have k1 : wq.cell? ⟨wr.heap.size, 1, none⟩ = some (.slice A2 ls.length c9) := hC.keep (by go_simp); have k2 : wq.cell? ⟨wr.heap.size, 2, none⟩ = some (.int .i64 y) := hC.keep (by go_simp); go_simp; first | done | rfl | exact ⟨rfl, rfl⟩)
            simp only [Act.put, List.setIfInBounds_toArray, List.set_cons_zero, List.set_cons_succ]
            apply wpQ_do
            · rfl
            · intro wq hC; go_light; first | (go_simp; first | done | rfl | exact ⟨rfl, rfl⟩) | (have k0 : wq.cell? ⟨wr.heap.size, 0, none⟩ = some (.int .u8 wh) := hC.keep (by go_simp); have k1 : wq.cell? ⟨wr.heap.size, 1, none⟩ = some (.slice A2 ls.length c9) := hC.keep (by go_simp); have k2 : wq.cell? ⟨wr.heap.size, 2, none⟩ = some (.int .i64 y) := hC.keep (by go_simp); go_simp; first | done | rfl | exact ⟨rfl, rfl⟩)
            simp only [Act.put, List.setIfInBounds_toArray, List.set_cons_zero, List.set_cons_succ]
            apply wpQ_do
            · rfl
            · intro wq hC; go_light; first | (go_simp; first | done | rfl | exact ⟨rfl, rfl⟩) | (have k0 : wq.cell? ⟨wr.heap.size, 0, none⟩ = some (.int .u8 wh) := hC.keep (by go_simp); have k1 : wq.cell? ⟨wr.heap.size, 1, none⟩ = some (.slice A2 ls.length c9) := hC.keep (by go_simp); have k2 : wq.cell? ⟨wr.heap.size, 2, none⟩ = some (.int .i64 y) := hC.keep (by go_simp); go_simp; first | done | rfl | exact ⟨rfl, rfl⟩)
            simp only [Act.put, List.setIfInBounds_toArray, List.set_cons_zero, List.set_cons_succ]
            apply wpQ_do
            · rfl
            · intro wq hC; go_light; first | (go_simp; first | done | rfl | exact ⟨rfl, rfl⟩) | (have k0 : wq.cell? ⟨wr.heap.size, 0, none⟩ = some (.int .u8 wh) := hC.keep (by go_simp); have k1 : wq.cell? ⟨wr.heap.size, 1, none⟩ = some (.slice A2 ls.length c9) := hC.keep (by go_simp); have k2 : wq.cell? ⟨wr.heap.size, 2, none⟩ = some (.int .i64 y) := hC.keep (by go_simp); go_simp; first | done | rfl | exact ⟨rfl, rfl⟩)
            simp only [Act.put, List.setIfInBounds_toArray, List.set_cons_zero, List.set_cons_succ]
            apply wpQ_do
            · rfl
            · intro wq hC; go_light; first | (go_simp; first | done | rfl | exact ⟨rfl, rfl⟩) | (have k0 : wq.cell? ⟨wr.heap.size, 0, none⟩ = some (.int .u8 wh) := hC.keep (by go_simp); have k1 : wq.cell? ⟨wr.heap.size, 1, none⟩ = some (.slice A2 ls.length c9) := hC.keep (by go_simp); have k2 : wq.cell? ⟨wr.heap.size, 2, none⟩ = some (.int .i64 y) := hC.keep (by go_simp); go_simp; first | done | rfl | exact ⟨rfl, rfl⟩)
            simp only [Act.put, List.setIfInBounds_toArray, List.set_cons_zero, List.set_cons_succ]
            apply wpQ_do
            · rfl
            · intro wq hC; go_light; first | (go_simp; first | done | rfl | exact ⟨rfl, rfl⟩) | (have k0 : wq.cell? ⟨wr.heap.size, 0, none⟩ = some (.int .u8 wh) := hC.keep (by go_simp); have k1 : wq.cell? ⟨wr.heap.size, 1, none⟩ = some (.slice A2 ls.length c9) := hC.keep (by go_simp); have k2 : wq.cell? ⟨wr.heap.size, 2, none⟩ = some (.int .i64 y) := hC.keep (by go_simp); go_simp; first | done | rfl | exact ⟨rfl, rfl⟩)
            simp only [Act.put, List.setIfInBounds_toArray, List.set_cons_zero, List.set_cons_succ]
            apply wpQ_do
            · rfl
            · intro wq hC; go_light; first | (go_simp; first | done | rfl | exact ⟨rfl, rfl⟩) | (have k0 : wq.cell? ⟨wr.heap.size, 0, none⟩ = some (.int .u8 wh) := hC.keep (by go_simp); have k1 : wq.cell? ⟨wr.heap.size, 1, none⟩ = some (.slice A2 ls.length c9) := hC.keep (by go_simp); have k2 : wq.cell? ⟨wr.heap.size, 2, none⟩ = some (.int .i64 y) := hC.keep (by go_simp); go_simp; first | done | rfl | exact ⟨rfl, rfl⟩)
            simp only [Act.put, List.setIfInBounds_toArray, List.set_cons_zero, List.set_cons_succ]
            apply wpQ_do
            · rfl
            · intro wq hC; go_light; first | (go_simp; first | done | rfl | exact ⟨rfl, rfl⟩) | (have k0 : wq.cell? ⟨wr.heap.size, 0, none⟩ = some (.int .u8 wh) := hC.keep (by go_simp); have k1 : wq.cell? ⟨wr.heap.size, 1, none⟩ = some (.slice A2 ls.length c9) := hC.keep (by go_simp); have k2 : wq.cell? ⟨wr.heap.size, 2, none⟩ = some (.int .i64 y) := hC.keep (by go_simp); go_simp; first | done | rfl | exact ⟨rfl, rfl⟩)
            simp only [Act.put, List.setIfInBounds_toArray, List.set_cons_zero, List.set_cons_succ]
            apply wpQ_do
            · rfl
            · intro wq hC; go_light; first | (go_simp; first | done | rfl | exact ⟨rfl, rfl⟩) | (have k0 : wq.cell? ⟨wr.heap.size, 0, none⟩ = some (.int .u8 wh) := hC.keep (by go_simp); have k1 : wq.cell? ⟨wr.heap.size, 1, none⟩ = some (.slice A2 ls.length c9) := hC.keep (by go_simp); have k2 : wq.cell? ⟨wr.heap.size, 2, none⟩ = some (.int .i64 y) := hC.keep (by go_simp); go_simp; first | done | rfl | exact ⟨rfl, rfl⟩)
            simp only [Act.put, List.setIfInBounds_toArray, List.set_cons_zero, List.set_cons_succ]
            apply wpQ_do
            · rfl
            · intro wq hC; go_light; first | (go_simp; first | done | rfl | exact ⟨rfl, rfl⟩) | (have k0 : wq.cell? ⟨wr.heap.size, 0, none⟩ = some (.int .u8 wh) := hC.keep (by go_simp); have k1 : wq.cell? ⟨wr.heap.size, 1, none⟩ = some (.slice A2 ls.length c9) := hC.keep (by go_simp); have k2 : wq.cell? ⟨wr.heap.size, 2, none⟩ = some (.int .i64 y) := hC.keep (by go_simp); go_simp; first | done | rfl | exact ⟨rfl, rfl⟩)
            simp only [Act.put, List.setIfInBounds_toArray, List.set_cons_zero, List.set_cons_succ]
            apply wpQ_do
            · rfl
            · intro wq hC; go_light; first | (go_simp; first | done | rfl | exact ⟨rfl, rfl⟩) | (have k0 : wq.cell? ⟨wr.heap.size, 0, none⟩ = some (.int .u8 wh) := hC.keep (by go_simp); have k1 : wq.cell? ⟨wr.heap.size, 1, none⟩ = some (.slice A2 ls.length c9) := hC.keep (by go_simp); have k2 : wq.cell? ⟨wr.heap.size, 2, none⟩ = some (.int .i64 y) := hC.keep (by go_simp); go_simp; first | done | rfl | exact ⟨rfl, rfl⟩)
            simp only [Act.put, List.setIfInBounds_toArray, List.set_cons_zero, List.set_cons_succ]
            apply wpQ_do
            · rfl
            · intro wq hC; go_light; first | (go_simp; first | done | rfl | exact ⟨rfl, rfl⟩) | (have k0 : wq.cell? ⟨wr.heap.size, 0, none⟩ = some (.int .u8 wh) := hC.keep (by go_simp); have k1 : wq.cell? ⟨wr.heap.size, 1, none⟩ = some (.slice A2 ls.length c9) := hC.keep (by go_simp); have k2 : wq.cell? ⟨wr.heap.size, 2, none⟩ = some (.int .i64 y) := hC.keep (by go_simp); go_simp; first | done | rfl | exact ⟨rfl, rfl⟩)
            simp only [Act.put, List.setIfInBounds_toArray, List.set_cons_zero, List.set_cons_succ]
            apply wpQ_do
            · rfl
            · intro wq hC; go_light; first | (go_simp; first | done | rfl | exact ⟨rfl, rfl⟩) | (have k0 : wq.cell? ⟨wr.heap.size, 0, none⟩ = some (.int .u8 wh) := hC.keep (by go_simp); have k1 : wq.cell? ⟨wr.heap.size, 1, none⟩ = some (.slice A2 ls.length c9) := hC.keep (by go_simp); have k2 : wq.cell? ⟨wr.heap.size, 2, none⟩ = some (.int .i64 y) := hC.keep (by go_simp); go_simp; first | done | rfl | exact ⟨rfl, rfl⟩)
            simp only [Act.put, List.setIfInBounds_toArray, List.set_cons_zero, List.set_cons_succ]
            apply wpQ_do
            · rfl
            · intro wq hC; go_light; first | (go_simp; first | done | rfl | exact ⟨rfl, rfl⟩) | (have k0 : wq.cell? ⟨wr.heap.size, 0, none⟩ = some (.int .u8 wh) := hC.keep (by go_simp); have k1 : wq.cell? ⟨wr.heap.size, 1, none⟩ = some (.slice A2 ls.length c9) := hC.keep (by go_simp); have k2 : wq.cell? ⟨wr.heap.size, 2, none⟩ = some (.int .i64 y) := hC.keep (by go_simp); go_simp; first | done | rfl | exact ⟨rfl, rfl⟩)
            simp only [Act.put, List.setIfInBounds_toArray, List.set_cons_zero, List.set_cons_succ]
            apply wpQ_do
            · rfl
            · intro wq hC; go_light; first | (go_simp; first | done | rfl | exact ⟨rfl, rfl⟩) | (have k0 : wq.cell? ⟨wr.heap.size, 0, none⟩ = some (.int .u8 wh) := hC.keep (by go_simp); have k1 : wq.cell? ⟨wr.heap.size, 1, none⟩ = some (.slice A2 ls.length c9) := hC.keep (by go_simp); have k2 : wq.cell? ⟨wr.heap.size, 2, none⟩ = some (.int .i64 y) := hC.keep (by go_simp); go_simp; first | done | rfl | exact ⟨rfl, rfl⟩)
            simp only [Act.put, List.setIfInBounds_toArray, List.set_cons_zero, List.set_cons_succ]
            apply wpQ_not
            · rfl
            simp only [Act.put, List.setIfInBounds_toArray, List.set_cons_zero, List.set_cons_succ]
            apply wpQ_not
            · rfl
            simp only [Act.put, List.setIfInBounds_toArray, List.set_cons_zero, List.set_cons_succ]
            apply wpQ_not
            · rfl
            simp only [Act.put, List.setIfInBounds_toArray, List.set_cons_zero, List.set_cons_succ]
            apply wpQ_not
            · rfl
            simp only [Act.put, List.setIfInBounds_toArray, List.set_cons_zero, List.set_cons_succ]
            apply wpQ_not
            · rfl
            simp only [Act.put, List.setIfInBounds_toArray, List.set_cons_zero, List.set_cons_succ]
            apply wpQ_do
            · rfl
            · intro wq hC; go_light; first | (go_simp; first | done | rfl | exact ⟨rfl, rfl⟩) | (have k0 : wq.cell? ⟨wr.heap.size, 0, none⟩ = some (.int .u8 wh) := hC.keep (by go_simp); have k1 : wq.cell? ⟨wr.heap.size, 1, none⟩ = some (.slice A2 ls.length c9) := hC.keep (by go_simp); have k2 : wq.cell? ⟨wr.heap.size, 2, none⟩ = some (.int .i64 y) := hC.keep (by go_simp); go_simp; first | done | rfl | exact ⟨rfl, rfl⟩)
            simp only [Act.put, List.setIfInBounds_toArray, List.set_cons_zero, List.set_cons_succ]
            apply wpQ_do
            · rfl
            · intro wq hC; go_light; first | (go_simp; first | done | rfl | exact ⟨rfl, rfl⟩) | (have k0 : wq.cell? ⟨wr.heap.size, 0, none⟩ = some (.int .u8 wh) := hC.keep (by go_simp); have k1 : wq.cell? ⟨wr.heap.size, 1, none⟩ = some (.slice A2 ls.length c9) := hC.keep (by go_simp); have k2 : wq.cell? ⟨wr.heap.size, 2, none⟩ = some (.int .i64 y) := hC.keep (by go_simp); go_simp; first | done | rfl | exact ⟨rfl, rfl⟩)
            simp only [Act.put, List.setIfInBounds_toArray, List.set_cons_zero, List.set_cons_succ]
            apply wpQ_do
            · rfl
            · intro wq hC; go_light; first | (go_simp; first | done | rfl | exact ⟨rfl, rfl⟩) | (have k0 : wq.cell? ⟨wr.heap.size, 0, none⟩ = some (.int .u8 wh) := hC.keep (by go_simp); have k1 : wq.cell? ⟨wr.heap.size, 1, none⟩ = some (.slice A2 ls.length c9) := hC.keep (by go_simp); have k2 : wq.cell? ⟨wr.heap.size, 2, none⟩ = some (.int .i64 y) := hC.keep (by go_simp); go_simp; first | done | rfl | exact ⟨rfl, rfl⟩)
            simp only [Act.put, List.setIfInBounds_toArray, List.set_cons_zero, List.set_cons_succ]
            apply wpQ_nil
            intro w8 hb8
            have hb8 : Below _ _ _ := hb8
            have S8 := Lib.hid (bstep S7.out hb8)
            have D8 := Lib.hid (D7.out.below hb8)
            have c8_0 : w8.cell? ⟨wr.heap.size, 0, none⟩ = some (.int .u8 wh) := keep hb8 (by go_simp)
            have c8_1 : w8.cell? ⟨wr.heap.size, 1, none⟩ = some (.slice A2 ls.length c9) := keep hb8 (by go_simp)
            have c8_2 : w8.cell? ⟨wr.heap.size, 2, none⟩ = some (.int .i64 y) := keep hb8 (by go_simp)
            clear c7_0 c7_1 c7_2
            go_wp2_with fail
            go_roundw
            case rel => exact ⟨k + 1, L, v7, _, by omega, by go_num, by go_num, D8.out, S8.out, ⟨hroom, (by omega), by omega, .inr ⟨by omega, hoff⟩⟩⟩
            case measure => (try simp [intOf]) <;> omega
        · skip
          rcases hst with ⟨hLp, hleft, hoff⟩ | ⟨hLn, hoff⟩
          · have e1 : decide (L < 0) = false := by simpa using hLp
            have e2 : decide (0 ≤ L) = true := by simpa using hLp
            have e3 : max L 0 = L := by omega
            by_cases hz : L = 0
            · subst hz
              skip
              go_wp2_with fail
              with_reducible refine Calls.mono (lenE (r := (d.b.length : Int)) _ (HD.out.below (by repeat (first | exact Below.refl _ _ | refine balloc ?_ _ | refine bdrew ?_))) rfl) ?_
              rintro e5 w5 ⟨rfl, hb5⟩
              have S5 := Lib.hid (bstep HS.out (bstep (by repeat (first | exact Below.refl _ _ | refine balloc ?_ _ | refine bdrew ?_)) hb5))
              have D5 := Lib.hid (HD.out.below (bstep (by repeat (first | exact Below.refl _ _ | refine balloc ?_ _ | refine bdrew ?_)) hb5))
              have c5_0 : w5.cell? ⟨wr.heap.size, 0, none⟩ = some (.int .u8 wh) := keep hb5 (by go_simp)
              have c5_1 : w5.cell? ⟨wr.heap.size, 1, none⟩ = some (.slice A2 ls.length c9) := keep hb5 (by go_simp)
              have c5_2 : w5.cell? ⟨wr.heap.size, 2, none⟩ = some (.int .i64 y) := keep hb5 (by go_simp)
              go_wp2_with fail
              with_reducible refine Calls.mono (offE (r := false) _ (D5.out.below (by repeat (first | exact Below.refl _ _ | refine balloc ?_ _ | refine bdrew ?_))) hoff) ?_
              rintro e6 w6 ⟨rfl, hb6⟩
              have S6 := Lib.hid (bstep S5.out (bstep (by repeat (first | exact Below.refl _ _ | refine balloc ?_ _ | refine bdrew ?_)) hb6))
              have D6 := Lib.hid (D5.out.below (bstep (by repeat (first | exact Below.refl _ _ | refine balloc ?_ _ | refine bdrew ?_)) hb6))
              have c6_0 : w6.cell? ⟨wr.heap.size, 0, none⟩ = some (.int .u8 wh) := keep hb6 (by go_simp)
              have c6_1 : w6.cell? ⟨wr.heap.size, 1, none⟩ = some (.slice A2 ls.length c9) := keep hb6 (by go_simp)
              have c6_2 : w6.cell? ⟨wr.heap.size, 2, none⟩ = some (.int .i64 y) := keep hb6 (by go_simp)
              clear c5_0 c5_1 c5_2
              go_wp2_with fail
              with_reducible refine Calls.mono (syncE (d2 := d.dark) (r := 6) _ (D6.out.below (by repeat (first | exact Below.refl _ _ | refine balloc ?_ _ | refine bdrew ?_))) (by simp [Dsk.sync, Dsk.syncOn, hoff, hleft])) ?_
              rintro e7 w7 ⟨v7, rfl, hd7, hs7⟩
              have S7 := Lib.hid (DS.toBelow (D6.out.below (by repeat (first | exact Below.refl _ _ | refine balloc ?_ _ | refine bdrew ?_))) (Nat.le_refl _) (bstep S6.out (by repeat (first | exact Below.refl _ _ | refine balloc ?_ _ | refine bdrew ?_))) hs7)
              have c7_0 : w7.cell? ⟨wr.heap.size, 0, none⟩ = some (.int .u8 wh) := hs7.cell (by go_simp) (by have := HB0.out; omega) (fun e => by have := HV0.out _ e.symm; omega)
              have c7_1 : w7.cell? ⟨wr.heap.size, 1, none⟩ = some (.slice A2 ls.length c9) := hs7.cell (by go_simp) (by have := HB0.out; omega) (fun e => by have := HV0.out _ e.symm; omega)
              have c7_2 : w7.cell? ⟨wr.heap.size, 2, none⟩ = some (.int .i64 y) := hs7.cell (by go_simp) (by have := HB0.out; omega) (fun e => by have := HV0.out _ e.symm; omega)
              have D7 := Lib.hid hd7
              clear hd7 hs7
              clear c6_0 c6_1 c6_2
              go_wp2_with fail
              go_roundw
              case rel => exact ⟨k + 1, (-1), v7, _, by omega, by go_num, by go_num, D7.out, S7.out, ⟨hroom, (by simp [Dsk.dec, Dsk.dark]; omega), by omega, .inr ⟨by omega, rfl⟩⟩⟩
              case measure => (try simp [intOf]) <;> omega
            · have hne : ¬ L = 0 := hz
              have e4 : decide (0 < L) = true := by simp; omega
              go_wp2_with fail
              with_reducible refine Calls.mono (lenE (r := (d.b.length : Int)) _ (HD.out.below (by repeat (first | exact Below.refl _ _ | refine balloc ?_ _ | refine bdrew ?_))) rfl) ?_
              rintro e5 w5 ⟨rfl, hb5⟩
              have S5 := Lib.hid (bstep HS.out (bstep (by repeat (first | exact Below.refl _ _ | refine balloc ?_ _ | refine bdrew ?_)) hb5))
              have D5 := Lib.hid (HD.out.below (bstep (by repeat (first | exact Below.refl _ _ | refine balloc ?_ _ | refine bdrew ?_)) hb5))
              have c5_0 : w5.cell? ⟨wr.heap.size, 0, none⟩ = some (.int .u8 wh) := keep hb5 (by go_simp)
              have c5_1 : w5.cell? ⟨wr.heap.size, 1, none⟩ = some (.slice A2 ls.length c9) := keep hb5 (by go_simp)
              have c5_2 : w5.cell? ⟨wr.heap.size, 2, none⟩ = some (.int .i64 y) := keep hb5 (by go_simp)
              go_wp2_with fail
              with_reducible refine Calls.mono (offE (r := false) _ (D5.out.below (by repeat (first | exact Below.refl _ _ | refine balloc ?_ _ | refine bdrew ?_))) hoff) ?_
              rintro e6 w6 ⟨rfl, hb6⟩
              have S6 := Lib.hid (bstep S5.out (bstep (by repeat (first | exact Below.refl _ _ | refine balloc ?_ _ | refine bdrew ?_)) hb6))
              have D6 := Lib.hid (D5.out.below (bstep (by repeat (first | exact Below.refl _ _ | refine balloc ?_ _ | refine bdrew ?_)) hb6))
              have c6_0 : w6.cell? ⟨wr.heap.size, 0, none⟩ = some (.int .u8 wh) := keep hb6 (by go_simp)
              have c6_1 : w6.cell? ⟨wr.heap.size, 1, none⟩ = some (.slice A2 ls.length c9) := keep hb6 (by go_simp)
              have c6_2 : w6.cell? ⟨wr.heap.size, 2, none⟩ = some (.int .i64 y) := keep hb6 (by go_simp)
              clear c5_0 c5_1 c5_2
              go_wp2_with fail
              with_reducible refine Calls.mono (syncE (d2 := { d.dec with safe := d.b.length }) (r := 0) _ (D6.out.below (by repeat (first | exact Below.refl _ _ | refine balloc ?_ _ | refine bdrew ?_))) (by simp [Dsk.sync, Dsk.syncOn, hoff, hleft, hne])) ?_
              rintro e7 w7 ⟨v7, rfl, hd7, hs7⟩
              have S7 := Lib.hid (DS.toBelow (D6.out.below (by repeat (first | exact Below.refl _ _ | refine balloc ?_ _ | refine bdrew ?_))) (Nat.le_refl _) (bstep S6.out (by repeat (first | exact Below.refl _ _ | refine balloc ?_ _ | refine bdrew ?_))) hs7)
              have c7_0 : w7.cell? ⟨wr.heap.size, 0, none⟩ = some (.int .u8 wh) := hs7.cell (by go_simp) (by have := HB0.out; omega) (fun e => by have := HV0.out _ e.symm; omega)
              have c7_1 : w7.cell? ⟨wr.heap.size, 1, none⟩ = some (.slice A2 ls.length c9) := hs7.cell (by go_simp) (by have := HB0.out; omega) (fun e => by have := HV0.out _ e.symm; omega)
              have c7_2 : w7.cell? ⟨wr.heap.size, 2, none⟩ = some (.int .i64 y) := hs7.cell (by go_simp) (by have := HB0.out; omega) (fun e => by have := HV0.out _ e.symm; omega)
              have D7 := Lib.hid hd7
              clear hd7 hs7
              clear c6_0 c6_1 c6_2
              go_wp2_with fail
              go_roundw
              case rel => exact ⟨k + 1, L - 1, v7, _, by omega, by go_num, by go_num, D7.out, S7.out, ⟨hroom, (by simp [Dsk.dec, Dsk.dark]; omega), by omega, .inl ⟨by omega, by simp only [Dsk.dec]; rw [if_neg (by omega)]; omega, hoff⟩⟩⟩
              case measure => (try simp [intOf]) <;> omega
          · have e1 : decide (L < 0) = true := by simpa using hLn
            have e2 : decide (0 ≤ L) = false := by simp; omega
            have e3 : max L 0 = 0 := by omega
            have e4 : decide (0 < L) = false := by simp; omega
            have hleft : True := trivial
            go_wp2_with fail
            with_reducible refine Calls.mono (lenE (r := (d.b.length : Int)) _ (HD.out.below (by repeat (first | exact Below.refl _ _ | refine balloc ?_ _ | refine bdrew ?_))) rfl) ?_
            rintro e5 w5 ⟨rfl, hb5⟩
            have S5 := Lib.hid (bstep HS.out (bstep (by repeat (first | exact Below.refl _ _ | refine balloc ?_ _ | refine bdrew ?_)) hb5))
            have D5 := Lib.hid (HD.out.below (bstep (by repeat (first | exact Below.refl _ _ | refine balloc ?_ _ | refine bdrew ?_)) hb5))
            have c5_0 : w5.cell? ⟨wr.heap.size, 0, none⟩ = some (.int .u8 wh) := keep hb5 (by go_simp)
            have c5_1 : w5.cell? ⟨wr.heap.size, 1, none⟩ = some (.slice A2 ls.length c9) := keep hb5 (by go_simp)
            have c5_2 : w5.cell? ⟨wr.heap.size, 2, none⟩ = some (.int .i64 y) := keep hb5 (by go_simp)
            go_wp2_with fail
            with_reducible refine Calls.mono (offE (r := true) _ (D5.out.below (by repeat (first | exact Below.refl _ _ | refine balloc ?_ _ | refine bdrew ?_))) hoff) ?_
            rintro e6 w6 ⟨rfl, hb6⟩
            have S6 := Lib.hid (bstep S5.out (bstep (by repeat (first | exact Below.refl _ _ | refine balloc ?_ _ | refine bdrew ?_)) hb6))
            have D6 := Lib.hid (D5.out.below (bstep (by repeat (first | exact Below.refl _ _ | refine balloc ?_ _ | refine bdrew ?_)) hb6))
            have c6_0 : w6.cell? ⟨wr.heap.size, 0, none⟩ = some (.int .u8 wh) := keep hb6 (by go_simp)
            have c6_1 : w6.cell? ⟨wr.heap.size, 1, none⟩ = some (.slice A2 ls.length c9) := keep hb6 (by go_simp)
            have c6_2 : w6.cell? ⟨wr.heap.size, 2, none⟩ = some (.int .i64 y) := keep hb6 (by go_simp)
            clear c5_0 c5_1 c5_2
            go_wp2_with fail
            with_reducible refine Calls.mono (syncE (d2 := d) (r := 6) _ (D6.out.below (by repeat (first | exact Below.refl _ _ | refine balloc ?_ _ | refine bdrew ?_))) (by simp [Dsk.sync, Dsk.syncOn, hoff, hleft])) ?_
            rintro e7 w7 ⟨v7, rfl, hd7, hs7⟩
            have S7 := Lib.hid (DS.toBelow (D6.out.below (by repeat (first | exact Below.refl _ _ | refine balloc ?_ _ | refine bdrew ?_))) (Nat.le_refl _) (bstep S6.out (by repeat (first | exact Below.refl _ _ | refine balloc ?_ _ | refine bdrew ?_))) hs7)
            have c7_0 : w7.cell? ⟨wr.heap.size, 0, none⟩ = some (.int .u8 wh) := hs7.cell (by go_simp) (by have := HB0.out; omega) (fun e => by have := HV0.out _ e.symm; omega)
            have c7_1 : w7.cell? ⟨wr.heap.size, 1, none⟩ = some (.slice A2 ls.length c9) := hs7.cell (by go_simp) (by have := HB0.out; omega) (fun e => by have := HV0.out _ e.symm; omega)
            have c7_2 : w7.cell? ⟨wr.heap.size, 2, none⟩ = some (.int .i64 y) := hs7.cell (by go_simp) (by have := HB0.out; omega) (fun e => by have := HV0.out _ e.symm; omega)
            have D7 := Lib.hid hd7
            clear hd7 hs7
            clear c6_0 c6_1 c6_2
            go_wp2_with fail
            go_roundw
            case rel => exact ⟨k + 1, L - 1, v7, _, by omega, by go_num, by go_num, D7.out, S7.out, ⟨hroom, (by omega), by omega, .inr ⟨by omega, hoff⟩⟩⟩
            case measure => (try simp [intOf]) <;> omega
        · skip
          rcases hst with ⟨hLp, hleft, hoff⟩ | ⟨hLn, hoff⟩
          · have e1 : decide (L < 0) = false := by simpa using hLp
            have e2 : decide (0 ≤ L) = true := by simpa using hLp
            have e3 : max L 0 = L := by omega
            by_cases hz : L = 0
            · subst hz
              skip
              go_wp2_with fail
              with_reducible refine Calls.mono (lenE (r := (d.b.length : Int)) _ (HD.out.below (by repeat (first | exact Below.refl _ _ | refine balloc ?_ _ | refine bdrew ?_))) rfl) ?_
              rintro e5 w5 ⟨rfl, hb5⟩
              have S5 := Lib.hid (bstep HS.out (bstep (by repeat (first | exact Below.refl _ _ | refine balloc ?_ _ | refine bdrew ?_)) hb5))
              have D5 := Lib.hid (HD.out.below (bstep (by repeat (first | exact Below.refl _ _ | refine balloc ?_ _ | refine bdrew ?_)) hb5))
              have c5_0 : w5.cell? ⟨wr.heap.size, 0, none⟩ = some (.int .u8 wh) := keep hb5 (by go_simp)
              have c5_1 : w5.cell? ⟨wr.heap.size, 1, none⟩ = some (.slice A2 ls.length c9) := keep hb5 (by go_simp)
              have c5_2 : w5.cell? ⟨wr.heap.size, 2, none⟩ = some (.int .i64 y) := keep hb5 (by go_simp)
              go_wp2_with fail
              with_reducible refine Calls.mono (offE (r := false) _ (D5.out.below (by repeat (first | exact Below.refl _ _ | refine balloc ?_ _ | refine bdrew ?_))) hoff) ?_
              rintro e6 w6 ⟨rfl, hb6⟩
              have S6 := Lib.hid (bstep S5.out (bstep (by repeat (first | exact Below.refl _ _ | refine balloc ?_ _ | refine bdrew ?_)) hb6))
              have D6 := Lib.hid (D5.out.below (bstep (by repeat (first | exact Below.refl _ _ | refine balloc ?_ _ | refine bdrew ?_)) hb6))
              have c6_0 : w6.cell? ⟨wr.heap.size, 0, none⟩ = some (.int .u8 wh) := keep hb6 (by go_simp)
              have c6_1 : w6.cell? ⟨wr.heap.size, 1, none⟩ = some (.slice A2 ls.length c9) := keep hb6 (by go_simp)
              have c6_2 : w6.cell? ⟨wr.heap.size, 2, none⟩ = some (.int .i64 y) := keep hb6 (by go_simp)
              clear c5_0 c5_1 c5_2
              go_wp2_with fail
              with_reducible refine Calls.mono (cutE (d2 := d.dark) (r := 6) _ (D6.out.below (by repeat (first | exact Below.refl _ _ | refine balloc ?_ _ | refine bdrew ?_))) (d.b.length : Int) (by simp [Dsk.cut, Dsk.cutOn, hoff, hleft])) ?_
              rintro e7 w7 ⟨v7, rfl, hd7, hs7⟩
              have S7 := Lib.hid (DS.toBelow (D6.out.below (by repeat (first | exact Below.refl _ _ | refine balloc ?_ _ | refine bdrew ?_))) (Nat.le_refl _) (bstep S6.out (by repeat (first | exact Below.refl _ _ | refine balloc ?_ _ | refine bdrew ?_))) hs7)
              have c7_0 : w7.cell? ⟨wr.heap.size, 0, none⟩ = some (.int .u8 wh) := hs7.cell (by go_simp) (by have := HB0.out; omega) (fun e => by have := HV0.out _ e.symm; omega)
              have c7_1 : w7.cell? ⟨wr.heap.size, 1, none⟩ = some (.slice A2 ls.length c9) := hs7.cell (by go_simp) (by have := HB0.out; omega) (fun e => by have := HV0.out _ e.symm; omega)
              have c7_2 : w7.cell? ⟨wr.heap.size, 2, none⟩ = some (.int .i64 y) := hs7.cell (by go_simp) (by have := HB0.out; omega) (fun e => by have := HV0.out _ e.symm; omega)
              have D7 := Lib.hid hd7
              clear hd7 hs7
              clear c6_0 c6_1 c6_2
              go_wp2_with fail
              go_roundw
              case rel => exact ⟨k + 1, (-1), v7, _, by omega, by go_num, by go_num, D7.out, S7.out, ⟨hroom, (by simp [Dsk.dec, Dsk.dark]; omega), by omega, .inr ⟨by omega, rfl⟩⟩⟩
              case measure => (try simp [intOf]) <;> omega
            · have hne : ¬ L = 0 := hz
              have e4 : decide (0 < L) = true := by simp; omega
              go_wp2_with fail
              with_reducible refine Calls.mono (lenE (r := (d.b.length : Int)) _ (HD.out.below (by repeat (first | exact Below.refl _ _ | refine balloc ?_ _ | refine bdrew ?_))) rfl) ?_
              rintro e5 w5 ⟨rfl, hb5⟩
              have S5 := Lib.hid (bstep HS.out (bstep (by repeat (first | exact Below.refl _ _ | refine balloc ?_ _ | refine bdrew ?_)) hb5))
              have D5 := Lib.hid (HD.out.below (bstep (by repeat (first | exact Below.refl _ _ | refine balloc ?_ _ | refine bdrew ?_)) hb5))
              have c5_0 : w5.cell? ⟨wr.heap.size, 0, none⟩ = some (.int .u8 wh) := keep hb5 (by go_simp)
              have c5_1 : w5.cell? ⟨wr.heap.size, 1, none⟩ = some (.slice A2 ls.length c9) := keep hb5 (by go_simp)
              have c5_2 : w5.cell? ⟨wr.heap.size, 2, none⟩ = some (.int .i64 y) := keep hb5 (by go_simp)
              go_wp2_with fail
              with_reducible refine Calls.mono (offE (r := false) _ (D5.out.below (by repeat (first | exact Below.refl _ _ | refine balloc ?_ _ | refine bdrew ?_))) hoff) ?_
              rintro e6 w6 ⟨rfl, hb6⟩
              have S6 := Lib.hid (bstep S5.out (bstep (by repeat (first | exact Below.refl _ _ | refine balloc ?_ _ | refine bdrew ?_)) hb6))
              have D6 := Lib.hid (D5.out.below (bstep (by repeat (first | exact Below.refl _ _ | refine balloc ?_ _ | refine bdrew ?_)) hb6))
              have c6_0 : w6.cell? ⟨wr.heap.size, 0, none⟩ = some (.int .u8 wh) := keep hb6 (by go_simp)
              have c6_1 : w6.cell? ⟨wr.heap.size, 1, none⟩ = some (.slice A2 ls.length c9) := keep hb6 (by go_simp)
              have c6_2 : w6.cell? ⟨wr.heap.size, 2, none⟩ = some (.int .i64 y) := keep hb6 (by go_simp)
              clear c5_0 c5_1 c5_2
              go_wp2_with fail
              with_reducible refine Calls.mono (cutE (d2 := { d.dec with b := d.b.take d.b.length, safe := min d.safe d.b.length }) (r := 0) _ (D6.out.below (by repeat (first | exact Below.refl _ _ | refine balloc ?_ _ | refine bdrew ?_))) (d.b.length : Int) (by simp [Dsk.cut, Dsk.cutOn, hoff, hleft, hne])) ?_
              rintro e7 w7 ⟨v7, rfl, hd7, hs7⟩
              have S7 := Lib.hid (DS.toBelow (D6.out.below (by repeat (first | exact Below.refl _ _ | refine balloc ?_ _ | refine bdrew ?_))) (Nat.le_refl _) (bstep S6.out (by repeat (first | exact Below.refl _ _ | refine balloc ?_ _ | refine bdrew ?_))) hs7)
              have c7_0 : w7.cell? ⟨wr.heap.size, 0, none⟩ = some (.int .u8 wh) := hs7.cell (by go_simp) (by have := HB0.out; omega) (fun e => by have := HV0.out _ e.symm; omega)
              have c7_1 : w7.cell? ⟨wr.heap.size, 1, none⟩ = some (.slice A2 ls.length c9) := hs7.cell (by go_simp) (by have := HB0.out; omega) (fun e => by have := HV0.out _ e.symm; omega)
              have c7_2 : w7.cell? ⟨wr.heap.size, 2, none⟩ = some (.int .i64 y) := hs7.cell (by go_simp) (by have := HB0.out; omega) (fun e => by have := HV0.out _ e.symm; omega)
              have D7 := Lib.hid hd7
              clear hd7 hs7
              clear c6_0 c6_1 c6_2
              go_wp2_with fail
              go_roundw
              case rel => exact ⟨k + 1, L - 1, v7, _, by omega, by go_num, by go_num, D7.out, S7.out, ⟨hroom, (by simp [Dsk.dec, Dsk.dark]; omega), by omega, .inl ⟨by omega, by simp only [Dsk.dec]; rw [if_neg (by omega)]; omega, hoff⟩⟩⟩
              case measure => (try simp [intOf]) <;> omega
          · have e1 : decide (L < 0) = true := by simpa using hLn
            have e2 : decide (0 ≤ L) = false := by simp; omega
            have e3 : max L 0 = 0 := by omega
            have e4 : decide (0 < L) = false := by simp; omega
            have hleft : True := trivial
            go_wp2_with fail
            with_reducible refine Calls.mono (lenE (r := (d.b.length : Int)) _ (HD.out.below (by repeat (first | exact Below.refl _ _ | refine balloc ?_ _ | refine bdrew ?_))) rfl) ?_
            rintro e5 w5 ⟨rfl, hb5⟩
            have S5 := Lib.hid (bstep HS.out (bstep (by repeat (first | exact Below.refl _ _ | refine balloc ?_ _ | refine bdrew ?_)) hb5))
            have D5 := Lib.hid (HD.out.below (bstep (by repeat (first | exact Below.refl _ _ | refine balloc ?_ _ | refine bdrew ?_)) hb5))
            have c5_0 : w5.cell? ⟨wr.heap.size, 0, none⟩ = some (.int .u8 wh) := keep hb5 (by go_simp)
            have c5_1 : w5.cell? ⟨wr.heap.size, 1, none⟩ = some (.slice A2 ls.length c9) := keep hb5 (by go_simp)
            have c5_2 : w5.cell? ⟨wr.heap.size, 2, none⟩ = some (.int .i64 y) := keep hb5 (by go_simp)
            go_wp2_with fail
            with_reducible refine Calls.mono (offE (r := true) _ (D5.out.below (by repeat (first | exact Below.refl _ _ | refine balloc ?_ _ | refine bdrew ?_))) hoff) ?_
            rintro e6 w6 ⟨rfl, hb6⟩
            have S6 := Lib.hid (bstep S5.out (bstep (by repeat (first | exact Below.refl _ _ | refine balloc ?_ _ | refine bdrew ?_)) hb6))
            have D6 := Lib.hid (D5.out.below (bstep (by repeat (first | exact Below.refl _ _ | refine balloc ?_ _ | refine bdrew ?_)) hb6))
            have c6_0 : w6.cell? ⟨wr.heap.size, 0, none⟩ = some (.int .u8 wh) := keep hb6 (by go_simp)
            have c6_1 : w6.cell? ⟨wr.heap.size, 1, none⟩ = some (.slice A2 ls.length c9) := keep hb6 (by go_simp)
            have c6_2 : w6.cell? ⟨wr.heap.size, 2, none⟩ = some (.int .i64 y) := keep hb6 (by go_simp)
            clear c5_0 c5_1 c5_2
            go_wp2_with fail
            with_reducible refine Calls.mono (cutE (d2 := d) (r := 6) _ (D6.out.below (by repeat (first | exact Below.refl _ _ | refine balloc ?_ _ | refine bdrew ?_))) (d.b.length : Int) (by simp [Dsk.cut, Dsk.cutOn, hoff, hleft])) ?_
            rintro e7 w7 ⟨v7, rfl, hd7, hs7⟩
            have S7 := Lib.hid (DS.toBelow (D6.out.below (by repeat (first | exact Below.refl _ _ | refine balloc ?_ _ | refine bdrew ?_))) (Nat.le_refl _) (bstep S6.out (by repeat (first | exact Below.refl _ _ | refine balloc ?_ _ | refine bdrew ?_))) hs7)
            have c7_0 : w7.cell? ⟨wr.heap.size, 0, none⟩ = some (.int .u8 wh) := hs7.cell (by go_simp) (by have := HB0.out; omega) (fun e => by have := HV0.out _ e.symm; omega)
            have c7_1 : w7.cell? ⟨wr.heap.size, 1, none⟩ = some (.slice A2 ls.length c9) := hs7.cell (by go_simp) (by have := HB0.out; omega) (fun e => by have := HV0.out _ e.symm; omega)
            have c7_2 : w7.cell? ⟨wr.heap.size, 2, none⟩ = some (.int .i64 y) := hs7.cell (by go_simp) (by have := HB0.out; omega) (fun e => by have := HV0.out _ e.symm; omega)
            have D7 := Lib.hid hd7
            clear hd7 hs7
            clear c6_0 c6_1 c6_2
            go_wp2_with fail
            go_roundw
            case rel => exact ⟨k + 1, L - 1, v7, _, by omega, by go_num, by go_num, D7.out, S7.out, ⟨hroom, (by omega), by omega, .inr ⟨by omega, hoff⟩⟩⟩
            case measure => (try simp [intOf]) <;> omega
      · obtain rfl : k = M := by omega
        go_wp2_with fail
        with_reducible refine Calls.mono (crashE (d2 := d.crash 1048576) _ (HD.out.below (by repeat (first | exact Below.refl _ _ | refine balloc ?_ _ | refine bdrew ?_))) 1048576 rfl) ?_
        rintro e21 w21 ⟨v21, rfl, hd21, hs21⟩
        have S21 := Lib.hid (DS.toBelow (HD.out.below (by repeat (first | exact Below.refl _ _ | refine balloc ?_ _ | refine bdrew ?_))) (Nat.le_refl _) (bstep HS.out (by repeat (first | exact Below.refl _ _ | refine balloc ?_ _ | refine bdrew ?_))) hs21)
        have D21 := Lib.hid hd21
        clear hd21 hs21
        go_wp2_with fail
        with_reducible refine Calls.mono (offE (r := false) _ (D21.out.below (by repeat (first | exact Below.refl _ _ | refine balloc ?_ _ | refine bdrew ?_))) rfl) ?_
        rintro e22 w22 ⟨rfl, hb22⟩
        have S22 := Lib.hid (bstep S21.out (bstep (by repeat (first | exact Below.refl _ _ | refine balloc ?_ _ | refine bdrew ?_)) hb22))
        have D22 := Lib.hid (D21.out.below (bstep (by repeat (first | exact Below.refl _ _ | refine balloc ?_ _ | refine bdrew ?_)) hb22))
        go_wp2_with fail
        with_reducible refine Calls.mono (safeE (r := (d.crash 1048576).safe) _ (D22.out.below (by repeat (first | exact Below.refl _ _ | refine balloc ?_ _ | refine bdrew ?_))) rfl) ?_
        rintro e23 w23 ⟨rfl, hb23⟩
        have S23 := Lib.hid (bstep S22.out (bstep (by repeat (first | exact Below.refl _ _ | refine balloc ?_ _ | refine bdrew ?_)) hb23))
        have D23 := Lib.hid (D22.out.below (bstep (by repeat (first | exact Below.refl _ _ | refine balloc ?_ _ | refine bdrew ?_)) hb23))
        go_wp2_with fail
        with_reducible refine Calls.mono (lenE (r := (d.crash 1048576).safe) _ (D23.out.below (by repeat (first | exact Below.refl _ _ | refine balloc ?_ _ | refine bdrew ?_))) (by have := HD.out.hs; simp only [Dsk.crash, List.length_take, Dsk.keep]; omega)) ?_
        rintro e24 w24 ⟨rfl, hb24⟩
        have S24 := Lib.hid (bstep S23.out (bstep (by repeat (first | exact Below.refl _ _ | refine balloc ?_ _ | refine bdrew ?_)) hb24))
        have D24 := Lib.hid (D23.out.below (bstep (by repeat (first | exact Below.refl _ _ | refine balloc ?_ _ | refine bdrew ?_)) hb24))
        go_wp2_with fail
        with_reducible refine Calls.mono (syncE (d2 := { (d.crash 1048576).dec with safe := (d.crash 1048576).b.length }) (r := 0) _ (D24.out.below (by repeat (first | exact Below.refl _ _ | refine balloc ?_ _ | refine bdrew ?_))) (by simp [Dsk.sync, Dsk.syncOn, Dsk.crash])) ?_
        rintro e25 w25 ⟨v25, rfl, hd25, hs25⟩
        have S25 := Lib.hid (DS.toBelow (D24.out.below (by repeat (first | exact Below.refl _ _ | refine balloc ?_ _ | refine bdrew ?_))) (Nat.le_refl _) (bstep S24.out (by repeat (first | exact Below.refl _ _ | refine balloc ?_ _ | refine bdrew ?_))) hs25)
        have D25 := Lib.hid hd25
        clear hd25 hs25
        go_wp2_with fail
        with_reducible refine Calls.mono (awake09 _) ?_
        rintro e30 w30 ⟨rfl, hb30⟩
        go_wp2_with fail
        go_ret
        exact ⟨rfl, bstep S25.out hb30⟩
end Go.Proofs.Ythgaphfelpnclaa
