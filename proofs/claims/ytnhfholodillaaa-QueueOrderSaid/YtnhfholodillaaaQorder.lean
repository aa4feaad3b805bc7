/- The law QueueOrder, walked. -/
import Derived.Test.YtnhfholodillaaaQh
import Derived.Deep.CutBlock
import Derived.Deep.DeepCutAuto
set_option linter.unusedVariables false
set_option linter.unusedSimpArgs false
namespace Go.Proofs.Ytnhfholodillaaa
open Go.RowKit

theorem inv_facts {T ls : List Int} (h : (T ++ ls).Pairwise (· < ·)) : (∀ i, i + 1 < ls.length → ls.getD i 0 < ls.getD (i + 1) 0) ∧ (∀ i j, i < T.length → j < ls.length → T.getD i 0 < ls.getD j 0) ∧ (∀ i, i + 1 < T.length → T.getD i 0 < T.getD (i + 1) 0) := by
  rw [List.pairwise_append] at h
  obtain ⟨h1, h2, h3⟩ := h
  rw [List.pairwise_iff_getElem] at h1 h2
  refine ⟨fun i hi => ?_, fun i j hi hj => ?_, fun i hi => ?_⟩
  · have := h2 i (i + 1) (by omega) hi (by omega)
    simpa [List.getD, List.getElem?_eq_getElem hi, List.getElem?_eq_getElem (show i < ls.length by omega)] using this
  · have := h3 T[i] (List.getElem_mem hi) ls[j] (List.getElem_mem hj)
    simpa [List.getD, List.getElem?_eq_getElem hi, List.getElem?_eq_getElem hj] using this
  · have := h1 i (i + 1) (by omega) hi (by omega)
    simpa [List.getD, List.getElem?_eq_getElem hi, List.getElem?_eq_getElem (show i < T.length by omega)] using this

/-- All that was taken, and all that waits, rises, and is not above the greatest that came. -/
def Inv (T ls : List Int) (l : Int) : Prop := (T ++ ls).Pairwise (· < ·) ∧ ∀ y ∈ T ++ ls, y ≤ l

theorem Inv.put {T ls : List Int} {l t : Int} (h : Inv T ls l) (ht : ¬ t ≤ l) : Inv T (ls ++ [t]) t := by
  obtain ⟨h1, h2⟩ := h
  rw [Inv, ← List.append_assoc]
  refine ⟨?_, fun y hy => ?_⟩
  · rw [List.pairwise_append]
    exact ⟨h1, by simp, fun a ha b hb => by have := h2 a ha; simp at hb; omega⟩
  · rcases List.mem_append.1 hy with hy | hy
    · have := h2 y hy; omega
    · simp at hy; omega
theorem Inv.take {T s : List Int} {l x : Int} (h : Inv T (x :: s) l) : Inv (T ++ [x]) s l := by
  unfold Inv at *
  simpa [List.append_assoc] using h
theorem Inv.drop {T p q : List Int} {l x : Int} (h : Inv T (p ++ x :: q) l) : Inv T (p ++ q) l := by
  obtain ⟨h1, h2⟩ := h
  have hs : (T ++ (p ++ q)).Sublist (T ++ (p ++ x :: q)) := (List.Sublist.refl T).append ((List.Sublist.refl p).append (List.sublist_cons_self x q))
  exact ⟨h1.sublist hs, fun y hy => h2 y (hs.subset hy)⟩
theorem QL.of_block {w w' : World} {B r : Nat} {l : Int} {ls : List Int} (h : QL w B r l ls) (hb : w'.heap[B]? = w.heap[B]?) (hs : w.heap.size ≤ w'.heap.size) : QL w' B r l ls := by
  obtain ⟨g, a, h1, h2, h3, h4, h5, h6⟩ := h
  have hc : ∀ o, w'.cell? ⟨B, o, none⟩ = w.cell? ⟨B, o, none⟩ := fun o => World.cell?_of_block (a := ⟨B, o, none⟩) hb
  have hf : ∀ o, w'.frozen? ⟨B, o, none⟩ = w.frozen? ⟨B, o, none⟩ := fun o => World.frozen?_of_block (a := ⟨B, o, none⟩) hb
  exact ⟨g, a, h1, h2, h3, h4, ⟨fun j hj => by rw [hc]; exact h5.ring j hj, by rw [hc]; exact h5.ca, by rw [hc]; exact h5.cm, by rw [hc]; exact h5.cr, by rw [hc]; exact h5.cl, fun j hj => by rw [hf]; exact h5.fz j hj, Nat.lt_of_lt_of_le h5.lt hs⟩, h6⟩

theorem firstL_gen {B r : Nat} {l : Int} {ls : List Int} (w : World) (h : QL w B r l ls) :
    Calls Try.prog 36 #[.pointer (some ⟨B, 0, none⟩)] w fun e' w' => ∃ f b, e' = .returned (.tuple #[.int .u32 f, .bool b]) ∧ Below w.heap.size w w' ∧ (ls = [] → b = false) ∧ (∀ x s, ls = x :: s → f = x ∧ b = true) := by
  cases ls with
  | nil => exact (firstL_nil w h).mono fun e w' ⟨h1, h2⟩ => ⟨_, _, h1, h2, fun _ => rfl, (fun _ _ h => by injection h)⟩
  | cons x s => exact (firstL_cons w h).mono fun e w' ⟨h1, h2⟩ => ⟨_, _, h1, h2, (fun h => by injection h), (fun _ _ h => by injection h with a b; exact ⟨a, rfl⟩)⟩

set_option maxRecDepth 100000 in
set_option maxHeartbeats 16000000 in
theorem order_walk (x : Int) (A : Option Addr) (n cap : Nat) (w : World) (hx : 0 ≤ x ∧ x ≤ 255) (hn : n ≤ cap) (hcap : cap ≤ maxLen) (hA : A = none → cap = 0) (hv : RowsV w A n 4 El63) :
    Calls Try.prog 9 #[.int .u8 x, .slice A n cap] w fun e' w' => e' = .returned (.bool true) ∧ Below w.heap.size w w' := by
  obtain ⟨hx0, hx1⟩ := hx
  unfold maxLen at hcap
  have HV := Lib.hid hv
  have HA := Lib.hid hA
  clear hv hA
  obtain ⟨i0, hi, hz0, hz1, hz2⟩ := info_parts info22
  go_enter Try.func9, Try.ntmps9
  go_wp2_with fail
  have hr : 1 ≤ 1 + x % 32 ∧ 1 + x % 32 ≤ 32 := by omega
  generalize 1 + x % 32 = r0 at *
  obtain ⟨hr1, hr2⟩ := hr
  obtain ⟨r, rfl⟩ := Int.eq_ofNat_of_zero_le (show 0 ≤ r0 by omega)
  with_reducible refine (newL r _ rfl (by omega) (by omega)).mono ?_
  rintro e1 w1 ⟨rfl, hb1, hq1⟩
  have Q1 := Lib.hid hq1
  have S1 := Lib.hid hb1
  clear hq1
  go_wp2_with fail
  have hM : 0 ≤ min (n : Int) 200 ∧ min (n : Int) 200 ≤ n ∧ min (n : Int) 200 ≤ 200 := by omega
  generalize min (n : Int) 200 = M at *
  obtain ⟨hM0, hM1, hM2⟩ := hM
  obtain ⟨N, rfl⟩ := Int.eq_ofNat_of_zero_le hM0
  rw [show max (N : Int) 0 = N from by omega, Int.toNat_natCast]
  have hNn : N ≤ n := by omega
  go_loopw [7, 8, 9, 35] (fun vt pu dr i wr => ∃ (k : Nat) (T ls : List Int) (l : Int) (d : Nat), k ≤ N ∧ i = .int .i64 k ∧ pu = .int .i64 ((T.length + d + ls.length : Nat) : Int) ∧ dr = .int .i64 (d : Nat) ∧ T.length ≤ k ∧ d ≤ k ∧ Inv T ls l ∧ QL wr w.heap.size r l ls ∧ wr.ownsRow (w.heap.size + 1) 22 1 vt T.length (T.map (Value.int .u32)) ∧ Below w.heap.size w wr ∧ w.heap.size + 1 ≤ wr.heap.size) (fun _ _ _ i _ => N - (intOf i).toNat)
  case atStart => exact ⟨0, [], [], 0, 0, by omega, rfl, by simp, by simp, by simp, by omega, ⟨by simp, by simp⟩, Q1.out, ⟨rfl, .inl ⟨rfl, rfl⟩⟩, S1.out, by have := Q1.out.lt; omega⟩
  case round =>
    obtain ⟨k, T, ls, l, d, hk, rfl, rfl, rfl, hTk, hdk, hinv0, hq, hown, hBel, hwr1⟩ := hrel
    have HQ := Lib.hid hq
    have HS := Lib.hid hBel
    have HO := Lib.hid hown
    have HI := Lib.hid hinv0
    have hwr := hBel.size
    clear hq hBel hown hinv0
    by_cases hlt : k < N
    · obtain ⟨b', off, cs, hA', _, ⟨dp, by', tx, at', rfl, htx, hat⟩, hc⟩ := HV.out.at (by omega) (show k < n by omega)
      subst hA'
      have d0 : wr.cell? ⟨b', off + k * 4, none⟩ = some (.bool dp) := by
        have := hc 0 (by omega)
        rw [HS.out.cell (p := ⟨b', off + k * 4, none⟩) (cell_lt this)]; exact this
      have d1 : wr.cell? ⟨b', off + k * 4 + 1, none⟩ = some (.bool by') := by
        have := hc 1 (by omega)
        rw [HS.out.cell (p := ⟨b', off + k * 4 + 1, none⟩) (cell_lt this)]; exact this
      have d2 : wr.cell? ⟨b', off + k * 4 + 2, none⟩ = some (.int .u32 tx) := by
        have := hc 2 (by omega)
        rw [HS.out.cell (p := ⟨b', off + k * 4 + 2, none⟩) (cell_lt this)]; exact this
      have d3 : wr.cell? ⟨b', off + k * 4 + 3, none⟩ = some (.int .u8 at') := by
        have := hc 3 (by omega)
        rw [HS.out.cell (p := ⟨b', off + k * 4 + 3, none⟩) (cell_lt this)]; exact this
      clear hc
      go_wp2_with fail
      with_reducible refine (listL _ (HQ.out.below (balloc (Below.refl _ _) _))).mono ?_
      rintro e11 w11 ⟨v11, rfl, hv11, hb11⟩
      have Q11 := Lib.hid (HQ.out.below (bstep (balloc (Below.refl _ _) _) hb11))
      have S11 := Lib.hid (bstep HS.out (bstep (balloc (Below.refl _ _) _) hb11))
      have V11 := Lib.hid (U32At.of_own hv11)
      have O11 := Lib.hid hv11
      clear hv11
      have P11 := Lib.hid (own_below HO.out (bstep (balloc (Below.refl _ _) _) hb11))
      have bx0 : w11.cell? ⟨wr.heap.size, 0, none⟩ = some (.bool dp) := keep hb11 (by go_simp)
      have bx1 : w11.cell? ⟨wr.heap.size, 1, none⟩ = some (.bool by') := keep hb11 (by go_simp)
      have bx2 : w11.cell? ⟨wr.heap.size, 2, none⟩ = some (.int .u32 tx) := keep hb11 (by go_simp)
      have bx3 : w11.cell? ⟨wr.heap.size, 3, none⟩ = some (.int .u8 at') := keep hb11 (by go_simp)
      go_wp2_with fail
      with_reducible refine (number_any _ _ _ _ _ hat V11.out).mono ?_
      rintro e12 w12 ⟨t, rfl, hb12⟩
      have Q12 := Lib.hid (Q11.out.below hb12)
      have S12 := Lib.hid (bstep S11.out hb12)
      have O12 := Lib.hid (own_below P11.out hb12)
      have bz0 : w12.cell? ⟨wr.heap.size, 0, none⟩ = some (.bool dp) := keep hb12 (by go_simp)
      clear bx0 bx1 bx2 bx3 d0 d1 d2 d3
      go_wp2_with fail
      with_reducible refine (firstL_gen _ Q12.out).mono ?_
      rintro e13 w13 ⟨f13, b13, rfl, hb13, hbn, hbc⟩
      have Q13 := Lib.hid (Q12.out.below hb13)
      have S13 := Lib.hid (bstep S12.out hb13)
      have O13 := Lib.hid (own_below O12.out hb13)
      have by0 : w13.cell? ⟨wr.heap.size, 0, none⟩ = some (.bool dp) := keep hb13 (by go_simp)
      have HBN := Lib.hid hbn
      have HBC := Lib.hid hbc
      clear hbn hbc Q12 S12 O12 bz0
      go_upto_block 2 with fail
      go_cut [7, 8, 9] (fun vt pu dr wx => ∃ (T' ls' : List Int) (l' : Int) (d' : Nat), T'.length ≤ k + 1 ∧ d' ≤ k + 1 ∧ pu = .int .i64 ((T'.length + d' + ls'.length : Nat) : Int) ∧ dr = .int .i64 (d' : Nat) ∧ Inv T' ls' l' ∧ QL wx w.heap.size r l' ls' ∧ wx.ownsRow (w.heap.size + 1) 22 1 vt T'.length (T'.map (Value.int .u32)) ∧ Below w.heap.size w wx ∧ w.heap.size + 1 ≤ wx.heap.size)
      case first =>
        cases dp with
        | false =>
          by_cases h1 : t ≤ l
          · skip
            go_wp2_with fail
            with_reducible refine (putL_low _ Q13.out h1).mono ?_
            rintro e14 w14 ⟨rfl, hb14⟩
            have Q14 := Lib.hid (Q13.out.below (bstep (Below.refl _ _) hb14))
            have S14 := Lib.hid (bstep S13.out (bstep (Below.refl _ _) hb14))
            have P14 := Lib.hid (own_below O13.out (bstep (Below.refl _ _) hb14))
            go_wp2_with fail
            go_meet
            case rel => exact ⟨T, ls, l, d, by omega, by omega, rfl, by go_num, HI.out, Q14.out, P14.out, S14.out, by have := Q14.out.lt; omega⟩

          · by_cases h2 : ls.length = r
            · have H2 := Lib.hid h2
              go_wp2_with fail
              with_reducible refine (putL_full _ Q13.out (by omega) h2).mono ?_
              rintro e14 w14 ⟨rfl, hb14⟩
              have Q14 := Lib.hid (Q13.out.below (bstep (Below.refl _ _) hb14))
              have S14 := Lib.hid (bstep S13.out (bstep (Below.refl _ _) hb14))
              have P14 := Lib.hid (own_below O13.out (bstep (Below.refl _ _) hb14))
              go_wp2_with fail
              go_meet
              case rel => exact ⟨T, ls, l, d, by omega, by omega, by have h9 := H2.out; rw [h9]; go_num, by go_num, HI.out, Q14.out, P14.out, S14.out, by have := Q14.out.lt; omega⟩

            · have hlr := Q13.out.len
              skip
              go_wp2_with fail
              with_reducible refine (putL_ok _ Q13.out (by omega) (by omega)).mono ?_
              rintro e14 w14 ⟨rfl, hb14, hq14⟩
              have Q14 := Lib.hid hq14
              have S14 := Lib.hid (Only.toBelow S13.out (Nat.le_refl _) hb14)
              clear hq14
              have P14 := Lib.hid (own_only O13.out hb14 (by omega))
              go_wp2_with fail
              go_meet
              case rel => exact ⟨T, ls ++ [t], t, d, by omega, by omega, by rw [List.length_append, List.length_singleton]; go_num, by go_num, HI.out.put (by omega), Q14.out, P14.out, S14.out, by have := Q14.out.lt; omega⟩

        | true =>
          cases ls with
          | nil =>
            obtain rfl := HBN.out rfl
            skip
            go_wp2_with fail
            with_reducible refine (dropL_no _ Q13.out (by simp)).mono ?_
            rintro e14 w14 ⟨rfl, hb14⟩
            have Q14 := Lib.hid (Q13.out.below (bstep (Below.refl _ _) hb14))
            have S14 := Lib.hid (bstep S13.out (bstep (Below.refl _ _) hb14))
            have P14 := Lib.hid (own_below O13.out (bstep (Below.refl _ _) hb14))
            go_wp2_with fail
            go_meet
            case rel => exact ⟨T, [], l, d, by omega, by omega, rfl, by go_num, HI.out, Q14.out, P14.out, S14.out, by have := Q14.out.lt; omega⟩

          | cons f s =>
            obtain ⟨rfl, rfl⟩ := HBC.out f s rfl
            by_cases htf : t = f13
            · subst htf
              have b1 : (t == t) = true := by simp
              go_wp2_with fail
              with_reducible refine (dropL_yes (p := []) _ Q13.out (by simp)).mono ?_
              rintro e14 w14 ⟨rfl, hb14, hq14⟩
              have Q14 := Lib.hid hq14
              have S14 := Lib.hid (Only.toBelow S13.out (Nat.le_refl _) hb14)
              clear hq14
              have P14 := Lib.hid (own_only O13.out hb14 (by omega))
              go_wp2_with (at_builtin; refine wpList_append_own _ rfl _ _ 61 rfl (w.heap.size + 1) 22 i0 (.int .u32 0) 1 4 Try.underlying61 hi hz0 hz1 hz2 rfl (by decide) _ _ _ rfl (P14.out.alloc _) ⟨w14.heap.size, 0, none⟩ 1 1 [.int .u32 t] rfl rfl ?qc1 ?qc2 ?qc3 ?qc4 ?qc5 ?_)
              case qc1 => exact one_new _ _ _
              case qc2 => simp [Value.oneCell']
              case qc3 => unfold maxLen; omega
              case qc4 => omega
              case qc5 => have := Q14.out.lt; simp; omega
              intro v15 w15 hown15 hgrow15 _
              have hb15 : Below w.heap.size w w15 := (balloc S14.out _).grown hgrow15 (by have := S14.out.size; simp; omega) (fun i h => by have := (P14.out.lt i h).1; omega)
              have S15 := Lib.hid hb15
              have hz15 : w15.heap[w.heap.size]? = w14.heap[w.heap.size]? := by
                have hlt := Q14.out.lt
                rw [hgrow15.block w.heap.size (by simp; omega) (fun e => by have := (P14.out.lt w.heap.size e.symm).1; omega)]
                exact Below.heap_alloc _ _ _ hlt
              have Q15 := Lib.hid (Q14.out.of_block hz15 (by have := hgrow15.size; simp at this; omega))
              have P15 : Hid (w15.ownsRow (w.heap.size + 1) 22 1 v15 (T ++ [t]).length ((T ++ [t]).map (Value.int .u32))) := Lib.hid (by simpa using hown15)
              clear hown15 hgrow15 hz15 hb15
              go_wp2_with fail
              go_meet
              case rel => exact ⟨T ++ [t], s, l, d, by simp; omega, by omega, by simp only [List.length_append, List.length_cons, List.length_nil]; go_num, by go_num, HI.out.take, Q15.out, P15.out, S15.out, by have := Q15.out.lt; omega⟩

            · have b1 : (t == f13) = false := by simpa using htf
              by_cases hts : t ∈ s
              · obtain ⟨p0, q0, hpq, hnp⟩ := List.eq_append_cons_of_mem (show t ∈ f13 :: s from List.mem_cons_of_mem _ hts)
                have QP := Lib.hid (show QL w13 w.heap.size r l (p0 ++ t :: q0) by have := Q13.out; rw [hpq] at this; exact this)
                have HI2 := Lib.hid (show Inv T (p0 ++ t :: q0) l by have := HI.out; rw [hpq] at this; exact this)
                have PL : Hid ((f13 :: s).length = (p0 ++ q0).length + 1) := Lib.hid (by rw [hpq]; simp; omega)
                clear hpq
                go_wp2_with fail
                with_reducible refine (dropL_yes _ QP.out hnp).mono ?_
                rintro e14 w14 ⟨rfl, hb14, hq14⟩
                have Q14 := Lib.hid hq14
                have S14 := Lib.hid (Only.toBelow S13.out (Nat.le_refl _) hb14)
                clear hq14
                have P14 := Lib.hid (own_only O13.out hb14 (by omega))
                go_wp2_with fail
                go_meet
                case rel => exact ⟨T, p0 ++ q0, l, d + 1, by omega, by omega, by have h9 := PL.out; simp only [List.length_cons, List.length_append] at h9 ⊢; go_num, by go_num, HI2.out.drop, Q14.out, P14.out, S14.out, by have := Q14.out.lt; omega⟩

              · have hns : t ∉ f13 :: s := by simp [hts]; exact htf
                go_wp2_with fail
                with_reducible refine (dropL_no _ Q13.out hns).mono ?_
                rintro e14 w14 ⟨rfl, hb14⟩
                have Q14 := Lib.hid (Q13.out.below (bstep (Below.refl _ _) hb14))
                have S14 := Lib.hid (bstep S13.out (bstep (Below.refl _ _) hb14))
                have P14 := Lib.hid (own_below O13.out (bstep (Below.refl _ _) hb14))
                go_wp2_with fail
                go_meet
                case rel => exact ⟨T, f13 :: s, l, d, by omega, by omega, rfl, by go_num, HI.out, Q14.out, P14.out, S14.out, by have := Q14.out.lt; omega⟩

      case rest =>
        obtain ⟨T', ls', l', d', hlenT, hd', rfl, rfl, hinv, hqc, hoc, hsc, hwc⟩ := hcut
        have QC := Lib.hid hqc
        have SC := Lib.hid hsc
        have OC := Lib.hid hoc
        clear hqc hoc hsc HQ HO HI HS Q13 S13 O13 HBN HBC by0 hTk
        go_wp2_with fail
        with_reducible refine (listL _ QC.out).mono ?_
        rintro e31 w31 ⟨v31, rfl, hv31, hb31⟩
        have Q31 := Lib.hid (QC.out.below (bstep (Below.refl _ _) hb31))
        have S31 := Lib.hid (bstep SC.out (bstep (Below.refl _ _) hb31))
        have V31 := Lib.hid (U32At.of_own hv31)
        have O31 := Lib.hid hv31
        clear hv31
        have P31 := Lib.hid (own_below OC.out (bstep (Below.refl _ _) hb31))
        have hl4 : (ls').length ≤ 32 := by have := Q31.out.len; omega
        obtain ⟨A4, c4, hv4, hc4, hm4, hA4⟩ := V31.out
        subst hv4
        obtain ⟨A7, c7, hv7, hc7, hm7, hA7⟩ := U32At.of_own P31.out
        generalize hLS : (ls') = LS at *
        generalize hTT : (T') = TT at *
        generalize hVV : (u7) = VV at *
        subst hv7
        have HA4 := Lib.hid hA4
        have HA7 := Lib.hid hA7
        have HLS := Lib.hid hLS
        have HTT := Lib.hid hTT
        have HINV := Lib.hid hinv
        have FA := Lib.hid (inv_facts hinv.1).1
        have FB := Lib.hid (inv_facts hinv.1).2.1
        have hT7 : TT.length ≤ k + 1 := hlenT
        have HVV := Lib.hid hVV
        clear hA4 hA7 hLS hTT hinv hVV
        unfold maxLen at hm4 hm7
        have HL4 : Hid (LS.length = LS.length) := Lib.hid rfl
        obtain ⟨nL, hnL⟩ : ∃ nL, LS.length = nL := ⟨_, rfl⟩
        obtain ⟨nT, hnT⟩ : ∃ nT, TT.length = nT := ⟨_, rfl⟩
        have HNL := Lib.hid hnL
        have HNT := Lib.hid hnT
        rw [hnL] at HA4 FA FB hl4
        rw [hnT] at HA7 FB hT7
        rw [hnL, hnT]
        clear hnL hnT hc4 hc7 hm4 hm7
        go_wp2_with fail
        go_loopw [84] (fun i wr2 => ∃ k2 : Nat, k2 ≤ nL ∧ i = .int .i64 k2 ∧ Below w31.heap.size w31 wr2) (fun i _ => nL - (intOf i).toNat)
        case atStart => exact ⟨0, by omega, rfl, Below.refl _ _⟩
        case round =>
          obtain ⟨k2, hk2, rfl, hB2⟩ := hrel
          have hwr2 : w.heap.size ≤ wr.heap.size := by have h1 := hB2.size; have h2 := S31.out.size; omega
          by_cases hlt2 : k2 < nL
          · rcases Nat.eq_zero_or_pos k2 with h0 | h0
            · subst h0
              rcases Nat.eq_zero_or_pos nT with h1 | h1
              · subst h1
                have z0 : ((0 : Nat) : Int) = 0 := rfl
                (try rw [z0])
                obtain ⟨b4, o4, ea4, d4, f4⟩ := HA4.out 0 (by omega)
                subst ea4
                rw [Nat.add_zero] at d4 f4
                clear HA4 HA7
                generalize hcu : LS.getD 0 0 = cu at *
                clear hcu
                have x4 := keep (w1 := wr) hB2 d4
                have y4 := keepF (w1 := wr) hB2 _ d4 f4
                clear d4 f4
                have m2 : (0 : Int) < (nL : Int) := by omega
                have m2n : 0 < nL := by omega
                go_wp2_with fail
                refine wpQ_region (by kernel_rfl) (by kernel_rfl) ?_
                apply wpQ_do
                · rfl
                · intro wq hC; go_light; first | (go_simp; first | done | rfl | exact ⟨rfl, rfl⟩) | (have k0 : wq.cell? ⟨b4, o4, none⟩ = some (.int .u32 cu) := hC.keep (by go_simp); go_simp; first | done | rfl | exact ⟨rfl, rfl⟩)
                simp only [Act.put, List.setIfInBounds_toArray, List.set_cons_zero, List.set_cons_succ]
                apply wpQ_do
                · rfl
                · intro wq hC; go_light; first | (go_simp; first | done | rfl | exact ⟨rfl, rfl⟩) | (have k0 : wq.cell? ⟨b4, o4, none⟩ = some (.int .u32 cu) := hC.keep (by go_simp); go_simp; first | done | rfl | exact ⟨rfl, rfl⟩)
                simp only [Act.put, List.setIfInBounds_toArray, List.set_cons_zero, List.set_cons_succ]
                apply wpQ_do
                · rfl
                · intro wq hC; go_light; first | (go_simp; first | done | rfl | exact ⟨rfl, rfl⟩) | (have k0 : wq.cell? ⟨b4, o4, none⟩ = some (.int .u32 cu) := hC.keep (by go_simp); go_simp; first | done | rfl | exact ⟨rfl, rfl⟩)
                simp only [Act.put, List.setIfInBounds_toArray, List.set_cons_zero, List.set_cons_succ]
                apply wpQ_not
                · rfl
                simp only [Act.put, List.setIfInBounds_toArray, List.set_cons_zero, List.set_cons_succ]
                apply wpQ_not
                · rfl
                simp only [Act.put, List.setIfInBounds_toArray, List.set_cons_zero, List.set_cons_succ]
                apply wpQ_not
                · rfl
                simp only [Act.put, List.setIfInBounds_toArray, List.set_cons_zero, List.set_cons_succ]
                apply wpQ_not
                · rfl
                simp only [Act.put, List.setIfInBounds_toArray, List.set_cons_zero, List.set_cons_succ]
                apply wpQ_not
                · rfl
                simp only [Act.put, List.setIfInBounds_toArray, List.set_cons_zero, List.set_cons_succ]
                apply wpQ_not
                · rfl
                simp only [Act.put, List.setIfInBounds_toArray, List.set_cons_zero, List.set_cons_succ]
                apply wpQ_not
                · rfl
                simp only [Act.put, List.setIfInBounds_toArray, List.set_cons_zero, List.set_cons_succ]
                apply wpQ_not
                · rfl
                simp only [Act.put, List.setIfInBounds_toArray, List.set_cons_zero, List.set_cons_succ]
                apply wpQ_not
                · rfl
                simp only [Act.put, List.setIfInBounds_toArray, List.set_cons_zero, List.set_cons_succ]
                apply wpQ_not
                · rfl
                simp only [Act.put, List.setIfInBounds_toArray, List.set_cons_zero, List.set_cons_succ]
                apply wpQ_do
                · rfl
                · intro wq hC; go_light; first | (go_simp; first | done | rfl | exact ⟨rfl, rfl⟩) | (have k0 : wq.cell? ⟨b4, o4, none⟩ = some (.int .u32 cu) := hC.keep (by go_simp); go_simp; first | done | rfl | exact ⟨rfl, rfl⟩)
                simp only [Act.put, List.setIfInBounds_toArray, List.set_cons_zero, List.set_cons_succ]
                apply wpQ_do
                · rfl
                · intro wq hC; go_light; first | (go_simp; first | done | rfl | exact ⟨rfl, rfl⟩) | (have k0 : wq.cell? ⟨b4, o4, none⟩ = some (.int .u32 cu) := hC.keep (by go_simp); go_simp; first | done | rfl | exact ⟨rfl, rfl⟩)
                simp only [Act.put, List.setIfInBounds_toArray, List.set_cons_zero, List.set_cons_succ]
                apply wpQ_do
                · rfl
                · intro wq hC; go_light; first | (go_simp; first | done | rfl | exact ⟨rfl, rfl⟩) | (have k0 : wq.cell? ⟨b4, o4, none⟩ = some (.int .u32 cu) := hC.keep (by go_simp); go_simp; first | done | rfl | exact ⟨rfl, rfl⟩)
                simp only [Act.put, List.setIfInBounds_toArray, List.set_cons_zero, List.set_cons_succ]
                apply wpQ_do
                · rfl
                · intro wq hC; go_light; first | (go_simp; first | done | rfl | exact ⟨rfl, rfl⟩) | (have k0 : wq.cell? ⟨b4, o4, none⟩ = some (.int .u32 cu) := hC.keep (by go_simp); go_simp; first | done | rfl | exact ⟨rfl, rfl⟩)
                simp only [Act.put, List.setIfInBounds_toArray, List.set_cons_zero, List.set_cons_succ]
                apply wpQ_do
                · rfl
                · intro wq hC; go_light; first | (go_simp; first | done | rfl | exact ⟨rfl, rfl⟩) | (have k0 : wq.cell? ⟨b4, o4, none⟩ = some (.int .u32 cu) := hC.keep (by go_simp); go_simp; first | done | rfl | exact ⟨rfl, rfl⟩)
                simp only [Act.put, List.setIfInBounds_toArray, List.set_cons_zero, List.set_cons_succ]
                apply wpQ_do
                · rfl
                · intro wq hC; go_light; first | (go_simp; first | done | rfl | exact ⟨rfl, rfl⟩) | (have k0 : wq.cell? ⟨b4, o4, none⟩ = some (.int .u32 cu) := hC.keep (by go_simp); go_simp; first | done | rfl | exact ⟨rfl, rfl⟩)
                simp only [Act.put, List.setIfInBounds_toArray, List.set_cons_zero, List.set_cons_succ]
                apply wpQ_not
                · rfl
                simp only [Act.put, List.setIfInBounds_toArray, List.set_cons_zero, List.set_cons_succ]
                apply wpQ_not
                · rfl
                simp only [Act.put, List.setIfInBounds_toArray, List.set_cons_zero, List.set_cons_succ]
                apply wpQ_not
                · rfl
                simp only [Act.put, List.setIfInBounds_toArray, List.set_cons_zero, List.set_cons_succ]
                apply wpQ_not
                · rfl
                simp only [Act.put, List.setIfInBounds_toArray, List.set_cons_zero, List.set_cons_succ]
                apply wpQ_not
                · rfl
                simp only [Act.put, List.setIfInBounds_toArray, List.set_cons_zero, List.set_cons_succ]
                apply wpQ_not
                · rfl
                simp only [Act.put, List.setIfInBounds_toArray, List.set_cons_zero, List.set_cons_succ]
                apply wpQ_not
                · rfl
                simp only [Act.put, List.setIfInBounds_toArray, List.set_cons_zero, List.set_cons_succ]
                apply wpQ_not
                · rfl
                simp only [Act.put, List.setIfInBounds_toArray, List.set_cons_zero, List.set_cons_succ]
                apply wpQ_not
                · rfl
                simp only [Act.put, List.setIfInBounds_toArray, List.set_cons_zero, List.set_cons_succ]
                apply wpQ_not
                · rfl
                simp only [Act.put, List.setIfInBounds_toArray, List.set_cons_zero, List.set_cons_succ]
                apply wpQ_not
                · rfl
                simp only [Act.put, List.setIfInBounds_toArray, List.set_cons_zero, List.set_cons_succ]
                apply wpQ_do
                · rfl
                · intro wq hC; go_light; first | (go_simp; first | done | rfl | exact ⟨rfl, rfl⟩) | (have k0 : wq.cell? ⟨b4, o4, none⟩ = some (.int .u32 cu) := hC.keep (by go_simp); go_simp; first | done | rfl | exact ⟨rfl, rfl⟩)
                simp only [Act.put, List.setIfInBounds_toArray, List.set_cons_zero, List.set_cons_succ]
                apply wpQ_do
                · rfl
                · intro wq hC; go_light; first | (go_simp; first | done | rfl | exact ⟨rfl, rfl⟩) | (have k0 : wq.cell? ⟨b4, o4, none⟩ = some (.int .u32 cu) := hC.keep (by go_simp); go_simp; first | done | rfl | exact ⟨rfl, rfl⟩)
                simp only [Act.put, List.setIfInBounds_toArray, List.set_cons_zero, List.set_cons_succ]
                apply wpQ_nil
                intro w52 hb52
                have hb52 : Below _ _ _ := hb52
                have yw52 : w.heap.size ≤ w52.heap.size := by (have := hb52.size; (try simp at this); omega)
                have c52_0 : w52.cell? ⟨b4, o4, none⟩ = some (.int .u32 cu) := keep hb52 (by go_simp)
                have f52_0 : w52.frozen? ⟨b4, o4, none⟩ = false := keepF hb52 (.int .u32 cu) (by go_simp) (by go_simp)
                go_wp2_with fail
                go_roundw
                case rel => exact ⟨1, by omega, by go_num, hB2.trans (Below.mono hb52 hB2.size)⟩
                case measure => (try simp [intOf]) <;> omega

              · obtain ⟨t, rfl⟩ : ∃ t, nT = t + 1 := ⟨nT - 1, by omega⟩
                have z0 : ((0 : Nat) : Int) = 0 := rfl
                have zt : ((t + 1 : Nat) : Int) = (t : Int) + 1 := rfl
                (try rw [z0])
                obtain ⟨b4, o4, ea4, d4, f4⟩ := HA4.out 0 (by omega)
                subst ea4
                rw [Nat.add_zero] at d4 f4
                obtain ⟨b7, o7, ea7, d7, f7⟩ := HA7.out t (by omega)
                subst ea7
                have q2 : decide (LS.getD 0 0 ≤ TT.getD t 0) = false := decide_eq_false (by have h9 := FB.out t 0 (by omega) (by omega); omega)
                clear HA4 HA7
                generalize hcu : LS.getD 0 0 = cu at *
                clear hcu
                generalize hla : TT.getD t 0 = la at *
                clear hla
                have x4 := keep (w1 := wr) hB2 d4
                have y4 := keepF (w1 := wr) hB2 _ d4 f4
                have x7 := keep (w1 := wr) hB2 d7
                have y7 := keepF (w1 := wr) hB2 _ d7 f7
                clear d4 f4 d7 f7
                have m2 : (0 : Int) < (nL : Int) := by omega
                have m2n : 0 < nL := by omega
                have e1t : IntKind.i64.wrap ((t : Int) + 1 - 1) = (t : Int) := by rw [show (t : Int) + 1 - 1 = (t : Int) from by omega]; exact IntWalk.i64_in _ (by omega)
                have e2t : IntKind.i64.wrap (t : Int) = (t : Int) := IntWalk.i64_in _ (by omega)
                have e3t : (0 : Int) ≤ (t : Int) := by omega
                have m5 : (t : Int) < (t : Int) + 1 := by omega
                have m6 : decide ((0 : Int) < (t : Int) + 1) = true := decide_eq_true (by omega)
                go_wp2_with fail
                refine wpQ_region (by kernel_rfl) (by kernel_rfl) ?_
                apply wpQ_do
                · rfl
                · intro wq hC; go_light; first | (go_simp; first | done | rfl | exact ⟨rfl, rfl⟩) | (have k0 : wq.cell? ⟨b4, o4, none⟩ = some (.int .u32 cu) := hC.keep (by go_simp); have k1 : wq.cell? ⟨b7, o7 + t, none⟩ = some (.int .u32 la) := hC.keep (by go_simp); go_simp; first | done | rfl | exact ⟨rfl, rfl⟩)
                simp only [Act.put, List.setIfInBounds_toArray, List.set_cons_zero, List.set_cons_succ]
                apply wpQ_do
                · rfl
                · intro wq hC; go_light; first | (go_simp; first | done | rfl | exact ⟨rfl, rfl⟩) | (have k0 : wq.cell? ⟨b4, o4, none⟩ = some (.int .u32 cu) := hC.keep (by go_simp); have k1 : wq.cell? ⟨b7, o7 + t, none⟩ = some (.int .u32 la) := hC.keep (by go_simp); go_simp; first | done | rfl | exact ⟨rfl, rfl⟩)
                simp only [Act.put, List.setIfInBounds_toArray, List.set_cons_zero, List.set_cons_succ]
                apply wpQ_do
                · rfl
                · intro wq hC; go_light; first | (go_simp; first | done | rfl | exact ⟨rfl, rfl⟩) | (have k0 : wq.cell? ⟨b4, o4, none⟩ = some (.int .u32 cu) := hC.keep (by go_simp); have k1 : wq.cell? ⟨b7, o7 + t, none⟩ = some (.int .u32 la) := hC.keep (by go_simp); go_simp; first | done | rfl | exact ⟨rfl, rfl⟩)
                simp only [Act.put, List.setIfInBounds_toArray, List.set_cons_zero, List.set_cons_succ]
                apply wpQ_not
                · rfl
                simp only [Act.put, List.setIfInBounds_toArray, List.set_cons_zero, List.set_cons_succ]
                apply wpQ_not
                · rfl
                simp only [Act.put, List.setIfInBounds_toArray, List.set_cons_zero, List.set_cons_succ]
                apply wpQ_not
                · rfl
                simp only [Act.put, List.setIfInBounds_toArray, List.set_cons_zero, List.set_cons_succ]
                apply wpQ_not
                · rfl
                simp only [Act.put, List.setIfInBounds_toArray, List.set_cons_zero, List.set_cons_succ]
                apply wpQ_not
                · rfl
                simp only [Act.put, List.setIfInBounds_toArray, List.set_cons_zero, List.set_cons_succ]
                apply wpQ_not
                · rfl
                simp only [Act.put, List.setIfInBounds_toArray, List.set_cons_zero, List.set_cons_succ]
                apply wpQ_not
                · rfl
                simp only [Act.put, List.setIfInBounds_toArray, List.set_cons_zero, List.set_cons_succ]
                apply wpQ_not
                · rfl
                simp only [Act.put, List.setIfInBounds_toArray, List.set_cons_zero, List.set_cons_succ]
                apply wpQ_not
                · rfl
                simp only [Act.put, List.setIfInBounds_toArray, List.set_cons_zero, List.set_cons_succ]
                apply wpQ_not
                · rfl
                simp only [Act.put, List.setIfInBounds_toArray, List.set_cons_zero, List.set_cons_succ]
                apply wpQ_do
                · rfl
                · intro wq hC; go_light; first | (go_simp; first | done | rfl | exact ⟨rfl, rfl⟩) | (have k0 : wq.cell? ⟨b4, o4, none⟩ = some (.int .u32 cu) := hC.keep (by go_simp); have k1 : wq.cell? ⟨b7, o7 + t, none⟩ = some (.int .u32 la) := hC.keep (by go_simp); go_simp; first | done | rfl | exact ⟨rfl, rfl⟩)
                simp only [Act.put, List.setIfInBounds_toArray, List.set_cons_zero, List.set_cons_succ]
                apply wpQ_do
                · rfl
                · intro wq hC; go_light; first | (go_simp; first | done | rfl | exact ⟨rfl, rfl⟩) | (have k0 : wq.cell? ⟨b4, o4, none⟩ = some (.int .u32 cu) := hC.keep (by go_simp); have k1 : wq.cell? ⟨b7, o7 + t, none⟩ = some (.int .u32 la) := hC.keep (by go_simp); go_simp; first | done | rfl | exact ⟨rfl, rfl⟩)
                simp only [Act.put, List.setIfInBounds_toArray, List.set_cons_zero, List.set_cons_succ]
                apply wpQ_do
                · rfl
                · intro wq hC; go_light; first | (go_simp; first | done | rfl | exact ⟨rfl, rfl⟩) | (have k0 : wq.cell? ⟨b4, o4, none⟩ = some (.int .u32 cu) := hC.keep (by go_simp); have k1 : wq.cell? ⟨b7, o7 + t, none⟩ = some (.int .u32 la) := hC.keep (by go_simp); go_simp; first | done | rfl | exact ⟨rfl, rfl⟩)
                simp only [Act.put, List.setIfInBounds_toArray, List.set_cons_zero, List.set_cons_succ]
                apply wpQ_do
                · rfl
                · intro wq hC; go_light; first | (go_simp; first | done | rfl | exact ⟨rfl, rfl⟩) | (have k0 : wq.cell? ⟨b4, o4, none⟩ = some (.int .u32 cu) := hC.keep (by go_simp); have k1 : wq.cell? ⟨b7, o7 + t, none⟩ = some (.int .u32 la) := hC.keep (by go_simp); go_simp; first | done | rfl | exact ⟨rfl, rfl⟩)
                simp only [Act.put, List.setIfInBounds_toArray, List.set_cons_zero, List.set_cons_succ]
                apply wpQ_do
                · rfl
                · intro wq hC; go_light; first | (go_simp; first | done | rfl | exact ⟨rfl, rfl⟩) | (have k0 : wq.cell? ⟨b4, o4, none⟩ = some (.int .u32 cu) := hC.keep (by go_simp); have k1 : wq.cell? ⟨b7, o7 + t, none⟩ = some (.int .u32 la) := hC.keep (by go_simp); go_simp; first | done | rfl | exact ⟨rfl, rfl⟩)
                simp only [Act.put, List.setIfInBounds_toArray, List.set_cons_zero, List.set_cons_succ]
                apply wpQ_do
                · rfl
                · intro wq hC; go_light; first | (go_simp; first | done | rfl | exact ⟨rfl, rfl⟩) | (have k0 : wq.cell? ⟨b4, o4, none⟩ = some (.int .u32 cu) := hC.keep (by go_simp); have k1 : wq.cell? ⟨b7, o7 + t, none⟩ = some (.int .u32 la) := hC.keep (by go_simp); go_simp; first | done | rfl | exact ⟨rfl, rfl⟩)
                simp only [Act.put, List.setIfInBounds_toArray, List.set_cons_zero, List.set_cons_succ]
                apply wpQ_do
                · rfl
                · intro wq hC; go_light; first | (go_simp; first | done | rfl | exact ⟨rfl, rfl⟩) | (have k0 : wq.cell? ⟨b4, o4, none⟩ = some (.int .u32 cu) := hC.keep (by go_simp); have k1 : wq.cell? ⟨b7, o7 + t, none⟩ = some (.int .u32 la) := hC.keep (by go_simp); go_simp; first | done | rfl | exact ⟨rfl, rfl⟩)
                simp only [Act.put, List.setIfInBounds_toArray, List.set_cons_zero, List.set_cons_succ]
                apply wpQ_do
                · rfl
                · intro wq hC; go_light; first | (go_simp; first | done | rfl | exact ⟨rfl, rfl⟩) | (have k0 : wq.cell? ⟨b4, o4, none⟩ = some (.int .u32 cu) := hC.keep (by go_simp); have k1 : wq.cell? ⟨b7, o7 + t, none⟩ = some (.int .u32 la) := hC.keep (by go_simp); go_simp; first | done | rfl | exact ⟨rfl, rfl⟩)
                simp only [Act.put, List.setIfInBounds_toArray, List.set_cons_zero, List.set_cons_succ]
                apply wpQ_do
                · rfl
                · intro wq hC; go_light; first | (go_simp; first | done | rfl | exact ⟨rfl, rfl⟩) | (have k0 : wq.cell? ⟨b4, o4, none⟩ = some (.int .u32 cu) := hC.keep (by go_simp); have k1 : wq.cell? ⟨b7, o7 + t, none⟩ = some (.int .u32 la) := hC.keep (by go_simp); go_simp; first | done | rfl | exact ⟨rfl, rfl⟩)
                simp only [Act.put, List.setIfInBounds_toArray, List.set_cons_zero, List.set_cons_succ]
                apply wpQ_do
                · rfl
                · intro wq hC; go_light; first | (go_simp; first | done | rfl | exact ⟨rfl, rfl⟩) | (have k0 : wq.cell? ⟨b4, o4, none⟩ = some (.int .u32 cu) := hC.keep (by go_simp); have k1 : wq.cell? ⟨b7, o7 + t, none⟩ = some (.int .u32 la) := hC.keep (by go_simp); go_simp; first | done | rfl | exact ⟨rfl, rfl⟩)
                simp only [Act.put, List.setIfInBounds_toArray, List.set_cons_zero, List.set_cons_succ]
                apply wpQ_do
                · rfl
                · intro wq hC; go_light; first | (go_simp; first | done | rfl | exact ⟨rfl, rfl⟩) | (have k0 : wq.cell? ⟨b4, o4, none⟩ = some (.int .u32 cu) := hC.keep (by go_simp); have k1 : wq.cell? ⟨b7, o7 + t, none⟩ = some (.int .u32 la) := hC.keep (by go_simp); go_simp; first | done | rfl | exact ⟨rfl, rfl⟩)
                simp only [Act.put, List.setIfInBounds_toArray, List.set_cons_zero, List.set_cons_succ]
                apply wpQ_do
                · rfl
                · intro wq hC; go_light; first | (go_simp; first | done | rfl | exact ⟨rfl, rfl⟩) | (have k0 : wq.cell? ⟨b4, o4, none⟩ = some (.int .u32 cu) := hC.keep (by go_simp); have k1 : wq.cell? ⟨b7, o7 + t, none⟩ = some (.int .u32 la) := hC.keep (by go_simp); go_simp; first | done | rfl | exact ⟨rfl, rfl⟩)
                simp only [Act.put, List.setIfInBounds_toArray, List.set_cons_zero, List.set_cons_succ]
                apply wpQ_do
                · rfl
                · intro wq hC; go_light; first | (go_simp; first | done | rfl | exact ⟨rfl, rfl⟩) | (have k0 : wq.cell? ⟨b4, o4, none⟩ = some (.int .u32 cu) := hC.keep (by go_simp); have k1 : wq.cell? ⟨b7, o7 + t, none⟩ = some (.int .u32 la) := hC.keep (by go_simp); go_simp; first | done | rfl | exact ⟨rfl, rfl⟩)
                simp only [Act.put, List.setIfInBounds_toArray, List.set_cons_zero, List.set_cons_succ]
                apply wpQ_do
                · rfl
                · intro wq hC; go_light; first | (go_simp; first | done | rfl | exact ⟨rfl, rfl⟩) | (have k0 : wq.cell? ⟨b4, o4, none⟩ = some (.int .u32 cu) := hC.keep (by go_simp); have k1 : wq.cell? ⟨b7, o7 + t, none⟩ = some (.int .u32 la) := hC.keep (by go_simp); go_simp; first | done | rfl | exact ⟨rfl, rfl⟩)
                simp only [Act.put, List.setIfInBounds_toArray, List.set_cons_zero, List.set_cons_succ]
                apply wpQ_do
                · rfl
                · intro wq hC; go_light; first | (go_simp; first | done | rfl | exact ⟨rfl, rfl⟩) | (have k0 : wq.cell? ⟨b4, o4, none⟩ = some (.int .u32 cu) := hC.keep (by go_simp); have k1 : wq.cell? ⟨b7, o7 + t, none⟩ = some (.int .u32 la) := hC.keep (by go_simp); go_simp; first | done | rfl | exact ⟨rfl, rfl⟩)
                simp only [Act.put, List.setIfInBounds_toArray, List.set_cons_zero, List.set_cons_succ]
                apply wpQ_do
                · rfl
                · intro wq hC; go_light; first | (go_simp; first | done | rfl | exact ⟨rfl, rfl⟩) | (have k0 : wq.cell? ⟨b4, o4, none⟩ = some (.int .u32 cu) := hC.keep (by go_simp); have k1 : wq.cell? ⟨b7, o7 + t, none⟩ = some (.int .u32 la) := hC.keep (by go_simp); go_simp; first | done | rfl | exact ⟨rfl, rfl⟩)
                simp only [Act.put, List.setIfInBounds_toArray, List.set_cons_zero, List.set_cons_succ]
                apply wpQ_do
                · rfl
                · intro wq hC; go_light; first | (go_simp; first | done | rfl | exact ⟨rfl, rfl⟩) | (have k0 : wq.cell? ⟨b4, o4, none⟩ = some (.int .u32 cu) := hC.keep (by go_simp); have k1 : wq.cell? ⟨b7, o7 + t, none⟩ = some (.int .u32 la) := hC.keep (by go_simp); go_simp; first | done | rfl | exact ⟨rfl, rfl⟩)
                simp only [Act.put, List.setIfInBounds_toArray, List.set_cons_zero, List.set_cons_succ]
                apply wpQ_do
                · rfl
                · intro wq hC; go_light; first | (go_simp; first | done | rfl | exact ⟨rfl, rfl⟩) | (have k0 : wq.cell? ⟨b4, o4, none⟩ = some (.int .u32 cu) := hC.keep (by go_simp); have k1 : wq.cell? ⟨b7, o7 + t, none⟩ = some (.int .u32 la) := hC.keep (by go_simp); go_simp; first | done | rfl | exact ⟨rfl, rfl⟩)
                simp only [Act.put, List.setIfInBounds_toArray, List.set_cons_zero, List.set_cons_succ]
                apply wpQ_do
                · rfl
                · intro wq hC; go_light; first | (go_simp; first | done | rfl | exact ⟨rfl, rfl⟩) | (have k0 : wq.cell? ⟨b4, o4, none⟩ = some (.int .u32 cu) := hC.keep (by go_simp); have k1 : wq.cell? ⟨b7, o7 + t, none⟩ = some (.int .u32 la) := hC.keep (by go_simp); go_simp; first | done | rfl | exact ⟨rfl, rfl⟩)
                simp only [Act.put, List.setIfInBounds_toArray, List.set_cons_zero, List.set_cons_succ]
                apply wpQ_nil
                intro w52 hb52
                have hb52 : Below _ _ _ := hb52
                have yw52 : w.heap.size ≤ w52.heap.size := by (have := hb52.size; (try simp at this); omega)
                have c52_0 : w52.cell? ⟨b4, o4, none⟩ = some (.int .u32 cu) := keep hb52 (by go_simp)
                have f52_0 : w52.frozen? ⟨b4, o4, none⟩ = false := keepF hb52 (.int .u32 cu) (by go_simp) (by go_simp)
                have c52_1 : w52.cell? ⟨b7, o7 + t, none⟩ = some (.int .u32 la) := keep hb52 (by go_simp)
                have f52_1 : w52.frozen? ⟨b7, o7 + t, none⟩ = false := keepF hb52 (.int .u32 la) (by go_simp) (by go_simp)
                go_wp2_with fail
                go_roundw
                case rel => exact ⟨1, by omega, by go_num, hB2.trans (Below.mono hb52 hB2.size)⟩
                case measure => (try simp [intOf]) <;> omega

            · obtain ⟨p, rfl⟩ : ∃ p, k2 = p + 1 := ⟨k2 - 1, by omega⟩
              rcases Nat.eq_zero_or_pos nT with h1 | h1
              · subst h1
                have z0 : ((0 : Nat) : Int) = 0 := rfl
                have zp : ((p + 1 : Nat) : Int) = (p : Int) + 1 := rfl
                (try rw [zp])
                obtain ⟨b4, o4, ea4, d4, f4⟩ := HA4.out (p + 1) (by omega)
                subst ea4
                obtain ⟨b5, o5, e5, d5, f5⟩ := HA4.out p (by omega)
                simp only [Option.some.injEq, Addr.mk.injEq, and_true] at e5
                obtain ⟨rfl, rfl⟩ := e5
                have q1 : decide (LS.getD (p + 1) 0 ≤ LS.getD p 0) = false := decide_eq_false (by have h9 := FA.out p (by omega); omega)
                clear HA4 HA7
                generalize hcu : LS.getD (p + 1) 0 = cu at *
                clear hcu
                generalize hpr : LS.getD p 0 = pr at *
                clear hpr
                have x4 := keep (w1 := wr) hB2 d4
                have y4 := keepF (w1 := wr) hB2 _ d4 f4
                have x5 := keep (w1 := wr) hB2 d5
                have y5 := keepF (w1 := wr) hB2 _ d5 f5
                clear d4 f4 d5 f5
                have e1p : IntKind.i64.wrap ((p : Int) + 1 - 1) = (p : Int) := by rw [show (p : Int) + 1 - 1 = (p : Int) from by omega]; exact IntWalk.i64_in _ (by omega)
                have e2p : IntKind.i64.wrap (p : Int) = (p : Int) := IntWalk.i64_in _ (by omega)
                have e3p : (0 : Int) ≤ (p : Int) := by omega
                have m1 : (0 : Int) ≤ (p : Int) + 1 := by omega
                have m2 : (p : Int) + 1 < (nL : Int) := by omega
                have m3 : (p : Int) < (nL : Int) := by omega
                have mm4 : decide ((0 : Int) < (p : Int) + 1) = true := decide_eq_true (by omega)
                go_wp2_with fail
                refine wpQ_region (by kernel_rfl) (by kernel_rfl) ?_
                apply wpQ_do
                · rfl
                · intro wq hC; go_light; first | (go_simp; first | done | rfl | exact ⟨rfl, rfl⟩) | (have k0 : wq.cell? ⟨b4, o4 + (p + 1), none⟩ = some (.int .u32 cu) := hC.keep (by go_simp); have k1 : wq.cell? ⟨b4, o4 + p, none⟩ = some (.int .u32 pr) := hC.keep (by go_simp); go_simp; first | done | rfl | exact ⟨rfl, rfl⟩)
                simp only [Act.put, List.setIfInBounds_toArray, List.set_cons_zero, List.set_cons_succ]
                apply wpQ_do
                · rfl
                · intro wq hC; go_light; first | (go_simp; first | done | rfl | exact ⟨rfl, rfl⟩) | (have k0 : wq.cell? ⟨b4, o4 + (p + 1), none⟩ = some (.int .u32 cu) := hC.keep (by go_simp); have k1 : wq.cell? ⟨b4, o4 + p, none⟩ = some (.int .u32 pr) := hC.keep (by go_simp); go_simp; first | done | rfl | exact ⟨rfl, rfl⟩)
                simp only [Act.put, List.setIfInBounds_toArray, List.set_cons_zero, List.set_cons_succ]
                apply wpQ_do
                · rfl
                · intro wq hC; go_light; first | (go_simp; first | done | rfl | exact ⟨rfl, rfl⟩) | (have k0 : wq.cell? ⟨b4, o4 + (p + 1), none⟩ = some (.int .u32 cu) := hC.keep (by go_simp); have k1 : wq.cell? ⟨b4, o4 + p, none⟩ = some (.int .u32 pr) := hC.keep (by go_simp); go_simp; first | done | rfl | exact ⟨rfl, rfl⟩)
                simp only [Act.put, List.setIfInBounds_toArray, List.set_cons_zero, List.set_cons_succ]
                apply wpQ_do
                · rfl
                · intro wq hC; go_light; first | (go_simp; first | done | rfl | exact ⟨rfl, rfl⟩) | (have k0 : wq.cell? ⟨b4, o4 + (p + 1), none⟩ = some (.int .u32 cu) := hC.keep (by go_simp); have k1 : wq.cell? ⟨b4, o4 + p, none⟩ = some (.int .u32 pr) := hC.keep (by go_simp); go_simp; first | done | rfl | exact ⟨rfl, rfl⟩)
                simp only [Act.put, List.setIfInBounds_toArray, List.set_cons_zero, List.set_cons_succ]
                apply wpQ_do
                · rfl
                · intro wq hC; go_light; first | (go_simp; first | done | rfl | exact ⟨rfl, rfl⟩) | (have k0 : wq.cell? ⟨b4, o4 + (p + 1), none⟩ = some (.int .u32 cu) := hC.keep (by go_simp); have k1 : wq.cell? ⟨b4, o4 + p, none⟩ = some (.int .u32 pr) := hC.keep (by go_simp); go_simp; first | done | rfl | exact ⟨rfl, rfl⟩)
                simp only [Act.put, List.setIfInBounds_toArray, List.set_cons_zero, List.set_cons_succ]
                apply wpQ_do
                · rfl
                · intro wq hC; go_light; first | (go_simp; first | done | rfl | exact ⟨rfl, rfl⟩) | (have k0 : wq.cell? ⟨b4, o4 + (p + 1), none⟩ = some (.int .u32 cu) := hC.keep (by go_simp); have k1 : wq.cell? ⟨b4, o4 + p, none⟩ = some (.int .u32 pr) := hC.keep (by go_simp); go_simp; first | done | rfl | exact ⟨rfl, rfl⟩)
                simp only [Act.put, List.setIfInBounds_toArray, List.set_cons_zero, List.set_cons_succ]
                apply wpQ_do
                · rfl
                · intro wq hC; go_light; first | (go_simp; first | done | rfl | exact ⟨rfl, rfl⟩) | (have k0 : wq.cell? ⟨b4, o4 + (p + 1), none⟩ = some (.int .u32 cu) := hC.keep (by go_simp); have k1 : wq.cell? ⟨b4, o4 + p, none⟩ = some (.int .u32 pr) := hC.keep (by go_simp); go_simp; first | done | rfl | exact ⟨rfl, rfl⟩)
                simp only [Act.put, List.setIfInBounds_toArray, List.set_cons_zero, List.set_cons_succ]
                apply wpQ_do
                · rfl
                · intro wq hC; go_light; first | (go_simp; first | done | rfl | exact ⟨rfl, rfl⟩) | (have k0 : wq.cell? ⟨b4, o4 + (p + 1), none⟩ = some (.int .u32 cu) := hC.keep (by go_simp); have k1 : wq.cell? ⟨b4, o4 + p, none⟩ = some (.int .u32 pr) := hC.keep (by go_simp); go_simp; first | done | rfl | exact ⟨rfl, rfl⟩)
                simp only [Act.put, List.setIfInBounds_toArray, List.set_cons_zero, List.set_cons_succ]
                apply wpQ_do
                · rfl
                · intro wq hC; go_light; first | (go_simp; first | done | rfl | exact ⟨rfl, rfl⟩) | (have k0 : wq.cell? ⟨b4, o4 + (p + 1), none⟩ = some (.int .u32 cu) := hC.keep (by go_simp); have k1 : wq.cell? ⟨b4, o4 + p, none⟩ = some (.int .u32 pr) := hC.keep (by go_simp); go_simp; first | done | rfl | exact ⟨rfl, rfl⟩)
                simp only [Act.put, List.setIfInBounds_toArray, List.set_cons_zero, List.set_cons_succ]
                apply wpQ_do
                · rfl
                · intro wq hC; go_light; first | (go_simp; first | done | rfl | exact ⟨rfl, rfl⟩) | (have k0 : wq.cell? ⟨b4, o4 + (p + 1), none⟩ = some (.int .u32 cu) := hC.keep (by go_simp); have k1 : wq.cell? ⟨b4, o4 + p, none⟩ = some (.int .u32 pr) := hC.keep (by go_simp); go_simp; first | done | rfl | exact ⟨rfl, rfl⟩)
                simp only [Act.put, List.setIfInBounds_toArray, List.set_cons_zero, List.set_cons_succ]
                apply wpQ_do
                · rfl
                · intro wq hC; go_light; first | (go_simp; first | done | rfl | exact ⟨rfl, rfl⟩) | (have k0 : wq.cell? ⟨b4, o4 + (p + 1), none⟩ = some (.int .u32 cu) := hC.keep (by go_simp); have k1 : wq.cell? ⟨b4, o4 + p, none⟩ = some (.int .u32 pr) := hC.keep (by go_simp); go_simp; first | done | rfl | exact ⟨rfl, rfl⟩)
                simp only [Act.put, List.setIfInBounds_toArray, List.set_cons_zero, List.set_cons_succ]
                apply wpQ_do
                · rfl
                · intro wq hC; go_light; first | (go_simp; first | done | rfl | exact ⟨rfl, rfl⟩) | (have k0 : wq.cell? ⟨b4, o4 + (p + 1), none⟩ = some (.int .u32 cu) := hC.keep (by go_simp); have k1 : wq.cell? ⟨b4, o4 + p, none⟩ = some (.int .u32 pr) := hC.keep (by go_simp); go_simp; first | done | rfl | exact ⟨rfl, rfl⟩)
                simp only [Act.put, List.setIfInBounds_toArray, List.set_cons_zero, List.set_cons_succ]
                apply wpQ_do
                · rfl
                · intro wq hC; go_light; first | (go_simp; first | done | rfl | exact ⟨rfl, rfl⟩) | (have k0 : wq.cell? ⟨b4, o4 + (p + 1), none⟩ = some (.int .u32 cu) := hC.keep (by go_simp); have k1 : wq.cell? ⟨b4, o4 + p, none⟩ = some (.int .u32 pr) := hC.keep (by go_simp); go_simp; first | done | rfl | exact ⟨rfl, rfl⟩)
                simp only [Act.put, List.setIfInBounds_toArray, List.set_cons_zero, List.set_cons_succ]
                apply wpQ_do
                · rfl
                · intro wq hC; go_light; first | (go_simp; first | done | rfl | exact ⟨rfl, rfl⟩) | (have k0 : wq.cell? ⟨b4, o4 + (p + 1), none⟩ = some (.int .u32 cu) := hC.keep (by go_simp); have k1 : wq.cell? ⟨b4, o4 + p, none⟩ = some (.int .u32 pr) := hC.keep (by go_simp); go_simp; first | done | rfl | exact ⟨rfl, rfl⟩)
                simp only [Act.put, List.setIfInBounds_toArray, List.set_cons_zero, List.set_cons_succ]
                apply wpQ_do
                · rfl
                · intro wq hC; go_light; first | (go_simp; first | done | rfl | exact ⟨rfl, rfl⟩) | (have k0 : wq.cell? ⟨b4, o4 + (p + 1), none⟩ = some (.int .u32 cu) := hC.keep (by go_simp); have k1 : wq.cell? ⟨b4, o4 + p, none⟩ = some (.int .u32 pr) := hC.keep (by go_simp); go_simp; first | done | rfl | exact ⟨rfl, rfl⟩)
                simp only [Act.put, List.setIfInBounds_toArray, List.set_cons_zero, List.set_cons_succ]
                apply wpQ_do
                · rfl
                · intro wq hC; go_light; first | (go_simp; first | done | rfl | exact ⟨rfl, rfl⟩) | (have k0 : wq.cell? ⟨b4, o4 + (p + 1), none⟩ = some (.int .u32 cu) := hC.keep (by go_simp); have k1 : wq.cell? ⟨b4, o4 + p, none⟩ = some (.int .u32 pr) := hC.keep (by go_simp); go_simp; first | done | rfl | exact ⟨rfl, rfl⟩)
                simp only [Act.put, List.setIfInBounds_toArray, List.set_cons_zero, List.set_cons_succ]
                apply wpQ_do
                · rfl
                · intro wq hC; go_light; first | (go_simp; first | done | rfl | exact ⟨rfl, rfl⟩) | (have k0 : wq.cell? ⟨b4, o4 + (p + 1), none⟩ = some (.int .u32 cu) := hC.keep (by go_simp); have k1 : wq.cell? ⟨b4, o4 + p, none⟩ = some (.int .u32 pr) := hC.keep (by go_simp); go_simp; first | done | rfl | exact ⟨rfl, rfl⟩)
                simp only [Act.put, List.setIfInBounds_toArray, List.set_cons_zero, List.set_cons_succ]
                apply wpQ_do
                · rfl
                · intro wq hC; go_light; first | (go_simp; first | done | rfl | exact ⟨rfl, rfl⟩) | (have k0 : wq.cell? ⟨b4, o4 + (p + 1), none⟩ = some (.int .u32 cu) := hC.keep (by go_simp); have k1 : wq.cell? ⟨b4, o4 + p, none⟩ = some (.int .u32 pr) := hC.keep (by go_simp); go_simp; first | done | rfl | exact ⟨rfl, rfl⟩)
                simp only [Act.put, List.setIfInBounds_toArray, List.set_cons_zero, List.set_cons_succ]
                apply wpQ_do
                · rfl
                · intro wq hC; go_light; first | (go_simp; first | done | rfl | exact ⟨rfl, rfl⟩) | (have k0 : wq.cell? ⟨b4, o4 + (p + 1), none⟩ = some (.int .u32 cu) := hC.keep (by go_simp); have k1 : wq.cell? ⟨b4, o4 + p, none⟩ = some (.int .u32 pr) := hC.keep (by go_simp); go_simp; first | done | rfl | exact ⟨rfl, rfl⟩)
                simp only [Act.put, List.setIfInBounds_toArray, List.set_cons_zero, List.set_cons_succ]
                apply wpQ_not
                · rfl
                simp only [Act.put, List.setIfInBounds_toArray, List.set_cons_zero, List.set_cons_succ]
                apply wpQ_not
                · rfl
                simp only [Act.put, List.setIfInBounds_toArray, List.set_cons_zero, List.set_cons_succ]
                apply wpQ_not
                · rfl
                simp only [Act.put, List.setIfInBounds_toArray, List.set_cons_zero, List.set_cons_succ]
                apply wpQ_not
                · rfl
                simp only [Act.put, List.setIfInBounds_toArray, List.set_cons_zero, List.set_cons_succ]
                apply wpQ_not
                · rfl
                simp only [Act.put, List.setIfInBounds_toArray, List.set_cons_zero, List.set_cons_succ]
                apply wpQ_not
                · rfl
                simp only [Act.put, List.setIfInBounds_toArray, List.set_cons_zero, List.set_cons_succ]
                apply wpQ_not
                · rfl
                simp only [Act.put, List.setIfInBounds_toArray, List.set_cons_zero, List.set_cons_succ]
                apply wpQ_not
                · rfl
                simp only [Act.put, List.setIfInBounds_toArray, List.set_cons_zero, List.set_cons_succ]
                apply wpQ_not
                · rfl
                simp only [Act.put, List.setIfInBounds_toArray, List.set_cons_zero, List.set_cons_succ]
                apply wpQ_not
                · rfl
                simp only [Act.put, List.setIfInBounds_toArray, List.set_cons_zero, List.set_cons_succ]
                apply wpQ_not
                · rfl
                simp only [Act.put, List.setIfInBounds_toArray, List.set_cons_zero, List.set_cons_succ]
                apply wpQ_do
                · rfl
                · intro wq hC; go_light; first | (go_simp; first | done | rfl | exact ⟨rfl, rfl⟩) | (have k0 : wq.cell? ⟨b4, o4 + (p + 1), none⟩ = some (.int .u32 cu) := hC.keep (by go_simp); have k1 : wq.cell? ⟨b4, o4 + p, none⟩ = some (.int .u32 pr) := hC.keep (by go_simp); go_simp; first | done | rfl | exact ⟨rfl, rfl⟩)
                simp only [Act.put, List.setIfInBounds_toArray, List.set_cons_zero, List.set_cons_succ]
                apply wpQ_do
                · rfl
                · intro wq hC; go_light; first | (go_simp; first | done | rfl | exact ⟨rfl, rfl⟩) | (have k0 : wq.cell? ⟨b4, o4 + (p + 1), none⟩ = some (.int .u32 cu) := hC.keep (by go_simp); have k1 : wq.cell? ⟨b4, o4 + p, none⟩ = some (.int .u32 pr) := hC.keep (by go_simp); go_simp; first | done | rfl | exact ⟨rfl, rfl⟩)
                simp only [Act.put, List.setIfInBounds_toArray, List.set_cons_zero, List.set_cons_succ]
                apply wpQ_nil
                intro w52 hb52
                have hb52 : Below _ _ _ := hb52
                have yw52 : w.heap.size ≤ w52.heap.size := by (have := hb52.size; (try simp at this); omega)
                have c52_0 : w52.cell? ⟨b4, o4 + (p + 1), none⟩ = some (.int .u32 cu) := keep hb52 (by go_simp)
                have f52_0 : w52.frozen? ⟨b4, o4 + (p + 1), none⟩ = false := keepF hb52 (.int .u32 cu) (by go_simp) (by go_simp)
                have c52_1 : w52.cell? ⟨b4, o4 + p, none⟩ = some (.int .u32 pr) := keep hb52 (by go_simp)
                have f52_1 : w52.frozen? ⟨b4, o4 + p, none⟩ = false := keepF hb52 (.int .u32 pr) (by go_simp) (by go_simp)
                go_wp2_with fail
                go_roundw
                case rel => exact ⟨p + 1 + 1, by omega, by go_num, hB2.trans (Below.mono hb52 hB2.size)⟩
                case measure => (try simp [intOf]) <;> omega

              · obtain ⟨t, rfl⟩ : ∃ t, nT = t + 1 := ⟨nT - 1, by omega⟩
                have z0 : ((0 : Nat) : Int) = 0 := rfl
                have zp : ((p + 1 : Nat) : Int) = (p : Int) + 1 := rfl
                (try rw [zp])
                have zt : ((t + 1 : Nat) : Int) = (t : Int) + 1 := rfl
                obtain ⟨b4, o4, ea4, d4, f4⟩ := HA4.out (p + 1) (by omega)
                subst ea4
                obtain ⟨b5, o5, e5, d5, f5⟩ := HA4.out p (by omega)
                simp only [Option.some.injEq, Addr.mk.injEq, and_true] at e5
                obtain ⟨rfl, rfl⟩ := e5
                have q1 : decide (LS.getD (p + 1) 0 ≤ LS.getD p 0) = false := decide_eq_false (by have h9 := FA.out p (by omega); omega)
                obtain ⟨b7, o7, ea7, d7, f7⟩ := HA7.out t (by omega)
                subst ea7
                have q2 : decide (LS.getD (p + 1) 0 ≤ TT.getD t 0) = false := decide_eq_false (by have h9 := FB.out t (p + 1) (by omega) (by omega); omega)
                clear HA4 HA7
                generalize hcu : LS.getD (p + 1) 0 = cu at *
                clear hcu
                generalize hpr : LS.getD p 0 = pr at *
                clear hpr
                generalize hla : TT.getD t 0 = la at *
                clear hla
                have x4 := keep (w1 := wr) hB2 d4
                have y4 := keepF (w1 := wr) hB2 _ d4 f4
                have x5 := keep (w1 := wr) hB2 d5
                have y5 := keepF (w1 := wr) hB2 _ d5 f5
                have x7 := keep (w1 := wr) hB2 d7
                have y7 := keepF (w1 := wr) hB2 _ d7 f7
                clear d4 f4 d5 f5 d7 f7
                have e1p : IntKind.i64.wrap ((p : Int) + 1 - 1) = (p : Int) := by rw [show (p : Int) + 1 - 1 = (p : Int) from by omega]; exact IntWalk.i64_in _ (by omega)
                have e2p : IntKind.i64.wrap (p : Int) = (p : Int) := IntWalk.i64_in _ (by omega)
                have e3p : (0 : Int) ≤ (p : Int) := by omega
                have m1 : (0 : Int) ≤ (p : Int) + 1 := by omega
                have m2 : (p : Int) + 1 < (nL : Int) := by omega
                have m3 : (p : Int) < (nL : Int) := by omega
                have mm4 : decide ((0 : Int) < (p : Int) + 1) = true := decide_eq_true (by omega)
                have e1t : IntKind.i64.wrap ((t : Int) + 1 - 1) = (t : Int) := by rw [show (t : Int) + 1 - 1 = (t : Int) from by omega]; exact IntWalk.i64_in _ (by omega)
                have e2t : IntKind.i64.wrap (t : Int) = (t : Int) := IntWalk.i64_in _ (by omega)
                have e3t : (0 : Int) ≤ (t : Int) := by omega
                have m5 : (t : Int) < (t : Int) + 1 := by omega
                have m6 : decide ((0 : Int) < (t : Int) + 1) = true := decide_eq_true (by omega)
                go_wp2_with fail
                refine wpQ_region (by kernel_rfl) (by kernel_rfl) ?_
                apply wpQ_do
                · rfl
                · intro wq hC; go_light; first | (go_simp; first | done | rfl | exact ⟨rfl, rfl⟩) | (have k0 : wq.cell? ⟨b4, o4 + (p + 1), none⟩ = some (.int .u32 cu) := hC.keep (by go_simp); have k1 : wq.cell? ⟨b4, o4 + p, none⟩ = some (.int .u32 pr) := hC.keep (by go_simp); have k2 : wq.cell? ⟨b7, o7 + t, none⟩ = some (.int .u32 la) := hC.keep (by go_simp); go_simp; first | done | rfl | exact ⟨rfl, rfl⟩)
                simp only [Act.put, List.setIfInBounds_toArray, List.set_cons_zero, List.set_cons_succ]
                apply wpQ_do
                · rfl
                · intro wq hC; go_light; first | (go_simp; first | done | rfl | exact ⟨rfl, rfl⟩) | (have k0 : wq.cell? ⟨b4, o4 + (p + 1), none⟩ = some (.int .u32 cu) := hC.keep (by go_simp); have k1 : wq.cell? ⟨b4, o4 + p, none⟩ = some (.int .u32 pr) := hC.keep (by go_simp); have k2 : wq.cell? ⟨b7, o7 + t, none⟩ = some (.int .u32 la) := hC.keep (by go_simp); go_simp; first | done | rfl | exact ⟨rfl, rfl⟩)
                simp only [Act.put, List.setIfInBounds_toArray, List.set_cons_zero, List.set_cons_succ]
                apply wpQ_do
                · rfl
                · intro wq hC; go_light; first | (go_simp; first | done | rfl | exact ⟨rfl, rfl⟩) | (have k0 : wq.cell? ⟨b4, o4 + (p + 1), none⟩ = some (.int .u32 cu) := hC.keep (by go_simp); have k1 : wq.cell? ⟨b4, o4 + p, none⟩ = some (.int .u32 pr) := hC.keep (by go_simp); have k2 : wq.cell? ⟨b7, o7 + t, none⟩ = some (.int .u32 la) := hC.keep (by go_simp); go_simp; first | done | rfl | exact ⟨rfl, rfl⟩)
                simp only [Act.put, List.setIfInBounds_toArray, List.set_cons_zero, List.set_cons_succ]
                apply wpQ_do
                · rfl
                · intro wq hC; go_light; first | (go_simp; first | done | rfl | exact ⟨rfl, rfl⟩) | (have k0 : wq.cell? ⟨b4, o4 + (p + 1), none⟩ = some (.int .u32 cu) := hC.keep (by go_simp); have k1 : wq.cell? ⟨b4, o4 + p, none⟩ = some (.int .u32 pr) := hC.keep (by go_simp); have k2 : wq.cell? ⟨b7, o7 + t, none⟩ = some (.int .u32 la) := hC.keep (by go_simp); go_simp; first | done | rfl | exact ⟨rfl, rfl⟩)
                simp only [Act.put, List.setIfInBounds_toArray, List.set_cons_zero, List.set_cons_succ]
                apply wpQ_do
                · rfl
                · intro wq hC; go_light; first | (go_simp; first | done | rfl | exact ⟨rfl, rfl⟩) | (have k0 : wq.cell? ⟨b4, o4 + (p + 1), none⟩ = some (.int .u32 cu) := hC.keep (by go_simp); have k1 : wq.cell? ⟨b4, o4 + p, none⟩ = some (.int .u32 pr) := hC.keep (by go_simp); have k2 : wq.cell? ⟨b7, o7 + t, none⟩ = some (.int .u32 la) := hC.keep (by go_simp); go_simp; first | done | rfl | exact ⟨rfl, rfl⟩)
                simp only [Act.put, List.setIfInBounds_toArray, List.set_cons_zero, List.set_cons_succ]
                apply wpQ_do
                · rfl
                · intro wq hC; go_light; first | (go_simp; first | done | rfl | exact ⟨rfl, rfl⟩) | (have k0 : wq.cell? ⟨b4, o4 + (p + 1), none⟩ = some (.int .u32 cu) := hC.keep (by go_simp); have k1 : wq.cell? ⟨b4, o4 + p, none⟩ = some (.int .u32 pr) := hC.keep (by go_simp); have k2 : wq.cell? ⟨b7, o7 + t, none⟩ = some (.int .u32 la) := hC.keep (by go_simp); go_simp; first | done | rfl | exact ⟨rfl, rfl⟩)
                simp only [Act.put, List.setIfInBounds_toArray, List.set_cons_zero, List.set_cons_succ]
                apply wpQ_do
                · rfl
                · intro wq hC; go_light; first | (go_simp; first | done | rfl | exact ⟨rfl, rfl⟩) | (have k0 : wq.cell? ⟨b4, o4 + (p + 1), none⟩ = some (.int .u32 cu) := hC.keep (by go_simp); have k1 : wq.cell? ⟨b4, o4 + p, none⟩ = some (.int .u32 pr) := hC.keep (by go_simp); have k2 : wq.cell? ⟨b7, o7 + t, none⟩ = some (.int .u32 la) := hC.keep (by go_simp); go_simp; first | done | rfl | exact ⟨rfl, rfl⟩)
                simp only [Act.put, List.setIfInBounds_toArray, List.set_cons_zero, List.set_cons_succ]
                apply wpQ_do
                · rfl
                · intro wq hC; go_light; first | (go_simp; first | done | rfl | exact ⟨rfl, rfl⟩) | (have k0 : wq.cell? ⟨b4, o4 + (p + 1), none⟩ = some (.int .u32 cu) := hC.keep (by go_simp); have k1 : wq.cell? ⟨b4, o4 + p, none⟩ = some (.int .u32 pr) := hC.keep (by go_simp); have k2 : wq.cell? ⟨b7, o7 + t, none⟩ = some (.int .u32 la) := hC.keep (by go_simp); go_simp; first | done | rfl | exact ⟨rfl, rfl⟩)
                simp only [Act.put, List.setIfInBounds_toArray, List.set_cons_zero, List.set_cons_succ]
                apply wpQ_do
                · rfl
                · intro wq hC; go_light; first | (go_simp; first | done | rfl | exact ⟨rfl, rfl⟩) | (have k0 : wq.cell? ⟨b4, o4 + (p + 1), none⟩ = some (.int .u32 cu) := hC.keep (by go_simp); have k1 : wq.cell? ⟨b4, o4 + p, none⟩ = some (.int .u32 pr) := hC.keep (by go_simp); have k2 : wq.cell? ⟨b7, o7 + t, none⟩ = some (.int .u32 la) := hC.keep (by go_simp); go_simp; first | done | rfl | exact ⟨rfl, rfl⟩)
                simp only [Act.put, List.setIfInBounds_toArray, List.set_cons_zero, List.set_cons_succ]
                apply wpQ_do
                · rfl
                · intro wq hC; go_light; first | (go_simp; first | done | rfl | exact ⟨rfl, rfl⟩) | (have k0 : wq.cell? ⟨b4, o4 + (p + 1), none⟩ = some (.int .u32 cu) := hC.keep (by go_simp); have k1 : wq.cell? ⟨b4, o4 + p, none⟩ = some (.int .u32 pr) := hC.keep (by go_simp); have k2 : wq.cell? ⟨b7, o7 + t, none⟩ = some (.int .u32 la) := hC.keep (by go_simp); go_simp; first | done | rfl | exact ⟨rfl, rfl⟩)
                simp only [Act.put, List.setIfInBounds_toArray, List.set_cons_zero, List.set_cons_succ]
                apply wpQ_do
                · rfl
                · intro wq hC; go_light; first | (go_simp; first | done | rfl | exact ⟨rfl, rfl⟩) | (have k0 : wq.cell? ⟨b4, o4 + (p + 1), none⟩ = some (.int .u32 cu) := hC.keep (by go_simp); have k1 : wq.cell? ⟨b4, o4 + p, none⟩ = some (.int .u32 pr) := hC.keep (by go_simp); have k2 : wq.cell? ⟨b7, o7 + t, none⟩ = some (.int .u32 la) := hC.keep (by go_simp); go_simp; first | done | rfl | exact ⟨rfl, rfl⟩)
                simp only [Act.put, List.setIfInBounds_toArray, List.set_cons_zero, List.set_cons_succ]
                apply wpQ_do
                · rfl
                · intro wq hC; go_light; first | (go_simp; first | done | rfl | exact ⟨rfl, rfl⟩) | (have k0 : wq.cell? ⟨b4, o4 + (p + 1), none⟩ = some (.int .u32 cu) := hC.keep (by go_simp); have k1 : wq.cell? ⟨b4, o4 + p, none⟩ = some (.int .u32 pr) := hC.keep (by go_simp); have k2 : wq.cell? ⟨b7, o7 + t, none⟩ = some (.int .u32 la) := hC.keep (by go_simp); go_simp; first | done | rfl | exact ⟨rfl, rfl⟩)
                simp only [Act.put, List.setIfInBounds_toArray, List.set_cons_zero, List.set_cons_succ]
                apply wpQ_do
                · rfl
                · intro wq hC; go_light; first | (go_simp; first | done | rfl | exact ⟨rfl, rfl⟩) | (have k0 : wq.cell? ⟨b4, o4 + (p + 1), none⟩ = some (.int .u32 cu) := hC.keep (by go_simp); have k1 : wq.cell? ⟨b4, o4 + p, none⟩ = some (.int .u32 pr) := hC.keep (by go_simp); have k2 : wq.cell? ⟨b7, o7 + t, none⟩ = some (.int .u32 la) := hC.keep (by go_simp); go_simp; first | done | rfl | exact ⟨rfl, rfl⟩)
                simp only [Act.put, List.setIfInBounds_toArray, List.set_cons_zero, List.set_cons_succ]
                apply wpQ_do
                · rfl
                · intro wq hC; go_light; first | (go_simp; first | done | rfl | exact ⟨rfl, rfl⟩) | (have k0 : wq.cell? ⟨b4, o4 + (p + 1), none⟩ = some (.int .u32 cu) := hC.keep (by go_simp); have k1 : wq.cell? ⟨b4, o4 + p, none⟩ = some (.int .u32 pr) := hC.keep (by go_simp); have k2 : wq.cell? ⟨b7, o7 + t, none⟩ = some (.int .u32 la) := hC.keep (by go_simp); go_simp; first | done | rfl | exact ⟨rfl, rfl⟩)
                simp only [Act.put, List.setIfInBounds_toArray, List.set_cons_zero, List.set_cons_succ]
                apply wpQ_do
                · rfl
                · intro wq hC; go_light; first | (go_simp; first | done | rfl | exact ⟨rfl, rfl⟩) | (have k0 : wq.cell? ⟨b4, o4 + (p + 1), none⟩ = some (.int .u32 cu) := hC.keep (by go_simp); have k1 : wq.cell? ⟨b4, o4 + p, none⟩ = some (.int .u32 pr) := hC.keep (by go_simp); have k2 : wq.cell? ⟨b7, o7 + t, none⟩ = some (.int .u32 la) := hC.keep (by go_simp); go_simp; first | done | rfl | exact ⟨rfl, rfl⟩)
                simp only [Act.put, List.setIfInBounds_toArray, List.set_cons_zero, List.set_cons_succ]
                apply wpQ_do
                · rfl
                · intro wq hC; go_light; first | (go_simp; first | done | rfl | exact ⟨rfl, rfl⟩) | (have k0 : wq.cell? ⟨b4, o4 + (p + 1), none⟩ = some (.int .u32 cu) := hC.keep (by go_simp); have k1 : wq.cell? ⟨b4, o4 + p, none⟩ = some (.int .u32 pr) := hC.keep (by go_simp); have k2 : wq.cell? ⟨b7, o7 + t, none⟩ = some (.int .u32 la) := hC.keep (by go_simp); go_simp; first | done | rfl | exact ⟨rfl, rfl⟩)
                simp only [Act.put, List.setIfInBounds_toArray, List.set_cons_zero, List.set_cons_succ]
                apply wpQ_do
                · rfl
                · intro wq hC; go_light; first | (go_simp; first | done | rfl | exact ⟨rfl, rfl⟩) | (have k0 : wq.cell? ⟨b4, o4 + (p + 1), none⟩ = some (.int .u32 cu) := hC.keep (by go_simp); have k1 : wq.cell? ⟨b4, o4 + p, none⟩ = some (.int .u32 pr) := hC.keep (by go_simp); have k2 : wq.cell? ⟨b7, o7 + t, none⟩ = some (.int .u32 la) := hC.keep (by go_simp); go_simp; first | done | rfl | exact ⟨rfl, rfl⟩)
                simp only [Act.put, List.setIfInBounds_toArray, List.set_cons_zero, List.set_cons_succ]
                apply wpQ_do
                · rfl
                · intro wq hC; go_light; first | (go_simp; first | done | rfl | exact ⟨rfl, rfl⟩) | (have k0 : wq.cell? ⟨b4, o4 + (p + 1), none⟩ = some (.int .u32 cu) := hC.keep (by go_simp); have k1 : wq.cell? ⟨b4, o4 + p, none⟩ = some (.int .u32 pr) := hC.keep (by go_simp); have k2 : wq.cell? ⟨b7, o7 + t, none⟩ = some (.int .u32 la) := hC.keep (by go_simp); go_simp; first | done | rfl | exact ⟨rfl, rfl⟩)
                simp only [Act.put, List.setIfInBounds_toArray, List.set_cons_zero, List.set_cons_succ]
                apply wpQ_do
                · rfl
                · intro wq hC; go_light; first | (go_simp; first | done | rfl | exact ⟨rfl, rfl⟩) | (have k0 : wq.cell? ⟨b4, o4 + (p + 1), none⟩ = some (.int .u32 cu) := hC.keep (by go_simp); have k1 : wq.cell? ⟨b4, o4 + p, none⟩ = some (.int .u32 pr) := hC.keep (by go_simp); have k2 : wq.cell? ⟨b7, o7 + t, none⟩ = some (.int .u32 la) := hC.keep (by go_simp); go_simp; first | done | rfl | exact ⟨rfl, rfl⟩)
                simp only [Act.put, List.setIfInBounds_toArray, List.set_cons_zero, List.set_cons_succ]
                apply wpQ_do
                · rfl
                · intro wq hC; go_light; first | (go_simp; first | done | rfl | exact ⟨rfl, rfl⟩) | (have k0 : wq.cell? ⟨b4, o4 + (p + 1), none⟩ = some (.int .u32 cu) := hC.keep (by go_simp); have k1 : wq.cell? ⟨b4, o4 + p, none⟩ = some (.int .u32 pr) := hC.keep (by go_simp); have k2 : wq.cell? ⟨b7, o7 + t, none⟩ = some (.int .u32 la) := hC.keep (by go_simp); go_simp; first | done | rfl | exact ⟨rfl, rfl⟩)
                simp only [Act.put, List.setIfInBounds_toArray, List.set_cons_zero, List.set_cons_succ]
                apply wpQ_do
                · rfl
                · intro wq hC; go_light; first | (go_simp; first | done | rfl | exact ⟨rfl, rfl⟩) | (have k0 : wq.cell? ⟨b4, o4 + (p + 1), none⟩ = some (.int .u32 cu) := hC.keep (by go_simp); have k1 : wq.cell? ⟨b4, o4 + p, none⟩ = some (.int .u32 pr) := hC.keep (by go_simp); have k2 : wq.cell? ⟨b7, o7 + t, none⟩ = some (.int .u32 la) := hC.keep (by go_simp); go_simp; first | done | rfl | exact ⟨rfl, rfl⟩)
                simp only [Act.put, List.setIfInBounds_toArray, List.set_cons_zero, List.set_cons_succ]
                apply wpQ_do
                · rfl
                · intro wq hC; go_light; first | (go_simp; first | done | rfl | exact ⟨rfl, rfl⟩) | (have k0 : wq.cell? ⟨b4, o4 + (p + 1), none⟩ = some (.int .u32 cu) := hC.keep (by go_simp); have k1 : wq.cell? ⟨b4, o4 + p, none⟩ = some (.int .u32 pr) := hC.keep (by go_simp); have k2 : wq.cell? ⟨b7, o7 + t, none⟩ = some (.int .u32 la) := hC.keep (by go_simp); go_simp; first | done | rfl | exact ⟨rfl, rfl⟩)
                simp only [Act.put, List.setIfInBounds_toArray, List.set_cons_zero, List.set_cons_succ]
                apply wpQ_do
                · rfl
                · intro wq hC; go_light; first | (go_simp; first | done | rfl | exact ⟨rfl, rfl⟩) | (have k0 : wq.cell? ⟨b4, o4 + (p + 1), none⟩ = some (.int .u32 cu) := hC.keep (by go_simp); have k1 : wq.cell? ⟨b4, o4 + p, none⟩ = some (.int .u32 pr) := hC.keep (by go_simp); have k2 : wq.cell? ⟨b7, o7 + t, none⟩ = some (.int .u32 la) := hC.keep (by go_simp); go_simp; first | done | rfl | exact ⟨rfl, rfl⟩)
                simp only [Act.put, List.setIfInBounds_toArray, List.set_cons_zero, List.set_cons_succ]
                apply wpQ_do
                · rfl
                · intro wq hC; go_light; first | (go_simp; first | done | rfl | exact ⟨rfl, rfl⟩) | (have k0 : wq.cell? ⟨b4, o4 + (p + 1), none⟩ = some (.int .u32 cu) := hC.keep (by go_simp); have k1 : wq.cell? ⟨b4, o4 + p, none⟩ = some (.int .u32 pr) := hC.keep (by go_simp); have k2 : wq.cell? ⟨b7, o7 + t, none⟩ = some (.int .u32 la) := hC.keep (by go_simp); go_simp; first | done | rfl | exact ⟨rfl, rfl⟩)
                simp only [Act.put, List.setIfInBounds_toArray, List.set_cons_zero, List.set_cons_succ]
                apply wpQ_do
                · rfl
                · intro wq hC; go_light; first | (go_simp; first | done | rfl | exact ⟨rfl, rfl⟩) | (have k0 : wq.cell? ⟨b4, o4 + (p + 1), none⟩ = some (.int .u32 cu) := hC.keep (by go_simp); have k1 : wq.cell? ⟨b4, o4 + p, none⟩ = some (.int .u32 pr) := hC.keep (by go_simp); have k2 : wq.cell? ⟨b7, o7 + t, none⟩ = some (.int .u32 la) := hC.keep (by go_simp); go_simp; first | done | rfl | exact ⟨rfl, rfl⟩)
                simp only [Act.put, List.setIfInBounds_toArray, List.set_cons_zero, List.set_cons_succ]
                apply wpQ_do
                · rfl
                · intro wq hC; go_light; first | (go_simp; first | done | rfl | exact ⟨rfl, rfl⟩) | (have k0 : wq.cell? ⟨b4, o4 + (p + 1), none⟩ = some (.int .u32 cu) := hC.keep (by go_simp); have k1 : wq.cell? ⟨b4, o4 + p, none⟩ = some (.int .u32 pr) := hC.keep (by go_simp); have k2 : wq.cell? ⟨b7, o7 + t, none⟩ = some (.int .u32 la) := hC.keep (by go_simp); go_simp; first | done | rfl | exact ⟨rfl, rfl⟩)
                simp only [Act.put, List.setIfInBounds_toArray, List.set_cons_zero, List.set_cons_succ]
                apply wpQ_do
                · rfl
                · intro wq hC; go_light; first | (go_simp; first | done | rfl | exact ⟨rfl, rfl⟩) | (have k0 : wq.cell? ⟨b4, o4 + (p + 1), none⟩ = some (.int .u32 cu) := hC.keep (by go_simp); have k1 : wq.cell? ⟨b4, o4 + p, none⟩ = some (.int .u32 pr) := hC.keep (by go_simp); have k2 : wq.cell? ⟨b7, o7 + t, none⟩ = some (.int .u32 la) := hC.keep (by go_simp); go_simp; first | done | rfl | exact ⟨rfl, rfl⟩)
                simp only [Act.put, List.setIfInBounds_toArray, List.set_cons_zero, List.set_cons_succ]
                apply wpQ_do
                · rfl
                · intro wq hC; go_light; first | (go_simp; first | done | rfl | exact ⟨rfl, rfl⟩) | (have k0 : wq.cell? ⟨b4, o4 + (p + 1), none⟩ = some (.int .u32 cu) := hC.keep (by go_simp); have k1 : wq.cell? ⟨b4, o4 + p, none⟩ = some (.int .u32 pr) := hC.keep (by go_simp); have k2 : wq.cell? ⟨b7, o7 + t, none⟩ = some (.int .u32 la) := hC.keep (by go_simp); go_simp; first | done | rfl | exact ⟨rfl, rfl⟩)
                simp only [Act.put, List.setIfInBounds_toArray, List.set_cons_zero, List.set_cons_succ]
                apply wpQ_do
                · rfl
                · intro wq hC; go_light; first | (go_simp; first | done | rfl | exact ⟨rfl, rfl⟩) | (have k0 : wq.cell? ⟨b4, o4 + (p + 1), none⟩ = some (.int .u32 cu) := hC.keep (by go_simp); have k1 : wq.cell? ⟨b4, o4 + p, none⟩ = some (.int .u32 pr) := hC.keep (by go_simp); have k2 : wq.cell? ⟨b7, o7 + t, none⟩ = some (.int .u32 la) := hC.keep (by go_simp); go_simp; first | done | rfl | exact ⟨rfl, rfl⟩)
                simp only [Act.put, List.setIfInBounds_toArray, List.set_cons_zero, List.set_cons_succ]
                apply wpQ_do
                · rfl
                · intro wq hC; go_light; first | (go_simp; first | done | rfl | exact ⟨rfl, rfl⟩) | (have k0 : wq.cell? ⟨b4, o4 + (p + 1), none⟩ = some (.int .u32 cu) := hC.keep (by go_simp); have k1 : wq.cell? ⟨b4, o4 + p, none⟩ = some (.int .u32 pr) := hC.keep (by go_simp); have k2 : wq.cell? ⟨b7, o7 + t, none⟩ = some (.int .u32 la) := hC.keep (by go_simp); go_simp; first | done | rfl | exact ⟨rfl, rfl⟩)
                simp only [Act.put, List.setIfInBounds_toArray, List.set_cons_zero, List.set_cons_succ]
                apply wpQ_do
                · rfl
                · intro wq hC; go_light; first | (go_simp; first | done | rfl | exact ⟨rfl, rfl⟩) | (have k0 : wq.cell? ⟨b4, o4 + (p + 1), none⟩ = some (.int .u32 cu) := hC.keep (by go_simp); have k1 : wq.cell? ⟨b4, o4 + p, none⟩ = some (.int .u32 pr) := hC.keep (by go_simp); have k2 : wq.cell? ⟨b7, o7 + t, none⟩ = some (.int .u32 la) := hC.keep (by go_simp); go_simp; first | done | rfl | exact ⟨rfl, rfl⟩)
                simp only [Act.put, List.setIfInBounds_toArray, List.set_cons_zero, List.set_cons_succ]
                apply wpQ_do
                · rfl
                · intro wq hC; go_light; first | (go_simp; first | done | rfl | exact ⟨rfl, rfl⟩) | (have k0 : wq.cell? ⟨b4, o4 + (p + 1), none⟩ = some (.int .u32 cu) := hC.keep (by go_simp); have k1 : wq.cell? ⟨b4, o4 + p, none⟩ = some (.int .u32 pr) := hC.keep (by go_simp); have k2 : wq.cell? ⟨b7, o7 + t, none⟩ = some (.int .u32 la) := hC.keep (by go_simp); go_simp; first | done | rfl | exact ⟨rfl, rfl⟩)
                simp only [Act.put, List.setIfInBounds_toArray, List.set_cons_zero, List.set_cons_succ]
                apply wpQ_nil
                intro w52 hb52
                have hb52 : Below _ _ _ := hb52
                have yw52 : w.heap.size ≤ w52.heap.size := by (have := hb52.size; (try simp at this); omega)
                have c52_0 : w52.cell? ⟨b4, o4 + (p + 1), none⟩ = some (.int .u32 cu) := keep hb52 (by go_simp)
                have f52_0 : w52.frozen? ⟨b4, o4 + (p + 1), none⟩ = false := keepF hb52 (.int .u32 cu) (by go_simp) (by go_simp)
                have c52_1 : w52.cell? ⟨b4, o4 + p, none⟩ = some (.int .u32 pr) := keep hb52 (by go_simp)
                have f52_1 : w52.frozen? ⟨b4, o4 + p, none⟩ = false := keepF hb52 (.int .u32 pr) (by go_simp) (by go_simp)
                have c52_2 : w52.cell? ⟨b7, o7 + t, none⟩ = some (.int .u32 la) := keep hb52 (by go_simp)
                have f52_2 : w52.frozen? ⟨b7, o7 + t, none⟩ = false := keepF hb52 (.int .u32 la) (by go_simp) (by go_simp)
                go_wp2_with fail
                go_roundw
                case rel => exact ⟨p + 1 + 1, by omega, by go_num, hB2.trans (Below.mono hb52 hB2.size)⟩
                case measure => (try simp [intOf]) <;> omega

          · have hkn : k2 = nL := by omega
            subst hkn
            clear hlt2
            have QN := Lib.hid (Q31.out.below hB2)
            have SN := Lib.hid (bstep S31.out hB2)
            have ON := Lib.hid (own_below P31.out hB2)
            have m9 : ((nT : Int) + (d' : Nat) + (k2 : Int) != (nT : Int) + (d' : Nat) + (k2 : Int)) = false := by simp
            go_wp2_with fail
            refine ⟨⟨k + 1, TT, LS, l', d', by omega, by go_num, by rw [HNT.out, HNL.out]; go_num, by go_num, by rw [HNT.out]; omega, by omega, HINV.out, QN.out, by have h := ON.out; rw [HNT.out] at h ⊢; exact h, SN.out, by have := QN.out.lt; omega⟩, by (try simp [intOf]); omega⟩


    · skip

      have hkn : k = N := by omega
      subst hkn
      obtain ⟨A7, c7, hv7, hc7, hm7, hA7⟩ := U32At.of_own HO.out
      subst hv7
      obtain ⟨nT, hnT⟩ : ∃ nT, T.length = nT := ⟨_, rfl⟩
      have FC := Lib.hid (inv_facts HI.out.1).2.2
      have HA7 := Lib.hid hA7
      rw [hnT] at HA7 FC hTk
      clear hA7 HI HO HQ HV HA
      rw [hnT]
      clear hnT hk hlt hc7 hm7
      obtain ⟨wo, hwo⟩ : ∃ x, x = wr := ⟨_, rfl⟩
      subst hwo
      go_wp2_with fail
      go_loopw [132] (fun i wr2 => ∃ k2 : Nat, k2 ≤ nT ∧ i = .int .i64 k2 ∧ Below wo.heap.size wo wr2) (fun i _ => nT - (intOf i).toNat)
      case atStart => exact ⟨0, by omega, rfl, Below.refl _ _⟩
      case round =>
        obtain ⟨k2, hk2, rfl, hB2⟩ := hrel

        have hwr2 : w.heap.size ≤ wr.heap.size := by have h1 := hB2.size; omega
        by_cases hlt2 : k2 < nT
        · rcases Nat.eq_zero_or_pos k2 with h0 | h0
          · subst h0
            have z0 : ((0 : Nat) : Int) = 0 := rfl
            (try rw [z0])
            have m2 : (0 : Int) < (nT : Int) := by omega
            have m2n : 0 < nT := by omega
            go_wp2_with fail
            refine wpQ_region (by kernel_rfl) (by kernel_rfl) ?_
            apply wpQ_do
            · rfl
            · intro wq hC; go_light; first | (go_simp; first | done | rfl | exact ⟨rfl, rfl⟩) | (go_simp; first | done | rfl | exact ⟨rfl, rfl⟩)
            simp only [Act.put, List.setIfInBounds_toArray, List.set_cons_zero, List.set_cons_succ]
            apply wpQ_do
            · rfl
            · intro wq hC; go_light; first | (go_simp; first | done | rfl | exact ⟨rfl, rfl⟩) | (go_simp; first | done | rfl | exact ⟨rfl, rfl⟩)
            simp only [Act.put, List.setIfInBounds_toArray, List.set_cons_zero, List.set_cons_succ]
            apply wpQ_do
            · rfl
            · intro wq hC; go_light; first | (go_simp; first | done | rfl | exact ⟨rfl, rfl⟩) | (go_simp; first | done | rfl | exact ⟨rfl, rfl⟩)
            simp only [Act.put, List.setIfInBounds_toArray, List.set_cons_zero, List.set_cons_succ]
            apply wpQ_not
            · rfl
            simp only [Act.put, List.setIfInBounds_toArray, List.set_cons_zero, List.set_cons_succ]
            apply wpQ_not
            · rfl
            simp only [Act.put, List.setIfInBounds_toArray, List.set_cons_zero, List.set_cons_succ]
            apply wpQ_not
            · rfl
            simp only [Act.put, List.setIfInBounds_toArray, List.set_cons_zero, List.set_cons_succ]
            apply wpQ_not
            · rfl
            simp only [Act.put, List.setIfInBounds_toArray, List.set_cons_zero, List.set_cons_succ]
            apply wpQ_not
            · rfl
            simp only [Act.put, List.setIfInBounds_toArray, List.set_cons_zero, List.set_cons_succ]
            apply wpQ_not
            · rfl
            simp only [Act.put, List.setIfInBounds_toArray, List.set_cons_zero, List.set_cons_succ]
            apply wpQ_not
            · rfl
            simp only [Act.put, List.setIfInBounds_toArray, List.set_cons_zero, List.set_cons_succ]
            apply wpQ_not
            · rfl
            simp only [Act.put, List.setIfInBounds_toArray, List.set_cons_zero, List.set_cons_succ]
            apply wpQ_not
            · rfl
            simp only [Act.put, List.setIfInBounds_toArray, List.set_cons_zero, List.set_cons_succ]
            apply wpQ_not
            · rfl
            simp only [Act.put, List.setIfInBounds_toArray, List.set_cons_zero, List.set_cons_succ]
            apply wpQ_do
            · rfl
            · intro wq hC; go_light; first | (go_simp; first | done | rfl | exact ⟨rfl, rfl⟩) | (go_simp; first | done | rfl | exact ⟨rfl, rfl⟩)
            simp only [Act.put, List.setIfInBounds_toArray, List.set_cons_zero, List.set_cons_succ]
            apply wpQ_nil
            intro w61 hb61
            have hb61 : Below _ _ _ := hb61
            have yw61 : w.heap.size ≤ w61.heap.size := by (have := hb61.size; (try simp at this); omega)
            go_wp2_with fail
            go_roundw
            case rel => exact ⟨1, by omega, by go_num, hB2.trans (Below.mono hb61 hB2.size)⟩
            case measure => (try simp [intOf]) <;> omega

          · obtain ⟨p, rfl⟩ : ∃ p, k2 = p + 1 := ⟨k2 - 1, by omega⟩
            have z0 : ((0 : Nat) : Int) = 0 := rfl
            have zp : ((p + 1 : Nat) : Int) = (p : Int) + 1 := rfl
            (try rw [zp])
            obtain ⟨b4, o4, ea4, d4, f4⟩ := HA7.out (p + 1) (by omega)
            subst ea4
            obtain ⟨b5, o5, e5, d5, f5⟩ := HA7.out p (by omega)
            simp only [Option.some.injEq, Addr.mk.injEq, and_true] at e5
            obtain ⟨rfl, rfl⟩ := e5
            have q1 : decide (T.getD (p + 1) 0 ≤ T.getD p 0) = false := decide_eq_false (by have h9 := FC.out p (by omega); omega)
            clear HA7
            generalize hcu : T.getD (p + 1) 0 = cu at *
            clear hcu
            generalize hpr : T.getD p 0 = pr at *
            clear hpr
            have x4 := keep (w1 := wr) hB2 d4
            have y4 := keepF (w1 := wr) hB2 _ d4 f4
            have x5 := keep (w1 := wr) hB2 d5
            have y5 := keepF (w1 := wr) hB2 _ d5 f5
            clear d4 f4 d5 f5
            have e1p : IntKind.i64.wrap ((p : Int) + 1 - 1) = (p : Int) := by rw [show (p : Int) + 1 - 1 = (p : Int) from by omega]; exact IntWalk.i64_in _ (by omega)
            have e2p : IntKind.i64.wrap (p : Int) = (p : Int) := IntWalk.i64_in _ (by omega)
            have e3p : (0 : Int) ≤ (p : Int) := by omega
            have m1 : (0 : Int) ≤ (p : Int) + 1 := by omega
            have m2 : (p : Int) + 1 < (nT : Int) := by omega
            have m3 : (p : Int) < (nT : Int) := by omega
            have mm4 : decide ((0 : Int) < (p : Int) + 1) = true := decide_eq_true (by omega)
            go_wp2_with fail
            refine wpQ_region (by kernel_rfl) (by kernel_rfl) ?_
            apply wpQ_do
            · rfl
            · intro wq hC; go_light; first | (go_simp; first | done | rfl | exact ⟨rfl, rfl⟩) | (have k0 : wq.cell? ⟨b4, o4 + (p + 1), none⟩ = some (.int .u32 cu) := hC.keep (by go_simp); have k1 : wq.cell? ⟨b4, o4 + p, none⟩ = some (.int .u32 pr) := hC.keep (by go_simp); go_simp; first | done | rfl | exact ⟨rfl, rfl⟩)
            simp only [Act.put, List.setIfInBounds_toArray, List.set_cons_zero, List.set_cons_succ]
            apply wpQ_do
            · rfl
            · intro wq hC; go_light; first | (go_simp; first | done | rfl | exact ⟨rfl, rfl⟩) | (have k0 : wq.cell? ⟨b4, o4 + (p + 1), none⟩ = some (.int .u32 cu) := hC.keep (by go_simp); have k1 : wq.cell? ⟨b4, o4 + p, none⟩ = some (.int .u32 pr) := hC.keep (by go_simp); go_simp; first | done | rfl | exact ⟨rfl, rfl⟩)
            simp only [Act.put, List.setIfInBounds_toArray, List.set_cons_zero, List.set_cons_succ]
            apply wpQ_do
            · rfl
            · intro wq hC; go_light; first | (go_simp; first | done | rfl | exact ⟨rfl, rfl⟩) | (have k0 : wq.cell? ⟨b4, o4 + (p + 1), none⟩ = some (.int .u32 cu) := hC.keep (by go_simp); have k1 : wq.cell? ⟨b4, o4 + p, none⟩ = some (.int .u32 pr) := hC.keep (by go_simp); go_simp; first | done | rfl | exact ⟨rfl, rfl⟩)
            simp only [Act.put, List.setIfInBounds_toArray, List.set_cons_zero, List.set_cons_succ]
            apply wpQ_do
            · rfl
            · intro wq hC; go_light; first | (go_simp; first | done | rfl | exact ⟨rfl, rfl⟩) | (have k0 : wq.cell? ⟨b4, o4 + (p + 1), none⟩ = some (.int .u32 cu) := hC.keep (by go_simp); have k1 : wq.cell? ⟨b4, o4 + p, none⟩ = some (.int .u32 pr) := hC.keep (by go_simp); go_simp; first | done | rfl | exact ⟨rfl, rfl⟩)
            simp only [Act.put, List.setIfInBounds_toArray, List.set_cons_zero, List.set_cons_succ]
            apply wpQ_do
            · rfl
            · intro wq hC; go_light; first | (go_simp; first | done | rfl | exact ⟨rfl, rfl⟩) | (have k0 : wq.cell? ⟨b4, o4 + (p + 1), none⟩ = some (.int .u32 cu) := hC.keep (by go_simp); have k1 : wq.cell? ⟨b4, o4 + p, none⟩ = some (.int .u32 pr) := hC.keep (by go_simp); go_simp; first | done | rfl | exact ⟨rfl, rfl⟩)
            simp only [Act.put, List.setIfInBounds_toArray, List.set_cons_zero, List.set_cons_succ]
            apply wpQ_do
            · rfl
            · intro wq hC; go_light; first | (go_simp; first | done | rfl | exact ⟨rfl, rfl⟩) | (have k0 : wq.cell? ⟨b4, o4 + (p + 1), none⟩ = some (.int .u32 cu) := hC.keep (by go_simp); have k1 : wq.cell? ⟨b4, o4 + p, none⟩ = some (.int .u32 pr) := hC.keep (by go_simp); go_simp; first | done | rfl | exact ⟨rfl, rfl⟩)
            simp only [Act.put, List.setIfInBounds_toArray, List.set_cons_zero, List.set_cons_succ]
            apply wpQ_do
            · rfl
            · intro wq hC; go_light; first | (go_simp; first | done | rfl | exact ⟨rfl, rfl⟩) | (have k0 : wq.cell? ⟨b4, o4 + (p + 1), none⟩ = some (.int .u32 cu) := hC.keep (by go_simp); have k1 : wq.cell? ⟨b4, o4 + p, none⟩ = some (.int .u32 pr) := hC.keep (by go_simp); go_simp; first | done | rfl | exact ⟨rfl, rfl⟩)
            simp only [Act.put, List.setIfInBounds_toArray, List.set_cons_zero, List.set_cons_succ]
            apply wpQ_do
            · rfl
            · intro wq hC; go_light; first | (go_simp; first | done | rfl | exact ⟨rfl, rfl⟩) | (have k0 : wq.cell? ⟨b4, o4 + (p + 1), none⟩ = some (.int .u32 cu) := hC.keep (by go_simp); have k1 : wq.cell? ⟨b4, o4 + p, none⟩ = some (.int .u32 pr) := hC.keep (by go_simp); go_simp; first | done | rfl | exact ⟨rfl, rfl⟩)
            simp only [Act.put, List.setIfInBounds_toArray, List.set_cons_zero, List.set_cons_succ]
            apply wpQ_do
            · rfl
            · intro wq hC; go_light; first | (go_simp; first | done | rfl | exact ⟨rfl, rfl⟩) | (have k0 : wq.cell? ⟨b4, o4 + (p + 1), none⟩ = some (.int .u32 cu) := hC.keep (by go_simp); have k1 : wq.cell? ⟨b4, o4 + p, none⟩ = some (.int .u32 pr) := hC.keep (by go_simp); go_simp; first | done | rfl | exact ⟨rfl, rfl⟩)
            simp only [Act.put, List.setIfInBounds_toArray, List.set_cons_zero, List.set_cons_succ]
            apply wpQ_do
            · rfl
            · intro wq hC; go_light; first | (go_simp; first | done | rfl | exact ⟨rfl, rfl⟩) | (have k0 : wq.cell? ⟨b4, o4 + (p + 1), none⟩ = some (.int .u32 cu) := hC.keep (by go_simp); have k1 : wq.cell? ⟨b4, o4 + p, none⟩ = some (.int .u32 pr) := hC.keep (by go_simp); go_simp; first | done | rfl | exact ⟨rfl, rfl⟩)
            simp only [Act.put, List.setIfInBounds_toArray, List.set_cons_zero, List.set_cons_succ]
            apply wpQ_do
            · rfl
            · intro wq hC; go_light; first | (go_simp; first | done | rfl | exact ⟨rfl, rfl⟩) | (have k0 : wq.cell? ⟨b4, o4 + (p + 1), none⟩ = some (.int .u32 cu) := hC.keep (by go_simp); have k1 : wq.cell? ⟨b4, o4 + p, none⟩ = some (.int .u32 pr) := hC.keep (by go_simp); go_simp; first | done | rfl | exact ⟨rfl, rfl⟩)
            simp only [Act.put, List.setIfInBounds_toArray, List.set_cons_zero, List.set_cons_succ]
            apply wpQ_do
            · rfl
            · intro wq hC; go_light; first | (go_simp; first | done | rfl | exact ⟨rfl, rfl⟩) | (have k0 : wq.cell? ⟨b4, o4 + (p + 1), none⟩ = some (.int .u32 cu) := hC.keep (by go_simp); have k1 : wq.cell? ⟨b4, o4 + p, none⟩ = some (.int .u32 pr) := hC.keep (by go_simp); go_simp; first | done | rfl | exact ⟨rfl, rfl⟩)
            simp only [Act.put, List.setIfInBounds_toArray, List.set_cons_zero, List.set_cons_succ]
            apply wpQ_do
            · rfl
            · intro wq hC; go_light; first | (go_simp; first | done | rfl | exact ⟨rfl, rfl⟩) | (have k0 : wq.cell? ⟨b4, o4 + (p + 1), none⟩ = some (.int .u32 cu) := hC.keep (by go_simp); have k1 : wq.cell? ⟨b4, o4 + p, none⟩ = some (.int .u32 pr) := hC.keep (by go_simp); go_simp; first | done | rfl | exact ⟨rfl, rfl⟩)
            simp only [Act.put, List.setIfInBounds_toArray, List.set_cons_zero, List.set_cons_succ]
            apply wpQ_do
            · rfl
            · intro wq hC; go_light; first | (go_simp; first | done | rfl | exact ⟨rfl, rfl⟩) | (have k0 : wq.cell? ⟨b4, o4 + (p + 1), none⟩ = some (.int .u32 cu) := hC.keep (by go_simp); have k1 : wq.cell? ⟨b4, o4 + p, none⟩ = some (.int .u32 pr) := hC.keep (by go_simp); go_simp; first | done | rfl | exact ⟨rfl, rfl⟩)
            simp only [Act.put, List.setIfInBounds_toArray, List.set_cons_zero, List.set_cons_succ]
            apply wpQ_nil
            intro w61 hb61
            have hb61 : Below _ _ _ := hb61
            have yw61 : w.heap.size ≤ w61.heap.size := by (have := hb61.size; (try simp at this); omega)
            have c61_0 : w61.cell? ⟨b4, o4 + (p + 1), none⟩ = some (.int .u32 cu) := keep hb61 (by go_simp)
            have f61_0 : w61.frozen? ⟨b4, o4 + (p + 1), none⟩ = false := keepF hb61 (.int .u32 cu) (by go_simp) (by go_simp)
            have c61_1 : w61.cell? ⟨b4, o4 + p, none⟩ = some (.int .u32 pr) := keep hb61 (by go_simp)
            have f61_1 : w61.frozen? ⟨b4, o4 + p, none⟩ = false := keepF hb61 (.int .u32 pr) (by go_simp) (by go_simp)
            go_wp2_with fail
            go_roundw
            case rel => exact ⟨p + 1 + 1, by omega, by go_num, hB2.trans (Below.mono hb61 hB2.size)⟩
            case measure => (try simp [intOf]) <;> omega

        · have hkn : k2 = nT := by omega
          subst hkn
          clear hlt2
          have SN := Lib.hid (bstep HS.out hB2)
          go_wp2_with fail
          with_reducible refine (awake26_any _).mono ?_
          rintro e25 w25 ⟨rfl, hb25⟩
          have S25 := Lib.hid (bstep SN.out hb25)
          go_wp2_with fail
          go_ret
          exact ⟨rfl, S25.out⟩

end Go.Proofs.Ytnhfholodillaaa
