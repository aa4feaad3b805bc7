/- The disk's methods whole: appending, cutting, a crash, the bytes. -/
import Derived.Test.YthgaphfelpnclaaAp
import Derived.Test.YthgaphfelpnclaaDb
import Derived.Test.YthgaphfelpnclaaDc
import Derived.BigQuiet
import Derived.StillTailTactics
set_option linter.unusedVariables false
set_option linter.unusedSimpArgs false
namespace Go.Proofs.Ythgaphfelpnclaa
open Go.RowKit

set_option maxRecDepth 100000 in
theorem appD {base B : Nat} {v u : Value} {d : Dsk} {ls : List Int} (w : World) (h : DS w base B v d) (hu : BAt w u ls) (ha : ls ≠ [] → Apart B v u) :
    Calls Try.prog 23 #[.pointer (some ⟨B, 0, none⟩), u] w fun e' w' => ∃ v2, e' = .returned (.int .i64 (d.app ls).2) ∧ DS w' base B v2 (d.app ls).1 ∧ Step B v v2 w w' := by
  have hmf : ∀ (fn : Fn) (first cap : Array Value) (w : World), (Instr.makeFunc fn first cap).run Try.prog w = .ok (.func fn first cap) w := fun _ _ _ _ => rfl
  have zB := h.lt
  have hu0 := hu
  obtain ⟨A, c, rfl, hu2⟩ := hu
  have HU := Lib.hid hu0
  clear hu2 hu0
  have hb := h.below (balloc (balloc (Below.refl _ w) (.cells #[.pointer (some ⟨B, 0, none⟩)] 41)) (.cells #[.slice A ls.length c] 24))
  have hbw : Below w.heap.size w ((w.alloc (.cells #[.pointer (some ⟨B, 0, none⟩)] 41)).alloc (.cells #[.slice A ls.length c] 24)) := balloc (balloc (Below.refl _ w) _) _
  go_enter Try.func23, Try.ntmps23
  go_wp2_with fail
  by_cases ho : d.off = true
  · have c5 := hb.c5
    rw [ho] at c5
    with_reducible refine (powered_off _ B _ _ hb.c0 c5).mono ?_
    rintro e1 w1 ⟨rfl, hb1⟩
    go_wp2_with fail
    go_ret
    refine ⟨v, by simp [Dsk.app, ho], ?_, (Step.of_below hbw).below hb1⟩
    have := hb.below hb1
    simpa [Dsk.app, ho] using this
  · have ho : d.off = false := by simpa using ho
    with_reducible refine (powered_go (x := (d.appOn ls).2) (d2 := (d.appOn ls).1) _ 61 _ hb ho (fun w => by simp [go_sem]) ?_).mono ?_
    · intro w0 hb0
      exact app_cl w0 (hb.below hb0) (keep hb0 (by simp [go_sem])) (by omega) (fun e => by have := h.vlt _ e.symm; omega) (keep hb0 (by simp [go_sem])) (by omega) (fun e => by have := h.vlt _ e.symm; omega) ((HU.out.below hbw).below hb0) ha
    · rintro e1 w1 ⟨v2, rfl, h1, s1⟩
      go_wp2_with fail
      go_ret
      exact ⟨v2, by simp [Dsk.app, ho], by simpa [Dsk.app, ho] using h1, (Step.of_below hbw).trans s1⟩

set_option maxRecDepth 100000 in
theorem cutD {base B : Nat} {v : Value} {d : Dsk} (w : World) (h : DS w base B v d) (n : Int) :
    Calls Try.prog 30 #[.pointer (some ⟨B, 0, none⟩), .int .i64 n] w fun e' w' => ∃ v2, e' = .returned (.int .i64 (d.cut n).2) ∧ DS w' base B v2 (d.cut n).1 ∧ Step B v v2 w w' := by
  have hmf : ∀ (fn : Fn) (first cap : Array Value) (w : World), (Instr.makeFunc fn first cap).run Try.prog w = .ok (.func fn first cap) w := fun _ _ _ _ => rfl
  have zB := h.lt
  have hb := h.below (balloc (balloc (Below.refl _ w) (.cells #[.pointer (some ⟨B, 0, none⟩)] 41)) (.cells #[.int .i64 n] 3))
  have hbw : Below w.heap.size w ((w.alloc (.cells #[.pointer (some ⟨B, 0, none⟩)] 41)).alloc (.cells #[.int .i64 n] 3)) := balloc (balloc (Below.refl _ w) _) _
  go_enter Try.func30, Try.ntmps30
  go_wp2_with fail
  by_cases ho : d.off = true
  · have c5 := hb.c5
    rw [ho] at c5
    with_reducible refine (powered_off _ B _ _ hb.c0 c5).mono ?_
    rintro e1 w1 ⟨rfl, hb1⟩
    go_wp2_with fail
    go_ret
    refine ⟨v, by simp [Dsk.cut, ho], ?_, (Step.of_below hbw).below hb1⟩
    have := hb.below hb1
    simpa [Dsk.cut, ho] using this
  · have ho : d.off = false := by simpa using ho
    with_reducible refine (powered_go (x := (d.cutOn n).2) (d2 := (d.cutOn n).1) _ 66 _ hb ho (fun w => by simp [go_sem]) ?_).mono ?_
    · intro w0 hb0
      exact cut_cl w0 (hb.below hb0) (keep hb0 (by simp [go_sem])) (by omega) (fun e => by have := h.vlt _ e.symm; omega) (keep hb0 (by simp [go_sem])) (by omega) (fun e => by have := h.vlt _ e.symm; omega)
    · rintro e1 w1 ⟨v2, rfl, h1, s1⟩
      go_wp2_with fail
      go_ret
      exact ⟨v2, by simp [Dsk.cut, ho], by simpa [Dsk.cut, ho] using h1, (Step.of_below hbw).trans s1⟩

theorem own_made5 (w : World) (base b : Nat) (hb : b = w.heap.size) (h : base ≤ w.heap.size) : (w.alloc (.cells #[] 5)).ownsRow base 5 1 (.slice (some ⟨b, 0, none⟩) 0 0) 0 [] := by
  subst hb
  exact World.ownsRow_made w #[] 0 h (by decide) rfl
theorem cloneB {v : Value} {ls : List Int} (w : World) (h : BAt w v ls) (hn : ls.length ≤ 262144) :
    Calls Try.prog 64 #[v] w fun e' w' => ∃ v2, e' = .returned v2 ∧ w'.ownsRow w.heap.size 5 1 v2 ls.length (u8s ls) ∧ Below w.heap.size w w' := by
  have q24 : ∀ (w : World) (a : Option Addr) (n c n' c' : Nat), (binOp .eql 24 (.slice a n c) (.slice none n' c')).run Try.prog w = .ok (.bool a.isNone) w := fun w a n c n' c' => Lib.run_eql_slice_nil w _ _ a n c n' c' Try.underlying24
  obtain ⟨i0, hi, hz0', hz1', hz2'⟩ := info_parts info5
  have h9 := h
  obtain ⟨A, c, rfl, h2, h3, h4⟩ := h
  cases A with
  | none =>
    have h0 : ls = [] := by
      cases ls with
      | nil => rfl
      | cons x r => obtain ⟨b, o, e, _⟩ := h4 0 (by simp); cases e
    subst h0
    go_enter Try.func64, Try.ntmps64
    go_wp2_with fail
    go_ret
    exact ⟨_, rfl, ⟨rfl, .inl ⟨rfl, rfl⟩⟩, Below.refl _ _⟩
  | some p =>
    have H9 := Lib.hid h9
    clear h4 h9
    go_enter Try.func64, Try.ntmps64
    go_wp2_with (at_builtin; refine wpList_append_own _ rfl _ _ 24 rfl w.heap.size 5 i0 (.int .u8 0) 1 1 Try.underlying24 hi hz0' hz1' hz2' rfl (by decide) (.slice (some ⟨w.heap.size, 0, none⟩) 0 0) 0 [] rfl (own_made5 w _ _ rfl (Nat.le_refl _)) p ls.length c (u8s ls) rfl (by rw [u8s_len]; omega) (H9.out.below (balloc (Below.refl _ _) _)).news (u8s_one _) (by unfold maxLen; omega) (by omega) (by simp) ?_)
    intro v9 w9 o9 g9 _
    go_wp2_with fail
    go_ret
    refine ⟨_, rfl, by simpa using o9, ?_⟩
    exact (balloc (Below.refl _ w) _).grown g9 (by simp) (fun k hk => by simp [Value.ownBlock] at hk; omega)

def Dsk.keep (d : Dsk) (k : Int) : Nat := d.safe + (min (max k 0) ((d.b.length : Int) - d.safe)).toNat
def Dsk.crash (d : Dsk) (k : Int) : Dsk := { d with b := d.b.take (d.keep k), safe := d.keep k, left := -1, off := false }
set_option maxRecDepth 100000 in
set_option maxHeartbeats 1000000 in
theorem crashD {base B : Nat} {v : Value} {d : Dsk} (w : World) (h : DS w base B v d) (n : Int) :
    Calls Try.prog 31 #[.pointer (some ⟨B, 0, none⟩), .int .i64 n] w fun e' w' => ∃ v2, e' = .returned (.tuple #[]) ∧ DS w' base B v2 (d.crash n) ∧ Step B v v2 w w' := by
  have c0 := h.c0
  have c1 := h.c1
  have c3 := h.c3
  have c4 := h.c4
  have c5 := h.c5
  have f1 := h.fz 1 (by decide)
  have f3 := h.fz 3 (by decide)
  have f4 := h.fz 4 (by decide)
  have f5 := h.fz 5 (by decide)
  obtain ⟨A, cp, rfl⟩ := len_of_own h.own
  go_enter Try.func31, Try.ntmps31
  go_wp2_with fail
  with_reducible refine (none_made _ B (by go_simp)).mono ?_
  rintro e1 w1 ⟨rfl, rfl⟩
  go_wp2_with fail
  have hs := h.hs
  have hr := h.hr
  have hcap := own_cap h.own
  have hwd : IntKind.i64.wrap ((d.b.length : Int) - (d.safe : Int)) = (d.b.length : Int) - (d.safe : Int) := IntWalk.i64_in _ (by omega)
  have hwk : IntKind.i64.wrap ((d.safe : Int) + min (max n 0) ((d.b.length : Int) - (d.safe : Int))) = (d.keep n : Int) := by
    rw [IntWalk.i64_in _ (by omega)]
    simp only [Dsk.keep]
    omega
  have hk0 : (0 : Int) ≤ (d.keep n : Int) ∧ (d.keep n : Int) ≤ cp := by simp only [Dsk.keep]; omega
  refine wp_region_still_tail 24 (by kernel_rfl) (by kernel_rfl) ?_
  simp only [List.take_succ_cons, List.take_zero, List.drop_succ_cons, List.drop_zero]
  show wpStill _ _ w1.drew (fun a' => wpList _ _ _ _ a' w1.drew) _ _
  repeat still_step
  refine wpStill_nil ?_
  have hd0 := h.below ((Below.refl _ w1).drew)
  have hk9 : d.keep n ≤ d.b.length ∧ d.safe ≤ d.keep n := by simp only [Dsk.keep]; omega
  have hd1 := hd0.cutTo (m := d.keep n) hk9.1 (d2 := { d with b := d.b.take (d.keep n) }) rfl rfl rfl rfl rfl hk9.2
  have hst := (((Step.of_below (v := .slice A d.b.length cp) ((Below.refl _ w1).drew)).set (B := B) (p := ⟨B, 1, none⟩) rfl (.slice A (d.keep n) cp))).recut (m := d.keep n)
  go_wp2_with fail
  go_end0
  have htk : (d.b.take (d.keep n)).length = d.keep n := by rw [List.length_take]; omega
  have hd2 := hd1.set 3 (.int .i64 (d.keep n)) (d2 := { d with b := d.b.take (d.keep n), safe := d.keep n }) (by decide) rfl (by simp) (by simp) (by simp) (by simp) (by simp only [htk]; exact Nat.le_refl _) h.hl (by simp only [htk]; omega)
  have hd3 := hd2.set 4 (.int .i64 (-1)) (d2 := { d with b := d.b.take (d.keep n), safe := d.keep n, left := -1 }) (by decide) rfl (by simp) (by simp) (by simp) (by simp) (by simp only [htk]; exact Nat.le_refl _) (by simp) (by simp only [htk]; omega)
  have hd4 := hd3.set 5 (.bool false) (d2 := d.crash n) (by decide) rfl (by simp [Dsk.crash]) (by simp [Dsk.crash]) (by simp [Dsk.crash]) (by simp [Dsk.crash]) (by simp only [Dsk.crash, htk]; exact Nat.le_refl _) (by simp [Dsk.crash]) (by simp only [Dsk.crash, htk]; omega)
  exact ⟨_, rfl, hd4, ((hst.set (p := ⟨B, 3, none⟩) rfl _).set (p := ⟨B, 4, none⟩) rfl _).set (p := ⟨B, 5, none⟩) rfl _⟩

/-- What a disk tells: all its bytes, in memory of their own. -/
theorem bytesD {base B : Nat} {v : Value} {d : Dsk} (w : World) (h : DS w base B v d) :
    Calls Try.prog 24 #[.pointer (some ⟨B, 0, none⟩)] w fun e' w' => ∃ v2, e' = .returned v2 ∧ w'.ownsRow w.heap.size 5 1 v2 d.b.length (u8s d.b) ∧ Below w.heap.size w w' := by
  have c0 := h.c0
  have c1 := h.c1
  have hb := BAt.of_own h.own
  have hr := h.hr
  obtain ⟨A, cp, rfl⟩ := len_of_own h.own
  go_enter Try.func24, Try.ntmps24
  go_wp2_with fail
  with_reducible refine (none_made _ B (by go_simp)).mono ?_
  rintro e1 w1 ⟨rfl, rfl⟩
  go_wp2_with fail
  with_reducible refine (cloneB _ hb (by omega)).mono ?_
  rintro e2 w2 ⟨v2, rfl, h2, hb2⟩
  go_wp2_with fail
  go_ret
  exact ⟨_, rfl, h2, hb2⟩
end Go.Proofs.Ythgaphfelpnclaa
