/- The disk: what is done till the power goes: syncing and cutting; a crash; the bytes that it tells. -/
import Derived.Test.YthgaphfelpnclaaDa
set_option linter.unusedVariables false
set_option linter.unusedSimpArgs false
namespace Go.Proofs.Ythgaphfelpnclaa
open Go.RowKit

set_option maxRecDepth 100000 in
theorem powered_off (w : World) (B : Nat) (k : Nat) (caps : Array Value) (c0 : w.cell? ⟨B, 0, none⟩ = some (.bool true)) (c5 : w.cell? ⟨B, 5, none⟩ = some (.bool true)) :
    Calls Try.prog 60 #[.pointer (some ⟨B, 0, none⟩), .func (.func k) #[] caps] w fun e' w' => e' = .returned (.int .i64 6) ∧ Below w.heap.size w w' := by
  have hmf : ∀ (fn : Fn) (first cap : Array Value) (w : World), (Instr.makeFunc fn first cap).run Try.prog w = .ok (.func fn first cap) w := fun _ _ _ _ => rfl
  have zB := cell_lt c0
  go_enter_defers Try.func60, Try.ntmps60
  go_wp2_with fail
  with_reducible refine (none_made _ B (by go_simp)).mono ?_
  rintro e1 w1 ⟨rfl, rfl⟩
  go_wp2_with fail
  refine leaves_cons (f := 78) (args := #[.pointer (some ⟨w.heap.size, 0, none⟩)]) (by simp) (by simp [go_sem]) ?_
  refine (catch_idle _ _).mono ?_
  rintro e u' w'' ⟨rfl, rfl, rfl⟩
  have cc : ((w.setCell ⟨w.heap.size, 0, none⟩ (.int .i64 6))).heap.size = w.heap.size := by simp
  simp [Leaves, settle, results, Try.results60, go_sem]
  repeat (first | exact Below.refl _ _ | refine bset ?_ (by simp) _ | refine balloc ?_ _)

theorem powered_go {base B : Nat} {v : Value} {d d2 : Dsk} {x : Int} (w : World) (k : Nat) (caps : Array Value) (h : DS w base B v d) (hoff : d.off = false)
    (hk : ∀ w, (callFunc k caps).run Try.prog w = .ok (.enter k caps) w)
    (hcl : ∀ w0, Below w.heap.size w w0 → Calls Try.prog k caps w0 fun e w' => ∃ v2, DS w' base B v2 d2 ∧ Step B v v2 w0 w' ∧ ((e = .panicked dark ∧ x = 6) ∨ e = .returned (.int .i64 x))) :
    Calls Try.prog 60 #[.pointer (some ⟨B, 0, none⟩), .func (.func k) #[] caps] w fun e' w' => ∃ v2, e' = .returned (.int .i64 x) ∧ DS w' base B v2 d2 ∧ Step B v v2 w w' := by
  have hb : ∀ w0, w0 = w.alloc (.cells #[.int .i64 0] 35) → Below w.heap.size w w0 := fun w0 e => by subst e; exact balloc (Below.refl _ _) _
  have c5 := h.c5
  rw [hoff] at c5
  have hBn : w.heap.size ≠ B := by have := h.lt; omega
  have hvn : some w.heap.size ≠ v.ownBlock := fun e => by have := h.vlt _ e.symm; omega
  refine (powered_on w B k caps h.c0 c5 (fun y w' => y = x ∧ ∃ v2, DS w' base B v2 d2 ∧ Step B v v2 (w.alloc (.cells #[.int .i64 0] 35)) w') hk ?_).mono ?_
  · intro w0 e0
    refine (hcl w0 (hb w0 e0)).mono ?_
    rintro e w' ⟨v2, h1, h2, h3⟩
    have ce : w0.cell? ⟨w.heap.size, 0, none⟩ = some (.int .i64 0) := by subst e0; simp [go_sem]
    have fe : w0.frozen? ⟨w.heap.size, 0, none⟩ = false := by subst e0; simp [go_sem]
    subst e0
    exact ⟨x, h2.cell ce hBn hvn, h2.frozen ce fe hBn hvn, ⟨rfl, v2, h1, h2⟩, h3⟩
  · rintro e w' ⟨y, w1, rfl, ⟨rfl, v2, h1, h2⟩, ho⟩
    have hv2 : some w.heap.size ≠ v2.ownBlock := fun e => hvn (h2.fresh _ (by simp) e)
    exact ⟨v2, rfl, h1.only ho hBn hv2, ((Step.of_below (hb _ rfl)).trans h2).only ho (Nat.le_refl _)⟩

def Dsk.syncOn (d : Dsk) : Dsk × Int := if d.left = 0 then (d.dark, 6) else ({ d.dec with safe := d.b.length }, 0)
def Dsk.sync (d : Dsk) : Dsk × Int := if d.off then (d, 6) else d.syncOn
def Dsk.cutOn (d : Dsk) (n : Int) : Dsk × Int :=
  if n < 0 ∨ (d.b.length : Int) < n then (d, 2) else if d.left = 0 then (d.dark, 6) else ({ d.dec with b := d.b.take n.toNat, safe := min d.safe n.toNat }, 0)
def Dsk.cut (d : Dsk) (n : Int) : Dsk × Int := if d.off then (d, 6) else d.cutOn n

theorem sync_cl {base B pd : Nat} {v : Value} {d : Dsk} (w : World) (h : DS w base B v d) (hp : w.cell? ⟨pd, 0, none⟩ = some (.pointer (some ⟨B, 0, none⟩))) (hpB : pd ≠ B) (hpv : some pd ≠ v.ownBlock) :
    Calls Try.prog 65 #[.pointer (some ⟨pd, 0, none⟩)] w fun e w' => ∃ v2, DS w' base B v2 d.syncOn.1 ∧ Step B v v2 w w' ∧ ((e = .panicked dark ∧ d.syncOn.2 = 6) ∨ e = .returned (.int .i64 d.syncOn.2)) := by
  go_enter Try.func65, Try.ntmps65
  go_wp2_with fail
  by_cases hl : d.left = 0
  · with_reducible refine (spark_dark _ h hl).mono ?_
    rintro e1 w1 ⟨rfl, h1, s1⟩
    go_wp2_with fail
    exact ⟨rfl, v, by simpa [Dsk.syncOn, hl] using h1, s1, .inl ⟨rfl, by simp [Dsk.syncOn, hl]⟩⟩
  · with_reducible refine (spark_ok _ h hl).mono ?_
    rintro e1 w1 ⟨rfl, h1, s1⟩
    have p1 := s1.cell hp hpB hpv
    have c1 := h1.c1
    have c3 := h1.c3
    have f3 := h1.fz 3 (by decide)
    obtain ⟨A, cp, rfl⟩ := len_of_own h1.own
    go_wp2_with fail
    go_region
    go_wp2_with fail
    go_ret
    have hd := h1.below ((Below.refl _ w1).drew)
    refine ⟨_, ?_, (s1.below ((Below.refl _ _).drew)).set (p := ⟨B, 3, none⟩) rfl _, .inr (by simp [Dsk.syncOn, hl])⟩
    simp only [Dsk.syncOn, if_neg hl]
    exact hd.set 3 _ (by decide) rfl (by simp [Dsk.dec]) (by simp [Dsk.dec]) (by simp [Dsk.dec]) (by simp [Dsk.dec]) (Nat.le_refl _) h1.hl h1.hr

theorem syncD {base B : Nat} {v : Value} {d : Dsk} (w : World) (h : DS w base B v d) :
    Calls Try.prog 29 #[.pointer (some ⟨B, 0, none⟩)] w fun e' w' => ∃ v2, e' = .returned (.int .i64 d.sync.2) ∧ DS w' base B v2 d.sync.1 ∧ Step B v v2 w w' := by
  have hmf : ∀ (fn : Fn) (first cap : Array Value) (w : World), (Instr.makeFunc fn first cap).run Try.prog w = .ok (.func fn first cap) w := fun _ _ _ _ => rfl
  have zB := h.lt
  have hb := h.below (balloc (Below.refl _ _) (.cells #[.pointer (some ⟨B, 0, none⟩)] 41))
  go_enter Try.func29, Try.ntmps29
  go_wp2_with fail
  by_cases ho : d.off = true
  · have c5 := hb.c5
    rw [ho] at c5
    with_reducible refine (powered_off _ B _ _ hb.c0 c5).mono ?_
    rintro e1 w1 ⟨rfl, hb1⟩
    go_wp2_with fail
    go_ret
    refine ⟨v, by simp [Dsk.sync, ho], ?_, (Step.of_below (balloc (Below.refl _ _) _)).below hb1⟩
    have := hb.below hb1
    simpa [Dsk.sync, ho] using this
  · have ho : d.off = false := by simpa using ho
    with_reducible refine (powered_go (x := d.syncOn.2) (d2 := d.syncOn.1) _ 65 _ hb ho (fun w => by simp [go_sem]) ?_).mono ?_
    · intro w0 hb0
      exact sync_cl w0 (hb.below hb0) (keep hb0 (by simp [go_sem])) (by omega) (fun e => by have := h.vlt _ e.symm; omega)
    · rintro e1 w1 ⟨v2, rfl, h1, s1⟩
      go_wp2_with fail
      go_ret
      exact ⟨v2, by simp [Dsk.sync, ho], by simpa [Dsk.sync, ho] using h1, (Step.of_below (balloc (Below.refl _ _) _)).trans s1⟩

/-- The first n elements of a row. -/
theorem own_take {w : World} {base e n : Nat} {A : Option Addr} {cp : Nat} {xs : List Value} (h : w.ownsRow base e 1 (.slice A n cp) n xs) {m : Nat} (hm : m ≤ n) : w.ownsRow base e 1 (.slice A m cp) m (xs.take m) := by
  refine ⟨by rw [List.length_take, h.1]; omega, ?_⟩
  rcases h.2 with ⟨hv, h0⟩ | ⟨g, cap, cur, hv, hb, hg, hn, hc, hs, ht⟩
  · injection hv with a b c
    subst a; subst c
    exact .inl ⟨by rw [show m = 0 from by omega], by omega⟩
  · injection hv with a b c
    subst a; subst c
    refine .inr ⟨g, cp, cur, rfl, hb, hg, by omega, hc, hs, ?_⟩
    rw [← ht, List.take_take]
    congr 1
    omega
theorem own_cap {w : World} {base e n : Nat} {A : Option Addr} {cp : Nat} {xs : List Value} (h : w.ownsRow base e 1 (.slice A n cp) n xs) : n ≤ cp ∧ cp ≤ maxLen := by
  rcases h.2 with ⟨hv, h0⟩ | ⟨g, cap, cur, hv, hb, hg, hn, hc, hs, ht⟩
  · injection hv with a b c
    subst c; exact ⟨by omega, by simp⟩
  · injection hv with a b c
    subst c; exact ⟨hn, hc⟩
theorem ob (A : Option Addr) (n cp m c : Nat) : (Value.slice A n cp).ownBlock = (Value.slice A m c).ownBlock := by cases A <;> rfl
/-- The disk's row is cut to its first m. -/
theorem DS.cutTo {w : World} {base B : Nat} {A : Option Addr} {cp : Nat} {d : Dsk} (h : DS w base B (.slice A d.b.length cp) d) {m : Nat} (hm : m ≤ d.b.length) {d2 : Dsk} (hb : d2.b = d.b.take m) (e2 : d2.room = d.room) (e3 : d2.safe = d.safe) (e4 : d2.left = d.left) (e5 : d2.off = d.off) (hs : d.safe ≤ m) : DS (w.setCell ⟨B, 1, none⟩ (.slice A m cp)) base B (.slice A m cp) d2 := by
  have hl2 : d2.b.length = m := by rw [hb, List.length_take]; omega
  refine ⟨by rw [cell_set h.c0]; rfl, by rw [cell_set h.c1]; rfl, by rw [cell_set h.c2, e2]; rfl, by rw [cell_set h.c3, e3]; rfl, by rw [cell_set h.c4, e4]; rfl, by rw [cell_set h.c5, e5]; rfl,
   fun j hj => by rw [World.frozen?_setCell]; exact h.fz j hj, ?_, ?_, h.lo, by omega, by rw [e4]; exact h.hl, by rw [hl2, e2]; have := h.hr; omega⟩
  · rw [hl2, hb, u8s_take]
    exact own_setB (own_take h.own hm) (by rw [ob A m cp d.b.length cp]; exact h.sep)
  · rw [ob A m cp d.b.length cp]; exact h.sep
theorem Step.recut {B n m cp : Nat} {A : Option Addr} {v : Value} {w w2 : World} (s : Step B v (.slice A n cp) w w2) : Step B v (.slice A m cp) w w2 :=
  ⟨s.os, s.tape, s.output, s.size, s.block, fun k hk e => s.fresh k hk (by rw [ob A m cp n cp] at e; exact e)⟩


end Go.Proofs.Ythgaphfelpnclaa
