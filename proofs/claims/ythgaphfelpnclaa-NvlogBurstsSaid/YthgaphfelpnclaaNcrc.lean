/- The check: bytes that are turned within four beside one another have another one. -/
import Derived.Test.YthgaphfelpnclaaNp
set_option linter.unusedVariables false
set_option linter.unusedSimpArgs false
namespace Go.Proofs.Ythgaphfelpnclaa
open Go.RowKit
def tN (n : Nat) : Nat := (n / 2) ^^^ (if n % 2 = 1 then 3988292384 else 0)
theorem xor_div2 (a b : Nat) : (a ^^^ b) / 2 = a / 2 ^^^ b / 2 := by
  apply Nat.eq_of_testBit_eq
  intro i
  rw [Nat.testBit_xor]
  simp only [Nat.testBit_div_two, Nat.testBit_xor]
theorem xor_mod2 (a b : Nat) : (a ^^^ b) % 2 = (a + b) % 2 := by
  have h := Nat.testBit_xor a b 0
  simp only [Nat.testBit_zero] at h
  have ha : a % 2 = 0 ∨ a % 2 = 1 := by omega
  have hb : b % 2 = 0 ∨ b % 2 = 1 := by omega
  have hc : (a ^^^ b) % 2 = 0 ∨ (a ^^^ b) % 2 = 1 := by omega
  rcases ha with ha | ha <;> rcases hb with hb | hb <;> rcases hc with hc | hc <;> simp [ha, hb, hc] at h <;> omega
theorem tN_lin (a b : Nat) : tN (a ^^^ b) = tN a ^^^ tN b := by
  unfold tN
  rw [xor_div2, xor_mod2]
  have ha : a % 2 = 0 ∨ a % 2 = 1 := by omega
  have hb : b % 2 = 0 ∨ b % 2 = 1 := by omega
  rcases ha with ha | ha <;> rcases hb with hb | hb
  · rw [if_neg (by omega), if_neg (by omega), if_neg (by omega)]; simp
  · rw [if_pos (by omega), if_neg (by omega), if_pos (by omega)]; simp [Nat.xor_assoc]
  · rw [if_pos (by omega), if_pos (by omega), if_neg (by omega)]; simp; ac_rfl
  · rw [if_neg (by omega), if_pos (by omega), if_pos (by omega)]
    rw [show a / 2 ^^^ 3988292384 ^^^ (b / 2 ^^^ 3988292384) = a / 2 ^^^ b / 2 ^^^ (3988292384 ^^^ 3988292384) by ac_rfl, Nat.xor_self]
theorem tN_lt {a : Nat} (h : a < 4294967296) : tN a < 4294967296 := by
  unfold tN
  refine Nat.xor_lt_two_pow (n := 32) (by omega) ?_
  split <;> omega
theorem tN_zero {a : Nat} (h : a < 4294967296) (h0 : tN a = 0) : a = 0 := by
  unfold tN at h0
  split at h0
  · have : a / 2 = 3988292384 := by
      have h1 := congrArg (fun z => z ^^^ 3988292384) h0
      simp only [Nat.xor_assoc, Nat.xor_self, Nat.xor_zero, Nat.zero_xor] at h1
      exact h1
    omega
  · simp at h0; omega
theorem tN_even {a : Nat} (h : a % 2 = 0) : tN a = a / 2 := by unfold tN; rw [if_neg (by omega)]; simp
def tI : Nat → Nat → Nat
  | 0, a => a
  | k + 1, a => tN (tI k a)
theorem tI_lin (k a b : Nat) : tI k (a ^^^ b) = tI k a ^^^ tI k b := by
  induction k with
  | zero => rfl
  | succ k ih => rw [tI, ih, tN_lin]; rfl
theorem tI_lt {k a : Nat} (h : a < 4294967296) : tI k a < 4294967296 := by
  induction k with
  | zero => exact h
  | succ k ih => exact tN_lt ih
theorem tI_zero {k a : Nat} (h : a < 4294967296) (h0 : tI k a = 0) : a = 0 := by
  induction k with
  | zero => exact h0
  | succ k ih => exact ih (tN_zero (tI_lt h) h0)
theorem tI_up (k a : Nat) : tI k (a * 2 ^ k) = a := by
  have key : ∀ j, j ≤ k → tI j (a * 2 ^ k) = a * 2 ^ (k - j) := by
    intro j
    induction j with
    | zero => intro _; rfl
    | succ j ih =>
      intro hj
      rw [tI, ih (by omega)]
      have e : a * 2 ^ (k - j) = (a * 2 ^ (k - (j + 1))) * 2 := by rw [Nat.mul_assoc, ← Nat.pow_succ]; congr 2; omega
      rw [e, tN_even (by omega)]
      omega
  rw [key k (Nat.le_refl _), Nat.sub_self]; simp
/-- One byte. -/
def aN (s b : Nat) : Nat := tI 8 (s ^^^ b)
def fN (s : Nat) (l : List Nat) : Nat := l.foldl aN s
theorem fN_lt {s : Nat} (hs : s < 4294967296) : ∀ {l : List Nat}, (∀ b ∈ l, b < 256) → fN s l < 4294967296 := by
  intro l
  induction l generalizing s with
  | nil => intro _; exact hs
  | cons b l ih =>
    intro h
    refine ih (s := aN s b) (tI_lt (Nat.xor_lt_two_pow (n := 32) hs ?_)) (fun c hc => h c (by simp [hc]))
    have := h b (by simp)
    omega
theorem fN_diff (s t : Nat) : ∀ (l m : List Nat), l.length = m.length → fN s l ^^^ fN t m = fN (s ^^^ t) (List.zipWith (· ^^^ ·) l m)
  | [], [], _ => rfl
  | a :: l, b :: m, h => by
    have ih := fN_diff (aN s a) (aN t b) l m (by simpa using h)
    show fN (aN s a) l ^^^ fN (aN t b) m = fN (aN (s ^^^ t) (a ^^^ b)) (List.zipWith (· ^^^ ·) l m)
    rw [ih]
    congr 1
    unfold aN
    rw [← tI_lin]
    congr 1
    ac_rfl
theorem tI_add (j k a : Nat) : tI j (tI k a) = tI (j + k) a := by
  induction j with
  | zero => simp [tI]
  | succ j ih => rw [Nat.succ_add, tI, tI, ih]
theorem fN_zeros (n s : Nat) : fN s (List.replicate n 0) = tI (8 * n) s := by
  induction n generalizing s with
  | zero => rfl
  | succ n ih =>
    show fN (aN s 0) (List.replicate n 0) = _
    rw [ih, aN, Nat.xor_zero, tI_add]
    congr 1
def word : List Nat → Nat
  | [] => 0
  | e :: l => e ^^^ word l * 256
theorem word_lt : ∀ {l : List Nat}, (∀ b ∈ l, b < 256) → word l < 256 ^ l.length
  | [], _ => by simp [word]
  | e :: l, h => by
    have h1 := word_lt (l := l) (fun b hb => h b (by simp [hb]))
    have h2 := h e (by simp)
    have e1 : (256 : Nat) ^ (e :: l).length = 2 ^ (8 * (l.length + 1)) := by rw [Nat.pow_mul]; rfl
    have e2 : (256 : Nat) ^ (e :: l).length = 256 ^ l.length * 256 := by rw [List.length_cons, Nat.pow_succ]
    rw [e1]
    unfold word
    have hpos : 0 < 256 ^ l.length := Nat.pow_pos (by decide)
    refine Nat.xor_lt_two_pow (by rw [← e1, e2]; omega) (by rw [← e1, e2]; omega)
theorem word_zero : ∀ {l : List Nat}, (∀ b ∈ l, b < 256) → word l = 0 → ∀ b ∈ l, b = 0
  | [], _, _ => by simp
  | e :: l, h, h0 => by
    have h2 := h e (by simp)
    unfold word at h0
    have hm := congrArg (· % 256) h0
    have e1 : e ^^^ word l * 256 = word l * 256 + e := by
      have := Nat.two_pow_add_eq_or_of_lt (i := 8) (b := e) (by omega) (word l)
      rw [Nat.mul_comm (word l) 256, show (256 : Nat) = 2 ^ 8 from rfl, this]
      apply Nat.eq_of_testBit_eq
      intro i
      rw [Nat.testBit_xor, Nat.testBit_or]
      by_cases hi : i < 8
      · have : (2 ^ 8 * word l).testBit i = false := by rw [Nat.testBit_two_pow_mul]; simp; omega
        simp [this]
      · have : e.testBit i = false := Nat.testBit_lt_two_pow (Nat.lt_of_lt_of_le h2 (by
          have : 2 ^ 8 ≤ 2 ^ i := Nat.pow_le_pow_right (by omega) (by omega)
          omega))
        simp [this]
    rw [e1] at h0
    intro b hb
    rcases List.mem_cons.1 hb with rfl | hb
    · omega
    · exact word_zero (fun c hc => h c (by simp [hc])) (by omega) b hb
theorem fN_word : ∀ (l : List Nat) (s : Nat), (∀ b ∈ l, b < 256) → l.length ≤ 4 → fN s l = tI (8 * l.length) (s ^^^ word l)
  | [], s, _, _ => by simp [fN, word, tI]
  | e :: l, s, h, hl => by
    have ih := fN_word l (aN s e) (fun b hb => h b (by simp [hb])) (by simp at hl; omega)
    show fN (aN s e) l = _
    rw [ih, List.length_cons, show 8 * (l.length + 1) = 8 * l.length + 8 by omega, ← tI_add]
    congr 1
    rw [show word (e :: l) = e ^^^ word l * 256 from rfl]
    unfold aN
    rw [← Nat.xor_assoc, tI_lin 8 (s ^^^ e)]
    congr 1
    exact (tI_up 8 (word l)).symm
/-- Two rows of bytes that differ within four beside one another have not the same check. -/
theorem burst {p q q2 r : List Nat} (s : Nat) (hq : q.length = q2.length) (h4 : q.length ≤ 4) (hb : ∀ b ∈ q, b < 256) (hb2 : ∀ b ∈ q2, b < 256) (hne : q ≠ q2) : fN s (p ++ q ++ r) ≠ fN s (p ++ q2 ++ r) := by
  intro he
  have h1 : fN s (p ++ q ++ r) ^^^ fN s (p ++ q2 ++ r) = 0 := by rw [he, Nat.xor_self]
  have e1 : ∀ x : List Nat, fN s (p ++ x ++ r) = fN (fN (fN s p) x) r := fun x => by simp [fN]
  rw [e1, e1, fN_diff _ _ r r rfl, fN_diff _ _ q q2 hq, Nat.xor_self] at h1
  have hz : List.zipWith (· ^^^ ·) r r = List.replicate r.length 0 := by
    apply List.ext_getElem
    · simp
    · intro i h1 h2; simp
  rw [hz, fN_zeros] at h1
  have hx : ∀ b ∈ List.zipWith (· ^^^ ·) q q2, b < 256 := by
    intro b hb9
    obtain ⟨i, hi, rfl⟩ := List.getElem_of_mem hb9
    rw [List.getElem_zipWith]
    exact Nat.xor_lt_two_pow (n := 8) (hb _ (List.getElem_mem _)) (hb2 _ (List.getElem_mem _))
  have hl : (List.zipWith (· ^^^ ·) q q2).length ≤ 4 := by rw [List.length_zipWith]; omega
  rw [fN_word _ _ hx hl, Nat.zero_xor] at h1
  have hw : word (List.zipWith (· ^^^ ·) q q2) < 4294967296 := by
    have := word_lt hx
    refine Nat.lt_of_lt_of_le this ?_
    exact Nat.pow_le_pow_right (n := 256) (by decide) hl
  have h2 := word_zero hx (tI_zero hw (tI_zero (tI_lt hw) h1))
  refine hne (List.ext_getElem hq fun i h3 h4 => ?_)
  have h5 := h2 (q[i] ^^^ q2[i]) (by
    rw [List.mem_iff_getElem]
    exact ⟨i, by rw [List.length_zipWith]; omega, by rw [List.getElem_zipWith]⟩)
  have h6 := congrArg (fun z => z ^^^ q2[i]) h5
  simp only [Nat.xor_assoc, Nat.xor_self, Nat.xor_zero, Nat.zero_xor] at h6
  exact h6

theorem nat_u32 {a : Nat} (ha : a < 4294967296) : (BitVec.ofInt 32 (a : Int)).toNat = a := by
  rw [BitVec.ofInt_natCast, BitVec.toNat_ofNat]; exact Nat.mod_eq_of_lt (by omega)
theorem xor_u32 (a b : Nat) (ha : a < 4294967296) (hb : b < 4294967296) : bits .xor .u32 (a : Int) (b : Int) = ((a ^^^ b : Nat) : Int) := by
  have hx : a ^^^ b < 2 ^ 32 := Nat.xor_lt_two_pow (by omega) (by omega)
  show IntKind.u32.wrap ((BitVec.ofInt 32 (a : Int) ^^^ BitVec.ofInt 32 (b : Int)).toNat : Int) = _
  rw [BitVec.toNat_xor, nat_u32 ha, nat_u32 hb, wrap_u32]
  omega
theorem and_u32 (a b : Nat) (ha : a < 4294967296) (hb : b < 4294967296) : bits .and .u32 (a : Int) (b : Int) = ((a &&& b : Nat) : Int) := by
  have hx : a &&& b < 2 ^ 32 := Nat.and_lt_two_pow _ (by omega)
  show IntKind.u32.wrap ((BitVec.ofInt 32 (a : Int) &&& BitVec.ofInt 32 (b : Int)).toNat : Int) = _
  rw [BitVec.toNat_and, nat_u32 ha, nat_u32 hb, wrap_u32]
  omega
theorem cbit_nat {n : Nat} (h : n < 4294967296) : cbit (n : Int) = (tN n : Int) := by
  unfold cbit
  have e1 : bits BinOp.and IntKind.u32 (n : Int) 1 = ((n % 2 : Nat) : Int) := by
    have := and_u32 n 1 h (by omega)
    rw [Nat.and_one_is_mod] at this
    exact this
  rw [e1]
  have e0 : (n : Int) / 2 = ((n / 2 : Nat) : Int) := by omega
  rw [e0]
  have hc : n % 2 = 0 ∨ n % 2 = 1 := by omega
  unfold tN
  rcases hc with hc | hc
  · rw [hc, if_neg (by omega)]
    rw [show -((0 : Nat) : Int) % 4294967296 = ((0 : Nat) : Int) by decide, show (3988292384 : Int) = ((3988292384 : Nat) : Int) by decide, and_u32 _ _ (by decide) (by decide), xor_u32 _ _ (by omega) (by decide)]
    rfl
  · rw [hc, if_pos rfl]
    rw [show -((1 : Nat) : Int) % 4294967296 = ((4294967295 : Nat) : Int) by decide, show (3988292384 : Int) = ((3988292384 : Nat) : Int) by decide, and_u32 _ _ (by decide) (by decide), show (3988292384 : Nat) &&& 4294967295 = 3988292384 by decide, xor_u32 _ _ (by omega) (by decide)]
theorem cbits_nat (k : Nat) {n : Nat} (h : n < 4294967296) : cbits k (n : Int) = (tI k n : Int) := by
  induction k with
  | zero => rfl
  | succ k ih => rw [cbits, ih, cbit_nat (tI_lt h)]; rfl
theorem cadd_nat {s b : Nat} (hs : s < 4294967296) (hb : b < 256) : cadd (s : Int) (b : Int) = (aN s b : Int) := by
  have hx : s ^^^ b < 4294967296 := Nat.xor_lt_two_pow (n := 32) hs (by omega)
  unfold cadd chalf
  rw [xor_u32 _ _ hs (by omega), cbits_nat 4 hx, cbits_nat 4 (tI_lt hx), tI_add]
  rfl
def nats (l : List Int) : List Nat := l.map Int.toNat
theorem nats_lt {l : List Int} (h : U8s l) : ∀ b ∈ nats l, b < 256 := by
  intro b hb
  obtain ⟨x, hx, rfl⟩ := List.mem_map.1 hb
  have := h x hx
  omega
theorem fold_nat : ∀ (l : List Int) (s : Nat), s < 4294967296 → U8s l → l.foldl cadd (s : Int) = (fN s (nats l) : Int)
  | [], s, _, _ => rfl
  | x :: l, s, hs, h => by
    have hx := h x (by simp)
    obtain ⟨b, rfl⟩ := Int.eq_ofNat_of_zero_le hx.1
    have hb : b < 256 := by omega
    have hl : aN s b < 4294967296 := tI_lt (Nat.xor_lt_two_pow (n := 32) hs (by omega))
    rw [List.foldl_cons, cadd_nat hs hb, fold_nat l _ hl (fun z hz => h z (by simp [hz]))]
    simp [nats, fN]
theorem crc_nat {l : List Int} (h : U8s l) : crc l = ((4294967295 ^^^ fN 4294967295 (nats l) : Nat) : Int) := by
  have e : csum l = (fN 4294967295 (nats l) : Int) := fold_nat l 4294967295 (by decide) h
  unfold crc
  rw [e, show (4294967295 : Int) = ((4294967295 : Nat) : Int) by decide, xor_u32 _ _ (by decide) (fN_lt (by decide) (nats_lt h))]
theorem nats_inj {a b : List Int} (ha : U8s a) (hb : U8s b) (h : nats a = nats b) : a = b := by
  have hl : a.length = b.length := by have := congrArg List.length h; simpa [nats] using this
  refine List.ext_getElem hl fun i h1 h2 => ?_
  have h3 : (nats a)[i]? = (nats b)[i]? := by rw [h]
  simp only [nats, List.getElem?_map, List.getElem?_eq_getElem h1, List.getElem?_eq_getElem h2, Option.map_some, Option.some.injEq] at h3
  have h4 := ha _ (List.getElem_mem h1)
  have h5 := hb _ (List.getElem_mem h2)
  omega
/-- Bytes turned within four beside one another have another check. -/
theorem crc_burst {a b : List Int} (ha : U8s a) (hb : U8s b) (hl : a.length = b.length) (k : Nat) (hout : ∀ p, (p < k ∨ k + 4 ≤ p) → a[p]? = b[p]?) (hne : a ≠ b) : crc a ≠ crc b := by
  intro he
  rw [crc_nat ha, crc_nat hb] at he
  have h1 : 4294967295 ^^^ fN 4294967295 (nats a) = 4294967295 ^^^ fN 4294967295 (nats b) := by omega
  have h2 : fN 4294967295 (nats a) = fN 4294967295 (nats b) := by
    have h9 := congrArg (fun z => 4294967295 ^^^ z) h1
    simp only [← Nat.xor_assoc, Nat.xor_self, Nat.zero_xor] at h9
    exact h9
  have split : ∀ l : List Int, nats l = nats (l.take k) ++ nats ((l.drop k).take 4) ++ nats (l.drop (k + 4)) := by
    intro l
    unfold nats
    rw [← List.map_append, ← List.map_append]
    congr 1
    rw [List.append_assoc, ← List.drop_drop, List.take_append_drop, List.take_append_drop]
  have t1 : a.take k = b.take k := by
    apply List.ext_getElem?
    intro i
    rw [List.getElem?_take, List.getElem?_take]
    split
    · exact hout i (.inl (by assumption))
    · rfl
  have t2 : a.drop (k + 4) = b.drop (k + 4) := by
    apply List.ext_getElem?
    intro i
    rw [List.getElem?_drop, List.getElem?_drop]
    exact hout _ (.inr (by omega))
  have sa := split a
  have sb := split b
  rw [t1, t2] at sa
  rw [sa, sb] at h2
  have hq : nats ((a.drop k).take 4) ≠ nats ((b.drop k).take 4) := by
    intro e
    rw [e] at sa
    exact hne (nats_inj ha hb (by rw [sa, sb]))
  exact burst 4294967295 (by simp [nats, hl]) (by simp [nats]; omega) (nats_lt (u8s_take' (u8s_drop ha k) 4)) (nats_lt (u8s_take' (u8s_drop hb k) 4)) hq h2
/-- A record of which what the check is of is turned so, but its length: no record begins there. -/
theorem first_burst {x : Rc} (hok : x.ok) (hr : x.right = true) {cl : List Int} (hu : U8s cl) (hl : cl.length = x.body.length) (h7 : cl[7]? = x.body[7]?) (h8 : cl[8]? = x.body[8]?) (k : Nat) (hout : ∀ p, (p < k ∨ k + 4 ≤ p) → cl[p]? = x.body[p]?) (hne : cl ≠ x.body) : first (cl ++ be4 (crc x.body)) = none := by
  have hbl := Rc.body_len x
  have hc := crc_u32 x.body
  have hh : hdLen (cl ++ be4 (crc x.body)) = x.text.length := by
    have e : ∀ i, i < x.body.length → (cl ++ be4 (crc x.body)).getD i 0 = cl.getD i 0 := fun i hi => by simp [List.getD, List.getElem?_append_left (show i < cl.length by omega)]
    have e2 : ∀ i, i < x.body.length → (x.body ++ be4 (crc x.body)).getD i 0 = x.body.getD i 0 := fun i hi => by simp [List.getD, List.getElem?_append_left hi]
    have h9 : hdLen (x.body ++ be4 (crc x.body)) = x.text.length := by
      have := bytes_form x (crc x.body) []
      simp only [List.append_nil] at this
      rw [this]
      exact hdLen_eq
    rw [← h9]
    unfold hdLen
    rw [e 7 (by omega), e 8 (by omega), e2 7 (by omega), e2 8 (by omega)]
    simp only [List.getD, h7, h8]
  unfold first
  rw [hh]
  have hlen : (cl ++ be4 (crc x.body)).length = x.text.length + 13 := by rw [List.length_append, hl, hbl]; rfl
  rw [if_neg (by omega), if_neg (by omega)]
  have ht : (cl ++ be4 (crc x.body)).take (x.text.length + 9) = cl := by rw [List.take_append_of_le_length (by omega), List.take_of_length_le (by omega)]
  have hd : (cl ++ be4 (crc x.body)).drop (x.text.length + 9) = be4 (crc x.body) ++ [] := by rw [← hbl, ← hl, List.drop_left, List.append_nil]
  rw [ht, hd, num4_be4 hc, if_neg (fun e => crc_burst hu (hok.body hr) hl k hout hne e.symm)]
end Go.Proofs.Ythgaphfelpnclaa
