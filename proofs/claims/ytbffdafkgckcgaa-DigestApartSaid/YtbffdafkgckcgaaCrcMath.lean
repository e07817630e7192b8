/- The plain mathematics of CRC-64 as a linear map on 64-bit words: no program in sight. -/
namespace Go.Proofs.Ytbffdafkgckcgaa.Crc

/-- The polynomial. -/
def poly : BitVec 64 := 0x42f0e1eba9ea3693#64
/-- One step with the bit 0. -/
def st (c : BitVec 64) : BitVec 64 := (c <<< 1) ^^^ (if c.msb then poly else 0#64)
/-- Several steps. -/
def stN : Nat → BitVec 64 → BitVec 64
  | 0, c => c
  | k + 1, c => st (stN k c)

theorem st_xor (a b : BitVec 64) : st (a ^^^ b) = st a ^^^ st b := by
  unfold st
  rw [BitVec.shiftLeft_xor_distrib, BitVec.msb_xor]
  cases ha : a.msb <;> cases hb : b.msb
  · simp
  · simp [BitVec.xor_assoc]
  · simp only [Bool.xor_false, if_true, Bool.false_eq_true, if_false, BitVec.xor_zero]
    rw [BitVec.xor_assoc, BitVec.xor_comm (b <<< 1), ← BitVec.xor_assoc]
  · simp only [Bool.xor_self, if_true, Bool.false_eq_true, if_false, BitVec.xor_zero]
    rw [BitVec.xor_assoc, ← BitVec.xor_assoc poly, BitVec.xor_comm poly, BitVec.xor_assoc, BitVec.xor_self, BitVec.xor_zero]

theorem st_zero : st 0#64 = 0#64 := by decide

theorem stN_xor (k : Nat) (a b : BitVec 64) : stN k (a ^^^ b) = stN k a ^^^ stN k b := by
  induction k with
  | zero => rfl
  | succ k ih => simp only [stN, ih, st_xor]

theorem stN_zero (k : Nat) : stN k 0#64 = 0#64 := by
  induction k with
  | zero => rfl
  | succ k ih => simp only [stN, ih, st_zero]

theorem stN_add (j k : Nat) (c : BitVec 64) : stN (j + k) c = stN j (stN k c) := by
  induction j with
  | zero => simp [stN]
  | succ j ih => rw [Nat.succ_add]; simp only [stN, ih]

theorem st_inj0 (c : BitVec 64) (h : st c = 0#64) : c = 0#64 := by
  unfold st at h
  cases hm : c.msb
  · rw [hm] at h
    simp only [Bool.false_eq_true, if_false, BitVec.xor_zero] at h
    have hb : c.toNat < 2 ^ 63 := by
      have := BitVec.msb_eq_decide c
      rw [hm] at this
      simpa using this.symm
    have h2 := congrArg BitVec.toNat h
    rw [BitVec.toNat_shiftLeft, Nat.shiftLeft_eq] at h2
    apply BitVec.eq_of_toNat_eq
    simp at h2 ⊢
    omega
  · rw [hm] at h
    simp only [if_true] at h
    have h2 := congrArg (fun x => BitVec.getLsbD x 0) h
    simp [poly] at h2

theorem stN_inj0 (k : Nat) (c : BitVec 64) (h : stN k c = 0#64) : c = 0#64 := by
  induction k with
  | zero => exact h
  | succ k ih => exact ih (st_inj0 _ h)

theorem st_low (c : BitVec 64) (h : c.toNat < 2 ^ 63) : st c = BitVec.ofNat 64 (c.toNat * 2) := by
  unfold st
  have hm : c.msb = false := by
    rw [BitVec.msb_eq_decide]
    simp; omega
  rw [hm]
  simp only [Bool.false_eq_true, if_false, BitVec.xor_zero]
  apply BitVec.eq_of_toNat_eq
  rw [BitVec.toNat_shiftLeft, Nat.shiftLeft_eq, BitVec.toNat_ofNat]

theorem stN_low (k : Nat) (n : Nat) (h : n * 2 ^ k < 2 ^ 64) : stN k (BitVec.ofNat 64 n) = BitVec.ofNat 64 (n * 2 ^ k) := by
  induction k with
  | zero => simp [stN]
  | succ k ih =>
    have hk : n * 2 ^ (k + 1) = n * 2 ^ k * 2 := by rw [Nat.pow_succ, Nat.mul_assoc]
    rw [hk] at h
    have hlt : n * 2 ^ k < 2 ^ 63 := by omega
    have e : (BitVec.ofNat 64 (n * 2 ^ k)).toNat = n * 2 ^ k := by rw [BitVec.toNat_ofNat]; exact Nat.mod_eq_of_lt (by omega)
    simp only [stN]
    rw [ih (by omega), st_low _ (by rw [e]; exact hlt), e, hk]

/-- The table. -/
def tab (i : Nat) : BitVec 64 := stN 8 (BitVec.ofNat 64 (i * 2 ^ 56))
/-- The state behind a byte. -/
def next (s : BitVec 64) (b : Nat) : BitVec 64 := (s <<< 8) ^^^ tab ((s.toNat / 2 ^ 56) ^^^ b)

theorem xor_mul_pow (a b k : Nat) : (a ^^^ b) * 2 ^ k = (a * 2 ^ k) ^^^ (b * 2 ^ k) := by
  simp only [← Nat.shiftLeft_eq]
  exact Nat.shiftLeft_xor_distrib

theorem two_xor (q d : Nat) (h : d ≤ 1) : q * 2 ^^^ d = q * 2 + d := by
  have h2 : d = 0 ∨ d = 1 := by omega
  rcases h2 with h2 | h2 <;> subst h2
  · simp
  · apply Nat.eq_of_testBit_eq
    intro i
    cases i with
    | zero => simp [Nat.testBit_zero]
    | succ i =>
      have a : (q * 2 + 1) / 2 = q := by omega
      simp [Nat.testBit_succ, Nat.xor_div_two, a]

theorem mul_pow63 (d k : Nat) (hk : k ≤ 63) : d * 2 ^ (63 - k) * 2 ^ k = d * 2 ^ 63 := by
  have e : 63 - k + k = 63 := by omega
  rw [Nat.mul_assoc, ← Nat.pow_add, e]

theorem mul63_lt (d : Nat) (h : d ≤ 1) : d * 2 ^ 63 < 2 ^ 64 := by
  have : d * 2 ^ 63 ≤ 1 * 2 ^ 63 := Nat.mul_le_mul_right _ h
  omega

theorem ofNat_xor (a b : Nat) : BitVec.ofNat 64 (a ^^^ b) = BitVec.ofNat 64 a ^^^ BitVec.ofNat 64 b := by
  apply BitVec.eq_of_toNat_eq
  rw [BitVec.toNat_xor, BitVec.toNat_ofNat, BitVec.toNat_ofNat, BitVec.toNat_ofNat, Nat.xor_mod_two_pow]

theorem split56 (s : BitVec 64) : s = BitVec.ofNat 64 (s.toNat % 2 ^ 56) ^^^ BitVec.ofNat 64 (s.toNat / 2 ^ 56 * 2 ^ 56) := by
  rw [← ofNat_xor]
  apply BitVec.eq_of_toNat_eq
  rw [BitVec.toNat_ofNat]
  have h1 : s.toNat % 2 ^ 56 ^^^ s.toNat / 2 ^ 56 * 2 ^ 56 = s.toNat := by
    apply Nat.eq_of_testBit_eq
    intro i
    rw [Nat.testBit_xor, Nat.testBit_mod_two_pow, ← Nat.shiftLeft_eq, Nat.testBit_shiftLeft, Nat.testBit_div_two_pow]
    by_cases hi : i < 56
    · have : ¬ 56 ≤ i := by omega
      simp [hi, this]
    · have h56 : 56 ≤ i := by omega
      have e : i - 56 + 56 = i := by omega
      simp [hi, h56, e]
  rw [h1]
  exact (Nat.mod_eq_of_lt s.isLt).symm

theorem next_eq (s : BitVec 64) (b : Nat) : next s b = stN 8 (s ^^^ BitVec.ofNat 64 (b * 2 ^ 56)) := by
  unfold next tab
  rw [stN_xor]
  have h8 : stN 8 s = (s <<< 8) ^^^ stN 8 (BitVec.ofNat 64 (s.toNat / 2 ^ 56 * 2 ^ 56)) := by
    have e := congrArg (stN 8) (split56 s)
    rw [stN_xor] at e
    rw [e, stN_low 8 (s.toNat % 2 ^ 56) (by omega)]
    congr 1
    apply BitVec.eq_of_toNat_eq
    rw [BitVec.toNat_ofNat, BitVec.toNat_shiftLeft, Nat.shiftLeft_eq]
    omega
  rw [h8, xor_mul_pow, ofNat_xor, stN_xor, BitVec.xor_assoc]

/-- The state behind some bytes. -/
def run (s : BitVec 64) (l : List Nat) : BitVec 64 := l.foldl next s

theorem run_append (s : BitVec 64) (a b : List Nat) : run s (a ++ b) = run (run s a) b := List.foldl_append ..
theorem run_cons (s : BitVec 64) (a : Nat) (b : List Nat) : run s (a :: b) = run (next s a) b := rfl
theorem run_nil (s : BitVec 64) : run s [] = s := rfl

theorem next_xor (s t : BitVec 64) (a b : Nat) : next (s ^^^ t) (a ^^^ b) = next s a ^^^ next t b := by
  simp only [next_eq, xor_mul_pow, ofNat_xor]
  rw [← stN_xor]
  congr 1
  ac_rfl

/-- It is linear. -/
theorem run_xor (a b : List Nat) (h : a.length = b.length) (s t : BitVec 64) : run (s ^^^ t) (List.zipWith (· ^^^ ·) a b) = run s a ^^^ run t b := by
  induction a generalizing b s t with
  | nil => cases b with
    | nil => rfl
    | cons => simp at h
  | cons x a ih =>
    cases b with
    | nil => simp at h
    | cons y b =>
      simp only [List.zipWith_cons_cons, run_cons]
      rw [next_xor]
      exact ih b (by simpa using h) _ _

theorem next_zero : next 0#64 0 = 0#64 := by rw [next_eq]; simp [stN_zero]

theorem run_zeros (n : Nat) : run 0#64 (List.replicate n 0) = 0#64 := by
  induction n with
  | zero => rfl
  | succ n ih => rw [List.replicate_succ, run_cons, next_zero, ih]

theorem next_inj (s t : BitVec 64) (b : Nat) (h : next s b = next t b) : s = t := by
  have e := next_xor s t b b
  rw [h, BitVec.xor_self, Nat.xor_self, next_eq] at e
  simp only [Nat.zero_mul, BitVec.xor_zero] at e
  have z := stN_inj0 _ _ e
  have : s ^^^ t ^^^ t = 0#64 ^^^ t := by rw [z]
  rw [BitVec.xor_assoc, BitVec.xor_self, BitVec.xor_zero, BitVec.zero_xor] at this
  exact this

theorem run_inj (l : List Nat) (s t : BitVec 64) (h : run s l = run t l) : s = t := by
  induction l generalizing s t with
  | nil => exact h
  | cons x l ih => exact next_inj s t x (ih _ _ h)

/-! ### Bit by bit -/
/-- Bit j of a string of bytes, the highest bit of the first byte first. -/
def bit (l : List Nat) (j : Nat) : Nat := l.getD (j / 8) 0 / 2 ^ (7 - j % 8) % 2
/-- The state behind j bits. -/
def bits (l : List Nat) : Nat → BitVec 64
  | 0 => 0#64
  | j + 1 => st (bits l j ^^^ BitVec.ofNat 64 (bit l j * 2 ^ 63))

/-- Some bits of a byte behind each other: with the bits of x from its top on. -/
def part (s : BitVec 64) (x : Nat) : Nat → BitVec 64
  | 0 => s
  | j + 1 => st (part s x j ^^^ BitVec.ofNat 64 (x / 2 ^ (7 - j) % 2 * 2 ^ 63))

theorem part_eq (s : BitVec 64) (x : Nat) (j : Nat) (hj : j ≤ 8) : part s x j = stN j (s ^^^ BitVec.ofNat 64 (x % 256 / 2 ^ (8 - j) * 2 ^ (64 - j))) := by
  induction j with
  | zero =>
    have : x % 256 / 2 ^ (8 - 0) = 0 := by
      apply Nat.div_eq_of_lt; exact Nat.mod_lt _ (by decide)
    simp [part, stN, this]
  | succ j ih =>
    have hj' : j ≤ 7 := by omega
    simp only [part, stN]
    rw [ih (by omega)]
    have e : BitVec.ofNat 64 (x / 2 ^ (7 - j) % 2 * 2 ^ 63) = stN j (BitVec.ofNat 64 (x / 2 ^ (7 - j) % 2 * 2 ^ (63 - j))) := by
      have h1 : x / 2 ^ (7 - j) % 2 ≤ 1 := by have := Nat.mod_lt (x / 2 ^ (7 - j)) (y := 2) (by decide); omega
      rw [stN_low _ _ (by rw [mul_pow63 _ _ (by omega)]; exact mul63_lt _ h1), mul_pow63 _ _ (by omega)]
    rw [e, ← stN_xor, BitVec.xor_assoc, ← ofNat_xor]
    congr 3
    have hx : x / 2 ^ (7 - j) % 2 = x % 256 / 2 ^ (7 - j) % 2 := by
      have h := Nat.testBit_mod_two_pow x 8 (7 - j)
      simp only [Nat.testBit_eq_decide_div_mod_eq] at h
      have : decide (7 - j < 8) = true := by simp; omega
      rw [this, Bool.true_and] at h
      have h3 := decide_eq_decide.1 h
      have e8 : (2 ^ 8 : Nat) = 256 := by decide
      rw [e8] at h3
      clear h e
      generalize x / 2 ^ (7 - j) = u at h3 ⊢
      generalize x % 256 / 2 ^ (7 - j) = v at h3 ⊢
      omega
    rw [hx]
    generalize x % 256 = y
    have h8 : 8 - j = (7 - j) + 1 := by omega
    have h64 : 64 - j = (63 - j) + 1 := by omega
    have e63 : 8 - (j + 1) = 7 - j := by omega
    have e64 : 64 - (j + 1) = 63 - j := by omega
    rw [e63, e64, h8, h64, Nat.pow_succ, ← Nat.div_div_eq_div_mul, Nat.pow_succ, Nat.mul_comm (2 ^ (63 - j)) 2, ← Nat.mul_assoc, ← xor_mul_pow]
    generalize y / 2 ^ (7 - j) = z
    rw [two_xor _ _ (by omega)]
    have ez : z / 2 * 2 + z % 2 = z := by omega
    rw [ez]

theorem part_next (s : BitVec 64) (x : Nat) (hx : x < 256) : part s x 8 = next s x := by
  rw [part_eq s x 8 (by omega), next_eq, Nat.mod_eq_of_lt hx]
  simp

theorem bits_part (l : List Nat) (k j : Nat) (hj : j ≤ 8) : bits l (8 * k + j) = part (bits l (8 * k)) (l.getD k 0) j := by
  induction j with
  | zero => rfl
  | succ j ih =>
    show bits l (8 * k + j + 1) = _
    simp only [bits, part]
    rw [ih (by omega)]
    unfold bit
    have e1 : (8 * k + j) / 8 = k := by omega
    have e2 : (8 * k + j) % 8 = j := by omega
    rw [e1, e2]

theorem bits_run (l : List Nat) (hl : ∀ x ∈ l, x < 256) (k : Nat) (hk : k ≤ l.length) : bits l (8 * k) = run 0#64 (l.take k) := by
  induction k with
  | zero => rfl
  | succ k ih =>
    have hlt : k < l.length := by omega
    have e := bits_part l k 8 (by omega)
    have e' : 8 * k + 8 = 8 * (k + 1) := by omega
    rw [e'] at e
    have hg : l.getD k 0 = l[k] := by simp [List.getD, hlt]
    rw [e, ih (by omega), hg, part_next _ _ (hl _ (List.getElem_mem hlt)), List.take_succ_eq_append_getElem hlt, run_append]
    rfl

/-- The change of the bits from 'at' on, the first one highest, as far as k. -/
def word (δ : Nat → Nat) : Nat → Nat
  | 0 => 0
  | k + 1 => word δ k + δ k * 2 ^ (63 - k)

theorem word_dvd (δ : Nat → Nat) (k : Nat) (hk : k ≤ 64) : ∃ q, word δ k = q * 2 ^ (64 - k) := by
  induction k with
  | zero => exact ⟨0, by simp [word]⟩
  | succ k ih =>
    obtain ⟨q, hq⟩ := ih (by omega)
    refine ⟨q * 2 + δ k, ?_⟩
    have e1 : 64 - k = (63 - k) + 1 := by omega
    have e2 : 64 - (k + 1) = 63 - k := by omega
    simp only [word]
    rw [hq, e1, e2, Nat.pow_succ, Nat.add_mul]
    congr 1
    rw [Nat.mul_comm (2 ^ (63 - k)) 2, Nat.mul_assoc]

theorem word_xor (δ : Nat → Nat) (hδ : ∀ i, δ i ≤ 1) (k : Nat) (hk : k < 64) : word δ (k + 1) = word δ k ^^^ (δ k * 2 ^ (63 - k)) := by
  obtain ⟨q, hq⟩ := word_dvd δ k (by omega)
  have e1 : 64 - k = (63 - k) + 1 := by omega
  simp only [word]
  rw [hq, e1, Nat.pow_succ, Nat.mul_comm (2 ^ (63 - k)) 2, ← Nat.mul_assoc, ← Nat.add_mul, ← xor_mul_pow]
  rw [two_xor _ _ (hδ k)]

theorem word_lt (δ : Nat → Nat) (hδ : ∀ i, δ i ≤ 1) (k : Nat) (hk : k ≤ 64) : word δ k + 2 ^ (64 - k) ≤ 2 ^ 64 := by
  induction k with
  | zero => simp [word]
  | succ k ih =>
    have e1 : 64 - k = (63 - k) + 1 := by omega
    have e2 : 64 - (k + 1) = 63 - k := by omega
    have := ih (by omega)
    rw [e1, Nat.pow_succ] at this
    simp only [word]
    rw [e2]
    have h1 := hδ k
    have h2 : δ k * 2 ^ (63 - k) ≤ 1 * 2 ^ (63 - k) := Nat.mul_le_mul_right _ h1
    omega

theorem word_zero (δ : Nat → Nat) (k : Nat) (hk : k ≤ 64) : word δ k = 0 ↔ ∀ i, i < k → δ i = 0 := by
  induction k with
  | zero => simp [word]
  | succ k ih =>
    simp only [word]
    have hp : 0 < 2 ^ (63 - k) := Nat.two_pow_pos _
    constructor
    · intro h i hi
      have h0 : word δ k = 0 := by omega
      have h1 : δ k * 2 ^ (63 - k) = 0 := by omega
      rcases Nat.lt_or_ge i k with hlt | hge
      · exact (ih (by omega)).1 h0 i hlt
      · have : i = k := by omega
        subst this
        rcases Nat.mul_eq_zero.1 h1 with h | h
        · exact h
        · omega
    · intro h
      have h0 := (ih (by omega)).2 (fun i hi => h i (by omega))
      have h1 := h k (by omega)
      rw [h0, h1]; simp

theorem bits_same (a b : List Nat) (n : Nat) (h : ∀ j, j < n → bit a j = bit b j) : bits a n = bits b n := by
  induction n with
  | zero => rfl
  | succ n ih => simp only [bits]; rw [ih (fun j hj => h j (by omega)), h n (by omega)]

theorem xor_move {a b c : BitVec 64} (h : a ^^^ b = c) : a = b ^^^ c := by
  rw [← h, BitVec.xor_comm a b, ← BitVec.xor_assoc, BitVec.xor_self, BitVec.zero_xor]

theorem xor_shuffle (A B X Y : BitVec 64) : A ^^^ (X ^^^ Y) ^^^ (B ^^^ X) = (A ^^^ B) ^^^ Y := by
  have h : X ^^^ X = 0#64 := BitVec.xor_self
  have e2 : A ^^^ (X ^^^ Y) ^^^ (B ^^^ X) = (A ^^^ B) ^^^ Y ^^^ (X ^^^ X) := by ac_rfl
  rw [e2, h, BitVec.xor_zero]
theorem xor_shuffle2 (A B X : BitVec 64) : A ^^^ X ^^^ (B ^^^ X) = A ^^^ B := by
  have h : X ^^^ X = 0#64 := BitVec.xor_self
  have e2 : A ^^^ X ^^^ (B ^^^ X) = (A ^^^ B) ^^^ (X ^^^ X) := by ac_rfl
  rw [e2, h, BitVec.xor_zero]

/-- Inside the burst. -/
theorem bits_burst (a b : List Nat) (n : Nat) (δ : Nat → Nat) (hδ : ∀ i, δ i ≤ 1) (h : ∀ j, j < n → bit a j = bit b j) (k : Nat) (hk : k ≤ 64)
    (hb : ∀ i, i < k → bit a (n + i) = bit b (n + i) ^^^ δ i) : bits a (n + k) ^^^ bits b (n + k) = stN k (BitVec.ofNat 64 (word δ k)) := by
  induction k with
  | zero => simp [stN, word, bits_same a b n h]
  | succ k ih =>
    have ih' := ih (by omega) (fun i hi => hb i (by omega))
    show bits a (n + k + 1) ^^^ bits b (n + k + 1) = _
    simp only [bits, stN]
    rw [← st_xor]
    congr 1
    rw [hb k (by omega), xor_mul_pow, ofNat_xor, word_xor δ hδ k (by omega), ofNat_xor, stN_xor, ← ih', stN_low k (δ k * 2 ^ (63 - k))]
    · rw [mul_pow63 _ _ (by omega)]
      rw [xor_shuffle]
    · rw [mul_pow63 _ _ (by omega)]
      exact mul63_lt _ (hδ k)

/-- Behind the burst. -/
theorem bits_behind (a b : List Nat) (n k : Nat) (h : ∀ i, i < k → bit a (n + i) = bit b (n + i)) : bits a (n + k) ^^^ bits b (n + k) = stN k (bits a n ^^^ bits b n) := by
  induction k with
  | zero => rfl
  | succ k ih =>
    show bits a (n + k + 1) ^^^ bits b (n + k + 1) = _
    simp only [bits, stN]
    rw [← st_xor, ← ih (fun i hi => h i (by omega)), h k (by omega)]
    congr 1
    rw [xor_shuffle2]

/-- BURSTS: two strings of the same number of bytes whose bits differ only within k ≤ 64 bits from 'n' on have the same sum just if no bit differs. -/
theorem burst (a b : List Nat) (hab : a.length = b.length) (ha : ∀ x ∈ a, x < 256) (hbl : ∀ x ∈ b, x < 256) (n k : Nat) (δ : Nat → Nat) (hδ : ∀ i, δ i ≤ 1) (hk : k ≤ 64) (hn : n + k ≤ 8 * a.length)
    (h1 : ∀ j, j < n → bit a j = bit b j) (h2 : ∀ i, i < k → bit a (n + i) = bit b (n + i) ^^^ δ i) (h3 : ∀ j, n + k ≤ j → j < 8 * a.length → bit a j = bit b j) :
    run 0#64 a = run 0#64 b ↔ ∀ i, i < k → δ i = 0 := by
  have ea := bits_run a ha a.length (Nat.le_refl _)
  have eb := bits_run b hbl b.length (Nat.le_refl _)
  rw [List.take_length] at ea eb
  rw [← hab] at eb
  rw [← ea, ← eb]
  obtain ⟨m, hm⟩ : ∃ m, 8 * a.length = n + k + m := ⟨8 * a.length - (n + k), by omega⟩
  have e1 := bits_burst a b n δ hδ h1 k hk h2
  have e2 := bits_behind a b (n + k) m (fun i hi => h3 _ (by omega) (by omega))
  rw [← hm, e1] at e2
  have hw := word_lt δ hδ k hk
  have hp : 0 < 2 ^ (64 - k) := Nat.two_pow_pos _
  constructor
  · intro h
    rw [h, BitVec.xor_self] at e2
    have z := stN_inj0 _ _ (stN_inj0 _ _ e2.symm)
    have z' := congrArg BitVec.toNat z
    rw [BitVec.toNat_ofNat, Nat.mod_eq_of_lt (by omega)] at z'
    exact (word_zero δ k hk).1 (by simpa using z')
  · intro h
    rw [(word_zero δ k hk).2 h] at e2
    simp only [stN_zero] at e2
    have := xor_move e2
    rw [this, BitVec.xor_zero]

end Go.Proofs.Ytbffdafkgckcgaa.Crc
