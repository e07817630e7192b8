/- The plain mathematics of little-endian numbers: no program in sight. -/
namespace Go.Proofs.Ytgdchcaglkeghaa.Le

/-- The number of some bytes, the lowest first. -/
def val : List UInt8 → Nat
  | [] => 0
  | b :: l => b.toNat + 256 * val l
/-- Byte i of a number. -/
def byt (n i : Nat) : UInt8 := UInt8.ofNat (n / 256 ^ i)
/-- The w lowest bytes of a number. -/
def bs : Nat → Nat → List UInt8
  | _, 0 => []
  | n, w + 1 => UInt8.ofNat n :: bs (n / 256) w

theorem bs_length (n w : Nat) : (bs n w).length = w := by
  induction w generalizing n with
  | zero => rfl
  | succ w ih => simp [bs, ih]

theorem bs_get (n w i : Nat) (h : i < w) : (bs n w)[i]? = some (byt n i) := by
  induction w generalizing n i with
  | zero => omega
  | succ w ih =>
    cases i with
    | zero => simp [bs, byt]
    | succ i =>
      simp only [bs, List.getElem?_cons_succ]
      rw [ih _ _ (by omega)]
      simp only [byt, Nat.div_div_eq_div_mul, Nat.pow_succ, Nat.mul_comm]

theorem val_append (a b : List UInt8) : val (a ++ b) = val a + 256 ^ a.length * val b := by
  induction a with
  | nil => simp [val]
  | cons x a ih =>
    simp only [List.cons_append, val, ih, List.length_cons, Nat.pow_succ]
    rw [Nat.mul_add, Nat.mul_comm (256 ^ a.length) 256, Nat.mul_assoc]
    omega

theorem val_lt (l : List UInt8) : val l < 256 ^ l.length := by
  induction l with
  | nil => simp [val]
  | cons x l ih =>
    simp only [val, List.length_cons, Nat.pow_succ]
    have := x.toNat_lt
    omega

theorem val_snoc (l : List UInt8) (c : UInt8) : val (l ++ [c]) = val l + c.toNat * 256 ^ l.length := by
  rw [val_append]
  simp [val, Nat.mul_comm]

theorem val_bs (n w : Nat) (h : n < 256 ^ w) : val (bs n w) = n := by
  induction w generalizing n with
  | zero => simp at h; simp [bs, val, h]
  | succ w ih =>
    rw [Nat.pow_succ] at h
    simp only [bs, val]
    rw [ih (n / 256) (by omega), UInt8.toNat_ofNat']
    omega

theorem bs_val (l : List UInt8) : bs (val l) l.length = l := by
  induction l with
  | nil => rfl
  | cons x l ih =>
    simp only [val, List.length_cons, bs]
    have hx := x.toNat_lt
    have e1 : (x.toNat + 256 * val l) / 256 = val l := by omega
    rw [e1, ih]
    congr 1
    apply UInt8.toNat_inj.1
    rw [UInt8.toNat_ofNat']
    omega

theorem val_inj (a b : List UInt8) (hl : a.length = b.length) (h : val a = val b) : a = b := by
  rw [← bs_val a, ← bs_val b, h, hl]

theorem bs_inj (n m w : Nat) (hn : n < 256 ^ w) (hm : m < 256 ^ w) (h : bs n w = bs m w) : n = m := by
  rw [← val_bs n w hn, ← val_bs m w hm, h]

theorem or_shift (a c k : Nat) (h : a < 2 ^ k) : a ||| c * 2 ^ k = a + c * 2 ^ k := by
  have := Nat.two_pow_add_eq_or_of_lt h c
  rw [Nat.mul_comm c, Nat.or_comm, ← this, Nat.add_comm]

theorem pow256 (k : Nat) : 256 ^ k = 2 ^ (8 * k) := by
  rw [Nat.pow_mul]

end Go.Proofs.Ytgdchcaglkeghaa.Le
