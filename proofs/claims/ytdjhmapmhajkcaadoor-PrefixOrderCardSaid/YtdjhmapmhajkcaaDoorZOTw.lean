/- Plain theory of words of 128 bits: a word is a number below 2^128, told by its two halves. No program in sight. -/
import Derived.Test.YtdjhmapmhajkcaaDoorZOSm
import Derived.Laws.BitsAllLaws
namespace Go.Proofs.YtdjhmapmhajkcaaDoor.Th
open Go.RowKit Go.Proofs.YtdjhmapmhajkcaaDoorW.PrintWords Go.Proofs.YtdjhmapmhajkcaaDoor.Sm
def hi (v : Nat) : Int := ((v / 2 ^ 64 : Nat) : Int)
def lo (v : Nat) : Int := ((v % 2 ^ 64 : Nat) : Int)
theorem lo_lt (v : Nat) : v % 2 ^ 64 < 2 ^ 64 := Nat.mod_lt _ (by decide)
theorem hi_lt {v : Nat} (h : v < 2 ^ 128) : v / 2 ^ 64 < 2 ^ 64 := by
  rw [Nat.div_lt_iff_lt_mul (by decide)]; exact h
theorem word_eq {u v : Nat} (h1 : hi u = hi v) (h2 : lo u = lo v) : u = v := by
  unfold hi at h1; unfold lo at h2
  have h1' : u / 2 ^ 64 = v / 2 ^ 64 := Int.ofNat.inj h1
  have h2' : u % 2 ^ 64 = v % 2 ^ 64 := Int.ofNat.inj h2
  rw [← Nat.div_add_mod u (2 ^ 64), ← Nat.div_add_mod v (2 ^ 64), h1', h2']
def wd (a b : Int) : Nat := a.toNat * 2 ^ 64 + b.toNat
theorem wd_lt {a b : Int} (h1 : a < 18446744073709551616) (h2 : b < 18446744073709551616) : wd a b < 2 ^ 128 := by
  unfold wd
  have : a.toNat < 2 ^ 64 := by have : (2 : Nat) ^ 64 = 18446744073709551616 := by decide
                                omega
  have : b.toNat < 2 ^ 64 := by have : (2 : Nat) ^ 64 = 18446744073709551616 := by decide
                                omega
  have e : (2 : Nat) ^ 128 = 2 ^ 64 * 2 ^ 64 := by decide
  have : a.toNat * 2 ^ 64 + 2 ^ 64 ≤ 2 ^ 64 * 2 ^ 64 := by rw [← Nat.succ_mul]; exact Nat.mul_le_mul_right _ (by omega)
  omega
theorem hi_wd {a b : Int} (h0 : 0 ≤ a) (h1 : 0 ≤ b) (h2 : b < 18446744073709551616) : hi (wd a b) = a := by
  unfold hi wd
  have hb : b.toNat < 2 ^ 64 := by have : (2 : Nat) ^ 64 = 18446744073709551616 := by decide
                                   omega
  rw [Nat.mul_comm, Nat.mul_add_div (by decide), Nat.div_eq_of_lt hb]; omega
theorem lo_wd {a b : Int} (h1 : 0 ≤ b) (h2 : b < 18446744073709551616) : lo (wd a b) = b := by
  unfold lo wd
  have hb : b.toNat < 2 ^ 64 := by have : (2 : Nat) ^ 64 = 18446744073709551616 := by decide
                                   omega
  rw [Nat.mul_add_mod_self_right, Nat.mod_eq_of_lt hb]; omega
theorem p64 : (2 : Nat) ^ 64 = 18446744073709551616 := by decide
theorem bits_or_n (a b : Nat) (ha : a < 2 ^ 64) (hb : b < 2 ^ 64) : Go.bits .or .u64 (a : Int) (b : Int) = ((a ||| b : Nat) : Int) := u64_or_nat a b (p64 ▸ ha) (p64 ▸ hb)
theorem bits_and_n (a b : Nat) (ha : a < 2 ^ 64) (hb : b < 2 ^ 64) : Go.bits .and .u64 (a : Int) (b : Int) = ((a &&& b : Nat) : Int) := u64_and_nat a b (p64 ▸ ha) (p64 ▸ hb)
theorem bits_xor_n (a b : Nat) (ha : a < 2 ^ 64) (hb : b < 2 ^ 64) : Go.bits .xor .u64 (a : Int) (b : Int) = ((a ^^^ b : Nat) : Int) := u64_xor_nat a b (p64 ▸ ha) (p64 ▸ hb)
theorem or_hi (u v : Nat) (hu : u < 2 ^ 128) (hv : v < 2 ^ 128) : Go.bits .or .u64 (hi u) (hi v) = hi (u ||| v) := by
  unfold hi; rw [bits_or_n _ _ (hi_lt hu) (hi_lt hv), Nat.or_div_two_pow]
theorem or_lo (u v : Nat) : Go.bits .or .u64 (lo u) (lo v) = lo (u ||| v) := by
  unfold lo; rw [bits_or_n _ _ (lo_lt u) (lo_lt v), Nat.or_mod_two_pow]
theorem and_hi (u v : Nat) (hu : u < 2 ^ 128) (hv : v < 2 ^ 128) : Go.bits .and .u64 (hi u) (hi v) = hi (u &&& v) := by
  unfold hi; rw [bits_and_n _ _ (hi_lt hu) (hi_lt hv), Nat.and_div_two_pow]
theorem and_lo (u v : Nat) : Go.bits .and .u64 (lo u) (lo v) = lo (u &&& v) := by
  unfold lo; rw [bits_and_n _ _ (lo_lt u) (lo_lt v), Nat.and_mod_two_pow]
theorem xor_hi (u v : Nat) (hu : u < 2 ^ 128) (hv : v < 2 ^ 128) : Go.bits .xor .u64 (hi u) (hi v) = hi (u ^^^ v) := by
  unfold hi; rw [bits_xor_n _ _ (hi_lt hu) (hi_lt hv), Nat.xor_div_two_pow]
theorem xor_lo (u v : Nat) : Go.bits .xor .u64 (lo u) (lo v) = lo (u ^^^ v) := by
  unfold lo; rw [bits_xor_n _ _ (lo_lt u) (lo_lt v), Nat.xor_mod_two_pow]
def nt (v : Nat) : Nat := 2 ^ 128 - 1 - v
theorem nt_lt (v : Nat) : nt v < 2 ^ 128 := by unfold nt; have : 0 < (2 : Nat) ^ 128 := by decide
                                               omega
theorem nt_xor {v : Nat} (h : v < 2 ^ 128) : (2 ^ 128 - 1) ^^^ v = nt v := by
  apply Nat.eq_of_testBit_eq
  intro i
  unfold nt
  rw [Nat.testBit_xor, Nat.testBit_two_pow_sub_one, show 2 ^ 128 - 1 - v = 2 ^ 128 - (v + 1) by omega, Nat.testBit_two_pow_sub_succ h]
  by_cases hi : i < 128
  · simp [hi]
  · simp only [decide_eq_false hi, Bool.false_and, Bool.false_xor]
    exact Nat.testBit_lt_two_pow (Nat.lt_of_lt_of_le h (Nat.pow_le_pow_right (by decide) (by omega)))
theorem not_hi (v : Nat) (h : v < 2 ^ 128) : Go.bits .xor .u64 18446744073709551615 (hi v) = hi (nt v) := by
  have e : (18446744073709551615 : Int) = hi (2 ^ 128 - 1) := by decide
  rw [e, xor_hi _ _ (by decide) h, nt_xor h]
theorem not_lo (v : Nat) (h : v < 2 ^ 128) : Go.bits .xor .u64 18446744073709551615 (lo v) = lo (nt v) := by
  have e : (18446744073709551615 : Int) = lo (2 ^ 128 - 1) := by decide
  rw [e, xor_lo, nt_xor h]
theorem u64wrap (n : Nat) : IntKind.u64.wrap (n : Int) = ((n % 2 ^ 64 : Nat) : Int) := by
  show ((n : Int)).emod 18446744073709551616 = _
  rw [p64]; rfl
theorem shl_n (a n : Nat) (hn : n ≤ 64) : shl .u64 (a : Int) (n : Int) = ((a * 2 ^ n % 2 ^ 64 : Nat) : Int) := by
  unfold shl
  rw [show min (n : Int).toNat IntKind.u64.bits = n from Nat.min_eq_left hn]
  rw [show (a : Int) * 2 ^ n = ((a * 2 ^ n : Nat) : Int) by simp]
  exact u64wrap _
theorem shr_n (a n : Nat) (hn : n ≤ 64) : shr .u64 (a : Int) (n : Int) = ((a / 2 ^ n : Nat) : Int) := by
  unfold shr
  rw [show min (n : Int).toNat IntKind.u64.bits = n from Nat.min_eq_left hn]
  simp
def sl (v n : Nat) : Nat := v * 2 ^ n % 2 ^ 128
theorem sl_bit (v n i : Nat) : (sl v n).testBit i = (decide (i < 128) && (decide (n ≤ i) && v.testBit (i - n))) := by
  unfold sl
  rw [Nat.testBit_mod_two_pow, ← Nat.shiftLeft_eq, Nat.testBit_shiftLeft]
theorem hib {v : Nat} (i : Nat) : (v / 2 ^ 64).testBit i = v.testBit (64 + i) := by rw [Nat.testBit_div_two_pow, Nat.add_comm]
theorem lob {v : Nat} (i : Nat) : (v % 2 ^ 64).testBit i = (decide (i < 64) && v.testBit i) := Nat.testBit_mod_two_pow ..
theorem big {v i : Nat} (h : v < 2 ^ 128) (hi : 128 ≤ i) : v.testBit i = false := Nat.testBit_lt_two_pow (Nat.lt_of_lt_of_le h (Nat.pow_le_pow_right (by decide) hi))
theorem shl_hi (v n : Nat) (h0 : 0 < n) (hn : n < 64) : Go.bits .or .u64 (shl .u64 (hi v) (n : Int)) (shr .u64 (lo v) ((64 - n : Nat) : Int)) = hi (sl v n) := by
  unfold hi lo
  rw [shl_n _ _ (by omega), shr_n _ _ (by omega), bits_or_n _ _ (Nat.mod_lt _ (by decide)) (Nat.lt_of_le_of_lt (Nat.div_le_self _ _) (lo_lt v))]
  congr 1
  apply Nat.eq_of_testBit_eq
  intro i
  rw [Nat.testBit_or, ← Nat.shiftLeft_eq, lob, Nat.testBit_shiftLeft, hib, Nat.testBit_div_two_pow, lob, hib, sl_bit]
  by_cases h1 : i < 64
  · by_cases h2 : n ≤ i
    · rw [show 64 + (i - n) = 64 + i - n by omega]
      simp [h1, h2, show 64 + i < 128 by omega, show n ≤ 64 + i by omega, show ¬ i + (64 - n) < 64 by omega]
    · rw [show i + (64 - n) = 64 + i - n by omega]
      simp [h1, h2, show 64 + i < 128 by omega, show n ≤ 64 + i by omega, show 64 + i - n < 64 by omega]
  · simp [h1, show ¬ 64 + i < 128 by omega, show ¬ i + (64 - n) < 64 by omega]
theorem shl_lo (v n : Nat) (hn : n < 64) : shl .u64 (lo v) (n : Int) = lo (sl v n) := by
  unfold lo
  rw [shl_n _ _ (by omega)]
  congr 1
  apply Nat.eq_of_testBit_eq
  intro i
  rw [← Nat.shiftLeft_eq, lob, Nat.testBit_shiftLeft, lob, lob, sl_bit]
  by_cases h1 : i < 64
  · simp [h1, show i < 128 by omega, show i - n < 64 by omega]
  · simp [h1]
theorem shl_far (v n : Nat) (h64 : 64 ≤ n) (hn : n < 128) : shl .u64 (lo v) ((n - 64 : Nat) : Int) = hi (sl v n) ∧ lo (sl v n) = 0 := by
  constructor
  · unfold hi lo
    rw [shl_n _ _ (by omega)]
    congr 1
    apply Nat.eq_of_testBit_eq
    intro i
    rw [← Nat.shiftLeft_eq, lob, Nat.testBit_shiftLeft, lob, hib, sl_bit]
    by_cases h1 : i < 64
    · by_cases h2 : n ≤ 64 + i
      · rw [show 64 + i - n = i - (n - 64) by omega]
        simp [h1, h2, show 64 + i < 128 by omega, show n - 64 ≤ i by omega, show i - (n - 64) < 64 by omega]
      · simp [h2, show ¬ n - 64 ≤ i by omega]
    · simp [h1, show ¬ 64 + i < 128 by omega]
  · unfold lo
    have : sl v n % 2 ^ 64 = 0 := by
      apply Nat.eq_of_testBit_eq
      intro i
      rw [lob, sl_bit]
      by_cases h1 : i < 64
      · simp [show ¬ n ≤ i by omega]
      · simp [h1]
    rw [this]; rfl
theorem sl_zero (v : Nat) (h : v < 2 ^ 128) : sl v 0 = v := by unfold sl; rw [Nat.pow_zero, Nat.mul_one, Nat.mod_eq_of_lt h]
def sr (v n : Nat) : Nat := v / 2 ^ n
theorem sr_lt {v : Nat} (n : Nat) (h : v < 2 ^ 128) : sr v n < 2 ^ 128 := Nat.lt_of_le_of_lt (Nat.div_le_self _ _) h
theorem sr_bit (v n i : Nat) : (sr v n).testBit i = v.testBit (i + n) := by unfold sr; rw [Nat.testBit_div_two_pow]
theorem shr_hi (v n : Nat) (hn : n < 64) : shr .u64 (hi v) (n : Int) = hi (sr v n) := by
  unfold hi
  rw [shr_n _ _ (by omega)]
  congr 1
  apply Nat.eq_of_testBit_eq
  intro i
  rw [Nat.testBit_div_two_pow, hib, hib, sr_bit, Nat.add_assoc]
theorem shr_lo (v n : Nat) (h0 : 0 < n) (hn : n < 64) : Go.bits .or .u64 (shr .u64 (lo v) (n : Int)) (shl .u64 (hi v) ((64 - n : Nat) : Int)) = lo (sr v n) := by
  unfold hi lo
  rw [shl_n _ _ (by omega), shr_n _ _ (by omega), bits_or_n _ _ (Nat.lt_of_le_of_lt (Nat.div_le_self _ _) (lo_lt v)) (Nat.mod_lt _ (by decide))]
  congr 1
  apply Nat.eq_of_testBit_eq
  intro i
  rw [Nat.testBit_or, ← Nat.shiftLeft_eq, lob, Nat.testBit_shiftLeft, hib, Nat.testBit_div_two_pow, lob, lob, sr_bit]
  by_cases h1 : i < 64
  · by_cases h2 : 64 - n ≤ i
    · rw [show 64 + (i - (64 - n)) = i + n by omega]
      simp [h1, h2, show ¬ i + n < 64 by omega]
    · simp [h1, h2, show i + n < 64 by omega]
  · simp [h1, show ¬ i + n < 64 by omega]
theorem shr_far (v n : Nat) (h64 : 64 ≤ n) (hn : n < 128) (hv : v < 2 ^ 128) : shr .u64 (hi v) ((n - 64 : Nat) : Int) = lo (sr v n) ∧ hi (sr v n) = 0 := by
  constructor
  · unfold hi lo
    rw [shr_n _ _ (by omega)]
    congr 1
    apply Nat.eq_of_testBit_eq
    intro i
    rw [Nat.testBit_div_two_pow, hib, lob, sr_bit, show 64 + (i + (n - 64)) = i + n by omega]
    by_cases h1 : i < 64
    · simp [h1]
    · simp [h1, big hv (show 128 ≤ i + n by omega)]
  · unfold hi
    have : sr v n / 2 ^ 64 = 0 := by
      apply Nat.eq_of_testBit_eq
      intro i
      rw [hib, sr_bit, big hv (by omega)]
      simp
    rw [this]; rfl
theorem sr_zero (v : Nat) : sr v 0 = v := by unfold sr; simp
theorem sr_all (v n : Nat) (hn : 128 ≤ n) (hv : v < 2 ^ 128) : sr v n = 0 :=
  Nat.div_eq_of_lt (Nat.lt_of_lt_of_le hv (Nat.pow_le_pow_right (by decide) hn))
end Go.Proofs.YtdjhmapmhajkcaaDoor.Th
