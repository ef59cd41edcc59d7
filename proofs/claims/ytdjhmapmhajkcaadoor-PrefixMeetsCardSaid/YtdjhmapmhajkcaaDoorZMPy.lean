/- Prefixes: how many first bits are alike; what lies within; kin; what the program and the document tell of them. -/
import Derived.Test.YtdjhmapmhajkcaaDoorZMSo
import Derived.Test.YtdjhmapmhajkcaaDoorZMX10
import Derived.Test.YtdjhmapmhajkcaaDoorZMX11
import Derived.Test.YtdjhmapmhajkcaaDoorX0
import Derived.Test.YtdjhmapmhajkcaaDoorZMX3
import Derived.Test.YtdjhmapmhajkcaaDoorZMX4
import Derived.Test.YtdjhmapmhajkcaaDoorZMX24
import Derived.Test.YtdjhmapmhajkcaaDoorZMX25
import Derived.Test.YtdjhmapmhajkcaaDoorZMX6
namespace Go.Proofs.YtdjhmapmhajkcaaDoor.Th
open Go.RowKit Go.Proofs.YtdjhmapmhajkcaaDoor.X Go.Proofs.YtdjhmapmhajkcaaDoorW.PrintWords Go.Proofs.YtdjhmapmhajkcaaDoorW.PrintLast Go.Proofs.YtdjhmapmhajkcaaDoor.Sm
set_option linter.unusedVariables false
set_option linter.unusedSimpArgs false
theorem bitLen_spec : ∀ f x, x < 2 ^ f → x < 2 ^ Lib.bitLenAux f x ∧ Lib.bitLenAux f x ≤ f ∧ (x ≠ 0 → 1 ≤ Lib.bitLenAux f x ∧ 2 ^ (Lib.bitLenAux f x - 1) ≤ x)
  | 0, x, h => by
    obtain rfl : x = 0 := by simpa using h
    exact ⟨by decide, Nat.le_refl _, fun h => absurd rfl h⟩
  | f + 1, x, h => by
    rw [Lib.bitLenAux]
    by_cases h0 : x = 0
    · rw [if_pos h0, h0]; exact ⟨by decide, by omega, fun h => absurd rfl h⟩
    · rw [if_neg h0]
      obtain ⟨i1, i2, i3⟩ := bitLen_spec f (x / 2) (by rw [Nat.pow_succ] at h; omega)
      refine ⟨by rw [Nat.add_comm, Nat.pow_succ]; omega, by omega, fun _ => ⟨by omega, ?_⟩⟩
      rw [Nat.add_sub_cancel_left]
      by_cases h2 : x / 2 = 0
      · have e : Lib.bitLenAux f (x / 2) = 0 := by rw [h2]; cases f <;> simp [Lib.bitLenAux]
        rw [e]; omega
      · obtain ⟨j1, j2⟩ := i3 h2
        have e : 2 ^ Lib.bitLenAux f (x / 2) = 2 ^ (Lib.bitLenAux f (x / 2) - 1) * 2 := by rw [← Nat.pow_succ]; congr 1; omega
        rw [e]; omega
def ld (x : Nat) : Nat := if x / 2 ^ 64 = 0 then 128 - Lib.bitLen (x % 2 ^ 64) else 64 - Lib.bitLen (x / 2 ^ 64)
theorem ld_spec {x : Nat} (hx : x < 2 ^ 128) : ld x ≤ 128 ∧ x < 2 ^ (128 - ld x) ∧ (ld x < 128 → 2 ^ (127 - ld x) ≤ x) := by
  unfold ld Lib.bitLen
  have hh := hi_lt hx
  by_cases h : x / 2 ^ 64 = 0
  · rw [if_pos h]
    obtain ⟨i1, i2, i3⟩ := bitLen_spec 64 (x % 2 ^ 64) (lo_lt x)
    have e : x % 2 ^ 64 = x := Nat.mod_eq_of_lt (by rcases Nat.lt_or_ge x (2 ^ 64) with h' | h'; · exact h'
                                                    · exact absurd h (Nat.ne_of_gt (Nat.div_pos h' (by decide))))
    rw [e] at i1 i2 i3 ⊢
    refine ⟨by omega, by rw [show 128 - (128 - Lib.bitLenAux 64 x) = Lib.bitLenAux 64 x by omega]; exact i1, fun hl => ?_⟩
    have hne : x ≠ 0 := by
      intro h0
      rw [h0] at hl
      exact absurd hl (by decide)
    obtain ⟨j1, j2⟩ := i3 hne
    rw [show 127 - (128 - Lib.bitLenAux 64 x) = Lib.bitLenAux 64 x - 1 by omega]; exact j2
  · rw [if_neg h]
    obtain ⟨i1, i2, i3⟩ := bitLen_spec 64 (x / 2 ^ 64) hh
    obtain ⟨j1, j2⟩ := i3 h
    generalize Lib.bitLenAux 64 (x / 2 ^ 64) = L at i1 i2 j1 j2
    refine ⟨by omega, ?_, fun _ => ?_⟩
    · rw [show 128 - (64 - L) = L + 64 by omega, Nat.pow_add]
      exact Nat.lt_mul_of_div_lt i1 (by decide)
    · rw [show 127 - (64 - L) = (L - 1) + 64 by omega, Nat.pow_add]
      exact (Nat.le_div_iff_mul_le (by decide)).1 j2
theorem plead (x : Nat) (hx : x < 2 ^ 128) : word_Lead.f (hi x) (lo x) = some ((ld x : Nat) : Int) := by
  have hh := hi_lt hx
  have hl := lo_lt x
  obtain ⟨i1, i2, i3⟩ := bitLen_spec 64 (x / 2 ^ 64) hh
  obtain ⟨k1, k2, k3⟩ := bitLen_spec 64 (x % 2 ^ 64) hl
  rw [p64] at hh hl
  unfold word_Lead.f ld bits_LeadingZeros64.f
  have e1 : (hi x).toNat = x / 2 ^ 64 := by unfold hi; rw [Int.toNat_natCast]
  have e2 : (lo x).toNat = x % 2 ^ 64 := by unfold lo; rw [Int.toNat_natCast]
  have b1 : 0 ≤ hi x ∧ hi x ≤ 18446744073709551615 := by unfold hi; rw [p64]; omega
  have b2 : 0 ≤ lo x ∧ lo x ≤ 18446744073709551615 := by unfold lo; rw [p64]; omega
  have ez : hi x = 0 ↔ x / 2 ^ 64 = 0 := by unfold hi; omega
  rw [if_pos b1, if_pos b2, e1, e2]
  unfold Lib.bitLen
  simp only [Option.bind_some]
  by_cases h : x / 2 ^ 64 = 0
  · rw [if_pos (ez.2 h), if_pos h, w64 (by omega) (by omega)]; congr 1; omega
  · rw [if_neg (fun e => h (ez.1 e)), if_neg h]; congr 1; omega
def cm (a b : Nat) : Nat := ld (a ^^^ b)
theorem xor_lt128 {a b : Nat} (ha : a < 2 ^ 128) (hb : b < 2 ^ 128) : a ^^^ b < 2 ^ 128 := Nat.xor_lt_two_pow ha hb
theorem pxor (u v : Nat) (hu : u < 2 ^ 128) (hv : v < 2 ^ 128) : word_Xor.f (hi u) (lo u) (hi v) (lo v) = some (hi (u ^^^ v), lo (u ^^^ v)) := by
  unfold word_Xor.f; rw [xor_hi u v hu hv, xor_lo]
theorem pcommon (a b : Nat) (ha : a < 2 ^ 128) (hb : b < 2 ^ 128) : word_Common.f (hi a) (lo a) (hi b) (lo b) = some ((cm a b : Nat) : Int) := by
  unfold word_Common.f
  simp only [pxor a b ha hb, Option.bind_some, plead _ (xor_lt128 ha hb)]; rfl
theorem cm_le (a b : Nat) (ha : a < 2 ^ 128) (hb : b < 2 ^ 128) : cm a b ≤ 128 := (ld_spec (xor_lt128 ha hb)).1
theorem cm_alike (a b : Nat) (ha : a < 2 ^ 128) (hb : b < 2 ^ 128) (i : Nat) (hi : i < cm a b) : a.testBit (127 - i) = b.testBit (127 - i) := by
  obtain ⟨h1, h2, _⟩ := ld_spec (xor_lt128 ha hb)
  have hi' : i < ld (a ^^^ b) := hi
  have : (a ^^^ b).testBit (127 - i) = false := Nat.testBit_lt_two_pow (Nat.lt_of_lt_of_le h2 (Nat.pow_le_pow_right (by decide) (by omega)))
  rw [Nat.testBit_xor] at this
  revert this; cases a.testBit (127 - i) <;> cases b.testBit (127 - i) <;> simp
theorem cm_parts (a b : Nat) (ha : a < 2 ^ 128) (hb : b < 2 ^ 128) (h : cm a b < 128) : a.testBit (127 - cm a b) ≠ b.testBit (127 - cm a b) := by
  obtain ⟨h1, h2, h3⟩ := ld_spec (xor_lt128 ha hb)
  have h' : ld (a ^^^ b) < 128 := h
  have h4 := h3 h'
  have : (a ^^^ b).testBit (127 - ld (a ^^^ b)) = true := by
    rw [Nat.testBit_eq_decide_div_mod_eq]
    have e : 128 - ld (a ^^^ b) = (127 - ld (a ^^^ b)) + 1 := by omega
    rw [e, Nat.pow_succ] at h2
    have e1 : (a ^^^ b) / 2 ^ (127 - ld (a ^^^ b)) = 1 := by
      apply Nat.div_eq_of_lt_le <;> omega
    rw [e1]; rfl
  rw [Nat.testBit_xor] at this
  intro e
  have e' : a.testBit (127 - ld (a ^^^ b)) = b.testBit (127 - ld (a ^^^ b)) := e
  rw [e'] at this
  simp at this
theorem rbit_j0 (v i : Nat) (hv : v < 2 ^ 128) (hi127 : i ≤ 127) : Ev (fun k => turnpikeref1_Bit.j0 k (i : Int) false (hi v) (lo v)) (((v.testBit (127 - i)).toNat : Nat) : Int) := by
  refine Ev.step (fun k => turnpikeref1_Bit.j0.eq_2 _ _ _ _ _) ?_
  have one (x : Nat) (hx : x < 2 ^ 64) : Go.bits .and .u64 (x : Int) 1 = ((x % 2 : Nat) : Int) := by
    have := bits_and_n x 1 hx (by decide)
    rw [show ((1 : Nat) : Int) = 1 from rfl] at this
    rw [this, Nat.and_one_is_mod]
  simp only [Bool.false_eq_true, if_false]
  by_cases h : i < 64
  · have e : wrap64 (63 - (i : Int)) = ((63 - i : Nat) : Int) := by rw [w64 (by omega) (by omega)]; omega
    have es : shr .u64 (hi v) ((63 - i : Nat) : Int) = ((v / 2 ^ 64 / 2 ^ (63 - i) : Nat) : Int) := shr_n _ _ (by omega)
    have hb : v / 2 ^ 64 / 2 ^ (63 - i) < 2 ^ 64 := Nat.lt_of_le_of_lt (Nat.div_le_self _ _) (hi_lt hv)
    have et : v / 2 ^ 64 / 2 ^ (63 - i) % 2 = (v.testBit (127 - i)).toNat := by
      rw [Nat.toNat_testBit, Nat.div_div_eq_div_mul, ← Nat.pow_add, show 64 + (63 - i) = 127 - i by omega]
    simp only [if_pos (show (i : Int) < 64 by omega), e, if_pos (show (0 : Int) ≤ ((63 - i : Nat) : Int) by omega), es, one _ hb, et]
    rw [w64 (by cases v.testBit (127 - i) <;> decide) (by cases v.testBit (127 - i) <;> decide)]
    exact Ev.now _
  · have e : wrap64 (127 - (i : Int)) = ((127 - i : Nat) : Int) := by rw [w64 (by omega) (by omega)]; omega
    have es : shr .u64 (lo v) ((127 - i : Nat) : Int) = ((v % 2 ^ 64 / 2 ^ (127 - i) : Nat) : Int) := shr_n _ _ (by omega)
    have hb : v % 2 ^ 64 / 2 ^ (127 - i) < 2 ^ 64 := Nat.lt_of_le_of_lt (Nat.div_le_self _ _) (lo_lt v)
    have et : v % 2 ^ 64 / 2 ^ (127 - i) % 2 = (v.testBit (127 - i)).toNat := by
      rw [← Nat.toNat_testBit, lob, decide_eq_true (show 127 - i < 64 by omega), Bool.true_and]
    simp only [if_neg (show ¬ (i : Int) < 64 by omega), e, if_pos (show (0 : Int) ≤ ((127 - i : Nat) : Int) by omega), es, one _ hb, et]
    rw [w64 (by cases v.testBit (127 - i) <;> decide) (by cases v.testBit (127 - i) <;> decide)]
    exact Ev.now _
theorem rbit (v i : Nat) (hv : v < 2 ^ 128) (hi127 : i ≤ 127) : Ev (fun k => turnpikeref1_Bit.f k (hi v) (lo v) (i : Int)) (((v.testBit (127 - i)).toNat : Nat) : Int) := by
  unfold turnpikeref1_Bit.f
  simp only [if_neg (show ¬ (i : Int) < 0 by omega), show decide ((i : Int) > 127) = false from decide_eq_false (by omega)]
  exact rbit_j0 v i hv hi127
theorem rcommon_l0 (a b : Nat) (ha : a < 2 ^ 128) (hb : b < 2 ^ 128) : ∀ (d i : Nat), i + d = cm a b → Ev (fun k => turnpikeref1_Common.l0 k (i : Int) (hi a) (lo a) (hi b) (lo b)) ((cm a b : Nat) : Int) := by
  have hle := cm_le a b ha hb
  intro d
  induction d with
  | zero =>
    intro i hi
    obtain rfl : i = cm a b := by omega
    refine Ev.step (fun k => turnpikeref1_Common.l0.eq_2 _ _ _ _ _ _) ?_
    by_cases h : cm a b < 128
    · have hne := cm_parts a b ha hb h
      simp only [if_pos (show ((cm a b : Nat) : Int) < 128 by omega)]
      refine Ev.bind (rbit a _ ha (by omega)) (Ev.bind (rbit b _ hb (by omega)) ?_)
      have hn : ¬ (((a.testBit (127 - cm a b)).toNat : Nat) : Int) = ((b.testBit (127 - cm a b)).toNat : Nat) := by
        intro e; apply hne; revert e; cases a.testBit (127 - cm a b) <;> cases b.testBit (127 - cm a b) <;> simp
      simp only [if_neg hn]; exact Ev.now _
    · simp only [if_neg (show ¬ ((cm a b : Nat) : Int) < 128 by omega)]; exact Ev.now _
  | succ d ih =>
    intro i hi
    have hal := cm_alike a b ha hb i (by omega)
    refine Ev.step (fun k => turnpikeref1_Common.l0.eq_2 _ _ _ _ _ _) ?_
    simp only [if_pos (show (i : Int) < 128 by omega)]
    refine Ev.bind (rbit a i ha (by omega)) (Ev.bind (rbit b i hb (by omega)) ?_)
    simp only [hal, if_true, wr1 (show i ≤ 1000000000 by omega)]
    exact ih (i + 1) (by omega)
theorem rcommon (a b : Nat) (ha : a < 2 ^ 128) (hb : b < 2 ^ 128) : Ev (fun k => turnpikeref1_Common.f k (hi a) (lo a) (hi b) (lo b)) ((cm a b : Nat) : Int) := by
  unfold turnpikeref1_Common.f
  exact rcommon_l0 a b ha hb (cm a b) 0 (by omega)
end Go.Proofs.YtdjhmapmhajkcaaDoor.Th
