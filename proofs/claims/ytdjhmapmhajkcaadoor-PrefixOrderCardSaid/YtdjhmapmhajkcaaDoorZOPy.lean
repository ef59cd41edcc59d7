/- Prefixes: how many first bits are alike; what lies within; kin; what the program and the document tell of them. -/
import Derived.Test.YtdjhmapmhajkcaaDoorZOSo
import Derived.Test.YtdjhmapmhajkcaaDoorZOX10
import Derived.Test.YtdjhmapmhajkcaaDoorZOX11
import Derived.Test.YtdjhmapmhajkcaaDoorZOX12
import Derived.Test.YtdjhmapmhajkcaaDoorZOX0
import Derived.Test.YtdjhmapmhajkcaaDoorZOX3
import Derived.Test.YtdjhmapmhajkcaaDoorZOX4
import Derived.Test.YtdjhmapmhajkcaaDoorZOX6
namespace Go.Proofs.YtdjhmapmhajkcaaDoor.Th
open Go.RowKit Go.Proofs.YtdjhmapmhajkcaaDoor.X Go.Proofs.YtdjhmapmhajkcaaDoorW.PrintWords Go.Proofs.YtdjhmapmhajkcaaDoorW.PrintLast Go.Proofs.YtdjhmapmhajkcaaDoor.Sm
set_option linter.unusedVariables false
set_option linter.unusedSimpArgs false
theorem bitLen_spec : ∀ f x, x < 2 ^ f → x < 2 ^ Lib.bitLenAux f x ∧ Lib.bitLenAux f x ≤ f ∧ (x ≠ 0 → 1 ≤ Lib.bitLenAux f x ∧ 2 ^ (Lib.bitLenAux f x - 1) ≤ x)
  | 0, x, h => by
    obtain rfl : x = 0 := by simpa using h
    exact ⟨by decide, Nat.le_refl _, fun h => absurd rfl h⟩
  | f + 1, x, h => by
    rw [Lib.bitLenAux]
    by_cases h0 : x = 0
    · rw [if_pos h0, h0]; exact ⟨by decide, by omega, fun h => absurd rfl h⟩
    · rw [if_neg h0]
      obtain ⟨i1, i2, i3⟩ := bitLen_spec f (x / 2) (by rw [Nat.pow_succ] at h; omega)
      refine ⟨by rw [Nat.add_comm, Nat.pow_succ]; omega, by omega, fun _ => ⟨by omega, ?_⟩⟩
      rw [Nat.add_sub_cancel_left]
      by_cases h2 : x / 2 = 0
      · have e : Lib.bitLenAux f (x / 2) = 0 := by rw [h2]; cases f <;> simp [Lib.bitLenAux]
        rw [e]; omega
      · obtain ⟨j1, j2⟩ := i3 h2
        have e : 2 ^ Lib.bitLenAux f (x / 2) = 2 ^ (Lib.bitLenAux f (x / 2) - 1) * 2 := by rw [← Nat.pow_succ]; congr 1; omega
        rw [e]; omega
def ld (x : Nat) : Nat := if x / 2 ^ 64 = 0 then 128 - Lib.bitLen (x % 2 ^ 64) else 64 - Lib.bitLen (x / 2 ^ 64)
theorem ld_spec {x : Nat} (hx : x < 2 ^ 128) : ld x ≤ 128 ∧ x < 2 ^ (128 - ld x) ∧ (ld x < 128 → 2 ^ (127 - ld x) ≤ x) := by
  unfold ld Lib.bitLen
  have hh := hi_lt hx
  by_cases h : x / 2 ^ 64 = 0
  · rw [if_pos h]
    obtain ⟨i1, i2, i3⟩ := bitLen_spec 64 (x % 2 ^ 64) (lo_lt x)
    have e : x % 2 ^ 64 = x := Nat.mod_eq_of_lt (by rcases Nat.lt_or_ge x (2 ^ 64) with h' | h'; · exact h'
                                                    · exact absurd h (Nat.ne_of_gt (Nat.div_pos h' (by decide))))
    rw [e] at i1 i2 i3 ⊢
    refine ⟨by omega, by rw [show 128 - (128 - Lib.bitLenAux 64 x) = Lib.bitLenAux 64 x by omega]; exact i1, fun hl => ?_⟩
    have hne : x ≠ 0 := by
      intro h0
      rw [h0] at hl
      exact absurd hl (by decide)
    obtain ⟨j1, j2⟩ := i3 hne
    rw [show 127 - (128 - Lib.bitLenAux 64 x) = Lib.bitLenAux 64 x - 1 by omega]; exact j2
  · rw [if_neg h]
    obtain ⟨i1, i2, i3⟩ := bitLen_spec 64 (x / 2 ^ 64) hh
    obtain ⟨j1, j2⟩ := i3 h
    generalize Lib.bitLenAux 64 (x / 2 ^ 64) = L at i1 i2 j1 j2
    refine ⟨by omega, ?_, fun _ => ?_⟩
    · rw [show 128 - (64 - L) = L + 64 by omega, Nat.pow_add]
      exact Nat.lt_mul_of_div_lt i1 (by decide)
    · rw [show 127 - (64 - L) = (L - 1) + 64 by omega, Nat.pow_add]
      exact (Nat.le_div_iff_mul_le (by decide)).1 j2
theorem plead (x : Nat) (hx : x < 2 ^ 128) : word_Lead.f (hi x) (lo x) = some ((ld x : Nat) : Int) := by
  have hh := hi_lt hx
  have hl := lo_lt x
  obtain ⟨i1, i2, i3⟩ := bitLen_spec 64 (x / 2 ^ 64) hh
  obtain ⟨k1, k2, k3⟩ := bitLen_spec 64 (x % 2 ^ 64) hl
  rw [p64] at hh hl
  unfold word_Lead.f ld bits_LeadingZeros64.f
  have e1 : (hi x).toNat = x / 2 ^ 64 := by unfold hi; rw [Int.toNat_natCast]
  have e2 : (lo x).toNat = x % 2 ^ 64 := by unfold lo; rw [Int.toNat_natCast]
  have b1 : 0 ≤ hi x ∧ hi x ≤ 18446744073709551615 := by unfold hi; rw [p64]; omega
  have b2 : 0 ≤ lo x ∧ lo x ≤ 18446744073709551615 := by unfold lo; rw [p64]; omega
  have ez : hi x = 0 ↔ x / 2 ^ 64 = 0 := by unfold hi; omega
  rw [if_pos b1, if_pos b2, e1, e2]
  unfold Lib.bitLen
  simp only [Option.bind_some]
  by_cases h : x / 2 ^ 64 = 0
  · rw [if_pos (ez.2 h), if_pos h, w64 (by omega) (by omega)]; congr 1; omega
  · rw [if_neg (fun e => h (ez.1 e)), if_neg h]; congr 1; omega
def cm (a b : Nat) : Nat := ld (a ^^^ b)
theorem xor_lt128 {a b : Nat} (ha : a < 2 ^ 128) (hb : b < 2 ^ 128) : a ^^^ b < 2 ^ 128 := Nat.xor_lt_two_pow ha hb
theorem pxor (u v : Nat) (hu : u < 2 ^ 128) (hv : v < 2 ^ 128) : word_Xor.f (hi u) (lo u) (hi v) (lo v) = some (hi (u ^^^ v), lo (u ^^^ v)) := by
  unfold word_Xor.f; rw [xor_hi u v hu hv, xor_lo]
theorem pcommon (a b : Nat) (ha : a < 2 ^ 128) (hb : b < 2 ^ 128) : word_Common.f (hi a) (lo a) (hi b) (lo b) = some ((cm a b : Nat) : Int) := by
  unfold word_Common.f
  simp only [pxor a b ha hb, Option.bind_some, plead _ (xor_lt128 ha hb)]; rfl
theorem bits_div (a b m : Nat) : a / 2 ^ m = b / 2 ^ m ↔ ∀ i, m ≤ i → a.testBit i = b.testBit i := by
  constructor
  · intro h i hi
    have := congrArg (fun x => Nat.testBit x (i - m)) h
    simp only [Nat.testBit_div_two_pow] at this
    rwa [show i - m + m = i by omega] at this
  · intro h
    apply Nat.eq_of_testBit_eq
    intro i
    rw [Nat.testBit_div_two_pow, Nat.testBit_div_two_pow]
    exact h _ (by omega)
theorem cm_alike (a b : Nat) (ha : a < 2 ^ 128) (hb : b < 2 ^ 128) (i : Nat) (hi : i < cm a b) : a.testBit (127 - i) = b.testBit (127 - i) := by
  obtain ⟨h1, h2, _⟩ := ld_spec (xor_lt128 ha hb)
  have hi' : i < ld (a ^^^ b) := hi
  have : (a ^^^ b).testBit (127 - i) = false := Nat.testBit_lt_two_pow (Nat.lt_of_lt_of_le h2 (Nat.pow_le_pow_right (by decide) (by omega)))
  rw [Nat.testBit_xor] at this
  revert this; cases a.testBit (127 - i) <;> cases b.testBit (127 - i) <;> simp
theorem cm_parts (a b : Nat) (ha : a < 2 ^ 128) (hb : b < 2 ^ 128) (h : cm a b < 128) : a.testBit (127 - cm a b) ≠ b.testBit (127 - cm a b) := by
  obtain ⟨h1, h2, h3⟩ := ld_spec (xor_lt128 ha hb)
  have h' : ld (a ^^^ b) < 128 := h
  have h4 := h3 h'
  have : (a ^^^ b).testBit (127 - ld (a ^^^ b)) = true := by
    rw [Nat.testBit_eq_decide_div_mod_eq]
    have e : 128 - ld (a ^^^ b) = (127 - ld (a ^^^ b)) + 1 := by omega
    rw [e, Nat.pow_succ] at h2
    have e1 : (a ^^^ b) / 2 ^ (127 - ld (a ^^^ b)) = 1 := by
      apply Nat.div_eq_of_lt_le <;> omega
    rw [e1]; rfl
  rw [Nat.testBit_xor] at this
  intro e
  have e' : a.testBit (127 - ld (a ^^^ b)) = b.testBit (127 - ld (a ^^^ b)) := e
  rw [e'] at this
  simp at this
theorem cm_ge (a b n : Nat) (ha : a < 2 ^ 128) (hb : b < 2 ^ 128) (hn : n ≤ 128) : n ≤ cm a b ↔ a / 2 ^ (128 - n) = b / 2 ^ (128 - n) := by
  rw [bits_div]
  constructor
  · intro h i hi
    rcases Nat.lt_or_ge i 128 with h1 | h1
    · have := cm_alike a b ha hb (127 - i) (by omega)
      rwa [show 127 - (127 - i) = i by omega] at this
    · rw [big ha h1, big hb h1]
  · intro h
    rcases Nat.lt_or_ge (cm a b) n with h1 | h1
    · exact absurd (h (127 - cm a b) (by omega)) (cm_parts a b ha hb (by omega))
    · exact h1
theorem phas (w a : Nat) (n : Int) (hw : w < 2 ^ 128) (ha : a < 2 ^ 128) : prefix_Has.f (hi w) (lo w) n (hi a) (lo a) = some (decide (((cm w a : Nat) : Int) ≥ n)) := by
  unfold prefix_Has.f; rw [pcommon w a hw ha, Option.bind_some]
def wthn (a : Nat) (n : Int) (b : Nat) (m : Int) : Bool := decide (n ≥ m) && decide (((cm b a : Nat) : Int) ≥ m)
theorem pwithin (a b : Nat) (n m : Int) (ha : a < 2 ^ 128) (hb : b < 2 ^ 128) : prefix_Within.f (hi a) (lo a) n (hi b) (lo b) m = some (wthn a n b m) := by
  unfold prefix_Within.f wthn
  rw [phas b a m hb ha]
  by_cases h : n ≥ m
  · rw [if_pos h, decide_eq_true h]; rfl
  · rw [if_neg h, decide_eq_false h]; rfl
end Go.Proofs.YtdjhmapmhajkcaaDoor.Th
