/- Right prefixes as spans of words. -/
import Derived.Test.YtdjhmapmhajkcaaDoorZLMt
namespace Go.Proofs.YtdjhmapmhajkcaaDoor.Th
open Go.RowKit Go.Proofs.YtdjhmapmhajkcaaDoor.X Go.Proofs.YtdjhmapmhajkcaaDoorW.PrintWords
set_option linter.unusedVariables false
def H (n : Nat) : Nat := 2 ^ (128 - n)
theorem H_pos (n : Nat) : 0 < H n := Nat.two_pow_pos _
theorem H_dvd {m n : Nat} (h : m ≤ n) : H n ∣ H m := Nat.pow_dvd_pow 2 (by omega)
theorem cut_dvd {w n : Nat} (hw : w < 2 ^ 128) (h : w &&& mk n = w) : H n ∣ w := by
  apply Nat.dvd_of_mod_eq_zero
  apply Nat.eq_of_testBit_eq
  intro j
  unfold H
  rw [Nat.testBit_mod_two_pow, Nat.zero_testBit, ← h, Nat.testBit_and, mk_bit]
  by_cases hj : j < 128 - n
  · rw [decide_eq_false (show ¬ 128 ≤ j + n by omega)]; simp
  · simp [hj]
theorem lst_span {f w n : Nat} (hw : w < 2 ^ 128) (hn : n ≤ f) (hf : f ≤ 128) (h : H n ∣ w) : lst f w n + H f = w + H n := by
  have e : mk f &&& nt (mk n) = (2 ^ (f - n) - 1) * 2 ^ (128 - f) := by
    apply Nat.eq_of_testBit_eq
    intro j
    rw [Nat.testBit_and, nt_bit (mk_lt n), mk_bit, mk_bit, Nat.testBit_mul_two_pow, Nat.testBit_two_pow_sub_one]
    by_cases h1 : j < 128
    · by_cases h2 : 128 ≤ j + f
      · simp only [decide_eq_true h1, decide_eq_true h2, decide_eq_true (show j ≥ 128 - f by omega), Bool.true_and]
        by_cases h3 : 128 ≤ j + n
        · rw [decide_eq_true h3, decide_eq_false (by omega)]; rfl
        · rw [decide_eq_false h3, decide_eq_true (by omega)]; rfl
      · simp only [decide_eq_false h2, decide_eq_false (show ¬ j ≥ 128 - f by omega), Bool.and_false, Bool.false_and]
    · simp only [decide_eq_false h1, Bool.false_and, decide_eq_false (show ¬ j - (128 - f) < f - n by omega), Bool.and_false]
  have e2 : (2 ^ (f - n) - 1) * 2 ^ (128 - f) + H f = H n := by
    unfold H
    rw [Nat.sub_mul, Nat.one_mul, ← Nat.pow_add, show f - n + (128 - f) = 128 - n by omega]
    exact Nat.sub_add_cancel (Nat.pow_le_pow_right (by decide) (by omega))
  have hlt : (2 ^ (f - n) - 1) * 2 ^ (128 - f) < 2 ^ (128 - n) := by have := H_pos f; have : H n = 2 ^ (128 - n) := rfl; omega
  have e3 : lst f w n = w + (2 ^ (f - n) - 1) * 2 ^ (128 - f) := by
    unfold lst
    rw [e]
    obtain ⟨q, rfl⟩ := h
    exact (Nat.two_pow_add_eq_or_of_lt hlt q).symm
  omega
end Go.Proofs.YtdjhmapmhajkcaaDoor.Th
