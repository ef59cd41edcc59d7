/- Right prefixes as spans of words. -/
import Derived.Test.YtdjhmapmhajkcaaDoorZOMt
namespace Go.Proofs.YtdjhmapmhajkcaaDoor.Th
open Go.RowKit Go.Proofs.YtdjhmapmhajkcaaDoor.X Go.Proofs.YtdjhmapmhajkcaaDoorW.PrintWords
set_option linter.unusedVariables false
def H (n : Nat) : Nat := 2 ^ (128 - n)
theorem H_pos (n : Nat) : 0 < H n := Nat.two_pow_pos _
theorem H_dvd {m n : Nat} (h : m ≤ n) : H n ∣ H m := Nat.pow_dvd_pow 2 (by omega)
theorem H_le {m n : Nat} (h : m ≤ n) : H n ≤ H m := Nat.le_of_dvd (H_pos m) (H_dvd h)
theorem stp {d x y : Nat} (hd : 0 < d) (hx : d ∣ x) (hy : d ∣ y) : x < y ↔ x + d ≤ y := by
  obtain ⟨α, rfl⟩ := hx
  obtain ⟨β, rfl⟩ := hy
  rw [Nat.mul_lt_mul_left hd, ← Nat.mul_succ, Nat.mul_le_mul_left_iff hd]
  exact Nat.succ_le_iff.symm
theorem cut_dvd {w n : Nat} (hw : w < 2 ^ 128) (h : w &&& mk n = w) : H n ∣ w := by
  apply Nat.dvd_of_mod_eq_zero
  apply Nat.eq_of_testBit_eq
  intro j
  unfold H
  rw [Nat.testBit_mod_two_pow, Nat.zero_testBit, ← h, Nat.testBit_and, mk_bit]
  by_cases hj : j < 128 - n
  · rw [decide_eq_false (show ¬ 128 ≤ j + n by omega)]; simp
  · simp [hj]
theorem has_iff {w n a : Nat} (hw : w < 2 ^ 128) (hn : n ≤ 128) (h : H n ∣ w) (ha : a < 2 ^ 128) : n ≤ cm w a ↔ w ≤ a ∧ a < w + H n := by
  rw [cm_ge w a n hw ha hn]
  obtain ⟨q, rfl⟩ := h
  have hp := H_pos n
  have e : H n * q / 2 ^ (128 - n) = q := Nat.mul_div_cancel_left q hp
  rw [e]
  show q = a / H n ↔ _
  constructor
  · intro h; subst h
    refine ⟨Nat.mul_div_le a (H n), ?_⟩
    rw [← Nat.mul_succ]
    exact Nat.lt_mul_div_succ a hp
  · rintro ⟨h1, h2⟩
    rw [← Nat.mul_succ] at h2
    apply Nat.le_antisymm
    · exact (Nat.le_div_iff_mul_le hp).2 (by rw [Nat.mul_comm]; exact h1)
    · exact Nat.le_of_lt_succ ((Nat.div_lt_iff_lt_mul hp).2 (by rw [Nat.mul_comm]; exact h2))
theorem cmp_le (u v : Nat) : cmpV u v ≤ 0 ↔ u ≤ v := by
  unfold cmpV
  by_cases h : u < v
  · rw [if_pos h]; omega
  · rw [if_neg h]
    by_cases h2 : u = v
    · rw [if_pos h2]; omega
    · rw [if_neg h2]; omega
theorem wth_iff {w n x m : Nat} (hw : w < 2 ^ 128) (hx : x < 2 ^ 128) (hm : m ≤ 128) (h : H m ∣ x) : wthn w (n : Int) x (m : Int) = decide (m ≤ n ∧ x ≤ w ∧ w < x + H m) := by
  unfold wthn
  rw [← Bool.decide_and]
  apply decide_eq_decide.2
  have := has_iff hx hm h hw
  omega
structure Two (w A x B : Nat) : Prop where
  le : A ≤ B
  wx : w < x ↔ w + A ≤ x
  xw : x < w ↔ x + A ≤ w
  we : w < x + B ↔ w + A ≤ x + B
  pos : 0 < A
theorem two {w n x m : Nat} (h1 : H n ∣ w) (h2 : H m ∣ x) (h : m ≤ n) : Two w (H n) x (H m) := by
  have hd := H_dvd h
  have h3 : H n ∣ x := Nat.dvd_trans hd h2
  exact ⟨H_le h, stp (H_pos n) h1 h3, stp (H_pos n) h3 h1, stp (H_pos n) h1 ((Nat.dvd_add_right h3).2 hd), H_pos n⟩
end Go.Proofs.YtdjhmapmhajkcaaDoor.Th
