/- What the statements' own writer of decimal digits, and their choice of a number, compute. -/
import Derived.Test.YtamiaaeaehdahaaLp
import Derived.Test.YtamiaaeaehdahaaDec
import Derived.Test.YtamiaaeaehdahaaX13
import Derived.Test.YtamiaaeaehdahaaX14
namespace Go.Proofs.Ytamiaaeaehdahaa.Th
open Go.RowKit Go.Proofs.Ytamiaaeaehdahaa.X Go.Proofs.YtamiaaeaehdahaaW.PrintWords
set_option linter.unusedVariables false
set_option linter.unusedSimpArgs false

theorem ldec_l0 : ∀ (f n : Nat) (acc : List UInt8), n < 10 ^ f → n < 9223372036854775808 → f ≤ 20 → (n ≠ 0 ∨ acc ≠ []) → acc.length + f ≤ 100 →
    Ev (fun k => turnpikelaw2_decimal.l0 k (n : Int) (OfBy acc)) (OfBy (digF f n ++ acc)) := by
  intro f
  induction f with
  | zero =>
    intro n acc h h63 hf ha hl
    have h0 : n = 0 := by simp at h; exact h
    subst h0
    refine Ev.step (fun k => turnpikelaw2_decimal.l0.eq_2 _ _ _) ?_
    have hne : acc ≠ [] := by rcases ha with h | h; exact absurd rfl h; exact h
    simp only [if_neg (show ¬ ((0 : Nat) : Int) > 0 by decide), if_neg (fun e => hne ((ofBy_empty acc).1 e)), digF, List.nil_append]
    exact Ev.now _
  | succ f ih =>
    intro n acc h h63 hf ha hl
    refine Ev.step (fun k => turnpikelaw2_decimal.l0.eq_2 _ _ _) ?_
    by_cases h0 : n = 0
    · subst h0
      have hne : acc ≠ [] := by rcases ha with h | h; exact absurd rfl h; exact h
      simp only [if_neg (show ¬ ((0 : Nat) : Int) > 0 by decide), if_neg (fun e => hne ((ofBy_empty acc).1 e)), digF, List.nil_append, if_true]
      exact Ev.now _
    · simp only [if_pos (show (n : Int) > 0 by omega), Option.bind_some, one_digit, ofBy_append, ofBy_size, tdiv10 n h63, List.length_cons, List.length_nil, List.singleton_append,
        if_pos (show 0 + 1 + acc.length ≤ 9223372036854775807 by omega)]
      have := ih (n / 10) (d10 n :: acc) (by rw [Nat.pow_succ] at h; omega) (by omega) (by omega) (.inr (by simp)) (by simp; omega)
      rw [digF, if_neg h0, List.append_assoc, List.singleton_append]
      exact this
theorem ldec_f (n : Nat) (h : n < 9223372036854775808) : Ev (fun k => turnpikelaw2_decimal.f k (n : Int)) (OfBy (decL n)) := by
  unfold turnpikelaw2_decimal.f decL
  by_cases h0 : n = 0
  · subst h0
    rw [if_pos rfl]
    refine Ev.step (fun k => turnpikelaw2_decimal.l0.eq_2 _ _ _) ?_
    have e1 : strOfNums [wrap64 (48 + Int.tmod ((0 : Nat) : Int) 10) % 256] = OfBy [48] := one_digit 0
    have e2 : wrap64 (Int.tdiv ((0 : Nat) : Int) 10) = ((0 : Nat) : Int) := tdiv10 0 (by decide)
    simp only [if_neg (show ¬ ((0 : Nat) : Int) > 0 by decide), if_pos ((ofBy_empty []).2 rfl), Option.bind_some, e1, e2]
    rw [show (⟨#[]⟩ : ByteArray) = OfBy [] from rfl, ofBy_append]
    simp only [ofBy_size, List.length_cons, List.length_nil, List.append_nil, if_pos (show 0 + 1 + 0 ≤ 9223372036854775807 by omega)]
    have := ldec_l0 0 0 [48] (by decide) (by decide) (by decide) (.inr (by simp)) (by decide)
    exact this
  · rw [if_neg h0]
    have := ldec_l0 20 n [] (by omega) h (by omega) (.inl h0) (by decide)
    rw [List.append_nil] at this
    exact this
theorem lwithin (a n : Int) (h1 : 0 < n) (h2 : n ≤ 1048600) : ∃ m : Nat, (m : Int) < n ∧ turnpikelaw2_within.f a n = some (m : Int) := by
  unfold turnpikelaw2_within.f
  rw [if_neg (by omega)]
  have hlo := Int.tmod_lt_of_pos a h1
  have hneg : -n < Int.tmod a n := by
    have := Int.lt_tmod_of_pos a h1
    omega
  by_cases h : Int.tmod a n < 0
  · rw [if_pos h]
    refine ⟨(Int.tmod a n + n).toNat, by omega, ?_⟩
    rw [w64 (by omega) (by omega)]
    congr 1; omega
  · rw [if_neg h]
    exact ⟨(Int.tmod a n).toNat, by omega, by congr 1; omega⟩
theorem octV_dec (n : Nat) (h : n < 300) : octV (decL n) = if 255 < n then none else some n := by
  have h20 : n < 10 ^ 20 := by omega
  cases hd : decL n with
  | nil => exact absurd hd (decL_ne n h20)
  | cons c t =>
    rw [octV_digits c t (by rw [← hd]; exact decL_isd n)]
    have hv : dv 0 (c :: t) = n := by rw [← hd]; exact decL_val n h20
    have hh : ¬ (c = 48 ∧ t ≠ []) := by
      rintro ⟨rfl, ht⟩
      refine decL_head n h20 ?_ (by rw [hd]; rfl)
      rw [hd]
      have := List.length_pos_iff.2 ht
      simp; omega
    rw [hv]
    by_cases hn : 255 < n
    · rw [if_pos (.inr hn), if_pos hn]
    · rw [if_neg (by rintro (h | h)
                     · exact hh h
                     · exact hn h), if_neg hn]
theorem no46 (n : Nat) : (46 : UInt8) ∉ decL n := by
  intro h
  have := (decL_isd n 46 h).1
  exact absurd this (by decide)
theorem four_text (a b c d : Nat) : (((((OfBy (decL a) ++ (⟨#[46]⟩ : ByteArray)) ++ OfBy (decL b)) ++ (⟨#[46]⟩ : ByteArray)) ++ OfBy (decL c)) ++ (⟨#[46]⟩ : ByteArray)) ++ OfBy (decL d) = OfBy (decL a ++ 46 :: (decL b ++ 46 :: (decL c ++ 46 :: decL d))) := by
  rw [show (⟨#[46]⟩ : ByteArray) = OfBy [46] from rfl]
  simp only [ofBy_append]
  simp
theorem dotV_four (p : List UInt8) (hp : (46 : UInt8) ∉ p) (b c d : Nat) : dotV (p ++ 46 :: (decL b ++ 46 :: (decL c ++ 46 :: decL d))) = four [p, decL b, decL c, decL d] := by
  unfold dotV
  rw [pieces_one _ _ hp, pieces_one _ _ (no46 b), pieces_one _ _ (no46 c), pieces_none _ (no46 d)]
end Go.Proofs.Ytamiaaeaehdahaa.Th
