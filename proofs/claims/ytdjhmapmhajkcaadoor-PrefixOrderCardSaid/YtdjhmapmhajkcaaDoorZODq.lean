/- Four decimal numbers with dots between, as a text. -/
import Derived.Test.YtdjhmapmhajkcaaDoorZOLp
import Derived.Test.YtdjhmapmhajkcaaDoorZODec
namespace Go.Proofs.YtdjhmapmhajkcaaDoor.Th
open Go.RowKit Go.Proofs.YtdjhmapmhajkcaaDoor.X Go.Proofs.YtdjhmapmhajkcaaDoorW.PrintWords
set_option linter.unusedVariables false
set_option linter.unusedSimpArgs false
theorem octV_dec (n : Nat) (h : n < 300) : octV (decL n) = if 255 < n then none else some n := by
  have h20 : n < 10 ^ 20 := by omega
  cases hd : decL n with
  | nil => exact absurd hd (decL_ne n h20)
  | cons c t =>
    rw [octV_digits c t (by rw [← hd]; exact decL_isd n)]
    have hv : dv 0 (c :: t) = n := by rw [← hd]; exact decL_val n h20
    have hh : ¬ (c = 48 ∧ t ≠ []) := by
      rintro ⟨rfl, ht⟩
      refine decL_head n h20 ?_ (by rw [hd]; rfl)
      rw [hd]
      have := List.length_pos_iff.2 ht
      simp; omega
    rw [hv]
    by_cases hn : 255 < n
    · rw [if_pos (.inr hn), if_pos hn]
    · rw [if_neg (by rintro (h | h)
                     · exact hh h
                     · exact hn h), if_neg hn]
theorem no46 (n : Nat) : (46 : UInt8) ∉ decL n := by
  intro h
  have := (decL_isd n 46 h).1
  exact absurd this (by decide)
theorem dotV_four (p : List UInt8) (hp : (46 : UInt8) ∉ p) (b c d : Nat) : dotV (p ++ 46 :: (decL b ++ 46 :: (decL c ++ 46 :: decL d))) = four [p, decL b, decL c, decL d] := by
  unfold dotV
  rw [pieces_one _ _ hp, pieces_one _ _ (no46 b), pieces_one _ _ (no46 c), pieces_none _ (no46 d)]
end Go.Proofs.YtdjhmapmhajkcaaDoor.Th
