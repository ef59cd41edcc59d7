/- Words of 128 bits: how they are compared. -/
import Derived.Test.YtdjhmapmhajkcaaDoorZALw
import Derived.Test.YtdjhmapmhajkcaaDoorZAX13
namespace Go.Proofs.YtdjhmapmhajkcaaDoor.Th
open Go.RowKit Go.Proofs.YtdjhmapmhajkcaaDoor.X Go.Proofs.YtdjhmapmhajkcaaDoorW.PrintWords Go.Proofs.YtdjhmapmhajkcaaDoorW.PrintLast Go.Proofs.YtdjhmapmhajkcaaDoor.Sm
set_option linter.unusedVariables false
set_option linter.unusedSimpArgs false
theorem split_word {u : Nat} (h : u < 2 ^ 128) : ∃ a b : Nat, a < 18446744073709551616 ∧ b < 18446744073709551616 ∧ u = a * 18446744073709551616 + b ∧ hi u = (a : Int) ∧ lo u = (b : Int) := by
  refine ⟨u / 2 ^ 64, u % 2 ^ 64, p64 ▸ hi_lt h, p64 ▸ lo_lt u, ?_, rfl, rfl⟩
  rw [p64]; omega
def cmpV (u v : Nat) : Int := if u < v then -1 else if u = v then 0 else 1
theorem rcmp (u v : Nat) (hu : u < 2 ^ 128) (hv : v < 2 ^ 128) : Ev (fun k => turnpikeref1_Cmp.f k (hi u) (lo u) (hi v) (lo v)) (cmpV u v) := by
  obtain ⟨a, b, ha, hb, hu', e1, e2⟩ := split_word hu
  obtain ⟨c, d, hc, hd, hv', e3, e4⟩ := split_word hv
  have hj : ∀ x : Bool, Ev (fun k => turnpikeref1_Cmp.j0 k x (hi u) (lo u) (hi v) (lo v)) (if x = true then -1 else if u = v then 0 else 1) := by
    intro x
    refine Ev.step (fun k => turnpikeref1_Cmp.j0.eq_2 _ _ _ _ _ _) ?_
    cases x with
    | true => simp only [if_true]; exact Ev.now _
    | false =>
      simp only [Bool.false_eq_true, if_false, eq_iff, decide_eq_true_iff]
      by_cases h : u = v
      · simp only [if_pos h]; exact Ev.now _
      · simp only [if_neg h]; exact Ev.now _
  unfold turnpikeref1_Cmp.f cmpV
  rw [e1, e2, e3, e4] at *
  by_cases h1 : (a : Int) < (c : Int)
  · simp only [if_pos h1, if_pos (show u < v by omega)]
    have := hj true
    simpa using this
  · simp only [if_neg h1]
    by_cases h2 : (a : Int) = (c : Int)
    · simp only [if_pos h2]
      have := hj (decide ((b : Int) < (d : Int)))
      by_cases h3 : (b : Int) < (d : Int)
      · simp only [decide_eq_true h3, if_true] at this
        simp only [decide_eq_true h3, if_pos (show u < v by omega)]
        exact this
      · simp only [decide_eq_false h3, Bool.false_eq_true, if_false] at this
        simp only [decide_eq_false h3, if_neg (show ¬ u < v by omega)]
        exact this
    · simp only [if_neg h2, if_neg (show ¬ u < v by omega)]
      have := hj false
      simp only [Bool.false_eq_true, if_false] at this
      exact this
theorem cmp_lt (u v : Nat) : cmpV u v < 0 ↔ u < v := by
  unfold cmpV
  by_cases h : u < v
  · simp [h]
  · by_cases h2 : u = v
    · simp [h2]
    · simp [h, h2]
end Go.Proofs.YtdjhmapmhajkcaaDoor.Th
