/- For any family, prefix, word and length the program's Check and Of and the document's tell the same. -/
import Derived.Test.YtdjhmapmhajkcaaDoorZCPx
import Derived.Test.YtdjhmapmhajkcaaDoorZCKp
import Derived.Test.YtdjhmapmhajkcaaDoorZCX18
namespace Go.Proofs.YtdjhmapmhajkcaaDoor.Pure
open Go.RowKit Go.Proofs.YtdjhmapmhajkcaaDoor.X Go.Proofs.YtdjhmapmhajkcaaDoorW.PrintWords Go.Proofs.YtdjhmapmhajkcaaDoor.Th
set_option linter.unusedVariables false
def ofV (f : Int) (w : Nat) (n : Int) : Int × Int × Int × Int := if rightV f w = 0 then (if n < 0 ∨ f < n then (0, 0, 0, 13) else (hi (w &&& mk n.toNat), lo (w &&& mk n.toNat), n, 0)) else (0, 0, 0, rightV f w)
theorem pof (f : Int) (w : Nat) (n : Int) (hw : w < 2 ^ 128) : Ev (fun k => prefix_Of.f k f (hi w) (lo w) n) (ofV f w n) := by
  unfold prefix_Of.f ofV
  refine Ev.bind (pright f w hw) ?_
  by_cases h : rightV f w = 0
  · simp only [if_pos h]
    by_cases h0 : n < 0
    · simp only [if_pos h0, if_pos (show n < 0 ∨ f < n from .inl h0)]; exact Ev.now _
    · simp only [if_neg h0]
      by_cases h1 : f < n
      · simp only [if_pos (show n > f from h1), if_pos (show n < 0 ∨ f < n from .inr h1)]; exact Ev.now _
      · obtain ⟨m, rfl⟩ := Int.eq_ofNat_of_zero_le (show 0 ≤ n by omega)
        simp only [if_neg (show ¬ (m : Int) > f from h1), if_neg (show ¬ ((m : Int) < 0 ∨ f < (m : Int)) by omega), pcut w m hw, Option.bind_some, Int.toNat_natCast]; exact Ev.now _
  · simp only [if_neg h]; exact Ev.now _
theorem rof (f : Int) (w : Nat) (n : Int) (hw : w < 2 ^ 128) : Ev (fun k => turnpikeref3_Of.f k f (hi w) (lo w) n) (ofV f w n) := by
  unfold turnpikeref3_Of.f ofV
  refine Ev.bind (rright f w hw) ?_
  by_cases h : rightV f w = 0
  · simp only [if_pos h]
    by_cases h0 : n < 0
    · simp only [if_pos h0, if_pos (show n < 0 ∨ f < n from .inl h0)]; exact Ev.now _
    · simp only [if_neg h0]
      by_cases h1 : f < n
      · simp only [if_pos (show n > f from h1), if_pos (show n < 0 ∨ f < n from .inr h1)]; exact Ev.now _
      · obtain ⟨m, rfl⟩ := Int.eq_ofNat_of_zero_le (show 0 ≤ n by omega)
        simp only [if_neg (show ¬ (m : Int) > f from h1), if_neg (show ¬ ((m : Int) < 0 ∨ f < (m : Int)) by omega), Int.toNat_natCast]
        refine Ev.bind (rcut w m hw) ?_
        exact Ev.now _
  · simp only [if_neg h]; exact Ev.now _
theorem PrefixChecks : turnpikelaw3_PrefixChecks.Pure := by
  intro f a b n c d m _ h1 h2 _ h3 h4 _
  obtain ⟨v, hv, rfl, rfl⟩ := as_word h1 h2
  obtain ⟨w, hw, rfl, rfl⟩ := as_word h3 h4
  refine Ev.rounds ?_
  unfold turnpikelaw3_PrefixChecks.f
  refine Ev.bind (pof f w m hw) (Ev.bind (rof f w m hw) (Ev.bind known3_f ?_))
  simp only [if_true]
  refine Ev.bind (pcheck f v n hv) (Ev.bind (rcheck f v n hv) ?_)
  simp only [if_true, beq_self_eq_true, Bool.and_self]
  exact Ev.now _
end Go.Proofs.YtdjhmapmhajkcaaDoor.Pure
