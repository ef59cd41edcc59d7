/- Prefixes: what the program's functions and the document's compute. -/
import Derived.Test.YtdjhmapmhajkcaaDoorZOLw
import Derived.Test.YtdjhmapmhajkcaaDoorZOLn
import Derived.Test.YtdjhmapmhajkcaaDoorZOLc
import Derived.Lib.BitFns
import Derived.Test.YtdjhmapmhajkcaaDoorZOX3
import Derived.Test.YtdjhmapmhajkcaaDoorZOX9
import Derived.Test.YtdjhmapmhajkcaaDoorZOX17
import Derived.Test.YtdjhmapmhajkcaaDoorZOX0
import Derived.Test.YtdjhmapmhajkcaaDoorZOX1
import Derived.Test.YtdjhmapmhajkcaaDoorZOX6
namespace Go.Proofs.YtdjhmapmhajkcaaDoor.Th
open Go.RowKit Go.Proofs.YtdjhmapmhajkcaaDoor.X Go.Proofs.YtdjhmapmhajkcaaDoorW.PrintWords Go.Proofs.YtdjhmapmhajkcaaDoorW.PrintLast Go.Proofs.YtdjhmapmhajkcaaDoor.Sm
set_option linter.unusedVariables false
set_option linter.unusedSimpArgs false
def checkV (f : Int) (w : Nat) (n : Int) : Int := if fam f = true then (if n < 0 ∨ f < n then 13 else if w &&& mk n.toNat = w then 0 else 14) else 11
theorem and_lt128 {u : Nat} (v : Nat) (hu : u < 2 ^ 128) : u &&& v < 2 ^ 128 := Nat.lt_of_le_of_lt Nat.and_le_left hu
theorem pcheck_j0 (f : Int) (w : Nat) (n : Int) (hw : w < 2 ^ 128) (b : Bool) (hb : b = decide (n < 0 ∨ f < n)) : Ev (fun k => prefix_Check.j0 k b (hi w) (lo w) n) (if n < 0 ∨ f < n then 13 else if w &&& mk n.toNat = w then 0 else 14) := by
  refine Ev.step (fun k => prefix_Check.j0.eq_2 _ _ _ _ _) ?_
  by_cases h : n < 0 ∨ f < n
  · have e : b = true := by rw [hb]; exact decide_eq_true h
    simp only [e, if_true, if_pos h]; exact Ev.now _
  · have e : b = false := by rw [hb]; exact decide_eq_false h
    obtain ⟨m, rfl⟩ := Int.eq_ofNat_of_zero_le (show 0 ≤ n by omega)
    simp only [e, Bool.false_eq_true, if_false, if_neg h, pmask, Option.bind_some, pand w _ hw (mk_lt m), Int.toNat_natCast, ne_iff, decide_eq_true_eq, ne_eq, ite_not]
    by_cases h2 : w &&& mk m = w
    · simp only [if_pos h2]; exact Ev.now _
    · simp only [if_neg h2]; exact Ev.now _
theorem pcheck (f : Int) (w : Nat) (n : Int) (hw : w < 2 ^ 128) : Ev (fun k => prefix_Check.f k f (hi w) (lo w) n) (checkV f w n) := by
  unfold prefix_Check.f checkV
  refine Ev.bind (pright0 f) ?_
  by_cases hf : fam f = true
  · simp only [if_pos hf, if_true]
    by_cases h0 : n < 0
    · simp only [if_pos h0]
      exact pcheck_j0 f w n hw true (decide_eq_true (.inl h0)).symm
    · simp only [if_neg h0]
      exact pcheck_j0 f w n hw _ (by simp [h0])
  · simp only [if_neg hf, if_neg (show ¬ (11 : Int) = 0 by decide)]; exact Ev.now _
theorem pcut (w n : Nat) (hw : w < 2 ^ 128) : prefix_cut.f (hi w) (lo w) (n : Int) = some (hi (w &&& mk n), lo (w &&& mk n), (n : Int)) := by
  unfold prefix_cut.f
  simp only [pmask, Option.bind_some, pand w _ hw (mk_lt n)]
theorem rcut (w n : Nat) (hw : w < 2 ^ 128) : Ev (fun k => turnpikeref3_Cut.f k (hi w) (lo w) (n : Int)) (hi (w &&& mk n), lo (w &&& mk n), (n : Int)) := by
  unfold turnpikeref3_Cut.f
  refine Ev.bind (rmask n) ?_
  simp only [Option.bind_some, rand_ w _ hw (mk_lt n)]; exact Ev.now _
end Go.Proofs.YtdjhmapmhajkcaaDoor.Th
