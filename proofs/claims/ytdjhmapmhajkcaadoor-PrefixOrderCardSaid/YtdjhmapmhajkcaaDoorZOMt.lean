/- Meeting and order of prefixes: what the program and the document tell. -/
import Derived.Test.YtdjhmapmhajkcaaDoorZOPy
import Derived.Test.YtdjhmapmhajkcaaDoorZOLc
import Derived.Test.YtdjhmapmhajkcaaDoorZOX23
import Derived.Test.YtdjhmapmhajkcaaDoorZOX30
import Derived.Test.YtdjhmapmhajkcaaDoorZOX0
import Derived.Test.YtdjhmapmhajkcaaDoorZOX2
import Derived.Test.YtdjhmapmhajkcaaDoorZOX6
import Derived.Test.YtdjhmapmhajkcaaDoorZOX8
import Derived.Test.YtdjhmapmhajkcaaDoorZOX9
import Derived.Test.YtdjhmapmhajkcaaDoorZOX1
import Derived.Test.YtdjhmapmhajkcaaDoorZOMm
namespace Go.Proofs.YtdjhmapmhajkcaaDoor.Th
open Go.RowKit Go.Proofs.YtdjhmapmhajkcaaDoor.X Go.Proofs.YtdjhmapmhajkcaaDoorW.PrintWords Go.Proofs.YtdjhmapmhajkcaaDoor.Sm
set_option linter.unusedVariables false
theorem wcmp_hl (u v : Nat) (hu : u < 2 ^ 128) (hv : v < 2 ^ 128) : word_Cmp.f (hi u) (lo u) (hi v) (lo v) = some (cmpV u v) := by
  obtain ⟨a, b, ha, hb, hu', e1, e2⟩ := split_word hu
  obtain ⟨c, d, hc, hd, hv', e3, e4⟩ := split_word hv
  unfold word_Cmp.f wcmp cmpV
  rw [e1, e2, e3, e4]
  congr 1
  by_cases h1 : u = v
  · rw [if_pos (by omega), if_neg (by omega), if_pos h1]
  · rw [if_neg (by omega), if_neg h1]
    by_cases h2 : u < v
    · rw [if_pos (by omega), if_pos h2]
    · rw [if_neg (by omega), if_neg h2]
theorem cmp_nil (u v : Nat) : cmpV u v = 0 ↔ u = v := by
  unfold cmpV
  by_cases h : u < v
  · rw [if_pos h]; omega
  · rw [if_neg h]
    by_cases h2 : u = v
    · simp [h2]
    · simp [h2]
def pord (w : Nat) (n : Int) (x : Nat) (m : Int) : Int := if w = x then (if n < m then -1 else if n > m then 1 else 0) else cmpV w x
theorem pcmp (w x : Nat) (n m : Int) (hw : w < 2 ^ 128) (hx : x < 2 ^ 128) : prefix_Cmp.f (hi w) (lo w) n (hi x) (lo x) m = some (pord w n x m) := by
  unfold prefix_Cmp.f pord
  rw [wcmp_hl w x hw hx, Option.bind_some]
  by_cases h : w = x
  · rw [if_pos ((cmp_nil w x).2 h), if_pos h]
    by_cases h1 : n < m
    · rw [if_pos h1, if_pos h1]
    · rw [if_neg h1, if_neg h1]
      by_cases h2 : n > m
      · rw [if_pos h2, if_pos h2]
      · rw [if_neg h2, if_neg h2]
  · rw [if_neg (fun e => h ((cmp_nil w x).1 e)), if_neg h]
def mlen (w n x m : Nat) : Nat := min (min n m) (cm w x)
theorem mn_nat (a b : Nat) : mn (a : Int) (b : Int) = ((min a b : Nat) : Int) := by
  unfold mn
  by_cases h : a ≤ b
  · simp only [Nat.min_eq_left h]; first | rw [if_pos (by omega)] | (rw [if_neg (by omega)]; omega) | omega
  · simp only [Nat.min_eq_right (Nat.le_of_lt (Nat.lt_of_not_le h))]; first | rw [if_neg (by omega)] | (rw [if_pos (by omega)]; omega) | omega
theorem pmeet (w n x m : Nat) (hw : w < 2 ^ 128) (hx : x < 2 ^ 128) : prefix_Meet.f (hi w) (lo w) (n : Int) (hi x) (lo x) (m : Int) = some (hi (w &&& mk (mlen w n x m)), lo (w &&& mk (mlen w n x m)), ((mlen w n x m : Nat) : Int)) := by
  unfold prefix_Meet.f
  simp only [pcommon w x hw hx, Option.bind_some, mn_nat, pcut w _ hw]; rfl
end Go.Proofs.YtdjhmapmhajkcaaDoor.Th
