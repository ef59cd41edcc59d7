/- Meeting and order of prefixes: what the program and the document tell. -/
import Derived.Test.YtdjhmapmhajkcaaDoorZLPy
import Derived.Test.YtdjhmapmhajkcaaDoorZLLc
import Derived.Test.YtdjhmapmhajkcaaDoorZLX23
import Derived.Test.YtdjhmapmhajkcaaDoorZLX0
import Derived.Test.YtdjhmapmhajkcaaDoorZLX10
import Derived.Test.YtdjhmapmhajkcaaDoorZLShelf
import Derived.Test.YtdjhmapmhajkcaaDoorZLX17
import Derived.Test.YtdjhmapmhajkcaaDoorZLMm
import Derived.Test.YtdjhmapmhajkcaaDoorZLX2
import Derived.Test.YtdjhmapmhajkcaaDoorZLX6
import Derived.Test.YtdjhmapmhajkcaaDoorZLX8
import Derived.Test.YtdjhmapmhajkcaaDoorZLX9
import Derived.Test.YtdjhmapmhajkcaaDoorZLX1
namespace Go.Proofs.YtdjhmapmhajkcaaDoor.Th
open Go.RowKit Go.Proofs.YtdjhmapmhajkcaaDoor.X Go.Proofs.YtdjhmapmhajkcaaDoorW.PrintWords Go.Proofs.YtdjhmapmhajkcaaDoor.Sm
set_option linter.unusedVariables false
theorem wcmp_hl (u v : Nat) (hu : u < 2 ^ 128) (hv : v < 2 ^ 128) : word_Cmp.f (hi u) (lo u) (hi v) (lo v) = some (cmpV u v) := by
  obtain ⟨a, b, ha, hb, hu', e1, e2⟩ := split_word hu
  obtain ⟨c, d, hc, hd, hv', e3, e4⟩ := split_word hv
  unfold word_Cmp.f wcmp cmpV
  rw [e1, e2, e3, e4]
  congr 1
  by_cases h1 : u = v
  · rw [if_pos (by omega), if_neg (by omega), if_pos h1]
  · rw [if_neg (by omega), if_neg h1]
    by_cases h2 : u < v
    · rw [if_pos (by omega), if_pos h2]
    · rw [if_neg (by omega), if_neg h2]
theorem cmp_nil (u v : Nat) : cmpV u v = 0 ↔ u = v := by
  unfold cmpV
  by_cases h : u < v
  · rw [if_pos h]; omega
  · rw [if_neg h]
    by_cases h2 : u = v
    · simp [h2]
    · simp [h2]
def pord (w : Nat) (n : Int) (x : Nat) (m : Int) : Int := if w = x then (if n < m then -1 else if n > m then 1 else 0) else cmpV w x
theorem pcmp (w x : Nat) (n m : Int) (hw : w < 2 ^ 128) (hx : x < 2 ^ 128) : prefix_Cmp.f (hi w) (lo w) n (hi x) (lo x) m = some (pord w n x m) := by
  unfold prefix_Cmp.f pord
  rw [wcmp_hl w x hw hx, Option.bind_some]
  by_cases h : w = x
  · rw [if_pos ((cmp_nil w x).2 h), if_pos h]
    by_cases h1 : n < m
    · rw [if_pos h1, if_pos h1]
    · rw [if_neg h1, if_neg h1]
      by_cases h2 : n > m
      · rw [if_pos h2, if_pos h2]
      · rw [if_neg h2, if_neg h2]
  · rw [if_neg (fun e => h ((cmp_nil w x).1 e)), if_neg h]
end Go.Proofs.YtdjhmapmhajkcaaDoor.Th
