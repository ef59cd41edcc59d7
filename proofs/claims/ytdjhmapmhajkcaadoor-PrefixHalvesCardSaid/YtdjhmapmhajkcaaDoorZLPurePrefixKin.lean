/- The kin of a right prefix: the program and the document tell the same. -/
import Derived.Test.YtdjhmapmhajkcaaDoorZLPy
import Derived.Test.YtdjhmapmhajkcaaDoorZLKp
import Derived.Test.YtdjhmapmhajkcaaDoorZLX3
import Derived.Test.YtdjhmapmhajkcaaDoorZLX6
import Derived.Test.YtdjhmapmhajkcaaDoorZLX20
import Derived.Test.YtdjhmapmhajkcaaDoorZLX0
import Derived.Test.YtdjhmapmhajkcaaDoorZLX9
import Derived.Test.YtdjhmapmhajkcaaDoorZLX2
import Derived.Test.YtdjhmapmhajkcaaDoorZLX8
namespace Go.Proofs.YtdjhmapmhajkcaaDoor.Pure
open Go.RowKit Go.Proofs.YtdjhmapmhajkcaaDoor.X Go.Proofs.YtdjhmapmhajkcaaDoorW.PrintWords Go.Proofs.YtdjhmapmhajkcaaDoor.Th
set_option linter.unusedVariables false
theorem pone (i : Nat) (h : i ≤ 127) : prefix_one.f (i : Int) = some (hi (2 ^ (127 - i)), lo (2 ^ (127 - i))) := by
  unfold prefix_one.f
  have e : sr (mk 1) i = 2 ^ (127 - i) := by
    have e1 : mk 1 = 2 ^ 127 := by decide
    unfold sr
    rw [e1, Nat.pow_div (by omega) (by decide)]
  have em : word_Mask.f 1 = some (hi (mk 1), lo (mk 1)) := pmask 1
  simp only [em, Option.bind_some, pshr _ i (mk_lt 1), e]
theorem or_put (w i : Nat) (hw : w < 2 ^ 128) (h : i ≤ 127) : w ||| 2 ^ (127 - i) = put w i 1 := by
  apply Nat.eq_of_testBit_eq
  intro j
  rw [put_bit w i 1 j hw h (by decide), Nat.testBit_or, Nat.testBit_two_pow]
  by_cases hj : j = 127 - i
  · rw [if_pos hj, hj]; simp
  · rw [if_neg hj, decide_eq_false (fun e => hj e.symm), Bool.or_false]
theorem xor_put (w i : Nat) (hw : w < 2 ^ 128) (h : i ≤ 127) : w ^^^ 2 ^ (127 - i) = put w i (1 - (w.testBit (127 - i)).toNat) := by
  apply Nat.eq_of_testBit_eq
  intro j
  rw [put_bit w i _ j hw h (by omega), Nat.testBit_xor, Nat.testBit_two_pow]
  by_cases hj : j = 127 - i
  · rw [if_pos hj, hj]; cases w.testBit (127 - i) <;> simp
  · rw [if_neg hj, decide_eq_false (fun e => hj e.symm), Bool.xor_false]
def parV (w n : Nat) : Int × Int × Int × Bool := if n = 0 then (0, 0, 0, false) else (hi (w &&& mk (n - 1)), lo (w &&& mk (n - 1)), ((n - 1 : Nat) : Int), true)
def kidV (f w n : Nat) : Int × Int × Int × Int × Int × Int × Bool := if f ≤ n then (0, 0, 0, 0, 0, 0, false) else (hi w, lo w, ((n + 1 : Nat) : Int), hi (put w n 1), lo (put w n 1), ((n + 1 : Nat) : Int), true)
def sibV (w n : Nat) : Int × Int × Int × Bool := if n = 0 then (0, 0, 0, false) else (hi (w ^^^ 2 ^ (127 - (n - 1))), lo (w ^^^ 2 ^ (127 - (n - 1))), (n : Int), true)
theorem less1 {n : Nat} (h : 0 < n) (h1 : n ≤ 128) : wrap64 ((n : Int) - 1) = ((n - 1 : Nat) : Int) := by rw [w64 (by omega) (by omega)]; omega
theorem pparent (w n : Nat) (hw : w < 2 ^ 128) (hn : n ≤ 128) : prefix_Parent.f (hi w) (lo w) (n : Int) = some (parV w n) := by
  unfold prefix_Parent.f parV
  by_cases h : n = 0
  · rw [if_pos (by omega), if_pos h]
  · rw [if_neg (by omega), if_neg h, less1 (by omega) hn, pcut w _ hw]; rfl
theorem pkids (f w n : Nat) (hw : w < 2 ^ 128) (hf : f ≤ 128) : prefix_Kids.f (f : Int) (hi w) (lo w) (n : Int) = some (kidV f w n) := by
  unfold prefix_Kids.f kidV
  by_cases h : f ≤ n
  · rw [if_pos (by omega), if_pos h]
  · have hn : n ≤ 127 := by omega
    rw [if_neg (by omega), if_neg h, pone n hn, Option.bind_some]
    simp only [por w _ hw (two_lt (show 127 - n < 128 by omega)), Option.bind_some, or_put w n hw hn, wr1 (show n ≤ 1000000000 by omega)]
theorem psibling (w n : Nat) (hw : w < 2 ^ 128) (hn : n ≤ 128) : prefix_Sibling.f (hi w) (lo w) (n : Int) = some (sibV w n) := by
  unfold prefix_Sibling.f sibV
  by_cases h : n = 0
  · rw [if_pos (by omega), if_pos h]
  · rw [if_neg (by omega), if_neg h, less1 (by omega) hn, pone _ (show n - 1 ≤ 127 by omega), Option.bind_some]
    simp only [pxor w _ hw (two_lt (show 127 - (n - 1) < 128 by omega)), Option.bind_some]
end Go.Proofs.YtdjhmapmhajkcaaDoor.Pure
