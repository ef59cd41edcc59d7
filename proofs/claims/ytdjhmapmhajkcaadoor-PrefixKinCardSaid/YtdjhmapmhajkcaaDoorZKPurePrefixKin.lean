/- The kin of a right prefix: the program and the document tell the same. -/
import Derived.Test.YtdjhmapmhajkcaaDoorZKPy
import Derived.Test.YtdjhmapmhajkcaaDoorZKKp
import Derived.Test.YtdjhmapmhajkcaaDoorZKX3
import Derived.Test.YtdjhmapmhajkcaaDoorZKX6
import Derived.Test.YtdjhmapmhajkcaaDoorZKX20
import Derived.Test.YtdjhmapmhajkcaaDoorZKX28
import Derived.Test.YtdjhmapmhajkcaaDoorZKX29
namespace Go.Proofs.YtdjhmapmhajkcaaDoor.Pure
open Go.RowKit Go.Proofs.YtdjhmapmhajkcaaDoor.X Go.Proofs.YtdjhmapmhajkcaaDoorW.PrintWords Go.Proofs.YtdjhmapmhajkcaaDoor.Th
set_option linter.unusedVariables false
theorem pone (i : Nat) (h : i ≤ 127) : prefix_one.f (i : Int) = some (hi (2 ^ (127 - i)), lo (2 ^ (127 - i))) := by
  unfold prefix_one.f
  have e : sr (mk 1) i = 2 ^ (127 - i) := by
    have e1 : mk 1 = 2 ^ 127 := by decide
    unfold sr
    rw [e1, Nat.pow_div (by omega) (by decide)]
  have em : word_Mask.f 1 = some (hi (mk 1), lo (mk 1)) := pmask 1
  simp only [em, Option.bind_some, pshr _ i (mk_lt 1), e]
theorem or_put (w i : Nat) (hw : w < 2 ^ 128) (h : i ≤ 127) : w ||| 2 ^ (127 - i) = put w i 1 := by
  apply Nat.eq_of_testBit_eq
  intro j
  rw [put_bit w i 1 j hw h (by decide), Nat.testBit_or, Nat.testBit_two_pow]
  by_cases hj : j = 127 - i
  · rw [if_pos hj, hj]; simp
  · rw [if_neg hj, decide_eq_false (fun e => hj e.symm), Bool.or_false]
theorem xor_put (w i : Nat) (hw : w < 2 ^ 128) (h : i ≤ 127) : w ^^^ 2 ^ (127 - i) = put w i (1 - (w.testBit (127 - i)).toNat) := by
  apply Nat.eq_of_testBit_eq
  intro j
  rw [put_bit w i _ j hw h (by omega), Nat.testBit_xor, Nat.testBit_two_pow]
  by_cases hj : j = 127 - i
  · rw [if_pos hj, hj]; cases w.testBit (127 - i) <;> simp
  · rw [if_neg hj, decide_eq_false (fun e => hj e.symm), Bool.xor_false]
def parV (w n : Nat) : Int × Int × Int × Bool := if n = 0 then (0, 0, 0, false) else (hi (w &&& mk (n - 1)), lo (w &&& mk (n - 1)), ((n - 1 : Nat) : Int), true)
def kidV (f w n : Nat) : Int × Int × Int × Int × Int × Int × Bool := if f ≤ n then (0, 0, 0, 0, 0, 0, false) else (hi w, lo w, ((n + 1 : Nat) : Int), hi (put w n 1), lo (put w n 1), ((n + 1 : Nat) : Int), true)
def sibV (w n : Nat) : Int × Int × Int × Bool := if n = 0 then (0, 0, 0, false) else (hi (w ^^^ 2 ^ (127 - (n - 1))), lo (w ^^^ 2 ^ (127 - (n - 1))), (n : Int), true)
theorem less1 {n : Nat} (h : 0 < n) (h1 : n ≤ 128) : wrap64 ((n : Int) - 1) = ((n - 1 : Nat) : Int) := by rw [w64 (by omega) (by omega)]; omega
theorem pparent (w n : Nat) (hw : w < 2 ^ 128) (hn : n ≤ 128) : prefix_Parent.f (hi w) (lo w) (n : Int) = some (parV w n) := by
  unfold prefix_Parent.f parV
  by_cases h : n = 0
  · rw [if_pos (by omega), if_pos h]
  · rw [if_neg (by omega), if_neg h, less1 (by omega) hn, pcut w _ hw]; rfl
theorem rparent (w n : Nat) (hw : w < 2 ^ 128) (hn : n ≤ 128) : Ev (fun k => turnpikeref3_Parent.f k (hi w) (lo w) (n : Int)) (parV w n) := by
  unfold turnpikeref3_Parent.f parV
  by_cases h : n = 0
  · simp only [if_pos h, if_pos (show (n : Int) = 0 by omega)]; exact Ev.now _
  · simp only [if_neg h, if_neg (show ¬ (n : Int) = 0 by omega), less1 (show 0 < n by omega) hn]
    exact Ev.bind (rcut w _ hw) (Ev.now _)
theorem pkids (f w n : Nat) (hw : w < 2 ^ 128) (hf : f ≤ 128) : prefix_Kids.f (f : Int) (hi w) (lo w) (n : Int) = some (kidV f w n) := by
  unfold prefix_Kids.f kidV
  by_cases h : f ≤ n
  · rw [if_pos (by omega), if_pos h]
  · have hn : n ≤ 127 := by omega
    rw [if_neg (by omega), if_neg h, pone n hn, Option.bind_some]
    simp only [por w _ hw (two_lt (show 127 - n < 128 by omega)), Option.bind_some, or_put w n hw hn, wr1 (show n ≤ 1000000000 by omega)]
theorem rkids (f w n : Nat) (hw : w < 2 ^ 128) (hf : f ≤ 128) : turnpikeref3_Kids.f (f : Int) (hi w) (lo w) (n : Int) = some (kidV f w n) := by
  unfold turnpikeref3_Kids.f kidV
  by_cases h : f ≤ n
  · rw [if_pos (by omega), if_pos h]
  · have hn : n ≤ 127 := by omega
    have ep : turnpikeref1_Put.f (hi w) (lo w) (n : Int) 1 = some (hi (put w n 1), lo (put w n 1)) := rput w n 1 hw hn (by decide)
    rw [if_neg (by omega), if_neg h, ep]
    simp only [Option.bind_some, wr1 (show n ≤ 1000000000 by omega)]
theorem psibling (w n : Nat) (hw : w < 2 ^ 128) (hn : n ≤ 128) : prefix_Sibling.f (hi w) (lo w) (n : Int) = some (sibV w n) := by
  unfold prefix_Sibling.f sibV
  by_cases h : n = 0
  · rw [if_pos (by omega), if_pos h]
  · rw [if_neg (by omega), if_neg h, less1 (by omega) hn, pone _ (show n - 1 ≤ 127 by omega), Option.bind_some]
    simp only [pxor w _ hw (two_lt (show 127 - (n - 1) < 128 by omega)), Option.bind_some]
theorem rsibling (w n : Nat) (hw : w < 2 ^ 128) (hn : n ≤ 128) : Ev (fun k => turnpikeref3_Sibling.f k (hi w) (lo w) (n : Int)) (sibV w n) := by
  unfold turnpikeref3_Sibling.f sibV
  by_cases h : n = 0
  · simp only [if_pos h, if_pos (show (n : Int) = 0 by omega)]; exact Ev.now _
  · simp only [if_neg h, if_neg (show ¬ (n : Int) = 0 by omega), less1 (show 0 < n by omega) hn]
    have hb : (w.testBit (127 - (n - 1))).toNat ≤ 1 := by cases w.testBit (127 - (n - 1)) <;> decide
    have eb : wrap64 (1 - (((w.testBit (127 - (n - 1))).toNat : Nat) : Int)) = ((1 - (w.testBit (127 - (n - 1))).toNat : Nat) : Int) := by rw [w64 (by omega) (by omega)]; omega
    refine Ev.bind (rbit w _ hw (show n - 1 ≤ 127 by omega)) ?_
    simp only [eb, rput w (n - 1) _ hw (show n - 1 ≤ 127 by omega) (show 1 - (w.testBit (127 - (n - 1))).toNat ≤ 1 by omega), Option.bind_some, xor_put w (n - 1) hw (by omega)]
    exact Ev.now _
theorem PrefixKin : turnpikelaw3_PrefixKin.Pure := by
  intro six a b n h1 h2 _
  obtain ⟨v, hv, rfl, rfl⟩ := as_word h1 h2
  obtain ⟨f, hf, ef⟩ := family3 six
  obtain ⟨w, i, hw, hs⟩ := some3 f v hf hv n
  have hf128 : f ≤ 128 := by omega
  have hi128 : i ≤ 128 := by have := hw.2.1; omega
  refine Ev.rounds ?_
  unfold turnpikelaw3_PrefixKin.f
  simp only [ef, Option.bind_some]
  refine Ev.bind hs ?_
  simp only [pparent w i hw.1 hi128, pkids f w i hw.1 hf128, psibling w i hw.1 hi128, rkids f w i hw.1 hf128, Option.bind_some]
  refine Ev.bind (rparent w i hw.1 hi128) (Ev.bind (rsibling w i hw.1 hi128) (Ev.bind known3_f ?_))
  simp only [if_true, beq_self_eq_true, Bool.and_self]
  exact Ev.now _
end Go.Proofs.YtdjhmapmhajkcaaDoor.Pure
