/- Prefixes: how many first bits are alike; what lies within; kin; what the program and the document tell of them. -/
import Derived.Test.YtdjhmapmhajkcaaDoorZKSo
import Derived.Test.YtdjhmapmhajkcaaDoorZKX10
import Derived.Test.YtdjhmapmhajkcaaDoorZKX0
import Derived.Test.YtdjhmapmhajkcaaDoorZKShelf
import Derived.Test.YtdjhmapmhajkcaaDoorZKX3
import Derived.Test.YtdjhmapmhajkcaaDoorZKX4
import Derived.Test.YtdjhmapmhajkcaaDoorZKX24
import Derived.Test.YtdjhmapmhajkcaaDoorZKX6
namespace Go.Proofs.YtdjhmapmhajkcaaDoor.Th
open Go.RowKit Go.Proofs.YtdjhmapmhajkcaaDoor.X Go.Proofs.YtdjhmapmhajkcaaDoorW.PrintWords Go.Proofs.YtdjhmapmhajkcaaDoorW.PrintLast Go.Proofs.YtdjhmapmhajkcaaDoor.Sm
set_option linter.unusedVariables false
set_option linter.unusedSimpArgs false
def ld (x : Nat) : Nat := if x / 2 ^ 64 = 0 then 128 - Lib.bitLen (x % 2 ^ 64) else 64 - Lib.bitLen (x / 2 ^ 64)
theorem pxor (u v : Nat) (hu : u < 2 ^ 128) (hv : v < 2 ^ 128) : word_Xor.f (hi u) (lo u) (hi v) (lo v) = some (hi (u ^^^ v), lo (u ^^^ v)) := by
  unfold word_Xor.f; rw [xor_hi u v hu hv, xor_lo]
theorem rbit_j0 (v i : Nat) (hv : v < 2 ^ 128) (hi127 : i ≤ 127) : Ev (fun k => turnpikeref1_Bit.j0 k (i : Int) false (hi v) (lo v)) (((v.testBit (127 - i)).toNat : Nat) : Int) := by
  refine Ev.step (fun k => turnpikeref1_Bit.j0.eq_2 _ _ _ _ _) ?_
  have one (x : Nat) (hx : x < 2 ^ 64) : Go.bits .and .u64 (x : Int) 1 = ((x % 2 : Nat) : Int) := by
    have := bits_and_n x 1 hx (by decide)
    rw [show ((1 : Nat) : Int) = 1 from rfl] at this
    rw [this, Nat.and_one_is_mod]
  simp only [Bool.false_eq_true, if_false]
  by_cases h : i < 64
  · have e : wrap64 (63 - (i : Int)) = ((63 - i : Nat) : Int) := by rw [w64 (by omega) (by omega)]; omega
    have es : shr .u64 (hi v) ((63 - i : Nat) : Int) = ((v / 2 ^ 64 / 2 ^ (63 - i) : Nat) : Int) := shr_n _ _ (by omega)
    have hb : v / 2 ^ 64 / 2 ^ (63 - i) < 2 ^ 64 := Nat.lt_of_le_of_lt (Nat.div_le_self _ _) (hi_lt hv)
    have et : v / 2 ^ 64 / 2 ^ (63 - i) % 2 = (v.testBit (127 - i)).toNat := by
      rw [Nat.toNat_testBit, Nat.div_div_eq_div_mul, ← Nat.pow_add, show 64 + (63 - i) = 127 - i by omega]
    simp only [if_pos (show (i : Int) < 64 by omega), e, if_pos (show (0 : Int) ≤ ((63 - i : Nat) : Int) by omega), es, one _ hb, et]
    rw [w64 (by cases v.testBit (127 - i) <;> decide) (by cases v.testBit (127 - i) <;> decide)]
    exact Ev.now _
  · have e : wrap64 (127 - (i : Int)) = ((127 - i : Nat) : Int) := by rw [w64 (by omega) (by omega)]; omega
    have es : shr .u64 (lo v) ((127 - i : Nat) : Int) = ((v % 2 ^ 64 / 2 ^ (127 - i) : Nat) : Int) := shr_n _ _ (by omega)
    have hb : v % 2 ^ 64 / 2 ^ (127 - i) < 2 ^ 64 := Nat.lt_of_le_of_lt (Nat.div_le_self _ _) (lo_lt v)
    have et : v % 2 ^ 64 / 2 ^ (127 - i) % 2 = (v.testBit (127 - i)).toNat := by
      rw [← Nat.toNat_testBit, lob, decide_eq_true (show 127 - i < 64 by omega), Bool.true_and]
    simp only [if_neg (show ¬ (i : Int) < 64 by omega), e, if_pos (show (0 : Int) ≤ ((127 - i : Nat) : Int) by omega), es, one _ hb, et]
    rw [w64 (by cases v.testBit (127 - i) <;> decide) (by cases v.testBit (127 - i) <;> decide)]
    exact Ev.now _
theorem rbit (v i : Nat) (hv : v < 2 ^ 128) (hi127 : i ≤ 127) : Ev (fun k => turnpikeref1_Bit.f k (hi v) (lo v) (i : Int)) (((v.testBit (127 - i)).toNat : Nat) : Int) := by
  unfold turnpikeref1_Bit.f
  simp only [if_neg (show ¬ (i : Int) < 0 by omega), show decide ((i : Int) > 127) = false from decide_eq_false (by omega)]
  exact rbit_j0 v i hv hi127
end Go.Proofs.YtdjhmapmhajkcaaDoor.Th
