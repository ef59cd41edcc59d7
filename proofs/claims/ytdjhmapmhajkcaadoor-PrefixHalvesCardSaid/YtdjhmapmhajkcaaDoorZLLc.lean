/- Words of 128 bits: how they are compared. -/
import Derived.Test.YtdjhmapmhajkcaaDoorZLLw
import Derived.Test.YtdjhmapmhajkcaaDoorZLX0
import Derived.Test.YtdjhmapmhajkcaaDoorZLX1
namespace Go.Proofs.YtdjhmapmhajkcaaDoor.Th
open Go.RowKit Go.Proofs.YtdjhmapmhajkcaaDoor.X Go.Proofs.YtdjhmapmhajkcaaDoorW.PrintWords Go.Proofs.YtdjhmapmhajkcaaDoorW.PrintLast Go.Proofs.YtdjhmapmhajkcaaDoor.Sm
set_option linter.unusedVariables false
set_option linter.unusedSimpArgs false
theorem split_word {u : Nat} (h : u < 2 ^ 128) : ∃ a b : Nat, a < 18446744073709551616 ∧ b < 18446744073709551616 ∧ u = a * 18446744073709551616 + b ∧ hi u = (a : Int) ∧ lo u = (b : Int) := by
  refine ⟨u / 2 ^ 64, u % 2 ^ 64, p64 ▸ hi_lt h, p64 ▸ lo_lt u, ?_, rfl, rfl⟩
  rw [p64]; omega
theorem hi_of {u a b : Nat} (hb : b < 18446744073709551616) (h : u = a * 18446744073709551616 + b) : hi u = (a : Int) := by
  unfold hi
  rw [h, p64]; omega
theorem lo_of {u a b : Nat} (hb : b < 18446744073709551616) (h : u = a * 18446744073709551616 + b) : lo u = (b : Int) := by
  unfold lo
  rw [h, p64]; omega
theorem ite_some {α : Type} {c : Prop} [Decidable c] {x y : Option α} {r : α} (h1 : c → x = some r) (h2 : ¬ c → y = some r) : (if c then x else y) = some r := by
  by_cases h : c
  · rw [if_pos h]; exact h1 h
  · rw [if_neg h]; exact h2 h
theorem trip {a b a' b' : Int} {c c' : Bool} (h1 : a = a') (h2 : b = b') (h3 : c = c') : some (a, b, c) = some (a', b', c') := by rw [h1, h2, h3]
def cmpV (u v : Nat) : Int := if u < v then -1 else if u = v then 0 else 1
end Go.Proofs.YtdjhmapmhajkcaaDoor.Th
