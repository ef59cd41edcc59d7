/- Numbers as decimal digits: plain theory. -/
import Derived.Test.YtamiaaeaehdahaaDoorZTTh
import Derived.Laws.BytesArg
import Derived.Lib.SmallJoins
namespace Go.Proofs.YtamiaaeaehdahaaDoor.Th
open Go.RowKit Go.Proofs.YtamiaaeaehdahaaDoorW.PrintWords
set_option linter.unusedVariables false
theorem ofBy_append (a b : List UInt8) : OfBy a ++ OfBy b = OfBy (a ++ b) := by
  rw [← ofBy_by (OfBy a ++ OfBy b)]
  show OfBy ((OfBy a ++ OfBy b).data.toList) = _
  rw [Go.Joins.data_append]
theorem ofBy_size (a : List UInt8) : (OfBy a).size = a.length := by rw [size_by, by_ofBy]
theorem ofBy_empty (a : List UInt8) : ((OfBy a).toList = []) ↔ a = [] := by rw [Go.Lib.toList_data]
def d10 (n : Nat) : UInt8 := UInt8.ofNat (48 + n % 10)
def digF : Nat → Nat → List UInt8
  | 0, _ => []
  | f + 1, n => if n = 0 then [] else digF f (n / 10) ++ [d10 n]
def decL (n : Nat) : List UInt8 := if n = 0 then [48] else digF 20 n
theorem digF_len (f n k : Nat) (h : n < 10 ^ k) : (digF f n).length ≤ k := by
  induction f generalizing n k with
  | zero => exact Nat.zero_le _
  | succ f ih =>
    rw [digF]
    split
    · exact Nat.zero_le _
    · cases k with
      | zero => simp at h; omega
      | succ k =>
        have := ih (n / 10) k (by rw [Nat.pow_succ] at h; omega)
        simp; omega
theorem decL_len (n k : Nat) (hk : 1 ≤ k) (h : n < 10 ^ k) : (decL n).length ≤ k := by
  unfold decL
  split
  · simpa using hk
  · exact digF_len 20 n k h
theorem one_digit (n : Nat) : strOfNums [wrap64 (48 + Int.tmod (n : Int) 10) % 256] = OfBy [d10 n] := by
  have h1 : Int.tmod (n : Int) 10 = ((n % 10 : Nat) : Int) := by rw [Int.tmod_eq_emod_of_nonneg (by omega)]; rfl
  have h2 : wrap64 (48 + ((n % 10 : Nat) : Int)) % 256 = ((48 + n % 10 : Nat) : Int) := by unfold wrap64; omega
  rw [h1, h2]
  rfl
theorem tdiv10 (n : Nat) (h : n < 9223372036854775808) : wrap64 (Int.tdiv (n : Int) 10) = ((n / 10 : Nat) : Int) := by
  rw [Int.tdiv_eq_ediv_of_nonneg (by omega)]
  unfold wrap64; omega
end Go.Proofs.YtamiaaeaehdahaaDoor.Th
