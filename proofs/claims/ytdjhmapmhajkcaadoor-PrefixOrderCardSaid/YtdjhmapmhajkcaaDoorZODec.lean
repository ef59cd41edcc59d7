/- Numbers as decimal digits: plain theory. -/
import Derived.Test.YtdjhmapmhajkcaaDoorZOTh
import Derived.Laws.BytesArg
import Derived.Lib.SmallJoins
namespace Go.Proofs.YtdjhmapmhajkcaaDoor.Th
open Go.RowKit Go.Proofs.YtdjhmapmhajkcaaDoorW.PrintWords
set_option linter.unusedVariables false
theorem ofBy_append (a b : List UInt8) : OfBy a ++ OfBy b = OfBy (a ++ b) := by
  rw [← ofBy_by (OfBy a ++ OfBy b)]
  show OfBy ((OfBy a ++ OfBy b).data.toList) = _
  rw [Go.Joins.data_append]
theorem ofBy_size (a : List UInt8) : (OfBy a).size = a.length := by rw [size_by, by_ofBy]
def d10 (n : Nat) : UInt8 := UInt8.ofNat (48 + n % 10)
theorem d10_nat (n : Nat) : (d10 n).toNat = 48 + n % 10 := by
  unfold d10
  rw [UInt8.toNat_ofNat']
  exact Nat.mod_eq_of_lt (by have : n % 10 < 10 := Nat.mod_lt _ (by decide)
                             omega)
def digF : Nat → Nat → List UInt8
  | 0, _ => []
  | f + 1, n => if n = 0 then [] else digF f (n / 10) ++ [d10 n]
def decL (n : Nat) : List UInt8 := if n = 0 then [48] else digF 20 n
theorem digF_isd (f n : Nat) : ∀ c ∈ digF f n, 48 ≤ c.toNat ∧ c.toNat ≤ 57 := by
  induction f generalizing n with
  | zero => intro c h; cases h
  | succ f ih =>
    intro c h
    rw [digF] at h
    split at h
    · cases h
    · rcases List.mem_append.1 h with h | h
      · exact ih _ c h
      · have : c = d10 n := by simpa using h
        rw [this, d10_nat]
        have : n % 10 < 10 := Nat.mod_lt _ (by decide)
        omega
theorem decL_isd (n : Nat) : ∀ c ∈ decL n, 48 ≤ c.toNat ∧ c.toNat ≤ 57 := by
  intro c h
  unfold decL at h
  split at h
  · have : c = 48 := by simpa using h
    rw [this]; exact ⟨Nat.le_refl _, by decide⟩
  · exact digF_isd _ _ c h
theorem digF_val (f n : Nat) (h : n < 10 ^ f) : (digF f n).foldl (fun m c => 10 * m + (c.toNat - 48)) 0 = n := by
  induction f generalizing n with
  | zero => simp at h; subst h; rfl
  | succ f ih =>
    rw [digF]
    split
    · rename_i h0; rw [h0]; rfl
    · rw [List.foldl_append, ih (n / 10) (by rw [Nat.pow_succ] at h; omega)]
      simp only [List.foldl_cons, List.foldl_nil, d10_nat]
      omega
theorem decL_val (n : Nat) (h : n < 10 ^ 20) : (decL n).foldl (fun m c => 10 * m + (c.toNat - 48)) 0 = n := by
  unfold decL
  split
  · rename_i h0; rw [h0]; rfl
  · exact digF_val 20 n h
theorem digF_ne (f n : Nat) (h : n < 10 ^ f) (h0 : n ≠ 0) : digF f n ≠ [] := by
  cases f with
  | zero => simp at h; omega
  | succ f => rw [digF, if_neg h0]; simp
theorem digF_head (f n : Nat) (h : n < 10 ^ f) (h0 : n ≠ 0) : (digF f n).head? ≠ some 48 := by
  induction f generalizing n with
  | zero => simp at h; omega
  | succ f ih =>
    rw [digF, if_neg h0]
    by_cases h1 : n / 10 = 0
    · have : digF f (n / 10) = [] := by rw [h1]; cases f <;> rfl
      rw [this, List.nil_append]
      simp only [List.head?_cons, ne_eq, Option.some.injEq]
      intro e
      have := congrArg UInt8.toNat e
      rw [d10_nat] at this
      have h48 : (48 : UInt8).toNat = 48 := rfl
      omega
    · have hlt : n / 10 < 10 ^ f := by rw [Nat.pow_succ] at h; omega
      have h2 := digF_ne f (n / 10) hlt h1
      have h3 := ih (n / 10) hlt h1
      cases hd : digF f (n / 10) with
      | nil => exact absurd hd h2
      | cons c l => rw [hd] at h3; simpa using h3
theorem digF_len (f n k : Nat) (h : n < 10 ^ k) : (digF f n).length ≤ k := by
  induction f generalizing n k with
  | zero => exact Nat.zero_le _
  | succ f ih =>
    rw [digF]
    split
    · exact Nat.zero_le _
    · cases k with
      | zero => simp at h; omega
      | succ k =>
        have := ih (n / 10) k (by rw [Nat.pow_succ] at h; omega)
        simp; omega
theorem decL_ne (n : Nat) (h : n < 10 ^ 20) : decL n ≠ [] := by
  unfold decL
  split
  · simp
  · exact digF_ne 20 n h ‹_›
theorem decL_len (n k : Nat) (hk : 1 ≤ k) (h : n < 10 ^ k) : (decL n).length ≤ k := by
  unfold decL
  split
  · simpa using hk
  · exact digF_len 20 n k h
theorem decL_head (n : Nat) (h : n < 10 ^ 20) (hl : 1 < (decL n).length) : (decL n).head? ≠ some 48 := by
  unfold decL at hl ⊢
  split at hl
  · simp at hl
  · rename_i h0; rw [if_neg h0]; exact digF_head 20 n h h0
end Go.Proofs.YtdjhmapmhajkcaaDoor.Th
