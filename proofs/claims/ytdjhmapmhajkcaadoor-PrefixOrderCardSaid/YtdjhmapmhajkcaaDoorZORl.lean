/- The text of an address as the document writes it: the longest row of noughts, the text itself. -/
import Derived.Test.YtdjhmapmhajkcaaDoorZOTx
import Derived.Test.YtdjhmapmhajkcaaDoorZOGg
import Derived.Test.YtdjhmapmhajkcaaDoorZOLw
namespace Go.Proofs.YtdjhmapmhajkcaaDoor.Th
open Go.RowKit Go.Proofs.YtdjhmapmhajkcaaDoor.X Go.Proofs.YtdjhmapmhajkcaaDoorW.PrintWords
set_option linter.unusedVariables false
set_option linter.unusedSimpArgs false
def zrun (g : List Nat) : Nat → Nat → Nat
  | 0, _ => 0
  | d + 1, i => if g.getD i 0 = 0 then zrun g d (i + 1) + 1 else 0
theorem zrun_le (g : List Nat) : ∀ d i, zrun g d i ≤ d
  | 0, _ => Nat.le_refl _
  | d + 1, i => by
    rw [zrun]; split
    · have := zrun_le g d (i + 1); omega
    · omega
theorem zrun_zero (g : List Nat) : ∀ d i j, i ≤ j → j < i + zrun g d i → g.getD j 0 = 0
  | 0, i, j, h1, h2 => by rw [zrun] at h2; omega
  | d + 1, i, j, h1, h2 => by
    rw [zrun] at h2
    by_cases h : g.getD i 0 = 0
    · rw [if_pos h] at h2
      by_cases e : j = i
      · rw [e]; exact h
      · exact zrun_zero g d (i + 1) j (by omega) (by omega)
    · rw [if_neg h] at h2; omega
def longest (g : List Nat) : Nat → Nat → Nat → Nat → Nat × Nat
  | 0, _, fr, most => (fr, most)
  | d + 1, i, fr, most => if most < zrun g (d + 1) i then longest g d (i + 1) i (zrun g (d + 1) i) else longest g d (i + 1) fr most
theorem longest_fine (g : List Nat) : ∀ d i fr most, i + d = 8 → fr < 8 → fr + most ≤ 8 → (1 < most → ∀ j, fr ≤ j → j < fr + most → g.getD j 0 = 0) →
    (longest g d i fr most).1 < 8 ∧ (longest g d i fr most).1 + (longest g d i fr most).2 ≤ 8 ∧ (1 < (longest g d i fr most).2 → ∀ j, (longest g d i fr most).1 ≤ j → j < (longest g d i fr most).1 + (longest g d i fr most).2 → g.getD j 0 = 0)
  | 0, i, fr, most, _, h1, h2, h3 => ⟨h1, h2, h3⟩
  | d + 1, i, fr, most, hd, h1, h2, h3 => by
    rw [longest]
    split
    · have := zrun_le g (d + 1) i
      exact longest_fine g d (i + 1) i _ (by omega) (by omega) (by omega) (fun _ j hj1 hj2 => zrun_zero g (d + 1) i j hj1 hj2)
    · exact longest_fine g d (i + 1) fr most (by omega) h1 h2 h3
theorem rd_g (g : List Nat) (i : Nat) : rd (ints g) (i : Int) = ((g.getD i 0 : Nat) : Int) := by
  unfold rd ints
  rw [Int.toNat_natCast, List.getD_eq_getElem?_getD, List.getElem?_map, List.getD_eq_getElem?_getD]
  cases g[i]? <;> rfl
def tx (w : Nat) : Txt :=
  let p := longest (gl w 8) 8 0 0 1
  { g := gl w 8, al := alOf false, least := 1, quad := false, fr := p.1, n := if 1 < p.2 then p.2 else 0 }
theorem tx_ok (w : Nat) : Okt (tx w) ∧ ∀ i, (tx w).fr ≤ i → i < (tx w).fr + (tx w).n → (tx w).g.getD i 0 = 0 := by
  obtain ⟨h1, h2, h3⟩ := longest_fine (gl w 8) 8 0 0 1 rfl (by decide) (by decide) (fun h => absurd h (by decide))
  refine ⟨⟨gl_len w 8, gl_lt w 8, alOf_alph false, (by decide : 1 ≤ 4), h1, ?_, fun h => Bool.noConfusion (show false = true from h)⟩, ?_⟩
  · show (longest (gl w 8) 8 0 0 1).1 + (if 1 < (longest (gl w 8) 8 0 0 1).2 then (longest (gl w 8) 8 0 0 1).2 else 0) ≤ 8
    split <;> omega
  · intro i hi1 hi2
    have hi1' : (longest (gl w 8) 8 0 0 1).1 ≤ i := hi1
    have hi2' : i < (longest (gl w 8) 8 0 0 1).1 + (if 1 < (longest (gl w 8) 8 0 0 1).2 then (longest (gl w 8) 8 0 0 1).2 else 0) := hi2
    by_cases h : 1 < (longest (gl w 8) 8 0 0 1).2
    · rw [if_pos h] at hi2'
      exact h3 h i hi1' hi2'
    · rw [if_neg h] at hi2'; omega
def quadT (a b c d : Nat) : List UInt8 := decL a ++ 46 :: (decL b ++ 46 :: (decL c ++ 46 :: decL d))
def textV (f : Int) (w : Nat) : List UInt8 := if f = 32 then quadT (w / 2 ^ 64 / 72057594037927936) (w / 2 ^ 64 / 281474976710656 % 256) (w / 2 ^ 64 / 1099511627776 % 256) (w / 2 ^ 64 / 4294967296 % 256) else FF (tx w) 8 0 []
theorem textV_fine (f : Int) (w : Nat) (hw : w < 2 ^ 128) : textV f w ≠ [] ∧ (textV f w).length ≤ 200 := by
  unfold textV
  by_cases h : f = 32
  · rw [if_pos h]
    have hh := hi_lt hw
    rw [p64] at hh ⊢
    generalize w / 18446744073709551616 = v at hh
    have la := decL_len (v / 72057594037927936) 3 (by decide) (by omega)
    have lb := decL_len (v / 281474976710656 % 256) 3 (by decide) (by omega)
    have lc := decL_len (v / 1099511627776 % 256) 3 (by decide) (by omega)
    have ld := decL_len (v / 4294967296 % 256) 3 (by decide) (by omega)
    unfold quadT
    refine ⟨by simp, ?_⟩
    simp only [List.length_append, List.length_cons]
    omega
  · rw [if_neg h]
    have six := six_text (tx w) (tx_ok w).1 (tx_ok w).2
    have hl := FF_len (tx_ok w).1 8 0 []
    refine ⟨fun e => ?_, by simp only [List.length_nil] at hl; omega⟩
    rw [e] at six
    have : sixV [] = none := rfl
    rw [this] at six
    cases six
end Go.Proofs.YtdjhmapmhajkcaaDoor.Th
