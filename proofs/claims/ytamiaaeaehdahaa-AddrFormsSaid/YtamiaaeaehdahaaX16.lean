-- Printed by a program of this session (xprint.py, over the kit's printer)
import Derived.Test.YtamiaaeaehdahaaX0
import Derived.Test.YtamiaaeaehdahaaX1
import Derived.Test.YtamiaaeaehdahaaX3
import Derived.Test.YtamiaaeaehdahaaX4
import Derived.Test.YtamiaaeaehdahaaX8
import Derived.Test.YtamiaaeaehdahaaX13
import Derived.Test.YtamiaaeaehdahaaX15
namespace Go.Proofs.Ytamiaaeaehdahaa.X
open Go.RowKit Go.Proofs.YtamiaaeaehdahaaW.PrintWords Go.Proofs.YtamiaaeaehdahaaW.PrintLast Go.Proofs.Ytamiaaeaehdahaa.Sm
set_option linter.unusedVariables false
set_option linter.unusedSimpArgs false

attribute [local go_sem high] eqA24
/-! ### turnpikelaw2_AddrForms: function 5 -/
mutual
def turnpikelaw2_AddrForms.l0 : Nat → Int → Bool → Int → Int → Bool → List Int → Int → Int → Int → Option (Bool)
  | 0, _, _, _, _, _, _, _, _, _ => none
  | k + 1, x1, x2, x3, x4, x5, x13, x14, x313000, x313001 => if x14 < 8 then ((turnpikeref1_Field.f x313000 x313001 (wrap64 (16 * x14)) 16).bind fun bt317 => (if x13.length < 17592186044416 then (turnpikelaw2_AddrForms.l0 k x1 x2 x3 x4 x5 (x13 ++ [wrap64 (bt317.2.1)]) (wrap64 (x14 + 1)) x313000 x313001) else (none))) else (turnpikelaw2_AddrForms.l1 k x1 x2 x3 x4 x5 x13 x3)
def turnpikelaw2_AddrForms.l1 : Nat → Int → Bool → Int → Int → Bool → List Int → Int → Option (Bool)
  | 0, _, _, _, _, _, _, _ => none
  | k + 1, x1, x2, x3, x4, x5, x13, x17 => if x17 < (wrap64 (x3 + x4)) then (if 0 ≤ x17 then (if x17 < (x13.length : Int) then (turnpikelaw2_AddrForms.l1 k x1 x2 x3 x4 x5 (x13.set (x17 : Int).toNat 0) (wrap64 (x17 + 1))) else (none)) else (none)) else (turnpikelaw2_AddrForms.l2 k x1 x2 x3 x4 x5 x13 0 0 0)
def turnpikelaw2_AddrForms.l2 : Nat → Int → Bool → Int → Int → Bool → List Int → Int → Int → Int → Option (Bool)
  | 0, _, _, _, _, _, _, _, _, _ => none
  | k + 1, x1, x2, x3, x4, x5, x13, x19, x326000, x326001 => if x19 < 8 then ((turnpikeref1_Shl.f x326000 x326001 16).bind fun bt326 => (if 0 ≤ x19 then (if x19 < (x13.length : Int) then (turnpikelaw2_AddrForms.l2 k x1 x2 x3 x4 x5 x13 (wrap64 (x19 + 1)) bt326.1 (Go.bits .or .u64 bt326.2 (IntKind.u64.wrap (rd x13 x19)))) else (none)) else (none))) else (if x4 > 0 then (turnpikelaw2_AddrForms.j3 k x1 x2 x3 x4 x5 x13 (decide ((wrap64 (x3 + x4)) > 6)) x326000 x326001) else (turnpikelaw2_AddrForms.j3 k x1 x2 x3 x4 x5 x13 false x326000 x326001))
def turnpikelaw2_AddrForms.j3 : Nat → Int → Bool → Int → Int → Bool → List Int → Bool → Int → Int → Option (Bool)
  | 0, _, _, _, _, _, _, _, _, _ => none
  | k + 1, x1, x2, x3, x4, x5, x13, x86, x326000, x326001 => if x86 = true then (turnpikelaw2_AddrForms.j4 k x1 x2 x3 x4 false x13 x326000 x326001) else (turnpikelaw2_AddrForms.j4 k x1 x2 x3 x4 x5 x13 x326000 x326001)
def turnpikelaw2_AddrForms.j4 : Nat → Int → Bool → Int → Int → Bool → List Int → Int → Int → Option (Bool)
  | 0, _, _, _, _, _, _, _, _ => none
  | k + 1, x1, x2, x3, x4, x5, x13, x326000, x326001 => turnpikelaw2_AddrForms.l3 k x1 x2 x3 x4 x5 x13 (⟨#[]⟩ : ByteArray) 0 x326000 x326001
def turnpikelaw2_AddrForms.l3 : Nat → Int → Bool → Int → Int → Bool → List Int → ByteArray → Int → Int → Int → Option (Bool)
  | 0, _, _, _, _, _, _, _, _, _, _ => none
  | k + 1, x1, x2, x3, x4, x5, x13, x20, x21, x326000, x326001 => if x21 < 8 then (if x4 > 0 then (turnpikelaw2_AddrForms.j6 k x1 x2 x3 x4 x5 x13 x20 x21 (x21 == x3) x326000 x326001) else (turnpikelaw2_AddrForms.j6 k x1 x2 x3 x4 x5 x13 x20 x21 false x326000 x326001)) else ((addr_Parse.f k 128 x20).bind fun bt329 => (if bt329.2.2 = 0 then (some (bt329.1 == x326000 && (bt329.2.1 == x326001))) else (some false)))
def turnpikelaw2_AddrForms.j6 : Nat → Int → Bool → Int → Int → Bool → List Int → ByteArray → Int → Bool → Int → Int → Option (Bool)
  | 0, _, _, _, _, _, _, _, _, _, _, _ => none
  | k + 1, x1, x2, x3, x4, x5, x13, x20, x21, x97, x326000, x326001 => if x97 = true then (if x20.size + 2 ≤ 9223372036854775807 then (turnpikelaw2_AddrForms.l3 k x1 x2 x3 x4 x5 x13 (x20 ++ (⟨#[58, 58]⟩ : ByteArray)) (wrap64 ((wrap64 ((wrap64 (x21 + x4)) - 1)) + 1)) x326000 x326001) else (none)) else (if x20.toList = ([] : List UInt8) then (turnpikelaw2_AddrForms.j7 k x1 x2 x3 x4 x5 x13 x20 x21 false x326000 x326001) else (if 0 ≤ (wrap64 ((x20.size : Int) - 1)) then (if (wrap64 ((x20.size : Int) - 1)) < (x20.size : Int) then (turnpikelaw2_AddrForms.j7 k x1 x2 x3 x4 x5 x13 x20 x21 ((bt x20 (wrap64 ((x20.size : Int) - 1))) != 58) x326000 x326001) else (none)) else (none)))
def turnpikelaw2_AddrForms.j7 : Nat → Int → Bool → Int → Int → Bool → List Int → ByteArray → Int → Bool → Int → Int → Option (Bool)
  | 0, _, _, _, _, _, _, _, _, _, _, _ => none
  | k + 1, x1, x2, x3, x4, x5, x13, x20, x21, x113, x326000, x326001 => if x113 = true then (if x20.size + 1 ≤ 9223372036854775807 then (turnpikelaw2_AddrForms.j8 k x1 x2 x3 x4 x5 x13 (x20 ++ (⟨#[58]⟩ : ByteArray)) x21 x326000 x326001) else (none)) else (turnpikelaw2_AddrForms.j8 k x1 x2 x3 x4 x5 x13 x20 x21 x326000 x326001)
def turnpikelaw2_AddrForms.j8 : Nat → Int → Bool → Int → Int → Bool → List Int → ByteArray → Int → Int → Int → Option (Bool)
  | 0, _, _, _, _, _, _, _, _, _, _ => none
  | k + 1, x1, x2, x3, x4, x5, x13, x20, x21, x326000, x326001 => if x5 = true then (turnpikelaw2_AddrForms.j9 k x1 x2 x3 x4 x5 x13 x20 x21 (x21 == 6) x326000 x326001) else (turnpikelaw2_AddrForms.j9 k x1 x2 x3 x4 x5 x13 x20 x21 false x326000 x326001)
def turnpikelaw2_AddrForms.j9 : Nat → Int → Bool → Int → Int → Bool → List Int → ByteArray → Int → Bool → Int → Int → Option (Bool)
  | 0, _, _, _, _, _, _, _, _, _, _, _ => none
  | k + 1, x1, x2, x3, x4, x5, x13, x20, x21, x120, x326000, x326001 => if x120 = true then (if 6 < (x13.length : Int) then (if 7 < (x13.length : Int) then ((turnpikelaw2_octets.f k (rd x13 6) (rd x13 7)).bind fun t335 => (if x20.size + t335.size ≤ 9223372036854775807 then ((addr_Parse.f k 128 (x20 ++ t335)).bind fun bt336 => (if bt336.2.2 = 0 then (some (bt336.1 == x326000 && (bt336.2.1 == x326001))) else (some false))) else (none))) else (none)) else (none)) else (if 0 ≤ x21 then (if x21 < (x13.length : Int) then ((turnpikelaw2_digits.f k (rd x13 x21) x1 x2).bind fun t341 => (if x20.size + t341.size ≤ 9223372036854775807 then (turnpikelaw2_AddrForms.l3 k x1 x2 x3 x4 x5 x13 (x20 ++ t341) (wrap64 (x21 + 1)) x326000 x326001) else (none))) else (none)) else (none))
end
def turnpikelaw2_AddrForms.f (k : Nat) (a0_0 : Int) (a0_1 : Int) (a1 : Int) (a2 : Bool) (a3 : Int) (a4 : Int) (a5 : Bool) : Option (Bool) := (turnpikelaw2_known.f k).bind fun t313 => (if t313 = true then ((turnpikelaw2_within.f a1 4).bind fun t314 => ((turnpikelaw2_within.f a3 8).bind fun t315 => ((turnpikelaw2_within.f a4 (wrap64 ((wrap64 (8 - t315)) + 1))).bind fun t316 => (turnpikelaw2_AddrForms.l0 k (wrap64 (1 + t314)) a2 t315 t316 a5 ([] : List Int) 0 a0_0 a0_1)))) else (some false))
theorem turnpikelaw2_AddrForms.mono_l : ∀ k, (∀ y0 y1 y2 y3 y4 y5 y6 y7 y8, LeO (turnpikelaw2_AddrForms.l0 k y0 y1 y2 y3 y4 y5 y6 y7 y8) (turnpikelaw2_AddrForms.l0 (k + 1) y0 y1 y2 y3 y4 y5 y6 y7 y8)) ∧ (∀ y0 y1 y2 y3 y4 y5 y6, LeO (turnpikelaw2_AddrForms.l1 k y0 y1 y2 y3 y4 y5 y6) (turnpikelaw2_AddrForms.l1 (k + 1) y0 y1 y2 y3 y4 y5 y6)) ∧ (∀ y0 y1 y2 y3 y4 y5 y6 y7 y8, LeO (turnpikelaw2_AddrForms.l2 k y0 y1 y2 y3 y4 y5 y6 y7 y8) (turnpikelaw2_AddrForms.l2 (k + 1) y0 y1 y2 y3 y4 y5 y6 y7 y8)) ∧ (∀ y0 y1 y2 y3 y4 y5 y6 y7 y8, LeO (turnpikelaw2_AddrForms.j3 k y0 y1 y2 y3 y4 y5 y6 y7 y8) (turnpikelaw2_AddrForms.j3 (k + 1) y0 y1 y2 y3 y4 y5 y6 y7 y8)) ∧ (∀ y0 y1 y2 y3 y4 y5 y6 y7, LeO (turnpikelaw2_AddrForms.j4 k y0 y1 y2 y3 y4 y5 y6 y7) (turnpikelaw2_AddrForms.j4 (k + 1) y0 y1 y2 y3 y4 y5 y6 y7)) ∧ (∀ y0 y1 y2 y3 y4 y5 y6 y7 y8 y9, LeO (turnpikelaw2_AddrForms.l3 k y0 y1 y2 y3 y4 y5 y6 y7 y8 y9) (turnpikelaw2_AddrForms.l3 (k + 1) y0 y1 y2 y3 y4 y5 y6 y7 y8 y9)) ∧ (∀ y0 y1 y2 y3 y4 y5 y6 y7 y8 y9 y10, LeO (turnpikelaw2_AddrForms.j6 k y0 y1 y2 y3 y4 y5 y6 y7 y8 y9 y10) (turnpikelaw2_AddrForms.j6 (k + 1) y0 y1 y2 y3 y4 y5 y6 y7 y8 y9 y10)) ∧ (∀ y0 y1 y2 y3 y4 y5 y6 y7 y8 y9 y10, LeO (turnpikelaw2_AddrForms.j7 k y0 y1 y2 y3 y4 y5 y6 y7 y8 y9 y10) (turnpikelaw2_AddrForms.j7 (k + 1) y0 y1 y2 y3 y4 y5 y6 y7 y8 y9 y10)) ∧ (∀ y0 y1 y2 y3 y4 y5 y6 y7 y8 y9, LeO (turnpikelaw2_AddrForms.j8 k y0 y1 y2 y3 y4 y5 y6 y7 y8 y9) (turnpikelaw2_AddrForms.j8 (k + 1) y0 y1 y2 y3 y4 y5 y6 y7 y8 y9)) ∧ (∀ y0 y1 y2 y3 y4 y5 y6 y7 y8 y9 y10, LeO (turnpikelaw2_AddrForms.j9 k y0 y1 y2 y3 y4 y5 y6 y7 y8 y9 y10) (turnpikelaw2_AddrForms.j9 (k + 1) y0 y1 y2 y3 y4 y5 y6 y7 y8 y9 y10))
  | 0 => ⟨fun _ _ _ _ _ _ _ _ _ r h => by simp [turnpikelaw2_AddrForms.l0] at h, fun _ _ _ _ _ _ _ r h => by simp [turnpikelaw2_AddrForms.l1] at h, fun _ _ _ _ _ _ _ _ _ r h => by simp [turnpikelaw2_AddrForms.l2] at h, fun _ _ _ _ _ _ _ _ _ r h => by simp [turnpikelaw2_AddrForms.j3] at h, fun _ _ _ _ _ _ _ _ r h => by simp [turnpikelaw2_AddrForms.j4] at h, fun _ _ _ _ _ _ _ _ _ _ r h => by simp [turnpikelaw2_AddrForms.l3] at h, fun _ _ _ _ _ _ _ _ _ _ _ r h => by simp [turnpikelaw2_AddrForms.j6] at h, fun _ _ _ _ _ _ _ _ _ _ _ r h => by simp [turnpikelaw2_AddrForms.j7] at h, fun _ _ _ _ _ _ _ _ _ _ r h => by simp [turnpikelaw2_AddrForms.j8] at h, fun _ _ _ _ _ _ _ _ _ _ _ r h => by simp [turnpikelaw2_AddrForms.j9] at h⟩
  | k + 1 => by
    obtain ⟨ih0, ih1, ih2, ih3, ih4, ih5, ih6, ih7, ih8, ih9⟩ := turnpikelaw2_AddrForms.mono_l k
    refine ⟨?_, ?_, ?_, ?_, ?_, ?_, ?_, ?_, ?_, ?_⟩
    · intro y0 y1 y2 y3 y4 y5 y6 y7 y8
      unfold turnpikelaw2_AddrForms.l0
      repeat' first
      | (with_reducible exact ih0 _ _ _ _ _ _ _ _ _)
      | (with_reducible exact ih1 _ _ _ _ _ _ _)
      | (with_reducible exact ih2 _ _ _ _ _ _ _ _ _)
      | (with_reducible exact ih3 _ _ _ _ _ _ _ _ _)
      | (with_reducible exact ih4 _ _ _ _ _ _ _ _)
      | (with_reducible exact ih5 _ _ _ _ _ _ _ _ _ _)
      | (with_reducible exact ih6 _ _ _ _ _ _ _ _ _ _ _)
      | (with_reducible exact ih7 _ _ _ _ _ _ _ _ _ _ _)
      | (with_reducible exact ih8 _ _ _ _ _ _ _ _ _ _)
      | (with_reducible exact ih9 _ _ _ _ _ _ _ _ _ _ _)
      | (with_reducible exact addr_Parse.mono _ _ _)
      | (with_reducible exact turnpikelaw2_digits.mono _ _ _ _)
      | (with_reducible exact turnpikelaw2_known.mono _)
      | (with_reducible exact turnpikelaw2_octets.mono _ _ _)
      | (with_reducible exact LeO.refl _)
      | (with_reducible exact LeO.none _)
      | (with_reducible refine LeO.ite ?_ ?_)
      | (with_reducible refine LeO.bind ?_ (fun _ => ?_))
      | exact ih0 _ _ _ _ _ _ _ _ _
      | exact ih1 _ _ _ _ _ _ _
      | exact ih2 _ _ _ _ _ _ _ _ _
      | exact ih3 _ _ _ _ _ _ _ _ _
      | exact ih4 _ _ _ _ _ _ _ _
      | exact ih5 _ _ _ _ _ _ _ _ _ _
      | exact ih6 _ _ _ _ _ _ _ _ _ _ _
      | exact ih7 _ _ _ _ _ _ _ _ _ _ _
      | exact ih8 _ _ _ _ _ _ _ _ _ _
      | exact ih9 _ _ _ _ _ _ _ _ _ _ _
      | exact addr_Parse.mono _ _ _
      | exact turnpikelaw2_digits.mono _ _ _ _
      | exact turnpikelaw2_known.mono _
      | exact turnpikelaw2_octets.mono _ _ _
      | exact LeO.none _
      | refine LeO.ite ?_ ?_
      | refine LeO.bind ?_ (fun _ => ?_)
    · intro y0 y1 y2 y3 y4 y5 y6
      unfold turnpikelaw2_AddrForms.l1
      repeat' first
      | (with_reducible exact ih0 _ _ _ _ _ _ _ _ _)
      | (with_reducible exact ih1 _ _ _ _ _ _ _)
      | (with_reducible exact ih2 _ _ _ _ _ _ _ _ _)
      | (with_reducible exact ih3 _ _ _ _ _ _ _ _ _)
      | (with_reducible exact ih4 _ _ _ _ _ _ _ _)
      | (with_reducible exact ih5 _ _ _ _ _ _ _ _ _ _)
      | (with_reducible exact ih6 _ _ _ _ _ _ _ _ _ _ _)
      | (with_reducible exact ih7 _ _ _ _ _ _ _ _ _ _ _)
      | (with_reducible exact ih8 _ _ _ _ _ _ _ _ _ _)
      | (with_reducible exact ih9 _ _ _ _ _ _ _ _ _ _ _)
      | (with_reducible exact addr_Parse.mono _ _ _)
      | (with_reducible exact turnpikelaw2_digits.mono _ _ _ _)
      | (with_reducible exact turnpikelaw2_known.mono _)
      | (with_reducible exact turnpikelaw2_octets.mono _ _ _)
      | (with_reducible exact LeO.refl _)
      | (with_reducible exact LeO.none _)
      | (with_reducible refine LeO.ite ?_ ?_)
      | (with_reducible refine LeO.bind ?_ (fun _ => ?_))
      | exact ih0 _ _ _ _ _ _ _ _ _
      | exact ih1 _ _ _ _ _ _ _
      | exact ih2 _ _ _ _ _ _ _ _ _
      | exact ih3 _ _ _ _ _ _ _ _ _
      | exact ih4 _ _ _ _ _ _ _ _
      | exact ih5 _ _ _ _ _ _ _ _ _ _
      | exact ih6 _ _ _ _ _ _ _ _ _ _ _
      | exact ih7 _ _ _ _ _ _ _ _ _ _ _
      | exact ih8 _ _ _ _ _ _ _ _ _ _
      | exact ih9 _ _ _ _ _ _ _ _ _ _ _
      | exact addr_Parse.mono _ _ _
      | exact turnpikelaw2_digits.mono _ _ _ _
      | exact turnpikelaw2_known.mono _
      | exact turnpikelaw2_octets.mono _ _ _
      | exact LeO.none _
      | refine LeO.ite ?_ ?_
      | refine LeO.bind ?_ (fun _ => ?_)
    · intro y0 y1 y2 y3 y4 y5 y6 y7 y8
      unfold turnpikelaw2_AddrForms.l2
      repeat' first
      | (with_reducible exact ih0 _ _ _ _ _ _ _ _ _)
      | (with_reducible exact ih1 _ _ _ _ _ _ _)
      | (with_reducible exact ih2 _ _ _ _ _ _ _ _ _)
      | (with_reducible exact ih3 _ _ _ _ _ _ _ _ _)
      | (with_reducible exact ih4 _ _ _ _ _ _ _ _)
      | (with_reducible exact ih5 _ _ _ _ _ _ _ _ _ _)
      | (with_reducible exact ih6 _ _ _ _ _ _ _ _ _ _ _)
      | (with_reducible exact ih7 _ _ _ _ _ _ _ _ _ _ _)
      | (with_reducible exact ih8 _ _ _ _ _ _ _ _ _ _)
      | (with_reducible exact ih9 _ _ _ _ _ _ _ _ _ _ _)
      | (with_reducible exact addr_Parse.mono _ _ _)
      | (with_reducible exact turnpikelaw2_digits.mono _ _ _ _)
      | (with_reducible exact turnpikelaw2_known.mono _)
      | (with_reducible exact turnpikelaw2_octets.mono _ _ _)
      | (with_reducible exact LeO.refl _)
      | (with_reducible exact LeO.none _)
      | (with_reducible refine LeO.ite ?_ ?_)
      | (with_reducible refine LeO.bind ?_ (fun _ => ?_))
      | exact ih0 _ _ _ _ _ _ _ _ _
      | exact ih1 _ _ _ _ _ _ _
      | exact ih2 _ _ _ _ _ _ _ _ _
      | exact ih3 _ _ _ _ _ _ _ _ _
      | exact ih4 _ _ _ _ _ _ _ _
      | exact ih5 _ _ _ _ _ _ _ _ _ _
      | exact ih6 _ _ _ _ _ _ _ _ _ _ _
      | exact ih7 _ _ _ _ _ _ _ _ _ _ _
      | exact ih8 _ _ _ _ _ _ _ _ _ _
      | exact ih9 _ _ _ _ _ _ _ _ _ _ _
      | exact addr_Parse.mono _ _ _
      | exact turnpikelaw2_digits.mono _ _ _ _
      | exact turnpikelaw2_known.mono _
      | exact turnpikelaw2_octets.mono _ _ _
      | exact LeO.none _
      | refine LeO.ite ?_ ?_
      | refine LeO.bind ?_ (fun _ => ?_)
    · intro y0 y1 y2 y3 y4 y5 y6 y7 y8
      unfold turnpikelaw2_AddrForms.j3
      repeat' first
      | (with_reducible exact ih0 _ _ _ _ _ _ _ _ _)
      | (with_reducible exact ih1 _ _ _ _ _ _ _)
      | (with_reducible exact ih2 _ _ _ _ _ _ _ _ _)
      | (with_reducible exact ih3 _ _ _ _ _ _ _ _ _)
      | (with_reducible exact ih4 _ _ _ _ _ _ _ _)
      | (with_reducible exact ih5 _ _ _ _ _ _ _ _ _ _)
      | (with_reducible exact ih6 _ _ _ _ _ _ _ _ _ _ _)
      | (with_reducible exact ih7 _ _ _ _ _ _ _ _ _ _ _)
      | (with_reducible exact ih8 _ _ _ _ _ _ _ _ _ _)
      | (with_reducible exact ih9 _ _ _ _ _ _ _ _ _ _ _)
      | (with_reducible exact addr_Parse.mono _ _ _)
      | (with_reducible exact turnpikelaw2_digits.mono _ _ _ _)
      | (with_reducible exact turnpikelaw2_known.mono _)
      | (with_reducible exact turnpikelaw2_octets.mono _ _ _)
      | (with_reducible exact LeO.refl _)
      | (with_reducible exact LeO.none _)
      | (with_reducible refine LeO.ite ?_ ?_)
      | (with_reducible refine LeO.bind ?_ (fun _ => ?_))
      | exact ih0 _ _ _ _ _ _ _ _ _
      | exact ih1 _ _ _ _ _ _ _
      | exact ih2 _ _ _ _ _ _ _ _ _
      | exact ih3 _ _ _ _ _ _ _ _ _
      | exact ih4 _ _ _ _ _ _ _ _
      | exact ih5 _ _ _ _ _ _ _ _ _ _
      | exact ih6 _ _ _ _ _ _ _ _ _ _ _
      | exact ih7 _ _ _ _ _ _ _ _ _ _ _
      | exact ih8 _ _ _ _ _ _ _ _ _ _
      | exact ih9 _ _ _ _ _ _ _ _ _ _ _
      | exact addr_Parse.mono _ _ _
      | exact turnpikelaw2_digits.mono _ _ _ _
      | exact turnpikelaw2_known.mono _
      | exact turnpikelaw2_octets.mono _ _ _
      | exact LeO.none _
      | refine LeO.ite ?_ ?_
      | refine LeO.bind ?_ (fun _ => ?_)
    · intro y0 y1 y2 y3 y4 y5 y6 y7
      unfold turnpikelaw2_AddrForms.j4
      repeat' first
      | (with_reducible exact ih0 _ _ _ _ _ _ _ _ _)
      | (with_reducible exact ih1 _ _ _ _ _ _ _)
      | (with_reducible exact ih2 _ _ _ _ _ _ _ _ _)
      | (with_reducible exact ih3 _ _ _ _ _ _ _ _ _)
      | (with_reducible exact ih4 _ _ _ _ _ _ _ _)
      | (with_reducible exact ih5 _ _ _ _ _ _ _ _ _ _)
      | (with_reducible exact ih6 _ _ _ _ _ _ _ _ _ _ _)
      | (with_reducible exact ih7 _ _ _ _ _ _ _ _ _ _ _)
      | (with_reducible exact ih8 _ _ _ _ _ _ _ _ _ _)
      | (with_reducible exact ih9 _ _ _ _ _ _ _ _ _ _ _)
      | (with_reducible exact addr_Parse.mono _ _ _)
      | (with_reducible exact turnpikelaw2_digits.mono _ _ _ _)
      | (with_reducible exact turnpikelaw2_known.mono _)
      | (with_reducible exact turnpikelaw2_octets.mono _ _ _)
      | (with_reducible exact LeO.refl _)
      | (with_reducible exact LeO.none _)
      | (with_reducible refine LeO.ite ?_ ?_)
      | (with_reducible refine LeO.bind ?_ (fun _ => ?_))
      | exact ih0 _ _ _ _ _ _ _ _ _
      | exact ih1 _ _ _ _ _ _ _
      | exact ih2 _ _ _ _ _ _ _ _ _
      | exact ih3 _ _ _ _ _ _ _ _ _
      | exact ih4 _ _ _ _ _ _ _ _
      | exact ih5 _ _ _ _ _ _ _ _ _ _
      | exact ih6 _ _ _ _ _ _ _ _ _ _ _
      | exact ih7 _ _ _ _ _ _ _ _ _ _ _
      | exact ih8 _ _ _ _ _ _ _ _ _ _
      | exact ih9 _ _ _ _ _ _ _ _ _ _ _
      | exact addr_Parse.mono _ _ _
      | exact turnpikelaw2_digits.mono _ _ _ _
      | exact turnpikelaw2_known.mono _
      | exact turnpikelaw2_octets.mono _ _ _
      | exact LeO.none _
      | refine LeO.ite ?_ ?_
      | refine LeO.bind ?_ (fun _ => ?_)
    · intro y0 y1 y2 y3 y4 y5 y6 y7 y8 y9
      unfold turnpikelaw2_AddrForms.l3
      repeat' first
      | (with_reducible exact ih0 _ _ _ _ _ _ _ _ _)
      | (with_reducible exact ih1 _ _ _ _ _ _ _)
      | (with_reducible exact ih2 _ _ _ _ _ _ _ _ _)
      | (with_reducible exact ih3 _ _ _ _ _ _ _ _ _)
      | (with_reducible exact ih4 _ _ _ _ _ _ _ _)
      | (with_reducible exact ih5 _ _ _ _ _ _ _ _ _ _)
      | (with_reducible exact ih6 _ _ _ _ _ _ _ _ _ _ _)
      | (with_reducible exact ih7 _ _ _ _ _ _ _ _ _ _ _)
      | (with_reducible exact ih8 _ _ _ _ _ _ _ _ _ _)
      | (with_reducible exact ih9 _ _ _ _ _ _ _ _ _ _ _)
      | (with_reducible exact addr_Parse.mono _ _ _)
      | (with_reducible exact turnpikelaw2_digits.mono _ _ _ _)
      | (with_reducible exact turnpikelaw2_known.mono _)
      | (with_reducible exact turnpikelaw2_octets.mono _ _ _)
      | (with_reducible exact LeO.refl _)
      | (with_reducible exact LeO.none _)
      | (with_reducible refine LeO.ite ?_ ?_)
      | (with_reducible refine LeO.bind ?_ (fun _ => ?_))
      | exact ih0 _ _ _ _ _ _ _ _ _
      | exact ih1 _ _ _ _ _ _ _
      | exact ih2 _ _ _ _ _ _ _ _ _
      | exact ih3 _ _ _ _ _ _ _ _ _
      | exact ih4 _ _ _ _ _ _ _ _
      | exact ih5 _ _ _ _ _ _ _ _ _ _
      | exact ih6 _ _ _ _ _ _ _ _ _ _ _
      | exact ih7 _ _ _ _ _ _ _ _ _ _ _
      | exact ih8 _ _ _ _ _ _ _ _ _ _
      | exact ih9 _ _ _ _ _ _ _ _ _ _ _
      | exact addr_Parse.mono _ _ _
      | exact turnpikelaw2_digits.mono _ _ _ _
      | exact turnpikelaw2_known.mono _
      | exact turnpikelaw2_octets.mono _ _ _
      | exact LeO.none _
      | refine LeO.ite ?_ ?_
      | refine LeO.bind ?_ (fun _ => ?_)
    · intro y0 y1 y2 y3 y4 y5 y6 y7 y8 y9 y10
      unfold turnpikelaw2_AddrForms.j6
      repeat' first
      | (with_reducible exact ih0 _ _ _ _ _ _ _ _ _)
      | (with_reducible exact ih1 _ _ _ _ _ _ _)
      | (with_reducible exact ih2 _ _ _ _ _ _ _ _ _)
      | (with_reducible exact ih3 _ _ _ _ _ _ _ _ _)
      | (with_reducible exact ih4 _ _ _ _ _ _ _ _)
      | (with_reducible exact ih5 _ _ _ _ _ _ _ _ _ _)
      | (with_reducible exact ih6 _ _ _ _ _ _ _ _ _ _ _)
      | (with_reducible exact ih7 _ _ _ _ _ _ _ _ _ _ _)
      | (with_reducible exact ih8 _ _ _ _ _ _ _ _ _ _)
      | (with_reducible exact ih9 _ _ _ _ _ _ _ _ _ _ _)
      | (with_reducible exact addr_Parse.mono _ _ _)
      | (with_reducible exact turnpikelaw2_digits.mono _ _ _ _)
      | (with_reducible exact turnpikelaw2_known.mono _)
      | (with_reducible exact turnpikelaw2_octets.mono _ _ _)
      | (with_reducible exact LeO.refl _)
      | (with_reducible exact LeO.none _)
      | (with_reducible refine LeO.ite ?_ ?_)
      | (with_reducible refine LeO.bind ?_ (fun _ => ?_))
      | exact ih0 _ _ _ _ _ _ _ _ _
      | exact ih1 _ _ _ _ _ _ _
      | exact ih2 _ _ _ _ _ _ _ _ _
      | exact ih3 _ _ _ _ _ _ _ _ _
      | exact ih4 _ _ _ _ _ _ _ _
      | exact ih5 _ _ _ _ _ _ _ _ _ _
      | exact ih6 _ _ _ _ _ _ _ _ _ _ _
      | exact ih7 _ _ _ _ _ _ _ _ _ _ _
      | exact ih8 _ _ _ _ _ _ _ _ _ _
      | exact ih9 _ _ _ _ _ _ _ _ _ _ _
      | exact addr_Parse.mono _ _ _
      | exact turnpikelaw2_digits.mono _ _ _ _
      | exact turnpikelaw2_known.mono _
      | exact turnpikelaw2_octets.mono _ _ _
      | exact LeO.none _
      | refine LeO.ite ?_ ?_
      | refine LeO.bind ?_ (fun _ => ?_)
    · intro y0 y1 y2 y3 y4 y5 y6 y7 y8 y9 y10
      unfold turnpikelaw2_AddrForms.j7
      repeat' first
      | (with_reducible exact ih0 _ _ _ _ _ _ _ _ _)
      | (with_reducible exact ih1 _ _ _ _ _ _ _)
      | (with_reducible exact ih2 _ _ _ _ _ _ _ _ _)
      | (with_reducible exact ih3 _ _ _ _ _ _ _ _ _)
      | (with_reducible exact ih4 _ _ _ _ _ _ _ _)
      | (with_reducible exact ih5 _ _ _ _ _ _ _ _ _ _)
      | (with_reducible exact ih6 _ _ _ _ _ _ _ _ _ _ _)
      | (with_reducible exact ih7 _ _ _ _ _ _ _ _ _ _ _)
      | (with_reducible exact ih8 _ _ _ _ _ _ _ _ _ _)
      | (with_reducible exact ih9 _ _ _ _ _ _ _ _ _ _ _)
      | (with_reducible exact addr_Parse.mono _ _ _)
      | (with_reducible exact turnpikelaw2_digits.mono _ _ _ _)
      | (with_reducible exact turnpikelaw2_known.mono _)
      | (with_reducible exact turnpikelaw2_octets.mono _ _ _)
      | (with_reducible exact LeO.refl _)
      | (with_reducible exact LeO.none _)
      | (with_reducible refine LeO.ite ?_ ?_)
      | (with_reducible refine LeO.bind ?_ (fun _ => ?_))
      | exact ih0 _ _ _ _ _ _ _ _ _
      | exact ih1 _ _ _ _ _ _ _
      | exact ih2 _ _ _ _ _ _ _ _ _
      | exact ih3 _ _ _ _ _ _ _ _ _
      | exact ih4 _ _ _ _ _ _ _ _
      | exact ih5 _ _ _ _ _ _ _ _ _ _
      | exact ih6 _ _ _ _ _ _ _ _ _ _ _
      | exact ih7 _ _ _ _ _ _ _ _ _ _ _
      | exact ih8 _ _ _ _ _ _ _ _ _ _
      | exact ih9 _ _ _ _ _ _ _ _ _ _ _
      | exact addr_Parse.mono _ _ _
      | exact turnpikelaw2_digits.mono _ _ _ _
      | exact turnpikelaw2_known.mono _
      | exact turnpikelaw2_octets.mono _ _ _
      | exact LeO.none _
      | refine LeO.ite ?_ ?_
      | refine LeO.bind ?_ (fun _ => ?_)
    · intro y0 y1 y2 y3 y4 y5 y6 y7 y8 y9
      unfold turnpikelaw2_AddrForms.j8
      repeat' first
      | (with_reducible exact ih0 _ _ _ _ _ _ _ _ _)
      | (with_reducible exact ih1 _ _ _ _ _ _ _)
      | (with_reducible exact ih2 _ _ _ _ _ _ _ _ _)
      | (with_reducible exact ih3 _ _ _ _ _ _ _ _ _)
      | (with_reducible exact ih4 _ _ _ _ _ _ _ _)
      | (with_reducible exact ih5 _ _ _ _ _ _ _ _ _ _)
      | (with_reducible exact ih6 _ _ _ _ _ _ _ _ _ _ _)
      | (with_reducible exact ih7 _ _ _ _ _ _ _ _ _ _ _)
      | (with_reducible exact ih8 _ _ _ _ _ _ _ _ _ _)
      | (with_reducible exact ih9 _ _ _ _ _ _ _ _ _ _ _)
      | (with_reducible exact addr_Parse.mono _ _ _)
      | (with_reducible exact turnpikelaw2_digits.mono _ _ _ _)
      | (with_reducible exact turnpikelaw2_known.mono _)
      | (with_reducible exact turnpikelaw2_octets.mono _ _ _)
      | (with_reducible exact LeO.refl _)
      | (with_reducible exact LeO.none _)
      | (with_reducible refine LeO.ite ?_ ?_)
      | (with_reducible refine LeO.bind ?_ (fun _ => ?_))
      | exact ih0 _ _ _ _ _ _ _ _ _
      | exact ih1 _ _ _ _ _ _ _
      | exact ih2 _ _ _ _ _ _ _ _ _
      | exact ih3 _ _ _ _ _ _ _ _ _
      | exact ih4 _ _ _ _ _ _ _ _
      | exact ih5 _ _ _ _ _ _ _ _ _ _
      | exact ih6 _ _ _ _ _ _ _ _ _ _ _
      | exact ih7 _ _ _ _ _ _ _ _ _ _ _
      | exact ih8 _ _ _ _ _ _ _ _ _ _
      | exact ih9 _ _ _ _ _ _ _ _ _ _ _
      | exact addr_Parse.mono _ _ _
      | exact turnpikelaw2_digits.mono _ _ _ _
      | exact turnpikelaw2_known.mono _
      | exact turnpikelaw2_octets.mono _ _ _
      | exact LeO.none _
      | refine LeO.ite ?_ ?_
      | refine LeO.bind ?_ (fun _ => ?_)
    · intro y0 y1 y2 y3 y4 y5 y6 y7 y8 y9 y10
      unfold turnpikelaw2_AddrForms.j9
      repeat' first
      | (with_reducible exact ih0 _ _ _ _ _ _ _ _ _)
      | (with_reducible exact ih1 _ _ _ _ _ _ _)
      | (with_reducible exact ih2 _ _ _ _ _ _ _ _ _)
      | (with_reducible exact ih3 _ _ _ _ _ _ _ _ _)
      | (with_reducible exact ih4 _ _ _ _ _ _ _ _)
      | (with_reducible exact ih5 _ _ _ _ _ _ _ _ _ _)
      | (with_reducible exact ih6 _ _ _ _ _ _ _ _ _ _ _)
      | (with_reducible exact ih7 _ _ _ _ _ _ _ _ _ _ _)
      | (with_reducible exact ih8 _ _ _ _ _ _ _ _ _ _)
      | (with_reducible exact ih9 _ _ _ _ _ _ _ _ _ _ _)
      | (with_reducible exact addr_Parse.mono _ _ _)
      | (with_reducible exact turnpikelaw2_digits.mono _ _ _ _)
      | (with_reducible exact turnpikelaw2_known.mono _)
      | (with_reducible exact turnpikelaw2_octets.mono _ _ _)
      | (with_reducible exact LeO.refl _)
      | (with_reducible exact LeO.none _)
      | (with_reducible refine LeO.ite ?_ ?_)
      | (with_reducible refine LeO.bind ?_ (fun _ => ?_))
      | exact ih0 _ _ _ _ _ _ _ _ _
      | exact ih1 _ _ _ _ _ _ _
      | exact ih2 _ _ _ _ _ _ _ _ _
      | exact ih3 _ _ _ _ _ _ _ _ _
      | exact ih4 _ _ _ _ _ _ _ _
      | exact ih5 _ _ _ _ _ _ _ _ _ _
      | exact ih6 _ _ _ _ _ _ _ _ _ _ _
      | exact ih7 _ _ _ _ _ _ _ _ _ _ _
      | exact ih8 _ _ _ _ _ _ _ _ _ _
      | exact ih9 _ _ _ _ _ _ _ _ _ _ _
      | exact addr_Parse.mono _ _ _
      | exact turnpikelaw2_digits.mono _ _ _ _
      | exact turnpikelaw2_known.mono _
      | exact turnpikelaw2_octets.mono _ _ _
      | exact LeO.none _
      | refine LeO.ite ?_ ?_
      | refine LeO.bind ?_ (fun _ => ?_)
theorem turnpikelaw2_AddrForms.mono : ∀ a0 a1 a2 a3 a4 a5 a6 k, LeO (turnpikelaw2_AddrForms.f k a0 a1 a2 a3 a4 a5 a6) (turnpikelaw2_AddrForms.f (k + 1) a0 a1 a2 a3 a4 a5 a6) := by
  intro a0 a1 a2 a3 a4 a5 a6 k
  obtain ⟨ih0, ih1, ih2, ih3, ih4, ih5, ih6, ih7, ih8, ih9⟩ := turnpikelaw2_AddrForms.mono_l k
  unfold turnpikelaw2_AddrForms.f
  repeat' first
      | (with_reducible exact ih0 _ _ _ _ _ _ _ _ _)
      | (with_reducible exact ih1 _ _ _ _ _ _ _)
      | (with_reducible exact ih2 _ _ _ _ _ _ _ _ _)
      | (with_reducible exact ih3 _ _ _ _ _ _ _ _ _)
      | (with_reducible exact ih4 _ _ _ _ _ _ _ _)
      | (with_reducible exact ih5 _ _ _ _ _ _ _ _ _ _)
      | (with_reducible exact ih6 _ _ _ _ _ _ _ _ _ _ _)
      | (with_reducible exact ih7 _ _ _ _ _ _ _ _ _ _ _)
      | (with_reducible exact ih8 _ _ _ _ _ _ _ _ _ _)
      | (with_reducible exact ih9 _ _ _ _ _ _ _ _ _ _ _)
      | (with_reducible exact addr_Parse.mono _ _ _)
      | (with_reducible exact turnpikelaw2_digits.mono _ _ _ _)
      | (with_reducible exact turnpikelaw2_known.mono _)
      | (with_reducible exact turnpikelaw2_octets.mono _ _ _)
      | (with_reducible exact LeO.refl _)
      | (with_reducible exact LeO.none _)
      | (with_reducible refine LeO.ite ?_ ?_)
      | (with_reducible refine LeO.bind ?_ (fun _ => ?_))
      | exact ih0 _ _ _ _ _ _ _ _ _
      | exact ih1 _ _ _ _ _ _ _
      | exact ih2 _ _ _ _ _ _ _ _ _
      | exact ih3 _ _ _ _ _ _ _ _ _
      | exact ih4 _ _ _ _ _ _ _ _
      | exact ih5 _ _ _ _ _ _ _ _ _ _
      | exact ih6 _ _ _ _ _ _ _ _ _ _ _
      | exact ih7 _ _ _ _ _ _ _ _ _ _ _
      | exact ih8 _ _ _ _ _ _ _ _ _ _
      | exact ih9 _ _ _ _ _ _ _ _ _ _ _
      | exact addr_Parse.mono _ _ _
      | exact turnpikelaw2_digits.mono _ _ _ _
      | exact turnpikelaw2_known.mono _
      | exact turnpikelaw2_octets.mono _ _ _
      | exact LeO.none _
      | refine LeO.ite ?_ ?_
      | refine LeO.bind ?_ (fun _ => ?_)
def turnpikelaw2_AddrForms.T21 : Bool × List (List Nat × List Nat) := (true, [([], []), ([0], [0]), ([], []), ([], []), ([2, 3], [2, 3]), ([4], [4]), ([5], [5]), ([1, 6], [1, 6]), ([0, 1, 2, 3, 4, 5, 6, 7], []), ([8, 7, 0, 1, 2, 3, 4, 5, 6, 7], [7, 8])])
def turnpikelaw2_AddrForms.B21 : List Nat := [0, 1, 0, 0, 12, 28, 60, 127, 255, 511]
theorem turnpikelaw2_AddrForms.tab21 : rtab .any (opsOf Try.f5 21) = turnpikelaw2_AddrForms.T21 := by kernel_rfl
theorem turnpikelaw2_AddrForms.bits21 : waitsOk turnpikelaw2_AddrForms.T21.2 turnpikelaw2_AddrForms.B21 = true := by kernel_rfl
def turnpikelaw2_AddrForms.T34 : Bool × List (List Nat × List Nat) := (true, [([], []), ([], []), ([1], [1]), ([2], [2]), ([], []), ([4], [4]), ([5], [5]), ([3, 6], [3, 6]), ([0, 7], [0, 7]), ([8, 7, 0, 1, 2, 3, 4, 5, 6, 7, 8], [0, 8])])
def turnpikelaw2_AddrForms.B34 : List Nat := [0, 0, 2, 6, 0, 16, 48, 126, 255, 511]
theorem turnpikelaw2_AddrForms.tab34 : rtab .any (opsOf Try.f5 34) = turnpikelaw2_AddrForms.T34 := by kernel_rfl
theorem turnpikelaw2_AddrForms.bits34 : waitsOk turnpikelaw2_AddrForms.T34.2 turnpikelaw2_AddrForms.B34 = true := by kernel_rfl
set_option maxHeartbeats 8000000 in
set_option maxRecDepth 100000 in
theorem turnpikelaw2_AddrForms.calls (k : Nat) (a0_0 : Int) (a0_1 : Int) (a1 : Int) (a2 : Bool) (a3 : Int) (a4 : Int) (a5 : Bool) (r : Bool) (w : World) (hML : MLOk w) (hr_ : Aside0 (r = true)) (h : turnpikelaw2_AddrForms.f k a0_0 a0_1 a1 a2 a3 a4 a5 = some r) :
    Calls Try.prog 5 #[.agg #[.int .u64 a0_0, .int .u64 a0_1], .int .i64 a1, .bool a2, .int .i64 a3, .int .i64 a4, .bool a5] w fun e w' => e = .returned (.bool r) ∧ Below w.heap.size w w' := by
  have hu24 := Try.underlying24
  have HML := Aside0.mk hML
  clear hML
  have HB := Aside0.mk (Below.refl w.heap.size w)
  have H : ((turnpikelaw2_known.f k).bind fun t313 => (if t313 = true then ((turnpikelaw2_within.f a1 4).bind fun t314 => ((turnpikelaw2_within.f a3 8).bind fun t315 => ((turnpikelaw2_within.f a4 (wrap64 ((wrap64 (8 - t315)) + 1))).bind fun t316 => (turnpikelaw2_AddrForms.l0 k (wrap64 (1 + t314)) a2 t315 t316 a5 ([] : List Int) 0 a0_0 a0_1)))) else (some false))) = some r := h
  clear h
  replace H := Option.bind_eq_some_iff.mp H
  obtain ⟨t313, A70, H⟩ := H
  replace H : (if t313 = true then ((turnpikelaw2_within.f a1 4).bind fun t314 => ((turnpikelaw2_within.f a3 8).bind fun t315 => ((turnpikelaw2_within.f a4 (wrap64 ((wrap64 (8 - t315)) + 1))).bind fun t316 => (turnpikelaw2_AddrForms.l0 k (wrap64 (1 + t314)) a2 t315 t316 a5 ([] : List Int) 0 a0_0 a0_1)))) else (some false)) = some r := H
  have A7 := Aside0.mk A70
  clear A70
  by_cases c8 : t313 = true
  · subst c8
    have H1 : ((turnpikelaw2_within.f a1 4).bind fun t314 => ((turnpikelaw2_within.f a3 8).bind fun t315 => ((turnpikelaw2_within.f a4 (wrap64 ((wrap64 (8 - t315)) + 1))).bind fun t316 => (turnpikelaw2_AddrForms.l0 k (wrap64 (1 + t314)) a2 t315 t316 a5 ([] : List Int) 0 a0_0 a0_1)))) = some r := by rw [if_pos rfl] at H; exact H
    clear H
    have H := H1
    clear H1
    replace H := Option.bind_eq_some_iff.mp H
    obtain ⟨t314, A90, H⟩ := H
    replace H : ((turnpikelaw2_within.f a3 8).bind fun t315 => ((turnpikelaw2_within.f a4 (wrap64 ((wrap64 (8 - t315)) + 1))).bind fun t316 => (turnpikelaw2_AddrForms.l0 k (wrap64 (1 + t314)) a2 t315 t316 a5 ([] : List Int) 0 a0_0 a0_1))) = some r := H
    have A9 := Aside0.mk A90
    clear A90
    replace H := Option.bind_eq_some_iff.mp H
    obtain ⟨t315, A100, H⟩ := H
    replace H : ((turnpikelaw2_within.f a4 (wrap64 ((wrap64 (8 - t315)) + 1))).bind fun t316 => (turnpikelaw2_AddrForms.l0 k (wrap64 (1 + t314)) a2 t315 t316 a5 ([] : List Int) 0 a0_0 a0_1)) = some r := H
    have A10 := Aside0.mk A100
    clear A100
    replace H := Option.bind_eq_some_iff.mp H
    obtain ⟨t316, A110, H⟩ := H
    replace H : (turnpikelaw2_AddrForms.l0 k (wrap64 (1 + t314)) a2 t315 t316 a5 ([] : List Int) 0 a0_0 a0_1) = some r := H
    have A11 := Aside0.mk A110
    clear A110
    have H' := Aside0.mk H
    clear H
    go_enter Try.func5, Try.ntmps5
    go_wp2_with (first | ((with_reducible refine gate_dst (N := 6) rfl ?_); (try (refine gate_guard (by rfl) ?_; dsimp only)); refine box_event ?hg (N := 6) ?hd (cs := #[.int .u64 a0_0, .int .u64 a0_1]) (t := 24) ?hr ?_; (case hd => rfl); (case hg => rfl); (case hr => first | (go_simp; done) | (go_simp; rfl)); intro gb312 hg w12 hbox hb; have n0_ := Aside0.mk (below_step (by repeat (first | (with_reducible first | exact HB.out | apply below_alloc | apply pw_below_drewN | apply below_drew1) | exact HB.out)) hb); have n1_ := Aside0.mk (hbox); have n2_ := Aside0.mk ((by rw [hg]; exact (below_size (by repeat (first | (with_reducible first | exact HB.out | apply below_alloc | apply pw_below_drewN | apply below_drew1) | exact HB.out))) : w.heap.size ≤ gb312)); have n3_ := Aside0.mk ((by rw [hg]; exact (below_size (by repeat (first | (with_reducible first | exact HB.out | apply below_alloc | apply pw_below_drewN | apply below_drew1) | exact HB.out))) : w.heap.size ≤ gb312)); clear HB; have HB := n0_; have BK312 := n1_; have GW312 := n2_; have GE312 := n3_; clear n0_ n1_ n2_ n3_; clear hb hbox hg) | ((with_reducible refine gate_callee (f := 11) rfl ?_); refine goesL_ (some 24) rfl rfl Try.func11 (by kernel_rfl) rfl #[] rfl (by (try simp only [List.map_toArray, List.map_cons, List.map_nil]); first | done | rfl | (simp only [List.length_drop, List.length_take]; rfl)) ?_; (with_reducible refine (turnpikelaw2_known.calls k  true _ ?side1 A7.out).mono ?_); (case side1 => first | exact MLOk.below HML.out (by repeat (first | (with_reducible first | exact HB.out | apply below_alloc | apply pw_below_drewN | apply below_drew1 | refine below_set ?_ GE312.out) | exact HB.out)) | (repeat (first | exact HML.out | (with_reducible refine MLOk.alloc ?_ _) | (with_reducible refine MLOk.drewN ?_ _) | (with_reducible refine MLOk.drew ?_)))); rintro e w13 ⟨rfl, hb⟩; refine ⟨_, rfl, ?_⟩; have n0_ := Aside0.mk (blk_below (g := gb312) (o := .cells #[.int .u64 a0_0, .int .u64 a0_1] 24 (0, 0)) (by (with_reducible repeat (first | refine blk_drewN ?_ _ | refine blk_drew ?_ | refine blk_alloc ?_ _)); exact BK312.out) hb); have n1_ := Aside0.mk (below_step (by repeat (first | (with_reducible first | exact HB.out | apply below_alloc | apply pw_below_drewN | apply below_drew1 | refine below_set ?_ GE312.out) | exact HB.out)) hb); clear BK312; clear HB; have BK312 := n0_; have HB := n1_; clear n0_ n1_; (try clear hb); (try clear hb2); (try clear hk); (try clear hi)) | ((with_reducible refine gate_callee (f := 13) rfl ?_); refine goesL_ (some 27) rfl rfl Try.func13 (by kernel_rfl) rfl #[.int .i64 a1, .int .i64 4] rfl (by (try simp only [List.map_toArray, List.map_cons, List.map_nil]); first | done | rfl | (simp only [List.length_drop, List.length_take]; rfl)) ?_; (with_reducible refine (turnpikelaw2_within.calls a1 4 t314 _ A9.out).mono ?_); rintro e w' ⟨rfl, ⟨nd, rfl⟩⟩; refine ⟨_, rfl, ?_⟩) | ((with_reducible refine gate_callee (f := 13) rfl ?_); refine goesL_ (some 30) rfl rfl Try.func13 (by kernel_rfl) rfl #[.int .i64 a3, .int .i64 8] rfl (by (try simp only [List.map_toArray, List.map_cons, List.map_nil]); first | done | rfl | (simp only [List.length_drop, List.length_take]; rfl)) ?_; (with_reducible refine (turnpikelaw2_within.calls a3 8 t315 _ A10.out).mono ?_); rintro e w' ⟨rfl, ⟨nd, rfl⟩⟩; refine ⟨_, rfl, ?_⟩) | ((with_reducible refine gate_callee (f := 13) rfl ?_); refine goesL_ (some 35) rfl rfl Try.func13 (by kernel_rfl) rfl #[.int .i64 a4, .int .i64 (wrap64 ((wrap64 (8 - t315)) + 1))] rfl (by (try simp only [List.map_toArray, List.map_cons, List.map_nil]); first | done | rfl | (simp only [List.length_drop, List.length_take]; rfl)) ?_; (with_reducible refine (turnpikelaw2_within.calls a4 (wrap64 ((wrap64 (8 - t315)) + 1)) t316 _ A11.out).mono ?_); rintro e w' ⟨rfl, ⟨nd, rfl⟩⟩; refine ⟨_, rfl, ?_⟩))
    go_loopg [13, 14] k (fun kq v13 v14 w' => ∃ (x13_1 : List Int) (x14_1 : Int), v14 = .int .i64 x14_1 ∧ Aside0 (turnpikelaw2_AddrForms.l0 kq (wrap64 (1 + t314)) a2 t315 t316 a5 x13_1 x14_1 a0_0 a0_1 = some r) ∧ Aside0 (kq ≤ k) ∧ Aside0 (Kd.R (Kd.int .i64) 3 w' w.heap.size (fun _ => True) v13 x13_1) ∧ Aside0 (w'.heap[gb312]? = some (.cells #[.int .u64 a0_0, .int .u64 a0_1] 24 (0, 0))) ∧ Aside0 (Below w.heap.size w w'))
    case atStart => exact ⟨(([] : List Int)), (0), (by first | rfl | (simp; done) | (simp [*]; done) | exact congrArg Value.bool (isEmpty_bne _)), H', ⟨Nat.le_refl _⟩, ⟨by first | exact Kd.R_nil _ _ _ _ _ | exact Kd.N_nil _ _ _ _ _ | exact Kd.V_nil _ _ _ _ _ | exact Kd.Q_nil _ _ _ _ _ | exact Kd.S_nil _ _ _ _ _⟩, ⟨by (with_reducible repeat (first | refine blk_drewN ?_ _ | refine blk_drew ?_ | refine blk_alloc ?_ _)); exact BK312.out⟩, ⟨by repeat (first | (with_reducible first | exact HB.out | apply below_alloc | apply pw_below_drewN | apply below_drew1 | refine below_set ?_ GE312.out) | exact HB.out)⟩⟩
    case round =>
      clear H'
      try clear c1
      try clear p2
      try clear c5
      try clear p6
      try clear c8
      try clear c11
      try clear c13
      obtain ⟨x13_1, x14_1, rfl, HA, HK1, HO_13, BK312, HB⟩ := hrel
      cases gk with
      | zero => exact absurd HA.out (by simp [turnpikelaw2_AddrForms.l0])
      | succ k1 =>
        have H := HA.out
        clear HA
        simp only [turnpikelaw2_AddrForms.l0] at H
        by_cases c14 : x14_1 < 8
        · rw [if_pos c14] at H
          have c14b0 : decide (x14_1 < 8) = true := decide_eq_true c14
          clear c14
          replace H := Option.bind_eq_some_iff.mp H
          obtain ⟨⟨t317, t318, t319⟩, A150, H⟩ := H
          replace H : (if x13_1.length < 17592186044416 then (turnpikelaw2_AddrForms.l0 k1 (wrap64 (1 + t314)) a2 t315 t316 a5 (x13_1 ++ [wrap64 (t318)]) (wrap64 (x14_1 + 1)) a0_0 a0_1) else (none)) = some r := H
          have A15 := Aside0.mk A150
          clear A150
          by_cases c16 : x13_1.length < 17592186044416
          · rw [if_pos c16] at H
            have LMc16 := Aside0.mk c16
            clear c16
            obtain ⟨y321, hy321⟩ : ∃ y_ : List Int, y_ = (x13_1 ++ [wrap64 (t318)]) := ⟨_, rfl⟩
            replace H : (turnpikelaw2_AddrForms.l0 k1 (wrap64 (1 + t314)) a2 t315 t316 a5 y321 (wrap64 (x14_1 + 1)) a0_0 a0_1) = some r := by first | (rw [hy321]; with_reducible exact H) | (have H2_ := (Option.bind_some _ _).symm.trans H; rw [hy321]; with_reducible exact H2_) | (have H2_ := (Option.bind_some _ _).symm.trans H; with_reducible exact H2_) | with_reducible exact H | (rw [hy321]; exact H) | exact H
            have Ny321 := Aside0.mk hy321
            clear hy321
            have H' := Aside0.mk H
            clear H
            have hcz17_0 : wr.cell? ⟨gb312, 0, none⟩ = some (.int .u64 a0_0) := (blk_cell BK312.out 0).trans rfl
            have hcz17_1 : wr.cell? ⟨gb312, 1, none⟩ = some (.int .u64 a0_1) := (blk_cell BK312.out 1).trans rfl
            have hfz17_0 := blk_frozen BK312.out 0
            have hfz17_1 := blk_frozen BK312.out 1
            go_wp2_with (first | ((with_reducible refine gate_callee (f := 14) rfl ?_); refine goesL_ (some 44) rfl rfl Try.func14 (by kernel_rfl) rfl #[.agg #[.int .u64 a0_0, .int .u64 a0_1], .int .i64 (wrap64 (16 * x14_1)), .int .i64 16] rfl (by (try simp only [List.map_toArray, List.map_cons, List.map_nil]); first | done | rfl | (simp only [List.length_drop, List.length_take]; rfl)) ?_; (with_reducible refine (turnpikeref1_Field.calls a0_0 a0_1 (wrap64 (16 * x14_1)) 16 t317 t318 t319 _ A15.out).mono ?_); rintro e w18 ⟨rfl, hb⟩; refine ⟨_, rfl, ?_⟩; have n0_ := Aside0.mk (Kd.R_below (by (with_reducible repeat (first | apply Kd.R_alloc | apply Kd.R_drewN | apply Kd.R_drew)); exact HO_13.out) hb); have n1_ := Aside0.mk (blk_below (g := gb312) (o := .cells #[.int .u64 a0_0, .int .u64 a0_1] 24 (0, 0)) (by (with_reducible repeat (first | refine blk_drewN ?_ _ | refine blk_drew ?_ | refine blk_alloc ?_ _)); exact BK312.out) hb); have n2_ := Aside0.mk (below_step (by repeat (first | (with_reducible first | exact HB.out | apply below_alloc | apply pw_below_drewN | apply below_drew1 | refine below_set ?_ GE312.out) | exact HB.out)) hb); clear HO_13; clear BK312; clear HB; have HO_13 := n0_; have BK312 := n1_; have HB := n2_; clear n0_ n1_ n2_; (try clear hb); (try clear hb2); (try clear hk); (try clear hi)) | ((with_reducible refine gate_dst (N := 15) rfl ?_); (try (refine gate_guard (by rfl) ?_; dsimp only)); refine box_event ?hg (N := 15) ?hd (cs := #[.int .u64 0, .int .u64 0]) (t := 24) ?hr ?_; (case hd => rfl); (case hg => rfl); (case hr => first | (go_simp; done) | (go_simp; rfl)); intro gb320 hg w19 hbox hb; have n0_ := Aside0.mk (Kd.R_below (by (with_reducible repeat (first | apply Kd.R_alloc | apply Kd.R_drewN | apply Kd.R_drew)); exact HO_13.out) hb); have n1_ := Aside0.mk (blk_below (g := gb312) (o := .cells #[.int .u64 a0_0, .int .u64 a0_1] 24 (0, 0)) (by (with_reducible repeat (first | refine blk_drewN ?_ _ | refine blk_drew ?_ | refine blk_alloc ?_ _)); exact BK312.out) hb); have n2_ := Aside0.mk (below_step (by repeat (first | (with_reducible first | exact HB.out | apply below_alloc | apply pw_below_drewN | apply below_drew1 | refine below_set ?_ GE312.out) | exact HB.out)) hb); have n3_ := Aside0.mk (hbox); have n4_ := Aside0.mk ((by rw [hg]; exact (below_size (by repeat (first | (with_reducible first | exact HB.out | apply below_alloc | apply pw_below_drewN | apply below_drew1 | refine below_set ?_ GE312.out) | exact HB.out))) : w.heap.size ≤ gb320)); have n5_ := Aside0.mk ((by rw [hg]; exact (below_size (by repeat (first | (with_reducible first | exact HB.out | apply below_alloc | apply pw_below_drewN | apply below_drew1 | refine below_set ?_ GE312.out) | exact HB.out))) : w.heap.size ≤ gb320)); have n6_ := Aside0.mk ((by rw [hg]; exact Nat.ne_of_lt (blk_lt (g := gb312) (o := .cells #[.int .u64 a0_0, .int .u64 a0_1] 24 (0, 0)) (by (with_reducible repeat (first | refine blk_drewN ?_ _ | refine blk_drew ?_ | refine blk_alloc ?_ _)); exact BK312.out)) : gb312 ≠ gb320)); have n7_ := Aside0.mk ((by rw [hg]; exact Nat.ne_of_gt (blk_lt (g := gb312) (o := .cells #[.int .u64 a0_0, .int .u64 a0_1] 24 (0, 0)) (by (with_reducible repeat (first | refine blk_drewN ?_ _ | refine blk_drew ?_ | refine blk_alloc ?_ _)); exact BK312.out)) : gb320 ≠ gb312)); clear HO_13; clear BK312; clear HB; have HO_13 := n0_; have BK312 := n1_; have HB := n2_; have BK320 := n3_; have GW320 := n4_; have GE320 := n5_; have NB312_320 := n6_; have NB320_312 := n7_; clear n0_ n1_ n2_ n3_ n4_ n5_ n6_ n7_; clear hb hbox hg; have hnb20 := NB320_312.out; have hnc20 := NB312_320.out; have hcz21_0 : w19.cell? ⟨gb320, 0, none⟩ = some (.int .u64 0) := (blk_cell BK320.out 0).trans rfl; have hcz21_1 : w19.cell? ⟨gb320, 1, none⟩ = some (.int .u64 0) := (blk_cell BK320.out 1).trans rfl; have hfz21_0 := blk_frozen BK320.out 0; have hfz21_1 := blk_frozen BK320.out 1) | ((with_reducible refine gate_builtin (b := .append) (xs := #[.tmp 47, .tmp 51]) rfl ?_); (try (refine gate_guard (by rfl) ?_; dsimp only)); at_builtin; refine Kd.R_append (Kd.int .i64) (w0 := w) w.heap.size rfl (.tmp 47) (.tmp 51) 37 3 (.int .i64 0) 8 rfl Try.underlying37 info3 rfl (by decide) (by omega) u13 x13_1 (wrap64 (t318)) [.int .i64 (wrap64 (t318))] (fun _ => True) (fun _ => False) rfl (by first | (go_simp; done) | (go_simp; rfl)) ?aP (fun _ hk => hk.elim) ?aF ?aO ?aB ?aS ?aL ?_; (case aP => exact rfl); (case aB => exact (by repeat (first | (with_reducible first | exact HB.out | apply below_alloc | apply pw_below_drewN | apply below_drew1 | refine below_set ?_ GE312.out | refine below_set ?_ GE320.out) | exact HB.out))); (case aF => exact (fun _ _ => trivial)); (case aO => exact (by (with_reducible repeat (first | apply Kd.R_alloc | apply Kd.R_drewN | apply Kd.R_drew)); exact Kd.R_mono (Kd.R_far (p := ⟨gb320, 1, none⟩) (Kd.R_far (p := ⟨gb320, 0, none⟩) (Kd.R_types HO_13.out BK320.out (by decide)) (fun _ hk => hk.2) (.int .u64 t317)) (fun _ hk => hk.2) (.int .u64 t318)) (fun _ hk => trivial))); (case aS => exact (below_size (by repeat (first | (with_reducible first | exact HB.out | apply below_alloc | apply pw_below_drewN | apply below_drew1 | refine below_set ?_ GE312.out | refine below_set ?_ GE320.out) | exact HB.out)))); (case aL => have := LMc16.out; omega); intro v322 w22 ho hb hg hat; rw [← Ny321.out] at ho; have n0_ := Aside0.mk (blk_grown (g := gb312) (o := .cells #[.int .u64 a0_0, .int .u64 a0_1] 24 (0, 0)) (by (with_reducible repeat (first | refine blk_drewN ?_ _ | refine blk_drew ?_ | refine blk_alloc ?_ _)); refine blk_far ?_ NB312_320.out _; (with_reducible repeat (first | refine blk_drewN ?_ _ | refine blk_drew ?_ | refine blk_alloc ?_ _)); refine blk_far ?_ NB312_320.out _; (with_reducible repeat (first | refine blk_drewN ?_ _ | refine blk_drew ?_ | refine blk_alloc ?_ _)); exact BK312.out) hg (Kd.R_ne HO_13.out BK312.out (by decide))); have n1_ := Aside0.mk (blk_grown (g := gb320) (o := .cells #[.int .u64 t317, .int .u64 t318] 24 (0, 0)) (by (with_reducible repeat (first | refine blk_drewN ?_ _ | refine blk_drew ?_ | refine blk_alloc ?_ _)); refine blk_put (cs := #[.int .u64 t317, .int .u64 0]) ?_ 1 _ rfl; (with_reducible repeat (first | refine blk_drewN ?_ _ | refine blk_drew ?_ | refine blk_alloc ?_ _)); refine blk_put (cs := #[.int .u64 0, .int .u64 0]) ?_ 0 _ rfl; (with_reducible repeat (first | refine blk_drewN ?_ _ | refine blk_drew ?_ | refine blk_alloc ?_ _)); exact BK320.out) hg (Kd.R_ne HO_13.out BK320.out (by decide))); have n2_ := Aside0.mk (hb); have n3_ := Aside0.mk (ho); clear BK312; clear BK320; clear HB; clear HO_13; have BK312 := n0_; have BK320 := n1_; have HB := n2_; have HO323 := n3_; clear n0_ n1_ n2_ n3_; clear ho hb hg hat))
            go_roundg k1
            case measure => have := HK1.out; omega
            case rel => exact ⟨(y321), (wrap64 (x14_1 + 1)), (by first | rfl | (simp; done) | (simp [*]; done) | exact congrArg Value.bool (isEmpty_bne _)), H', ⟨by have := HK1.out; omega⟩, ⟨by (with_reducible repeat (first | apply Kd.R_alloc | apply Kd.R_drewN | apply Kd.R_drew)); exact HO323.out⟩, ⟨by (with_reducible repeat (first | refine blk_drewN ?_ _ | refine blk_drew ?_ | refine blk_alloc ?_ _)); exact BK312.out⟩, ⟨by repeat (first | (with_reducible first | exact HB.out | apply below_alloc | apply pw_below_drewN | apply below_drew1 | refine below_set ?_ GE312.out | refine below_set ?_ GE320.out) | exact HB.out)⟩⟩
          · rw [if_neg c16] at H
            exact absurd H (by simp)
        · rw [if_neg c14] at H
          have c14b0 : decide (x14_1 < 8) = false := decide_eq_false c14
          clear c14
          have H' := Aside0.mk H
          clear H
          go_wp2
          go_loopg [17] k1 (fun kq v17 w' => ∃ (x13_2 : List Int) (x17_2 : Int), v17 = .int .i64 x17_2 ∧ Aside0 (turnpikelaw2_AddrForms.l1 kq (wrap64 (1 + t314)) a2 t315 t316 a5 x13_2 x17_2 = some r) ∧ Aside0 (kq ≤ k1) ∧ Aside0 (Kd.R (Kd.int .i64) 3 w' w.heap.size (fun _ => True) u13 x13_2) ∧ Aside0 (w'.heap[gb312]? = some (.cells #[.int .u64 a0_0, .int .u64 a0_1] 24 (0, 0))) ∧ Aside0 (Below w.heap.size w w'))
          case atStart => exact ⟨(x13_1), (t315), (by first | rfl | (simp; done) | (simp [*]; done) | exact congrArg Value.bool (isEmpty_bne _)), H', ⟨Nat.le_refl _⟩, ⟨by (with_reducible repeat (first | apply Kd.R_alloc | apply Kd.R_drewN | apply Kd.R_drew)); exact HO_13.out⟩, ⟨by (with_reducible repeat (first | refine blk_drewN ?_ _ | refine blk_drew ?_ | refine blk_alloc ?_ _)); exact BK312.out⟩, ⟨by repeat (first | (with_reducible first | exact HB.out | apply below_alloc | apply pw_below_drewN | apply below_drew1 | refine below_set ?_ GE312.out) | exact HB.out)⟩⟩
          case round =>
            clear H'
            try clear c1
            try clear c2
            try clear p2
            try clear c5
            try clear p6
            try clear c8
            try clear c11
            try clear c13
            try clear c14
            try clear c14b0
            try clear c16
            try clear c20
            try clear hcz17_0
            try clear hcz17_1
            try clear hcz21_0
            try clear hcz21_1
            try clear hfz17_0
            try clear hfz17_1
            try clear hfz21_0
            try clear hfz21_1
            try clear p2
            try clear p6
            obtain ⟨x13_2, x17_2, rfl, HA, HK2, HO_13, BK312, HB⟩ := hrel
            cases gk with
            | zero => exact absurd HA.out (by simp [turnpikelaw2_AddrForms.l1])
            | succ k2 =>
              have H := HA.out
              clear HA
              simp only [turnpikelaw2_AddrForms.l1] at H
              by_cases c23 : x17_2 < (wrap64 (t315 + t316))
              · rw [if_pos c23] at H
                have c23b0 : decide (x17_2 < (wrap64 (t315 + t316))) = true := decide_eq_true c23
                clear c23
                by_cases c24 : 0 ≤ x17_2
                · rw [if_pos c24] at H
                  have c24b0 : decide (0 ≤ x17_2) = true := decide_eq_true c24
                  clear c24
                  by_cases c25 : x17_2 < (x13_2.length : Int)
                  · rw [if_pos c25] at H
                    have c25b0 : decide (x17_2 < (x13_2.length : Int)) = true := decide_eq_true c25
                    clear c25
                    obtain ⟨y324, hy324⟩ : ∃ y_ : List Int, y_ = (x13_2.set (x17_2 : Int).toNat 0) := ⟨_, rfl⟩
                    replace H : (turnpikelaw2_AddrForms.l1 k2 (wrap64 (1 + t314)) a2 t315 t316 a5 y324 (wrap64 (x17_2 + 1))) = some r := by first | (rw [hy324]; with_reducible exact H) | (have H2_ := (Option.bind_some _ _).symm.trans H; rw [hy324]; with_reducible exact H2_) | (have H2_ := (Option.bind_some _ _).symm.trans H; with_reducible exact H2_) | with_reducible exact H | (rw [hy324]; exact H) | exact H
                    have Ny324 := Aside0.mk hy324
                    clear hy324
                    have H' := Aside0.mk H
                    clear H
                    have p26 : 0 ≤ (x17_2 : Int) := of_decide_eq_true (by first | (with_reducible assumption) | assumption)
                    have q26 : (x17_2 : Int) < ((x13_2.length : Int) : Int) := of_decide_eq_true (by first | (with_reducible assumption) | assumption)
                    obtain ⟨go26, co26, eo26, gb26, gl26, cl26, HG26⟩ := Kd.R_form HO_13.out (by omega)
                    (first | cases eo26 | (injection eo26 with ea_ en_ ec_; (first | subst ea_ | (injection ea_ with ea_; subst ea_)); subst ec_; clear en_))
                    have GB26 := Aside0.mk gb26
                    have GG26 := Aside0.mk HG26
                    clear gb26 gl26 HG26
                    obtain ⟨hx26_0, hf26_0⟩ := Kd.R_celln 0 HO_13.out (x17_2 : Int) p26 q26
                    replace p26 := eq_true p26
                    replace q26 := eq_true q26
                    have HP27 := Kd.R_putg HO_13.out (x17_2 : Int) 0
                    go_wp2_with (first | ((with_reducible refine gate_store (t := 3) (p := 63) rfl ?_); refine store_event (t := 3) (p := 63) (v := ?vo_w28) (w1 := (wr.setCell ⟨go26, (x17_2 : Int).toNat, none⟩ (.int .i64 0))) ?hg ?ho ?hn ?hr ?_; (case ho => rfl); (case hg => rfl); (case hn => rfl); (case hr => first | (go_simp; done) | (go_simp; rfl)); intro w28 hw; have hg : wr.grownBy w28 (some go26) := (by rw [hw]; exact HP27.2); have hp_ : Kd.R (Kd.int .i64) 3 w28 w.heap.size (fun _ => True) (.slice (some ⟨go26, 0, none⟩) x13_2.length co26) y324 := (by rw [hw, Ny324.out]; exact HP27.1); clear HP27; have n0_ := Aside0.mk (hp_); have n1_ := Aside0.mk (blk_grown (g := gb312) (o := .cells #[.int .u64 a0_0, .int .u64 a0_1] 24 (0, 0)) (by (with_reducible repeat (first | refine blk_drewN ?_ _ | refine blk_drew ?_ | refine blk_alloc ?_ _)); exact BK312.out) hg (Kd.R_ne HO_13.out BK312.out (by decide))); have n2_ := Aside0.mk ((by rw [hw]; exact below_set (HB.out) GB26.out : Below w.heap.size w w28)); clear HO_13; clear BK312; clear HB; have HO_13 := n0_; have BK312 := n1_; have HB := n2_; clear n0_ n1_ n2_; clear hg hw hp_))
                    go_roundg k2
                    case measure => have := HK1.out; have := HK2.out; omega
                    case rel => exact ⟨(y324), (wrap64 (x17_2 + 1)), (by first | rfl | (simp; done) | (simp [*]; done) | exact congrArg Value.bool (isEmpty_bne _)), H', ⟨by have := HK1.out; have := HK2.out; omega⟩, ⟨by (with_reducible repeat (first | apply Kd.R_alloc | apply Kd.R_drewN | apply Kd.R_drew)); exact HO_13.out⟩, ⟨by (with_reducible repeat (first | refine blk_drewN ?_ _ | refine blk_drew ?_ | refine blk_alloc ?_ _)); exact BK312.out⟩, ⟨by repeat (first | (with_reducible first | exact HB.out | apply below_alloc | apply pw_below_drewN | apply below_drew1 | refine below_set ?_ GE312.out) | exact HB.out)⟩⟩
                  · rw [if_neg c25] at H
                    exact absurd H (by simp)
                · rw [if_neg c24] at H
                  exact absurd H (by simp)
              · rw [if_neg c23] at H
                have c23b0 : decide (x17_2 < (wrap64 (t315 + t316))) = false := decide_eq_false c23
                clear c23
                have H' := Aside0.mk H
                clear H
                go_wp2_with (first | ((with_reducible refine gate_dst (N := 18) rfl ?_); (try (refine gate_guard (by rfl) ?_; dsimp only)); refine box_event ?hg (N := 18) ?hd (cs := #[.int .u64 0, .int .u64 0]) (t := 24) ?hr ?_; (case hd => rfl); (case hg => rfl); (case hr => first | (go_simp; done) | (go_simp; rfl)); intro gb325 hg w29 hbox hb; have n0_ := Aside0.mk (Kd.R_below (by (with_reducible repeat (first | apply Kd.R_alloc | apply Kd.R_drewN | apply Kd.R_drew)); exact HO_13.out) hb); have n1_ := Aside0.mk (blk_below (g := gb312) (o := .cells #[.int .u64 a0_0, .int .u64 a0_1] 24 (0, 0)) (by (with_reducible repeat (first | refine blk_drewN ?_ _ | refine blk_drew ?_ | refine blk_alloc ?_ _)); exact BK312.out) hb); have n2_ := Aside0.mk (below_step (by repeat (first | (with_reducible first | exact HB.out | apply below_alloc | apply pw_below_drewN | apply below_drew1 | refine below_set ?_ GE312.out) | exact HB.out)) hb); have n3_ := Aside0.mk (hbox); have n4_ := Aside0.mk ((by rw [hg]; exact (below_size (by repeat (first | (with_reducible first | exact HB.out | apply below_alloc | apply pw_below_drewN | apply below_drew1 | refine below_set ?_ GE312.out) | exact HB.out))) : w.heap.size ≤ gb325)); have n5_ := Aside0.mk ((by rw [hg]; exact (below_size (by repeat (first | (with_reducible first | exact HB.out | apply below_alloc | apply pw_below_drewN | apply below_drew1 | refine below_set ?_ GE312.out) | exact HB.out))) : w.heap.size ≤ gb325)); have n6_ := Aside0.mk ((by rw [hg]; exact Nat.ne_of_lt (blk_lt (g := gb312) (o := .cells #[.int .u64 a0_0, .int .u64 a0_1] 24 (0, 0)) (by (with_reducible repeat (first | refine blk_drewN ?_ _ | refine blk_drew ?_ | refine blk_alloc ?_ _)); exact BK312.out)) : gb312 ≠ gb325)); have n7_ := Aside0.mk ((by rw [hg]; exact Nat.ne_of_gt (blk_lt (g := gb312) (o := .cells #[.int .u64 a0_0, .int .u64 a0_1] 24 (0, 0)) (by (with_reducible repeat (first | refine blk_drewN ?_ _ | refine blk_drew ?_ | refine blk_alloc ?_ _)); exact BK312.out)) : gb325 ≠ gb312)); clear HO_13; clear BK312; clear HB; have HO_13 := n0_; have BK312 := n1_; have HB := n2_; have BK325 := n3_; have GW325 := n4_; have GE325 := n5_; have NB312_325 := n6_; have NB325_312 := n7_; clear n0_ n1_ n2_ n3_ n4_ n5_ n6_ n7_; clear hb hbox hg))
                go_loopg [19] k2 (fun kq v19 w' => ∃ (x19_3 : Int) (x326000_3 : Int) (x326001_3 : Int), v19 = .int .i64 x19_3 ∧ Aside0 (turnpikelaw2_AddrForms.l2 kq (wrap64 (1 + t314)) a2 t315 t316 a5 x13_2 x19_3 x326000_3 x326001_3 = some r) ∧ Aside0 (kq ≤ k2) ∧ Aside0 (Kd.R (Kd.int .i64) 3 w' w.heap.size (fun _ => True) u13 x13_2) ∧ Aside0 (w'.heap[gb312]? = some (.cells #[.int .u64 a0_0, .int .u64 a0_1] 24 (0, 0))) ∧ Aside0 (w'.heap[gb325]? = some (.cells #[.int .u64 x326000_3, .int .u64 x326001_3] 24 (0, 0))) ∧ Aside0 (Below w.heap.size w w'))
                case atStart => exact ⟨(0), (0), (0), (by first | rfl | (simp; done) | (simp [*]; done) | exact congrArg Value.bool (isEmpty_bne _)), H', ⟨Nat.le_refl _⟩, ⟨by (with_reducible repeat (first | apply Kd.R_alloc | apply Kd.R_drewN | apply Kd.R_drew)); exact HO_13.out⟩, ⟨by (with_reducible repeat (first | refine blk_drewN ?_ _ | refine blk_drew ?_ | refine blk_alloc ?_ _)); exact BK312.out⟩, ⟨by (with_reducible repeat (first | refine blk_drewN ?_ _ | refine blk_drew ?_ | refine blk_alloc ?_ _)); exact BK325.out⟩, ⟨by repeat (first | (with_reducible first | exact HB.out | apply below_alloc | apply pw_below_drewN | apply below_drew1 | refine below_set ?_ GE312.out | refine below_set ?_ GE325.out) | exact HB.out)⟩⟩
                case round =>
                  clear H'
                  try clear c1
                  try clear c2
                  try clear p2
                  try clear q2
                  try clear hx2
                  try clear c5
                  try clear p6
                  try clear c8
                  try clear c11
                  try clear c13
                  try clear c14
                  try clear c14b0
                  try clear c16
                  try clear c20
                  try clear c23
                  try clear c23b0
                  try clear c24
                  try clear c24b0
                  try clear c25
                  try clear c25b0
                  try clear p26
                  try clear q26
                  try clear hx26
                  try clear hf26
                  try clear hcz17_0
                  try clear hcz17_1
                  try clear hcz21_0
                  try clear hcz21_1
                  try clear hfz17_0
                  try clear hfz17_1
                  try clear hfz21_0
                  try clear hfz21_1
                  try clear hx26_0
                  try clear p2
                  try clear p26
                  try clear p6
                  try clear q26
                  obtain ⟨x19_3, x326000_3, x326001_3, rfl, HA, HK3, HO_13, BK312, BK325, HB⟩ := hrel
                  cases gk with
                  | zero => exact absurd HA.out (by simp [turnpikelaw2_AddrForms.l2])
                  | succ k3 =>
                    have H := HA.out
                    clear HA
                    simp only [turnpikelaw2_AddrForms.l2] at H
                    by_cases c30 : x19_3 < 8
                    · rw [if_pos c30] at H
                      have c30b0 : decide (x19_3 < 8) = true := decide_eq_true c30
                      clear c30
                      replace H := Option.bind_eq_some_iff.mp H
                      obtain ⟨⟨t326, t327⟩, A310, H⟩ := H
                      replace H : (if 0 ≤ x19_3 then (if x19_3 < (x13_2.length : Int) then (turnpikelaw2_AddrForms.l2 k3 (wrap64 (1 + t314)) a2 t315 t316 a5 x13_2 (wrap64 (x19_3 + 1)) t326 (Go.bits .or .u64 t327 (IntKind.u64.wrap (rd x13_2 x19_3)))) else (none)) else (none)) = some r := H
                      have A31 := Aside0.mk A310
                      clear A310
                      by_cases c32 : 0 ≤ x19_3
                      · rw [if_pos c32] at H
                        have c32b0 : decide (0 ≤ x19_3) = true := decide_eq_true c32
                        clear c32
                        by_cases c33 : x19_3 < (x13_2.length : Int)
                        · rw [if_pos c33] at H
                          have c33b0 : decide (x19_3 < (x13_2.length : Int)) = true := decide_eq_true c33
                          clear c33
                          have H' := Aside0.mk H
                          clear H
                          have hnb34 := NB325_312.out
                          have hnc34 := NB312_325.out
                          have hcz35_0 : wr.cell? ⟨gb325, 0, none⟩ = some (.int .u64 x326000_3) := (blk_cell BK325.out 0).trans rfl
                          have hcz35_1 : wr.cell? ⟨gb325, 1, none⟩ = some (.int .u64 x326001_3) := (blk_cell BK325.out 1).trans rfl
                          have hfz35_0 := blk_frozen BK325.out 0
                          have hfz35_1 := blk_frozen BK325.out 1
                          try go_wp2_with (first | ((with_reducible refine gate_callee (f := 15) rfl ?_); refine goesL_ (some 69) rfl rfl Try.func15 (by kernel_rfl) rfl #[.agg #[.int .u64 x326000_3, .int .u64 x326001_3], .int .i64 16] rfl (by (try simp only [List.map_toArray, List.map_cons, List.map_nil]); first | done | rfl | (simp only [List.length_drop, List.length_take]; rfl)) ?_; (with_reducible refine (turnpikeref1_Shl.calls x326000_3 x326001_3 16 t326 t327 _ A31.out).mono ?_); rintro e w36 ⟨rfl, hb⟩; refine ⟨_, rfl, ?_⟩; have n0_ := Aside0.mk (Kd.R_below (by (with_reducible repeat (first | apply Kd.R_alloc | apply Kd.R_drewN | apply Kd.R_drew)); exact HO_13.out) hb); have n1_ := Aside0.mk (blk_below (g := gb312) (o := .cells #[.int .u64 a0_0, .int .u64 a0_1] 24 (0, 0)) (by (with_reducible repeat (first | refine blk_drewN ?_ _ | refine blk_drew ?_ | refine blk_alloc ?_ _)); exact BK312.out) hb); have n2_ := Aside0.mk (blk_below (g := gb325) (o := .cells #[.int .u64 x326000_3, .int .u64 x326001_3] 24 (0, 0)) (by (with_reducible repeat (first | refine blk_drewN ?_ _ | refine blk_drew ?_ | refine blk_alloc ?_ _)); exact BK325.out) hb); have n3_ := Aside0.mk (below_step (by repeat (first | (with_reducible first | exact HB.out | apply below_alloc | apply pw_below_drewN | apply below_drew1 | refine below_set ?_ GE312.out | refine below_set ?_ GE325.out) | exact HB.out)) hb); clear HO_13; clear BK312; clear BK325; clear HB; have HO_13 := n0_; have BK312 := n1_; have BK325 := n2_; have HB := n3_; clear n0_ n1_ n2_ n3_; (try clear hb); (try clear hb2); (try clear hk); (try clear hi); have hcz37_0 : w36.cell? ⟨gb325, 0, none⟩ = some (.int .u64 x326000_3) := (blk_cell BK325.out 0).trans rfl; have hcz37_1 : w36.cell? ⟨gb325, 1, none⟩ = some (.int .u64 x326001_3) := (blk_cell BK325.out 1).trans rfl; have hfz37_0 := blk_frozen BK325.out 0; have hfz37_1 := blk_frozen BK325.out 1))
                          have n0_ : Aside0 (Kd.R (Kd.int .i64) 3 ((w36.setCell ⟨gb325, 0, none⟩ (.int .u64 t326)).setCell ⟨gb325, 1, none⟩ (.int .u64 t327)) w.heap.size (fun _ => True) u13 x13_2) := ⟨by (with_reducible repeat (first | apply Kd.R_alloc | apply Kd.R_drewN | apply Kd.R_drew)); exact Kd.R_mono (Kd.R_far (p := ⟨gb325, 1, none⟩) (Kd.R_far (p := ⟨gb325, 0, none⟩) (Kd.R_types HO_13.out BK325.out (by decide)) (fun _ hk => hk.2) (.int .u64 t326)) (fun _ hk => hk.2) (.int .u64 t327)) (fun _ hk => trivial)⟩
                          have n1_ : Aside0 (((w36.setCell ⟨gb325, 0, none⟩ (.int .u64 t326)).setCell ⟨gb325, 1, none⟩ (.int .u64 t327)).heap[gb312]? = some (.cells #[.int .u64 a0_0, .int .u64 a0_1] 24 (0, 0))) := ⟨by (with_reducible repeat (first | refine blk_drewN ?_ _ | refine blk_drew ?_ | refine blk_alloc ?_ _)); refine blk_far ?_ NB312_325.out _; (with_reducible repeat (first | refine blk_drewN ?_ _ | refine blk_drew ?_ | refine blk_alloc ?_ _)); refine blk_far ?_ NB312_325.out _; (with_reducible repeat (first | refine blk_drewN ?_ _ | refine blk_drew ?_ | refine blk_alloc ?_ _)); exact BK312.out⟩
                          have n2_ : Aside0 (((w36.setCell ⟨gb325, 0, none⟩ (.int .u64 t326)).setCell ⟨gb325, 1, none⟩ (.int .u64 t327)).heap[gb325]? = some (.cells #[.int .u64 t326, .int .u64 t327] 24 (0, 0))) := ⟨by (with_reducible repeat (first | refine blk_drewN ?_ _ | refine blk_drew ?_ | refine blk_alloc ?_ _)); refine blk_put (cs := #[.int .u64 t326, .int .u64 x326001_3]) ?_ 1 _ rfl; (with_reducible repeat (first | refine blk_drewN ?_ _ | refine blk_drew ?_ | refine blk_alloc ?_ _)); refine blk_put (cs := #[.int .u64 x326000_3, .int .u64 x326001_3]) ?_ 0 _ rfl; (with_reducible repeat (first | refine blk_drewN ?_ _ | refine blk_drew ?_ | refine blk_alloc ?_ _)); exact BK325.out⟩
                          have n3_ : Aside0 (Below w.heap.size w ((w36.setCell ⟨gb325, 0, none⟩ (.int .u64 t326)).setCell ⟨gb325, 1, none⟩ (.int .u64 t327))) := ⟨by repeat (first | (with_reducible first | exact HB.out | apply below_alloc | apply pw_below_drewN | apply below_drew1 | refine below_set ?_ GE312.out | refine below_set ?_ GE325.out) | exact HB.out)⟩
                          (try clear HO_13)
                          (try clear BK312)
                          (try clear BK325)
                          (try clear HB)
                          generalize ((w36.setCell ⟨gb325, 0, none⟩ (.int .u64 t326)).setCell ⟨gb325, 1, none⟩ (.int .u64 t327)) = w38 at n0_ n1_ n2_ n3_ ⊢
                          have HO_13 := n0_
                          have BK312 := n1_
                          have BK325 := n2_
                          have HB := n3_
                          clear n0_ n1_ n2_ n3_
                          have n0_ := Aside0.mk (Kd.R_drew HO_13.out)
                          have n1_ := Aside0.mk (blk_drew BK312.out)
                          have n2_ := Aside0.mk (blk_drew BK325.out)
                          have n3_ := Aside0.mk (below_drew1 HB.out)
                          clear HO_13
                          clear BK312
                          clear BK325
                          clear HB
                          have HO_13 := n0_
                          have BK312 := n1_
                          have BK325 := n2_
                          have HB := n3_
                          clear n0_ n1_ n2_ n3_
                          obtain ⟨Ao40, co40, eo40⟩ := Kd.R_slice HO_13.out
                          (first | subst eo40 | (injection eo40 with f1_ f2_ f3_; have f4_ := f1_.symm; have f5_ := f3_.symm; clear f1_ f2_ f3_; subst f4_; subst f5_))
                          have p328 : 0 ≤ (x19_3 : Int) := of_decide_eq_true (by first | (with_reducible assumption) | assumption)
                          have q328 : x19_3 < (x13_2.length : Int) := of_decide_eq_true (by first | (with_reducible assumption) | assumption)
                          obtain ⟨ad328, e328, hx328_0⟩ := Kd.at_int (Kd.R_reads' HO_13.out).2.2 x19_3 p328 q328
                          cases e328
                          replace p328 := eq_true p328
                          replace q328 := eq_true q328
                          refine start_ (n := 10) (S := fun w' => w'.cell? ⟨gb325, 0, none⟩ = some (.int .u64 t326) ∧ w'.cell? ⟨gb325, 1, none⟩ = some (.int .u64 t327) ∧ w'.cell? (ad328.add (x19_3).toNat) = some (.int .i64 (rd x13_2 x19_3))) (ds := [9]) #[false, false, false, false, false, false, false, false, false, false] (by kernel_rfl) rfl rfl ⟨(blk_cell BK325.out 0).trans rfl, (blk_cell BK325.out 1).trans rfl, hx328_0⟩ (fun hHeld => ?_); refine with_tabW turnpikelaw2_AddrForms.tab21 turnpikelaw2_AddrForms.bits21 (fun HT_ HW_ => ?_)
                          generalize w38.drew = w39 at HO_13 BK312 BK325 HB hx328_0 hHeld ⊢
                          refine pure_ (i := 0) (N := some 70) (v := ?_) (a' := ?_) #[true, false, false, false, false, false, false, false, false, false] rfl rfl (any_of HT_.out (by kernel_rfl)) (fun _ _ _ h => h) (Or.inl ⟨by rfl, ?_⟩) ?_ ?_
                          rotate_left
                          · intro w'
                            go_simp
                            with_reducible rfl
                          rotate_left
                          · simp only [Act.put, List.setIfInBounds_toArray, List.set_cons_zero, List.set_cons_succ, i64_w, i32_w]
                            rfl
                          refine pure_ (i := 2) (N := some 72) (v := ?_) (a' := ?_) #[true, false, true, false, false, false, false, false, false, false] rfl rfl (any_of HT_.out (by kernel_rfl)) (fun _ _ _ h => h) (Or.inl ⟨by rfl, ?_⟩) ?_ ?_
                          rotate_left
                          · intro w'
                            go_simp
                            with_reducible rfl
                          rotate_left
                          · simp only [Act.put, List.setIfInBounds_toArray, List.set_cons_zero, List.set_cons_succ, i64_w, i32_w]
                            rfl
                          refine pure_ (i := 3) (N := some 73) (v := ?_) (a' := ?_) #[true, false, true, true, false, false, false, false, false, false] rfl rfl (any_of HT_.out (by kernel_rfl)) (fun _ _ _ h => h) (Or.inl ⟨by rfl, ?_⟩) ?_ ?_
                          rotate_left
                          · intro w'
                            go_simp
                            with_reducible rfl
                          rotate_left
                          · simp only [Act.put, List.setIfInBounds_toArray, List.set_cons_zero, List.set_cons_succ, i64_w, i32_w]
                            rfl
                          refine pure_ (i := 4) (N := some 74) (v := ?_) (a' := ?_) #[true, false, true, true, true, false, false, false, false, false] rfl rfl (any_of HT_.out (by kernel_rfl)) (fun _ _ _ h => h) (Or.inl ⟨by rfl, ?_⟩) ?_ ?_
                          rotate_left
                          · intro w'
                            go_simp
                            with_reducible rfl
                          rotate_left
                          · simp only [Act.put, List.setIfInBounds_toArray, List.set_cons_zero, List.set_cons_succ, i64_w, i32_w]
                            rfl
                          refine take_ (i := 1) (N := some 71) (v := ?_) (a' := ?_) #[true, true, true, true, true, false, false, false, false, false] rfl rfl (take_ofW HT_.out HW_.out (by kernel_rfl)) (fun _ _ _ h => h) (Or.inl ⟨by rfl, ?_⟩) hHeld ?_ ?_
                          rotate_left
                          · rintro w' ⟨s0, s1, s2⟩
                            go_simp
                            with_reducible rfl
                          rotate_left
                          · simp only [Act.put, List.setIfInBounds_toArray, List.set_cons_zero, List.set_cons_succ, i64_w, i32_w]
                            rfl
                          refine take_ (i := 5) (N := some 75) (v := ?_) (a' := ?_) #[true, true, true, true, true, true, false, false, false, false] rfl rfl (take_ofW HT_.out HW_.out (by kernel_rfl)) (fun _ _ _ h => h) (Or.inl ⟨by rfl, ?_⟩) hHeld ?_ ?_
                          rotate_left
                          · rintro w' ⟨s0, s1, s2⟩
                            go_simp
                            with_reducible rfl
                          rotate_left
                          · simp only [Act.put, List.setIfInBounds_toArray, List.set_cons_zero, List.set_cons_succ, i64_w, i32_w]
                            rfl
                          refine pure_ (i := 6) (N := some 76) (v := ?_) (a' := ?_) #[true, true, true, true, true, true, true, false, false, false] rfl rfl (any_of HT_.out (by kernel_rfl)) (fun _ _ _ h => h) (Or.inl ⟨by rfl, ?_⟩) ?_ ?_
                          rotate_left
                          · intro w'
                            go_simp
                            with_reducible rfl
                          rotate_left
                          · simp only [Act.put, List.setIfInBounds_toArray, List.set_cons_zero, List.set_cons_succ, i64_w, i32_w]
                            rfl
                          refine pure_ (i := 7) (N := some 77) (v := ?_) (a' := ?_) #[true, true, true, true, true, true, true, true, false, false] rfl rfl (any_of HT_.out (by kernel_rfl)) (fun _ _ _ h => h) (Or.inl ⟨by rfl, ?_⟩) ?_ ?_
                          rotate_left
                          · intro w'
                            go_simp
                            with_reducible rfl
                          rotate_left
                          · simp only [Act.put, List.setIfInBounds_toArray, List.set_cons_zero, List.set_cons_succ, i64_w, i32_w]
                            rfl
                          refine pure_ (i := 8) (N := some 78) (v := ?_) (a' := ?_) #[true, true, true, true, true, true, true, true, true, false] rfl rfl (any_of HT_.out (by kernel_rfl)) (fun _ _ _ h => h) (Or.inl ⟨by rfl, ?_⟩) ?_ ?_
                          rotate_left
                          · intro w'
                            go_simp
                            with_reducible rfl
                          rotate_left
                          · simp only [Act.put, List.setIfInBounds_toArray, List.set_cons_zero, List.set_cons_succ, i64_w, i32_w]
                            rfl
                          refine last_ (i := 9) (N := none) #[true, true, true, true, true, true, true, true, true, true] rfl rfl (one_of HT_.out (by kernel_rfl)) (by decide) (fun K hK => ?_)
                          have hs41 : w39.cell? ⟨gb325, 1, none⟩ = some (.int .u64 t327) := (blk_cell BK325.out 1).trans rfl
                          have hfs41 := blk_frozen BK325.out 1
                          have hns41_0 := NB312_325.out
                          have hms41_0 := NB325_312.out
                          refine skip_ (w1 := ?_) (by rfl) rfl ?_ ?_
                          rotate_left
                          · go_simp
                            rfl
                          refine hK.out _ _ ?_
                          clear hK K
                          refine done_ (done_of HT_.out (by kernel_rfl)) ?_
                          try go_wp2
                          go_roundg k3
                          case measure => have := HK1.out; have := HK2.out; have := HK3.out; omega
                          case rel => exact ⟨(wrap64 (x19_3 + 1)), (t326), (Go.bits .or .u64 t327 (IntKind.u64.wrap (rd x13_2 x19_3))), (by first | rfl | (simp; done) | (simp [*]; done) | exact congrArg Value.bool (isEmpty_bne _)), H', ⟨by have := HK1.out; have := HK2.out; have := HK3.out; omega⟩, ⟨by (with_reducible repeat (first | apply Kd.R_alloc | apply Kd.R_drewN | apply Kd.R_drew)); exact Kd.R_mono (Kd.R_far (p := ⟨gb325, 1, none⟩) (Kd.R_types HO_13.out BK325.out (by decide)) (fun _ hk => hk.2) (.int .u64 (Go.bits .or .u64 t327 (IntKind.u64.wrap (rd x13_2 x19_3))))) (fun _ hk => trivial)⟩, ⟨by (with_reducible repeat (first | refine blk_drewN ?_ _ | refine blk_drew ?_ | refine blk_alloc ?_ _)); refine blk_far ?_ NB312_325.out _; (with_reducible repeat (first | refine blk_drewN ?_ _ | refine blk_drew ?_ | refine blk_alloc ?_ _)); exact BK312.out⟩, ⟨by (with_reducible repeat (first | refine blk_drewN ?_ _ | refine blk_drew ?_ | refine blk_alloc ?_ _)); refine blk_put (cs := #[.int .u64 t326, .int .u64 t327]) ?_ 1 _ rfl; (with_reducible repeat (first | refine blk_drewN ?_ _ | refine blk_drew ?_ | refine blk_alloc ?_ _)); exact BK325.out⟩, ⟨by repeat (first | (with_reducible first | exact HB.out | apply below_alloc | apply pw_below_drewN | apply below_drew1 | refine below_set ?_ GE312.out | refine below_set ?_ GE325.out) | exact HB.out)⟩⟩
                        · rw [if_neg c33] at H
                          exact absurd H (by simp)
                      · rw [if_neg c32] at H
                        exact absurd H (by simp)
                    · rw [if_neg c30] at H
                      have c30b0 : decide (x19_3 < 8) = false := decide_eq_false c30
                      clear c30
                      have HC42 := Aside0.mk H
                      clear H
                      go_upto_region 22 with (fail)
                      go_cut [86] (fun v86 wc => ∃ (kq : Nat) (x86_41 : Bool), v86 = .bool x86_41 ∧ Aside0 (turnpikelaw2_AddrForms.j3 kq (wrap64 (1 + t314)) a2 t315 t316 a5 x13_2 x86_41 x326000_3 x326001_3 = some r) ∧ Aside0 (kq ≤ k3) ∧ Aside0 (Kd.R (Kd.int .i64) 3 wc w.heap.size (fun _ => True) u13 x13_2) ∧ Aside0 (wc.heap[gb312]? = some (.cells #[.int .u64 a0_0, .int .u64 a0_1] 24 (0, 0))) ∧ Aside0 (wc.heap[gb325]? = some (.cells #[.int .u64 x326000_3, .int .u64 x326001_3] 24 (0, 0))) ∧ Aside0 (Below w.heap.size w wc))
                      case first =>
                        have H := HC42.out
                        clear HC42
                        by_cases c43 : t316 > 0
                        · rw [if_pos c43] at H
                          have c43b0 : decide (0 < t316) = true := decide_eq_true c43
                          clear c43
                          (first | rw [c43b0] | (simp only [i64_w, i32_w]; rw [c43b0]) | skip)
                          have H' := Aside0.mk H
                          clear H
                          go_wp2
                          go_meet
                          case rel => exact ⟨_, (decide ((wrap64 (t315 + t316)) > 6)), (by first | rfl | (simp; done) | (simp [*]; done) | exact congrArg Value.bool (isEmpty_bne _)), H', ⟨by have := HK1.out; have := HK2.out; have := HK3.out; first | omega | exact Nat.le_refl _⟩, ⟨by (with_reducible repeat (first | apply Kd.R_alloc | apply Kd.R_drewN | apply Kd.R_drew)); exact HO_13.out⟩, ⟨by (with_reducible repeat (first | refine blk_drewN ?_ _ | refine blk_drew ?_ | refine blk_alloc ?_ _)); exact BK312.out⟩, ⟨by (with_reducible repeat (first | refine blk_drewN ?_ _ | refine blk_drew ?_ | refine blk_alloc ?_ _)); exact BK325.out⟩, ⟨by repeat (first | (with_reducible first | exact HB.out | apply below_alloc | apply pw_below_drewN | apply below_drew1 | refine below_set ?_ GE312.out | refine below_set ?_ GE325.out) | exact HB.out)⟩⟩
                        · rw [if_neg c43] at H
                          have c43b0 : decide (0 < t316) = false := decide_eq_false c43
                          clear c43
                          (first | rw [c43b0] | (simp only [i64_w, i32_w]; rw [c43b0]) | skip)
                          have H' := Aside0.mk H
                          clear H
                          go_wp2
                          go_meet
                          case rel => exact ⟨_, (false), (by first | rfl | (simp; done) | (simp [*]; done) | exact congrArg Value.bool (isEmpty_bne _)), H', ⟨by have := HK1.out; have := HK2.out; have := HK3.out; first | omega | exact Nat.le_refl _⟩, ⟨by (with_reducible repeat (first | apply Kd.R_alloc | apply Kd.R_drewN | apply Kd.R_drew)); exact HO_13.out⟩, ⟨by (with_reducible repeat (first | refine blk_drewN ?_ _ | refine blk_drew ?_ | refine blk_alloc ?_ _)); exact BK312.out⟩, ⟨by (with_reducible repeat (first | refine blk_drewN ?_ _ | refine blk_drew ?_ | refine blk_alloc ?_ _)); exact BK325.out⟩, ⟨by repeat (first | (with_reducible first | exact HB.out | apply below_alloc | apply pw_below_drewN | apply below_drew1 | refine below_set ?_ GE312.out | refine below_set ?_ GE325.out) | exact HB.out)⟩⟩
                      case rest =>
                        clear HC42
                        try clear c1
                        try clear c2
                        try clear p2
                        try clear q2
                        try clear hx2
                        try clear c3
                        try clear p3
                        try clear q3
                        try clear hx3
                        try clear c4
                        try clear c5
                        try clear p6
                        try clear c8
                        try clear c11
                        try clear c13
                        try clear c14
                        try clear c14b0
                        try clear c15
                        try clear c16
                        try clear c20
                        try clear c23
                        try clear c23b0
                        try clear c24
                        try clear c24b0
                        try clear c25
                        try clear c25b0
                        try clear p26
                        try clear q26
                        try clear hx26
                        try clear hf26
                        try clear c30
                        try clear c30b0
                        try clear c32
                        try clear c32b0
                        try clear p32
                        try clear q32
                        try clear hx32
                        try clear c33
                        try clear c33b0
                        try clear c34
                        try clear c43
                        try clear c43b0
                        try clear hcz17_0
                        try clear hcz17_1
                        try clear hcz21_0
                        try clear hcz21_1
                        try clear hcz35_0
                        try clear hcz35_1
                        try clear hcz37_0
                        try clear hcz37_1
                        try clear hfz17_0
                        try clear hfz17_1
                        try clear hfz21_0
                        try clear hfz21_1
                        try clear hfz35_0
                        try clear hfz35_1
                        try clear hfz37_0
                        try clear hfz37_1
                        try clear hx26_0
                        try clear hx328_0
                        try clear p2
                        try clear p26
                        try clear p328
                        try clear p6
                        try clear q2
                        try clear q26
                        try clear q328
                        obtain ⟨kq, x86_41, rfl, HA, HJ41, HO_13, BK312, BK325, HB⟩ := hcut
                        cases kq with
                        | zero => exact absurd HA.out (by simp [turnpikelaw2_AddrForms.j3])
                        | succ kj41 =>
                          have H := HA.out
                          clear HA
                          simp only [turnpikelaw2_AddrForms.j3] at H
                          have HC44 := Aside0.mk H
                          clear H
                          go_upto_if 86 with (fail)
                          go_cut [5] (fun v5 wc => ∃ (kq : Nat) (x5_43 : Bool), v5 = .bool x5_43 ∧ Aside0 (turnpikelaw2_AddrForms.j4 kq (wrap64 (1 + t314)) a2 t315 t316 x5_43 x13_2 x326000_3 x326001_3 = some r) ∧ Aside0 (kq ≤ kj41) ∧ Aside0 (Kd.R (Kd.int .i64) 3 wc w.heap.size (fun _ => True) u13 x13_2) ∧ Aside0 (wc.heap[gb312]? = some (.cells #[.int .u64 a0_0, .int .u64 a0_1] 24 (0, 0))) ∧ Aside0 (wc.heap[gb325]? = some (.cells #[.int .u64 x326000_3, .int .u64 x326001_3] 24 (0, 0))) ∧ Aside0 (Below w.heap.size w wc))
                          case first =>
                            have H := HC44.out
                            clear HC44
                            by_cases c45 : x86_41 = true
                            · subst c45
                              have H1 : (turnpikelaw2_AddrForms.j4 kj41 (wrap64 (1 + t314)) a2 t315 t316 false x13_2 x326000_3 x326001_3) = some r := by rw [if_pos rfl] at H; exact H
                              clear H
                              have H := H1
                              clear H1
                              have H' := Aside0.mk H
                              clear H
                              go_wp2
                              go_meet
                              case rel => exact ⟨_, (false), (by first | rfl | (simp; done) | (simp [*]; done) | exact congrArg Value.bool (isEmpty_bne _)), H', ⟨by have := HK1.out; have := HK2.out; have := HK3.out; have := HJ41.out; first | omega | exact Nat.le_refl _⟩, ⟨by (with_reducible repeat (first | apply Kd.R_alloc | apply Kd.R_drewN | apply Kd.R_drew)); exact HO_13.out⟩, ⟨by (with_reducible repeat (first | refine blk_drewN ?_ _ | refine blk_drew ?_ | refine blk_alloc ?_ _)); exact BK312.out⟩, ⟨by (with_reducible repeat (first | refine blk_drewN ?_ _ | refine blk_drew ?_ | refine blk_alloc ?_ _)); exact BK325.out⟩, ⟨by repeat (first | (with_reducible first | exact HB.out | apply below_alloc | apply pw_below_drewN | apply below_drew1 | refine below_set ?_ GE312.out | refine below_set ?_ GE325.out) | exact HB.out)⟩⟩
                            · replace c45 := Bool.eq_false_iff.mpr c45
                              subst c45
                              have H1 : (turnpikelaw2_AddrForms.j4 kj41 (wrap64 (1 + t314)) a2 t315 t316 a5 x13_2 x326000_3 x326001_3) = some r := by rw [if_neg (show ¬ (false = true) by decide)] at H; exact H
                              clear H
                              have H := H1
                              clear H1
                              have H' := Aside0.mk H
                              clear H
                              go_wp2
                              go_meet
                              case rel => exact ⟨_, (a5), (by first | rfl | (simp; done) | (simp [*]; done) | exact congrArg Value.bool (isEmpty_bne _)), H', ⟨by have := HK1.out; have := HK2.out; have := HK3.out; have := HJ41.out; first | omega | exact Nat.le_refl _⟩, ⟨by (with_reducible repeat (first | apply Kd.R_alloc | apply Kd.R_drewN | apply Kd.R_drew)); exact HO_13.out⟩, ⟨by (with_reducible repeat (first | refine blk_drewN ?_ _ | refine blk_drew ?_ | refine blk_alloc ?_ _)); exact BK312.out⟩, ⟨by (with_reducible repeat (first | refine blk_drewN ?_ _ | refine blk_drew ?_ | refine blk_alloc ?_ _)); exact BK325.out⟩, ⟨by repeat (first | (with_reducible first | exact HB.out | apply below_alloc | apply pw_below_drewN | apply below_drew1 | refine below_set ?_ GE312.out | refine below_set ?_ GE325.out) | exact HB.out)⟩⟩
                          case rest =>
                            clear HC44
                            try clear c1
                            try clear c2
                            try clear p2
                            try clear q2
                            try clear hx2
                            try clear c3
                            try clear p3
                            try clear q3
                            try clear hx3
                            try clear c4
                            try clear c5
                            try clear p6
                            try clear c8
                            try clear c11
                            try clear c13
                            try clear c14
                            try clear c14b0
                            try clear c15
                            try clear c16
                            try clear c20
                            try clear c23
                            try clear c23b0
                            try clear c24
                            try clear c24b0
                            try clear c25
                            try clear c25b0
                            try clear p26
                            try clear q26
                            try clear hx26
                            try clear hf26
                            try clear c30
                            try clear c30b0
                            try clear c32
                            try clear c32b0
                            try clear p32
                            try clear q32
                            try clear hx32
                            try clear c33
                            try clear c33b0
                            try clear c34
                            try clear c43
                            try clear c43b0
                            try clear c45
                            try clear hcz17_0
                            try clear hcz17_1
                            try clear hcz21_0
                            try clear hcz21_1
                            try clear hcz35_0
                            try clear hcz35_1
                            try clear hcz37_0
                            try clear hcz37_1
                            try clear hfz17_0
                            try clear hfz17_1
                            try clear hfz21_0
                            try clear hfz21_1
                            try clear hfz35_0
                            try clear hfz35_1
                            try clear hfz37_0
                            try clear hfz37_1
                            try clear hx26_0
                            try clear hx328_0
                            try clear p2
                            try clear p26
                            try clear p3
                            try clear p32
                            try clear p328
                            try clear p6
                            try clear q2
                            try clear q26
                            try clear q3
                            try clear q32
                            try clear q328
                            obtain ⟨kq, x5_43, rfl, HA, HJ43, HO_13, BK312, BK325, HB⟩ := hcut
                            cases kq with
                            | zero => exact absurd HA.out (by simp [turnpikelaw2_AddrForms.j4])
                            | succ kj43 =>
                              have H := HA.out
                              clear HA
                              simp only [turnpikelaw2_AddrForms.j4] at H
                              have H' := Aside0.mk H
                              clear H
                              go_wp2
                              go_loopg [20, 21] kj43 (fun kq v20 v21 w' => ∃ (x20_6 : ByteArray) (x21_6 : Int), v20 = .string x20_6 ∧ v21 = .int .i64 x21_6 ∧ Aside0 (turnpikelaw2_AddrForms.l3 kq (wrap64 (1 + t314)) a2 t315 t316 x5_43 x13_2 x20_6 x21_6 x326000_3 x326001_3 = some r) ∧ Aside0 (kq ≤ kj43) ∧ Aside0 (Kd.R (Kd.int .i64) 3 w' w.heap.size (fun _ => True) u13 x13_2) ∧ Aside0 (w'.heap[gb312]? = some (.cells #[.int .u64 a0_0, .int .u64 a0_1] 24 (0, 0))) ∧ Aside0 (w'.heap[gb325]? = some (.cells #[.int .u64 x326000_3, .int .u64 x326001_3] 24 (0, 0))) ∧ Aside0 (Below w.heap.size w w'))
                              case atStart => exact ⟨((⟨#[]⟩ : ByteArray)), (0), (by first | rfl | (simp; done) | (simp [*]; done) | exact congrArg Value.bool (isEmpty_bne _)), (by first | rfl | (simp; done) | (simp [*]; done) | exact congrArg Value.bool (isEmpty_bne _)), H', ⟨Nat.le_refl _⟩, ⟨by (with_reducible repeat (first | apply Kd.R_alloc | apply Kd.R_drewN | apply Kd.R_drew)); exact HO_13.out⟩, ⟨by (with_reducible repeat (first | refine blk_drewN ?_ _ | refine blk_drew ?_ | refine blk_alloc ?_ _)); exact BK312.out⟩, ⟨by (with_reducible repeat (first | refine blk_drewN ?_ _ | refine blk_drew ?_ | refine blk_alloc ?_ _)); exact BK325.out⟩, ⟨by repeat (first | (with_reducible first | exact HB.out | apply below_alloc | apply pw_below_drewN | apply below_drew1 | refine below_set ?_ GE312.out | refine below_set ?_ GE325.out) | exact HB.out)⟩⟩
                              case round =>
                                clear H'
                                try clear c1
                                try clear c2
                                try clear p2
                                try clear q2
                                try clear hx2
                                try clear c3
                                try clear p3
                                try clear q3
                                try clear hx3
                                try clear c4
                                try clear c5
                                try clear p6
                                try clear c8
                                try clear c11
                                try clear c13
                                try clear c14
                                try clear c14b0
                                try clear c15
                                try clear c16
                                try clear c20
                                try clear c23
                                try clear c23b0
                                try clear c24
                                try clear c24b0
                                try clear c25
                                try clear c25b0
                                try clear p26
                                try clear q26
                                try clear hx26
                                try clear hf26
                                try clear c30
                                try clear c30b0
                                try clear c32
                                try clear c32b0
                                try clear p32
                                try clear q32
                                try clear hx32
                                try clear c33
                                try clear c33b0
                                try clear c34
                                try clear c43
                                try clear c43b0
                                try clear c45
                                try clear hcz17_0
                                try clear hcz17_1
                                try clear hcz21_0
                                try clear hcz21_1
                                try clear hcz35_0
                                try clear hcz35_1
                                try clear hcz37_0
                                try clear hcz37_1
                                try clear hfz17_0
                                try clear hfz17_1
                                try clear hfz21_0
                                try clear hfz21_1
                                try clear hfz35_0
                                try clear hfz35_1
                                try clear hfz37_0
                                try clear hfz37_1
                                try clear hx26_0
                                try clear hx328_0
                                try clear p2
                                try clear p26
                                try clear p3
                                try clear p32
                                try clear p328
                                try clear p6
                                try clear q2
                                try clear q26
                                try clear q3
                                try clear q32
                                try clear q328
                                obtain ⟨x20_6, x21_6, rfl, rfl, HA, HK6, HO_13, BK312, BK325, HB⟩ := hrel
                                cases gk with
                                | zero => exact absurd HA.out (by simp [turnpikelaw2_AddrForms.l3])
                                | succ k6 =>
                                  have H := HA.out
                                  clear HA
                                  simp only [turnpikelaw2_AddrForms.l3] at H
                                  by_cases c46 : x21_6 < 8
                                  · rw [if_pos c46] at H
                                    have c46b0 : decide (x21_6 < 8) = true := decide_eq_true c46
                                    clear c46
                                    have HC47 := Aside0.mk H
                                    clear H
                                    go_upto_region 28 with (fail)
                                    go_cut [97] (fun v97 wc => ∃ (kq : Nat) (x97_46 : Bool), v97 = .bool x97_46 ∧ Aside0 (turnpikelaw2_AddrForms.j6 kq (wrap64 (1 + t314)) a2 t315 t316 x5_43 x13_2 x20_6 x21_6 x97_46 x326000_3 x326001_3 = some r) ∧ Aside0 (kq ≤ k6) ∧ Aside0 (Kd.R (Kd.int .i64) 3 wc w.heap.size (fun _ => True) u13 x13_2) ∧ Aside0 (wc.heap[gb312]? = some (.cells #[.int .u64 a0_0, .int .u64 a0_1] 24 (0, 0))) ∧ Aside0 (wc.heap[gb325]? = some (.cells #[.int .u64 x326000_3, .int .u64 x326001_3] 24 (0, 0))) ∧ Aside0 (Below w.heap.size w wc))
                                    case first =>
                                      have H := HC47.out
                                      clear HC47
                                      by_cases c48 : t316 > 0
                                      · rw [if_pos c48] at H
                                        have c48b0 : decide (0 < t316) = true := decide_eq_true c48
                                        clear c48
                                        (first | rw [c48b0] | (simp only [i64_w, i32_w]; rw [c48b0]) | skip)
                                        have H' := Aside0.mk H
                                        clear H
                                        go_wp2
                                        go_meet
                                        case rel => exact ⟨_, ((x21_6 == t315)), (by first | rfl | (simp; done) | (simp [*]; done) | exact congrArg Value.bool (isEmpty_bne _)), H', ⟨by have := HK1.out; have := HK2.out; have := HK3.out; have := HJ41.out; have := HJ43.out; have := HK6.out; first | omega | exact Nat.le_refl _⟩, ⟨by (with_reducible repeat (first | apply Kd.R_alloc | apply Kd.R_drewN | apply Kd.R_drew)); exact HO_13.out⟩, ⟨by (with_reducible repeat (first | refine blk_drewN ?_ _ | refine blk_drew ?_ | refine blk_alloc ?_ _)); exact BK312.out⟩, ⟨by (with_reducible repeat (first | refine blk_drewN ?_ _ | refine blk_drew ?_ | refine blk_alloc ?_ _)); exact BK325.out⟩, ⟨by repeat (first | (with_reducible first | exact HB.out | apply below_alloc | apply pw_below_drewN | apply below_drew1 | refine below_set ?_ GE312.out | refine below_set ?_ GE325.out) | exact HB.out)⟩⟩
                                      · rw [if_neg c48] at H
                                        have c48b0 : decide (0 < t316) = false := decide_eq_false c48
                                        clear c48
                                        (first | rw [c48b0] | (simp only [i64_w, i32_w]; rw [c48b0]) | skip)
                                        have H' := Aside0.mk H
                                        clear H
                                        go_wp2
                                        go_meet
                                        case rel => exact ⟨_, (false), (by first | rfl | (simp; done) | (simp [*]; done) | exact congrArg Value.bool (isEmpty_bne _)), H', ⟨by have := HK1.out; have := HK2.out; have := HK3.out; have := HJ41.out; have := HJ43.out; have := HK6.out; first | omega | exact Nat.le_refl _⟩, ⟨by (with_reducible repeat (first | apply Kd.R_alloc | apply Kd.R_drewN | apply Kd.R_drew)); exact HO_13.out⟩, ⟨by (with_reducible repeat (first | refine blk_drewN ?_ _ | refine blk_drew ?_ | refine blk_alloc ?_ _)); exact BK312.out⟩, ⟨by (with_reducible repeat (first | refine blk_drewN ?_ _ | refine blk_drew ?_ | refine blk_alloc ?_ _)); exact BK325.out⟩, ⟨by repeat (first | (with_reducible first | exact HB.out | apply below_alloc | apply pw_below_drewN | apply below_drew1 | refine below_set ?_ GE312.out | refine below_set ?_ GE325.out) | exact HB.out)⟩⟩
                                    case rest =>
                                      clear HC47
                                      try clear c1
                                      try clear c2
                                      try clear p2
                                      try clear q2
                                      try clear hx2
                                      try clear c3
                                      try clear p3
                                      try clear q3
                                      try clear hx3
                                      try clear c4
                                      try clear c5
                                      try clear p6
                                      try clear c8
                                      try clear c11
                                      try clear c13
                                      try clear c14
                                      try clear c14b0
                                      try clear c15
                                      try clear c16
                                      try clear c20
                                      try clear c23
                                      try clear c23b0
                                      try clear c24
                                      try clear c24b0
                                      try clear c25
                                      try clear c25b0
                                      try clear p26
                                      try clear q26
                                      try clear hx26
                                      try clear hf26
                                      try clear c30
                                      try clear c30b0
                                      try clear c32
                                      try clear c32b0
                                      try clear p32
                                      try clear q32
                                      try clear hx32
                                      try clear c33
                                      try clear c33b0
                                      try clear c34
                                      try clear c43
                                      try clear c43b0
                                      try clear c45
                                      try clear c46
                                      try clear c46b0
                                      try clear c48
                                      try clear c48b0
                                      try clear hcz17_0
                                      try clear hcz17_1
                                      try clear hcz21_0
                                      try clear hcz21_1
                                      try clear hcz35_0
                                      try clear hcz35_1
                                      try clear hcz37_0
                                      try clear hcz37_1
                                      try clear hfz17_0
                                      try clear hfz17_1
                                      try clear hfz21_0
                                      try clear hfz21_1
                                      try clear hfz35_0
                                      try clear hfz35_1
                                      try clear hfz37_0
                                      try clear hfz37_1
                                      try clear hx26_0
                                      try clear hx328_0
                                      try clear p2
                                      try clear p26
                                      try clear p3
                                      try clear p32
                                      try clear p328
                                      try clear p6
                                      try clear q2
                                      try clear q26
                                      try clear q3
                                      try clear q32
                                      try clear q328
                                      obtain ⟨kq, x97_46, rfl, HA, HJ46, HO_13, BK312, BK325, HB⟩ := hcut
                                      cases kq with
                                      | zero => exact absurd HA.out (by simp [turnpikelaw2_AddrForms.j6])
                                      | succ kj46 =>
                                        have H := HA.out
                                        clear HA
                                        simp only [turnpikelaw2_AddrForms.j6] at H
                                        by_cases c49 : x97_46 = true
                                        · subst c49
                                          have H1 : (if x20_6.size + 2 ≤ 9223372036854775807 then (turnpikelaw2_AddrForms.l3 kj46 (wrap64 (1 + t314)) a2 t315 t316 x5_43 x13_2 (x20_6 ++ (⟨#[58, 58]⟩ : ByteArray)) (wrap64 ((wrap64 ((wrap64 (x21_6 + t316)) - 1)) + 1)) x326000_3 x326001_3) else (none)) = some r := by rw [if_pos rfl] at H; exact H
                                          clear H
                                          have H := H1
                                          clear H1
                                          by_cases c50 : x20_6.size + 2 ≤ 9223372036854775807
                                          · rw [if_pos c50] at H
                                            have c50b0 := eq_true c50
                                            have c50b1 : decide (x20_6.size + 2 ≤ 9223372036854775807) = true := decide_eq_true c50
                                            try have c50b2 : (9223372036854775807 < x20_6.size + 2) = False := eq_false (Nat.not_lt.2 c50)
                                            have H' := Aside0.mk H
                                            clear H
                                            go_wp2
                                            go_roundg kj46
                                            case measure => have := HK1.out; have := HK2.out; have := HK3.out; have := HJ41.out; have := HJ43.out; have := HK6.out; have := HJ46.out; omega
                                            case rel => exact ⟨(x20_6 ++ (⟨#[58, 58]⟩ : ByteArray)), (wrap64 ((wrap64 ((wrap64 (x21_6 + t316)) - 1)) + 1)), (by first | rfl | (simp; done) | (simp [*]; done) | exact congrArg Value.bool (isEmpty_bne _)), (by first | rfl | (simp; done) | (simp [*]; done) | exact congrArg Value.bool (isEmpty_bne _)), H', ⟨by have := HK1.out; have := HK2.out; have := HK3.out; have := HJ41.out; have := HJ43.out; have := HK6.out; have := HJ46.out; omega⟩, ⟨by (with_reducible repeat (first | apply Kd.R_alloc | apply Kd.R_drewN | apply Kd.R_drew)); exact HO_13.out⟩, ⟨by (with_reducible repeat (first | refine blk_drewN ?_ _ | refine blk_drew ?_ | refine blk_alloc ?_ _)); exact BK312.out⟩, ⟨by (with_reducible repeat (first | refine blk_drewN ?_ _ | refine blk_drew ?_ | refine blk_alloc ?_ _)); exact BK325.out⟩, ⟨by repeat (first | (with_reducible first | exact HB.out | apply below_alloc | apply pw_below_drewN | apply below_drew1 | refine below_set ?_ GE312.out | refine below_set ?_ GE325.out) | exact HB.out)⟩⟩
                                          · rw [if_neg c50] at H
                                            exact absurd H (by simp)
                                        · replace c49 := Bool.eq_false_iff.mpr c49
                                          subst c49
                                          have H1 : (if x20_6.toList = ([] : List UInt8) then (turnpikelaw2_AddrForms.j7 kj46 (wrap64 (1 + t314)) a2 t315 t316 x5_43 x13_2 x20_6 x21_6 false x326000_3 x326001_3) else (if 0 ≤ (wrap64 ((x20_6.size : Int) - 1)) then (if (wrap64 ((x20_6.size : Int) - 1)) < (x20_6.size : Int) then (turnpikelaw2_AddrForms.j7 kj46 (wrap64 (1 + t314)) a2 t315 t316 x5_43 x13_2 x20_6 x21_6 ((bt x20_6 (wrap64 ((x20_6.size : Int) - 1))) != 58) x326000_3 x326001_3) else (none)) else (none))) = some r := by rw [if_neg (show ¬ (false = true) by decide)] at H; exact H
                                          clear H
                                          have H := H1
                                          clear H1
                                          have HC51 := Aside0.mk H
                                          clear H
                                          go_upto_region 31 with (fail)
                                          go_cut [113] (fun v113 wc => ∃ (kq : Nat) (x113_50 : Bool), v113 = .bool x113_50 ∧ Aside0 (turnpikelaw2_AddrForms.j7 kq (wrap64 (1 + t314)) a2 t315 t316 x5_43 x13_2 x20_6 x21_6 x113_50 x326000_3 x326001_3 = some r) ∧ Aside0 (kq ≤ kj46) ∧ Aside0 (Kd.R (Kd.int .i64) 3 wc w.heap.size (fun _ => True) u13 x13_2) ∧ Aside0 (wc.heap[gb312]? = some (.cells #[.int .u64 a0_0, .int .u64 a0_1] 24 (0, 0))) ∧ Aside0 (wc.heap[gb325]? = some (.cells #[.int .u64 x326000_3, .int .u64 x326001_3] 24 (0, 0))) ∧ Aside0 (Below w.heap.size w wc))
                                          case first =>
                                            have H := HC51.out
                                            clear HC51
                                            by_cases c52 : x20_6.toList = ([] : List UInt8)
                                            · rw [if_pos c52] at H
                                              have c52b0 : (x20_6.toList == ([] : List UInt8)) = true := beq_iff_eq.mpr c52
                                              have c52b1 : (x20_6.toList != ([] : List UInt8)) = false := bne_eq_false_iff_eq.mpr c52
                                              clear c52
                                              (first | rw [c52b0] | (simp only [i64_w, i32_w]; rw [c52b0]) | skip)
                                              have H' := Aside0.mk H
                                              clear H
                                              go_wp2
                                              go_meet
                                              case rel => exact ⟨_, (false), (by first | rfl | (simp; done) | (simp [*]; done) | exact congrArg Value.bool (isEmpty_bne _)), H', ⟨by have := HK1.out; have := HK2.out; have := HK3.out; have := HJ41.out; have := HJ43.out; have := HK6.out; have := HJ46.out; first | omega | exact Nat.le_refl _⟩, ⟨by (with_reducible repeat (first | apply Kd.R_alloc | apply Kd.R_drewN | apply Kd.R_drew)); exact HO_13.out⟩, ⟨by (with_reducible repeat (first | refine blk_drewN ?_ _ | refine blk_drew ?_ | refine blk_alloc ?_ _)); exact BK312.out⟩, ⟨by (with_reducible repeat (first | refine blk_drewN ?_ _ | refine blk_drew ?_ | refine blk_alloc ?_ _)); exact BK325.out⟩, ⟨by repeat (first | (with_reducible first | exact HB.out | apply below_alloc | apply pw_below_drewN | apply below_drew1 | refine below_set ?_ GE312.out | refine below_set ?_ GE325.out) | exact HB.out)⟩⟩
                                            · rw [if_neg c52] at H
                                              have c52b0 : (x20_6.toList == ([] : List UInt8)) = false := beq_eq_false_iff_ne.mpr c52
                                              have c52b1 : (x20_6.toList != ([] : List UInt8)) = true := bne_iff_ne.mpr c52
                                              (first | rw [c52b0] | (simp only [i64_w, i32_w]; rw [c52b0]) | skip)
                                              obtain ⟨ji53, hji53⟩ : ∃ j_ : Int, (wrap64 ((x20_6.size : Int) - 1)) = j_ := ⟨_, rfl⟩
                                              replace H : (if 0 ≤ (ji53) then (if (ji53) < (x20_6.size : Int) then (turnpikelaw2_AddrForms.j7 kj46 (wrap64 (1 + t314)) a2 t315 t316 x5_43 x13_2 x20_6 x21_6 ((bt x20_6 (ji53)) != 58) x326000_3 x326001_3) else (none)) else (none)) = some r := by first | (rw [hji53] at H; exact H) | (simp only [hji53] at H ⊢; exact H)
                                              have hji53w : (IntKind.i64.wrap ((x20_6.size : Int) - 1)) = ji53 := (i64_w _).trans hji53
                                              by_cases c54 : 0 ≤ (ji53)
                                              · rw [if_pos c54] at H
                                                have c54b0 : decide (0 ≤ (ji53)) = true := decide_eq_true c54
                                                clear c54
                                                by_cases c55 : (ji53) < (x20_6.size : Int)
                                                · rw [if_pos c55] at H
                                                  have c55b0 : decide ((ji53) < (x20_6.size : Int)) = true := decide_eq_true c55
                                                  clear c55
                                                  have H' := Aside0.mk H
                                                  clear H
                                                  have p56 : 0 ≤ ((ji53) : Int) := of_decide_eq_true (by first | (with_reducible assumption) | assumption)
                                                  have q56 : (ji53) < (x20_6.size : Int) := of_decide_eq_true (by first | (with_reducible assumption) | assumption)
                                                  have hx56 := bt_at x20_6 (ji53)
                                                  replace p56 := eq_true p56
                                                  replace q56 := eq_true q56
                                                  go_wp2
                                                  go_meet
                                                  case rel => exact ⟨_, (((bt x20_6 (ji53)) != 58)), (by first | rfl | (simp; done) | (simp only [← hji53] <;> (first | rfl | simp)) | (simp [*]; done)), H', ⟨by have := HK1.out; have := HK2.out; have := HK3.out; have := HJ41.out; have := HJ43.out; have := HK6.out; have := HJ46.out; first | omega | exact Nat.le_refl _⟩, ⟨by (with_reducible repeat (first | apply Kd.R_alloc | apply Kd.R_drewN | apply Kd.R_drew)); exact HO_13.out⟩, ⟨by (with_reducible repeat (first | refine blk_drewN ?_ _ | refine blk_drew ?_ | refine blk_alloc ?_ _)); exact BK312.out⟩, ⟨by (with_reducible repeat (first | refine blk_drewN ?_ _ | refine blk_drew ?_ | refine blk_alloc ?_ _)); exact BK325.out⟩, ⟨by repeat (first | (with_reducible first | exact HB.out | apply below_alloc | apply pw_below_drewN | apply below_drew1 | refine below_set ?_ GE312.out | refine below_set ?_ GE325.out) | exact HB.out)⟩⟩
                                                · rw [if_neg c55] at H
                                                  exact absurd H (by simp)
                                              · rw [if_neg c54] at H
                                                exact absurd H (by simp)
                                          case rest =>
                                            clear HC51
                                            try clear c1
                                            try clear c2
                                            try clear p2
                                            try clear q2
                                            try clear hx2
                                            try clear c3
                                            try clear p3
                                            try clear q3
                                            try clear hx3
                                            try clear c4
                                            try clear c5
                                            try clear p5
                                            try clear q5
                                            try clear hx5
                                            try clear p6
                                            try clear c8
                                            try clear c11
                                            try clear c13
                                            try clear c14
                                            try clear c14b0
                                            try clear c15
                                            try clear c16
                                            try clear c20
                                            try clear c23
                                            try clear c23b0
                                            try clear c24
                                            try clear c24b0
                                            try clear c25
                                            try clear c25b0
                                            try clear p26
                                            try clear q26
                                            try clear hx26
                                            try clear hf26
                                            try clear c30
                                            try clear c30b0
                                            try clear c32
                                            try clear c32b0
                                            try clear p32
                                            try clear q32
                                            try clear hx32
                                            try clear c33
                                            try clear c33b0
                                            try clear c34
                                            try clear c43
                                            try clear c43b0
                                            try clear c45
                                            try clear c46
                                            try clear c46b0
                                            try clear c48
                                            try clear c48b0
                                            try clear c49
                                            try clear c50
                                            try clear c50b0
                                            try clear c50b1
                                            try clear c50b2
                                            try clear c52
                                            try clear c52b0
                                            try clear c52b1
                                            try clear c54
                                            try clear c54b0
                                            try clear c55
                                            try clear c55b0
                                            try clear p56
                                            try clear q56
                                            try clear hx56
                                            try clear hcz17_0
                                            try clear hcz17_1
                                            try clear hcz21_0
                                            try clear hcz21_1
                                            try clear hcz35_0
                                            try clear hcz35_1
                                            try clear hcz37_0
                                            try clear hcz37_1
                                            try clear hfz17_0
                                            try clear hfz17_1
                                            try clear hfz21_0
                                            try clear hfz21_1
                                            try clear hfz35_0
                                            try clear hfz35_1
                                            try clear hfz37_0
                                            try clear hfz37_1
                                            try clear hx26_0
                                            try clear hx328_0
                                            try clear p2
                                            try clear p26
                                            try clear p3
                                            try clear p32
                                            try clear p328
                                            try clear p56
                                            try clear p6
                                            try clear q2
                                            try clear q26
                                            try clear q3
                                            try clear q32
                                            try clear q328
                                            try clear q56
                                            obtain ⟨kq, x113_50, rfl, HA, HJ50, HO_13, BK312, BK325, HB⟩ := hcut
                                            cases kq with
                                            | zero => exact absurd HA.out (by simp [turnpikelaw2_AddrForms.j7])
                                            | succ kj50 =>
                                              have H := HA.out
                                              clear HA
                                              simp only [turnpikelaw2_AddrForms.j7] at H
                                              have HC57 := Aside0.mk H
                                              clear H
                                              go_upto_if 113 with (fail)
                                              go_cut [20] (fun v20 wc => ∃ (kq : Nat) (x20_56 : ByteArray), v20 = .string x20_56 ∧ Aside0 (turnpikelaw2_AddrForms.j8 kq (wrap64 (1 + t314)) a2 t315 t316 x5_43 x13_2 x20_56 x21_6 x326000_3 x326001_3 = some r) ∧ Aside0 (kq ≤ kj50) ∧ Aside0 (Kd.R (Kd.int .i64) 3 wc w.heap.size (fun _ => True) u13 x13_2) ∧ Aside0 (wc.heap[gb312]? = some (.cells #[.int .u64 a0_0, .int .u64 a0_1] 24 (0, 0))) ∧ Aside0 (wc.heap[gb325]? = some (.cells #[.int .u64 x326000_3, .int .u64 x326001_3] 24 (0, 0))) ∧ Aside0 (Below w.heap.size w wc))
                                              case first =>
                                                have H := HC57.out
                                                clear HC57
                                                by_cases c58 : x113_50 = true
                                                · subst c58
                                                  have H1 : (if x20_6.size + 1 ≤ 9223372036854775807 then (turnpikelaw2_AddrForms.j8 kj50 (wrap64 (1 + t314)) a2 t315 t316 x5_43 x13_2 (x20_6 ++ (⟨#[58]⟩ : ByteArray)) x21_6 x326000_3 x326001_3) else (none)) = some r := by rw [if_pos rfl] at H; exact H
                                                  clear H
                                                  have H := H1
                                                  clear H1
                                                  by_cases c59 : x20_6.size + 1 ≤ 9223372036854775807
                                                  · rw [if_pos c59] at H
                                                    have c59b0 := eq_true c59
                                                    have c59b1 : decide (x20_6.size + 1 ≤ 9223372036854775807) = true := decide_eq_true c59
                                                    try have c59b2 : (9223372036854775807 < x20_6.size + 1) = False := eq_false (Nat.not_lt.2 c59)
                                                    have H' := Aside0.mk H
                                                    clear H
                                                    go_wp2
                                                    go_meet
                                                    case rel => exact ⟨_, (x20_6 ++ (⟨#[58]⟩ : ByteArray)), (by first | rfl | (simp; done) | (simp [*]; done) | exact congrArg Value.bool (isEmpty_bne _)), H', ⟨by have := HK1.out; have := HK2.out; have := HK3.out; have := HJ41.out; have := HJ43.out; have := HK6.out; have := HJ46.out; have := HJ50.out; first | omega | exact Nat.le_refl _⟩, ⟨by (with_reducible repeat (first | apply Kd.R_alloc | apply Kd.R_drewN | apply Kd.R_drew)); exact HO_13.out⟩, ⟨by (with_reducible repeat (first | refine blk_drewN ?_ _ | refine blk_drew ?_ | refine blk_alloc ?_ _)); exact BK312.out⟩, ⟨by (with_reducible repeat (first | refine blk_drewN ?_ _ | refine blk_drew ?_ | refine blk_alloc ?_ _)); exact BK325.out⟩, ⟨by repeat (first | (with_reducible first | exact HB.out | apply below_alloc | apply pw_below_drewN | apply below_drew1 | refine below_set ?_ GE312.out | refine below_set ?_ GE325.out) | exact HB.out)⟩⟩
                                                  · rw [if_neg c59] at H
                                                    exact absurd H (by simp)
                                                · replace c58 := Bool.eq_false_iff.mpr c58
                                                  subst c58
                                                  have H1 : (turnpikelaw2_AddrForms.j8 kj50 (wrap64 (1 + t314)) a2 t315 t316 x5_43 x13_2 x20_6 x21_6 x326000_3 x326001_3) = some r := by rw [if_neg (show ¬ (false = true) by decide)] at H; exact H
                                                  clear H
                                                  have H := H1
                                                  clear H1
                                                  have H' := Aside0.mk H
                                                  clear H
                                                  go_wp2
                                                  go_meet
                                                  case rel => exact ⟨_, (x20_6), (by first | rfl | (simp; done) | (simp [*]; done) | exact congrArg Value.bool (isEmpty_bne _)), H', ⟨by have := HK1.out; have := HK2.out; have := HK3.out; have := HJ41.out; have := HJ43.out; have := HK6.out; have := HJ46.out; have := HJ50.out; first | omega | exact Nat.le_refl _⟩, ⟨by (with_reducible repeat (first | apply Kd.R_alloc | apply Kd.R_drewN | apply Kd.R_drew)); exact HO_13.out⟩, ⟨by (with_reducible repeat (first | refine blk_drewN ?_ _ | refine blk_drew ?_ | refine blk_alloc ?_ _)); exact BK312.out⟩, ⟨by (with_reducible repeat (first | refine blk_drewN ?_ _ | refine blk_drew ?_ | refine blk_alloc ?_ _)); exact BK325.out⟩, ⟨by repeat (first | (with_reducible first | exact HB.out | apply below_alloc | apply pw_below_drewN | apply below_drew1 | refine below_set ?_ GE312.out | refine below_set ?_ GE325.out) | exact HB.out)⟩⟩
                                              case rest =>
                                                clear HC57
                                                try clear c1
                                                try clear c2
                                                try clear p2
                                                try clear q2
                                                try clear hx2
                                                try clear c3
                                                try clear p3
                                                try clear q3
                                                try clear hx3
                                                try clear c4
                                                try clear c5
                                                try clear p5
                                                try clear q5
                                                try clear hx5
                                                try clear p6
                                                try clear c8
                                                try clear c11
                                                try clear c13
                                                try clear c14
                                                try clear c14b0
                                                try clear c15
                                                try clear c16
                                                try clear c20
                                                try clear c23
                                                try clear c23b0
                                                try clear c24
                                                try clear c24b0
                                                try clear c25
                                                try clear c25b0
                                                try clear p26
                                                try clear q26
                                                try clear hx26
                                                try clear hf26
                                                try clear c30
                                                try clear c30b0
                                                try clear c32
                                                try clear c32b0
                                                try clear p32
                                                try clear q32
                                                try clear hx32
                                                try clear c33
                                                try clear c33b0
                                                try clear c34
                                                try clear c43
                                                try clear c43b0
                                                try clear c45
                                                try clear c46
                                                try clear c46b0
                                                try clear c48
                                                try clear c48b0
                                                try clear c49
                                                try clear c50
                                                try clear c50b0
                                                try clear c50b1
                                                try clear c50b2
                                                try clear c52
                                                try clear c52b0
                                                try clear c52b1
                                                try clear c54
                                                try clear c54b0
                                                try clear c55
                                                try clear c55b0
                                                try clear p56
                                                try clear q56
                                                try clear hx56
                                                try clear c58
                                                try clear c59
                                                try clear c59b0
                                                try clear c59b1
                                                try clear c59b2
                                                try clear hcz17_0
                                                try clear hcz17_1
                                                try clear hcz21_0
                                                try clear hcz21_1
                                                try clear hcz35_0
                                                try clear hcz35_1
                                                try clear hcz37_0
                                                try clear hcz37_1
                                                try clear hfz17_0
                                                try clear hfz17_1
                                                try clear hfz21_0
                                                try clear hfz21_1
                                                try clear hfz35_0
                                                try clear hfz35_1
                                                try clear hfz37_0
                                                try clear hfz37_1
                                                try clear hx26_0
                                                try clear hx328_0
                                                try clear p2
                                                try clear p26
                                                try clear p3
                                                try clear p32
                                                try clear p328
                                                try clear p5
                                                try clear p56
                                                try clear p6
                                                try clear q2
                                                try clear q26
                                                try clear q3
                                                try clear q32
                                                try clear q328
                                                try clear q5
                                                try clear q56
                                                obtain ⟨kq, x20_56, rfl, HA, HJ56, HO_13, BK312, BK325, HB⟩ := hcut
                                                cases kq with
                                                | zero => exact absurd HA.out (by simp [turnpikelaw2_AddrForms.j8])
                                                | succ kj56 =>
                                                  have H := HA.out
                                                  clear HA
                                                  simp only [turnpikelaw2_AddrForms.j8] at H
                                                  have HC60 := Aside0.mk H
                                                  clear H
                                                  go_upto_region 33 with (fail)
                                                  go_cut [120] (fun v120 wc => ∃ (kq : Nat) (x120_59 : Bool), v120 = .bool x120_59 ∧ Aside0 (turnpikelaw2_AddrForms.j9 kq (wrap64 (1 + t314)) a2 t315 t316 x5_43 x13_2 x20_56 x21_6 x120_59 x326000_3 x326001_3 = some r) ∧ Aside0 (kq ≤ kj56) ∧ Aside0 (Kd.R (Kd.int .i64) 3 wc w.heap.size (fun _ => True) u13 x13_2) ∧ Aside0 (wc.heap[gb312]? = some (.cells #[.int .u64 a0_0, .int .u64 a0_1] 24 (0, 0))) ∧ Aside0 (wc.heap[gb325]? = some (.cells #[.int .u64 x326000_3, .int .u64 x326001_3] 24 (0, 0))) ∧ Aside0 (Below w.heap.size w wc))
                                                  case first =>
                                                    have H := HC60.out
                                                    clear HC60
                                                    by_cases c61 : x5_43 = true
                                                    · subst c61
                                                      have H1 : (turnpikelaw2_AddrForms.j9 kj56 (wrap64 (1 + t314)) a2 t315 t316 true x13_2 x20_56 x21_6 (x21_6 == 6) x326000_3 x326001_3) = some r := by rw [if_pos rfl] at H; exact H
                                                      clear H
                                                      have H := H1
                                                      clear H1
                                                      have H' := Aside0.mk H
                                                      clear H
                                                      go_wp2
                                                      go_meet
                                                      case rel => exact ⟨_, ((x21_6 == 6)), (by first | rfl | (simp; done) | (simp [*]; done) | exact congrArg Value.bool (isEmpty_bne _)), H', ⟨by have := HK1.out; have := HK2.out; have := HK3.out; have := HJ41.out; have := HJ43.out; have := HK6.out; have := HJ46.out; have := HJ50.out; have := HJ56.out; first | omega | exact Nat.le_refl _⟩, ⟨by (with_reducible repeat (first | apply Kd.R_alloc | apply Kd.R_drewN | apply Kd.R_drew)); exact HO_13.out⟩, ⟨by (with_reducible repeat (first | refine blk_drewN ?_ _ | refine blk_drew ?_ | refine blk_alloc ?_ _)); exact BK312.out⟩, ⟨by (with_reducible repeat (first | refine blk_drewN ?_ _ | refine blk_drew ?_ | refine blk_alloc ?_ _)); exact BK325.out⟩, ⟨by repeat (first | (with_reducible first | exact HB.out | apply below_alloc | apply pw_below_drewN | apply below_drew1 | refine below_set ?_ GE312.out | refine below_set ?_ GE325.out) | exact HB.out)⟩⟩
                                                    · replace c61 := Bool.eq_false_iff.mpr c61
                                                      subst c61
                                                      have H1 : (turnpikelaw2_AddrForms.j9 kj56 (wrap64 (1 + t314)) a2 t315 t316 false x13_2 x20_56 x21_6 false x326000_3 x326001_3) = some r := by rw [if_neg (show ¬ (false = true) by decide)] at H; exact H
                                                      clear H
                                                      have H := H1
                                                      clear H1
                                                      have H' := Aside0.mk H
                                                      clear H
                                                      go_wp2
                                                      go_meet
                                                      case rel => exact ⟨_, (false), (by first | rfl | (simp; done) | (simp [*]; done) | exact congrArg Value.bool (isEmpty_bne _)), H', ⟨by have := HK1.out; have := HK2.out; have := HK3.out; have := HJ41.out; have := HJ43.out; have := HK6.out; have := HJ46.out; have := HJ50.out; have := HJ56.out; first | omega | exact Nat.le_refl _⟩, ⟨by (with_reducible repeat (first | apply Kd.R_alloc | apply Kd.R_drewN | apply Kd.R_drew)); exact HO_13.out⟩, ⟨by (with_reducible repeat (first | refine blk_drewN ?_ _ | refine blk_drew ?_ | refine blk_alloc ?_ _)); exact BK312.out⟩, ⟨by (with_reducible repeat (first | refine blk_drewN ?_ _ | refine blk_drew ?_ | refine blk_alloc ?_ _)); exact BK325.out⟩, ⟨by repeat (first | (with_reducible first | exact HB.out | apply below_alloc | apply pw_below_drewN | apply below_drew1 | refine below_set ?_ GE312.out | refine below_set ?_ GE325.out) | exact HB.out)⟩⟩
                                                  case rest =>
                                                    clear HC60
                                                    try clear c1
                                                    try clear c2
                                                    try clear p2
                                                    try clear q2
                                                    try clear hx2
                                                    try clear c3
                                                    try clear p3
                                                    try clear q3
                                                    try clear hx3
                                                    try clear c4
                                                    try clear c5
                                                    try clear p5
                                                    try clear q5
                                                    try clear hx5
                                                    try clear c6
                                                    try clear p6
                                                    try clear c8
                                                    try clear c11
                                                    try clear c13
                                                    try clear c14
                                                    try clear c14b0
                                                    try clear c15
                                                    try clear c16
                                                    try clear c20
                                                    try clear c23
                                                    try clear c23b0
                                                    try clear c24
                                                    try clear c24b0
                                                    try clear c25
                                                    try clear c25b0
                                                    try clear p26
                                                    try clear q26
                                                    try clear hx26
                                                    try clear hf26
                                                    try clear c30
                                                    try clear c30b0
                                                    try clear c32
                                                    try clear c32b0
                                                    try clear p32
                                                    try clear q32
                                                    try clear hx32
                                                    try clear c33
                                                    try clear c33b0
                                                    try clear c34
                                                    try clear c43
                                                    try clear c43b0
                                                    try clear c45
                                                    try clear c46
                                                    try clear c46b0
                                                    try clear c48
                                                    try clear c48b0
                                                    try clear c49
                                                    try clear c50
                                                    try clear c50b0
                                                    try clear c50b1
                                                    try clear c50b2
                                                    try clear c52
                                                    try clear c52b0
                                                    try clear c52b1
                                                    try clear c54
                                                    try clear c54b0
                                                    try clear c55
                                                    try clear c55b0
                                                    try clear p56
                                                    try clear q56
                                                    try clear hx56
                                                    try clear c58
                                                    try clear c59
                                                    try clear c59b0
                                                    try clear c59b1
                                                    try clear c59b2
                                                    try clear c61
                                                    try clear hcz17_0
                                                    try clear hcz17_1
                                                    try clear hcz21_0
                                                    try clear hcz21_1
                                                    try clear hcz35_0
                                                    try clear hcz35_1
                                                    try clear hcz37_0
                                                    try clear hcz37_1
                                                    try clear hfz17_0
                                                    try clear hfz17_1
                                                    try clear hfz21_0
                                                    try clear hfz21_1
                                                    try clear hfz35_0
                                                    try clear hfz35_1
                                                    try clear hfz37_0
                                                    try clear hfz37_1
                                                    try clear hx26_0
                                                    try clear hx328_0
                                                    try clear p2
                                                    try clear p26
                                                    try clear p3
                                                    try clear p32
                                                    try clear p328
                                                    try clear p5
                                                    try clear p56
                                                    try clear p6
                                                    try clear q2
                                                    try clear q26
                                                    try clear q3
                                                    try clear q32
                                                    try clear q328
                                                    try clear q5
                                                    try clear q56
                                                    obtain ⟨kq, x120_59, rfl, HA, HJ59, HO_13, BK312, BK325, HB⟩ := hcut
                                                    cases kq with
                                                    | zero => exact absurd HA.out (by simp [turnpikelaw2_AddrForms.j9])
                                                    | succ kj59 =>
                                                      have H := HA.out
                                                      clear HA
                                                      simp only [turnpikelaw2_AddrForms.j9] at H
                                                      by_cases c62 : x120_59 = true
                                                      · subst c62
                                                        have H1 : (if 6 < (x13_2.length : Int) then (if 7 < (x13_2.length : Int) then ((turnpikelaw2_octets.f kj59 (rd x13_2 6) (rd x13_2 7)).bind fun t335 => (if x20_56.size + t335.size ≤ 9223372036854775807 then ((addr_Parse.f kj59 128 (x20_56 ++ t335)).bind fun bt336 => (if bt336.2.2 = 0 then (some (bt336.1 == x326000_3 && (bt336.2.1 == x326001_3))) else (some false))) else (none))) else (none)) else (none)) = some r := by rw [if_pos rfl] at H; exact H
                                                        clear H
                                                        have H := H1
                                                        clear H1
                                                        by_cases c63 : 6 < (x13_2.length : Int)
                                                        · rw [if_pos c63] at H
                                                          have c63b0 : decide (6 < (x13_2.length : Int)) = true := decide_eq_true c63
                                                          have c63b1 : decide (6 < x13_2.length) = true := decide_eq_true (by omega)
                                                          clear c63
                                                          by_cases c64 : 7 < (x13_2.length : Int)
                                                          · rw [if_pos c64] at H
                                                            have c64b0 : decide (7 < (x13_2.length : Int)) = true := decide_eq_true c64
                                                            have c64b1 : decide (7 < x13_2.length) = true := decide_eq_true (by omega)
                                                            clear c64
                                                            replace H := Option.bind_eq_some_iff.mp H
                                                            obtain ⟨t335, A650, H⟩ := H
                                                            replace H : (if x20_56.size + t335.size ≤ 9223372036854775807 then ((addr_Parse.f kj59 128 (x20_56 ++ t335)).bind fun bt336 => (if bt336.2.2 = 0 then (some (bt336.1 == x326000_3 && (bt336.2.1 == x326001_3))) else (some false))) else (none)) = some r := H
                                                            have A65 := Aside0.mk A650
                                                            clear A650
                                                            by_cases c66 : x20_56.size + t335.size ≤ 9223372036854775807
                                                            · rw [if_pos c66] at H
                                                              have c66b0 := eq_true c66
                                                              have c66b1 : decide (x20_56.size + t335.size ≤ 9223372036854775807) = true := decide_eq_true c66
                                                              try have c66b2 : (9223372036854775807 < x20_56.size + t335.size) = False := eq_false (Nat.not_lt.2 c66)
                                                              replace H := Option.bind_eq_some_iff.mp H
                                                              obtain ⟨⟨t336, t337, t338⟩, A670, H⟩ := H
                                                              replace H : (if t338 = 0 then (some (t336 == x326000_3 && (t337 == x326001_3))) else (some false)) = some r := H
                                                              have A67 := Aside0.mk A670
                                                              clear A670
                                                              by_cases c68 : t338 = 0
                                                              · rw [if_pos c68] at H
                                                                have c68b0 : (t338 == 0) = true := beq_iff_eq.mpr c68
                                                                have c68b1 : (t338 != 0) = false := bne_eq_false_iff_eq.mpr c68
                                                                clear c68
                                                                obtain rfl := Option.some.inj H
                                                                try go_wp2
                                                                have n0_ := Aside0.mk (Kd.R_drew HO_13.out)
                                                                have n1_ := Aside0.mk (blk_drew BK312.out)
                                                                have n2_ := Aside0.mk (blk_drew BK325.out)
                                                                have n3_ := Aside0.mk (below_drew1 HB.out)
                                                                clear HO_13
                                                                clear BK312
                                                                clear BK325
                                                                clear HB
                                                                have HO_13 := n0_
                                                                have BK312 := n1_
                                                                have BK325 := n2_
                                                                have HB := n3_
                                                                clear n0_ n1_ n2_ n3_
                                                                obtain ⟨Ao70, co70, eo70⟩ := Kd.R_slice HO_13.out
                                                                (first | subst eo70 | (injection eo70 with f1_ f2_ f3_; have f4_ := f1_.symm; have f5_ := f3_.symm; clear f1_ f2_ f3_; subst f4_; subst f5_))
                                                                have p333 : 0 ≤ (6 : Int) := (by omega)
                                                                have q333 : 6 < (x13_2.length : Int) := of_decide_eq_true (by first | (with_reducible assumption) | assumption)
                                                                obtain ⟨ad333, e333, hx333_0⟩ := Kd.at_int (Kd.R_reads' HO_13.out).2.2 6 p333 q333
                                                                cases e333
                                                                (try simp only [show (6 : Int).toNat = 6 from rfl, Nat.reduceMul, Nat.reduceEqDiff, Go.Addr.add, ↓reduceIte] at hx333_0)
                                                                have qi333 : (6 < x13_2.length) = True := eq_true (by omega)
                                                                (try rw [show ((6 : Int)).toNat = 6 from rfl] at hx333_0)
                                                                replace p333 := eq_true p333
                                                                replace q333 := eq_true q333
                                                                have p334 : 0 ≤ (7 : Int) := (by omega)
                                                                have q334 : 7 < (x13_2.length : Int) := of_decide_eq_true (by first | (with_reducible assumption) | assumption)
                                                                obtain ⟨ad334, e334, hx334_0⟩ := Kd.at_int (Kd.R_reads' HO_13.out).2.2 7 p334 q334
                                                                obtain rfl : ad333 = ad334 := (by injection e334)
                                                                (try simp only [show (7 : Int).toNat = 7 from rfl, Nat.reduceMul, Nat.reduceEqDiff, Go.Addr.add, ↓reduceIte] at hx334_0)
                                                                have qi334 : (7 < x13_2.length) = True := eq_true (by omega)
                                                                (try rw [show ((7 : Int)).toNat = 7 from rfl] at hx334_0)
                                                                replace p334 := eq_true p334
                                                                replace q334 := eq_true q334
                                                                refine start_ (n := 10) (S := fun w' => w'.cell? ⟨ad333.block, ad333.off + 6, none⟩ = some (.int .i64 (rd x13_2 6)) ∧ w'.cell? ⟨ad333.block, ad333.off + 7, none⟩ = some (.int .i64 (rd x13_2 7))) (ds := []) #[false, false, false, false, false, false, false, false, false, false] (by kernel_rfl) rfl rfl ⟨hx333_0, hx334_0⟩ (fun hHeld => ?_); refine with_tabW turnpikelaw2_AddrForms.tab34 turnpikelaw2_AddrForms.bits34 (fun HT_ HW_ => ?_)
                                                                generalize wc.drew = w69 at HO_13 BK312 BK325 HB hx333_0 hx334_0 hHeld ⊢
                                                                refine pure_ (i := 0) (N := some 121) (v := ?_) (a' := ?_) #[true, false, false, false, false, false, false, false, false, false] rfl rfl (any_of HT_.out (by kernel_rfl)) (fun _ _ _ h => h) (Or.inl ⟨by rfl, ?_⟩) ?_ ?_
                                                                rotate_left
                                                                · intro w'
                                                                  go_simp
                                                                  with_reducible rfl
                                                                rotate_left
                                                                · simp only [Act.put, List.setIfInBounds_toArray, List.set_cons_zero, List.set_cons_succ, i64_w, i32_w]
                                                                  rfl
                                                                refine pure_ (i := 1) (N := some 122) (v := ?_) (a' := ?_) #[true, true, false, false, false, false, false, false, false, false] rfl rfl (any_of HT_.out (by kernel_rfl)) (fun _ _ _ h => h) (Or.inl ⟨by rfl, ?_⟩) ?_ ?_
                                                                rotate_left
                                                                · intro w'
                                                                  go_simp
                                                                  with_reducible rfl
                                                                rotate_left
                                                                · simp only [Act.put, List.setIfInBounds_toArray, List.set_cons_zero, List.set_cons_succ, i64_w, i32_w]
                                                                  rfl
                                                                refine pure_ (i := 2) (N := some 123) (v := ?_) (a' := ?_) #[true, true, true, false, false, false, false, false, false, false] rfl rfl (any_of HT_.out (by kernel_rfl)) (fun _ _ _ h => h) (Or.inl ⟨by rfl, ?_⟩) ?_ ?_
                                                                rotate_left
                                                                · intro w'
                                                                  go_simp
                                                                  with_reducible rfl
                                                                rotate_left
                                                                · simp only [Act.put, List.setIfInBounds_toArray, List.set_cons_zero, List.set_cons_succ, i64_w, i32_w]
                                                                  rfl
                                                                refine pure_ (i := 4) (N := some 125) (v := ?_) (a' := ?_) #[true, true, true, false, true, false, false, false, false, false] rfl rfl (any_of HT_.out (by kernel_rfl)) (fun _ _ _ h => h) (Or.inl ⟨by rfl, ?_⟩) ?_ ?_
                                                                rotate_left
                                                                · intro w'
                                                                  go_simp
                                                                  with_reducible rfl
                                                                rotate_left
                                                                · simp only [Act.put, List.setIfInBounds_toArray, List.set_cons_zero, List.set_cons_succ, i64_w, i32_w]
                                                                  rfl
                                                                refine pure_ (i := 5) (N := some 126) (v := ?_) (a' := ?_) #[true, true, true, false, true, true, false, false, false, false] rfl rfl (any_of HT_.out (by kernel_rfl)) (fun _ _ _ h => h) (Or.inl ⟨by rfl, ?_⟩) ?_ ?_
                                                                rotate_left
                                                                · intro w'
                                                                  go_simp
                                                                  with_reducible rfl
                                                                rotate_left
                                                                · simp only [Act.put, List.setIfInBounds_toArray, List.set_cons_zero, List.set_cons_succ, i64_w, i32_w]
                                                                  rfl
                                                                refine take_ (i := 3) (N := some 124) (v := ?_) (a' := ?_) #[true, true, true, true, true, true, false, false, false, false] rfl rfl (take_ofW HT_.out HW_.out (by kernel_rfl)) (fun _ _ _ h => h) (Or.inl ⟨by rfl, ?_⟩) hHeld ?_ ?_
                                                                rotate_left
                                                                · rintro w' ⟨s0, s1⟩
                                                                  go_simp
                                                                  with_reducible rfl
                                                                rotate_left
                                                                · simp only [Act.put, List.setIfInBounds_toArray, List.set_cons_zero, List.set_cons_succ, i64_w, i32_w]
                                                                  rfl
                                                                refine take_ (i := 6) (N := some 127) (v := ?_) (a' := ?_) #[true, true, true, true, true, true, true, false, false, false] rfl rfl (take_ofW HT_.out HW_.out (by kernel_rfl)) (fun _ _ _ h => h) (Or.inl ⟨by rfl, ?_⟩) hHeld ?_ ?_
                                                                rotate_left
                                                                · rintro w' ⟨s0, s1⟩
                                                                  go_simp
                                                                  with_reducible rfl
                                                                rotate_left
                                                                · simp only [Act.put, List.setIfInBounds_toArray, List.set_cons_zero, List.set_cons_succ, i64_w, i32_w]
                                                                  rfl
                                                                refine one_ (i := 7) (N := some 128) #[true, true, true, true, true, true, true, true, false, false] rfl rfl (one_of HT_.out (by kernel_rfl)) (by decide) (fun K hK => ?_)
                                                                refine goes_ Try.func16 (by kernel_rfl) rfl #[.int .i64 (rd x13_2 6), .int .i64 (rd x13_2 7)] (by rfl) rfl rfl (by (try simp only [List.map_toArray, List.map_cons, List.map_nil]); first | done | rfl | (simp only [List.length_drop, List.length_take]; rfl)) ?_
                                                                with_reducible refine (turnpikelaw2_octets.calls kj59 (rd x13_2 6) (rd x13_2 7) t335 _ A65.out).mono ?_
                                                                rintro e w71 ⟨rfl, hb⟩
                                                                have HS0_ := (hb.cell (World.block_lt_of_cell? _ _ (hHeld.1))).trans (hHeld.1)
                                                                have HS1_ := (hb.cell (World.block_lt_of_cell? _ _ (hHeld.2))).trans (hHeld.2)
                                                                refine ⟨_, rfl, ?_⟩
                                                                have n0_ := Aside0.mk (Kd.R_below (by (with_reducible repeat (first | apply Kd.R_alloc | apply Kd.R_drewN | apply Kd.R_drew)); exact HO_13.out) hb)
                                                                have n1_ := Aside0.mk (blk_below (g := gb312) (o := .cells #[.int .u64 a0_0, .int .u64 a0_1] 24 (0, 0)) (by (with_reducible repeat (first | refine blk_drewN ?_ _ | refine blk_drew ?_ | refine blk_alloc ?_ _)); exact BK312.out) hb)
                                                                have n2_ := Aside0.mk (blk_below (g := gb325) (o := .cells #[.int .u64 x326000_3, .int .u64 x326001_3] 24 (0, 0)) (by (with_reducible repeat (first | refine blk_drewN ?_ _ | refine blk_drew ?_ | refine blk_alloc ?_ _)); exact BK325.out) hb)
                                                                have n3_ := Aside0.mk (below_step (by repeat (first | (with_reducible first | exact HB.out | apply below_alloc | apply pw_below_drewN | apply below_drew1 | refine below_set ?_ GE312.out | refine below_set ?_ GE325.out) | exact HB.out)) hb)
                                                                clear HO_13
                                                                clear BK312
                                                                clear BK325
                                                                clear HB
                                                                have HO_13 := n0_
                                                                have BK312 := n1_
                                                                have BK325 := n2_
                                                                have HB := n3_
                                                                clear n0_ n1_ n2_ n3_
                                                                (try clear hb)
                                                                (try clear hb2)
                                                                (try clear hk)
                                                                (try clear hi)
                                                                refine hK.out _ _ ⟨HS0_, HS1_⟩ (fun hHeld => ?_)
                                                                clear hK K
                                                                refine norm_ (a' := ?_) ?_ ?_
                                                                rotate_left
                                                                · show Act.put _ (some 128) _ = _
                                                                  simp only [Act.put, List.setIfInBounds_toArray, List.set_cons_zero, List.set_cons_succ, i64_w, i32_w]
                                                                  rfl
                                                                refine pure_ (i := 8) (N := some 129) (v := ?_) (a' := ?_) #[true, true, true, true, true, true, true, true, true, false] rfl rfl (any_of HT_.out (by kernel_rfl)) (fun _ _ _ h => h) (Or.inl ⟨by rfl, ?_⟩) ?_ ?_
                                                                rotate_left
                                                                · intro w'
                                                                  go_simp
                                                                  with_reducible rfl
                                                                rotate_left
                                                                · simp only [Act.put, List.setIfInBounds_toArray, List.set_cons_zero, List.set_cons_succ, i64_w, i32_w]
                                                                  rfl
                                                                refine pure_ (i := 9) (N := some 20) (v := ?_) (a' := ?_) #[true, true, true, true, true, true, true, true, true, true] rfl rfl (any_of HT_.out (by kernel_rfl)) (fun _ _ _ h => h) (Or.inl ⟨by rfl, ?_⟩) ?_ ?_
                                                                rotate_left
                                                                · intro w'
                                                                  go_simp
                                                                  with_reducible rfl
                                                                rotate_left
                                                                · simp only [Act.put, List.setIfInBounds_toArray, List.set_cons_zero, List.set_cons_succ, i64_w, i32_w]
                                                                  rfl
                                                                refine done_ (done_of HT_.out (by kernel_rfl)) ?_
                                                                try go_wp2_with (first | ((with_reducible refine gate_callee (f := 9) rfl ?_); refine goesL_ (some 141) rfl rfl Try.func9 (by kernel_rfl) rfl #[.int .i64 128, .string (x20_56 ++ t335)] rfl (by (try simp only [List.map_toArray, List.map_cons, List.map_nil]); first | done | rfl | (simp only [List.length_drop, List.length_take]; rfl)) ?_; (with_reducible refine (addr_Parse.calls kj59 128 (x20_56 ++ t335) t336 t337 t338 _ ?side1 A67.out).mono ?_); (case side1 => first | exact MLOk.below HML.out (by repeat (first | (with_reducible first | exact HB.out | apply below_alloc | apply pw_below_drewN | apply below_drew1 | refine below_set ?_ GE312.out | refine below_set ?_ GE325.out) | exact HB.out)) | (repeat (first | exact HML.out | (with_reducible refine MLOk.alloc ?_ _) | (with_reducible refine MLOk.drewN ?_ _) | (with_reducible refine MLOk.drew ?_)))); rintro e w72 ⟨rfl, hb⟩; refine ⟨_, rfl, ?_⟩; have n0_ := Aside0.mk (Kd.R_below (by (with_reducible repeat (first | apply Kd.R_alloc | apply Kd.R_drewN | apply Kd.R_drew)); exact HO_13.out) hb); have n1_ := Aside0.mk (blk_below (g := gb312) (o := .cells #[.int .u64 a0_0, .int .u64 a0_1] 24 (0, 0)) (by (with_reducible repeat (first | refine blk_drewN ?_ _ | refine blk_drew ?_ | refine blk_alloc ?_ _)); exact BK312.out) hb); have n2_ := Aside0.mk (blk_below (g := gb325) (o := .cells #[.int .u64 x326000_3, .int .u64 x326001_3] 24 (0, 0)) (by (with_reducible repeat (first | refine blk_drewN ?_ _ | refine blk_drew ?_ | refine blk_alloc ?_ _)); exact BK325.out) hb); have n3_ := Aside0.mk (below_step (by repeat (first | (with_reducible first | exact HB.out | apply below_alloc | apply pw_below_drewN | apply below_drew1 | refine below_set ?_ GE312.out | refine below_set ?_ GE325.out) | exact HB.out)) hb); clear HO_13; clear BK312; clear BK325; clear HB; have HO_13 := n0_; have BK312 := n1_; have BK325 := n2_; have HB := n3_; clear n0_ n1_ n2_ n3_; (try clear hb); (try clear hb2); (try clear hk); (try clear hi)) | ((with_reducible refine gate_dst (N := 22) rfl ?_); (try (refine gate_guard (by rfl) ?_; dsimp only)); refine box_event ?hg (N := 22) ?hd (cs := #[.int .u64 0, .int .u64 0]) (t := 24) ?hr ?_; (case hd => rfl); (case hg => rfl); (case hr => first | (go_simp; done) | (go_simp; rfl)); intro gb339 hg w73 hbox hb; have n0_ := Aside0.mk (Kd.R_below (by (with_reducible repeat (first | apply Kd.R_alloc | apply Kd.R_drewN | apply Kd.R_drew)); exact HO_13.out) hb); have n1_ := Aside0.mk (blk_below (g := gb312) (o := .cells #[.int .u64 a0_0, .int .u64 a0_1] 24 (0, 0)) (by (with_reducible repeat (first | refine blk_drewN ?_ _ | refine blk_drew ?_ | refine blk_alloc ?_ _)); exact BK312.out) hb); have n2_ := Aside0.mk (blk_below (g := gb325) (o := .cells #[.int .u64 x326000_3, .int .u64 x326001_3] 24 (0, 0)) (by (with_reducible repeat (first | refine blk_drewN ?_ _ | refine blk_drew ?_ | refine blk_alloc ?_ _)); exact BK325.out) hb); have n3_ := Aside0.mk (below_step (by repeat (first | (with_reducible first | exact HB.out | apply below_alloc | apply pw_below_drewN | apply below_drew1 | refine below_set ?_ GE312.out | refine below_set ?_ GE325.out) | exact HB.out)) hb); have n4_ := Aside0.mk (hbox); have n5_ := Aside0.mk ((by rw [hg]; exact (below_size (by repeat (first | (with_reducible first | exact HB.out | apply below_alloc | apply pw_below_drewN | apply below_drew1 | refine below_set ?_ GE312.out | refine below_set ?_ GE325.out) | exact HB.out))) : w.heap.size ≤ gb339)); have n6_ := Aside0.mk ((by rw [hg]; exact (below_size (by repeat (first | (with_reducible first | exact HB.out | apply below_alloc | apply pw_below_drewN | apply below_drew1 | refine below_set ?_ GE312.out | refine below_set ?_ GE325.out) | exact HB.out))) : w.heap.size ≤ gb339)); have n7_ := Aside0.mk ((by rw [hg]; exact Nat.ne_of_lt (blk_lt (g := gb312) (o := .cells #[.int .u64 a0_0, .int .u64 a0_1] 24 (0, 0)) (by (with_reducible repeat (first | refine blk_drewN ?_ _ | refine blk_drew ?_ | refine blk_alloc ?_ _)); exact BK312.out)) : gb312 ≠ gb339)); have n8_ := Aside0.mk ((by rw [hg]; exact Nat.ne_of_gt (blk_lt (g := gb312) (o := .cells #[.int .u64 a0_0, .int .u64 a0_1] 24 (0, 0)) (by (with_reducible repeat (first | refine blk_drewN ?_ _ | refine blk_drew ?_ | refine blk_alloc ?_ _)); exact BK312.out)) : gb339 ≠ gb312)); have n9_ := Aside0.mk ((by rw [hg]; exact Nat.ne_of_lt (blk_lt (g := gb325) (o := .cells #[.int .u64 x326000_3, .int .u64 x326001_3] 24 (0, 0)) (by (with_reducible repeat (first | refine blk_drewN ?_ _ | refine blk_drew ?_ | refine blk_alloc ?_ _)); exact BK325.out)) : gb325 ≠ gb339)); have n10_ := Aside0.mk ((by rw [hg]; exact Nat.ne_of_gt (blk_lt (g := gb325) (o := .cells #[.int .u64 x326000_3, .int .u64 x326001_3] 24 (0, 0)) (by (with_reducible repeat (first | refine blk_drewN ?_ _ | refine blk_drew ?_ | refine blk_alloc ?_ _)); exact BK325.out)) : gb339 ≠ gb325)); clear HO_13; clear BK312; clear BK325; clear HB; have HO_13 := n0_; have BK312 := n1_; have BK325 := n2_; have HB := n3_; have BK339 := n4_; have GW339 := n5_; have GE339 := n6_; have NB312_339 := n7_; have NB339_312 := n8_; have NB325_339 := n9_; have NB339_325 := n10_; clear n0_ n1_ n2_ n3_ n4_ n5_ n6_ n7_ n8_ n9_ n10_; clear hb hbox hg; have hnb74 := NB339_312.out; have hnc74 := NB312_339.out; have hnb75 := NB339_325.out; have hnc75 := NB325_339.out; have hcz76_0 : w73.cell? ⟨gb339, 0, none⟩ = some (.int .u64 0) := (blk_cell BK339.out 0).trans rfl; have hcz76_1 : w73.cell? ⟨gb339, 1, none⟩ = some (.int .u64 0) := (blk_cell BK339.out 1).trans rfl; have hfz76_0 := blk_frozen BK339.out 0; have hfz76_1 := blk_frozen BK339.out 1; have hnb77 := NB325_312.out; have hnc77 := NB312_325.out; have hcz78_0 : w73.cell? ⟨gb325, 0, none⟩ = some (.int .u64 x326000_3) := (blk_cell BK325.out 0).trans rfl; have hcz78_1 : w73.cell? ⟨gb325, 1, none⟩ = some (.int .u64 x326001_3) := (blk_cell BK325.out 1).trans rfl; have hfz78_0 := blk_frozen BK325.out 0; have hfz78_1 := blk_frozen BK325.out 1))
                                                                go_ret
                                                                exact ⟨by first | rfl | (simp [errW_none, errW_some] <;> rfl) | (simp [*, errW_none, errW_some] <;> rfl), by repeat (first | (with_reducible first | exact HB.out | apply below_alloc | apply pw_below_drewN | apply below_drew1 | refine below_set ?_ GE312.out | refine below_set ?_ GE325.out | refine below_set ?_ GE339.out) | exact HB.out)⟩
                                                              · rw [if_neg c68] at H
                                                                have c68b0 : (t338 == 0) = false := beq_eq_false_iff_ne.mpr c68
                                                                have c68b1 : (t338 != 0) = true := bne_iff_ne.mpr c68
                                                                obtain rfl := Option.some.inj H
                                                                exact absurd hr_.out (by decide)
                                                            · rw [if_neg c66] at H
                                                              exact absurd H (by simp)
                                                          · rw [if_neg c64] at H
                                                            exact absurd H (by simp)
                                                        · rw [if_neg c63] at H
                                                          exact absurd H (by simp)
                                                      · replace c62 := Bool.eq_false_iff.mpr c62
                                                        subst c62
                                                        have H1 : (if 0 ≤ x21_6 then (if x21_6 < (x13_2.length : Int) then ((turnpikelaw2_digits.f kj59 (rd x13_2 x21_6) (wrap64 (1 + t314)) a2).bind fun t341 => (if x20_56.size + t341.size ≤ 9223372036854775807 then (turnpikelaw2_AddrForms.l3 kj59 (wrap64 (1 + t314)) a2 t315 t316 x5_43 x13_2 (x20_56 ++ t341) (wrap64 (x21_6 + 1)) x326000_3 x326001_3) else (none))) else (none)) else (none)) = some r := by rw [if_neg (show ¬ (false = true) by decide)] at H; exact H
                                                        clear H
                                                        have H := H1
                                                        clear H1
                                                        by_cases c79 : 0 ≤ x21_6
                                                        · rw [if_pos c79] at H
                                                          have c79b0 : decide (0 ≤ x21_6) = true := decide_eq_true c79
                                                          clear c79
                                                          by_cases c80 : x21_6 < (x13_2.length : Int)
                                                          · rw [if_pos c80] at H
                                                            have c80b0 : decide (x21_6 < (x13_2.length : Int)) = true := decide_eq_true c80
                                                            clear c80
                                                            replace H := Option.bind_eq_some_iff.mp H
                                                            obtain ⟨t341, A810, H⟩ := H
                                                            replace H : (if x20_56.size + t341.size ≤ 9223372036854775807 then (turnpikelaw2_AddrForms.l3 kj59 (wrap64 (1 + t314)) a2 t315 t316 x5_43 x13_2 (x20_56 ++ t341) (wrap64 (x21_6 + 1)) x326000_3 x326001_3) else (none)) = some r := H
                                                            have A81 := Aside0.mk A810
                                                            clear A810
                                                            by_cases c82 : x20_56.size + t341.size ≤ 9223372036854775807
                                                            · rw [if_pos c82] at H
                                                              have c82b0 := eq_true c82
                                                              have c82b1 : decide (x20_56.size + t341.size ≤ 9223372036854775807) = true := decide_eq_true c82
                                                              try have c82b2 : (9223372036854775807 < x20_56.size + t341.size) = False := eq_false (Nat.not_lt.2 c82)
                                                              have H' := Aside0.mk H
                                                              clear H
                                                              obtain ⟨Ao83, co83, eo83⟩ := Kd.R_slice HO_13.out
                                                              subst eo83
                                                              have p340 : 0 ≤ (x21_6 : Int) := of_decide_eq_true (by first | (with_reducible assumption) | assumption)
                                                              have q340 : x21_6 < (x13_2.length : Int) := of_decide_eq_true (by first | (with_reducible assumption) | assumption)
                                                              obtain ⟨ad340, e340, hx340_0⟩ := Kd.at_int (Kd.R_reads' HO_13.out).2.2 x21_6 p340 q340
                                                              cases e340
                                                              replace p340 := eq_true p340
                                                              replace q340 := eq_true q340
                                                              go_wp2_with (first | ((with_reducible refine gate_callee (f := 17) rfl ?_); refine goesL_ (some 137) rfl rfl Try.func17 (by kernel_rfl) rfl #[.int .i64 (rd x13_2 x21_6), .int .i64 (wrap64 (1 + t314)), .bool a2] rfl (by (try simp only [List.map_toArray, List.map_cons, List.map_nil]); first | done | rfl | (simp only [List.length_drop, List.length_take]; rfl)) ?_; (with_reducible refine (turnpikelaw2_digits.calls kj59 (rd x13_2 x21_6) (wrap64 (1 + t314)) a2 t341 _ A81.out).mono ?_); rintro e w' ⟨rfl, ⟨nd, rfl⟩⟩; refine ⟨_, rfl, ?_⟩))
                                                              go_roundg kj59
                                                              case measure => have := HK1.out; have := HK2.out; have := HK3.out; have := HJ41.out; have := HJ43.out; have := HK6.out; have := HJ46.out; have := HJ50.out; have := HJ56.out; have := HJ59.out; omega
                                                              case rel => exact ⟨(x20_56 ++ t341), (wrap64 (x21_6 + 1)), (by first | rfl | (simp; done) | (simp [*]; done) | exact congrArg Value.bool (isEmpty_bne _)), (by first | rfl | (simp; done) | (simp [*]; done) | exact congrArg Value.bool (isEmpty_bne _)), H', ⟨by have := HK1.out; have := HK2.out; have := HK3.out; have := HJ41.out; have := HJ43.out; have := HK6.out; have := HJ46.out; have := HJ50.out; have := HJ56.out; have := HJ59.out; omega⟩, ⟨by (with_reducible repeat (first | apply Kd.R_alloc | apply Kd.R_drewN | apply Kd.R_drew)); exact HO_13.out⟩, ⟨by (with_reducible repeat (first | refine blk_drewN ?_ _ | refine blk_drew ?_ | refine blk_alloc ?_ _)); exact BK312.out⟩, ⟨by (with_reducible repeat (first | refine blk_drewN ?_ _ | refine blk_drew ?_ | refine blk_alloc ?_ _)); exact BK325.out⟩, ⟨by repeat (first | (with_reducible first | exact HB.out | apply below_alloc | apply pw_below_drewN | apply below_drew1 | refine below_set ?_ GE312.out | refine below_set ?_ GE325.out) | exact HB.out)⟩⟩
                                                            · rw [if_neg c82] at H
                                                              exact absurd H (by simp)
                                                          · rw [if_neg c80] at H
                                                            exact absurd H (by simp)
                                                        · rw [if_neg c79] at H
                                                          exact absurd H (by simp)
                                  · rw [if_neg c46] at H
                                    have c46b0 : decide (x21_6 < 8) = false := decide_eq_false c46
                                    clear c46
                                    replace H := Option.bind_eq_some_iff.mp H
                                    obtain ⟨⟨t329, t330, t331⟩, A840, H⟩ := H
                                    replace H : (if t331 = 0 then (some (t329 == x326000_3 && (t330 == x326001_3))) else (some false)) = some r := H
                                    have A84 := Aside0.mk A840
                                    clear A840
                                    by_cases c85 : t331 = 0
                                    · rw [if_pos c85] at H
                                      have c85b0 : (t331 == 0) = true := beq_iff_eq.mpr c85
                                      have c85b1 : (t331 != 0) = false := bne_eq_false_iff_eq.mpr c85
                                      clear c85
                                      obtain rfl := Option.some.inj H
                                      go_wp2_with (first | ((with_reducible refine gate_callee (f := 9) rfl ?_); refine goesL_ (some 141) rfl rfl Try.func9 (by kernel_rfl) rfl #[.int .i64 128, .string x20_6] rfl (by (try simp only [List.map_toArray, List.map_cons, List.map_nil]); first | done | rfl | (simp only [List.length_drop, List.length_take]; rfl)) ?_; (with_reducible refine (addr_Parse.calls k6 128 x20_6 t329 t330 t331 _ ?side1 A84.out).mono ?_); (case side1 => first | exact MLOk.below HML.out (by repeat (first | (with_reducible first | exact HB.out | apply below_alloc | apply pw_below_drewN | apply below_drew1 | refine below_set ?_ GE312.out | refine below_set ?_ GE325.out) | exact HB.out)) | (repeat (first | exact HML.out | (with_reducible refine MLOk.alloc ?_ _) | (with_reducible refine MLOk.drewN ?_ _) | (with_reducible refine MLOk.drew ?_)))); rintro e w86 ⟨rfl, hb⟩; refine ⟨_, rfl, ?_⟩; have n0_ := Aside0.mk (Kd.R_below (by (with_reducible repeat (first | apply Kd.R_alloc | apply Kd.R_drewN | apply Kd.R_drew)); exact HO_13.out) hb); have n1_ := Aside0.mk (blk_below (g := gb312) (o := .cells #[.int .u64 a0_0, .int .u64 a0_1] 24 (0, 0)) (by (with_reducible repeat (first | refine blk_drewN ?_ _ | refine blk_drew ?_ | refine blk_alloc ?_ _)); exact BK312.out) hb); have n2_ := Aside0.mk (blk_below (g := gb325) (o := .cells #[.int .u64 x326000_3, .int .u64 x326001_3] 24 (0, 0)) (by (with_reducible repeat (first | refine blk_drewN ?_ _ | refine blk_drew ?_ | refine blk_alloc ?_ _)); exact BK325.out) hb); have n3_ := Aside0.mk (below_step (by repeat (first | (with_reducible first | exact HB.out | apply below_alloc | apply pw_below_drewN | apply below_drew1 | refine below_set ?_ GE312.out | refine below_set ?_ GE325.out) | exact HB.out)) hb); clear HO_13; clear BK312; clear BK325; clear HB; have HO_13 := n0_; have BK312 := n1_; have BK325 := n2_; have HB := n3_; clear n0_ n1_ n2_ n3_; (try clear hb); (try clear hb2); (try clear hk); (try clear hi)) | ((with_reducible refine gate_dst (N := 22) rfl ?_); (try (refine gate_guard (by rfl) ?_; dsimp only)); refine box_event ?hg (N := 22) ?hd (cs := #[.int .u64 0, .int .u64 0]) (t := 24) ?hr ?_; (case hd => rfl); (case hg => rfl); (case hr => first | (go_simp; done) | (go_simp; rfl)); intro gb332 hg w87 hbox hb; have n0_ := Aside0.mk (Kd.R_below (by (with_reducible repeat (first | apply Kd.R_alloc | apply Kd.R_drewN | apply Kd.R_drew)); exact HO_13.out) hb); have n1_ := Aside0.mk (blk_below (g := gb312) (o := .cells #[.int .u64 a0_0, .int .u64 a0_1] 24 (0, 0)) (by (with_reducible repeat (first | refine blk_drewN ?_ _ | refine blk_drew ?_ | refine blk_alloc ?_ _)); exact BK312.out) hb); have n2_ := Aside0.mk (blk_below (g := gb325) (o := .cells #[.int .u64 x326000_3, .int .u64 x326001_3] 24 (0, 0)) (by (with_reducible repeat (first | refine blk_drewN ?_ _ | refine blk_drew ?_ | refine blk_alloc ?_ _)); exact BK325.out) hb); have n3_ := Aside0.mk (below_step (by repeat (first | (with_reducible first | exact HB.out | apply below_alloc | apply pw_below_drewN | apply below_drew1 | refine below_set ?_ GE312.out | refine below_set ?_ GE325.out) | exact HB.out)) hb); have n4_ := Aside0.mk (hbox); have n5_ := Aside0.mk ((by rw [hg]; exact (below_size (by repeat (first | (with_reducible first | exact HB.out | apply below_alloc | apply pw_below_drewN | apply below_drew1 | refine below_set ?_ GE312.out | refine below_set ?_ GE325.out) | exact HB.out))) : w.heap.size ≤ gb332)); have n6_ := Aside0.mk ((by rw [hg]; exact (below_size (by repeat (first | (with_reducible first | exact HB.out | apply below_alloc | apply pw_below_drewN | apply below_drew1 | refine below_set ?_ GE312.out | refine below_set ?_ GE325.out) | exact HB.out))) : w.heap.size ≤ gb332)); have n7_ := Aside0.mk ((by rw [hg]; exact Nat.ne_of_lt (blk_lt (g := gb312) (o := .cells #[.int .u64 a0_0, .int .u64 a0_1] 24 (0, 0)) (by (with_reducible repeat (first | refine blk_drewN ?_ _ | refine blk_drew ?_ | refine blk_alloc ?_ _)); exact BK312.out)) : gb312 ≠ gb332)); have n8_ := Aside0.mk ((by rw [hg]; exact Nat.ne_of_gt (blk_lt (g := gb312) (o := .cells #[.int .u64 a0_0, .int .u64 a0_1] 24 (0, 0)) (by (with_reducible repeat (first | refine blk_drewN ?_ _ | refine blk_drew ?_ | refine blk_alloc ?_ _)); exact BK312.out)) : gb332 ≠ gb312)); have n9_ := Aside0.mk ((by rw [hg]; exact Nat.ne_of_lt (blk_lt (g := gb325) (o := .cells #[.int .u64 x326000_3, .int .u64 x326001_3] 24 (0, 0)) (by (with_reducible repeat (first | refine blk_drewN ?_ _ | refine blk_drew ?_ | refine blk_alloc ?_ _)); exact BK325.out)) : gb325 ≠ gb332)); have n10_ := Aside0.mk ((by rw [hg]; exact Nat.ne_of_gt (blk_lt (g := gb325) (o := .cells #[.int .u64 x326000_3, .int .u64 x326001_3] 24 (0, 0)) (by (with_reducible repeat (first | refine blk_drewN ?_ _ | refine blk_drew ?_ | refine blk_alloc ?_ _)); exact BK325.out)) : gb332 ≠ gb325)); clear HO_13; clear BK312; clear BK325; clear HB; have HO_13 := n0_; have BK312 := n1_; have BK325 := n2_; have HB := n3_; have BK332 := n4_; have GW332 := n5_; have GE332 := n6_; have NB312_332 := n7_; have NB332_312 := n8_; have NB325_332 := n9_; have NB332_325 := n10_; clear n0_ n1_ n2_ n3_ n4_ n5_ n6_ n7_ n8_ n9_ n10_; clear hb hbox hg; have hnb88 := NB332_312.out; have hnc88 := NB312_332.out; have hnb89 := NB332_325.out; have hnc89 := NB325_332.out; have hcz90_0 : w87.cell? ⟨gb332, 0, none⟩ = some (.int .u64 0) := (blk_cell BK332.out 0).trans rfl; have hcz90_1 : w87.cell? ⟨gb332, 1, none⟩ = some (.int .u64 0) := (blk_cell BK332.out 1).trans rfl; have hfz90_0 := blk_frozen BK332.out 0; have hfz90_1 := blk_frozen BK332.out 1; have hnb91 := NB325_312.out; have hnc91 := NB312_325.out; have hcz92_0 : w87.cell? ⟨gb325, 0, none⟩ = some (.int .u64 x326000_3) := (blk_cell BK325.out 0).trans rfl; have hcz92_1 : w87.cell? ⟨gb325, 1, none⟩ = some (.int .u64 x326001_3) := (blk_cell BK325.out 1).trans rfl; have hfz92_0 := blk_frozen BK325.out 0; have hfz92_1 := blk_frozen BK325.out 1))
                                      go_ret
                                      exact ⟨by first | rfl | (simp [errW_none, errW_some] <;> rfl) | (simp [*, errW_none, errW_some] <;> rfl), by repeat (first | (with_reducible first | exact HB.out | apply below_alloc | apply pw_below_drewN | apply below_drew1 | refine below_set ?_ GE312.out | refine below_set ?_ GE325.out | refine below_set ?_ GE332.out) | exact HB.out)⟩
                                    · rw [if_neg c85] at H
                                      have c85b0 : (t331 == 0) = false := beq_eq_false_iff_ne.mpr c85
                                      have c85b1 : (t331 != 0) = true := bne_iff_ne.mpr c85
                                      obtain rfl := Option.some.inj H
                                      exact absurd hr_.out (by decide)
  · replace c8 := Bool.eq_false_iff.mpr c8
    subst c8
    have H1 : (some false) = some r := by rw [if_neg (show ¬ (false = true) by decide)] at H; exact H
    clear H
    have H := H1
    clear H1
    obtain rfl := Option.some.inj H
    exact absurd hr_.out (by decide)

/-- THE ONE PURE STATEMENT of turnpikelaw2_AddrForms: yours. -/
def turnpikelaw2_AddrForms.Pure : Prop := ∀ (a0_0 : Int) (a0_1 : Int) (a1 : Int) (a2 : Bool) (a3 : Int) (a4 : Int) (a5 : Bool), (Lit.int .u64 a0_0).wf = true → (Lit.int .u64 a0_1).wf = true → (Lit.int .i64 a1).wf = true → (Lit.int .i64 a3).wf = true → (Lit.int .i64 a4).wf = true → ∃ k, turnpikelaw2_AddrForms.f k a0_0 a0_1 a1 a2 a3 a4 a5 = some true
theorem turnpikelaw2_AddrForms.walk (P : turnpikelaw2_AddrForms.Pure) (a0_0 : Int) (a0_1 : Int) (a1 : Int) (a2 : Bool) (a3 : Int) (a4 : Int) (a5 : Bool) (w : World) (hML : MLOk w) (wa0_0 : (Lit.int .u64 a0_0).wf = true) (wa0_1 : (Lit.int .u64 a0_1).wf = true) (wa1 : (Lit.int .i64 a1).wf = true) (wa3 : (Lit.int .i64 a3).wf = true) (wa4 : (Lit.int .i64 a4).wf = true) :
    Calls Try.prog 5 #[.agg #[.int .u64 a0_0, .int .u64 a0_1], .int .i64 a1, .bool a2, .int .i64 a3, .int .i64 a4, .bool a5] w fun e w' => e = .returned (.bool true) ∧ Below w.heap.size w w' := by
  obtain ⟨k, h⟩ := P a0_0 a0_1 a1 a2 a3 a4 a5 wa0_0 wa0_1 wa1 wa3 wa4
  refine (turnpikelaw2_AddrForms.calls k a0_0 a0_1 a1 a2 a3 a4 a5 true w hML ⟨rfl⟩ h).mono ?_
  rintro e w' ⟨rfl, hd⟩
  exact ⟨rfl, hd⟩

end Go.Proofs.Ytamiaaeaehdahaa.X
