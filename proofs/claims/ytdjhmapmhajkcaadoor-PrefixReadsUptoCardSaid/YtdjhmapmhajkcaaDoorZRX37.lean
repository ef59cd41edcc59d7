-- Printed by a program of this session (xprint.py, over the kit's printer)
import Derived.Test.YtdjhmapmhajkcaaDoorZRX0
import Derived.Test.YtdjhmapmhajkcaaDoorZRX7
import Derived.Test.YtdjhmapmhajkcaaDoorZRX19
import Derived.Test.YtdjhmapmhajkcaaDoorZRX35
import Derived.Test.YtdjhmapmhajkcaaDoorZRX36
import Derived.Test.YtdjhmapmhajkcaaDoorZRSh
namespace Go.Proofs.YtdjhmapmhajkcaaDoor.X
open Go.RowKit Go.Proofs.YtdjhmapmhajkcaaDoorW.PrintWords Go.Proofs.YtdjhmapmhajkcaaDoorW.PrintLast Go.Proofs.YtdjhmapmhajkcaaDoor.Sm Go.Proofs.YtdjhmapmhajkcaaDoor.Sh
set_option linter.unusedVariables false
set_option linter.unusedSimpArgs false
mutual
def turnpikeref2_Text.l0 : Nat → List Int → Int → Int → Int → Option (ByteArray × Int)
 | 0, _, _, _, _ => none
 | k + 1, x7, x8, x762000, x762001 => if x8 < 8 then ((turnpikeref1_Field.f x762000 x762001 (wrap64 (16 * x8)) 16).bind fun bt767 => (if x7.length < 17592186044416 then (turnpikeref2_Text.l0 k (x7 ++ [wrap64 (bt767.2.1)]) (wrap64 (x8 + 1)) x762000 x762001) else (none))) else (turnpikeref2_Text.l1 k x7 0 1 0)
def turnpikeref2_Text.l1 : Nat → List Int → Int → Int → Int → Option (ByteArray × Int)
 | 0, _, _, _, _ => none
 | k + 1, x7, x11, x12, x13 => if x13 < 8 then (turnpikeref2_Text.l2 k x7 x11 x12 x13 0) else (turnpikeref2_Text.l3 k x7 x11 x12 (⟨#[]⟩ : ByteArray) 0)
def turnpikeref2_Text.l2 : Nat → List Int → Int → Int → Int → Int → Option (ByteArray × Int)
 | 0, _, _, _, _, _ => none
 | k + 1, x7, x11, x12, x13, x14 => if (wrap64 (x13 + x14)) < 8 then (if 0 ≤ (wrap64 (x13 + x14)) then (if (wrap64 (x13 + x14)) < (x7.length : Int) then (if (rd x7 (wrap64 (x13 + x14))) = 0 then (turnpikeref2_Text.l2 k x7 x11 x12 x13 (wrap64 (x14 + 1))) else (if x14 > x12 then (turnpikeref2_Text.l1 k x7 x13 x14 (wrap64 (x13 + 1))) else (turnpikeref2_Text.l1 k x7 x11 x12 (wrap64 (x13 + 1))))) else (none)) else (none)) else (if x14 > x12 then (turnpikeref2_Text.l1 k x7 x13 x14 (wrap64 (x13 + 1))) else (turnpikeref2_Text.l1 k x7 x11 x12 (wrap64 (x13 + 1))))
def turnpikeref2_Text.l3 : Nat → List Int → Int → Int → ByteArray → Int → Option (ByteArray × Int)
 | 0, _, _, _, _, _ => none
 | k + 1, x7, x11, x12, x15, x16 => if x16 < 8 then (if x12 > 1 then (turnpikeref2_Text.j4 k x7 x11 x12 x15 x16 (x16 == x11)) else (turnpikeref2_Text.j4 k x7 x11 x12 x15 x16 false)) else (some (x15, 0))
def turnpikeref2_Text.j4 : Nat → List Int → Int → Int → ByteArray → Int → Bool → Option (ByteArray × Int)
 | 0, _, _, _, _, _, _ => none
 | k + 1, x7, x11, x12, x15, x16, x105 => if x105 = true then (if x15.size + 2 ≤ 9223372036854775807 then (turnpikeref2_Text.l3 k x7 x11 x12 (x15 ++ (⟨#[58, 58]⟩ : ByteArray)) (wrap64 ((wrap64 ((wrap64 (x16 + x12)) - 1)) + 1))) else (none)) else (if x15.toList = ([] : List UInt8) then (if 0 ≤ x16 then (if x16 < (x7.length : Int) then ((turnpikeref2_hex.f k (rd x7 x16)).bind fun t776 => (if x15.size + t776.size ≤ 9223372036854775807 then (turnpikeref2_Text.l3 k x7 x11 x12 (x15 ++ t776) (wrap64 (x16 + 1))) else (none))) else (none)) else (none)) else (if 0 ≤ (wrap64 ((x15.size : Int) - 1)) then (if (wrap64 ((x15.size : Int) - 1)) < (x15.size : Int) then (if (bt x15 (wrap64 ((x15.size : Int) - 1))) = 58 then (if 0 ≤ x16 then (if x16 < (x7.length : Int) then ((turnpikeref2_hex.f k (rd x7 x16)).bind fun t778 => (if x15.size + t778.size ≤ 9223372036854775807 then (turnpikeref2_Text.l3 k x7 x11 x12 (x15 ++ t778) (wrap64 (x16 + 1))) else (none))) else (none)) else (none)) else (if x15.size + 1 ≤ 9223372036854775807 then (if 0 ≤ x16 then (if x16 < (x7.length : Int) then ((turnpikeref2_hex.f k (rd x7 x16)).bind fun t780 => (if (x15 ++ (⟨#[58]⟩ : ByteArray)).size + t780.size ≤ 9223372036854775807 then (turnpikeref2_Text.l3 k x7 x11 x12 ((x15 ++ (⟨#[58]⟩ : ByteArray)) ++ t780) (wrap64 (x16 + 1))) else (none))) else (none)) else (none)) else (none))) else (none)) else (none)))
end
def turnpikeref2_Text.f (k : Nat) (a0 : Int) (a1_0 : Int) (a1_1 : Int) : Option (ByteArray × Int) := (turnpikeref2_Right.f k a0 a1_0 a1_1).bind fun t762 => (if t762 = 0 then (if a0 = 32 then ((turnpikeref2_Decimal.f k (wrap64 (a1_0 / 72057594037927936))).bind fun t763 => (if t763.size + 1 ≤ 9223372036854775807 then ((turnpikeref2_Decimal.f k (wrap64 (Go.bits .and .u64 (a1_0 / 281474976710656) 255))).bind fun t764 => (if (t763 ++ (⟨#[46]⟩ : ByteArray)).size + t764.size ≤ 9223372036854775807 then (if ((t763 ++ (⟨#[46]⟩ : ByteArray)) ++ t764).size + 1 ≤ 9223372036854775807 then ((turnpikeref2_Decimal.f k (wrap64 (Go.bits .and .u64 (a1_0 / 1099511627776) 255))).bind fun t765 => (if (((t763 ++ (⟨#[46]⟩ : ByteArray)) ++ t764) ++ (⟨#[46]⟩ : ByteArray)).size + t765.size ≤ 9223372036854775807 then (if ((((t763 ++ (⟨#[46]⟩ : ByteArray)) ++ t764) ++ (⟨#[46]⟩ : ByteArray)) ++ t765).size + 1 ≤ 9223372036854775807 then ((turnpikeref2_Decimal.f k (wrap64 (Go.bits .and .u64 (a1_0 / 4294967296) 255))).bind fun t766 => (if (((((t763 ++ (⟨#[46]⟩ : ByteArray)) ++ t764) ++ (⟨#[46]⟩ : ByteArray)) ++ t765) ++ (⟨#[46]⟩ : ByteArray)).size + t766.size ≤ 9223372036854775807 then (some ((((((t763 ++ (⟨#[46]⟩ : ByteArray)) ++ t764) ++ (⟨#[46]⟩ : ByteArray)) ++ t765) ++ (⟨#[46]⟩ : ByteArray)) ++ t766, 0)) else (none))) else (none)) else (none))) else (none)) else (none))) else (none))) else (turnpikeref2_Text.l0 k ([] : List Int) 0 a1_0 a1_1)) else (some ((⟨#[]⟩ : ByteArray), t762)))
theorem turnpikeref2_Text.mono_l : ∀ k, (∀ y0 y1 y2 y3, LeO (turnpikeref2_Text.l0 k y0 y1 y2 y3) (turnpikeref2_Text.l0 (k + 1) y0 y1 y2 y3)) ∧ (∀ y0 y1 y2 y3, LeO (turnpikeref2_Text.l1 k y0 y1 y2 y3) (turnpikeref2_Text.l1 (k + 1) y0 y1 y2 y3)) ∧ (∀ y0 y1 y2 y3 y4, LeO (turnpikeref2_Text.l2 k y0 y1 y2 y3 y4) (turnpikeref2_Text.l2 (k + 1) y0 y1 y2 y3 y4)) ∧ (∀ y0 y1 y2 y3 y4, LeO (turnpikeref2_Text.l3 k y0 y1 y2 y3 y4) (turnpikeref2_Text.l3 (k + 1) y0 y1 y2 y3 y4)) ∧ (∀ y0 y1 y2 y3 y4 y5, LeO (turnpikeref2_Text.j4 k y0 y1 y2 y3 y4 y5) (turnpikeref2_Text.j4 (k + 1) y0 y1 y2 y3 y4 y5))
 | 0 => ⟨fun _ _ _ _ r h => by simp [turnpikeref2_Text.l0] at h, fun _ _ _ _ r h => by simp [turnpikeref2_Text.l1] at h, fun _ _ _ _ _ r h => by simp [turnpikeref2_Text.l2] at h, fun _ _ _ _ _ r h => by simp [turnpikeref2_Text.l3] at h, fun _ _ _ _ _ _ r h => by simp [turnpikeref2_Text.j4] at h⟩
 | k + 1 => by
  obtain ⟨ih0, ih1, ih2, ih3, ih4⟩ := turnpikeref2_Text.mono_l k
  refine ⟨?_, ?_, ?_, ?_, ?_⟩
  ·intro y0 y1 y2 y3
   unfold turnpikeref2_Text.l0
   have m0 := @turnpikeref2_Decimal.mono
   have m1 := @turnpikeref2_Right.mono
   have m2 := @turnpikeref2_hex.mono
   exact xO
  ·intro y0 y1 y2 y3
   unfold turnpikeref2_Text.l1
   have m0 := @turnpikeref2_Decimal.mono
   have m1 := @turnpikeref2_Right.mono
   have m2 := @turnpikeref2_hex.mono
   exact xO
  ·intro y0 y1 y2 y3 y4
   unfold turnpikeref2_Text.l2
   have m0 := @turnpikeref2_Decimal.mono
   have m1 := @turnpikeref2_Right.mono
   have m2 := @turnpikeref2_hex.mono
   exact xO
  ·intro y0 y1 y2 y3 y4
   unfold turnpikeref2_Text.l3
   have m0 := @turnpikeref2_Decimal.mono
   have m1 := @turnpikeref2_Right.mono
   have m2 := @turnpikeref2_hex.mono
   exact xO
  ·intro y0 y1 y2 y3 y4 y5
   unfold turnpikeref2_Text.j4
   have m0 := @turnpikeref2_Decimal.mono
   have m1 := @turnpikeref2_Right.mono
   have m2 := @turnpikeref2_hex.mono
   exact xO
theorem turnpikeref2_Text.mono : ∀ a0 a1 a2 k, LeO (turnpikeref2_Text.f k a0 a1 a2) (turnpikeref2_Text.f (k + 1) a0 a1 a2) := by
 intro a0 a1 a2 k
 obtain ⟨ih0, ih1, ih2, ih3, ih4⟩ := turnpikeref2_Text.mono_l k
 unfold turnpikeref2_Text.f
 have m0 := @turnpikeref2_Decimal.mono
 have m1 := @turnpikeref2_Right.mono
 have m2 := @turnpikeref2_hex.mono
 exact xO
def turnpikeref2_Text.T5 : Bool × List (List Nat × List Nat) := (true, [([], []), ([0], [0]), ([1], [1]), ([2], [2]), ([3], [3]), ([4], [4]), ([], []), ([6], [6]), ([7], [7]), ([8], [8]), ([9], [9]), ([10, 4], [10]), ([5, 11], [5, 11]), ([12], [12]), ([], []), ([14], [14]), ([15], [15]), ([16], [16]), ([17], [17]), ([18, 11], [18]), ([13, 19], [13, 19]), ([20], [20]), ([], []), ([22], [22]), ([23], [23]), ([24], [24]), ([25], [25]), ([26, 19], [26]), ([21, 27], [21, 27]), ([28, 27, 0, 1, 2, 3, 4, 5, 6, 7, 8, 9, 10, 11, 12, 13, 14, 15, 16, 17, 18, 19, 20, 21, 22, 23, 24, 25, 26, 27, 28], [28]), ([29, 0, 1, 2, 3, 4, 5, 6, 7, 8, 9, 10, 11, 12, 13, 14, 15, 16, 17, 18, 19, 20, 21, 22, 23, 24, 25, 26, 27, 28, 29], [])])
def turnpikeref2_Text.B5 : List Nat := [0, 1, 3, 7, 15, 31, 0, 64, 192, 448, 960, 2015, 4095, 8191, 0, 16384, 49152, 114688, 245760, 511967, 1048575, 2097151, 0, 4194304, 12582912, 29360128, 62914560, 131059679, 268435455, 536870911, 1073741823]
theorem turnpikeref2_Text.tab5 : rtab .any (opsOf Tryd.f77 5) = turnpikeref2_Text.T5 := by kernel_rfl
theorem turnpikeref2_Text.bits5 : waitsOk turnpikeref2_Text.T5.2 turnpikeref2_Text.B5 = true := by kernel_rfl
set_option maxHeartbeats 8000000 in
set_option maxRecDepth 100000 in
theorem turnpikeref2_Text.calls (k : Nat) (a0 : Int) (a1_0 : Int) (a1_1 : Int) (r1 : ByteArray) (r2 : Int) (w : World) (h : turnpikeref2_Text.f k a0 a1_0 a1_1 = some (r1, r2)) :
  Calls Tryd.prog 77 #[.int .i64 a0, .agg #[.int .u64 a1_0, .int .u64 a1_1]] w fun e w' => e = .returned (.tuple #[.string r1, .int .i64 r2]) ∧ Below w.heap.size w w' := by
 have hu24 := Tryd.underlying24
 have HB := Aside0.mk (Below.refl w.heap.size w)
 have H : ((turnpikeref2_Right.f k a0 a1_0 a1_1).bind fun t762 => (if t762 = 0 then (if a0 = 32 then ((turnpikeref2_Decimal.f k (wrap64 (a1_0 / 72057594037927936))).bind fun t763 => (if t763.size + 1 ≤ 9223372036854775807 then ((turnpikeref2_Decimal.f k (wrap64 (Go.bits .and .u64 (a1_0 / 281474976710656) 255))).bind fun t764 => (if (t763 ++ (⟨#[46]⟩ : ByteArray)).size + t764.size ≤ 9223372036854775807 then (if ((t763 ++ (⟨#[46]⟩ : ByteArray)) ++ t764).size + 1 ≤ 9223372036854775807 then ((turnpikeref2_Decimal.f k (wrap64 (Go.bits .and .u64 (a1_0 / 1099511627776) 255))).bind fun t765 => (if (((t763 ++ (⟨#[46]⟩ : ByteArray)) ++ t764) ++ (⟨#[46]⟩ : ByteArray)).size + t765.size ≤ 9223372036854775807 then (if ((((t763 ++ (⟨#[46]⟩ : ByteArray)) ++ t764) ++ (⟨#[46]⟩ : ByteArray)) ++ t765).size + 1 ≤ 9223372036854775807 then ((turnpikeref2_Decimal.f k (wrap64 (Go.bits .and .u64 (a1_0 / 4294967296) 255))).bind fun t766 => (if (((((t763 ++ (⟨#[46]⟩ : ByteArray)) ++ t764) ++ (⟨#[46]⟩ : ByteArray)) ++ t765) ++ (⟨#[46]⟩ : ByteArray)).size + t766.size ≤ 9223372036854775807 then (some ((((((t763 ++ (⟨#[46]⟩ : ByteArray)) ++ t764) ++ (⟨#[46]⟩ : ByteArray)) ++ t765) ++ (⟨#[46]⟩ : ByteArray)) ++ t766, 0)) else (none))) else (none)) else (none))) else (none)) else (none))) else (none))) else (turnpikeref2_Text.l0 k ([] : List Int) 0 a1_0 a1_1)) else (some ((⟨#[]⟩ : ByteArray), t762)))) = some (r1, r2) := h
 clear h
 replace H := Option.bind_eq_some_iff.mp H
 obtain ⟨t762, A30, H⟩ := H
 replace H : (if t762 = 0 then (if a0 = 32 then ((turnpikeref2_Decimal.f k (wrap64 (a1_0 / 72057594037927936))).bind fun t763 => (if t763.size + 1 ≤ 9223372036854775807 then ((turnpikeref2_Decimal.f k (wrap64 (Go.bits .and .u64 (a1_0 / 281474976710656) 255))).bind fun t764 => (if (t763 ++ (⟨#[46]⟩ : ByteArray)).size + t764.size ≤ 9223372036854775807 then (if ((t763 ++ (⟨#[46]⟩ : ByteArray)) ++ t764).size + 1 ≤ 9223372036854775807 then ((turnpikeref2_Decimal.f k (wrap64 (Go.bits .and .u64 (a1_0 / 1099511627776) 255))).bind fun t765 => (if (((t763 ++ (⟨#[46]⟩ : ByteArray)) ++ t764) ++ (⟨#[46]⟩ : ByteArray)).size + t765.size ≤ 9223372036854775807 then (if ((((t763 ++ (⟨#[46]⟩ : ByteArray)) ++ t764) ++ (⟨#[46]⟩ : ByteArray)) ++ t765).size + 1 ≤ 9223372036854775807 then ((turnpikeref2_Decimal.f k (wrap64 (Go.bits .and .u64 (a1_0 / 4294967296) 255))).bind fun t766 => (if (((((t763 ++ (⟨#[46]⟩ : ByteArray)) ++ t764) ++ (⟨#[46]⟩ : ByteArray)) ++ t765) ++ (⟨#[46]⟩ : ByteArray)).size + t766.size ≤ 9223372036854775807 then (some ((((((t763 ++ (⟨#[46]⟩ : ByteArray)) ++ t764) ++ (⟨#[46]⟩ : ByteArray)) ++ t765) ++ (⟨#[46]⟩ : ByteArray)) ++ t766, 0)) else (none))) else (none)) else (none))) else (none)) else (none))) else (none))) else (turnpikeref2_Text.l0 k ([] : List Int) 0 a1_0 a1_1)) else (some ((⟨#[]⟩ : ByteArray), t762))) = some (r1, r2) := H
 have A3 := Aside0.mk A30
 clear A30
 by_cases c4 : t762 = 0
 ·rw [if_pos c4] at H
  have c4b0 : (t762 == 0) = true := beq_iff_eq.mpr c4
  have c4b1 : (t762 != 0) = false := bne_eq_false_iff_eq.mpr c4
  clear c4
  by_cases c5 : a0 = 32
  ·rw [if_pos c5] at H
   have c5b0 : (a0 == 32) = true := beq_iff_eq.mpr c5
   have c5b1 : (a0 != 32) = false := bne_eq_false_iff_eq.mpr c5
   clear c5
   replace H := Option.bind_eq_some_iff.mp H
   obtain ⟨t763, A60, H⟩ := H
   replace H : (if t763.size + 1 ≤ 9223372036854775807 then ((turnpikeref2_Decimal.f k (wrap64 (Go.bits .and .u64 (a1_0 / 281474976710656) 255))).bind fun t764 => (if (t763 ++ (⟨#[46]⟩ : ByteArray)).size + t764.size ≤ 9223372036854775807 then (if ((t763 ++ (⟨#[46]⟩ : ByteArray)) ++ t764).size + 1 ≤ 9223372036854775807 then ((turnpikeref2_Decimal.f k (wrap64 (Go.bits .and .u64 (a1_0 / 1099511627776) 255))).bind fun t765 => (if (((t763 ++ (⟨#[46]⟩ : ByteArray)) ++ t764) ++ (⟨#[46]⟩ : ByteArray)).size + t765.size ≤ 9223372036854775807 then (if ((((t763 ++ (⟨#[46]⟩ : ByteArray)) ++ t764) ++ (⟨#[46]⟩ : ByteArray)) ++ t765).size + 1 ≤ 9223372036854775807 then ((turnpikeref2_Decimal.f k (wrap64 (Go.bits .and .u64 (a1_0 / 4294967296) 255))).bind fun t766 => (if (((((t763 ++ (⟨#[46]⟩ : ByteArray)) ++ t764) ++ (⟨#[46]⟩ : ByteArray)) ++ t765) ++ (⟨#[46]⟩ : ByteArray)).size + t766.size ≤ 9223372036854775807 then (some ((((((t763 ++ (⟨#[46]⟩ : ByteArray)) ++ t764) ++ (⟨#[46]⟩ : ByteArray)) ++ t765) ++ (⟨#[46]⟩ : ByteArray)) ++ t766, 0)) else (none))) else (none)) else (none))) else (none)) else (none))) else (none)) = some (r1, r2) := H
   have A6 := Aside0.mk A60
   clear A60
   by_cases c7 : t763.size + 1 ≤ 9223372036854775807
   ·rw [if_pos c7] at H
    have c7b0 := eq_true c7
    have c7b1 : decide (t763.size + 1 ≤ 9223372036854775807) = true := decide_eq_true c7
    try have c7b2 : (9223372036854775807 < t763.size + 1) = False := eq_false (Nat.not_lt.2 c7)
    replace H := Option.bind_eq_some_iff.mp H
    obtain ⟨t764, A80, H⟩ := H
    replace H : (if (t763 ++ (⟨#[46]⟩ : ByteArray)).size + t764.size ≤ 9223372036854775807 then (if ((t763 ++ (⟨#[46]⟩ : ByteArray)) ++ t764).size + 1 ≤ 9223372036854775807 then ((turnpikeref2_Decimal.f k (wrap64 (Go.bits .and .u64 (a1_0 / 1099511627776) 255))).bind fun t765 => (if (((t763 ++ (⟨#[46]⟩ : ByteArray)) ++ t764) ++ (⟨#[46]⟩ : ByteArray)).size + t765.size ≤ 9223372036854775807 then (if ((((t763 ++ (⟨#[46]⟩ : ByteArray)) ++ t764) ++ (⟨#[46]⟩ : ByteArray)) ++ t765).size + 1 ≤ 9223372036854775807 then ((turnpikeref2_Decimal.f k (wrap64 (Go.bits .and .u64 (a1_0 / 4294967296) 255))).bind fun t766 => (if (((((t763 ++ (⟨#[46]⟩ : ByteArray)) ++ t764) ++ (⟨#[46]⟩ : ByteArray)) ++ t765) ++ (⟨#[46]⟩ : ByteArray)).size + t766.size ≤ 9223372036854775807 then (some ((((((t763 ++ (⟨#[46]⟩ : ByteArray)) ++ t764) ++ (⟨#[46]⟩ : ByteArray)) ++ t765) ++ (⟨#[46]⟩ : ByteArray)) ++ t766, 0)) else (none))) else (none)) else (none))) else (none)) else (none)) = some (r1, r2) := H
    have A8 := Aside0.mk A80
    clear A80
    by_cases c9 : (t763 ++ (⟨#[46]⟩ : ByteArray)).size + t764.size ≤ 9223372036854775807
    ·rw [if_pos c9] at H
     have c9b0 := eq_true c9
     have c9b1 : decide ((t763 ++ (⟨#[46]⟩ : ByteArray)).size + t764.size ≤ 9223372036854775807) = true := decide_eq_true c9
     try have c9s : (9223372036854775807 < t763.size + 1 + t764.size) = False := eq_false (Nat.not_lt.2 (by have h_ := c9; simp only [ByteArray.size_append] at h_; exact h_))
     try have c9b2 : (9223372036854775807 < (t763 ++ (⟨#[46]⟩ : ByteArray)).size + t764.size) = False := eq_false (Nat.not_lt.2 c9)
     by_cases c10 : ((t763 ++ (⟨#[46]⟩ : ByteArray)) ++ t764).size + 1 ≤ 9223372036854775807
     ·rw [if_pos c10] at H
      have c10b0 := eq_true c10
      have c10b1 : decide (((t763 ++ (⟨#[46]⟩ : ByteArray)) ++ t764).size + 1 ≤ 9223372036854775807) = true := decide_eq_true c10
      try have c10s : (9223372036854775807 < t763.size + 1 + t764.size + 1) = False := eq_false (Nat.not_lt.2 (by have h_ := c10; simp only [ByteArray.size_append] at h_; exact h_))
      try have c10b2 : (9223372036854775807 < ((t763 ++ (⟨#[46]⟩ : ByteArray)) ++ t764).size + 1) = False := eq_false (Nat.not_lt.2 c10)
      replace H := Option.bind_eq_some_iff.mp H
      obtain ⟨t765, A110, H⟩ := H
      replace H : (if (((t763 ++ (⟨#[46]⟩ : ByteArray)) ++ t764) ++ (⟨#[46]⟩ : ByteArray)).size + t765.size ≤ 9223372036854775807 then (if ((((t763 ++ (⟨#[46]⟩ : ByteArray)) ++ t764) ++ (⟨#[46]⟩ : ByteArray)) ++ t765).size + 1 ≤ 9223372036854775807 then ((turnpikeref2_Decimal.f k (wrap64 (Go.bits .and .u64 (a1_0 / 4294967296) 255))).bind fun t766 => (if (((((t763 ++ (⟨#[46]⟩ : ByteArray)) ++ t764) ++ (⟨#[46]⟩ : ByteArray)) ++ t765) ++ (⟨#[46]⟩ : ByteArray)).size + t766.size ≤ 9223372036854775807 then (some ((((((t763 ++ (⟨#[46]⟩ : ByteArray)) ++ t764) ++ (⟨#[46]⟩ : ByteArray)) ++ t765) ++ (⟨#[46]⟩ : ByteArray)) ++ t766, 0)) else (none))) else (none)) else (none)) = some (r1, r2) := H
      have A11 := Aside0.mk A110
      clear A110
      by_cases c12 : (((t763 ++ (⟨#[46]⟩ : ByteArray)) ++ t764) ++ (⟨#[46]⟩ : ByteArray)).size + t765.size ≤ 9223372036854775807
      ·rw [if_pos c12] at H
       have c12b0 := eq_true c12
       have c12b1 : decide ((((t763 ++ (⟨#[46]⟩ : ByteArray)) ++ t764) ++ (⟨#[46]⟩ : ByteArray)).size + t765.size ≤ 9223372036854775807) = true := decide_eq_true c12
       try have c12s : (9223372036854775807 < t763.size + 1 + t764.size + 1 + t765.size) = False := eq_false (Nat.not_lt.2 (by have h_ := c12; simp only [ByteArray.size_append] at h_; exact h_))
       try have c12b2 : (9223372036854775807 < (((t763 ++ (⟨#[46]⟩ : ByteArray)) ++ t764) ++ (⟨#[46]⟩ : ByteArray)).size + t765.size) = False := eq_false (Nat.not_lt.2 c12)
       by_cases c13 : ((((t763 ++ (⟨#[46]⟩ : ByteArray)) ++ t764) ++ (⟨#[46]⟩ : ByteArray)) ++ t765).size + 1 ≤ 9223372036854775807
       ·rw [if_pos c13] at H
        have c13b0 := eq_true c13
        have c13b1 : decide (((((t763 ++ (⟨#[46]⟩ : ByteArray)) ++ t764) ++ (⟨#[46]⟩ : ByteArray)) ++ t765).size + 1 ≤ 9223372036854775807) = true := decide_eq_true c13
        try have c13s : (9223372036854775807 < t763.size + 1 + t764.size + 1 + t765.size + 1) = False := eq_false (Nat.not_lt.2 (by have h_ := c13; simp only [ByteArray.size_append] at h_; exact h_))
        try have c13b2 : (9223372036854775807 < ((((t763 ++ (⟨#[46]⟩ : ByteArray)) ++ t764) ++ (⟨#[46]⟩ : ByteArray)) ++ t765).size + 1) = False := eq_false (Nat.not_lt.2 c13)
        replace H := Option.bind_eq_some_iff.mp H
        obtain ⟨t766, A140, H⟩ := H
        replace H : (if (((((t763 ++ (⟨#[46]⟩ : ByteArray)) ++ t764) ++ (⟨#[46]⟩ : ByteArray)) ++ t765) ++ (⟨#[46]⟩ : ByteArray)).size + t766.size ≤ 9223372036854775807 then (some ((((((t763 ++ (⟨#[46]⟩ : ByteArray)) ++ t764) ++ (⟨#[46]⟩ : ByteArray)) ++ t765) ++ (⟨#[46]⟩ : ByteArray)) ++ t766, 0)) else (none)) = some (r1, r2) := H
        have A14 := Aside0.mk A140
        clear A140
        by_cases c15 : (((((t763 ++ (⟨#[46]⟩ : ByteArray)) ++ t764) ++ (⟨#[46]⟩ : ByteArray)) ++ t765) ++ (⟨#[46]⟩ : ByteArray)).size + t766.size ≤ 9223372036854775807
        ·rw [if_pos c15] at H
         have c15b0 := eq_true c15
         have c15b1 : decide ((((((t763 ++ (⟨#[46]⟩ : ByteArray)) ++ t764) ++ (⟨#[46]⟩ : ByteArray)) ++ t765) ++ (⟨#[46]⟩ : ByteArray)).size + t766.size ≤ 9223372036854775807) = true := decide_eq_true c15
         try have c15s : (9223372036854775807 < t763.size + 1 + t764.size + 1 + t765.size + 1 + t766.size) = False := eq_false (Nat.not_lt.2 (by have h_ := c15; simp only [ByteArray.size_append] at h_; exact h_))
         try have c15b2 : (9223372036854775807 < (((((t763 ++ (⟨#[46]⟩ : ByteArray)) ++ t764) ++ (⟨#[46]⟩ : ByteArray)) ++ t765) ++ (⟨#[46]⟩ : ByteArray)).size + t766.size) = False := eq_false (Nat.not_lt.2 c15)
         simp only [Option.some.injEq, Prod.mk.injEq] at H
         obtain ⟨rfl, rfl⟩ := H
         go_enter Tryd.func77, Tryd.ntmps77
         try go_wp2_with (first | ((with_reducible refine gate_dst (N := 3) rfl ?_); (try (refine gate_guard (by rfl) ?_; dsimp only)); refine box_event ?hg (N := 3) ?hd (cs := #[.int .u64 a1_0, .int .u64 a1_1]) (t := 24) ?hr ?_; (case hd => rfl); (case hg => rfl); (case hr => first | (go_simp; done) | (go_simp; rfl)); intro gb761 hg w16 hbox hb; have n0_ := Aside0.mk (below_step xB hb); have n1_ := Aside0.mk (hbox); have n2_ := xS w hg; have n3_ := xS w hg; clear HB; have HB := n0_; have BK761 := n1_; have GW761 := n2_; have GE761 := n3_; clear n0_ n1_ n2_ n3_; clear hb hbox hg; have hcz17_0 : w16.cell? ⟨gb761, 0, none⟩ = some (.int .u64 a1_0) := (blk_cell BK761.out 0).trans rfl; have hcz17_1 : w16.cell? ⟨gb761, 1, none⟩ = some (.int .u64 a1_1) := (blk_cell BK761.out 1).trans rfl; have hfz17_0 := blk_frozen BK761.out 0; have hfz17_1 := blk_frozen BK761.out 1) | ((with_reducible refine gate_callee (f := 50) rfl ?_); refine goesL_ (some 19) rfl rfl Tryd.func50 (by kernel_rfl) rfl #[.int .i64 a0, .agg #[.int .u64 a1_0, .int .u64 a1_1]] rfl xM ?_; (with_reducible refine (turnpikeref2_Right.calls k a0 a1_0 a1_1 t762 _ A3.out).mono ?_); rintro e w18 ⟨rfl, hb⟩; refine ⟨_, rfl, ?_⟩; have n0_ := xP BK761.out hb; have n1_ := Aside0.mk (below_step xG hb); clear BK761; clear HB; have BK761 := n0_; have HB := n1_; clear n0_ n1_; (try clear hb); (try clear hb2); (try clear hk); (try clear hi)))
         have n0_ := Aside0.mk (blk_drew BK761.out)
         have n1_ := Aside0.mk (below_drew1 HB.out)
         clear BK761
         clear HB
         have BK761 := n0_
         have HB := n1_
         clear n0_ n1_
         refine start_ (n := 31) (S := fun w' => w'.cell? ⟨gb761, 0, none⟩ = some (.int .u64 a1_0) ∧ w'.cell? ⟨gb761, 1, none⟩ = some (.int .u64 a1_1)) (ds := []) #[false, false, false, false, false, false, false, false, false, false, false, false, false, false, false, false, false, false, false, false, false, false, false, false, false, false, false, false, false, false, false] (by kernel_rfl) rfl rfl ⟨(blk_cell BK761.out 0).trans rfl, (blk_cell BK761.out 1).trans rfl⟩ (fun hHeld => ?_); refine with_tabW turnpikeref2_Text.tab5 turnpikeref2_Text.bits5 (fun HT_ HW_ => ?_)
         generalize w18.drew = w19 at BK761 HB hHeld ⊢
         refine pure_ (i := 0) (N := some 25) (v := ?_) (a' := ?_) #[true, false, false, false, false, false, false, false, false, false, false, false, false, false, false, false, false, false, false, false, false, false, false, false, false, false, false, false, false, false, false] rfl rfl (any_of HT_.out (by kernel_rfl)) (fun _ _ _ h => h) (Or.inl ⟨by rfl, ?_⟩) ?_ ?_
         rotate_left
         ·intro w'
          go_simp
          with_reducible rfl
         rotate_left
         ·simp only [Act.put, List.setIfInBounds_toArray, List.set_cons_zero, List.set_cons_succ, i64_w, i32_w]
          rfl
         refine pure_ (i := 6) (N := some 31) (v := ?_) (a' := ?_) #[true, false, false, false, false, false, true, false, false, false, false, false, false, false, false, false, false, false, false, false, false, false, false, false, false, false, false, false, false, false, false] rfl rfl (any_of HT_.out (by kernel_rfl)) (fun _ _ _ h => h) (Or.inl ⟨by rfl, ?_⟩) ?_ ?_
         rotate_left
         ·intro w'
          go_simp
          with_reducible rfl
         rotate_left
         ·simp only [Act.put, List.setIfInBounds_toArray, List.set_cons_zero, List.set_cons_succ, i64_w, i32_w]
          rfl
         refine pure_ (i := 14) (N := some 39) (v := ?_) (a' := ?_) #[true, false, false, false, false, false, true, false, false, false, false, false, false, false, true, false, false, false, false, false, false, false, false, false, false, false, false, false, false, false, false] rfl rfl (any_of HT_.out (by kernel_rfl)) (fun _ _ _ h => h) (Or.inl ⟨by rfl, ?_⟩) ?_ ?_
         rotate_left
         ·intro w'
          go_simp
          with_reducible rfl
         rotate_left
         ·simp only [Act.put, List.setIfInBounds_toArray, List.set_cons_zero, List.set_cons_succ, i64_w, i32_w]
          rfl
         refine pure_ (i := 22) (N := some 47) (v := ?_) (a' := ?_) #[true, false, false, false, false, false, true, false, false, false, false, false, false, false, true, false, false, false, false, false, false, false, true, false, false, false, false, false, false, false, false] rfl rfl (any_of HT_.out (by kernel_rfl)) (fun _ _ _ h => h) (Or.inl ⟨by rfl, ?_⟩) ?_ ?_
         rotate_left
         ·intro w'
          go_simp
          with_reducible rfl
         rotate_left
         ·simp only [Act.put, List.setIfInBounds_toArray, List.set_cons_zero, List.set_cons_succ, i64_w, i32_w]
          rfl
         refine take_ (i := 1) (N := some 26) (v := ?_) (a' := ?_) #[true, true, false, false, false, false, true, false, false, false, false, false, false, false, true, false, false, false, false, false, false, false, true, false, false, false, false, false, false, false, false] rfl rfl (take_ofW HT_.out HW_.out (by kernel_rfl)) (fun _ _ _ h => h) (Or.inl ⟨by rfl, ?_⟩) hHeld ?_ ?_
         rotate_left
         ·rintro w' ⟨s0, s1⟩
          go_simp
          with_reducible rfl
         rotate_left
         ·simp only [Act.put, List.setIfInBounds_toArray, List.set_cons_zero, List.set_cons_succ, i64_w, i32_w]
          rfl
         refine pure_ (i := 2) (N := some 27) (v := ?_) (a' := ?_) #[true, true, true, false, false, false, true, false, false, false, false, false, false, false, true, false, false, false, false, false, false, false, true, false, false, false, false, false, false, false, false] rfl rfl (any_of HT_.out (by kernel_rfl)) (fun _ _ _ h => h) (Or.inl ⟨by rfl, ?_⟩) ?_ ?_
         rotate_left
         ·intro w'
          go_simp
          with_reducible rfl
         rotate_left
         ·simp only [Act.put, List.setIfInBounds_toArray, List.set_cons_zero, List.set_cons_succ, i64_w, i32_w]
          rfl
         refine pure_ (i := 3) (N := some 28) (v := ?_) (a' := ?_) #[true, true, true, true, false, false, true, false, false, false, false, false, false, false, true, false, false, false, false, false, false, false, true, false, false, false, false, false, false, false, false] rfl rfl (any_of HT_.out (by kernel_rfl)) (fun _ _ _ h => h) (Or.inl ⟨by rfl, ?_⟩) ?_ ?_
         rotate_left
         ·intro w'
          go_simp
          with_reducible rfl
         rotate_left
         ·simp only [Act.put, List.setIfInBounds_toArray, List.set_cons_zero, List.set_cons_succ, i64_w, i32_w]
          rfl
         refine take_ (i := 7) (N := some 32) (v := ?_) (a' := ?_) #[true, true, true, true, false, false, true, true, false, false, false, false, false, false, true, false, false, false, false, false, false, false, true, false, false, false, false, false, false, false, false] rfl rfl (take_ofW HT_.out HW_.out (by kernel_rfl)) (fun _ _ _ h => h) (Or.inl ⟨by rfl, ?_⟩) hHeld ?_ ?_
         rotate_left
         ·rintro w' ⟨s0, s1⟩
          go_simp
          with_reducible rfl
         rotate_left
         ·simp only [Act.put, List.setIfInBounds_toArray, List.set_cons_zero, List.set_cons_succ, i64_w, i32_w]
          rfl
         refine pure_ (i := 8) (N := some 33) (v := ?_) (a' := ?_) #[true, true, true, true, false, false, true, true, true, false, false, false, false, false, true, false, false, false, false, false, false, false, true, false, false, false, false, false, false, false, false] rfl rfl (any_of HT_.out (by kernel_rfl)) (fun _ _ _ h => h) (Or.inl ⟨by rfl, ?_⟩) ?_ ?_
         rotate_left
         ·intro w'
          go_simp
          with_reducible rfl
         rotate_left
         ·simp only [Act.put, List.setIfInBounds_toArray, List.set_cons_zero, List.set_cons_succ, i64_w, i32_w]
          rfl
         refine pure_ (i := 9) (N := some 34) (v := ?_) (a' := ?_) #[true, true, true, true, false, false, true, true, true, true, false, false, false, false, true, false, false, false, false, false, false, false, true, false, false, false, false, false, false, false, false] rfl rfl (any_of HT_.out (by kernel_rfl)) (fun _ _ _ h => h) (Or.inl ⟨by rfl, ?_⟩) ?_ ?_
         rotate_left
         ·intro w'
          go_simp
          with_reducible rfl
         rotate_left
         ·simp only [Act.put, List.setIfInBounds_toArray, List.set_cons_zero, List.set_cons_succ, i64_w, i32_w]
          rfl
         refine pure_ (i := 10) (N := some 35) (v := ?_) (a' := ?_) #[true, true, true, true, false, false, true, true, true, true, true, false, false, false, true, false, false, false, false, false, false, false, true, false, false, false, false, false, false, false, false] rfl rfl (any_of HT_.out (by kernel_rfl)) (fun _ _ _ h => h) (Or.inl ⟨by rfl, ?_⟩) ?_ ?_
         rotate_left
         ·intro w'
          go_simp
          with_reducible rfl
         rotate_left
         ·simp only [Act.put, List.setIfInBounds_toArray, List.set_cons_zero, List.set_cons_succ, i64_w, i32_w]
          rfl
         refine take_ (i := 15) (N := some 40) (v := ?_) (a' := ?_) #[true, true, true, true, false, false, true, true, true, true, true, false, false, false, true, true, false, false, false, false, false, false, true, false, false, false, false, false, false, false, false] rfl rfl (take_ofW HT_.out HW_.out (by kernel_rfl)) (fun _ _ _ h => h) (Or.inl ⟨by rfl, ?_⟩) hHeld ?_ ?_
         rotate_left
         ·rintro w' ⟨s0, s1⟩
          go_simp
          with_reducible rfl
         rotate_left
         ·simp only [Act.put, List.setIfInBounds_toArray, List.set_cons_zero, List.set_cons_succ, i64_w, i32_w]
          rfl
         refine pure_ (i := 16) (N := some 41) (v := ?_) (a' := ?_) #[true, true, true, true, false, false, true, true, true, true, true, false, false, false, true, true, true, false, false, false, false, false, true, false, false, false, false, false, false, false, false] rfl rfl (any_of HT_.out (by kernel_rfl)) (fun _ _ _ h => h) (Or.inl ⟨by rfl, ?_⟩) ?_ ?_
         rotate_left
         ·intro w'
          go_simp
          with_reducible rfl
         rotate_left
         ·simp only [Act.put, List.setIfInBounds_toArray, List.set_cons_zero, List.set_cons_succ, i64_w, i32_w]
          rfl
         refine pure_ (i := 17) (N := some 42) (v := ?_) (a' := ?_) #[true, true, true, true, false, false, true, true, true, true, true, false, false, false, true, true, true, true, false, false, false, false, true, false, false, false, false, false, false, false, false] rfl rfl (any_of HT_.out (by kernel_rfl)) (fun _ _ _ h => h) (Or.inl ⟨by rfl, ?_⟩) ?_ ?_
         rotate_left
         ·intro w'
          go_simp
          with_reducible rfl
         rotate_left
         ·simp only [Act.put, List.setIfInBounds_toArray, List.set_cons_zero, List.set_cons_succ, i64_w, i32_w]
          rfl
         refine pure_ (i := 18) (N := some 43) (v := ?_) (a' := ?_) #[true, true, true, true, false, false, true, true, true, true, true, false, false, false, true, true, true, true, true, false, false, false, true, false, false, false, false, false, false, false, false] rfl rfl (any_of HT_.out (by kernel_rfl)) (fun _ _ _ h => h) (Or.inl ⟨by rfl, ?_⟩) ?_ ?_
         rotate_left
         ·intro w'
          go_simp
          with_reducible rfl
         rotate_left
         ·simp only [Act.put, List.setIfInBounds_toArray, List.set_cons_zero, List.set_cons_succ, i64_w, i32_w]
          rfl
         refine take_ (i := 23) (N := some 48) (v := ?_) (a' := ?_) #[true, true, true, true, false, false, true, true, true, true, true, false, false, false, true, true, true, true, true, false, false, false, true, true, false, false, false, false, false, false, false] rfl rfl (take_ofW HT_.out HW_.out (by kernel_rfl)) (fun _ _ _ h => h) (Or.inl ⟨by rfl, ?_⟩) hHeld ?_ ?_
         rotate_left
         ·rintro w' ⟨s0, s1⟩
          go_simp
          with_reducible rfl
         rotate_left
         ·simp only [Act.put, List.setIfInBounds_toArray, List.set_cons_zero, List.set_cons_succ, i64_w, i32_w]
          rfl
         refine pure_ (i := 24) (N := some 49) (v := ?_) (a' := ?_) #[true, true, true, true, false, false, true, true, true, true, true, false, false, false, true, true, true, true, true, false, false, false, true, true, true, false, false, false, false, false, false] rfl rfl (any_of HT_.out (by kernel_rfl)) (fun _ _ _ h => h) (Or.inl ⟨by rfl, ?_⟩) ?_ ?_
         rotate_left
         ·intro w'
          go_simp
          with_reducible rfl
         rotate_left
         ·simp only [Act.put, List.setIfInBounds_toArray, List.set_cons_zero, List.set_cons_succ, i64_w, i32_w]
          rfl
         refine pure_ (i := 25) (N := some 50) (v := ?_) (a' := ?_) #[true, true, true, true, false, false, true, true, true, true, true, false, false, false, true, true, true, true, true, false, false, false, true, true, true, true, false, false, false, false, false] rfl rfl (any_of HT_.out (by kernel_rfl)) (fun _ _ _ h => h) (Or.inl ⟨by rfl, ?_⟩) ?_ ?_
         rotate_left
         ·intro w'
          go_simp
          with_reducible rfl
         rotate_left
         ·simp only [Act.put, List.setIfInBounds_toArray, List.set_cons_zero, List.set_cons_succ, i64_w, i32_w]
          rfl
         refine pure_ (i := 26) (N := some 51) (v := ?_) (a' := ?_) #[true, true, true, true, false, false, true, true, true, true, true, false, false, false, true, true, true, true, true, false, false, false, true, true, true, true, true, false, false, false, false] rfl rfl (any_of HT_.out (by kernel_rfl)) (fun _ _ _ h => h) (Or.inl ⟨by rfl, ?_⟩) ?_ ?_
         rotate_left
         ·intro w'
          go_simp
          with_reducible rfl
         rotate_left
         ·simp only [Act.put, List.setIfInBounds_toArray, List.set_cons_zero, List.set_cons_succ, i64_w, i32_w]
          rfl
         refine one_ (i := 4) (N := some 29) #[true, true, true, true, true, false, true, true, true, true, true, false, false, false, true, true, true, true, true, false, false, false, true, true, true, true, true, false, false, false, false] rfl rfl (one_of HT_.out (by kernel_rfl)) (by decide) (fun K hK => ?_)
         refine goes_ Tryd.func78 (by kernel_rfl) rfl #[.int .i64 (wrap64 (a1_0 / 72057594037927936))] (by rfl) rfl rfl xM ?_
         with_reducible refine (turnpikeref2_Decimal.calls k (wrap64 (a1_0 / 72057594037927936)) t763 _ A6.out).mono ?_
         rintro e w20 ⟨rfl, hb⟩
         refine ⟨_, rfl, ?_⟩
         have n0_ := xP BK761.out hb
         have n1_ := Aside0.mk (below_step xG hb)
         clear BK761
         clear HB
         have BK761 := n0_
         have HB := n1_
         clear n0_ n1_
         (try clear hb)
         (try clear hb2)
         (try clear hk)
         (try clear hi)
         refine hK.out _ _ ⟨(blk_cell BK761.out 0).trans rfl, (blk_cell BK761.out 1).trans rfl⟩ (fun hHeld => ?_)
         clear hK K
         refine norm_ (a' := ?_) ?_ ?_
         rotate_left
         ·show Act.put _ (some 29) _ = _
          simp only [Act.put, List.setIfInBounds_toArray, List.set_cons_zero, List.set_cons_succ, i64_w, i32_w]
          rfl
         refine pure_ (i := 5) (N := some 30) (v := ?_) (a' := ?_) #[true, true, true, true, true, true, true, true, true, true, true, false, false, false, true, true, true, true, true, false, false, false, true, true, true, true, true, false, false, false, false] rfl rfl (any_of HT_.out (by kernel_rfl)) (fun _ _ _ h => h) (Or.inl ⟨by rfl, ?_⟩) ?_ ?_
         rotate_left
         ·intro w'
          go_simp
          with_reducible rfl
         rotate_left
         ·simp only [Act.put, List.setIfInBounds_toArray, List.set_cons_zero, List.set_cons_succ, i64_w, i32_w]
          rfl
         refine one_ (i := 11) (N := some 36) #[true, true, true, true, true, true, true, true, true, true, true, true, false, false, true, true, true, true, true, false, false, false, true, true, true, true, true, false, false, false, false] rfl rfl (one_of HT_.out (by kernel_rfl)) (by decide) (fun K hK => ?_)
         refine goes_ Tryd.func78 (by kernel_rfl) rfl #[.int .i64 (wrap64 (Go.bits .and .u64 (a1_0 / 281474976710656) 255))] (by rfl) rfl rfl xM ?_
         with_reducible refine (turnpikeref2_Decimal.calls k (wrap64 (Go.bits .and .u64 (a1_0 / 281474976710656) 255)) t764 _ A8.out).mono ?_
         rintro e w21 ⟨rfl, hb⟩
         refine ⟨_, rfl, ?_⟩
         have n0_ := xP BK761.out hb
         have n1_ := Aside0.mk (below_step xG hb)
         clear BK761
         clear HB
         have BK761 := n0_
         have HB := n1_
         clear n0_ n1_
         (try clear hb)
         (try clear hb2)
         (try clear hk)
         (try clear hi)
         refine hK.out _ _ ⟨(blk_cell BK761.out 0).trans rfl, (blk_cell BK761.out 1).trans rfl⟩ (fun hHeld => ?_)
         clear hK K
         refine norm_ (a' := ?_) ?_ ?_
         rotate_left
         ·show Act.put _ (some 36) _ = _
          simp only [Act.put, List.setIfInBounds_toArray, List.set_cons_zero, List.set_cons_succ, i64_w, i32_w]
          rfl
         refine pure_ (i := 12) (N := some 37) (v := ?_) (a' := ?_) #[true, true, true, true, true, true, true, true, true, true, true, true, true, false, true, true, true, true, true, false, false, false, true, true, true, true, true, false, false, false, false] rfl rfl (any_of HT_.out (by kernel_rfl)) (fun _ _ _ h => h) (Or.inl ⟨by rfl, ?_⟩) ?_ ?_
         rotate_left
         ·intro w'
          go_simp
          with_reducible rfl
         rotate_left
         ·simp only [Act.put, List.setIfInBounds_toArray, List.set_cons_zero, List.set_cons_succ, i64_w, i32_w]
          rfl
         refine pure_ (i := 13) (N := some 38) (v := ?_) (a' := ?_) #[true, true, true, true, true, true, true, true, true, true, true, true, true, true, true, true, true, true, true, false, false, false, true, true, true, true, true, false, false, false, false] rfl rfl (any_of HT_.out (by kernel_rfl)) (fun _ _ _ h => h) (Or.inl ⟨by rfl, ?_⟩) ?_ ?_
         rotate_left
         ·intro w'
          go_simp
          with_reducible rfl
         rotate_left
         ·simp only [Act.put, List.setIfInBounds_toArray, List.set_cons_zero, List.set_cons_succ, i64_w, i32_w]
          rfl
         refine one_ (i := 19) (N := some 44) #[true, true, true, true, true, true, true, true, true, true, true, true, true, true, true, true, true, true, true, true, false, false, true, true, true, true, true, false, false, false, false] rfl rfl (one_of HT_.out (by kernel_rfl)) (by decide) (fun K hK => ?_)
         refine goes_ Tryd.func78 (by kernel_rfl) rfl #[.int .i64 (wrap64 (Go.bits .and .u64 (a1_0 / 1099511627776) 255))] (by rfl) rfl rfl xM ?_
         with_reducible refine (turnpikeref2_Decimal.calls k (wrap64 (Go.bits .and .u64 (a1_0 / 1099511627776) 255)) t765 _ A11.out).mono ?_
         rintro e w22 ⟨rfl, hb⟩
         refine ⟨_, rfl, ?_⟩
         have n0_ := xP BK761.out hb
         have n1_ := Aside0.mk (below_step xG hb)
         clear BK761
         clear HB
         have BK761 := n0_
         have HB := n1_
         clear n0_ n1_
         (try clear hb)
         (try clear hb2)
         (try clear hk)
         (try clear hi)
         refine hK.out _ _ ⟨(blk_cell BK761.out 0).trans rfl, (blk_cell BK761.out 1).trans rfl⟩ (fun hHeld => ?_)
         clear hK K
         refine norm_ (a' := ?_) ?_ ?_
         rotate_left
         ·show Act.put _ (some 44) _ = _
          simp only [Act.put, List.setIfInBounds_toArray, List.set_cons_zero, List.set_cons_succ, i64_w, i32_w]
          rfl
         refine pure_ (i := 20) (N := some 45) (v := ?_) (a' := ?_) #[true, true, true, true, true, true, true, true, true, true, true, true, true, true, true, true, true, true, true, true, true, false, true, true, true, true, true, false, false, false, false] rfl rfl (any_of HT_.out (by kernel_rfl)) (fun _ _ _ h => h) (Or.inl ⟨by rfl, ?_⟩) ?_ ?_
         rotate_left
         ·intro w'
          go_simp
          with_reducible rfl
         rotate_left
         ·simp only [Act.put, List.setIfInBounds_toArray, List.set_cons_zero, List.set_cons_succ, i64_w, i32_w]
          rfl
         refine pure_ (i := 21) (N := some 46) (v := ?_) (a' := ?_) #[true, true, true, true, true, true, true, true, true, true, true, true, true, true, true, true, true, true, true, true, true, true, true, true, true, true, true, false, false, false, false] rfl rfl (any_of HT_.out (by kernel_rfl)) (fun _ _ _ h => h) (Or.inl ⟨by rfl, ?_⟩) ?_ ?_
         rotate_left
         ·intro w'
          go_simp
          with_reducible rfl
         rotate_left
         ·simp only [Act.put, List.setIfInBounds_toArray, List.set_cons_zero, List.set_cons_succ, i64_w, i32_w]
          rfl
         refine one_ (i := 27) (N := some 52) #[true, true, true, true, true, true, true, true, true, true, true, true, true, true, true, true, true, true, true, true, true, true, true, true, true, true, true, true, false, false, false] rfl rfl (one_of HT_.out (by kernel_rfl)) (by decide) (fun K hK => ?_)
         refine goes_ Tryd.func78 (by kernel_rfl) rfl #[.int .i64 (wrap64 (Go.bits .and .u64 (a1_0 / 4294967296) 255))] (by rfl) rfl rfl xM ?_
         with_reducible refine (turnpikeref2_Decimal.calls k (wrap64 (Go.bits .and .u64 (a1_0 / 4294967296) 255)) t766 _ A14.out).mono ?_
         rintro e w23 ⟨rfl, hb⟩
         refine ⟨_, rfl, ?_⟩
         have n0_ := xP BK761.out hb
         have n1_ := Aside0.mk (below_step xG hb)
         clear BK761
         clear HB
         have BK761 := n0_
         have HB := n1_
         clear n0_ n1_
         (try clear hb)
         (try clear hb2)
         (try clear hk)
         (try clear hi)
         refine hK.out _ _ ⟨(blk_cell BK761.out 0).trans rfl, (blk_cell BK761.out 1).trans rfl⟩ (fun hHeld => ?_)
         clear hK K
         refine norm_ (a' := ?_) ?_ ?_
         rotate_left
         ·show Act.put _ (some 52) _ = _
          simp only [Act.put, List.setIfInBounds_toArray, List.set_cons_zero, List.set_cons_succ, i64_w, i32_w]
          rfl
         refine pure_ (i := 28) (N := some 53) (v := ?_) (a' := ?_) #[true, true, true, true, true, true, true, true, true, true, true, true, true, true, true, true, true, true, true, true, true, true, true, true, true, true, true, true, true, false, false] rfl rfl (any_of HT_.out (by kernel_rfl)) (fun _ _ _ h => h) (Or.inl ⟨by rfl, ?_⟩) ?_ ?_
         rotate_left
         ·intro w'
          go_simp
          with_reducible rfl
         rotate_left
         ·simp only [Act.put, List.setIfInBounds_toArray, List.set_cons_zero, List.set_cons_succ, i64_w, i32_w]
          rfl
         refine pure_ (i := 29) (N := some 4) (v := ?_) (a' := ?_) #[true, true, true, true, true, true, true, true, true, true, true, true, true, true, true, true, true, true, true, true, true, true, true, true, true, true, true, true, true, true, false] rfl rfl (any_of HT_.out (by kernel_rfl)) (fun _ _ _ h => h) (Or.inl ⟨by rfl, ?_⟩) ?_ ?_
         rotate_left
         ·intro w'
          go_simp
          with_reducible rfl
         rotate_left
         ·simp only [Act.put, List.setIfInBounds_toArray, List.set_cons_zero, List.set_cons_succ, i64_w, i32_w]
          rfl
         refine pure_ (i := 30) (N := some 5) (v := ?_) (a' := ?_) #[true, true, true, true, true, true, true, true, true, true, true, true, true, true, true, true, true, true, true, true, true, true, true, true, true, true, true, true, true, true, true] rfl rfl (any_of HT_.out (by kernel_rfl)) (fun _ _ _ h => h) (Or.inl ⟨by rfl, ?_⟩) ?_ ?_
         rotate_left
         ·intro w'
          go_simp
          with_reducible rfl
         rotate_left
         ·simp only [Act.put, List.setIfInBounds_toArray, List.set_cons_zero, List.set_cons_succ, i64_w, i32_w]
          rfl
         refine done_ (done_of HT_.out (by kernel_rfl)) ?_
         try go_wp2
         go_ret2
         exact ⟨xE, xG⟩
        ·rw [if_neg c15] at H
         exact absurd H (by simp)
       ·rw [if_neg c13] at H
        exact absurd H (by simp)
      ·rw [if_neg c12] at H
       exact absurd H (by simp)
     ·rw [if_neg c10] at H
      exact absurd H (by simp)
    ·rw [if_neg c9] at H
     exact absurd H (by simp)
   ·rw [if_neg c7] at H
    exact absurd H (by simp)
  ·rw [if_neg c5] at H
   have c5b0 : (a0 == 32) = false := beq_eq_false_iff_ne.mpr c5
   have c5b1 : (a0 != 32) = true := bne_iff_ne.mpr c5
   have H' := Aside0.mk H
   clear H
   go_enter Tryd.func77, Tryd.ntmps77
   go_wp2_with (first | ((with_reducible refine gate_dst (N := 3) rfl ?_); (try (refine gate_guard (by rfl) ?_; dsimp only)); refine box_event ?hg (N := 3) ?hd (cs := #[.int .u64 a1_0, .int .u64 a1_1]) (t := 24) ?hr ?_; (case hd => rfl); (case hg => rfl); (case hr => first | (go_simp; done) | (go_simp; rfl)); intro gb761 hg w24 hbox hb; have n0_ := Aside0.mk (below_step xB hb); have n1_ := Aside0.mk (hbox); have n2_ := xS w hg; have n3_ := xS w hg; clear HB; have HB := n0_; have BK761 := n1_; have GW761 := n2_; have GE761 := n3_; clear n0_ n1_ n2_ n3_; clear hb hbox hg; have hcz25_0 : w24.cell? ⟨gb761, 0, none⟩ = some (.int .u64 a1_0) := (blk_cell BK761.out 0).trans rfl; have hcz25_1 : w24.cell? ⟨gb761, 1, none⟩ = some (.int .u64 a1_1) := (blk_cell BK761.out 1).trans rfl; have hfz25_0 := blk_frozen BK761.out 0; have hfz25_1 := blk_frozen BK761.out 1) | ((with_reducible refine gate_callee (f := 50) rfl ?_); refine goesL_ (some 19) rfl rfl Tryd.func50 (by kernel_rfl) rfl #[.int .i64 a0, .agg #[.int .u64 a1_0, .int .u64 a1_1]] rfl xM ?_; (with_reducible refine (turnpikeref2_Right.calls k a0 a1_0 a1_1 t762 _ A3.out).mono ?_); rintro e w26 ⟨rfl, hb⟩; refine ⟨_, rfl, ?_⟩; have n0_ := xP BK761.out hb; have n1_ := Aside0.mk (below_step xG hb); clear BK761; clear HB; have BK761 := n0_; have HB := n1_; clear n0_ n1_; (try clear hb); (try clear hb2); (try clear hk); (try clear hi)))
   go_loopg [7, 8] k (fun kq v7 v8 w' => ∃ (x7_1 : List Int) (x8_1 : Int), v8 = .int .i64 x8_1 ∧ Aside0 (turnpikeref2_Text.l0 kq x7_1 x8_1 a1_0 a1_1 = some (r1, r2)) ∧ Aside0 (kq ≤ k) ∧ Aside0 (Kd.R (Kd.int .i64) 3 w' w.heap.size (fun _ => True) v7 x7_1) ∧ Aside0 (w'.heap[gb761]? = some (.cells #[.int .u64 a1_0, .int .u64 a1_1] 24 (0, 0))) ∧ Aside0 (Below w.heap.size w w'))
   case atStart => exact ⟨(([] : List Int)), (0), xV, H', ⟨Nat.le_refl _⟩, ⟨by first | exact Kd.R_nil _ _ _ _ _ | exact Kd.N_nil _ _ _ _ _ | exact Kd.V_nil _ _ _ _ _ | exact Kd.Q_nil _ _ _ _ _ | exact Kd.S_nil _ _ _ _ _⟩, ⟨xK BK761.out⟩, ⟨xG⟩⟩
   case round =>
    clear H'
    try clear c1
    try clear p2
    try clear c4
    try clear c4b0
    try clear c4b1
    try clear c5
    try clear c5b0
    try clear c5b1
    try clear p6
    try clear c7
    try clear c7b0
    try clear c7b1
    try clear c7b2
    try clear c9
    try clear c9b0
    try clear c9b1
    try clear c9b2
    try clear c10
    try clear c10b0
    try clear c10b1
    try clear c10b2
    try clear c12
    try clear c12b0
    try clear c12b1
    try clear c12b2
    try clear c13
    try clear c13b0
    try clear c13b1
    try clear c13b2
    try clear c15
    try clear c15b0
    try clear c15b1
    try clear c15b2
    try clear hcz17_0
    try clear hcz17_1
    try clear hcz25_0
    try clear hcz25_1
    try clear hfz17_0
    try clear hfz17_1
    try clear hfz25_0
    try clear hfz25_1
    obtain ⟨x7_1, x8_1, rfl, HA, HK1, HO_7, BK761, HB⟩ := hrel
    cases gk with
    | zero => exact absurd HA.out (by simp [turnpikeref2_Text.l0])
    | succ k1 =>
     have H := HA.out
     clear HA
     simp only [turnpikeref2_Text.l0] at H
     by_cases c27 : x8_1 < 8
     ·rw [if_pos c27] at H
      have c27b0 : decide (x8_1 < 8) = true := decide_eq_true c27
      clear c27
      replace H := Option.bind_eq_some_iff.mp H
      obtain ⟨⟨t767, t768, t769⟩, A280, H⟩ := H
      replace H : (if x7_1.length < 17592186044416 then (turnpikeref2_Text.l0 k1 (x7_1 ++ [wrap64 (t768)]) (wrap64 (x8_1 + 1)) a1_0 a1_1) else (none)) = some (r1, r2) := H
      have A28 := Aside0.mk A280
      clear A280
      by_cases c29 : x7_1.length < 17592186044416
      ·rw [if_pos c29] at H
       have LMc29 := Aside0.mk c29
       clear c29
       obtain ⟨y771, hy771⟩ : ∃ y_ : List Int, y_ = (x7_1 ++ [wrap64 (t768)]) := ⟨_, rfl⟩
       replace H : (turnpikeref2_Text.l0 k1 y771 (wrap64 (x8_1 + 1)) a1_0 a1_1) = some (r1, r2) := by first | (rw [hy771]; with_reducible exact H) | (have H2_ := (Option.bind_some _ _).symm.trans H; rw [hy771]; with_reducible exact H2_) | (have H2_ := (Option.bind_some _ _).symm.trans H; with_reducible exact H2_) | with_reducible exact H | (rw [hy771]; exact H) | exact H
       have Ny771 := Aside0.mk hy771
       clear hy771
       have H' := Aside0.mk H
       clear H
       have hcz30_0 : wr.cell? ⟨gb761, 0, none⟩ = some (.int .u64 a1_0) := (blk_cell BK761.out 0).trans rfl
       have hcz30_1 : wr.cell? ⟨gb761, 1, none⟩ = some (.int .u64 a1_1) := (blk_cell BK761.out 1).trans rfl
       have hfz30_0 := blk_frozen BK761.out 0
       have hfz30_1 := blk_frozen BK761.out 1
       go_wp2_with (first | ((with_reducible refine gate_callee (f := 95) rfl ?_); refine goesL_ (some 62) rfl rfl Tryd.func95 (by kernel_rfl) rfl #[.agg #[.int .u64 a1_0, .int .u64 a1_1], .int .i64 (wrap64 (16 * x8_1)), .int .i64 16] rfl xM ?_; (with_reducible refine (turnpikeref1_Field.calls a1_0 a1_1 (wrap64 (16 * x8_1)) 16 t767 t768 t769 _ A28.out).mono ?_); rintro e w31 ⟨rfl, hb⟩; refine ⟨_, rfl, ?_⟩; have n0_ := Aside0.mk (Kd.R_below (xR HO_7.out) hb); have n1_ := xP BK761.out hb; have n2_ := Aside0.mk (below_step xG hb); clear HO_7; clear BK761; clear HB; have HO_7 := n0_; have BK761 := n1_; have HB := n2_; clear n0_ n1_ n2_; (try clear hb); (try clear hb2); (try clear hk); (try clear hi)) | ((with_reducible refine gate_dst (N := 9) rfl ?_); (try (refine gate_guard (by rfl) ?_; dsimp only)); refine box_event ?hg (N := 9) ?hd (cs := #[.int .u64 0, .int .u64 0]) (t := 24) ?hr ?_; (case hd => rfl); (case hg => rfl); (case hr => first | (go_simp; done) | (go_simp; rfl)); intro gb770 hg w32 hbox hb; have n0_ := Aside0.mk (Kd.R_below (xR HO_7.out) hb); have n1_ := xP BK761.out hb; have n2_ := Aside0.mk (below_step xG hb); have n3_ := Aside0.mk (hbox); have n4_ := xT w hg; have n5_ := xT w hg; have n6_ := Aside0.mk ((xNl BK761.out hg : gb761 ≠ gb770)); have n7_ := Aside0.mk ((xNr BK761.out hg : gb770 ≠ gb761)); clear HO_7; clear BK761; clear HB; have HO_7 := n0_; have BK761 := n1_; have HB := n2_; have BK770 := n3_; have GW770 := n4_; have GE770 := n5_; have NB761_770 := n6_; have NB770_761 := n7_; clear n0_ n1_ n2_ n3_ n4_ n5_ n6_ n7_; clear hb hbox hg; have hnb33 := NB770_761.out; have hnc33 := NB761_770.out; have hcz34_0 : w32.cell? ⟨gb770, 0, none⟩ = some (.int .u64 0) := (blk_cell BK770.out 0).trans rfl; have hcz34_1 : w32.cell? ⟨gb770, 1, none⟩ = some (.int .u64 0) := (blk_cell BK770.out 1).trans rfl; have hfz34_0 := blk_frozen BK770.out 0; have hfz34_1 := blk_frozen BK770.out 1) | ((with_reducible refine gate_builtin (b := .append) (xs := #[.tmp 65, .tmp 69]) rfl ?_); (try (refine gate_guard (by rfl) ?_; dsimp only)); at_builtin; refine Kd.R_append (Kd.int .i64) (w0 := w) w.heap.size rfl (.tmp 65) (.tmp 69) 107 3 (.int .i64 0) 8 rfl Tryd.underlying107 info3 rfl (by decide) (by omega) u7 x7_1 (wrap64 (t768)) [.int .i64 (wrap64 (t768))] (fun _ => True) (fun _ => False) rfl (by first | (go_simp; done) | (go_simp; rfl)) ?aP (fun _ hk => hk.elim) ?aF ?aO ?aB ?aS ?aL ?_; (case aP => exact rfl); (case aB => exact xG); (case aF => exact (fun _ _ => trivial)); (case aO => exact (by (with_reducible repeat (first | apply Kd.R_alloc | apply Kd.R_drewN | apply Kd.R_drew)); exact Kd.R_mono (Kd.R_far (p := ⟨gb770, 1, none⟩) (Kd.R_far (p := ⟨gb770, 0, none⟩) (Kd.R_types HO_7.out BK770.out (by decide)) (fun _ hk => hk.2) (.int .u64 t767)) (fun _ hk => hk.2) (.int .u64 t768)) (fun _ hk => trivial))); (case aS => exact (below_size xG)); (case aL => have := LMc29.out; omega); intro v772 w35 ho hb hg hat; rw [← Ny771.out] at ho; have n0_ := Aside0.mk (blk_grown (g := gb761) (o := .cells #[.int .u64 a1_0, .int .u64 a1_1] 24 (0, 0)) (by (with_reducible repeat (first | refine blk_drewN ?_ _ | refine blk_drew ?_ | refine blk_alloc ?_ _)); refine blk_far ?_ NB761_770.out _; (with_reducible repeat (first | refine blk_drewN ?_ _ | refine blk_drew ?_ | refine blk_alloc ?_ _)); refine blk_far ?_ NB761_770.out _; (with_reducible repeat (first | refine blk_drewN ?_ _ | refine blk_drew ?_ | refine blk_alloc ?_ _)); exact BK761.out) hg (Kd.R_ne HO_7.out BK761.out (by decide))); have n1_ := Aside0.mk (blk_grown (g := gb770) (o := .cells #[.int .u64 t767, .int .u64 t768] 24 (0, 0)) (by (with_reducible repeat (first | refine blk_drewN ?_ _ | refine blk_drew ?_ | refine blk_alloc ?_ _)); refine blk_put (cs := #[.int .u64 t767, .int .u64 0]) ?_ 1 _ rfl; (with_reducible repeat (first | refine blk_drewN ?_ _ | refine blk_drew ?_ | refine blk_alloc ?_ _)); refine blk_put (cs := #[.int .u64 0, .int .u64 0]) ?_ 0 _ rfl; (with_reducible repeat (first | refine blk_drewN ?_ _ | refine blk_drew ?_ | refine blk_alloc ?_ _)); exact BK770.out) hg (Kd.R_ne HO_7.out BK770.out (by decide))); have n2_ := Aside0.mk (hb); have n3_ := Aside0.mk (ho); clear BK761; clear BK770; clear HB; clear HO_7; have BK761 := n0_; have BK770 := n1_; have HB := n2_; have HO773 := n3_; clear n0_ n1_ n2_ n3_; clear ho hb hg hat))
       go_roundg k1
       case measure => have := HK1.out; omega
       case rel => exact ⟨(y771), (wrap64 (x8_1 + 1)), xV, H', ⟨by have := HK1.out; omega⟩, ⟨xR HO773.out⟩, ⟨xK BK761.out⟩, ⟨xG⟩⟩
      ·rw [if_neg c29] at H
       exact absurd H (by simp)
     ·rw [if_neg c27] at H
      have c27b0 : decide (x8_1 < 8) = false := decide_eq_false c27
      clear c27
      have H' := Aside0.mk H
      clear H
      go_wp2
      go_loopg [11, 12, 13] k1 (fun kq v11 v12 v13 w' => ∃ (x11_2 : Int) (x12_2 : Int) (x13_2 : Int), v11 = .int .i64 x11_2 ∧ v12 = .int .i64 x12_2 ∧ v13 = .int .i64 x13_2 ∧ Aside0 (turnpikeref2_Text.l1 kq x7_1 x11_2 x12_2 x13_2 = some (r1, r2)) ∧ Aside0 (kq ≤ k1) ∧ Aside0 (Kd.R (Kd.int .i64) 3 w' w.heap.size (fun _ => True) u7 x7_1) ∧ Aside0 (w'.heap[gb761]? = some (.cells #[.int .u64 a1_0, .int .u64 a1_1] 24 (0, 0))) ∧ Aside0 (Below w.heap.size w w'))
      case atStart => exact ⟨(0), (1), (0), xV, xV, xV, H', ⟨Nat.le_refl _⟩, ⟨xR HO_7.out⟩, ⟨xK BK761.out⟩, ⟨xG⟩⟩
      case round =>
       clear H'
       try clear c1
       try clear c2
       try clear p2
       try clear c3
       try clear c4
       try clear c4b0
       try clear c4b1
       try clear c5
       try clear c5b0
       try clear c5b1
       try clear p6
       try clear c7
       try clear c7b0
       try clear c7b1
       try clear c7b2
       try clear c9
       try clear c9b0
       try clear c9b1
       try clear c9b2
       try clear c10
       try clear c10b0
       try clear c10b1
       try clear c10b2
       try clear c12
       try clear c12b0
       try clear c12b1
       try clear c12b2
       try clear c13
       try clear c13b0
       try clear c13b1
       try clear c13b2
       try clear c15
       try clear c15b0
       try clear c15b1
       try clear c15b2
       try clear c27
       try clear c27b0
       try clear c29
       try clear c33
       try clear hcz17_0
       try clear hcz17_1
       try clear hcz25_0
       try clear hcz25_1
       try clear hcz30_0
       try clear hcz30_1
       try clear hcz34_0
       try clear hcz34_1
       try clear hfz17_0
       try clear hfz17_1
       try clear hfz25_0
       try clear hfz25_1
       try clear hfz30_0
       try clear hfz30_1
       try clear hfz34_0
       try clear hfz34_1
       try clear p2
       try clear p6
       obtain ⟨x11_2, x12_2, x13_2, rfl, rfl, rfl, HA, HK2, HO_7, BK761, HB⟩ := hrel
       cases gk with
       | zero => exact absurd HA.out (by simp [turnpikeref2_Text.l1])
       | succ k2 =>
        have H := HA.out
        clear HA
        simp only [turnpikeref2_Text.l1] at H
        by_cases c36 : x13_2 < 8
        ·rw [if_pos c36] at H
         have c36b0 : decide (x13_2 < 8) = true := decide_eq_true c36
         clear c36
         have H' := Aside0.mk H
         clear H
         go_wp2
         go_loopg [14] k2 (fun kq v14 w' => ∃ (x14_3 : Int), v14 = .int .i64 x14_3 ∧ Aside0 (turnpikeref2_Text.l2 kq x7_1 x11_2 x12_2 x13_2 x14_3 = some (r1, r2)) ∧ Aside0 (kq ≤ k2) ∧ Aside0 (Kd.R (Kd.int .i64) 3 w' w.heap.size (fun _ => True) u7 x7_1) ∧ Aside0 (w'.heap[gb761]? = some (.cells #[.int .u64 a1_0, .int .u64 a1_1] 24 (0, 0))) ∧ Aside0 (Below w.heap.size w w'))
         case atStart => exact ⟨(0), xV, H', ⟨Nat.le_refl _⟩, ⟨xR HO_7.out⟩, ⟨xK BK761.out⟩, ⟨xG⟩⟩
         case round =>
          clear H'
          try clear c1
          try clear c2
          try clear p2
          try clear c3
          try clear c4
          try clear c4b0
          try clear c4b1
          try clear c5
          try clear c5b0
          try clear c5b1
          try clear p6
          try clear c7
          try clear c7b0
          try clear c7b1
          try clear c7b2
          try clear c9
          try clear c9b0
          try clear c9b1
          try clear c9b2
          try clear c10
          try clear c10b0
          try clear c10b1
          try clear c10b2
          try clear c12
          try clear c12b0
          try clear c12b1
          try clear c12b2
          try clear c13
          try clear c13b0
          try clear c13b1
          try clear c13b2
          try clear c15
          try clear c15b0
          try clear c15b1
          try clear c15b2
          try clear c27
          try clear c27b0
          try clear c29
          try clear c33
          try clear c36
          try clear c36b0
          try clear hcz17_0
          try clear hcz17_1
          try clear hcz25_0
          try clear hcz25_1
          try clear hcz30_0
          try clear hcz30_1
          try clear hcz34_0
          try clear hcz34_1
          try clear hfz17_0
          try clear hfz17_1
          try clear hfz25_0
          try clear hfz25_1
          try clear hfz30_0
          try clear hfz30_1
          try clear hfz34_0
          try clear hfz34_1
          try clear p2
          try clear p6
          obtain ⟨x14_3, rfl, HA, HK3, HO_7, BK761, HB⟩ := hrel
          cases gk with
          | zero => exact absurd HA.out (by simp [turnpikeref2_Text.l2])
          | succ k3 =>
           have H := HA.out
           clear HA
           simp only [turnpikeref2_Text.l2] at H
           by_cases c37 : (wrap64 (x13_2 + x14_3)) < 8
           ·rw [if_pos c37] at H
            have c37b0 : decide ((wrap64 (x13_2 + x14_3)) < 8) = true := decide_eq_true c37
            clear c37
            obtain ⟨ji38, hji38⟩ : ∃ j_ : Int, (wrap64 (x13_2 + x14_3)) = j_ := ⟨_, rfl⟩
            replace H : (if 0 ≤ (ji38) then (if (ji38) < (x7_1.length : Int) then (if (rd x7_1 (ji38)) = 0 then (turnpikeref2_Text.l2 k3 x7_1 x11_2 x12_2 x13_2 (wrap64 (x14_3 + 1))) else (if x14_3 > x12_2 then (turnpikeref2_Text.l1 k3 x7_1 x13_2 x14_3 (wrap64 (x13_2 + 1))) else (turnpikeref2_Text.l1 k3 x7_1 x11_2 x12_2 (wrap64 (x13_2 + 1))))) else (none)) else (none)) = some (r1, r2) := by first | (rw [hji38] at H; exact H) | (simp only [hji38] at H ⊢; exact H)
            (try rw [hji38] at c37b0)
            have hji38w : (IntKind.i64.wrap (x13_2 + x14_3)) = ji38 := (i64_w _).trans hji38
            by_cases c39 : 0 ≤ (ji38)
            ·rw [if_pos c39] at H
             have c39b0 : decide (0 ≤ (ji38)) = true := decide_eq_true c39
             clear c39
             by_cases c40 : (ji38) < (x7_1.length : Int)
             ·rw [if_pos c40] at H
              have c40b0 : decide ((ji38) < (x7_1.length : Int)) = true := decide_eq_true c40
              clear c40
              by_cases c41 : (rd x7_1 (ji38)) = 0
              ·rw [if_pos c41] at H
               have c41b0 : ((rd x7_1 (ji38)) == 0) = true := beq_iff_eq.mpr c41
               have c41b1 : ((rd x7_1 (ji38)) != 0) = false := bne_eq_false_iff_eq.mpr c41
               clear c41
               have H' := Aside0.mk H
               clear H
               obtain ⟨Ao42, co42, eo42⟩ := Kd.R_slice HO_7.out
               subst eo42
               have p774 : 0 ≤ ((ji38) : Int) := of_decide_eq_true xA
               have q774 : (ji38) < (x7_1.length : Int) := of_decide_eq_true xA
               obtain ⟨ad774, e774, hx774_0⟩ := Kd.at_int (Kd.R_reads' HO_7.out).2.2 (ji38) p774 q774
               cases e774
               replace p774 := eq_true p774
               replace q774 := eq_true q774
               go_wp2
               go_roundg k3
               case measure => have := HK1.out; have := HK2.out; have := HK3.out; omega
               case rel => exact ⟨(wrap64 (x14_3 + 1)), xV, H', ⟨by have := HK1.out; have := HK2.out; have := HK3.out; omega⟩, ⟨xR HO_7.out⟩, ⟨xK BK761.out⟩, ⟨xG⟩⟩
              ·rw [if_neg c41] at H
               have c41b0 : ((rd x7_1 (ji38)) == 0) = false := beq_eq_false_iff_ne.mpr c41
               have c41b1 : ((rd x7_1 (ji38)) != 0) = true := bne_iff_ne.mpr c41
               by_cases c43 : x14_3 > x12_2
               ·rw [if_pos c43] at H
                have c43b0 : decide (x12_2 < x14_3) = true := decide_eq_true c43
                clear c43
                have H' := Aside0.mk H
                clear H
                obtain ⟨Ao44, co44, eo44⟩ := Kd.R_slice HO_7.out
                subst eo44
                have p774 : 0 ≤ ((ji38) : Int) := of_decide_eq_true xA
                have q774 : (ji38) < (x7_1.length : Int) := of_decide_eq_true xA
                obtain ⟨ad774, e774, hx774_0⟩ := Kd.at_int (Kd.R_reads' HO_7.out).2.2 (ji38) p774 q774
                cases e774
                replace p774 := eq_true p774
                replace q774 := eq_true q774
                go_wp2
                go_roundg k3
                case measure => have := HK1.out; have := HK2.out; have := HK3.out; omega
                case rel => exact ⟨(x13_2), (x14_3), (wrap64 (x13_2 + 1)), xV, xV, xV, H', ⟨by have := HK1.out; have := HK2.out; have := HK3.out; omega⟩, ⟨xR HO_7.out⟩, ⟨xK BK761.out⟩, ⟨xG⟩⟩
               ·rw [if_neg c43] at H
                have c43b0 : decide (x12_2 < x14_3) = false := decide_eq_false c43
                clear c43
                have H' := Aside0.mk H
                clear H
                obtain ⟨Ao45, co45, eo45⟩ := Kd.R_slice HO_7.out
                subst eo45
                have p774 : 0 ≤ ((ji38) : Int) := of_decide_eq_true xA
                have q774 : (ji38) < (x7_1.length : Int) := of_decide_eq_true xA
                obtain ⟨ad774, e774, hx774_0⟩ := Kd.at_int (Kd.R_reads' HO_7.out).2.2 (ji38) p774 q774
                cases e774
                replace p774 := eq_true p774
                replace q774 := eq_true q774
                go_wp2
                go_roundg k3
                case measure => have := HK1.out; have := HK2.out; have := HK3.out; omega
                case rel => exact ⟨(x11_2), (x12_2), (wrap64 (x13_2 + 1)), xV, xV, xV, H', ⟨by have := HK1.out; have := HK2.out; have := HK3.out; omega⟩, ⟨xR HO_7.out⟩, ⟨xK BK761.out⟩, ⟨xG⟩⟩
             ·rw [if_neg c40] at H
              exact absurd H (by simp)
            ·rw [if_neg c39] at H
             exact absurd H (by simp)
           ·rw [if_neg c37] at H
            have c37b0 : decide ((wrap64 (x13_2 + x14_3)) < 8) = false := decide_eq_false c37
            clear c37
            by_cases c46 : x14_3 > x12_2
            ·rw [if_pos c46] at H
             have c46b0 : decide (x12_2 < x14_3) = true := decide_eq_true c46
             clear c46
             have H' := Aside0.mk H
             clear H
             go_wp2
             go_roundg k3
             case measure => have := HK1.out; have := HK2.out; have := HK3.out; omega
             case rel => exact ⟨(x13_2), (x14_3), (wrap64 (x13_2 + 1)), xV, xV, xV, H', ⟨by have := HK1.out; have := HK2.out; have := HK3.out; omega⟩, ⟨xR HO_7.out⟩, ⟨xK BK761.out⟩, ⟨xG⟩⟩
            ·rw [if_neg c46] at H
             have c46b0 : decide (x12_2 < x14_3) = false := decide_eq_false c46
             clear c46
             have H' := Aside0.mk H
             clear H
             go_wp2
             go_roundg k3
             case measure => have := HK1.out; have := HK2.out; have := HK3.out; omega
             case rel => exact ⟨(x11_2), (x12_2), (wrap64 (x13_2 + 1)), xV, xV, xV, H', ⟨by have := HK1.out; have := HK2.out; have := HK3.out; omega⟩, ⟨xR HO_7.out⟩, ⟨xK BK761.out⟩, ⟨xG⟩⟩
        ·rw [if_neg c36] at H
         have c36b0 : decide (x13_2 < 8) = false := decide_eq_false c36
         clear c36
         have H' := Aside0.mk H
         clear H
         go_wp2
         go_loopg [15, 16] k2 (fun kq v15 v16 w' => ∃ (x15_3 : ByteArray) (x16_3 : Int), v15 = .string x15_3 ∧ v16 = .int .i64 x16_3 ∧ Aside0 (turnpikeref2_Text.l3 kq x7_1 x11_2 x12_2 x15_3 x16_3 = some (r1, r2)) ∧ Aside0 (kq ≤ k2) ∧ Aside0 (Kd.R (Kd.int .i64) 3 w' w.heap.size (fun _ => True) u7 x7_1) ∧ Aside0 (w'.heap[gb761]? = some (.cells #[.int .u64 a1_0, .int .u64 a1_1] 24 (0, 0))) ∧ Aside0 (Below w.heap.size w w'))
         case atStart => exact ⟨((⟨#[]⟩ : ByteArray)), (0), xV, xV, H', ⟨Nat.le_refl _⟩, ⟨xR HO_7.out⟩, ⟨xK BK761.out⟩, ⟨xG⟩⟩
         case round =>
          clear H'
          try clear c1
          try clear c2
          try clear p2
          try clear c3
          try clear c4
          try clear c4b0
          try clear c4b1
          try clear c5
          try clear c5b0
          try clear c5b1
          try clear p6
          try clear c7
          try clear c7b0
          try clear c7b1
          try clear c7b2
          try clear p7
          try clear q7
          try clear hx7
          try clear c9
          try clear c9b0
          try clear c9b1
          try clear c9b2
          try clear c10
          try clear c10b0
          try clear c10b1
          try clear c10b2
          try clear c12
          try clear c12b0
          try clear c12b1
          try clear c12b2
          try clear c13
          try clear c13b0
          try clear c13b1
          try clear c13b2
          try clear c15
          try clear c15b0
          try clear c15b1
          try clear c15b2
          try clear c27
          try clear c27b0
          try clear c29
          try clear c33
          try clear c36
          try clear c36b0
          try clear c37
          try clear c37b0
          try clear c39
          try clear c39b0
          try clear c40
          try clear c40b0
          try clear c41
          try clear c41b0
          try clear c41b1
          try clear c43
          try clear c43b0
          try clear c46
          try clear c46b0
          try clear hcz17_0
          try clear hcz17_1
          try clear hcz25_0
          try clear hcz25_1
          try clear hcz30_0
          try clear hcz30_1
          try clear hcz34_0
          try clear hcz34_1
          try clear hfz17_0
          try clear hfz17_1
          try clear hfz25_0
          try clear hfz25_1
          try clear hfz30_0
          try clear hfz30_1
          try clear hfz34_0
          try clear hfz34_1
          try clear hx774_0
          try clear p2
          try clear p6
          try clear p774
          try clear q774
          obtain ⟨x15_3, x16_3, rfl, rfl, HA, HK3, HO_7, BK761, HB⟩ := hrel
          cases gk with
          | zero => exact absurd HA.out (by simp [turnpikeref2_Text.l3])
          | succ k3 =>
           have H := HA.out
           clear HA
           simp only [turnpikeref2_Text.l3] at H
           by_cases c47 : x16_3 < 8
           ·rw [if_pos c47] at H
            have c47b0 : decide (x16_3 < 8) = true := decide_eq_true c47
            clear c47
            have HC48 := Aside0.mk H
            clear H
            go_upto_region 25 with (fail)
            go_cut [105] (fun v105 wc => ∃ (kq : Nat) (x105_47 : Bool), v105 = .bool x105_47 ∧ Aside0 (turnpikeref2_Text.j4 kq x7_1 x11_2 x12_2 x15_3 x16_3 x105_47 = some (r1, r2)) ∧ Aside0 (kq ≤ k3) ∧ Aside0 (Kd.R (Kd.int .i64) 3 wc w.heap.size (fun _ => True) u7 x7_1) ∧ Aside0 (wc.heap[gb761]? = some (.cells #[.int .u64 a1_0, .int .u64 a1_1] 24 (0, 0))) ∧ Aside0 (Below w.heap.size w wc))
            case first =>
             have H := HC48.out
             clear HC48
             by_cases c49 : x12_2 > 1
             ·rw [if_pos c49] at H
              have c49b0 : decide (1 < x12_2) = true := decide_eq_true c49
              clear c49
              (first | rw [c49b0] | (simp only [i64_w, i32_w]; rw [c49b0]) | skip)
              have H' := Aside0.mk H
              clear H
              go_wp2
              go_meet
              case rel => exact ⟨_, ((x16_3 == x11_2)), xV, H', ⟨by have := HK1.out; have := HK2.out; have := HK3.out; first | omega | exact Nat.le_refl _⟩, ⟨xR HO_7.out⟩, ⟨xK BK761.out⟩, ⟨xG⟩⟩
             ·rw [if_neg c49] at H
              have c49b0 : decide (1 < x12_2) = false := decide_eq_false c49
              clear c49
              (first | rw [c49b0] | (simp only [i64_w, i32_w]; rw [c49b0]) | skip)
              have H' := Aside0.mk H
              clear H
              go_wp2
              go_meet
              case rel => exact ⟨_, (false), xV, H', ⟨by have := HK1.out; have := HK2.out; have := HK3.out; first | omega | exact Nat.le_refl _⟩, ⟨xR HO_7.out⟩, ⟨xK BK761.out⟩, ⟨xG⟩⟩
            case rest =>
             clear HC48
             try clear c1
             try clear c2
             try clear p2
             try clear c3
             try clear c4
             try clear c4b0
             try clear c4b1
             try clear c5
             try clear c5b0
             try clear c5b1
             try clear p6
             try clear c7
             try clear c7b0
             try clear c7b1
             try clear c7b2
             try clear p7
             try clear q7
             try clear hx7
             try clear c9
             try clear c9b0
             try clear c9b1
             try clear c9b2
             try clear c10
             try clear c10b0
             try clear c10b1
             try clear c10b2
             try clear c12
             try clear c12b0
             try clear c12b1
             try clear c12b2
             try clear c13
             try clear c13b0
             try clear c13b1
             try clear c13b2
             try clear c15
             try clear c15b0
             try clear c15b1
             try clear c15b2
             try clear c27
             try clear c27b0
             try clear c29
             try clear c33
             try clear c36
             try clear c36b0
             try clear c37
             try clear c37b0
             try clear c39
             try clear c39b0
             try clear c40
             try clear c40b0
             try clear c41
             try clear c41b0
             try clear c41b1
             try clear c43
             try clear c43b0
             try clear c46
             try clear c46b0
             try clear c47
             try clear c47b0
             try clear c49
             try clear c49b0
             try clear hcz17_0
             try clear hcz17_1
             try clear hcz25_0
             try clear hcz25_1
             try clear hcz30_0
             try clear hcz30_1
             try clear hcz34_0
             try clear hcz34_1
             try clear hfz17_0
             try clear hfz17_1
             try clear hfz25_0
             try clear hfz25_1
             try clear hfz30_0
             try clear hfz30_1
             try clear hfz34_0
             try clear hfz34_1
             try clear hx774_0
             try clear p2
             try clear p6
             try clear p7
             try clear p774
             try clear q7
             try clear q774
             obtain ⟨kq, x105_47, rfl, HA, HJ47, HO_7, BK761, HB⟩ := hcut
             cases kq with
             | zero => exact absurd HA.out (by simp [turnpikeref2_Text.j4])
             | succ kj47 =>
              have H := HA.out
              clear HA
              simp only [turnpikeref2_Text.j4] at H
              by_cases c50 : x105_47 = true
              ·subst c50
               have H1 : (if x15_3.size + 2 ≤ 9223372036854775807 then (turnpikeref2_Text.l3 kj47 x7_1 x11_2 x12_2 (x15_3 ++ (⟨#[58, 58]⟩ : ByteArray)) (wrap64 ((wrap64 ((wrap64 (x16_3 + x12_2)) - 1)) + 1))) else (none)) = some (r1, r2) := by rw [if_pos rfl] at H; exact H
               clear H
               have H := H1
               clear H1
               by_cases c51 : x15_3.size + 2 ≤ 9223372036854775807
               ·rw [if_pos c51] at H
                have c51b0 := eq_true c51
                have c51b1 : decide (x15_3.size + 2 ≤ 9223372036854775807) = true := decide_eq_true c51
                try have c51b2 : (9223372036854775807 < x15_3.size + 2) = False := eq_false (Nat.not_lt.2 c51)
                have H' := Aside0.mk H
                clear H
                go_wp2
                go_roundg kj47
                case measure => have := HK1.out; have := HK2.out; have := HK3.out; have := HJ47.out; omega
                case rel => exact ⟨(x15_3 ++ (⟨#[58, 58]⟩ : ByteArray)), (wrap64 ((wrap64 ((wrap64 (x16_3 + x12_2)) - 1)) + 1)), xV, xV, H', ⟨by have := HK1.out; have := HK2.out; have := HK3.out; have := HJ47.out; omega⟩, ⟨xR HO_7.out⟩, ⟨xK BK761.out⟩, ⟨xG⟩⟩
               ·rw [if_neg c51] at H
                exact absurd H (by simp)
              ·replace c50 := Bool.eq_false_iff.mpr c50
               subst c50
               have H1 : (if x15_3.toList = ([] : List UInt8) then (if 0 ≤ x16_3 then (if x16_3 < (x7_1.length : Int) then ((turnpikeref2_hex.f kj47 (rd x7_1 x16_3)).bind fun t776 => (if x15_3.size + t776.size ≤ 9223372036854775807 then (turnpikeref2_Text.l3 kj47 x7_1 x11_2 x12_2 (x15_3 ++ t776) (wrap64 (x16_3 + 1))) else (none))) else (none)) else (none)) else (if 0 ≤ (wrap64 ((x15_3.size : Int) - 1)) then (if (wrap64 ((x15_3.size : Int) - 1)) < (x15_3.size : Int) then (if (bt x15_3 (wrap64 ((x15_3.size : Int) - 1))) = 58 then (if 0 ≤ x16_3 then (if x16_3 < (x7_1.length : Int) then ((turnpikeref2_hex.f kj47 (rd x7_1 x16_3)).bind fun t778 => (if x15_3.size + t778.size ≤ 9223372036854775807 then (turnpikeref2_Text.l3 kj47 x7_1 x11_2 x12_2 (x15_3 ++ t778) (wrap64 (x16_3 + 1))) else (none))) else (none)) else (none)) else (if x15_3.size + 1 ≤ 9223372036854775807 then (if 0 ≤ x16_3 then (if x16_3 < (x7_1.length : Int) then ((turnpikeref2_hex.f kj47 (rd x7_1 x16_3)).bind fun t780 => (if (x15_3 ++ (⟨#[58]⟩ : ByteArray)).size + t780.size ≤ 9223372036854775807 then (turnpikeref2_Text.l3 kj47 x7_1 x11_2 x12_2 ((x15_3 ++ (⟨#[58]⟩ : ByteArray)) ++ t780) (wrap64 (x16_3 + 1))) else (none))) else (none)) else (none)) else (none))) else (none)) else (none))) = some (r1, r2) := by rw [if_neg (show ¬ (false = true) by decide)] at H; exact H
               clear H
               have H := H1
               clear H1
               by_cases c52 : x15_3.toList = ([] : List UInt8)
               ·rw [if_pos c52] at H
                have c52b0 : (x15_3.toList == ([] : List UInt8)) = true := beq_iff_eq.mpr c52
                have c52b1 : (x15_3.toList != ([] : List UInt8)) = false := bne_eq_false_iff_eq.mpr c52
                clear c52
                by_cases c53 : 0 ≤ x16_3
                ·rw [if_pos c53] at H
                 have c53b0 : decide (0 ≤ x16_3) = true := decide_eq_true c53
                 clear c53
                 by_cases c54 : x16_3 < (x7_1.length : Int)
                 ·rw [if_pos c54] at H
                  have c54b0 : decide (x16_3 < (x7_1.length : Int)) = true := decide_eq_true c54
                  clear c54
                  replace H := Option.bind_eq_some_iff.mp H
                  obtain ⟨t776, A550, H⟩ := H
                  replace H : (if x15_3.size + t776.size ≤ 9223372036854775807 then (turnpikeref2_Text.l3 kj47 x7_1 x11_2 x12_2 (x15_3 ++ t776) (wrap64 (x16_3 + 1))) else (none)) = some (r1, r2) := H
                  have A55 := Aside0.mk A550
                  clear A550
                  by_cases c56 : x15_3.size + t776.size ≤ 9223372036854775807
                  ·rw [if_pos c56] at H
                   have c56b0 := eq_true c56
                   have c56b1 : decide (x15_3.size + t776.size ≤ 9223372036854775807) = true := decide_eq_true c56
                   try have c56b2 : (9223372036854775807 < x15_3.size + t776.size) = False := eq_false (Nat.not_lt.2 c56)
                   have H' := Aside0.mk H
                   clear H
                   obtain ⟨Ao57, co57, eo57⟩ := Kd.R_slice HO_7.out
                   subst eo57
                   have p775 : 0 ≤ (x16_3 : Int) := of_decide_eq_true xA
                   have q775 : x16_3 < (x7_1.length : Int) := of_decide_eq_true xA
                   obtain ⟨ad775, e775, hx775_0⟩ := Kd.at_int (Kd.R_reads' HO_7.out).2.2 x16_3 p775 q775
                   cases e775
                   replace p775 := eq_true p775
                   replace q775 := eq_true q775
                   go_wp2_with (first | ((with_reducible refine gate_callee (f := 96) rfl ?_); refine goesL_ (some 129) rfl rfl Tryd.func96 (by kernel_rfl) rfl #[.int .i64 (rd x7_1 x16_3)] rfl xM ?_; (with_reducible refine (turnpikeref2_hex.calls kj47 (rd x7_1 x16_3) t776 _ A55.out).mono ?_); rintro e w' ⟨rfl, ⟨nd, rfl⟩⟩; refine ⟨_, rfl, ?_⟩))
                   go_roundg kj47
                   case measure => have := HK1.out; have := HK2.out; have := HK3.out; have := HJ47.out; omega
                   case rel => exact ⟨(x15_3 ++ t776), (wrap64 (x16_3 + 1)), xV, xV, H', ⟨by have := HK1.out; have := HK2.out; have := HK3.out; have := HJ47.out; omega⟩, ⟨xR HO_7.out⟩, ⟨xK BK761.out⟩, ⟨xG⟩⟩
                  ·rw [if_neg c56] at H
                   exact absurd H (by simp)
                 ·rw [if_neg c54] at H
                  exact absurd H (by simp)
                ·rw [if_neg c53] at H
                 exact absurd H (by simp)
               ·rw [if_neg c52] at H
                have c52b0 : (x15_3.toList == ([] : List UInt8)) = false := beq_eq_false_iff_ne.mpr c52
                have c52b1 : (x15_3.toList != ([] : List UInt8)) = true := bne_iff_ne.mpr c52
                obtain ⟨ji58, hji58⟩ : ∃ j_ : Int, (wrap64 ((x15_3.size : Int) - 1)) = j_ := ⟨_, rfl⟩
                replace H : (if 0 ≤ (ji58) then (if (ji58) < (x15_3.size : Int) then (if (bt x15_3 (ji58)) = 58 then (if 0 ≤ x16_3 then (if x16_3 < (x7_1.length : Int) then ((turnpikeref2_hex.f kj47 (rd x7_1 x16_3)).bind fun t778 => (if x15_3.size + t778.size ≤ 9223372036854775807 then (turnpikeref2_Text.l3 kj47 x7_1 x11_2 x12_2 (x15_3 ++ t778) (wrap64 (x16_3 + 1))) else (none))) else (none)) else (none)) else (if x15_3.size + 1 ≤ 9223372036854775807 then (if 0 ≤ x16_3 then (if x16_3 < (x7_1.length : Int) then ((turnpikeref2_hex.f kj47 (rd x7_1 x16_3)).bind fun t780 => (if (x15_3 ++ (⟨#[58]⟩ : ByteArray)).size + t780.size ≤ 9223372036854775807 then (turnpikeref2_Text.l3 kj47 x7_1 x11_2 x12_2 ((x15_3 ++ (⟨#[58]⟩ : ByteArray)) ++ t780) (wrap64 (x16_3 + 1))) else (none))) else (none)) else (none)) else (none))) else (none)) else (none)) = some (r1, r2) := by first | (rw [hji58] at H; exact H) | (simp only [hji58] at H ⊢; exact H)
                have hji58w : (IntKind.i64.wrap ((x15_3.size : Int) - 1)) = ji58 := (i64_w _).trans hji58
                by_cases c59 : 0 ≤ (ji58)
                ·rw [if_pos c59] at H
                 have c59b0 : decide (0 ≤ (ji58)) = true := decide_eq_true c59
                 clear c59
                 by_cases c60 : (ji58) < (x15_3.size : Int)
                 ·rw [if_pos c60] at H
                  have c60b0 : decide ((ji58) < (x15_3.size : Int)) = true := decide_eq_true c60
                  clear c60
                  by_cases c62 : (bt x15_3 (ji58)) = 58
                  ·rw [if_pos c62] at H
                   have c62b0 : ((bt x15_3 (ji58)) == 58) = true := beq_iff_eq.mpr c62
                   have c62b1 : ((bt x15_3 (ji58)) != 58) = false := bne_eq_false_iff_eq.mpr c62
                   clear c62
                   by_cases c63 : 0 ≤ x16_3
                   ·rw [if_pos c63] at H
                    have c63b0 : decide (0 ≤ x16_3) = true := decide_eq_true c63
                    clear c63
                    by_cases c64 : x16_3 < (x7_1.length : Int)
                    ·rw [if_pos c64] at H
                     have c64b0 : decide (x16_3 < (x7_1.length : Int)) = true := decide_eq_true c64
                     clear c64
                     replace H := Option.bind_eq_some_iff.mp H
                     obtain ⟨t778, A650, H⟩ := H
                     replace H : (if x15_3.size + t778.size ≤ 9223372036854775807 then (turnpikeref2_Text.l3 kj47 x7_1 x11_2 x12_2 (x15_3 ++ t778) (wrap64 (x16_3 + 1))) else (none)) = some (r1, r2) := H
                     have A65 := Aside0.mk A650
                     clear A650
                     by_cases c66 : x15_3.size + t778.size ≤ 9223372036854775807
                     ·rw [if_pos c66] at H
                      have c66b0 := eq_true c66
                      have c66b1 : decide (x15_3.size + t778.size ≤ 9223372036854775807) = true := decide_eq_true c66
                      try have c66b2 : (9223372036854775807 < x15_3.size + t778.size) = False := eq_false (Nat.not_lt.2 c66)
                      have H' := Aside0.mk H
                      clear H
                      have p61 : 0 ≤ ((ji58) : Int) := of_decide_eq_true xA
                      have q61 : (ji58) < (x15_3.size : Int) := of_decide_eq_true xA
                      have hx61 := bt_at x15_3 (ji58)
                      replace p61 := eq_true p61
                      replace q61 := eq_true q61
                      obtain ⟨Ao67, co67, eo67⟩ := Kd.R_slice HO_7.out
                      subst eo67
                      have p777 : 0 ≤ (x16_3 : Int) := of_decide_eq_true xA
                      have q777 : x16_3 < (x7_1.length : Int) := of_decide_eq_true xA
                      obtain ⟨ad777, e777, hx777_0⟩ := Kd.at_int (Kd.R_reads' HO_7.out).2.2 x16_3 p777 q777
                      cases e777
                      replace p777 := eq_true p777
                      replace q777 := eq_true q777
                      go_wp2_with (first | ((with_reducible refine gate_callee (f := 96) rfl ?_); refine goesL_ (some 129) rfl rfl Tryd.func96 (by kernel_rfl) rfl #[.int .i64 (rd x7_1 x16_3)] rfl xM ?_; (with_reducible refine (turnpikeref2_hex.calls kj47 (rd x7_1 x16_3) t778 _ A65.out).mono ?_); rintro e w' ⟨rfl, ⟨nd, rfl⟩⟩; refine ⟨_, rfl, ?_⟩))
                      go_roundg kj47
                      case measure => have := HK1.out; have := HK2.out; have := HK3.out; have := HJ47.out; omega
                      case rel => exact ⟨(x15_3 ++ t778), (wrap64 (x16_3 + 1)), xV, xV, H', ⟨by have := HK1.out; have := HK2.out; have := HK3.out; have := HJ47.out; omega⟩, ⟨xR HO_7.out⟩, ⟨xK BK761.out⟩, ⟨xG⟩⟩
                     ·rw [if_neg c66] at H
                      exact absurd H (by simp)
                    ·rw [if_neg c64] at H
                     exact absurd H (by simp)
                   ·rw [if_neg c63] at H
                    exact absurd H (by simp)
                  ·rw [if_neg c62] at H
                   have c62b0 : ((bt x15_3 (ji58)) == 58) = false := beq_eq_false_iff_ne.mpr c62
                   have c62b1 : ((bt x15_3 (ji58)) != 58) = true := bne_iff_ne.mpr c62
                   by_cases c68 : x15_3.size + 1 ≤ 9223372036854775807
                   ·rw [if_pos c68] at H
                    have c68b0 := eq_true c68
                    have c68b1 : decide (x15_3.size + 1 ≤ 9223372036854775807) = true := decide_eq_true c68
                    try have c68b2 : (9223372036854775807 < x15_3.size + 1) = False := eq_false (Nat.not_lt.2 c68)
                    by_cases c69 : 0 ≤ x16_3
                    ·rw [if_pos c69] at H
                     have c69b0 : decide (0 ≤ x16_3) = true := decide_eq_true c69
                     clear c69
                     by_cases c70 : x16_3 < (x7_1.length : Int)
                     ·rw [if_pos c70] at H
                      have c70b0 : decide (x16_3 < (x7_1.length : Int)) = true := decide_eq_true c70
                      clear c70
                      replace H := Option.bind_eq_some_iff.mp H
                      obtain ⟨t780, A710, H⟩ := H
                      replace H : (if (x15_3 ++ (⟨#[58]⟩ : ByteArray)).size + t780.size ≤ 9223372036854775807 then (turnpikeref2_Text.l3 kj47 x7_1 x11_2 x12_2 ((x15_3 ++ (⟨#[58]⟩ : ByteArray)) ++ t780) (wrap64 (x16_3 + 1))) else (none)) = some (r1, r2) := H
                      have A71 := Aside0.mk A710
                      clear A710
                      by_cases c72 : (x15_3 ++ (⟨#[58]⟩ : ByteArray)).size + t780.size ≤ 9223372036854775807
                      ·rw [if_pos c72] at H
                       have c72b0 := eq_true c72
                       have c72b1 : decide ((x15_3 ++ (⟨#[58]⟩ : ByteArray)).size + t780.size ≤ 9223372036854775807) = true := decide_eq_true c72
                       try have c72s : (9223372036854775807 < x15_3.size + 1 + t780.size) = False := eq_false (Nat.not_lt.2 (by have h_ := c72; simp only [ByteArray.size_append] at h_; exact h_))
                       try have c72b2 : (9223372036854775807 < (x15_3 ++ (⟨#[58]⟩ : ByteArray)).size + t780.size) = False := eq_false (Nat.not_lt.2 c72)
                       have H' := Aside0.mk H
                       clear H
                       have p61 : 0 ≤ ((ji58) : Int) := of_decide_eq_true xA
                       have q61 : (ji58) < (x15_3.size : Int) := of_decide_eq_true xA
                       have hx61 := bt_at x15_3 (ji58)
                       replace p61 := eq_true p61
                       replace q61 := eq_true q61
                       obtain ⟨Ao73, co73, eo73⟩ := Kd.R_slice HO_7.out
                       subst eo73
                       have p779 : 0 ≤ (x16_3 : Int) := of_decide_eq_true xA
                       have q779 : x16_3 < (x7_1.length : Int) := of_decide_eq_true xA
                       obtain ⟨ad779, e779, hx779_0⟩ := Kd.at_int (Kd.R_reads' HO_7.out).2.2 x16_3 p779 q779
                       cases e779
                       replace p779 := eq_true p779
                       replace q779 := eq_true q779
                       go_wp2_with (first | ((with_reducible refine gate_callee (f := 96) rfl ?_); refine goesL_ (some 129) rfl rfl Tryd.func96 (by kernel_rfl) rfl #[.int .i64 (rd x7_1 x16_3)] rfl xM ?_; (with_reducible refine (turnpikeref2_hex.calls kj47 (rd x7_1 x16_3) t780 _ A71.out).mono ?_); rintro e w' ⟨rfl, ⟨nd, rfl⟩⟩; refine ⟨_, rfl, ?_⟩))
                       go_roundg kj47
                       case measure => have := HK1.out; have := HK2.out; have := HK3.out; have := HJ47.out; omega
                       case rel => exact ⟨((x15_3 ++ (⟨#[58]⟩ : ByteArray)) ++ t780), (wrap64 (x16_3 + 1)), xV, xV, H', ⟨by have := HK1.out; have := HK2.out; have := HK3.out; have := HJ47.out; omega⟩, ⟨xR HO_7.out⟩, ⟨xK BK761.out⟩, ⟨xG⟩⟩
                      ·rw [if_neg c72] at H
                       exact absurd H (by simp)
                     ·rw [if_neg c70] at H
                      exact absurd H (by simp)
                    ·rw [if_neg c69] at H
                     exact absurd H (by simp)
                   ·rw [if_neg c68] at H
                    exact absurd H (by simp)
                 ·rw [if_neg c60] at H
                  exact absurd H (by simp)
                ·rw [if_neg c59] at H
                 exact absurd H (by simp)
           ·rw [if_neg c47] at H
            have c47b0 : decide (x16_3 < 8) = false := decide_eq_false c47
            clear c47
            simp only [Option.some.injEq, Prod.mk.injEq] at H
            obtain ⟨rfl, rfl⟩ := H
            go_wp2
            go_ret2
            exact ⟨xE, xG⟩
 ·rw [if_neg c4] at H
  have c4b0 : (t762 == 0) = false := beq_eq_false_iff_ne.mpr c4
  have c4b1 : (t762 != 0) = true := bne_iff_ne.mpr c4
  simp only [Option.some.injEq, Prod.mk.injEq] at H
  obtain ⟨rfl, rfl⟩ := H
  go_enter Tryd.func77, Tryd.ntmps77
  go_wp2_with (first | ((with_reducible refine gate_dst (N := 3) rfl ?_); (try (refine gate_guard (by rfl) ?_; dsimp only)); refine box_event ?hg (N := 3) ?hd (cs := #[.int .u64 a1_0, .int .u64 a1_1]) (t := 24) ?hr ?_; (case hd => rfl); (case hg => rfl); (case hr => first | (go_simp; done) | (go_simp; rfl)); intro gb761 hg w74 hbox hb; have n0_ := Aside0.mk (below_step xB hb); have n1_ := Aside0.mk (hbox); have n2_ := xS w hg; have n3_ := xS w hg; clear HB; have HB := n0_; have BK761 := n1_; have GW761 := n2_; have GE761 := n3_; clear n0_ n1_ n2_ n3_; clear hb hbox hg; have hcz75_0 : w74.cell? ⟨gb761, 0, none⟩ = some (.int .u64 a1_0) := (blk_cell BK761.out 0).trans rfl; have hcz75_1 : w74.cell? ⟨gb761, 1, none⟩ = some (.int .u64 a1_1) := (blk_cell BK761.out 1).trans rfl; have hfz75_0 := blk_frozen BK761.out 0; have hfz75_1 := blk_frozen BK761.out 1) | ((with_reducible refine gate_callee (f := 50) rfl ?_); refine goesL_ (some 19) rfl rfl Tryd.func50 (by kernel_rfl) rfl #[.int .i64 a0, .agg #[.int .u64 a1_0, .int .u64 a1_1]] rfl xM ?_; (with_reducible refine (turnpikeref2_Right.calls k a0 a1_0 a1_1 t762 _ A3.out).mono ?_); rintro e w76 ⟨rfl, hb⟩; refine ⟨_, rfl, ?_⟩; have n0_ := xP BK761.out hb; have n1_ := Aside0.mk (below_step xG hb); clear BK761; clear HB; have BK761 := n0_; have HB := n1_; clear n0_ n1_; (try clear hb); (try clear hb2); (try clear hk); (try clear hi)))
  go_ret2
  exact ⟨xE, xG⟩
def turnpikeref3_Text.f (k : Nat) (a0 : Int) (a1_0 : Int) (a1_1 : Int) (a1_2 : Int) : Option (ByteArray × Int) := (turnpikeref3_Check.f k a0 a1_0 a1_1 a1_2).bind fun t782 => (if t782 = 0 then ((turnpikeref2_Text.f k a0 a1_0 a1_1).bind fun bt783 => (if bt783.1.size + 1 ≤ 9223372036854775807 then ((turnpikeref2_Decimal.f k a1_2).bind fun t785 => (if (bt783.1 ++ (⟨#[47]⟩ : ByteArray)).size + t785.size ≤ 9223372036854775807 then (some ((bt783.1 ++ (⟨#[47]⟩ : ByteArray)) ++ t785, 0)) else (none))) else (none))) else (some ((⟨#[]⟩ : ByteArray), t782)))
theorem turnpikeref3_Text.mono : ∀ a0 a1 a2 a3 k, LeO (turnpikeref3_Text.f k a0 a1 a2 a3) (turnpikeref3_Text.f (k + 1) a0 a1 a2 a3) := by
 intro a0 a1 a2 a3 k
 unfold turnpikeref3_Text.f
 have m0 := @turnpikeref2_Decimal.mono
 have m1 := @turnpikeref2_Text.mono
 have m2 := @turnpikeref3_Check.mono
 exact xO
set_option maxHeartbeats 8000000 in
set_option maxRecDepth 100000 in
theorem turnpikeref3_Text.calls (k : Nat) (a0 : Int) (a1_0 : Int) (a1_1 : Int) (a1_2 : Int) (r1 : ByteArray) (r2 : Int) (w : World) (h : turnpikeref3_Text.f k a0 a1_0 a1_1 a1_2 = some (r1, r2)) :
  Calls Tryd.prog 47 #[.int .i64 a0, .agg #[.int .u64 a1_0, .int .u64 a1_1, .int .i64 a1_2]] w fun e w' => e = .returned (.tuple #[.string r1, .int .i64 r2]) ∧ Below w.heap.size w w' := by
 have hu28 := Tryd.underlying28
 have hu24 := Tryd.underlying24
 have HB := Aside0.mk (Below.refl w.heap.size w)
 have H : ((turnpikeref3_Check.f k a0 a1_0 a1_1 a1_2).bind fun t782 => (if t782 = 0 then ((turnpikeref2_Text.f k a0 a1_0 a1_1).bind fun bt783 => (if bt783.1.size + 1 ≤ 9223372036854775807 then ((turnpikeref2_Decimal.f k a1_2).bind fun t785 => (if (bt783.1 ++ (⟨#[47]⟩ : ByteArray)).size + t785.size ≤ 9223372036854775807 then (some ((bt783.1 ++ (⟨#[47]⟩ : ByteArray)) ++ t785, 0)) else (none))) else (none))) else (some ((⟨#[]⟩ : ByteArray), t782)))) = some (r1, r2) := h
 clear h
 replace H := Option.bind_eq_some_iff.mp H
 obtain ⟨t782, A30, H⟩ := H
 replace H : (if t782 = 0 then ((turnpikeref2_Text.f k a0 a1_0 a1_1).bind fun bt783 => (if bt783.1.size + 1 ≤ 9223372036854775807 then ((turnpikeref2_Decimal.f k a1_2).bind fun t785 => (if (bt783.1 ++ (⟨#[47]⟩ : ByteArray)).size + t785.size ≤ 9223372036854775807 then (some ((bt783.1 ++ (⟨#[47]⟩ : ByteArray)) ++ t785, 0)) else (none))) else (none))) else (some ((⟨#[]⟩ : ByteArray), t782))) = some (r1, r2) := H
 have A3 := Aside0.mk A30
 clear A30
 by_cases c4 : t782 = 0
 ·rw [if_pos c4] at H
  have c4b0 : (t782 == 0) = true := beq_iff_eq.mpr c4
  have c4b1 : (t782 != 0) = false := bne_eq_false_iff_eq.mpr c4
  clear c4
  replace H := Option.bind_eq_some_iff.mp H
  obtain ⟨⟨t783, t784⟩, A50, H⟩ := H
  replace H : (if t783.size + 1 ≤ 9223372036854775807 then ((turnpikeref2_Decimal.f k a1_2).bind fun t785 => (if (t783 ++ (⟨#[47]⟩ : ByteArray)).size + t785.size ≤ 9223372036854775807 then (some ((t783 ++ (⟨#[47]⟩ : ByteArray)) ++ t785, 0)) else (none))) else (none)) = some (r1, r2) := H
  have A5 := Aside0.mk A50
  clear A50
  by_cases c6 : t783.size + 1 ≤ 9223372036854775807
  ·rw [if_pos c6] at H
   have c6b0 := eq_true c6
   have c6b1 : decide (t783.size + 1 ≤ 9223372036854775807) = true := decide_eq_true c6
   try have c6b2 : (9223372036854775807 < t783.size + 1) = False := eq_false (Nat.not_lt.2 c6)
   replace H := Option.bind_eq_some_iff.mp H
   obtain ⟨t785, A70, H⟩ := H
   replace H : (if (t783 ++ (⟨#[47]⟩ : ByteArray)).size + t785.size ≤ 9223372036854775807 then (some ((t783 ++ (⟨#[47]⟩ : ByteArray)) ++ t785, 0)) else (none)) = some (r1, r2) := H
   have A7 := Aside0.mk A70
   clear A70
   by_cases c8 : (t783 ++ (⟨#[47]⟩ : ByteArray)).size + t785.size ≤ 9223372036854775807
   ·rw [if_pos c8] at H
    have c8b0 := eq_true c8
    have c8b1 : decide ((t783 ++ (⟨#[47]⟩ : ByteArray)).size + t785.size ≤ 9223372036854775807) = true := decide_eq_true c8
    try have c8s : (9223372036854775807 < t783.size + 1 + t785.size) = False := eq_false (Nat.not_lt.2 (by have h_ := c8; simp only [ByteArray.size_append] at h_; exact h_))
    try have c8b2 : (9223372036854775807 < (t783 ++ (⟨#[47]⟩ : ByteArray)).size + t785.size) = False := eq_false (Nat.not_lt.2 c8)
    simp only [Option.some.injEq, Prod.mk.injEq] at H
    obtain ⟨rfl, rfl⟩ := H
    go_enter Tryd.func47, Tryd.ntmps47
    go_wp2_with (first | ((with_reducible refine gate_dst (N := 3) rfl ?_); refine box_event ?hg (N := 3) ?hd (cs := #[.int .u64 a1_0, .int .u64 a1_1, .int .i64 a1_2]) (t := 28) ?hr ?_; (case hd => rfl); (case hg => rfl); (case hr => first | (go_simp; done) | (go_simp; rfl)); intro gb781 hg w9 hbox hb; have n0_ := Aside0.mk (below_step xB hb); have n1_ := Aside0.mk (hbox); have n2_ := xS w hg; have n3_ := xS w hg; clear HB; have HB := n0_; have BK781 := n1_; have GW781 := n2_; have GE781 := n3_; clear n0_ n1_ n2_ n3_; clear hb hbox hg; have hcz10_0 : w9.cell? ⟨gb781, 0, none⟩ = some (.int .u64 a1_0) := (blk_cell BK781.out 0).trans rfl; have hcz10_1 : w9.cell? ⟨gb781, 1, none⟩ = some (.int .u64 a1_1) := (blk_cell BK781.out 1).trans rfl; have hcz10_2 : w9.cell? ⟨gb781, 2, none⟩ = some (.int .i64 a1_2) := (blk_cell BK781.out 2).trans rfl; have hfz10_0 := blk_frozen BK781.out 0; have hfz10_1 := blk_frozen BK781.out 1; have hfz10_2 := blk_frozen BK781.out 2) | ((with_reducible refine gate_callee (f := 28) rfl ?_); refine goesL_ (some 11) rfl rfl Tryd.func28 (by kernel_rfl) rfl #[.int .i64 a0, .agg #[.int .u64 a1_0, .int .u64 a1_1, .int .i64 a1_2]] rfl xM ?_; (with_reducible refine (turnpikeref3_Check.calls k a0 a1_0 a1_1 a1_2 t782 _ A3.out).mono ?_); rintro e w11 ⟨rfl, hb⟩; refine ⟨_, rfl, ?_⟩; have n0_ := xP BK781.out hb; have n1_ := Aside0.mk (below_step xG hb); clear BK781; clear HB; have BK781 := n0_; have HB := n1_; clear n0_ n1_; (try clear hb); (try clear hb2); (try clear hk); (try clear hi); have hcz12_0 : w11.cell? ⟨gb781, 0, none⟩ = some (.int .u64 a1_0) := (blk_cell BK781.out 0).trans rfl; have hcz12_1 : w11.cell? ⟨gb781, 1, none⟩ = some (.int .u64 a1_1) := (blk_cell BK781.out 1).trans rfl; have hcz12_2 : w11.cell? ⟨gb781, 2, none⟩ = some (.int .i64 a1_2) := (blk_cell BK781.out 2).trans rfl; have hfz12_0 := blk_frozen BK781.out 0; have hfz12_1 := blk_frozen BK781.out 1; have hfz12_2 := blk_frozen BK781.out 2) | ((with_reducible refine gate_callee (f := 77) rfl ?_); refine goesL_ (some 19) rfl rfl Tryd.func77 (by kernel_rfl) rfl #[.int .i64 a0, .agg #[.int .u64 a1_0, .int .u64 a1_1]] rfl xM ?_; (with_reducible refine (turnpikeref2_Text.calls k a0 a1_0 a1_1 t783 t784 _ A5.out).mono ?_); rintro e w13 ⟨rfl, hb⟩; refine ⟨_, rfl, ?_⟩; have n0_ := xP BK781.out hb; have n1_ := Aside0.mk (below_step xG hb); clear BK781; clear HB; have BK781 := n0_; have HB := n1_; clear n0_ n1_; (try clear hb); (try clear hb2); (try clear hk); (try clear hi); have hcz14_0 : w13.cell? ⟨gb781, 0, none⟩ = some (.int .u64 a1_0) := (blk_cell BK781.out 0).trans rfl; have hcz14_1 : w13.cell? ⟨gb781, 1, none⟩ = some (.int .u64 a1_1) := (blk_cell BK781.out 1).trans rfl; have hcz14_2 : w13.cell? ⟨gb781, 2, none⟩ = some (.int .i64 a1_2) := (blk_cell BK781.out 2).trans rfl; have hfz14_0 := blk_frozen BK781.out 0; have hfz14_1 := blk_frozen BK781.out 1; have hfz14_2 := blk_frozen BK781.out 2) | ((with_reducible refine gate_callee (f := 78) rfl ?_); refine goesL_ (some 26) rfl rfl Tryd.func78 (by kernel_rfl) rfl #[.int .i64 a1_2] rfl xM ?_; (with_reducible refine (turnpikeref2_Decimal.calls k a1_2 t785 _ A7.out).mono ?_); rintro e w15 ⟨rfl, hb⟩; refine ⟨_, rfl, ?_⟩; have n0_ := xP BK781.out hb; have n1_ := Aside0.mk (below_step xG hb); clear BK781; clear HB; have BK781 := n0_; have HB := n1_; clear n0_ n1_; (try clear hb); (try clear hb2); (try clear hk); (try clear hi)))
    go_ret2
    exact ⟨xE, xG⟩
   ·rw [if_neg c8] at H
    exact absurd H (by simp)
  ·rw [if_neg c6] at H
   exact absurd H (by simp)
 ·rw [if_neg c4] at H
  have c4b0 : (t782 == 0) = false := beq_eq_false_iff_ne.mpr c4
  have c4b1 : (t782 != 0) = true := bne_iff_ne.mpr c4
  simp only [Option.some.injEq, Prod.mk.injEq] at H
  obtain ⟨rfl, rfl⟩ := H
  go_enter Tryd.func47, Tryd.ntmps47
  go_wp2_with (first | ((with_reducible refine gate_dst (N := 3) rfl ?_); refine box_event ?hg (N := 3) ?hd (cs := #[.int .u64 a1_0, .int .u64 a1_1, .int .i64 a1_2]) (t := 28) ?hr ?_; (case hd => rfl); (case hg => rfl); (case hr => first | (go_simp; done) | (go_simp; rfl)); intro gb781 hg w16 hbox hb; have n0_ := Aside0.mk (below_step xB hb); have n1_ := Aside0.mk (hbox); have n2_ := xS w hg; have n3_ := xS w hg; clear HB; have HB := n0_; have BK781 := n1_; have GW781 := n2_; have GE781 := n3_; clear n0_ n1_ n2_ n3_; clear hb hbox hg; have hcz17_0 : w16.cell? ⟨gb781, 0, none⟩ = some (.int .u64 a1_0) := (blk_cell BK781.out 0).trans rfl; have hcz17_1 : w16.cell? ⟨gb781, 1, none⟩ = some (.int .u64 a1_1) := (blk_cell BK781.out 1).trans rfl; have hcz17_2 : w16.cell? ⟨gb781, 2, none⟩ = some (.int .i64 a1_2) := (blk_cell BK781.out 2).trans rfl; have hfz17_0 := blk_frozen BK781.out 0; have hfz17_1 := blk_frozen BK781.out 1; have hfz17_2 := blk_frozen BK781.out 2) | ((with_reducible refine gate_callee (f := 28) rfl ?_); refine goesL_ (some 11) rfl rfl Tryd.func28 (by kernel_rfl) rfl #[.int .i64 a0, .agg #[.int .u64 a1_0, .int .u64 a1_1, .int .i64 a1_2]] rfl xM ?_; (with_reducible refine (turnpikeref3_Check.calls k a0 a1_0 a1_1 a1_2 t782 _ A3.out).mono ?_); rintro e w18 ⟨rfl, hb⟩; refine ⟨_, rfl, ?_⟩; have n0_ := xP BK781.out hb; have n1_ := Aside0.mk (below_step xG hb); clear BK781; clear HB; have BK781 := n0_; have HB := n1_; clear n0_ n1_; (try clear hb); (try clear hb2); (try clear hk); (try clear hi)))
  go_ret2
  exact ⟨xE, xG⟩
end Go.Proofs.YtdjhmapmhajkcaaDoor.X
