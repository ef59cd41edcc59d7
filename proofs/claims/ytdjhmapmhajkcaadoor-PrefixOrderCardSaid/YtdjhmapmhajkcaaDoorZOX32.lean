-- Printed by a program of this session (xprint.py, over the kit's printer)
import Derived.Test.YtdjhmapmhajkcaaDoorZOX0
import Derived.Test.YtdjhmapmhajkcaaDoorZOX2
import Derived.Test.YtdjhmapmhajkcaaDoorZOX6
import Derived.Test.YtdjhmapmhajkcaaDoorZOX8
import Derived.Test.YtdjhmapmhajkcaaDoorZOX12
import Derived.Test.YtdjhmapmhajkcaaDoorZOX23
import Derived.Test.YtdjhmapmhajkcaaDoorZOX30
import Derived.Test.YtdjhmapmhajkcaaDoorZOSh
namespace Go.Proofs.YtdjhmapmhajkcaaDoor.X
open Go.RowKit Go.Proofs.YtdjhmapmhajkcaaDoorW.PrintWords Go.Proofs.YtdjhmapmhajkcaaDoorW.PrintLast Go.Proofs.YtdjhmapmhajkcaaDoor.Sm Go.Proofs.YtdjhmapmhajkcaaDoor.Sh
set_option linter.unusedVariables false
set_option linter.unusedSimpArgs false
attribute [local go_sem high] eqA28
mutual
def turnpikelaw3_PrefixOrder.j0 : Nat → Bool → Int → Int → Int → Int → Int → Int → Int → Int → Int → Option (Bool)
 | 0, _, _, _, _, _, _, _, _, _, _ => none
 | k + 1, x53, x641000, x641001, x641002, x645000, x645001, x645002, x649000, x649001, x649002 => if x53 = true then (some false) else ((prefix_Cmp.f x641000 x641001 x641002 x645000 x645001 x645002).bind fun t652 => (if t652 ≤ 0 then ((prefix_Cmp.f x645000 x645001 x645002 x649000 x649001 x649002).bind fun t653 => (if t653 ≤ 0 then ((prefix_Cmp.f x641000 x641001 x641002 x649000 x649001 x649002).bind fun t654 => (turnpikelaw3_PrefixOrder.j1 k (decide (t654 > 0)) x641000 x641001 x641002 x645000 x645001 x645002 x649000 x649001 x649002)) else (turnpikelaw3_PrefixOrder.j1 k false x641000 x641001 x641002 x645000 x645001 x645002 x649000 x649001 x649002))) else (turnpikelaw3_PrefixOrder.j1 k false x641000 x641001 x641002 x645000 x645001 x645002 x649000 x649001 x649002)))
def turnpikelaw3_PrefixOrder.j1 : Nat → Bool → Int → Int → Int → Int → Int → Int → Int → Int → Int → Option (Bool)
 | 0, _, _, _, _, _, _, _, _, _, _ => none
 | k + 1, x69, x641000, x641001, x641002, x645000, x645001, x645002, x649000, x649001, x649002 => if x69 = true then (some false) else ((prefix_Cmp.f x641000 x641001 x641002 x645000 x645001 x645002).bind fun t655 => (if t655 ≤ 0 then ((prefix_Cmp.f x645000 x645001 x645002 x649000 x649001 x649002).bind fun t656 => (if t656 ≤ 0 then ((prefix_Within.f x649000 x649001 x649002 x641000 x641001 x641002).bind fun t657 => (if t657 = true then ((prefix_Within.f x645000 x645001 x645002 x641000 x641001 x641002).bind fun t658 => (turnpikelaw3_PrefixOrder.j2 k (!t658) x641000 x641001 x641002 x645000 x645001 x645002 x649000 x649001 x649002)) else (turnpikelaw3_PrefixOrder.j2 k false x641000 x641001 x641002 x645000 x645001 x645002 x649000 x649001 x649002))) else (turnpikelaw3_PrefixOrder.j2 k false x641000 x641001 x641002 x645000 x645001 x645002 x649000 x649001 x649002))) else (turnpikelaw3_PrefixOrder.j2 k false x641000 x641001 x641002 x645000 x645001 x645002 x649000 x649001 x649002)))
def turnpikelaw3_PrefixOrder.j2 : Nat → Bool → Int → Int → Int → Int → Int → Int → Int → Int → Int → Option (Bool)
 | 0, _, _, _, _, _, _, _, _, _, _ => none
 | k + 1, x90, x641000, x641001, x641002, x645000, x645001, x645002, x649000, x649001, x649002 => if x90 = true then (some false) else ((prefix_Meet.f x641000 x641001 x641002 x645000 x645001 x645002).bind fun bt659 => ((prefix_Meet.f x645000 x645001 x645002 x641000 x641001 x641002).bind fun bt663 => (if ((!(bt659.1 == bt663.1) || (!(bt659.2.1 == bt663.2.1))) || (!(bt659.2.2 == bt663.2.2))) = true then (turnpikelaw3_PrefixOrder.j3 k true x641000 x641001 x641002 x645000 x645001 x645002 x649000 x649001 x649002 bt659.1 bt659.2.1 bt659.2.2) else ((prefix_Within.f x641000 x641001 x641002 bt659.1 bt659.2.1 bt659.2.2).bind fun t666 => (if t666 = true then ((prefix_Within.f x645000 x645001 x645002 bt659.1 bt659.2.1 bt659.2.2).bind fun t667 => (if t667 = true then ((prefix_Within.f x645000 x645001 x645002 x641000 x641001 x641002).bind fun t668 => (turnpikelaw3_PrefixOrder.j3 k (((bt659.1 == x641000 && (bt659.2.1 == x641001)) && (bt659.2.2 == x641002)) != t668) x641000 x641001 x641002 x645000 x645001 x645002 x649000 x649001 x649002 bt659.1 bt659.2.1 bt659.2.2)) else (turnpikelaw3_PrefixOrder.j3 k true x641000 x641001 x641002 x645000 x645001 x645002 x649000 x649001 x649002 bt659.1 bt659.2.1 bt659.2.2))) else (turnpikelaw3_PrefixOrder.j3 k true x641000 x641001 x641002 x645000 x645001 x645002 x649000 x649001 x649002 bt659.1 bt659.2.1 bt659.2.2))))))
def turnpikelaw3_PrefixOrder.j3 : Nat → Bool → Int → Int → Int → Int → Int → Int → Int → Int → Int → Int → Int → Int → Option (Bool)
 | 0, _, _, _, _, _, _, _, _, _, _, _, _, _ => none
 | k + 1, x119, x641000, x641001, x641002, x645000, x645001, x645002, x649000, x649001, x649002, x663000, x663001, x663002 => if x119 = true then (some false) else ((prefix_Within.f x641000 x641001 x641002 x649000 x649001 x649002).bind fun t669 => (if t669 = true then ((prefix_Within.f x645000 x645001 x645002 x649000 x649001 x649002).bind fun t670 => (if t670 = true then ((prefix_Within.f x663000 x663001 x663002 x649000 x649001 x649002).bind fun t671 => (some t671)) else (some true))) else (some true)))
end
def turnpikelaw3_PrefixOrder.f (k : Nat) (a0 : Bool) (a1_0 : Int) (a1_1 : Int) (a2 : Int) (a3_0 : Int) (a3_1 : Int) (a4 : Int) (a5_0 : Int) (a5_1 : Int) (a6 : Int) : Option (Bool) := (turnpikelaw3_known.f k).bind fun t635 => (if t635 = true then ((turnpikelaw3_Family.f a0).bind fun t636 => ((turnpikelaw3_Some.f k t636 a1_0 a1_1 a2).bind fun bt637 => ((turnpikelaw3_Some.f k t636 a3_0 a3_1 a4).bind fun bt641 => ((turnpikelaw3_Some.f k t636 a5_0 a5_1 a6).bind fun bt645 => ((prefix_Cmp.f bt637.1 bt637.2.1 bt637.2.2 bt641.1 bt641.2.1 bt641.2.2).bind fun t649 => ((prefix_Cmp.f bt641.1 bt641.2.1 bt641.2.2 bt637.1 bt637.2.1 bt637.2.2).bind fun t650 => (if t649 = (wrap64 (-t650)) then ((prefix_Cmp.f bt637.1 bt637.2.1 bt637.2.2 bt641.1 bt641.2.1 bt641.2.2).bind fun t651 => (turnpikelaw3_PrefixOrder.j0 k ((t651 == 0) != ((bt637.1 == bt641.1 && (bt637.2.1 == bt641.2.1)) && (bt637.2.2 == bt641.2.2))) bt637.1 bt637.2.1 bt637.2.2 bt641.1 bt641.2.1 bt641.2.2 bt645.1 bt645.2.1 bt645.2.2)) else (turnpikelaw3_PrefixOrder.j0 k true bt637.1 bt637.2.1 bt637.2.2 bt641.1 bt641.2.1 bt641.2.2 bt645.1 bt645.2.1 bt645.2.2)))))))) else (some false))
theorem turnpikelaw3_PrefixOrder.mono_l : ∀ k, (∀ y0 y1 y2 y3 y4 y5 y6 y7 y8 y9, LeO (turnpikelaw3_PrefixOrder.j0 k y0 y1 y2 y3 y4 y5 y6 y7 y8 y9) (turnpikelaw3_PrefixOrder.j0 (k + 1) y0 y1 y2 y3 y4 y5 y6 y7 y8 y9)) ∧ (∀ y0 y1 y2 y3 y4 y5 y6 y7 y8 y9, LeO (turnpikelaw3_PrefixOrder.j1 k y0 y1 y2 y3 y4 y5 y6 y7 y8 y9) (turnpikelaw3_PrefixOrder.j1 (k + 1) y0 y1 y2 y3 y4 y5 y6 y7 y8 y9)) ∧ (∀ y0 y1 y2 y3 y4 y5 y6 y7 y8 y9, LeO (turnpikelaw3_PrefixOrder.j2 k y0 y1 y2 y3 y4 y5 y6 y7 y8 y9) (turnpikelaw3_PrefixOrder.j2 (k + 1) y0 y1 y2 y3 y4 y5 y6 y7 y8 y9)) ∧ (∀ y0 y1 y2 y3 y4 y5 y6 y7 y8 y9 y10 y11 y12, LeO (turnpikelaw3_PrefixOrder.j3 k y0 y1 y2 y3 y4 y5 y6 y7 y8 y9 y10 y11 y12) (turnpikelaw3_PrefixOrder.j3 (k + 1) y0 y1 y2 y3 y4 y5 y6 y7 y8 y9 y10 y11 y12))
 | 0 => ⟨fun _ _ _ _ _ _ _ _ _ _ r h => by simp [turnpikelaw3_PrefixOrder.j0] at h, fun _ _ _ _ _ _ _ _ _ _ r h => by simp [turnpikelaw3_PrefixOrder.j1] at h, fun _ _ _ _ _ _ _ _ _ _ r h => by simp [turnpikelaw3_PrefixOrder.j2] at h, fun _ _ _ _ _ _ _ _ _ _ _ _ _ r h => by simp [turnpikelaw3_PrefixOrder.j3] at h⟩
 | k + 1 => by
  obtain ⟨ih0, ih1, ih2, ih3⟩ := turnpikelaw3_PrefixOrder.mono_l k
  refine ⟨?_, ?_, ?_, ?_⟩
  ·intro y0 y1 y2 y3 y4 y5 y6 y7 y8 y9
   unfold turnpikelaw3_PrefixOrder.j0
   have m0 := @turnpikelaw3_Some.mono
   have m1 := @turnpikelaw3_known.mono
   exact xO
  ·intro y0 y1 y2 y3 y4 y5 y6 y7 y8 y9
   unfold turnpikelaw3_PrefixOrder.j1
   have m0 := @turnpikelaw3_Some.mono
   have m1 := @turnpikelaw3_known.mono
   exact xO
  ·intro y0 y1 y2 y3 y4 y5 y6 y7 y8 y9
   unfold turnpikelaw3_PrefixOrder.j2
   have m0 := @turnpikelaw3_Some.mono
   have m1 := @turnpikelaw3_known.mono
   exact xO
  ·intro y0 y1 y2 y3 y4 y5 y6 y7 y8 y9 y10 y11 y12
   unfold turnpikelaw3_PrefixOrder.j3
   have m0 := @turnpikelaw3_Some.mono
   have m1 := @turnpikelaw3_known.mono
   exact xO
theorem turnpikelaw3_PrefixOrder.mono : ∀ a0 a1 a2 a3 a4 a5 a6 a7 a8 a9 k, LeO (turnpikelaw3_PrefixOrder.f k a0 a1 a2 a3 a4 a5 a6 a7 a8 a9) (turnpikelaw3_PrefixOrder.f (k + 1) a0 a1 a2 a3 a4 a5 a6 a7 a8 a9) := by
 intro a0 a1 a2 a3 a4 a5 a6 a7 a8 a9 k
 obtain ⟨ih0, ih1, ih2, ih3⟩ := turnpikelaw3_PrefixOrder.mono_l k
 unfold turnpikelaw3_PrefixOrder.f
 have m0 := @turnpikelaw3_Some.mono
 have m1 := @turnpikelaw3_known.mono
 exact xO
def turnpikelaw3_PrefixOrder.T7 : Bool × List (List Nat × List Nat) := (true, [([], []), ([], []), ([0, 1], [0, 1]), ([], []), ([], []), ([3, 4, 2], [3, 4]), ([5], [5]), ([2, 6], [2, 6]), ([7, 5], [7]), ([8], [8]), ([8], [8]), ([9, 10, 8, 8], [8, 9, 10]), ([11, 8], [8, 11]), ([8], [8]), ([8], [8]), ([13, 14, 8], [8, 13, 14]), ([12, 15, 8], [8, 12, 15]), ([8, 16], [8, 16])])
def turnpikelaw3_PrefixOrder.B7 : List Nat := [0, 0, 3, 0, 0, 31, 63, 127, 255, 511, 511, 2047, 4095, 511, 511, 25087, 65535, 131071]
theorem turnpikelaw3_PrefixOrder.tab7 : rtab .any (opsOf Tryd.f10 7) = turnpikelaw3_PrefixOrder.T7 := by kernel_rfl
theorem turnpikelaw3_PrefixOrder.bits7 : waitsOk turnpikelaw3_PrefixOrder.T7.2 turnpikelaw3_PrefixOrder.B7 = true := by kernel_rfl
def turnpikelaw3_PrefixOrder.T14 : Bool × List (List Nat × List Nat) := (true, [([], []), ([], []), ([], []), ([1, 2], [1, 2]), ([0, 3], [0, 3]), ([4, 3], [4]), ([5], [5]), ([5], [5]), ([6, 7, 5, 5], [5, 6, 7]), ([8, 5], [5, 8]), ([5, 9], [5, 9]), ([10, 8], [10]), ([11], [11]), ([11], [11]), ([12, 13, 11, 11], [11, 12, 13]), ([14, 11], [11, 14]), ([11, 15], [11, 15]), ([16, 14], [16]), ([17], [17]), ([17], [17]), ([18, 19, 17], [17, 18, 19]), ([17], [17]), ([17], [17]), ([21, 22, 17, 17], [17, 21, 22]), ([20, 23, 17], [17, 20, 23]), ([17, 24], [17, 24])])
def turnpikelaw3_PrefixOrder.B14 : List Nat := [0, 0, 0, 6, 15, 31, 63, 63, 255, 511, 1023, 2047, 4095, 4095, 16383, 32767, 65535, 131071, 262143, 262143, 1048575, 262143, 262143, 6553599, 16777215, 33554431]
theorem turnpikelaw3_PrefixOrder.tab14 : rtab .any (opsOf Tryd.f10 14) = turnpikelaw3_PrefixOrder.T14 := by kernel_rfl
theorem turnpikelaw3_PrefixOrder.bits14 : waitsOk turnpikelaw3_PrefixOrder.T14.2 turnpikelaw3_PrefixOrder.B14 = true := by kernel_rfl
set_option maxHeartbeats 8000000 in
set_option maxRecDepth 100000 in
theorem turnpikelaw3_PrefixOrder.calls (k : Nat) (a0 : Bool) (a1_0 : Int) (a1_1 : Int) (a2 : Int) (a3_0 : Int) (a3_1 : Int) (a4 : Int) (a5_0 : Int) (a5_1 : Int) (a6 : Int) (r : Bool) (w : World) (hML : MLOk w) (hr_ : Aside0 (r = true)) (h : turnpikelaw3_PrefixOrder.f k a0 a1_0 a1_1 a2 a3_0 a3_1 a4 a5_0 a5_1 a6 = some r) :
  Calls Tryd.prog 10 #[.bool a0, .agg #[.int .u64 a1_0, .int .u64 a1_1], .int .i64 a2, .agg #[.int .u64 a3_0, .int .u64 a3_1], .int .i64 a4, .agg #[.int .u64 a5_0, .int .u64 a5_1], .int .i64 a6] w fun e w' => e = .returned (.bool r) ∧ Below w.heap.size w w' := by
 have hu24 := Tryd.underlying24
 have hu28 := Tryd.underlying28
 have HML := Aside0.mk hML
 clear hML
 have HB := Aside0.mk (Below.refl w.heap.size w)
 have H : ((turnpikelaw3_known.f k).bind fun t635 => (if t635 = true then ((turnpikelaw3_Family.f a0).bind fun t636 => ((turnpikelaw3_Some.f k t636 a1_0 a1_1 a2).bind fun bt637 => ((turnpikelaw3_Some.f k t636 a3_0 a3_1 a4).bind fun bt641 => ((turnpikelaw3_Some.f k t636 a5_0 a5_1 a6).bind fun bt645 => ((prefix_Cmp.f bt637.1 bt637.2.1 bt637.2.2 bt641.1 bt641.2.1 bt641.2.2).bind fun t649 => ((prefix_Cmp.f bt641.1 bt641.2.1 bt641.2.2 bt637.1 bt637.2.1 bt637.2.2).bind fun t650 => (if t649 = (wrap64 (-t650)) then ((prefix_Cmp.f bt637.1 bt637.2.1 bt637.2.2 bt641.1 bt641.2.1 bt641.2.2).bind fun t651 => (turnpikelaw3_PrefixOrder.j0 k ((t651 == 0) != ((bt637.1 == bt641.1 && (bt637.2.1 == bt641.2.1)) && (bt637.2.2 == bt641.2.2))) bt637.1 bt637.2.1 bt637.2.2 bt641.1 bt641.2.1 bt641.2.2 bt645.1 bt645.2.1 bt645.2.2)) else (turnpikelaw3_PrefixOrder.j0 k true bt637.1 bt637.2.1 bt637.2.2 bt641.1 bt641.2.1 bt641.2.2 bt645.1 bt645.2.1 bt645.2.2)))))))) else (some false))) = some r := h
 clear h
 replace H := Option.bind_eq_some_iff.mp H
 obtain ⟨t635, A80, H⟩ := H
 replace H : (if t635 = true then ((turnpikelaw3_Family.f a0).bind fun t636 => ((turnpikelaw3_Some.f k t636 a1_0 a1_1 a2).bind fun bt637 => ((turnpikelaw3_Some.f k t636 a3_0 a3_1 a4).bind fun bt641 => ((turnpikelaw3_Some.f k t636 a5_0 a5_1 a6).bind fun bt645 => ((prefix_Cmp.f bt637.1 bt637.2.1 bt637.2.2 bt641.1 bt641.2.1 bt641.2.2).bind fun t649 => ((prefix_Cmp.f bt641.1 bt641.2.1 bt641.2.2 bt637.1 bt637.2.1 bt637.2.2).bind fun t650 => (if t649 = (wrap64 (-t650)) then ((prefix_Cmp.f bt637.1 bt637.2.1 bt637.2.2 bt641.1 bt641.2.1 bt641.2.2).bind fun t651 => (turnpikelaw3_PrefixOrder.j0 k ((t651 == 0) != ((bt637.1 == bt641.1 && (bt637.2.1 == bt641.2.1)) && (bt637.2.2 == bt641.2.2))) bt637.1 bt637.2.1 bt637.2.2 bt641.1 bt641.2.1 bt641.2.2 bt645.1 bt645.2.1 bt645.2.2)) else (turnpikelaw3_PrefixOrder.j0 k true bt637.1 bt637.2.1 bt637.2.2 bt641.1 bt641.2.1 bt641.2.2 bt645.1 bt645.2.1 bt645.2.2)))))))) else (some false)) = some r := H
 have A8 := Aside0.mk A80
 clear A80
 by_cases c9 : t635 = true
 ·subst c9
  have H1 : ((turnpikelaw3_Family.f a0).bind fun t636 => ((turnpikelaw3_Some.f k t636 a1_0 a1_1 a2).bind fun bt637 => ((turnpikelaw3_Some.f k t636 a3_0 a3_1 a4).bind fun bt641 => ((turnpikelaw3_Some.f k t636 a5_0 a5_1 a6).bind fun bt645 => ((prefix_Cmp.f bt637.1 bt637.2.1 bt637.2.2 bt641.1 bt641.2.1 bt641.2.2).bind fun t649 => ((prefix_Cmp.f bt641.1 bt641.2.1 bt641.2.2 bt637.1 bt637.2.1 bt637.2.2).bind fun t650 => (if t649 = (wrap64 (-t650)) then ((prefix_Cmp.f bt637.1 bt637.2.1 bt637.2.2 bt641.1 bt641.2.1 bt641.2.2).bind fun t651 => (turnpikelaw3_PrefixOrder.j0 k ((t651 == 0) != ((bt637.1 == bt641.1 && (bt637.2.1 == bt641.2.1)) && (bt637.2.2 == bt641.2.2))) bt637.1 bt637.2.1 bt637.2.2 bt641.1 bt641.2.1 bt641.2.2 bt645.1 bt645.2.1 bt645.2.2)) else (turnpikelaw3_PrefixOrder.j0 k true bt637.1 bt637.2.1 bt637.2.2 bt641.1 bt641.2.1 bt641.2.2 bt645.1 bt645.2.1 bt645.2.2)))))))) = some r := by rw [if_pos rfl] at H; exact H
  clear H
  have H := H1
  clear H1
  replace H := Option.bind_eq_some_iff.mp H
  obtain ⟨t636, A100, H⟩ := H
  replace H : ((turnpikelaw3_Some.f k t636 a1_0 a1_1 a2).bind fun bt637 => ((turnpikelaw3_Some.f k t636 a3_0 a3_1 a4).bind fun bt641 => ((turnpikelaw3_Some.f k t636 a5_0 a5_1 a6).bind fun bt645 => ((prefix_Cmp.f bt637.1 bt637.2.1 bt637.2.2 bt641.1 bt641.2.1 bt641.2.2).bind fun t649 => ((prefix_Cmp.f bt641.1 bt641.2.1 bt641.2.2 bt637.1 bt637.2.1 bt637.2.2).bind fun t650 => (if t649 = (wrap64 (-t650)) then ((prefix_Cmp.f bt637.1 bt637.2.1 bt637.2.2 bt641.1 bt641.2.1 bt641.2.2).bind fun t651 => (turnpikelaw3_PrefixOrder.j0 k ((t651 == 0) != ((bt637.1 == bt641.1 && (bt637.2.1 == bt641.2.1)) && (bt637.2.2 == bt641.2.2))) bt637.1 bt637.2.1 bt637.2.2 bt641.1 bt641.2.1 bt641.2.2 bt645.1 bt645.2.1 bt645.2.2)) else (turnpikelaw3_PrefixOrder.j0 k true bt637.1 bt637.2.1 bt637.2.2 bt641.1 bt641.2.1 bt641.2.2 bt645.1 bt645.2.1 bt645.2.2))))))) = some r := H
  have A10 := Aside0.mk A100
  clear A100
  replace H := Option.bind_eq_some_iff.mp H
  obtain ⟨⟨t637, t638, t639⟩, A110, H⟩ := H
  replace H : ((turnpikelaw3_Some.f k t636 a3_0 a3_1 a4).bind fun bt641 => ((turnpikelaw3_Some.f k t636 a5_0 a5_1 a6).bind fun bt645 => ((prefix_Cmp.f t637 t638 t639 bt641.1 bt641.2.1 bt641.2.2).bind fun t649 => ((prefix_Cmp.f bt641.1 bt641.2.1 bt641.2.2 t637 t638 t639).bind fun t650 => (if t649 = (wrap64 (-t650)) then ((prefix_Cmp.f t637 t638 t639 bt641.1 bt641.2.1 bt641.2.2).bind fun t651 => (turnpikelaw3_PrefixOrder.j0 k ((t651 == 0) != ((t637 == bt641.1 && (t638 == bt641.2.1)) && (t639 == bt641.2.2))) t637 t638 t639 bt641.1 bt641.2.1 bt641.2.2 bt645.1 bt645.2.1 bt645.2.2)) else (turnpikelaw3_PrefixOrder.j0 k true t637 t638 t639 bt641.1 bt641.2.1 bt641.2.2 bt645.1 bt645.2.1 bt645.2.2)))))) = some r := H
  have A11 := Aside0.mk A110
  clear A110
  replace H := Option.bind_eq_some_iff.mp H
  obtain ⟨⟨t641, t642, t643⟩, A120, H⟩ := H
  replace H : ((turnpikelaw3_Some.f k t636 a5_0 a5_1 a6).bind fun bt645 => ((prefix_Cmp.f t637 t638 t639 t641 t642 t643).bind fun t649 => ((prefix_Cmp.f t641 t642 t643 t637 t638 t639).bind fun t650 => (if t649 = (wrap64 (-t650)) then ((prefix_Cmp.f t637 t638 t639 t641 t642 t643).bind fun t651 => (turnpikelaw3_PrefixOrder.j0 k ((t651 == 0) != ((t637 == t641 && (t638 == t642)) && (t639 == t643))) t637 t638 t639 t641 t642 t643 bt645.1 bt645.2.1 bt645.2.2)) else (turnpikelaw3_PrefixOrder.j0 k true t637 t638 t639 t641 t642 t643 bt645.1 bt645.2.1 bt645.2.2))))) = some r := H
  have A12 := Aside0.mk A120
  clear A120
  replace H := Option.bind_eq_some_iff.mp H
  obtain ⟨⟨t645, t646, t647⟩, A130, H⟩ := H
  replace H : ((prefix_Cmp.f t637 t638 t639 t641 t642 t643).bind fun t649 => ((prefix_Cmp.f t641 t642 t643 t637 t638 t639).bind fun t650 => (if t649 = (wrap64 (-t650)) then ((prefix_Cmp.f t637 t638 t639 t641 t642 t643).bind fun t651 => (turnpikelaw3_PrefixOrder.j0 k ((t651 == 0) != ((t637 == t641 && (t638 == t642)) && (t639 == t643))) t637 t638 t639 t641 t642 t643 t645 t646 t647)) else (turnpikelaw3_PrefixOrder.j0 k true t637 t638 t639 t641 t642 t643 t645 t646 t647)))) = some r := H
  have A13 := Aside0.mk A130
  clear A130
  have HC14 := Aside0.mk H
  clear H
  go_enter Tryd.func10, Tryd.ntmps10
  go_upto_region 7 with (first | ((with_reducible refine gate_dst (N := 8) rfl ?_); refine box_event ?hg (N := 8) ?hd (cs := #[.int .u64 a1_0, .int .u64 a1_1]) (t := 24) ?hr ?_; (case hd => rfl); (case hg => rfl); (case hr => first | (go_simp; done) | (go_simp; rfl)); intro gb632 hg w15 hbox hb; have n0_ := Aside0.mk (below_step xB hb); have n1_ := Aside0.mk (hbox); have n2_ := xS w hg; have n3_ := xS w hg; clear HB; have HB := n0_; have BK632 := n1_; have GW632 := n2_; have GE632 := n3_; clear n0_ n1_ n2_ n3_; clear hb hbox hg) | ((with_reducible refine gate_dst (N := 10) rfl ?_); refine box_event ?hg (N := 10) ?hd (cs := #[.int .u64 a3_0, .int .u64 a3_1]) (t := 24) ?hr ?_; (case hd => rfl); (case hg => rfl); (case hr => first | (go_simp; done) | (go_simp; rfl)); intro gb633 hg w16 hbox hb; have n0_ := xP BK632.out hb; have n1_ := Aside0.mk (below_step xG hb); have n2_ := Aside0.mk (hbox); have n3_ := xT w hg; have n4_ := xT w hg; have n5_ := Aside0.mk ((xNl BK632.out hg : gb632 ≠ gb633)); have n6_ := Aside0.mk ((xNr BK632.out hg : gb633 ≠ gb632)); clear BK632; clear HB; have BK632 := n0_; have HB := n1_; have BK633 := n2_; have GW633 := n3_; have GE633 := n4_; have NB632_633 := n5_; have NB633_632 := n6_; clear n0_ n1_ n2_ n3_ n4_ n5_ n6_; clear hb hbox hg) | ((with_reducible refine gate_dst (N := 12) rfl ?_); refine box_event ?hg (N := 12) ?hd (cs := #[.int .u64 a5_0, .int .u64 a5_1]) (t := 24) ?hr ?_; (case hd => rfl); (case hg => rfl); (case hr => first | (go_simp; done) | (go_simp; rfl)); intro gb634 hg w17 hbox hb; have n0_ := xP BK632.out hb; have n1_ := xP BK633.out hb; have n2_ := Aside0.mk (below_step xG hb); have n3_ := Aside0.mk (hbox); have n4_ := xT w hg; have n5_ := xT w hg; have n6_ := Aside0.mk ((xNl BK632.out hg : gb632 ≠ gb634)); have n7_ := Aside0.mk ((xNr BK632.out hg : gb634 ≠ gb632)); have n8_ := Aside0.mk ((xNl BK633.out hg : gb633 ≠ gb634)); have n9_ := Aside0.mk ((xNr BK633.out hg : gb634 ≠ gb633)); clear BK632; clear BK633; clear HB; have BK632 := n0_; have BK633 := n1_; have HB := n2_; have BK634 := n3_; have GW634 := n4_; have GE634 := n5_; have NB632_634 := n6_; have NB634_632 := n7_; have NB633_634 := n8_; have NB634_633 := n9_; clear n0_ n1_ n2_ n3_ n4_ n5_ n6_ n7_ n8_ n9_; clear hb hbox hg) | ((with_reducible refine gate_callee (f := 14) rfl ?_); refine goesL_ (some 20) rfl rfl Tryd.func14 (by kernel_rfl) rfl #[] rfl xM ?_; (with_reducible refine (turnpikelaw3_known.calls k  true _ ?side1 A8.out).mono ?_); (case side1 => first | exact MLOk.below HML.out xG | (repeat (first | exact HML.out | (with_reducible refine MLOk.alloc ?_ _) | (with_reducible refine MLOk.drewN ?_ _) | (with_reducible refine MLOk.drew ?_)))); rintro e w18 ⟨rfl, hb⟩; refine ⟨_, rfl, ?_⟩; have n0_ := xP BK632.out hb; have n1_ := xP BK633.out hb; have n2_ := xP BK634.out hb; have n3_ := Aside0.mk (below_step xG hb); clear BK632; clear BK633; clear BK634; clear HB; have BK632 := n0_; have BK633 := n1_; have BK634 := n2_; have HB := n3_; clear n0_ n1_ n2_ n3_; (try clear hb); (try clear hb2); (try clear hk); (try clear hi)) | ((with_reducible refine gate_callee (f := 15) rfl ?_); refine goesL_ (some 23) rfl rfl Tryd.func15 (by kernel_rfl) rfl #[.bool a0] rfl xM ?_; (with_reducible refine (turnpikelaw3_Family.calls a0 t636 _ A10.out).mono ?_); rintro e w' ⟨rfl, ⟨nd, rfl⟩⟩; refine ⟨_, rfl, ?_⟩; (try (rw [drewN_self w18]; generalize hq_ : World.drewN w18 _ = w18; have n0_ : Aside0 (w18.heap[gb632]? = some (.cells #[.int .u64 a1_0, .int .u64 a1_1] 24 (0, 0))) := ⟨by rw [← hq_]; exact (xK BK632.out)⟩; have n1_ : Aside0 (w18.heap[gb633]? = some (.cells #[.int .u64 a3_0, .int .u64 a3_1] 24 (0, 0))) := ⟨by rw [← hq_]; exact (xK BK633.out)⟩; have n2_ : Aside0 (w18.heap[gb634]? = some (.cells #[.int .u64 a5_0, .int .u64 a5_1] 24 (0, 0))) := ⟨by rw [← hq_]; exact (xK BK634.out)⟩; have n3_ : Aside0 (Below w.heap.size w w18) := ⟨by rw [← hq_]; exact xG⟩; clear BK632 BK633 BK634 HB hq_; have BK632 := n0_; have BK633 := n1_; have BK634 := n2_; have HB := n3_; clear n0_ n1_ n2_ n3_)); have hnb19 := NB632_633.out; have hnc19 := NB633_632.out; have hnb20 := NB632_634.out; have hnc20 := NB634_632.out; have hcz21_0 : w18.cell? ⟨gb632, 0, none⟩ = some (.int .u64 a1_0) := (blk_cell BK632.out 0).trans rfl; have hcz21_1 : w18.cell? ⟨gb632, 1, none⟩ = some (.int .u64 a1_1) := (blk_cell BK632.out 1).trans rfl; have hfz21_0 := blk_frozen BK632.out 0; have hfz21_1 := blk_frozen BK632.out 1) | ((with_reducible refine gate_callee (f := 16) rfl ?_); refine goesL_ (some 27) rfl rfl Tryd.func16 (by kernel_rfl) rfl #[.int .i64 t636, .agg #[.int .u64 a1_0, .int .u64 a1_1], .int .i64 a2] rfl xM ?_; (with_reducible refine (turnpikelaw3_Some.calls k t636 a1_0 a1_1 a2 t637 t638 t639 _ A11.out).mono ?_); rintro e w22 ⟨rfl, hb⟩; refine ⟨_, rfl, ?_⟩; have n0_ := xP BK632.out hb; have n1_ := xP BK633.out hb; have n2_ := xP BK634.out hb; have n3_ := Aside0.mk (below_step xG hb); clear BK632; clear BK633; clear BK634; clear HB; have BK632 := n0_; have BK633 := n1_; have BK634 := n2_; have HB := n3_; clear n0_ n1_ n2_ n3_; (try clear hb); (try clear hb2); (try clear hk); (try clear hi)) | ((with_reducible refine gate_dst (N := 16) rfl ?_); refine box_event ?hg (N := 16) ?hd (cs := #[.int .u64 0, .int .u64 0, .int .i64 0]) (t := 28) ?hr ?_; (case hd => rfl); (case hg => rfl); (case hr => first | (go_simp; done) | (go_simp; rfl)); intro gb640 hg w23 hbox hb; have n0_ := xP BK632.out hb; have n1_ := xP BK633.out hb; have n2_ := xP BK634.out hb; have n3_ := Aside0.mk (below_step xG hb); have n4_ := Aside0.mk (hbox); have n5_ := xT w hg; have n6_ := xT w hg; have n7_ := Aside0.mk ((xNl BK632.out hg : gb632 ≠ gb640)); have n8_ := Aside0.mk ((xNr BK632.out hg : gb640 ≠ gb632)); have n9_ := Aside0.mk ((xNl BK633.out hg : gb633 ≠ gb640)); have n10_ := Aside0.mk ((xNr BK633.out hg : gb640 ≠ gb633)); have n11_ := Aside0.mk ((xNl BK634.out hg : gb634 ≠ gb640)); have n12_ := Aside0.mk ((xNr BK634.out hg : gb640 ≠ gb634)); clear BK632; clear BK633; clear BK634; clear HB; have BK632 := n0_; have BK633 := n1_; have BK634 := n2_; have HB := n3_; have BK640 := n4_; have GW640 := n5_; have GE640 := n6_; have NB632_640 := n7_; have NB640_632 := n8_; have NB633_640 := n9_; have NB640_633 := n10_; have NB634_640 := n11_; have NB640_634 := n12_; clear n0_ n1_ n2_ n3_ n4_ n5_ n6_ n7_ n8_ n9_ n10_ n11_ n12_; clear hb hbox hg; have hnb24 := NB640_632.out; have hnc24 := NB632_640.out; have hnb25 := NB640_633.out; have hnc25 := NB633_640.out; have hnb26 := NB640_634.out; have hnc26 := NB634_640.out; have hcz27_0 : w23.cell? ⟨gb640, 0, none⟩ = some (.int .u64 0) := (blk_cell BK640.out 0).trans rfl; have hcz27_1 : w23.cell? ⟨gb640, 1, none⟩ = some (.int .u64 0) := (blk_cell BK640.out 1).trans rfl; have hcz27_2 : w23.cell? ⟨gb640, 2, none⟩ = some (.int .i64 0) := (blk_cell BK640.out 2).trans rfl; have hfz27_0 := blk_frozen BK640.out 0; have hfz27_1 := blk_frozen BK640.out 1; have hfz27_2 := blk_frozen BK640.out 2; have hnb28 := NB633_634.out; have hnc28 := NB634_633.out; have hcz29_0 : w23.cell? ⟨gb633, 0, none⟩ = some (.int .u64 a3_0) := (blk_cell BK633.out 0).trans rfl; have hcz29_1 : w23.cell? ⟨gb633, 1, none⟩ = some (.int .u64 a3_1) := (blk_cell BK633.out 1).trans rfl; have hfz29_0 := blk_frozen BK633.out 0; have hfz29_1 := blk_frozen BK633.out 1) | ((with_reducible refine gate_callee (f := 16) rfl ?_); refine goesL_ (some 31) rfl rfl Tryd.func16 (by kernel_rfl) rfl #[.int .i64 t636, .agg #[.int .u64 a3_0, .int .u64 a3_1], .int .i64 a4] rfl xM ?_; (with_reducible refine (turnpikelaw3_Some.calls k t636 a3_0 a3_1 a4 t641 t642 t643 _ A12.out).mono ?_); rintro e w30 ⟨rfl, hb⟩; refine ⟨_, rfl, ?_⟩; have n0_ := Aside0.mk (blk_below (g := gb632) (o := .cells #[.int .u64 a1_0, .int .u64 a1_1] 24 (0, 0)) (by (with_reducible repeat (first | refine blk_drewN ?_ _ | refine blk_drew ?_ | refine blk_alloc ?_ _)); refine blk_far ?_ NB632_640.out _; (with_reducible repeat (first | refine blk_drewN ?_ _ | refine blk_drew ?_ | refine blk_alloc ?_ _)); refine blk_far ?_ NB632_640.out _; (with_reducible repeat (first | refine blk_drewN ?_ _ | refine blk_drew ?_ | refine blk_alloc ?_ _)); refine blk_far ?_ NB632_640.out _; (with_reducible repeat (first | refine blk_drewN ?_ _ | refine blk_drew ?_ | refine blk_alloc ?_ _)); exact BK632.out) hb); have n1_ := Aside0.mk (blk_below (g := gb633) (o := .cells #[.int .u64 a3_0, .int .u64 a3_1] 24 (0, 0)) (by (with_reducible repeat (first | refine blk_drewN ?_ _ | refine blk_drew ?_ | refine blk_alloc ?_ _)); refine blk_far ?_ NB633_640.out _; (with_reducible repeat (first | refine blk_drewN ?_ _ | refine blk_drew ?_ | refine blk_alloc ?_ _)); refine blk_far ?_ NB633_640.out _; (with_reducible repeat (first | refine blk_drewN ?_ _ | refine blk_drew ?_ | refine blk_alloc ?_ _)); refine blk_far ?_ NB633_640.out _; (with_reducible repeat (first | refine blk_drewN ?_ _ | refine blk_drew ?_ | refine blk_alloc ?_ _)); exact BK633.out) hb); have n2_ := Aside0.mk (blk_below (g := gb634) (o := .cells #[.int .u64 a5_0, .int .u64 a5_1] 24 (0, 0)) (by (with_reducible repeat (first | refine blk_drewN ?_ _ | refine blk_drew ?_ | refine blk_alloc ?_ _)); refine blk_far ?_ NB634_640.out _; (with_reducible repeat (first | refine blk_drewN ?_ _ | refine blk_drew ?_ | refine blk_alloc ?_ _)); refine blk_far ?_ NB634_640.out _; (with_reducible repeat (first | refine blk_drewN ?_ _ | refine blk_drew ?_ | refine blk_alloc ?_ _)); refine blk_far ?_ NB634_640.out _; (with_reducible repeat (first | refine blk_drewN ?_ _ | refine blk_drew ?_ | refine blk_alloc ?_ _)); exact BK634.out) hb); have n3_ := Aside0.mk (blk_below (g := gb640) (o := .cells #[.int .u64 t637, .int .u64 t638, .int .i64 t639] 28 (0, 0)) (by (with_reducible repeat (first | refine blk_drewN ?_ _ | refine blk_drew ?_ | refine blk_alloc ?_ _)); refine blk_put (cs := #[.int .u64 t637, .int .u64 t638, .int .i64 0]) ?_ 2 _ rfl; (with_reducible repeat (first | refine blk_drewN ?_ _ | refine blk_drew ?_ | refine blk_alloc ?_ _)); refine blk_put (cs := #[.int .u64 t637, .int .u64 0, .int .i64 0]) ?_ 1 _ rfl; (with_reducible repeat (first | refine blk_drewN ?_ _ | refine blk_drew ?_ | refine blk_alloc ?_ _)); refine blk_put (cs := #[.int .u64 0, .int .u64 0, .int .i64 0]) ?_ 0 _ rfl; (with_reducible repeat (first | refine blk_drewN ?_ _ | refine blk_drew ?_ | refine blk_alloc ?_ _)); exact BK640.out) hb); have n4_ := Aside0.mk (below_step xG hb); clear BK632; clear BK633; clear BK634; clear BK640; clear HB; have BK632 := n0_; have BK633 := n1_; have BK634 := n2_; have BK640 := n3_; have HB := n4_; clear n0_ n1_ n2_ n3_ n4_; (try clear hb); (try clear hb2); (try clear hk); (try clear hi)) | ((with_reducible refine gate_dst (N := 17) rfl ?_); refine box_event ?hg (N := 17) ?hd (cs := #[.int .u64 0, .int .u64 0, .int .i64 0]) (t := 28) ?hr ?_; (case hd => rfl); (case hg => rfl); (case hr => first | (go_simp; done) | (go_simp; rfl)); intro gb644 hg w31 hbox hb; have n0_ := xP BK632.out hb; have n1_ := xP BK633.out hb; have n2_ := xP BK634.out hb; have n3_ := xP BK640.out hb; have n4_ := Aside0.mk (below_step xG hb); have n5_ := Aside0.mk (hbox); have n6_ := xT w hg; have n7_ := xT w hg; have n8_ := Aside0.mk ((xNl BK632.out hg : gb632 ≠ gb644)); have n9_ := Aside0.mk ((xNr BK632.out hg : gb644 ≠ gb632)); have n10_ := Aside0.mk ((xNl BK633.out hg : gb633 ≠ gb644)); have n11_ := Aside0.mk ((xNr BK633.out hg : gb644 ≠ gb633)); have n12_ := Aside0.mk ((xNl BK634.out hg : gb634 ≠ gb644)); have n13_ := Aside0.mk ((xNr BK634.out hg : gb644 ≠ gb634)); have n14_ := Aside0.mk ((xNl BK640.out hg : gb640 ≠ gb644)); have n15_ := Aside0.mk ((xNr BK640.out hg : gb644 ≠ gb640)); clear BK632; clear BK633; clear BK634; clear BK640; clear HB; have BK632 := n0_; have BK633 := n1_; have BK634 := n2_; have BK640 := n3_; have HB := n4_; have BK644 := n5_; have GW644 := n6_; have GE644 := n7_; have NB632_644 := n8_; have NB644_632 := n9_; have NB633_644 := n10_; have NB644_633 := n11_; have NB634_644 := n12_; have NB644_634 := n13_; have NB640_644 := n14_; have NB644_640 := n15_; clear n0_ n1_ n2_ n3_ n4_ n5_ n6_ n7_ n8_ n9_ n10_ n11_ n12_ n13_ n14_ n15_; clear hb hbox hg; have hnb32 := NB644_632.out; have hnc32 := NB632_644.out; have hnb33 := NB644_633.out; have hnc33 := NB633_644.out; have hnb34 := NB644_634.out; have hnc34 := NB634_644.out; have hnb35 := NB644_640.out; have hnc35 := NB640_644.out; have hcz36_0 : w31.cell? ⟨gb644, 0, none⟩ = some (.int .u64 0) := (blk_cell BK644.out 0).trans rfl; have hcz36_1 : w31.cell? ⟨gb644, 1, none⟩ = some (.int .u64 0) := (blk_cell BK644.out 1).trans rfl; have hcz36_2 : w31.cell? ⟨gb644, 2, none⟩ = some (.int .i64 0) := (blk_cell BK644.out 2).trans rfl; have hfz36_0 := blk_frozen BK644.out 0; have hfz36_1 := blk_frozen BK644.out 1; have hfz36_2 := blk_frozen BK644.out 2; have hcz37_0 : w31.cell? ⟨gb634, 0, none⟩ = some (.int .u64 a5_0) := (blk_cell BK634.out 0).trans rfl; have hcz37_1 : w31.cell? ⟨gb634, 1, none⟩ = some (.int .u64 a5_1) := (blk_cell BK634.out 1).trans rfl; have hfz37_0 := blk_frozen BK634.out 0; have hfz37_1 := blk_frozen BK634.out 1) | ((with_reducible refine gate_callee (f := 16) rfl ?_); refine goesL_ (some 35) rfl rfl Tryd.func16 (by kernel_rfl) rfl #[.int .i64 t636, .agg #[.int .u64 a5_0, .int .u64 a5_1], .int .i64 a6] rfl xM ?_; (with_reducible refine (turnpikelaw3_Some.calls k t636 a5_0 a5_1 a6 t645 t646 t647 _ A13.out).mono ?_); rintro e w38 ⟨rfl, hb⟩; refine ⟨_, rfl, ?_⟩; have n0_ := Aside0.mk (blk_below (g := gb632) (o := .cells #[.int .u64 a1_0, .int .u64 a1_1] 24 (0, 0)) (by (with_reducible repeat (first | refine blk_drewN ?_ _ | refine blk_drew ?_ | refine blk_alloc ?_ _)); refine blk_far ?_ NB632_644.out _; (with_reducible repeat (first | refine blk_drewN ?_ _ | refine blk_drew ?_ | refine blk_alloc ?_ _)); refine blk_far ?_ NB632_644.out _; (with_reducible repeat (first | refine blk_drewN ?_ _ | refine blk_drew ?_ | refine blk_alloc ?_ _)); refine blk_far ?_ NB632_644.out _; (with_reducible repeat (first | refine blk_drewN ?_ _ | refine blk_drew ?_ | refine blk_alloc ?_ _)); exact BK632.out) hb); have n1_ := Aside0.mk (blk_below (g := gb633) (o := .cells #[.int .u64 a3_0, .int .u64 a3_1] 24 (0, 0)) (by (with_reducible repeat (first | refine blk_drewN ?_ _ | refine blk_drew ?_ | refine blk_alloc ?_ _)); refine blk_far ?_ NB633_644.out _; (with_reducible repeat (first | refine blk_drewN ?_ _ | refine blk_drew ?_ | refine blk_alloc ?_ _)); refine blk_far ?_ NB633_644.out _; (with_reducible repeat (first | refine blk_drewN ?_ _ | refine blk_drew ?_ | refine blk_alloc ?_ _)); refine blk_far ?_ NB633_644.out _; (with_reducible repeat (first | refine blk_drewN ?_ _ | refine blk_drew ?_ | refine blk_alloc ?_ _)); exact BK633.out) hb); have n2_ := Aside0.mk (blk_below (g := gb634) (o := .cells #[.int .u64 a5_0, .int .u64 a5_1] 24 (0, 0)) (by (with_reducible repeat (first | refine blk_drewN ?_ _ | refine blk_drew ?_ | refine blk_alloc ?_ _)); refine blk_far ?_ NB634_644.out _; (with_reducible repeat (first | refine blk_drewN ?_ _ | refine blk_drew ?_ | refine blk_alloc ?_ _)); refine blk_far ?_ NB634_644.out _; (with_reducible repeat (first | refine blk_drewN ?_ _ | refine blk_drew ?_ | refine blk_alloc ?_ _)); refine blk_far ?_ NB634_644.out _; (with_reducible repeat (first | refine blk_drewN ?_ _ | refine blk_drew ?_ | refine blk_alloc ?_ _)); exact BK634.out) hb); have n3_ := Aside0.mk (blk_below (g := gb640) (o := .cells #[.int .u64 t637, .int .u64 t638, .int .i64 t639] 28 (0, 0)) (by (with_reducible repeat (first | refine blk_drewN ?_ _ | refine blk_drew ?_ | refine blk_alloc ?_ _)); refine blk_far ?_ NB640_644.out _; (with_reducible repeat (first | refine blk_drewN ?_ _ | refine blk_drew ?_ | refine blk_alloc ?_ _)); refine blk_far ?_ NB640_644.out _; (with_reducible repeat (first | refine blk_drewN ?_ _ | refine blk_drew ?_ | refine blk_alloc ?_ _)); refine blk_far ?_ NB640_644.out _; (with_reducible repeat (first | refine blk_drewN ?_ _ | refine blk_drew ?_ | refine blk_alloc ?_ _)); exact BK640.out) hb); have n4_ := Aside0.mk (blk_below (g := gb644) (o := .cells #[.int .u64 t641, .int .u64 t642, .int .i64 t643] 28 (0, 0)) (by (with_reducible repeat (first | refine blk_drewN ?_ _ | refine blk_drew ?_ | refine blk_alloc ?_ _)); refine blk_put (cs := #[.int .u64 t641, .int .u64 t642, .int .i64 0]) ?_ 2 _ rfl; (with_reducible repeat (first | refine blk_drewN ?_ _ | refine blk_drew ?_ | refine blk_alloc ?_ _)); refine blk_put (cs := #[.int .u64 t641, .int .u64 0, .int .i64 0]) ?_ 1 _ rfl; (with_reducible repeat (first | refine blk_drewN ?_ _ | refine blk_drew ?_ | refine blk_alloc ?_ _)); refine blk_put (cs := #[.int .u64 0, .int .u64 0, .int .i64 0]) ?_ 0 _ rfl; (with_reducible repeat (first | refine blk_drewN ?_ _ | refine blk_drew ?_ | refine blk_alloc ?_ _)); exact BK644.out) hb); have n5_ := Aside0.mk (below_step xG hb); clear BK632; clear BK633; clear BK634; clear BK640; clear BK644; clear HB; have BK632 := n0_; have BK633 := n1_; have BK634 := n2_; have BK640 := n3_; have BK644 := n4_; have HB := n5_; clear n0_ n1_ n2_ n3_ n4_ n5_; (try clear hb); (try clear hb2); (try clear hk); (try clear hi)) | ((with_reducible refine gate_dst (N := 18) rfl ?_); refine box_event ?hg (N := 18) ?hd (cs := #[.int .u64 0, .int .u64 0, .int .i64 0]) (t := 28) ?hr ?_; (case hd => rfl); (case hg => rfl); (case hr => first | (go_simp; done) | (go_simp; rfl)); intro gb648 hg w39 hbox hb; have n0_ := xP BK632.out hb; have n1_ := xP BK633.out hb; have n2_ := xP BK634.out hb; have n3_ := xP BK640.out hb; have n4_ := xP BK644.out hb; have n5_ := Aside0.mk (below_step xG hb); have n6_ := Aside0.mk (hbox); have n7_ := xT w hg; have n8_ := xT w hg; have n9_ := Aside0.mk ((xNl BK632.out hg : gb632 ≠ gb648)); have n10_ := Aside0.mk ((xNr BK632.out hg : gb648 ≠ gb632)); have n11_ := Aside0.mk ((xNl BK633.out hg : gb633 ≠ gb648)); have n12_ := Aside0.mk ((xNr BK633.out hg : gb648 ≠ gb633)); have n13_ := Aside0.mk ((xNl BK634.out hg : gb634 ≠ gb648)); have n14_ := Aside0.mk ((xNr BK634.out hg : gb648 ≠ gb634)); have n15_ := Aside0.mk ((xNl BK640.out hg : gb640 ≠ gb648)); have n16_ := Aside0.mk ((xNr BK640.out hg : gb648 ≠ gb640)); have n17_ := Aside0.mk ((xNl BK644.out hg : gb644 ≠ gb648)); have n18_ := Aside0.mk ((xNr BK644.out hg : gb648 ≠ gb644)); clear BK632; clear BK633; clear BK634; clear BK640; clear BK644; clear HB; have BK632 := n0_; have BK633 := n1_; have BK634 := n2_; have BK640 := n3_; have BK644 := n4_; have HB := n5_; have BK648 := n6_; have GW648 := n7_; have GE648 := n8_; have NB632_648 := n9_; have NB648_632 := n10_; have NB633_648 := n11_; have NB648_633 := n12_; have NB634_648 := n13_; have NB648_634 := n14_; have NB640_648 := n15_; have NB648_640 := n16_; have NB644_648 := n17_; have NB648_644 := n18_; clear n0_ n1_ n2_ n3_ n4_ n5_ n6_ n7_ n8_ n9_ n10_ n11_ n12_ n13_ n14_ n15_ n16_ n17_ n18_; clear hb hbox hg; have hnb40 := NB648_632.out; have hnc40 := NB632_648.out; have hnb41 := NB648_633.out; have hnc41 := NB633_648.out; have hnb42 := NB648_634.out; have hnc42 := NB634_648.out; have hnb43 := NB648_640.out; have hnc43 := NB640_648.out; have hnb44 := NB648_644.out; have hnc44 := NB644_648.out; have hcz45_0 : w39.cell? ⟨gb648, 0, none⟩ = some (.int .u64 0) := (blk_cell BK648.out 0).trans rfl; have hcz45_1 : w39.cell? ⟨gb648, 1, none⟩ = some (.int .u64 0) := (blk_cell BK648.out 1).trans rfl; have hcz45_2 : w39.cell? ⟨gb648, 2, none⟩ = some (.int .i64 0) := (blk_cell BK648.out 2).trans rfl; have hfz45_0 := blk_frozen BK648.out 0; have hfz45_1 := blk_frozen BK648.out 1; have hfz45_2 := blk_frozen BK648.out 2))
  (try simp only [Act.put, List.setIfInBounds_toArray, List.set_cons_zero, List.set_cons_succ])
  go_cut [53] (fun v53 wc => ∃ (kq : Nat) (x53_13 : Bool), v53 = .bool x53_13 ∧ Aside0 (turnpikelaw3_PrefixOrder.j0 kq x53_13 t637 t638 t639 t641 t642 t643 t645 t646 t647 = some r) ∧ Aside0 (kq ≤ k) ∧ Aside0 (wc.heap[gb632]? = some (.cells #[.int .u64 a1_0, .int .u64 a1_1] 24 (0, 0))) ∧ Aside0 (wc.heap[gb633]? = some (.cells #[.int .u64 a3_0, .int .u64 a3_1] 24 (0, 0))) ∧ Aside0 (wc.heap[gb634]? = some (.cells #[.int .u64 a5_0, .int .u64 a5_1] 24 (0, 0))) ∧ Aside0 (wc.heap[gb640]? = some (.cells #[.int .u64 t637, .int .u64 t638, .int .i64 t639] 28 (0, 0))) ∧ Aside0 (wc.heap[gb644]? = some (.cells #[.int .u64 t641, .int .u64 t642, .int .i64 t643] 28 (0, 0))) ∧ Aside0 (wc.heap[gb648]? = some (.cells #[.int .u64 t645, .int .u64 t646, .int .i64 t647] 28 (0, 0))) ∧ Aside0 (Below w.heap.size w wc))
  case first =>
   have H := HC14.out
   clear HC14
   replace H := Option.bind_eq_some_iff.mp H
   obtain ⟨t649, A460, H⟩ := H
   replace H : ((prefix_Cmp.f t641 t642 t643 t637 t638 t639).bind fun t650 => (if t649 = (wrap64 (-t650)) then ((prefix_Cmp.f t637 t638 t639 t641 t642 t643).bind fun t651 => (turnpikelaw3_PrefixOrder.j0 k ((t651 == 0) != ((t637 == t641 && (t638 == t642)) && (t639 == t643))) t637 t638 t639 t641 t642 t643 t645 t646 t647)) else (turnpikelaw3_PrefixOrder.j0 k true t637 t638 t639 t641 t642 t643 t645 t646 t647))) = some r := H
   have A46 := Aside0.mk A460
   clear A460
   replace H := Option.bind_eq_some_iff.mp H
   obtain ⟨t650, A470, H⟩ := H
   replace H : (if t649 = (wrap64 (-t650)) then ((prefix_Cmp.f t637 t638 t639 t641 t642 t643).bind fun t651 => (turnpikelaw3_PrefixOrder.j0 k ((t651 == 0) != ((t637 == t641 && (t638 == t642)) && (t639 == t643))) t637 t638 t639 t641 t642 t643 t645 t646 t647)) else (turnpikelaw3_PrefixOrder.j0 k true t637 t638 t639 t641 t642 t643 t645 t646 t647)) = some r := H
   have A47 := Aside0.mk A470
   clear A470
   by_cases c48 : t649 = (wrap64 (-t650))
   ·rw [if_pos c48] at H
    have c48b0 : (t649 == (wrap64 (-t650))) = true := beq_iff_eq.mpr c48
    have c48b1 : (t649 != (wrap64 (-t650))) = false := bne_eq_false_iff_eq.mpr c48
    clear c48
    (first | rw [c48b0] | (simp only [i64_w, i32_w]; rw [c48b0]) | skip)
    replace H := Option.bind_eq_some_iff.mp H
    obtain ⟨t651, A490, H⟩ := H
    replace H : (turnpikelaw3_PrefixOrder.j0 k ((t651 == 0) != ((t637 == t641 && (t638 == t642)) && (t639 == t643))) t637 t638 t639 t641 t642 t643 t645 t646 t647) = some r := H
    have A49 := Aside0.mk A490
    clear A490
    have H' := Aside0.mk H
    clear H
    try go_wp2
    have n0_ : Aside0 ((((w39.setCell ⟨gb648, 0, none⟩ (.int .u64 t645)).setCell ⟨gb648, 1, none⟩ (.int .u64 t646)).setCell ⟨gb648, 2, none⟩ (.int .i64 t647)).heap[gb632]? = some (.cells #[.int .u64 a1_0, .int .u64 a1_1] 24 (0, 0))) := ⟨by (with_reducible repeat (first | refine blk_drewN ?_ _ | refine blk_drew ?_ | refine blk_alloc ?_ _)); refine blk_far ?_ NB632_648.out _; (with_reducible repeat (first | refine blk_drewN ?_ _ | refine blk_drew ?_ | refine blk_alloc ?_ _)); refine blk_far ?_ NB632_648.out _; (with_reducible repeat (first | refine blk_drewN ?_ _ | refine blk_drew ?_ | refine blk_alloc ?_ _)); refine blk_far ?_ NB632_648.out _; (with_reducible repeat (first | refine blk_drewN ?_ _ | refine blk_drew ?_ | refine blk_alloc ?_ _)); exact BK632.out⟩
    have n1_ : Aside0 ((((w39.setCell ⟨gb648, 0, none⟩ (.int .u64 t645)).setCell ⟨gb648, 1, none⟩ (.int .u64 t646)).setCell ⟨gb648, 2, none⟩ (.int .i64 t647)).heap[gb633]? = some (.cells #[.int .u64 a3_0, .int .u64 a3_1] 24 (0, 0))) := ⟨by (with_reducible repeat (first | refine blk_drewN ?_ _ | refine blk_drew ?_ | refine blk_alloc ?_ _)); refine blk_far ?_ NB633_648.out _; (with_reducible repeat (first | refine blk_drewN ?_ _ | refine blk_drew ?_ | refine blk_alloc ?_ _)); refine blk_far ?_ NB633_648.out _; (with_reducible repeat (first | refine blk_drewN ?_ _ | refine blk_drew ?_ | refine blk_alloc ?_ _)); refine blk_far ?_ NB633_648.out _; (with_reducible repeat (first | refine blk_drewN ?_ _ | refine blk_drew ?_ | refine blk_alloc ?_ _)); exact BK633.out⟩
    have n2_ : Aside0 ((((w39.setCell ⟨gb648, 0, none⟩ (.int .u64 t645)).setCell ⟨gb648, 1, none⟩ (.int .u64 t646)).setCell ⟨gb648, 2, none⟩ (.int .i64 t647)).heap[gb634]? = some (.cells #[.int .u64 a5_0, .int .u64 a5_1] 24 (0, 0))) := ⟨by (with_reducible repeat (first | refine blk_drewN ?_ _ | refine blk_drew ?_ | refine blk_alloc ?_ _)); refine blk_far ?_ NB634_648.out _; (with_reducible repeat (first | refine blk_drewN ?_ _ | refine blk_drew ?_ | refine blk_alloc ?_ _)); refine blk_far ?_ NB634_648.out _; (with_reducible repeat (first | refine blk_drewN ?_ _ | refine blk_drew ?_ | refine blk_alloc ?_ _)); refine blk_far ?_ NB634_648.out _; (with_reducible repeat (first | refine blk_drewN ?_ _ | refine blk_drew ?_ | refine blk_alloc ?_ _)); exact BK634.out⟩
    have n3_ : Aside0 ((((w39.setCell ⟨gb648, 0, none⟩ (.int .u64 t645)).setCell ⟨gb648, 1, none⟩ (.int .u64 t646)).setCell ⟨gb648, 2, none⟩ (.int .i64 t647)).heap[gb640]? = some (.cells #[.int .u64 t637, .int .u64 t638, .int .i64 t639] 28 (0, 0))) := ⟨by (with_reducible repeat (first | refine blk_drewN ?_ _ | refine blk_drew ?_ | refine blk_alloc ?_ _)); refine blk_far ?_ NB640_648.out _; (with_reducible repeat (first | refine blk_drewN ?_ _ | refine blk_drew ?_ | refine blk_alloc ?_ _)); refine blk_far ?_ NB640_648.out _; (with_reducible repeat (first | refine blk_drewN ?_ _ | refine blk_drew ?_ | refine blk_alloc ?_ _)); refine blk_far ?_ NB640_648.out _; (with_reducible repeat (first | refine blk_drewN ?_ _ | refine blk_drew ?_ | refine blk_alloc ?_ _)); exact BK640.out⟩
    have n4_ : Aside0 ((((w39.setCell ⟨gb648, 0, none⟩ (.int .u64 t645)).setCell ⟨gb648, 1, none⟩ (.int .u64 t646)).setCell ⟨gb648, 2, none⟩ (.int .i64 t647)).heap[gb644]? = some (.cells #[.int .u64 t641, .int .u64 t642, .int .i64 t643] 28 (0, 0))) := ⟨by (with_reducible repeat (first | refine blk_drewN ?_ _ | refine blk_drew ?_ | refine blk_alloc ?_ _)); refine blk_far ?_ NB644_648.out _; (with_reducible repeat (first | refine blk_drewN ?_ _ | refine blk_drew ?_ | refine blk_alloc ?_ _)); refine blk_far ?_ NB644_648.out _; (with_reducible repeat (first | refine blk_drewN ?_ _ | refine blk_drew ?_ | refine blk_alloc ?_ _)); refine blk_far ?_ NB644_648.out _; (with_reducible repeat (first | refine blk_drewN ?_ _ | refine blk_drew ?_ | refine blk_alloc ?_ _)); exact BK644.out⟩
    have n5_ : Aside0 ((((w39.setCell ⟨gb648, 0, none⟩ (.int .u64 t645)).setCell ⟨gb648, 1, none⟩ (.int .u64 t646)).setCell ⟨gb648, 2, none⟩ (.int .i64 t647)).heap[gb648]? = some (.cells #[.int .u64 t645, .int .u64 t646, .int .i64 t647] 28 (0, 0))) := ⟨by (with_reducible repeat (first | refine blk_drewN ?_ _ | refine blk_drew ?_ | refine blk_alloc ?_ _)); refine blk_put (cs := #[.int .u64 t645, .int .u64 t646, .int .i64 0]) ?_ 2 _ rfl; (with_reducible repeat (first | refine blk_drewN ?_ _ | refine blk_drew ?_ | refine blk_alloc ?_ _)); refine blk_put (cs := #[.int .u64 t645, .int .u64 0, .int .i64 0]) ?_ 1 _ rfl; (with_reducible repeat (first | refine blk_drewN ?_ _ | refine blk_drew ?_ | refine blk_alloc ?_ _)); refine blk_put (cs := #[.int .u64 0, .int .u64 0, .int .i64 0]) ?_ 0 _ rfl; (with_reducible repeat (first | refine blk_drewN ?_ _ | refine blk_drew ?_ | refine blk_alloc ?_ _)); exact BK648.out⟩
    have n6_ : Aside0 (Below w.heap.size w (((w39.setCell ⟨gb648, 0, none⟩ (.int .u64 t645)).setCell ⟨gb648, 1, none⟩ (.int .u64 t646)).setCell ⟨gb648, 2, none⟩ (.int .i64 t647))) := ⟨xG⟩
    (try clear BK632)
    (try clear BK633)
    (try clear BK634)
    (try clear BK640)
    (try clear BK644)
    (try clear BK648)
    (try clear HB)
    generalize (((w39.setCell ⟨gb648, 0, none⟩ (.int .u64 t645)).setCell ⟨gb648, 1, none⟩ (.int .u64 t646)).setCell ⟨gb648, 2, none⟩ (.int .i64 t647)) = w50 at n0_ n1_ n2_ n3_ n4_ n5_ n6_ ⊢
    have BK632 := n0_
    have BK633 := n1_
    have BK634 := n2_
    have BK640 := n3_
    have BK644 := n4_
    have BK648 := n5_
    have HB := n6_
    clear n0_ n1_ n2_ n3_ n4_ n5_ n6_
    have n0_ := Aside0.mk (blk_drew BK632.out)
    have n1_ := Aside0.mk (blk_drew BK633.out)
    have n2_ := Aside0.mk (blk_drew BK634.out)
    have n3_ := Aside0.mk (blk_drew BK640.out)
    have n4_ := Aside0.mk (blk_drew BK644.out)
    have n5_ := Aside0.mk (blk_drew BK648.out)
    have n6_ := Aside0.mk (below_drew1 HB.out)
    clear BK632
    clear BK633
    clear BK634
    clear BK640
    clear BK644
    clear BK648
    clear HB
    have BK632 := n0_
    have BK633 := n1_
    have BK634 := n2_
    have BK640 := n3_
    have BK644 := n4_
    have BK648 := n5_
    have HB := n6_
    clear n0_ n1_ n2_ n3_ n4_ n5_ n6_
    refine start_ (n := 18) (S := fun w' => w'.cell? ⟨gb640, 0, none⟩ = some (.int .u64 t637) ∧ w'.cell? ⟨gb640, 1, none⟩ = some (.int .u64 t638) ∧ w'.cell? ⟨gb640, 2, none⟩ = some (.int .i64 t639) ∧ w'.cell? ⟨gb644, 0, none⟩ = some (.int .u64 t641) ∧ w'.cell? ⟨gb644, 1, none⟩ = some (.int .u64 t642) ∧ w'.cell? ⟨gb644, 2, none⟩ = some (.int .i64 t643)) (ds := []) #[false, false, false, false, false, false, false, false, false, false, false, false, false, false, false, false, false, false] (by kernel_rfl) rfl rfl ⟨(blk_cell BK640.out 0).trans rfl, (blk_cell BK640.out 1).trans rfl, (blk_cell BK640.out 2).trans rfl, (blk_cell BK644.out 0).trans rfl, (blk_cell BK644.out 1).trans rfl, (blk_cell BK644.out 2).trans rfl⟩ (fun hHeld => ?_); refine with_tabW turnpikelaw3_PrefixOrder.tab7 turnpikelaw3_PrefixOrder.bits7 (fun HT_ HW_ => ?_)
    generalize w50.drew = w51 at BK632 BK633 BK634 BK640 BK644 BK648 HB hHeld ⊢
    refine take_ (i := 0) (N := some 36) (v := ?_) (a' := ?_) #[true, false, false, false, false, false, false, false, false, false, false, false, false, false, false, false, false, false] rfl rfl (take_ofW HT_.out HW_.out (by kernel_rfl)) (fun _ _ _ h => h) (Or.inl ⟨by rfl, ?_⟩) hHeld ?_ ?_
    rotate_left
    ·rintro w' ⟨s0, s1, s2, s3, s4, s5⟩
     go_simp
     with_reducible rfl
    rotate_left
    ·simp only [Act.put, List.setIfInBounds_toArray, List.set_cons_zero, List.set_cons_succ, i64_w, i32_w]
     rfl
    refine take_ (i := 1) (N := some 37) (v := ?_) (a' := ?_) #[true, true, false, false, false, false, false, false, false, false, false, false, false, false, false, false, false, false] rfl rfl (take_ofW HT_.out HW_.out (by kernel_rfl)) (fun _ _ _ h => h) (Or.inl ⟨by rfl, ?_⟩) hHeld ?_ ?_
    rotate_left
    ·rintro w' ⟨s0, s1, s2, s3, s4, s5⟩
     go_simp
     with_reducible rfl
    rotate_left
    ·simp only [Act.put, List.setIfInBounds_toArray, List.set_cons_zero, List.set_cons_succ, i64_w, i32_w]
     rfl
    refine take_ (i := 3) (N := some 39) (v := ?_) (a' := ?_) #[true, true, false, true, false, false, false, false, false, false, false, false, false, false, false, false, false, false] rfl rfl (take_ofW HT_.out HW_.out (by kernel_rfl)) (fun _ _ _ h => h) (Or.inl ⟨by rfl, ?_⟩) hHeld ?_ ?_
    rotate_left
    ·rintro w' ⟨s0, s1, s2, s3, s4, s5⟩
     go_simp
     with_reducible rfl
    rotate_left
    ·simp only [Act.put, List.setIfInBounds_toArray, List.set_cons_zero, List.set_cons_succ, i64_w, i32_w]
     rfl
    refine take_ (i := 4) (N := some 40) (v := ?_) (a' := ?_) #[true, true, false, true, true, false, false, false, false, false, false, false, false, false, false, false, false, false] rfl rfl (take_ofW HT_.out HW_.out (by kernel_rfl)) (fun _ _ _ h => h) (Or.inl ⟨by rfl, ?_⟩) hHeld ?_ ?_
    rotate_left
    ·rintro w' ⟨s0, s1, s2, s3, s4, s5⟩
     go_simp
     with_reducible rfl
    rotate_left
    ·simp only [Act.put, List.setIfInBounds_toArray, List.set_cons_zero, List.set_cons_succ, i64_w, i32_w]
     rfl
    refine one_ (i := 2) (N := some 38) #[true, true, true, true, true, false, false, false, false, false, false, false, false, false, false, false, false, false] rfl rfl (one_of HT_.out (by kernel_rfl)) (by decide) (fun K hK => ?_)
    refine goes_ Tryd.func34 (by kernel_rfl) rfl #[.agg #[.int .u64 t637, .int .u64 t638, .int .i64 t639], .agg #[.int .u64 t641, .int .u64 t642, .int .i64 t643]] (by rfl) rfl rfl xM ?_
    with_reducible refine (prefix_Cmp.calls t637 t638 t639 t641 t642 t643 t649 _ A46.out).mono ?_
    rintro e w52 ⟨rfl, hb⟩
    refine ⟨_, rfl, ?_⟩
    have n0_ := xP BK632.out hb
    have n1_ := xP BK633.out hb
    have n2_ := xP BK634.out hb
    have n3_ := xP BK640.out hb
    have n4_ := xP BK644.out hb
    have n5_ := xP BK648.out hb
    have n6_ := Aside0.mk (below_step xG hb)
    clear BK632
    clear BK633
    clear BK634
    clear BK640
    clear BK644
    clear BK648
    clear HB
    have BK632 := n0_
    have BK633 := n1_
    have BK634 := n2_
    have BK640 := n3_
    have BK644 := n4_
    have BK648 := n5_
    have HB := n6_
    clear n0_ n1_ n2_ n3_ n4_ n5_ n6_
    (try clear hb)
    (try clear hb2)
    (try clear hk)
    (try clear hi)
    refine hK.out _ _ ⟨(blk_cell BK640.out 0).trans rfl, (blk_cell BK640.out 1).trans rfl, (blk_cell BK640.out 2).trans rfl, (blk_cell BK644.out 0).trans rfl, (blk_cell BK644.out 1).trans rfl, (blk_cell BK644.out 2).trans rfl⟩ (fun hHeld => ?_)
    clear hK K
    refine norm_ (a' := ?_) ?_ ?_
    rotate_left
    ·show Act.put _ (some 38) _ = _
     simp only [Act.put, List.setIfInBounds_toArray, List.set_cons_zero, List.set_cons_succ, i64_w, i32_w]
     rfl
    refine one_ (i := 5) (N := some 41) #[true, true, true, true, true, true, false, false, false, false, false, false, false, false, false, false, false, false] rfl rfl (one_of HT_.out (by kernel_rfl)) (by decide) (fun K hK => ?_)
    refine goes_ Tryd.func34 (by kernel_rfl) rfl #[.agg #[.int .u64 t641, .int .u64 t642, .int .i64 t643], .agg #[.int .u64 t637, .int .u64 t638, .int .i64 t639]] (by rfl) rfl rfl xM ?_
    with_reducible refine (prefix_Cmp.calls t641 t642 t643 t637 t638 t639 t650 _ A47.out).mono ?_
    rintro e w53 ⟨rfl, hb⟩
    refine ⟨_, rfl, ?_⟩
    have n0_ := xP BK632.out hb
    have n1_ := xP BK633.out hb
    have n2_ := xP BK634.out hb
    have n3_ := xP BK640.out hb
    have n4_ := xP BK644.out hb
    have n5_ := xP BK648.out hb
    have n6_ := Aside0.mk (below_step xG hb)
    clear BK632
    clear BK633
    clear BK634
    clear BK640
    clear BK644
    clear BK648
    clear HB
    have BK632 := n0_
    have BK633 := n1_
    have BK634 := n2_
    have BK640 := n3_
    have BK644 := n4_
    have BK648 := n5_
    have HB := n6_
    clear n0_ n1_ n2_ n3_ n4_ n5_ n6_
    (try clear hb)
    (try clear hb2)
    (try clear hk)
    (try clear hi)
    refine hK.out _ _ ⟨(blk_cell BK640.out 0).trans rfl, (blk_cell BK640.out 1).trans rfl, (blk_cell BK640.out 2).trans rfl, (blk_cell BK644.out 0).trans rfl, (blk_cell BK644.out 1).trans rfl, (blk_cell BK644.out 2).trans rfl⟩ (fun hHeld => ?_)
    clear hK K
    refine norm_ (a' := ?_) ?_ ?_
    rotate_left
    ·show Act.put _ (some 41) _ = _
     simp only [Act.put, List.setIfInBounds_toArray, List.set_cons_zero, List.set_cons_succ, i64_w, i32_w]
     rfl
    refine pure_ (i := 6) (N := some 42) (v := ?_) (a' := ?_) #[true, true, true, true, true, true, true, false, false, false, false, false, false, false, false, false, false, false] rfl rfl (any_of HT_.out (by kernel_rfl)) (fun _ _ _ h => h) (Or.inl ⟨by rfl, ?_⟩) ?_ ?_
    rotate_left
    ·intro w'
     go_simp
     with_reducible rfl
    rotate_left
    ·simp only [Act.put, List.setIfInBounds_toArray, List.set_cons_zero, List.set_cons_succ, i64_w, i32_w]
     rfl
    refine pure_ (i := 7) (N := some 43) (v := ?_) (a' := ?_) #[true, true, true, true, true, true, true, true, false, false, false, false, false, false, false, false, false, false] rfl rfl (any_of HT_.out (by kernel_rfl)) (fun _ _ _ h => h) (Or.inl ⟨by rfl, ?_⟩) ?_ ?_
    rotate_left
    ·intro w'
     go_simp
     with_reducible rfl
    rotate_left
    ·simp only [Act.put, List.setIfInBounds_toArray, List.set_cons_zero, List.set_cons_succ, i64_w, i32_w]
     rfl
    refine pure_ (i := 8) (N := some 44) (v := ?_) (a' := ?_) #[true, true, true, true, true, true, true, true, true, false, false, false, false, false, false, false, false, false] rfl rfl (any_of HT_.out (by kernel_rfl)) (fun _ _ _ h => h) (Or.inl ⟨by rfl, ?_⟩) ?_ ?_
    rotate_left
    ·intro w'
     go_simp
     with_reducible rfl
    rotate_left
    ·simp only [Act.put, List.setIfInBounds_toArray, List.set_cons_zero, List.set_cons_succ, i64_w, i32_w]
     rfl
    refine take_ (i := 9) (N := some 45) (v := ?_) (a' := ?_) #[true, true, true, true, true, true, true, true, true, true, false, false, false, false, false, false, false, false] rfl rfl (take_ofW HT_.out HW_.out (by kernel_rfl)) (fun _ _ _ h => h) (Or.inl ⟨by rfl, ?_⟩) hHeld ?_ ?_
    rotate_left
    ·rintro w' ⟨s0, s1, s2, s3, s4, s5⟩
     go_simp
     with_reducible rfl
    rotate_left
    ·simp only [Act.put, List.setIfInBounds_toArray, List.set_cons_zero, List.set_cons_succ, i64_w, i32_w]
     rfl
    refine take_ (i := 10) (N := some 46) (v := ?_) (a' := ?_) #[true, true, true, true, true, true, true, true, true, true, true, false, false, false, false, false, false, false] rfl rfl (take_ofW HT_.out HW_.out (by kernel_rfl)) (fun _ _ _ h => h) (Or.inl ⟨by rfl, ?_⟩) hHeld ?_ ?_
    rotate_left
    ·rintro w' ⟨s0, s1, s2, s3, s4, s5⟩
     go_simp
     with_reducible rfl
    rotate_left
    ·simp only [Act.put, List.setIfInBounds_toArray, List.set_cons_zero, List.set_cons_succ, i64_w, i32_w]
     rfl
    refine take_ (i := 13) (N := some 49) (v := ?_) (a' := ?_) #[true, true, true, true, true, true, true, true, true, true, true, false, false, true, false, false, false, false] rfl rfl (take_ofW HT_.out HW_.out (by kernel_rfl)) (fun _ _ _ h => h) (Or.inl ⟨by rfl, ?_⟩) hHeld ?_ ?_
    rotate_left
    ·rintro w' ⟨s0, s1, s2, s3, s4, s5⟩
     go_simp
     with_reducible rfl
    rotate_left
    ·simp only [Act.put, List.setIfInBounds_toArray, List.set_cons_zero, List.set_cons_succ, i64_w, i32_w]
     rfl
    refine take_ (i := 14) (N := some 50) (v := ?_) (a' := ?_) #[true, true, true, true, true, true, true, true, true, true, true, false, false, true, true, false, false, false] rfl rfl (take_ofW HT_.out HW_.out (by kernel_rfl)) (fun _ _ _ h => h) (Or.inl ⟨by rfl, ?_⟩) hHeld ?_ ?_
    rotate_left
    ·rintro w' ⟨s0, s1, s2, s3, s4, s5⟩
     go_simp
     with_reducible rfl
    rotate_left
    ·simp only [Act.put, List.setIfInBounds_toArray, List.set_cons_zero, List.set_cons_succ, i64_w, i32_w]
     rfl
    refine pure_ (i := 15) (N := some 51) (v := ?_) (a' := ?_) #[true, true, true, true, true, true, true, true, true, true, true, false, false, true, true, true, false, false] rfl rfl (any_of HT_.out (by kernel_rfl)) (fun _ _ _ h => h) (Or.inl ⟨by rfl, ?_⟩) ?_ ?_
    rotate_left
    ·intro w'
     go_simp
     with_reducible rfl
    rotate_left
    ·simp only [Act.put, List.setIfInBounds_toArray, List.set_cons_zero, List.set_cons_succ, i64_w, i32_w]
     rfl
    refine one_ (i := 11) (N := some 47) #[true, true, true, true, true, true, true, true, true, true, true, true, false, true, true, true, false, false] rfl rfl (one_of HT_.out (by kernel_rfl)) (by decide) (fun K hK => ?_)
    refine goes_ Tryd.func34 (by kernel_rfl) rfl #[.agg #[.int .u64 t637, .int .u64 t638, .int .i64 t639], .agg #[.int .u64 t641, .int .u64 t642, .int .i64 t643]] (by rfl) rfl rfl xM ?_
    with_reducible refine (prefix_Cmp.calls t637 t638 t639 t641 t642 t643 t651 _ A49.out).mono ?_
    rintro e w54 ⟨rfl, hb⟩
    refine ⟨_, rfl, ?_⟩
    have n0_ := xP BK632.out hb
    have n1_ := xP BK633.out hb
    have n2_ := xP BK634.out hb
    have n3_ := xP BK640.out hb
    have n4_ := xP BK644.out hb
    have n5_ := xP BK648.out hb
    have n6_ := Aside0.mk (below_step xG hb)
    clear BK632
    clear BK633
    clear BK634
    clear BK640
    clear BK644
    clear BK648
    clear HB
    have BK632 := n0_
    have BK633 := n1_
    have BK634 := n2_
    have BK640 := n3_
    have BK644 := n4_
    have BK648 := n5_
    have HB := n6_
    clear n0_ n1_ n2_ n3_ n4_ n5_ n6_
    (try clear hb)
    (try clear hb2)
    (try clear hk)
    (try clear hi)
    refine hK.out _ _ ⟨(blk_cell BK640.out 0).trans rfl, (blk_cell BK640.out 1).trans rfl, (blk_cell BK640.out 2).trans rfl, (blk_cell BK644.out 0).trans rfl, (blk_cell BK644.out 1).trans rfl, (blk_cell BK644.out 2).trans rfl⟩ (fun hHeld => ?_)
    clear hK K
    refine norm_ (a' := ?_) ?_ ?_
    rotate_left
    ·show Act.put _ (some 47) _ = _
     simp only [Act.put, List.setIfInBounds_toArray, List.set_cons_zero, List.set_cons_succ, i64_w, i32_w]
     rfl
    refine pure_ (i := 12) (N := some 48) (v := ?_) (a' := ?_) #[true, true, true, true, true, true, true, true, true, true, true, true, true, true, true, true, false, false] rfl rfl (any_of HT_.out (by kernel_rfl)) (fun _ _ _ h => h) (Or.inl ⟨by rfl, ?_⟩) ?_ ?_
    rotate_left
    ·intro w'
     go_simp
     with_reducible rfl
    rotate_left
    ·simp only [Act.put, List.setIfInBounds_toArray, List.set_cons_zero, List.set_cons_succ, i64_w, i32_w]
     rfl
    refine pure_ (i := 16) (N := some 52) (v := ?_) (a' := ?_) #[true, true, true, true, true, true, true, true, true, true, true, true, true, true, true, true, true, false] rfl rfl (any_of HT_.out (by kernel_rfl)) (fun _ _ _ h => h) (Or.inl ⟨by rfl, ?_⟩) ?_ ?_
    rotate_left
    ·intro w'
     go_simp
     with_reducible rfl
    rotate_left
    ·simp only [Act.put, List.setIfInBounds_toArray, List.set_cons_zero, List.set_cons_succ, i64_w, i32_w]
     rfl
    refine pure_ (i := 17) (N := some 53) (v := ?_) (a' := ?_) #[true, true, true, true, true, true, true, true, true, true, true, true, true, true, true, true, true, true] rfl rfl (any_of HT_.out (by kernel_rfl)) (fun _ _ _ h => h) (Or.inl ⟨by rfl, ?_⟩) ?_ ?_
    rotate_left
    ·intro w'
     go_simp
     with_reducible rfl
    rotate_left
    ·simp only [Act.put, List.setIfInBounds_toArray, List.set_cons_zero, List.set_cons_succ, i64_w, i32_w]
     rfl
    refine done_ (done_of HT_.out (by kernel_rfl)) ?_
    try go_wp2
    go_meet
    case rel => exact ⟨_, (((t651 == 0) != ((t637 == t641 && (t638 == t642)) && (t639 == t643)))), xV, H', ⟨by first | omega | exact Nat.le_refl _⟩, ⟨xK BK632.out⟩, ⟨xK BK633.out⟩, ⟨xK BK634.out⟩, ⟨xK BK640.out⟩, ⟨xK BK644.out⟩, ⟨xK BK648.out⟩, ⟨xG⟩⟩
   ·rw [if_neg c48] at H
    have c48b0 : (t649 == (wrap64 (-t650))) = false := beq_eq_false_iff_ne.mpr c48
    have c48b1 : (t649 != (wrap64 (-t650))) = true := bne_iff_ne.mpr c48
    (first | rw [c48b0] | (simp only [i64_w, i32_w]; rw [c48b0]) | skip)
    have H' := Aside0.mk H
    clear H
    try go_wp2
    have n0_ : Aside0 ((((w39.setCell ⟨gb648, 0, none⟩ (.int .u64 t645)).setCell ⟨gb648, 1, none⟩ (.int .u64 t646)).setCell ⟨gb648, 2, none⟩ (.int .i64 t647)).heap[gb632]? = some (.cells #[.int .u64 a1_0, .int .u64 a1_1] 24 (0, 0))) := ⟨by (with_reducible repeat (first | refine blk_drewN ?_ _ | refine blk_drew ?_ | refine blk_alloc ?_ _)); refine blk_far ?_ NB632_648.out _; (with_reducible repeat (first | refine blk_drewN ?_ _ | refine blk_drew ?_ | refine blk_alloc ?_ _)); refine blk_far ?_ NB632_648.out _; (with_reducible repeat (first | refine blk_drewN ?_ _ | refine blk_drew ?_ | refine blk_alloc ?_ _)); refine blk_far ?_ NB632_648.out _; (with_reducible repeat (first | refine blk_drewN ?_ _ | refine blk_drew ?_ | refine blk_alloc ?_ _)); exact BK632.out⟩
    have n1_ : Aside0 ((((w39.setCell ⟨gb648, 0, none⟩ (.int .u64 t645)).setCell ⟨gb648, 1, none⟩ (.int .u64 t646)).setCell ⟨gb648, 2, none⟩ (.int .i64 t647)).heap[gb633]? = some (.cells #[.int .u64 a3_0, .int .u64 a3_1] 24 (0, 0))) := ⟨by (with_reducible repeat (first | refine blk_drewN ?_ _ | refine blk_drew ?_ | refine blk_alloc ?_ _)); refine blk_far ?_ NB633_648.out _; (with_reducible repeat (first | refine blk_drewN ?_ _ | refine blk_drew ?_ | refine blk_alloc ?_ _)); refine blk_far ?_ NB633_648.out _; (with_reducible repeat (first | refine blk_drewN ?_ _ | refine blk_drew ?_ | refine blk_alloc ?_ _)); refine blk_far ?_ NB633_648.out _; (with_reducible repeat (first | refine blk_drewN ?_ _ | refine blk_drew ?_ | refine blk_alloc ?_ _)); exact BK633.out⟩
    have n2_ : Aside0 ((((w39.setCell ⟨gb648, 0, none⟩ (.int .u64 t645)).setCell ⟨gb648, 1, none⟩ (.int .u64 t646)).setCell ⟨gb648, 2, none⟩ (.int .i64 t647)).heap[gb634]? = some (.cells #[.int .u64 a5_0, .int .u64 a5_1] 24 (0, 0))) := ⟨by (with_reducible repeat (first | refine blk_drewN ?_ _ | refine blk_drew ?_ | refine blk_alloc ?_ _)); refine blk_far ?_ NB634_648.out _; (with_reducible repeat (first | refine blk_drewN ?_ _ | refine blk_drew ?_ | refine blk_alloc ?_ _)); refine blk_far ?_ NB634_648.out _; (with_reducible repeat (first | refine blk_drewN ?_ _ | refine blk_drew ?_ | refine blk_alloc ?_ _)); refine blk_far ?_ NB634_648.out _; (with_reducible repeat (first | refine blk_drewN ?_ _ | refine blk_drew ?_ | refine blk_alloc ?_ _)); exact BK634.out⟩
    have n3_ : Aside0 ((((w39.setCell ⟨gb648, 0, none⟩ (.int .u64 t645)).setCell ⟨gb648, 1, none⟩ (.int .u64 t646)).setCell ⟨gb648, 2, none⟩ (.int .i64 t647)).heap[gb640]? = some (.cells #[.int .u64 t637, .int .u64 t638, .int .i64 t639] 28 (0, 0))) := ⟨by (with_reducible repeat (first | refine blk_drewN ?_ _ | refine blk_drew ?_ | refine blk_alloc ?_ _)); refine blk_far ?_ NB640_648.out _; (with_reducible repeat (first | refine blk_drewN ?_ _ | refine blk_drew ?_ | refine blk_alloc ?_ _)); refine blk_far ?_ NB640_648.out _; (with_reducible repeat (first | refine blk_drewN ?_ _ | refine blk_drew ?_ | refine blk_alloc ?_ _)); refine blk_far ?_ NB640_648.out _; (with_reducible repeat (first | refine blk_drewN ?_ _ | refine blk_drew ?_ | refine blk_alloc ?_ _)); exact BK640.out⟩
    have n4_ : Aside0 ((((w39.setCell ⟨gb648, 0, none⟩ (.int .u64 t645)).setCell ⟨gb648, 1, none⟩ (.int .u64 t646)).setCell ⟨gb648, 2, none⟩ (.int .i64 t647)).heap[gb644]? = some (.cells #[.int .u64 t641, .int .u64 t642, .int .i64 t643] 28 (0, 0))) := ⟨by (with_reducible repeat (first | refine blk_drewN ?_ _ | refine blk_drew ?_ | refine blk_alloc ?_ _)); refine blk_far ?_ NB644_648.out _; (with_reducible repeat (first | refine blk_drewN ?_ _ | refine blk_drew ?_ | refine blk_alloc ?_ _)); refine blk_far ?_ NB644_648.out _; (with_reducible repeat (first | refine blk_drewN ?_ _ | refine blk_drew ?_ | refine blk_alloc ?_ _)); refine blk_far ?_ NB644_648.out _; (with_reducible repeat (first | refine blk_drewN ?_ _ | refine blk_drew ?_ | refine blk_alloc ?_ _)); exact BK644.out⟩
    have n5_ : Aside0 ((((w39.setCell ⟨gb648, 0, none⟩ (.int .u64 t645)).setCell ⟨gb648, 1, none⟩ (.int .u64 t646)).setCell ⟨gb648, 2, none⟩ (.int .i64 t647)).heap[gb648]? = some (.cells #[.int .u64 t645, .int .u64 t646, .int .i64 t647] 28 (0, 0))) := ⟨by (with_reducible repeat (first | refine blk_drewN ?_ _ | refine blk_drew ?_ | refine blk_alloc ?_ _)); refine blk_put (cs := #[.int .u64 t645, .int .u64 t646, .int .i64 0]) ?_ 2 _ rfl; (with_reducible repeat (first | refine blk_drewN ?_ _ | refine blk_drew ?_ | refine blk_alloc ?_ _)); refine blk_put (cs := #[.int .u64 t645, .int .u64 0, .int .i64 0]) ?_ 1 _ rfl; (with_reducible repeat (first | refine blk_drewN ?_ _ | refine blk_drew ?_ | refine blk_alloc ?_ _)); refine blk_put (cs := #[.int .u64 0, .int .u64 0, .int .i64 0]) ?_ 0 _ rfl; (with_reducible repeat (first | refine blk_drewN ?_ _ | refine blk_drew ?_ | refine blk_alloc ?_ _)); exact BK648.out⟩
    have n6_ : Aside0 (Below w.heap.size w (((w39.setCell ⟨gb648, 0, none⟩ (.int .u64 t645)).setCell ⟨gb648, 1, none⟩ (.int .u64 t646)).setCell ⟨gb648, 2, none⟩ (.int .i64 t647))) := ⟨xG⟩
    (try clear BK632)
    (try clear BK633)
    (try clear BK634)
    (try clear BK640)
    (try clear BK644)
    (try clear BK648)
    (try clear HB)
    generalize (((w39.setCell ⟨gb648, 0, none⟩ (.int .u64 t645)).setCell ⟨gb648, 1, none⟩ (.int .u64 t646)).setCell ⟨gb648, 2, none⟩ (.int .i64 t647)) = w55 at n0_ n1_ n2_ n3_ n4_ n5_ n6_ ⊢
    have BK632 := n0_
    have BK633 := n1_
    have BK634 := n2_
    have BK640 := n3_
    have BK644 := n4_
    have BK648 := n5_
    have HB := n6_
    clear n0_ n1_ n2_ n3_ n4_ n5_ n6_
    have n0_ := Aside0.mk (blk_drew BK632.out)
    have n1_ := Aside0.mk (blk_drew BK633.out)
    have n2_ := Aside0.mk (blk_drew BK634.out)
    have n3_ := Aside0.mk (blk_drew BK640.out)
    have n4_ := Aside0.mk (blk_drew BK644.out)
    have n5_ := Aside0.mk (blk_drew BK648.out)
    have n6_ := Aside0.mk (below_drew1 HB.out)
    clear BK632
    clear BK633
    clear BK634
    clear BK640
    clear BK644
    clear BK648
    clear HB
    have BK632 := n0_
    have BK633 := n1_
    have BK634 := n2_
    have BK640 := n3_
    have BK644 := n4_
    have BK648 := n5_
    have HB := n6_
    clear n0_ n1_ n2_ n3_ n4_ n5_ n6_
    refine start_ (n := 18) (S := fun w' => w'.cell? ⟨gb640, 0, none⟩ = some (.int .u64 t637) ∧ w'.cell? ⟨gb640, 1, none⟩ = some (.int .u64 t638) ∧ w'.cell? ⟨gb640, 2, none⟩ = some (.int .i64 t639) ∧ w'.cell? ⟨gb644, 0, none⟩ = some (.int .u64 t641) ∧ w'.cell? ⟨gb644, 1, none⟩ = some (.int .u64 t642) ∧ w'.cell? ⟨gb644, 2, none⟩ = some (.int .i64 t643)) (ds := []) #[false, false, false, false, false, false, false, false, false, false, false, false, false, false, false, false, false, false] (by kernel_rfl) rfl rfl ⟨(blk_cell BK640.out 0).trans rfl, (blk_cell BK640.out 1).trans rfl, (blk_cell BK640.out 2).trans rfl, (blk_cell BK644.out 0).trans rfl, (blk_cell BK644.out 1).trans rfl, (blk_cell BK644.out 2).trans rfl⟩ (fun hHeld => ?_); refine with_tabW turnpikelaw3_PrefixOrder.tab7 turnpikelaw3_PrefixOrder.bits7 (fun HT_ HW_ => ?_)
    generalize w55.drew = w56 at BK632 BK633 BK634 BK640 BK644 BK648 HB hHeld ⊢
    refine take_ (i := 0) (N := some 36) (v := ?_) (a' := ?_) #[true, false, false, false, false, false, false, false, false, false, false, false, false, false, false, false, false, false] rfl rfl (take_ofW HT_.out HW_.out (by kernel_rfl)) (fun _ _ _ h => h) (Or.inl ⟨by rfl, ?_⟩) hHeld ?_ ?_
    rotate_left
    ·rintro w' ⟨s0, s1, s2, s3, s4, s5⟩
     go_simp
     with_reducible rfl
    rotate_left
    ·simp only [Act.put, List.setIfInBounds_toArray, List.set_cons_zero, List.set_cons_succ, i64_w, i32_w]
     rfl
    refine take_ (i := 1) (N := some 37) (v := ?_) (a' := ?_) #[true, true, false, false, false, false, false, false, false, false, false, false, false, false, false, false, false, false] rfl rfl (take_ofW HT_.out HW_.out (by kernel_rfl)) (fun _ _ _ h => h) (Or.inl ⟨by rfl, ?_⟩) hHeld ?_ ?_
    rotate_left
    ·rintro w' ⟨s0, s1, s2, s3, s4, s5⟩
     go_simp
     with_reducible rfl
    rotate_left
    ·simp only [Act.put, List.setIfInBounds_toArray, List.set_cons_zero, List.set_cons_succ, i64_w, i32_w]
     rfl
    refine take_ (i := 3) (N := some 39) (v := ?_) (a' := ?_) #[true, true, false, true, false, false, false, false, false, false, false, false, false, false, false, false, false, false] rfl rfl (take_ofW HT_.out HW_.out (by kernel_rfl)) (fun _ _ _ h => h) (Or.inl ⟨by rfl, ?_⟩) hHeld ?_ ?_
    rotate_left
    ·rintro w' ⟨s0, s1, s2, s3, s4, s5⟩
     go_simp
     with_reducible rfl
    rotate_left
    ·simp only [Act.put, List.setIfInBounds_toArray, List.set_cons_zero, List.set_cons_succ, i64_w, i32_w]
     rfl
    refine take_ (i := 4) (N := some 40) (v := ?_) (a' := ?_) #[true, true, false, true, true, false, false, false, false, false, false, false, false, false, false, false, false, false] rfl rfl (take_ofW HT_.out HW_.out (by kernel_rfl)) (fun _ _ _ h => h) (Or.inl ⟨by rfl, ?_⟩) hHeld ?_ ?_
    rotate_left
    ·rintro w' ⟨s0, s1, s2, s3, s4, s5⟩
     go_simp
     with_reducible rfl
    rotate_left
    ·simp only [Act.put, List.setIfInBounds_toArray, List.set_cons_zero, List.set_cons_succ, i64_w, i32_w]
     rfl
    refine one_ (i := 2) (N := some 38) #[true, true, true, true, true, false, false, false, false, false, false, false, false, false, false, false, false, false] rfl rfl (one_of HT_.out (by kernel_rfl)) (by decide) (fun K hK => ?_)
    refine goes_ Tryd.func34 (by kernel_rfl) rfl #[.agg #[.int .u64 t637, .int .u64 t638, .int .i64 t639], .agg #[.int .u64 t641, .int .u64 t642, .int .i64 t643]] (by rfl) rfl rfl xM ?_
    with_reducible refine (prefix_Cmp.calls t637 t638 t639 t641 t642 t643 t649 _ A46.out).mono ?_
    rintro e w57 ⟨rfl, hb⟩
    refine ⟨_, rfl, ?_⟩
    have n0_ := xP BK632.out hb
    have n1_ := xP BK633.out hb
    have n2_ := xP BK634.out hb
    have n3_ := xP BK640.out hb
    have n4_ := xP BK644.out hb
    have n5_ := xP BK648.out hb
    have n6_ := Aside0.mk (below_step xG hb)
    clear BK632
    clear BK633
    clear BK634
    clear BK640
    clear BK644
    clear BK648
    clear HB
    have BK632 := n0_
    have BK633 := n1_
    have BK634 := n2_
    have BK640 := n3_
    have BK644 := n4_
    have BK648 := n5_
    have HB := n6_
    clear n0_ n1_ n2_ n3_ n4_ n5_ n6_
    (try clear hb)
    (try clear hb2)
    (try clear hk)
    (try clear hi)
    refine hK.out _ _ ⟨(blk_cell BK640.out 0).trans rfl, (blk_cell BK640.out 1).trans rfl, (blk_cell BK640.out 2).trans rfl, (blk_cell BK644.out 0).trans rfl, (blk_cell BK644.out 1).trans rfl, (blk_cell BK644.out 2).trans rfl⟩ (fun hHeld => ?_)
    clear hK K
    refine norm_ (a' := ?_) ?_ ?_
    rotate_left
    ·show Act.put _ (some 38) _ = _
     simp only [Act.put, List.setIfInBounds_toArray, List.set_cons_zero, List.set_cons_succ, i64_w, i32_w]
     rfl
    refine one_ (i := 5) (N := some 41) #[true, true, true, true, true, true, false, false, false, false, false, false, false, false, false, false, false, false] rfl rfl (one_of HT_.out (by kernel_rfl)) (by decide) (fun K hK => ?_)
    refine goes_ Tryd.func34 (by kernel_rfl) rfl #[.agg #[.int .u64 t641, .int .u64 t642, .int .i64 t643], .agg #[.int .u64 t637, .int .u64 t638, .int .i64 t639]] (by rfl) rfl rfl xM ?_
    with_reducible refine (prefix_Cmp.calls t641 t642 t643 t637 t638 t639 t650 _ A47.out).mono ?_
    rintro e w58 ⟨rfl, hb⟩
    refine ⟨_, rfl, ?_⟩
    have n0_ := xP BK632.out hb
    have n1_ := xP BK633.out hb
    have n2_ := xP BK634.out hb
    have n3_ := xP BK640.out hb
    have n4_ := xP BK644.out hb
    have n5_ := xP BK648.out hb
    have n6_ := Aside0.mk (below_step xG hb)
    clear BK632
    clear BK633
    clear BK634
    clear BK640
    clear BK644
    clear BK648
    clear HB
    have BK632 := n0_
    have BK633 := n1_
    have BK634 := n2_
    have BK640 := n3_
    have BK644 := n4_
    have BK648 := n5_
    have HB := n6_
    clear n0_ n1_ n2_ n3_ n4_ n5_ n6_
    (try clear hb)
    (try clear hb2)
    (try clear hk)
    (try clear hi)
    refine hK.out _ _ ⟨(blk_cell BK640.out 0).trans rfl, (blk_cell BK640.out 1).trans rfl, (blk_cell BK640.out 2).trans rfl, (blk_cell BK644.out 0).trans rfl, (blk_cell BK644.out 1).trans rfl, (blk_cell BK644.out 2).trans rfl⟩ (fun hHeld => ?_)
    clear hK K
    refine norm_ (a' := ?_) ?_ ?_
    rotate_left
    ·show Act.put _ (some 41) _ = _
     simp only [Act.put, List.setIfInBounds_toArray, List.set_cons_zero, List.set_cons_succ, i64_w, i32_w]
     rfl
    refine pure_ (i := 6) (N := some 42) (v := ?_) (a' := ?_) #[true, true, true, true, true, true, true, false, false, false, false, false, false, false, false, false, false, false] rfl rfl (any_of HT_.out (by kernel_rfl)) (fun _ _ _ h => h) (Or.inl ⟨by rfl, ?_⟩) ?_ ?_
    rotate_left
    ·intro w'
     go_simp
     with_reducible rfl
    rotate_left
    ·simp only [Act.put, List.setIfInBounds_toArray, List.set_cons_zero, List.set_cons_succ, i64_w, i32_w]
     rfl
    refine pure_ (i := 7) (N := some 43) (v := ?_) (a' := ?_) #[true, true, true, true, true, true, true, true, false, false, false, false, false, false, false, false, false, false] rfl rfl (any_of HT_.out (by kernel_rfl)) (fun _ _ _ h => h) (Or.inl ⟨by rfl, ?_⟩) ?_ ?_
    rotate_left
    ·intro w'
     go_simp
     with_reducible rfl
    rotate_left
    ·simp only [Act.put, List.setIfInBounds_toArray, List.set_cons_zero, List.set_cons_succ, i64_w, i32_w]
     rfl
    refine pure_ (i := 8) (N := some 44) (v := ?_) (a' := ?_) #[true, true, true, true, true, true, true, true, true, false, false, false, false, false, false, false, false, false] rfl rfl (any_of HT_.out (by kernel_rfl)) (fun _ _ _ h => h) (Or.inl ⟨by rfl, ?_⟩) ?_ ?_
    rotate_left
    ·intro w'
     go_simp
     with_reducible rfl
    rotate_left
    ·simp only [Act.put, List.setIfInBounds_toArray, List.set_cons_zero, List.set_cons_succ, i64_w, i32_w]
     rfl
    refine pure_ (i := 9) (N := some 45) (v := undef) (a' := ?_) #[true, true, true, true, true, true, true, true, true, true, false, false, false, false, false, false, false, false] rfl rfl (any_of HT_.out (by kernel_rfl)) (fun _ _ _ h => h) (Or.inr ⟨by rfl, rfl⟩) ?_ ?_
    rotate_left
    ·simp only [Act.put, List.setIfInBounds_toArray, List.set_cons_zero, List.set_cons_succ, i64_w, i32_w]
     rfl
    refine pure_ (i := 10) (N := some 46) (v := undef) (a' := ?_) #[true, true, true, true, true, true, true, true, true, true, true, false, false, false, false, false, false, false] rfl rfl (any_of HT_.out (by kernel_rfl)) (fun _ _ _ h => h) (Or.inr ⟨by rfl, rfl⟩) ?_ ?_
    rotate_left
    ·simp only [Act.put, List.setIfInBounds_toArray, List.set_cons_zero, List.set_cons_succ, i64_w, i32_w]
     rfl
    refine pure_ (i := 11) (N := some 47) (v := undef) (a' := ?_) #[true, true, true, true, true, true, true, true, true, true, true, true, false, false, false, false, false, false] rfl rfl (any_of HT_.out (by kernel_rfl)) (fun _ _ _ h => h) (Or.inr ⟨by rfl, rfl⟩) ?_ ?_
    rotate_left
    ·simp only [Act.put, List.setIfInBounds_toArray, List.set_cons_zero, List.set_cons_succ, i64_w, i32_w]
     rfl
    refine pure_ (i := 12) (N := some 48) (v := undef) (a' := ?_) #[true, true, true, true, true, true, true, true, true, true, true, true, true, false, false, false, false, false] rfl rfl (any_of HT_.out (by kernel_rfl)) (fun _ _ _ h => h) (Or.inr ⟨by rfl, rfl⟩) ?_ ?_
    rotate_left
    ·simp only [Act.put, List.setIfInBounds_toArray, List.set_cons_zero, List.set_cons_succ, i64_w, i32_w]
     rfl
    refine pure_ (i := 13) (N := some 49) (v := undef) (a' := ?_) #[true, true, true, true, true, true, true, true, true, true, true, true, true, true, false, false, false, false] rfl rfl (any_of HT_.out (by kernel_rfl)) (fun _ _ _ h => h) (Or.inr ⟨by rfl, rfl⟩) ?_ ?_
    rotate_left
    ·simp only [Act.put, List.setIfInBounds_toArray, List.set_cons_zero, List.set_cons_succ, i64_w, i32_w]
     rfl
    refine pure_ (i := 14) (N := some 50) (v := undef) (a' := ?_) #[true, true, true, true, true, true, true, true, true, true, true, true, true, true, true, false, false, false] rfl rfl (any_of HT_.out (by kernel_rfl)) (fun _ _ _ h => h) (Or.inr ⟨by rfl, rfl⟩) ?_ ?_
    rotate_left
    ·simp only [Act.put, List.setIfInBounds_toArray, List.set_cons_zero, List.set_cons_succ, i64_w, i32_w]
     rfl
    refine pure_ (i := 15) (N := some 51) (v := undef) (a' := ?_) #[true, true, true, true, true, true, true, true, true, true, true, true, true, true, true, true, false, false] rfl rfl (any_of HT_.out (by kernel_rfl)) (fun _ _ _ h => h) (Or.inr ⟨by rfl, rfl⟩) ?_ ?_
    rotate_left
    ·simp only [Act.put, List.setIfInBounds_toArray, List.set_cons_zero, List.set_cons_succ, i64_w, i32_w]
     rfl
    refine pure_ (i := 16) (N := some 52) (v := undef) (a' := ?_) #[true, true, true, true, true, true, true, true, true, true, true, true, true, true, true, true, true, false] rfl rfl (any_of HT_.out (by kernel_rfl)) (fun _ _ _ h => h) (Or.inr ⟨by rfl, rfl⟩) ?_ ?_
    rotate_left
    ·simp only [Act.put, List.setIfInBounds_toArray, List.set_cons_zero, List.set_cons_succ, i64_w, i32_w]
     rfl
    refine pure_ (i := 17) (N := some 53) (v := ?_) (a' := ?_) #[true, true, true, true, true, true, true, true, true, true, true, true, true, true, true, true, true, true] rfl rfl (any_of HT_.out (by kernel_rfl)) (fun _ _ _ h => h) (Or.inl ⟨by rfl, ?_⟩) ?_ ?_
    rotate_left
    ·intro w'
     go_simp
     with_reducible rfl
    rotate_left
    ·simp only [Act.put, List.setIfInBounds_toArray, List.set_cons_zero, List.set_cons_succ, i64_w, i32_w]
     rfl
    refine done_ (done_of HT_.out (by kernel_rfl)) ?_
    try go_wp2
    go_meet
    case rel => exact ⟨_, (true), xV, H', ⟨by first | omega | exact Nat.le_refl _⟩, ⟨xK BK632.out⟩, ⟨xK BK633.out⟩, ⟨xK BK634.out⟩, ⟨xK BK640.out⟩, ⟨xK BK644.out⟩, ⟨xK BK648.out⟩, ⟨xG⟩⟩
  case rest =>
   clear HC14
   try clear c1
   try clear c2
   try clear p2
   try clear c3
   try clear c4
   try clear p6
   try clear c9
   try clear c10
   try clear c14
   try clear c15
   try clear c16
   try clear c19
   try clear c20
   try clear c24
   try clear c25
   try clear c26
   try clear c28
   try clear c32
   try clear c33
   try clear c34
   try clear c35
   try clear c40
   try clear c41
   try clear c42
   try clear c43
   try clear c44
   try clear c48
   try clear c48b0
   try clear c48b1
   try clear hcz21_0
   try clear hcz21_1
   try clear hcz27_0
   try clear hcz27_1
   try clear hcz27_2
   try clear hcz29_0
   try clear hcz29_1
   try clear hcz36_0
   try clear hcz36_1
   try clear hcz36_2
   try clear hcz37_0
   try clear hcz37_1
   try clear hcz45_0
   try clear hcz45_1
   try clear hcz45_2
   try clear hfz21_0
   try clear hfz21_1
   try clear hfz27_0
   try clear hfz27_1
   try clear hfz27_2
   try clear hfz29_0
   try clear hfz29_1
   try clear hfz36_0
   try clear hfz36_1
   try clear hfz36_2
   try clear hfz37_0
   try clear hfz37_1
   try clear hfz45_0
   try clear hfz45_1
   try clear hfz45_2
   obtain ⟨kq, x53_13, rfl, HA, HJ13, BK632, BK633, BK634, BK640, BK644, BK648, HB⟩ := hcut
   cases kq with
   | zero => exact absurd HA.out (by simp [turnpikelaw3_PrefixOrder.j0])
   | succ kj13 =>
    have H := HA.out
    clear HA
    simp only [turnpikelaw3_PrefixOrder.j0] at H
    by_cases c59 : x53_13 = true
    ·subst c59
     have H1 : (some false) = some r := by rw [if_pos rfl] at H; exact H
     clear H
     have H := H1
     clear H1
     obtain rfl := Option.some.inj H
     exact absurd hr_.out (by decide)
    ·replace c59 := Bool.eq_false_iff.mpr c59
     subst c59
     have H1 : ((prefix_Cmp.f t637 t638 t639 t641 t642 t643).bind fun t652 => (if t652 ≤ 0 then ((prefix_Cmp.f t641 t642 t643 t645 t646 t647).bind fun t653 => (if t653 ≤ 0 then ((prefix_Cmp.f t637 t638 t639 t645 t646 t647).bind fun t654 => (turnpikelaw3_PrefixOrder.j1 kj13 (decide (t654 > 0)) t637 t638 t639 t641 t642 t643 t645 t646 t647)) else (turnpikelaw3_PrefixOrder.j1 kj13 false t637 t638 t639 t641 t642 t643 t645 t646 t647))) else (turnpikelaw3_PrefixOrder.j1 kj13 false t637 t638 t639 t641 t642 t643 t645 t646 t647))) = some r := by rw [if_neg (show ¬ (false = true) by decide)] at H; exact H
     clear H
     have H := H1
     clear H1
     have HC60 := Aside0.mk H
     clear H
     go_upto_region 9 with (fail)
     go_cut [69] (fun v69 wc => ∃ (kq : Nat) (x69_59 : Bool), v69 = .bool x69_59 ∧ Aside0 (turnpikelaw3_PrefixOrder.j1 kq x69_59 t637 t638 t639 t641 t642 t643 t645 t646 t647 = some r) ∧ Aside0 (kq ≤ kj13) ∧ Aside0 (wc.heap[gb632]? = some (.cells #[.int .u64 a1_0, .int .u64 a1_1] 24 (0, 0))) ∧ Aside0 (wc.heap[gb633]? = some (.cells #[.int .u64 a3_0, .int .u64 a3_1] 24 (0, 0))) ∧ Aside0 (wc.heap[gb634]? = some (.cells #[.int .u64 a5_0, .int .u64 a5_1] 24 (0, 0))) ∧ Aside0 (wc.heap[gb640]? = some (.cells #[.int .u64 t637, .int .u64 t638, .int .i64 t639] 28 (0, 0))) ∧ Aside0 (wc.heap[gb644]? = some (.cells #[.int .u64 t641, .int .u64 t642, .int .i64 t643] 28 (0, 0))) ∧ Aside0 (wc.heap[gb648]? = some (.cells #[.int .u64 t645, .int .u64 t646, .int .i64 t647] 28 (0, 0))) ∧ Aside0 (Below w.heap.size w wc))
     case first =>
      have H := HC60.out
      clear HC60
      replace H := Option.bind_eq_some_iff.mp H
      obtain ⟨t652, A610, H⟩ := H
      replace H : (if t652 ≤ 0 then ((prefix_Cmp.f t641 t642 t643 t645 t646 t647).bind fun t653 => (if t653 ≤ 0 then ((prefix_Cmp.f t637 t638 t639 t645 t646 t647).bind fun t654 => (turnpikelaw3_PrefixOrder.j1 kj13 (decide (t654 > 0)) t637 t638 t639 t641 t642 t643 t645 t646 t647)) else (turnpikelaw3_PrefixOrder.j1 kj13 false t637 t638 t639 t641 t642 t643 t645 t646 t647))) else (turnpikelaw3_PrefixOrder.j1 kj13 false t637 t638 t639 t641 t642 t643 t645 t646 t647)) = some r := H
      have A61 := Aside0.mk A610
      clear A610
      by_cases c62 : t652 ≤ 0
      ·rw [if_pos c62] at H
       have c62b0 : decide (t652 ≤ 0) = true := decide_eq_true c62
       clear c62
       (first | rw [c62b0] | (simp only [i64_w, i32_w]; rw [c62b0]) | skip)
       replace H := Option.bind_eq_some_iff.mp H
       obtain ⟨t653, A630, H⟩ := H
       replace H : (if t653 ≤ 0 then ((prefix_Cmp.f t637 t638 t639 t645 t646 t647).bind fun t654 => (turnpikelaw3_PrefixOrder.j1 kj13 (decide (t654 > 0)) t637 t638 t639 t641 t642 t643 t645 t646 t647)) else (turnpikelaw3_PrefixOrder.j1 kj13 false t637 t638 t639 t641 t642 t643 t645 t646 t647)) = some r := H
       have A63 := Aside0.mk A630
       clear A630
       by_cases c64 : t653 ≤ 0
       ·rw [if_pos c64] at H
        have c64b0 : decide (t653 ≤ 0) = true := decide_eq_true c64
        clear c64
        replace H := Option.bind_eq_some_iff.mp H
        obtain ⟨t654, A650, H⟩ := H
        replace H : (turnpikelaw3_PrefixOrder.j1 kj13 (decide (t654 > 0)) t637 t638 t639 t641 t642 t643 t645 t646 t647) = some r := H
        have A65 := Aside0.mk A650
        clear A650
        have H' := Aside0.mk H
        clear H
        have hnb66 := NB640_632.out
        have hnc66 := NB632_640.out
        have hnb67 := NB640_633.out
        have hnc67 := NB633_640.out
        have hnb68 := NB640_634.out
        have hnc68 := NB634_640.out
        have hnb69 := NB640_644.out
        have hnc69 := NB644_640.out
        have hnb70 := NB640_648.out
        have hnc70 := NB648_640.out
        have hcz71_0 : wc.cell? ⟨gb640, 0, none⟩ = some (.int .u64 t637) := (blk_cell BK640.out 0).trans rfl
        have hcz71_1 : wc.cell? ⟨gb640, 1, none⟩ = some (.int .u64 t638) := (blk_cell BK640.out 1).trans rfl
        have hcz71_2 : wc.cell? ⟨gb640, 2, none⟩ = some (.int .i64 t639) := (blk_cell BK640.out 2).trans rfl
        have hfz71_0 := blk_frozen BK640.out 0
        have hfz71_1 := blk_frozen BK640.out 1
        have hfz71_2 := blk_frozen BK640.out 2
        have hnb72 := NB644_632.out
        have hnc72 := NB632_644.out
        have hnb73 := NB644_633.out
        have hnc73 := NB633_644.out
        have hnb74 := NB644_634.out
        have hnc74 := NB634_644.out
        have hnb75 := NB644_648.out
        have hnc75 := NB648_644.out
        have hcz76_0 : wc.cell? ⟨gb644, 0, none⟩ = some (.int .u64 t641) := (blk_cell BK644.out 0).trans rfl
        have hcz76_1 : wc.cell? ⟨gb644, 1, none⟩ = some (.int .u64 t642) := (blk_cell BK644.out 1).trans rfl
        have hcz76_2 : wc.cell? ⟨gb644, 2, none⟩ = some (.int .i64 t643) := (blk_cell BK644.out 2).trans rfl
        have hfz76_0 := blk_frozen BK644.out 0
        have hfz76_1 := blk_frozen BK644.out 1
        have hfz76_2 := blk_frozen BK644.out 2
        go_wp2_with (first | ((with_reducible refine gate_callee (f := 34) rfl ?_); refine goesL_ (some 56) rfl rfl Tryd.func34 (by kernel_rfl) rfl #[.agg #[.int .u64 t637, .int .u64 t638, .int .i64 t639], .agg #[.int .u64 t641, .int .u64 t642, .int .i64 t643]] rfl xM ?_; (with_reducible refine (prefix_Cmp.calls t637 t638 t639 t641 t642 t643 t652 _ A61.out).mono ?_); rintro e w77 ⟨rfl, hb⟩; refine ⟨_, rfl, ?_⟩; have n0_ := xP BK632.out hb; have n1_ := xP BK633.out hb; have n2_ := xP BK634.out hb; have n3_ := xP BK640.out hb; have n4_ := xP BK644.out hb; have n5_ := xP BK648.out hb; have n6_ := Aside0.mk (below_step xG hb); clear BK632; clear BK633; clear BK634; clear BK640; clear BK644; clear BK648; clear HB; have BK632 := n0_; have BK633 := n1_; have BK634 := n2_; have BK640 := n3_; have BK644 := n4_; have BK648 := n5_; have HB := n6_; clear n0_ n1_ n2_ n3_ n4_ n5_ n6_; (try clear hb); (try clear hb2); (try clear hk); (try clear hi); have hcz78_0 : w77.cell? ⟨gb644, 0, none⟩ = some (.int .u64 t641) := (blk_cell BK644.out 0).trans rfl; have hcz78_1 : w77.cell? ⟨gb644, 1, none⟩ = some (.int .u64 t642) := (blk_cell BK644.out 1).trans rfl; have hcz78_2 : w77.cell? ⟨gb644, 2, none⟩ = some (.int .i64 t643) := (blk_cell BK644.out 2).trans rfl; have hfz78_0 := blk_frozen BK644.out 0; have hfz78_1 := blk_frozen BK644.out 1; have hfz78_2 := blk_frozen BK644.out 2; have hnb79 := NB648_632.out; have hnc79 := NB632_648.out; have hnb80 := NB648_633.out; have hnc80 := NB633_648.out; have hnb81 := NB648_634.out; have hnc81 := NB634_648.out; have hcz82_0 : w77.cell? ⟨gb648, 0, none⟩ = some (.int .u64 t645) := (blk_cell BK648.out 0).trans rfl; have hcz82_1 : w77.cell? ⟨gb648, 1, none⟩ = some (.int .u64 t646) := (blk_cell BK648.out 1).trans rfl; have hcz82_2 : w77.cell? ⟨gb648, 2, none⟩ = some (.int .i64 t647) := (blk_cell BK648.out 2).trans rfl; have hfz82_0 := blk_frozen BK648.out 0; have hfz82_1 := blk_frozen BK648.out 1; have hfz82_2 := blk_frozen BK648.out 2) | (go_at_call 34; (with_reducible refine (prefix_Cmp.calls t641 t642 t643 t645 t646 t647 t653 _ A63.out).mono ?_); rintro e w83 ⟨rfl, hb⟩; have n0_ := xP BK632.out hb; have n1_ := xP BK633.out hb; have n2_ := xP BK634.out hb; have n3_ := xP BK640.out hb; have n4_ := xP BK644.out hb; have n5_ := xP BK648.out hb; have n6_ := Aside0.mk (below_step xG hb); clear BK632; clear BK633; clear BK634; clear BK640; clear BK644; clear BK648; clear HB; have BK632 := n0_; have BK633 := n1_; have BK634 := n2_; have BK640 := n3_; have BK644 := n4_; have BK648 := n5_; have HB := n6_; clear n0_ n1_ n2_ n3_ n4_ n5_ n6_; (try clear hb); (try clear hb2); (try clear hk); (try clear hi); have hcz84_0 : w83.cell? ⟨gb640, 0, none⟩ = some (.int .u64 t637) := (blk_cell BK640.out 0).trans rfl; have hcz84_1 : w83.cell? ⟨gb640, 1, none⟩ = some (.int .u64 t638) := (blk_cell BK640.out 1).trans rfl; have hcz84_2 : w83.cell? ⟨gb640, 2, none⟩ = some (.int .i64 t639) := (blk_cell BK640.out 2).trans rfl; have hfz84_0 := blk_frozen BK640.out 0; have hfz84_1 := blk_frozen BK640.out 1; have hfz84_2 := blk_frozen BK640.out 2; have hcz85_0 : w83.cell? ⟨gb648, 0, none⟩ = some (.int .u64 t645) := (blk_cell BK648.out 0).trans rfl; have hcz85_1 : w83.cell? ⟨gb648, 1, none⟩ = some (.int .u64 t646) := (blk_cell BK648.out 1).trans rfl; have hcz85_2 : w83.cell? ⟨gb648, 2, none⟩ = some (.int .i64 t647) := (blk_cell BK648.out 2).trans rfl; have hfz85_0 := blk_frozen BK648.out 0; have hfz85_1 := blk_frozen BK648.out 1; have hfz85_2 := blk_frozen BK648.out 2) | (go_at_call 34; (with_reducible refine (prefix_Cmp.calls t637 t638 t639 t645 t646 t647 t654 _ A65.out).mono ?_); rintro e w86 ⟨rfl, hb⟩; have n0_ := xP BK632.out hb; have n1_ := xP BK633.out hb; have n2_ := xP BK634.out hb; have n3_ := xP BK640.out hb; have n4_ := xP BK644.out hb; have n5_ := xP BK648.out hb; have n6_ := Aside0.mk (below_step xG hb); clear BK632; clear BK633; clear BK634; clear BK640; clear BK644; clear BK648; clear HB; have BK632 := n0_; have BK633 := n1_; have BK634 := n2_; have BK640 := n3_; have BK644 := n4_; have BK648 := n5_; have HB := n6_; clear n0_ n1_ n2_ n3_ n4_ n5_ n6_; (try clear hb); (try clear hb2); (try clear hk); (try clear hi)))
        go_meet
        case rel => exact ⟨_, (decide (t654 > 0)), xV, H', ⟨by have := HJ13.out; first | omega | exact Nat.le_refl _⟩, ⟨xK BK632.out⟩, ⟨xK BK633.out⟩, ⟨xK BK634.out⟩, ⟨xK BK640.out⟩, ⟨xK BK644.out⟩, ⟨xK BK648.out⟩, ⟨xG⟩⟩
       ·rw [if_neg c64] at H
        have c64b0 : decide (t653 ≤ 0) = false := decide_eq_false c64
        clear c64
        have H' := Aside0.mk H
        clear H
        have hnb87 := NB640_632.out
        have hnc87 := NB632_640.out
        have hnb88 := NB640_633.out
        have hnc88 := NB633_640.out
        have hnb89 := NB640_634.out
        have hnc89 := NB634_640.out
        have hnb90 := NB640_644.out
        have hnc90 := NB644_640.out
        have hnb91 := NB640_648.out
        have hnc91 := NB648_640.out
        have hcz92_0 : wc.cell? ⟨gb640, 0, none⟩ = some (.int .u64 t637) := (blk_cell BK640.out 0).trans rfl
        have hcz92_1 : wc.cell? ⟨gb640, 1, none⟩ = some (.int .u64 t638) := (blk_cell BK640.out 1).trans rfl
        have hcz92_2 : wc.cell? ⟨gb640, 2, none⟩ = some (.int .i64 t639) := (blk_cell BK640.out 2).trans rfl
        have hfz92_0 := blk_frozen BK640.out 0
        have hfz92_1 := blk_frozen BK640.out 1
        have hfz92_2 := blk_frozen BK640.out 2
        have hnb93 := NB644_632.out
        have hnc93 := NB632_644.out
        have hnb94 := NB644_633.out
        have hnc94 := NB633_644.out
        have hnb95 := NB644_634.out
        have hnc95 := NB634_644.out
        have hnb96 := NB644_648.out
        have hnc96 := NB648_644.out
        have hcz97_0 : wc.cell? ⟨gb644, 0, none⟩ = some (.int .u64 t641) := (blk_cell BK644.out 0).trans rfl
        have hcz97_1 : wc.cell? ⟨gb644, 1, none⟩ = some (.int .u64 t642) := (blk_cell BK644.out 1).trans rfl
        have hcz97_2 : wc.cell? ⟨gb644, 2, none⟩ = some (.int .i64 t643) := (blk_cell BK644.out 2).trans rfl
        have hfz97_0 := blk_frozen BK644.out 0
        have hfz97_1 := blk_frozen BK644.out 1
        have hfz97_2 := blk_frozen BK644.out 2
        go_wp2_with (first | ((with_reducible refine gate_callee (f := 34) rfl ?_); refine goesL_ (some 56) rfl rfl Tryd.func34 (by kernel_rfl) rfl #[.agg #[.int .u64 t637, .int .u64 t638, .int .i64 t639], .agg #[.int .u64 t641, .int .u64 t642, .int .i64 t643]] rfl xM ?_; (with_reducible refine (prefix_Cmp.calls t637 t638 t639 t641 t642 t643 t652 _ A61.out).mono ?_); rintro e w98 ⟨rfl, hb⟩; refine ⟨_, rfl, ?_⟩; have n0_ := xP BK632.out hb; have n1_ := xP BK633.out hb; have n2_ := xP BK634.out hb; have n3_ := xP BK640.out hb; have n4_ := xP BK644.out hb; have n5_ := xP BK648.out hb; have n6_ := Aside0.mk (below_step xG hb); clear BK632; clear BK633; clear BK634; clear BK640; clear BK644; clear BK648; clear HB; have BK632 := n0_; have BK633 := n1_; have BK634 := n2_; have BK640 := n3_; have BK644 := n4_; have BK648 := n5_; have HB := n6_; clear n0_ n1_ n2_ n3_ n4_ n5_ n6_; (try clear hb); (try clear hb2); (try clear hk); (try clear hi); have hcz99_0 : w98.cell? ⟨gb644, 0, none⟩ = some (.int .u64 t641) := (blk_cell BK644.out 0).trans rfl; have hcz99_1 : w98.cell? ⟨gb644, 1, none⟩ = some (.int .u64 t642) := (blk_cell BK644.out 1).trans rfl; have hcz99_2 : w98.cell? ⟨gb644, 2, none⟩ = some (.int .i64 t643) := (blk_cell BK644.out 2).trans rfl; have hfz99_0 := blk_frozen BK644.out 0; have hfz99_1 := blk_frozen BK644.out 1; have hfz99_2 := blk_frozen BK644.out 2; have hnb100 := NB648_632.out; have hnc100 := NB632_648.out; have hnb101 := NB648_633.out; have hnc101 := NB633_648.out; have hnb102 := NB648_634.out; have hnc102 := NB634_648.out; have hcz103_0 : w98.cell? ⟨gb648, 0, none⟩ = some (.int .u64 t645) := (blk_cell BK648.out 0).trans rfl; have hcz103_1 : w98.cell? ⟨gb648, 1, none⟩ = some (.int .u64 t646) := (blk_cell BK648.out 1).trans rfl; have hcz103_2 : w98.cell? ⟨gb648, 2, none⟩ = some (.int .i64 t647) := (blk_cell BK648.out 2).trans rfl; have hfz103_0 := blk_frozen BK648.out 0; have hfz103_1 := blk_frozen BK648.out 1; have hfz103_2 := blk_frozen BK648.out 2) | (go_at_call 34; (with_reducible refine (prefix_Cmp.calls t641 t642 t643 t645 t646 t647 t653 _ A63.out).mono ?_); rintro e w104 ⟨rfl, hb⟩; have n0_ := xP BK632.out hb; have n1_ := xP BK633.out hb; have n2_ := xP BK634.out hb; have n3_ := xP BK640.out hb; have n4_ := xP BK644.out hb; have n5_ := xP BK648.out hb; have n6_ := Aside0.mk (below_step xG hb); clear BK632; clear BK633; clear BK634; clear BK640; clear BK644; clear BK648; clear HB; have BK632 := n0_; have BK633 := n1_; have BK634 := n2_; have BK640 := n3_; have BK644 := n4_; have BK648 := n5_; have HB := n6_; clear n0_ n1_ n2_ n3_ n4_ n5_ n6_; (try clear hb); (try clear hb2); (try clear hk); (try clear hi)))
        go_meet
        case rel => exact ⟨_, (false), xV, H', ⟨by have := HJ13.out; first | omega | exact Nat.le_refl _⟩, ⟨xK BK632.out⟩, ⟨xK BK633.out⟩, ⟨xK BK634.out⟩, ⟨xK BK640.out⟩, ⟨xK BK644.out⟩, ⟨xK BK648.out⟩, ⟨xG⟩⟩
      ·rw [if_neg c62] at H
       have c62b0 : decide (t652 ≤ 0) = false := decide_eq_false c62
       clear c62
       (first | rw [c62b0] | (simp only [i64_w, i32_w]; rw [c62b0]) | skip)
       have H' := Aside0.mk H
       clear H
       have hnb105 := NB640_632.out
       have hnc105 := NB632_640.out
       have hnb106 := NB640_633.out
       have hnc106 := NB633_640.out
       have hnb107 := NB640_634.out
       have hnc107 := NB634_640.out
       have hnb108 := NB640_644.out
       have hnc108 := NB644_640.out
       have hnb109 := NB640_648.out
       have hnc109 := NB648_640.out
       have hcz110_0 : wc.cell? ⟨gb640, 0, none⟩ = some (.int .u64 t637) := (blk_cell BK640.out 0).trans rfl
       have hcz110_1 : wc.cell? ⟨gb640, 1, none⟩ = some (.int .u64 t638) := (blk_cell BK640.out 1).trans rfl
       have hcz110_2 : wc.cell? ⟨gb640, 2, none⟩ = some (.int .i64 t639) := (blk_cell BK640.out 2).trans rfl
       have hfz110_0 := blk_frozen BK640.out 0
       have hfz110_1 := blk_frozen BK640.out 1
       have hfz110_2 := blk_frozen BK640.out 2
       have hnb111 := NB644_632.out
       have hnc111 := NB632_644.out
       have hnb112 := NB644_633.out
       have hnc112 := NB633_644.out
       have hnb113 := NB644_634.out
       have hnc113 := NB634_644.out
       have hnb114 := NB644_648.out
       have hnc114 := NB648_644.out
       have hcz115_0 : wc.cell? ⟨gb644, 0, none⟩ = some (.int .u64 t641) := (blk_cell BK644.out 0).trans rfl
       have hcz115_1 : wc.cell? ⟨gb644, 1, none⟩ = some (.int .u64 t642) := (blk_cell BK644.out 1).trans rfl
       have hcz115_2 : wc.cell? ⟨gb644, 2, none⟩ = some (.int .i64 t643) := (blk_cell BK644.out 2).trans rfl
       have hfz115_0 := blk_frozen BK644.out 0
       have hfz115_1 := blk_frozen BK644.out 1
       have hfz115_2 := blk_frozen BK644.out 2
       go_wp2_with (first | ((with_reducible refine gate_callee (f := 34) rfl ?_); refine goesL_ (some 56) rfl rfl Tryd.func34 (by kernel_rfl) rfl #[.agg #[.int .u64 t637, .int .u64 t638, .int .i64 t639], .agg #[.int .u64 t641, .int .u64 t642, .int .i64 t643]] rfl xM ?_; (with_reducible refine (prefix_Cmp.calls t637 t638 t639 t641 t642 t643 t652 _ A61.out).mono ?_); rintro e w116 ⟨rfl, hb⟩; refine ⟨_, rfl, ?_⟩; have n0_ := xP BK632.out hb; have n1_ := xP BK633.out hb; have n2_ := xP BK634.out hb; have n3_ := xP BK640.out hb; have n4_ := xP BK644.out hb; have n5_ := xP BK648.out hb; have n6_ := Aside0.mk (below_step xG hb); clear BK632; clear BK633; clear BK634; clear BK640; clear BK644; clear BK648; clear HB; have BK632 := n0_; have BK633 := n1_; have BK634 := n2_; have BK640 := n3_; have BK644 := n4_; have BK648 := n5_; have HB := n6_; clear n0_ n1_ n2_ n3_ n4_ n5_ n6_; (try clear hb); (try clear hb2); (try clear hk); (try clear hi)))
       go_meet
       case rel => exact ⟨_, (false), xV, H', ⟨by have := HJ13.out; first | omega | exact Nat.le_refl _⟩, ⟨xK BK632.out⟩, ⟨xK BK633.out⟩, ⟨xK BK634.out⟩, ⟨xK BK640.out⟩, ⟨xK BK644.out⟩, ⟨xK BK648.out⟩, ⟨xG⟩⟩
     case rest =>
      clear HC60
      try clear c1
      try clear c2
      try clear p2
      try clear c3
      try clear c4
      try clear c5
      try clear c6
      try clear p6
      try clear c7
      try clear c8
      try clear c9
      try clear c10
      try clear c11
      try clear c14
      try clear c15
      try clear c16
      try clear c19
      try clear c20
      try clear c24
      try clear c25
      try clear c26
      try clear c28
      try clear c32
      try clear c33
      try clear c34
      try clear c35
      try clear c40
      try clear c41
      try clear c42
      try clear c43
      try clear c44
      try clear c48
      try clear c48b0
      try clear c48b1
      try clear c59
      try clear c62
      try clear c62b0
      try clear c64
      try clear c64b0
      try clear p64
      try clear c66
      try clear c67
      try clear c68
      try clear c69
      try clear c70
      try clear c72
      try clear c73
      try clear c74
      try clear c75
      try clear c79
      try clear c80
      try clear c81
      try clear c87
      try clear c88
      try clear c89
      try clear c90
      try clear c91
      try clear c93
      try clear c94
      try clear c95
      try clear c96
      try clear c100
      try clear c101
      try clear c102
      try clear c105
      try clear c106
      try clear c107
      try clear c108
      try clear c109
      try clear c111
      try clear c112
      try clear c113
      try clear c114
      try clear hcz103_0
      try clear hcz103_1
      try clear hcz103_2
      try clear hcz110_0
      try clear hcz110_1
      try clear hcz110_2
      try clear hcz115_0
      try clear hcz115_1
      try clear hcz115_2
      try clear hcz21_0
      try clear hcz21_1
      try clear hcz27_0
      try clear hcz27_1
      try clear hcz27_2
      try clear hcz29_0
      try clear hcz29_1
      try clear hcz36_0
      try clear hcz36_1
      try clear hcz36_2
      try clear hcz37_0
      try clear hcz37_1
      try clear hcz45_0
      try clear hcz45_1
      try clear hcz45_2
      try clear hcz71_0
      try clear hcz71_1
      try clear hcz71_2
      try clear hcz76_0
      try clear hcz76_1
      try clear hcz76_2
      try clear hcz78_0
      try clear hcz78_1
      try clear hcz78_2
      try clear hcz82_0
      try clear hcz82_1
      try clear hcz82_2
      try clear hcz84_0
      try clear hcz84_1
      try clear hcz84_2
      try clear hcz85_0
      try clear hcz85_1
      try clear hcz85_2
      try clear hcz92_0
      try clear hcz92_1
      try clear hcz92_2
      try clear hcz97_0
      try clear hcz97_1
      try clear hcz97_2
      try clear hcz99_0
      try clear hcz99_1
      try clear hcz99_2
      try clear hfz103_0
      try clear hfz103_1
      try clear hfz103_2
      try clear hfz110_0
      try clear hfz110_1
      try clear hfz110_2
      try clear hfz115_0
      try clear hfz115_1
      try clear hfz115_2
      try clear hfz21_0
      try clear hfz21_1
      try clear hfz27_0
      try clear hfz27_1
      try clear hfz27_2
      try clear hfz29_0
      try clear hfz29_1
      try clear hfz36_0
      try clear hfz36_1
      try clear hfz36_2
      try clear hfz37_0
      try clear hfz37_1
      try clear hfz45_0
      try clear hfz45_1
      try clear hfz45_2
      try clear hfz71_0
      try clear hfz71_1
      try clear hfz71_2
      try clear hfz76_0
      try clear hfz76_1
      try clear hfz76_2
      try clear hfz78_0
      try clear hfz78_1
      try clear hfz78_2
      try clear hfz82_0
      try clear hfz82_1
      try clear hfz82_2
      try clear hfz84_0
      try clear hfz84_1
      try clear hfz84_2
      try clear hfz85_0
      try clear hfz85_1
      try clear hfz85_2
      try clear hfz92_0
      try clear hfz92_1
      try clear hfz92_2
      try clear hfz97_0
      try clear hfz97_1
      try clear hfz97_2
      try clear hfz99_0
      try clear hfz99_1
      try clear hfz99_2
      try clear p2
      try clear p6
      obtain ⟨kq, x69_59, rfl, HA, HJ59, BK632, BK633, BK634, BK640, BK644, BK648, HB⟩ := hcut
      cases kq with
      | zero => exact absurd HA.out (by simp [turnpikelaw3_PrefixOrder.j1])
      | succ kj59 =>
       have H := HA.out
       clear HA
       simp only [turnpikelaw3_PrefixOrder.j1] at H
       by_cases c117 : x69_59 = true
       ·subst c117
        have H1 : (some false) = some r := by rw [if_pos rfl] at H; exact H
        clear H
        have H := H1
        clear H1
        obtain rfl := Option.some.inj H
        exact absurd hr_.out (by decide)
       ·replace c117 := Bool.eq_false_iff.mpr c117
        subst c117
        have H1 : ((prefix_Cmp.f t637 t638 t639 t641 t642 t643).bind fun t655 => (if t655 ≤ 0 then ((prefix_Cmp.f t641 t642 t643 t645 t646 t647).bind fun t656 => (if t656 ≤ 0 then ((prefix_Within.f t645 t646 t647 t637 t638 t639).bind fun t657 => (if t657 = true then ((prefix_Within.f t641 t642 t643 t637 t638 t639).bind fun t658 => (turnpikelaw3_PrefixOrder.j2 kj59 (!t658) t637 t638 t639 t641 t642 t643 t645 t646 t647)) else (turnpikelaw3_PrefixOrder.j2 kj59 false t637 t638 t639 t641 t642 t643 t645 t646 t647))) else (turnpikelaw3_PrefixOrder.j2 kj59 false t637 t638 t639 t641 t642 t643 t645 t646 t647))) else (turnpikelaw3_PrefixOrder.j2 kj59 false t637 t638 t639 t641 t642 t643 t645 t646 t647))) = some r := by rw [if_neg (show ¬ (false = true) by decide)] at H; exact H
        clear H
        have H := H1
        clear H1
        have HC118 := Aside0.mk H
        clear H
        go_upto_region 11 with (fail)
        go_cut [90] (fun v90 wc => ∃ (kq : Nat) (x90_117 : Bool), v90 = .bool x90_117 ∧ Aside0 (turnpikelaw3_PrefixOrder.j2 kq x90_117 t637 t638 t639 t641 t642 t643 t645 t646 t647 = some r) ∧ Aside0 (kq ≤ kj59) ∧ Aside0 (wc.heap[gb632]? = some (.cells #[.int .u64 a1_0, .int .u64 a1_1] 24 (0, 0))) ∧ Aside0 (wc.heap[gb633]? = some (.cells #[.int .u64 a3_0, .int .u64 a3_1] 24 (0, 0))) ∧ Aside0 (wc.heap[gb634]? = some (.cells #[.int .u64 a5_0, .int .u64 a5_1] 24 (0, 0))) ∧ Aside0 (wc.heap[gb640]? = some (.cells #[.int .u64 t637, .int .u64 t638, .int .i64 t639] 28 (0, 0))) ∧ Aside0 (wc.heap[gb644]? = some (.cells #[.int .u64 t641, .int .u64 t642, .int .i64 t643] 28 (0, 0))) ∧ Aside0 (wc.heap[gb648]? = some (.cells #[.int .u64 t645, .int .u64 t646, .int .i64 t647] 28 (0, 0))) ∧ Aside0 (Below w.heap.size w wc))
        case first =>
         have H := HC118.out
         clear HC118
         replace H := Option.bind_eq_some_iff.mp H
         obtain ⟨t655, A1190, H⟩ := H
         replace H : (if t655 ≤ 0 then ((prefix_Cmp.f t641 t642 t643 t645 t646 t647).bind fun t656 => (if t656 ≤ 0 then ((prefix_Within.f t645 t646 t647 t637 t638 t639).bind fun t657 => (if t657 = true then ((prefix_Within.f t641 t642 t643 t637 t638 t639).bind fun t658 => (turnpikelaw3_PrefixOrder.j2 kj59 (!t658) t637 t638 t639 t641 t642 t643 t645 t646 t647)) else (turnpikelaw3_PrefixOrder.j2 kj59 false t637 t638 t639 t641 t642 t643 t645 t646 t647))) else (turnpikelaw3_PrefixOrder.j2 kj59 false t637 t638 t639 t641 t642 t643 t645 t646 t647))) else (turnpikelaw3_PrefixOrder.j2 kj59 false t637 t638 t639 t641 t642 t643 t645 t646 t647)) = some r := H
         have A119 := Aside0.mk A1190
         clear A1190
         by_cases c120 : t655 ≤ 0
         ·rw [if_pos c120] at H
          have c120b0 : decide (t655 ≤ 0) = true := decide_eq_true c120
          clear c120
          (first | rw [c120b0] | (simp only [i64_w, i32_w]; rw [c120b0]) | skip)
          replace H := Option.bind_eq_some_iff.mp H
          obtain ⟨t656, A1210, H⟩ := H
          replace H : (if t656 ≤ 0 then ((prefix_Within.f t645 t646 t647 t637 t638 t639).bind fun t657 => (if t657 = true then ((prefix_Within.f t641 t642 t643 t637 t638 t639).bind fun t658 => (turnpikelaw3_PrefixOrder.j2 kj59 (!t658) t637 t638 t639 t641 t642 t643 t645 t646 t647)) else (turnpikelaw3_PrefixOrder.j2 kj59 false t637 t638 t639 t641 t642 t643 t645 t646 t647))) else (turnpikelaw3_PrefixOrder.j2 kj59 false t637 t638 t639 t641 t642 t643 t645 t646 t647)) = some r := H
          have A121 := Aside0.mk A1210
          clear A1210
          by_cases c122 : t656 ≤ 0
          ·rw [if_pos c122] at H
           have c122b0 : decide (t656 ≤ 0) = true := decide_eq_true c122
           clear c122
           replace H := Option.bind_eq_some_iff.mp H
           obtain ⟨t657, A1230, H⟩ := H
           replace H : (if t657 = true then ((prefix_Within.f t641 t642 t643 t637 t638 t639).bind fun t658 => (turnpikelaw3_PrefixOrder.j2 kj59 (!t658) t637 t638 t639 t641 t642 t643 t645 t646 t647)) else (turnpikelaw3_PrefixOrder.j2 kj59 false t637 t638 t639 t641 t642 t643 t645 t646 t647)) = some r := H
           have A123 := Aside0.mk A1230
           clear A1230
           by_cases c124 : t657 = true
           ·subst c124
            have H1 : ((prefix_Within.f t641 t642 t643 t637 t638 t639).bind fun t658 => (turnpikelaw3_PrefixOrder.j2 kj59 (!t658) t637 t638 t639 t641 t642 t643 t645 t646 t647)) = some r := by rw [if_pos rfl] at H; exact H
            clear H
            have H := H1
            clear H1
            replace H := Option.bind_eq_some_iff.mp H
            obtain ⟨t658, A1250, H⟩ := H
            replace H : (turnpikelaw3_PrefixOrder.j2 kj59 (!t658) t637 t638 t639 t641 t642 t643 t645 t646 t647) = some r := H
            have A125 := Aside0.mk A1250
            clear A1250
            have H' := Aside0.mk H
            clear H
            have hnb126 := NB640_632.out
            have hnc126 := NB632_640.out
            have hnb127 := NB640_633.out
            have hnc127 := NB633_640.out
            have hnb128 := NB640_634.out
            have hnc128 := NB634_640.out
            have hnb129 := NB640_644.out
            have hnc129 := NB644_640.out
            have hnb130 := NB640_648.out
            have hnc130 := NB648_640.out
            have hcz131_0 : wc.cell? ⟨gb640, 0, none⟩ = some (.int .u64 t637) := (blk_cell BK640.out 0).trans rfl
            have hcz131_1 : wc.cell? ⟨gb640, 1, none⟩ = some (.int .u64 t638) := (blk_cell BK640.out 1).trans rfl
            have hcz131_2 : wc.cell? ⟨gb640, 2, none⟩ = some (.int .i64 t639) := (blk_cell BK640.out 2).trans rfl
            have hfz131_0 := blk_frozen BK640.out 0
            have hfz131_1 := blk_frozen BK640.out 1
            have hfz131_2 := blk_frozen BK640.out 2
            have hnb132 := NB644_632.out
            have hnc132 := NB632_644.out
            have hnb133 := NB644_633.out
            have hnc133 := NB633_644.out
            have hnb134 := NB644_634.out
            have hnc134 := NB634_644.out
            have hnb135 := NB644_648.out
            have hnc135 := NB648_644.out
            have hcz136_0 : wc.cell? ⟨gb644, 0, none⟩ = some (.int .u64 t641) := (blk_cell BK644.out 0).trans rfl
            have hcz136_1 : wc.cell? ⟨gb644, 1, none⟩ = some (.int .u64 t642) := (blk_cell BK644.out 1).trans rfl
            have hcz136_2 : wc.cell? ⟨gb644, 2, none⟩ = some (.int .i64 t643) := (blk_cell BK644.out 2).trans rfl
            have hfz136_0 := blk_frozen BK644.out 0
            have hfz136_1 := blk_frozen BK644.out 1
            have hfz136_2 := blk_frozen BK644.out 2
            go_wp2_with (first | ((with_reducible refine gate_callee (f := 34) rfl ?_); refine goesL_ (some 72) rfl rfl Tryd.func34 (by kernel_rfl) rfl #[.agg #[.int .u64 t637, .int .u64 t638, .int .i64 t639], .agg #[.int .u64 t641, .int .u64 t642, .int .i64 t643]] rfl xM ?_; (with_reducible refine (prefix_Cmp.calls t637 t638 t639 t641 t642 t643 t655 _ A119.out).mono ?_); rintro e w137 ⟨rfl, hb⟩; refine ⟨_, rfl, ?_⟩; have n0_ := xP BK632.out hb; have n1_ := xP BK633.out hb; have n2_ := xP BK634.out hb; have n3_ := xP BK640.out hb; have n4_ := xP BK644.out hb; have n5_ := xP BK648.out hb; have n6_ := Aside0.mk (below_step xG hb); clear BK632; clear BK633; clear BK634; clear BK640; clear BK644; clear BK648; clear HB; have BK632 := n0_; have BK633 := n1_; have BK634 := n2_; have BK640 := n3_; have BK644 := n4_; have BK648 := n5_; have HB := n6_; clear n0_ n1_ n2_ n3_ n4_ n5_ n6_; (try clear hb); (try clear hb2); (try clear hk); (try clear hi); have hcz138_0 : w137.cell? ⟨gb644, 0, none⟩ = some (.int .u64 t641) := (blk_cell BK644.out 0).trans rfl; have hcz138_1 : w137.cell? ⟨gb644, 1, none⟩ = some (.int .u64 t642) := (blk_cell BK644.out 1).trans rfl; have hcz138_2 : w137.cell? ⟨gb644, 2, none⟩ = some (.int .i64 t643) := (blk_cell BK644.out 2).trans rfl; have hfz138_0 := blk_frozen BK644.out 0; have hfz138_1 := blk_frozen BK644.out 1; have hfz138_2 := blk_frozen BK644.out 2; have hnb139 := NB648_632.out; have hnc139 := NB632_648.out; have hnb140 := NB648_633.out; have hnc140 := NB633_648.out; have hnb141 := NB648_634.out; have hnc141 := NB634_648.out; have hcz142_0 : w137.cell? ⟨gb648, 0, none⟩ = some (.int .u64 t645) := (blk_cell BK648.out 0).trans rfl; have hcz142_1 : w137.cell? ⟨gb648, 1, none⟩ = some (.int .u64 t646) := (blk_cell BK648.out 1).trans rfl; have hcz142_2 : w137.cell? ⟨gb648, 2, none⟩ = some (.int .i64 t647) := (blk_cell BK648.out 2).trans rfl; have hfz142_0 := blk_frozen BK648.out 0; have hfz142_1 := blk_frozen BK648.out 1; have hfz142_2 := blk_frozen BK648.out 2) | (go_at_call 34; (with_reducible refine (prefix_Cmp.calls t641 t642 t643 t645 t646 t647 t656 _ A121.out).mono ?_); rintro e w143 ⟨rfl, hb⟩; have n0_ := xP BK632.out hb; have n1_ := xP BK633.out hb; have n2_ := xP BK634.out hb; have n3_ := xP BK640.out hb; have n4_ := xP BK644.out hb; have n5_ := xP BK648.out hb; have n6_ := Aside0.mk (below_step xG hb); clear BK632; clear BK633; clear BK634; clear BK640; clear BK644; clear BK648; clear HB; have BK632 := n0_; have BK633 := n1_; have BK634 := n2_; have BK640 := n3_; have BK644 := n4_; have BK648 := n5_; have HB := n6_; clear n0_ n1_ n2_ n3_ n4_ n5_ n6_; (try clear hb); (try clear hb2); (try clear hk); (try clear hi); have hcz144_0 : w143.cell? ⟨gb648, 0, none⟩ = some (.int .u64 t645) := (blk_cell BK648.out 0).trans rfl; have hcz144_1 : w143.cell? ⟨gb648, 1, none⟩ = some (.int .u64 t646) := (blk_cell BK648.out 1).trans rfl; have hcz144_2 : w143.cell? ⟨gb648, 2, none⟩ = some (.int .i64 t647) := (blk_cell BK648.out 2).trans rfl; have hfz144_0 := blk_frozen BK648.out 0; have hfz144_1 := blk_frozen BK648.out 1; have hfz144_2 := blk_frozen BK648.out 2; have hcz145_0 : w143.cell? ⟨gb640, 0, none⟩ = some (.int .u64 t637) := (blk_cell BK640.out 0).trans rfl; have hcz145_1 : w143.cell? ⟨gb640, 1, none⟩ = some (.int .u64 t638) := (blk_cell BK640.out 1).trans rfl; have hcz145_2 : w143.cell? ⟨gb640, 2, none⟩ = some (.int .i64 t639) := (blk_cell BK640.out 2).trans rfl; have hfz145_0 := blk_frozen BK640.out 0; have hfz145_1 := blk_frozen BK640.out 1; have hfz145_2 := blk_frozen BK640.out 2) | (go_at_call 22; (with_reducible refine (prefix_Within.calls t645 t646 t647 t637 t638 t639 true _ A123.out).mono ?_); rintro e w146 ⟨rfl, hb⟩; have n0_ := xP BK632.out hb; have n1_ := xP BK633.out hb; have n2_ := xP BK634.out hb; have n3_ := xP BK640.out hb; have n4_ := xP BK644.out hb; have n5_ := xP BK648.out hb; have n6_ := Aside0.mk (below_step xG hb); clear BK632; clear BK633; clear BK634; clear BK640; clear BK644; clear BK648; clear HB; have BK632 := n0_; have BK633 := n1_; have BK634 := n2_; have BK640 := n3_; have BK644 := n4_; have BK648 := n5_; have HB := n6_; clear n0_ n1_ n2_ n3_ n4_ n5_ n6_; (try clear hb); (try clear hb2); (try clear hk); (try clear hi); have hcz147_0 : w146.cell? ⟨gb644, 0, none⟩ = some (.int .u64 t641) := (blk_cell BK644.out 0).trans rfl; have hcz147_1 : w146.cell? ⟨gb644, 1, none⟩ = some (.int .u64 t642) := (blk_cell BK644.out 1).trans rfl; have hcz147_2 : w146.cell? ⟨gb644, 2, none⟩ = some (.int .i64 t643) := (blk_cell BK644.out 2).trans rfl; have hfz147_0 := blk_frozen BK644.out 0; have hfz147_1 := blk_frozen BK644.out 1; have hfz147_2 := blk_frozen BK644.out 2; have hcz148_0 : w146.cell? ⟨gb640, 0, none⟩ = some (.int .u64 t637) := (blk_cell BK640.out 0).trans rfl; have hcz148_1 : w146.cell? ⟨gb640, 1, none⟩ = some (.int .u64 t638) := (blk_cell BK640.out 1).trans rfl; have hcz148_2 : w146.cell? ⟨gb640, 2, none⟩ = some (.int .i64 t639) := (blk_cell BK640.out 2).trans rfl; have hfz148_0 := blk_frozen BK640.out 0; have hfz148_1 := blk_frozen BK640.out 1; have hfz148_2 := blk_frozen BK640.out 2) | (go_at_call 22; (with_reducible refine (prefix_Within.calls t641 t642 t643 t637 t638 t639 t658 _ A125.out).mono ?_); rintro e w149 ⟨rfl, hb⟩; have n0_ := xP BK632.out hb; have n1_ := xP BK633.out hb; have n2_ := xP BK634.out hb; have n3_ := xP BK640.out hb; have n4_ := xP BK644.out hb; have n5_ := xP BK648.out hb; have n6_ := Aside0.mk (below_step xG hb); clear BK632; clear BK633; clear BK634; clear BK640; clear BK644; clear BK648; clear HB; have BK632 := n0_; have BK633 := n1_; have BK634 := n2_; have BK640 := n3_; have BK644 := n4_; have BK648 := n5_; have HB := n6_; clear n0_ n1_ n2_ n3_ n4_ n5_ n6_; (try clear hb); (try clear hb2); (try clear hk); (try clear hi)))
            go_meet
            case rel => exact ⟨_, (!t658), xV, H', ⟨by have := HJ13.out; have := HJ59.out; first | omega | exact Nat.le_refl _⟩, ⟨xK BK632.out⟩, ⟨xK BK633.out⟩, ⟨xK BK634.out⟩, ⟨xK BK640.out⟩, ⟨xK BK644.out⟩, ⟨xK BK648.out⟩, ⟨xG⟩⟩
           ·replace c124 := Bool.eq_false_iff.mpr c124
            subst c124
            have H1 : (turnpikelaw3_PrefixOrder.j2 kj59 false t637 t638 t639 t641 t642 t643 t645 t646 t647) = some r := by rw [if_neg (show ¬ (false = true) by decide)] at H; exact H
            clear H
            have H := H1
            clear H1
            have H' := Aside0.mk H
            clear H
            have hnb150 := NB640_632.out
            have hnc150 := NB632_640.out
            have hnb151 := NB640_633.out
            have hnc151 := NB633_640.out
            have hnb152 := NB640_634.out
            have hnc152 := NB634_640.out
            have hnb153 := NB640_644.out
            have hnc153 := NB644_640.out
            have hnb154 := NB640_648.out
            have hnc154 := NB648_640.out
            have hcz155_0 : wc.cell? ⟨gb640, 0, none⟩ = some (.int .u64 t637) := (blk_cell BK640.out 0).trans rfl
            have hcz155_1 : wc.cell? ⟨gb640, 1, none⟩ = some (.int .u64 t638) := (blk_cell BK640.out 1).trans rfl
            have hcz155_2 : wc.cell? ⟨gb640, 2, none⟩ = some (.int .i64 t639) := (blk_cell BK640.out 2).trans rfl
            have hfz155_0 := blk_frozen BK640.out 0
            have hfz155_1 := blk_frozen BK640.out 1
            have hfz155_2 := blk_frozen BK640.out 2
            have hnb156 := NB644_632.out
            have hnc156 := NB632_644.out
            have hnb157 := NB644_633.out
            have hnc157 := NB633_644.out
            have hnb158 := NB644_634.out
            have hnc158 := NB634_644.out
            have hnb159 := NB644_648.out
            have hnc159 := NB648_644.out
            have hcz160_0 : wc.cell? ⟨gb644, 0, none⟩ = some (.int .u64 t641) := (blk_cell BK644.out 0).trans rfl
            have hcz160_1 : wc.cell? ⟨gb644, 1, none⟩ = some (.int .u64 t642) := (blk_cell BK644.out 1).trans rfl
            have hcz160_2 : wc.cell? ⟨gb644, 2, none⟩ = some (.int .i64 t643) := (blk_cell BK644.out 2).trans rfl
            have hfz160_0 := blk_frozen BK644.out 0
            have hfz160_1 := blk_frozen BK644.out 1
            have hfz160_2 := blk_frozen BK644.out 2
            go_wp2_with (first | ((with_reducible refine gate_callee (f := 34) rfl ?_); refine goesL_ (some 72) rfl rfl Tryd.func34 (by kernel_rfl) rfl #[.agg #[.int .u64 t637, .int .u64 t638, .int .i64 t639], .agg #[.int .u64 t641, .int .u64 t642, .int .i64 t643]] rfl xM ?_; (with_reducible refine (prefix_Cmp.calls t637 t638 t639 t641 t642 t643 t655 _ A119.out).mono ?_); rintro e w161 ⟨rfl, hb⟩; refine ⟨_, rfl, ?_⟩; have n0_ := xP BK632.out hb; have n1_ := xP BK633.out hb; have n2_ := xP BK634.out hb; have n3_ := xP BK640.out hb; have n4_ := xP BK644.out hb; have n5_ := xP BK648.out hb; have n6_ := Aside0.mk (below_step xG hb); clear BK632; clear BK633; clear BK634; clear BK640; clear BK644; clear BK648; clear HB; have BK632 := n0_; have BK633 := n1_; have BK634 := n2_; have BK640 := n3_; have BK644 := n4_; have BK648 := n5_; have HB := n6_; clear n0_ n1_ n2_ n3_ n4_ n5_ n6_; (try clear hb); (try clear hb2); (try clear hk); (try clear hi); have hcz162_0 : w161.cell? ⟨gb644, 0, none⟩ = some (.int .u64 t641) := (blk_cell BK644.out 0).trans rfl; have hcz162_1 : w161.cell? ⟨gb644, 1, none⟩ = some (.int .u64 t642) := (blk_cell BK644.out 1).trans rfl; have hcz162_2 : w161.cell? ⟨gb644, 2, none⟩ = some (.int .i64 t643) := (blk_cell BK644.out 2).trans rfl; have hfz162_0 := blk_frozen BK644.out 0; have hfz162_1 := blk_frozen BK644.out 1; have hfz162_2 := blk_frozen BK644.out 2; have hnb163 := NB648_632.out; have hnc163 := NB632_648.out; have hnb164 := NB648_633.out; have hnc164 := NB633_648.out; have hnb165 := NB648_634.out; have hnc165 := NB634_648.out; have hcz166_0 : w161.cell? ⟨gb648, 0, none⟩ = some (.int .u64 t645) := (blk_cell BK648.out 0).trans rfl; have hcz166_1 : w161.cell? ⟨gb648, 1, none⟩ = some (.int .u64 t646) := (blk_cell BK648.out 1).trans rfl; have hcz166_2 : w161.cell? ⟨gb648, 2, none⟩ = some (.int .i64 t647) := (blk_cell BK648.out 2).trans rfl; have hfz166_0 := blk_frozen BK648.out 0; have hfz166_1 := blk_frozen BK648.out 1; have hfz166_2 := blk_frozen BK648.out 2) | (go_at_call 34; (with_reducible refine (prefix_Cmp.calls t641 t642 t643 t645 t646 t647 t656 _ A121.out).mono ?_); rintro e w167 ⟨rfl, hb⟩; have n0_ := xP BK632.out hb; have n1_ := xP BK633.out hb; have n2_ := xP BK634.out hb; have n3_ := xP BK640.out hb; have n4_ := xP BK644.out hb; have n5_ := xP BK648.out hb; have n6_ := Aside0.mk (below_step xG hb); clear BK632; clear BK633; clear BK634; clear BK640; clear BK644; clear BK648; clear HB; have BK632 := n0_; have BK633 := n1_; have BK634 := n2_; have BK640 := n3_; have BK644 := n4_; have BK648 := n5_; have HB := n6_; clear n0_ n1_ n2_ n3_ n4_ n5_ n6_; (try clear hb); (try clear hb2); (try clear hk); (try clear hi); have hcz168_0 : w167.cell? ⟨gb648, 0, none⟩ = some (.int .u64 t645) := (blk_cell BK648.out 0).trans rfl; have hcz168_1 : w167.cell? ⟨gb648, 1, none⟩ = some (.int .u64 t646) := (blk_cell BK648.out 1).trans rfl; have hcz168_2 : w167.cell? ⟨gb648, 2, none⟩ = some (.int .i64 t647) := (blk_cell BK648.out 2).trans rfl; have hfz168_0 := blk_frozen BK648.out 0; have hfz168_1 := blk_frozen BK648.out 1; have hfz168_2 := blk_frozen BK648.out 2; have hcz169_0 : w167.cell? ⟨gb640, 0, none⟩ = some (.int .u64 t637) := (blk_cell BK640.out 0).trans rfl; have hcz169_1 : w167.cell? ⟨gb640, 1, none⟩ = some (.int .u64 t638) := (blk_cell BK640.out 1).trans rfl; have hcz169_2 : w167.cell? ⟨gb640, 2, none⟩ = some (.int .i64 t639) := (blk_cell BK640.out 2).trans rfl; have hfz169_0 := blk_frozen BK640.out 0; have hfz169_1 := blk_frozen BK640.out 1; have hfz169_2 := blk_frozen BK640.out 2) | (go_at_call 22; (with_reducible refine (prefix_Within.calls t645 t646 t647 t637 t638 t639 false _ A123.out).mono ?_); rintro e w170 ⟨rfl, hb⟩; have n0_ := xP BK632.out hb; have n1_ := xP BK633.out hb; have n2_ := xP BK634.out hb; have n3_ := xP BK640.out hb; have n4_ := xP BK644.out hb; have n5_ := xP BK648.out hb; have n6_ := Aside0.mk (below_step xG hb); clear BK632; clear BK633; clear BK634; clear BK640; clear BK644; clear BK648; clear HB; have BK632 := n0_; have BK633 := n1_; have BK634 := n2_; have BK640 := n3_; have BK644 := n4_; have BK648 := n5_; have HB := n6_; clear n0_ n1_ n2_ n3_ n4_ n5_ n6_; (try clear hb); (try clear hb2); (try clear hk); (try clear hi)))
            go_meet
            case rel => exact ⟨_, (false), xV, H', ⟨by have := HJ13.out; have := HJ59.out; first | omega | exact Nat.le_refl _⟩, ⟨xK BK632.out⟩, ⟨xK BK633.out⟩, ⟨xK BK634.out⟩, ⟨xK BK640.out⟩, ⟨xK BK644.out⟩, ⟨xK BK648.out⟩, ⟨xG⟩⟩
          ·rw [if_neg c122] at H
           have c122b0 : decide (t656 ≤ 0) = false := decide_eq_false c122
           clear c122
           have H' := Aside0.mk H
           clear H
           have hnb171 := NB640_632.out
           have hnc171 := NB632_640.out
           have hnb172 := NB640_633.out
           have hnc172 := NB633_640.out
           have hnb173 := NB640_634.out
           have hnc173 := NB634_640.out
           have hnb174 := NB640_644.out
           have hnc174 := NB644_640.out
           have hnb175 := NB640_648.out
           have hnc175 := NB648_640.out
           have hcz176_0 : wc.cell? ⟨gb640, 0, none⟩ = some (.int .u64 t637) := (blk_cell BK640.out 0).trans rfl
           have hcz176_1 : wc.cell? ⟨gb640, 1, none⟩ = some (.int .u64 t638) := (blk_cell BK640.out 1).trans rfl
           have hcz176_2 : wc.cell? ⟨gb640, 2, none⟩ = some (.int .i64 t639) := (blk_cell BK640.out 2).trans rfl
           have hfz176_0 := blk_frozen BK640.out 0
           have hfz176_1 := blk_frozen BK640.out 1
           have hfz176_2 := blk_frozen BK640.out 2
           have hnb177 := NB644_632.out
           have hnc177 := NB632_644.out
           have hnb178 := NB644_633.out
           have hnc178 := NB633_644.out
           have hnb179 := NB644_634.out
           have hnc179 := NB634_644.out
           have hnb180 := NB644_648.out
           have hnc180 := NB648_644.out
           have hcz181_0 : wc.cell? ⟨gb644, 0, none⟩ = some (.int .u64 t641) := (blk_cell BK644.out 0).trans rfl
           have hcz181_1 : wc.cell? ⟨gb644, 1, none⟩ = some (.int .u64 t642) := (blk_cell BK644.out 1).trans rfl
           have hcz181_2 : wc.cell? ⟨gb644, 2, none⟩ = some (.int .i64 t643) := (blk_cell BK644.out 2).trans rfl
           have hfz181_0 := blk_frozen BK644.out 0
           have hfz181_1 := blk_frozen BK644.out 1
           have hfz181_2 := blk_frozen BK644.out 2
           go_wp2_with (first | ((with_reducible refine gate_callee (f := 34) rfl ?_); refine goesL_ (some 72) rfl rfl Tryd.func34 (by kernel_rfl) rfl #[.agg #[.int .u64 t637, .int .u64 t638, .int .i64 t639], .agg #[.int .u64 t641, .int .u64 t642, .int .i64 t643]] rfl xM ?_; (with_reducible refine (prefix_Cmp.calls t637 t638 t639 t641 t642 t643 t655 _ A119.out).mono ?_); rintro e w182 ⟨rfl, hb⟩; refine ⟨_, rfl, ?_⟩; have n0_ := xP BK632.out hb; have n1_ := xP BK633.out hb; have n2_ := xP BK634.out hb; have n3_ := xP BK640.out hb; have n4_ := xP BK644.out hb; have n5_ := xP BK648.out hb; have n6_ := Aside0.mk (below_step xG hb); clear BK632; clear BK633; clear BK634; clear BK640; clear BK644; clear BK648; clear HB; have BK632 := n0_; have BK633 := n1_; have BK634 := n2_; have BK640 := n3_; have BK644 := n4_; have BK648 := n5_; have HB := n6_; clear n0_ n1_ n2_ n3_ n4_ n5_ n6_; (try clear hb); (try clear hb2); (try clear hk); (try clear hi); have hcz183_0 : w182.cell? ⟨gb644, 0, none⟩ = some (.int .u64 t641) := (blk_cell BK644.out 0).trans rfl; have hcz183_1 : w182.cell? ⟨gb644, 1, none⟩ = some (.int .u64 t642) := (blk_cell BK644.out 1).trans rfl; have hcz183_2 : w182.cell? ⟨gb644, 2, none⟩ = some (.int .i64 t643) := (blk_cell BK644.out 2).trans rfl; have hfz183_0 := blk_frozen BK644.out 0; have hfz183_1 := blk_frozen BK644.out 1; have hfz183_2 := blk_frozen BK644.out 2; have hnb184 := NB648_632.out; have hnc184 := NB632_648.out; have hnb185 := NB648_633.out; have hnc185 := NB633_648.out; have hnb186 := NB648_634.out; have hnc186 := NB634_648.out; have hcz187_0 : w182.cell? ⟨gb648, 0, none⟩ = some (.int .u64 t645) := (blk_cell BK648.out 0).trans rfl; have hcz187_1 : w182.cell? ⟨gb648, 1, none⟩ = some (.int .u64 t646) := (blk_cell BK648.out 1).trans rfl; have hcz187_2 : w182.cell? ⟨gb648, 2, none⟩ = some (.int .i64 t647) := (blk_cell BK648.out 2).trans rfl; have hfz187_0 := blk_frozen BK648.out 0; have hfz187_1 := blk_frozen BK648.out 1; have hfz187_2 := blk_frozen BK648.out 2) | (go_at_call 34; (with_reducible refine (prefix_Cmp.calls t641 t642 t643 t645 t646 t647 t656 _ A121.out).mono ?_); rintro e w188 ⟨rfl, hb⟩; have n0_ := xP BK632.out hb; have n1_ := xP BK633.out hb; have n2_ := xP BK634.out hb; have n3_ := xP BK640.out hb; have n4_ := xP BK644.out hb; have n5_ := xP BK648.out hb; have n6_ := Aside0.mk (below_step xG hb); clear BK632; clear BK633; clear BK634; clear BK640; clear BK644; clear BK648; clear HB; have BK632 := n0_; have BK633 := n1_; have BK634 := n2_; have BK640 := n3_; have BK644 := n4_; have BK648 := n5_; have HB := n6_; clear n0_ n1_ n2_ n3_ n4_ n5_ n6_; (try clear hb); (try clear hb2); (try clear hk); (try clear hi)))
           go_meet
           case rel => exact ⟨_, (false), xV, H', ⟨by have := HJ13.out; have := HJ59.out; first | omega | exact Nat.le_refl _⟩, ⟨xK BK632.out⟩, ⟨xK BK633.out⟩, ⟨xK BK634.out⟩, ⟨xK BK640.out⟩, ⟨xK BK644.out⟩, ⟨xK BK648.out⟩, ⟨xG⟩⟩
         ·rw [if_neg c120] at H
          have c120b0 : decide (t655 ≤ 0) = false := decide_eq_false c120
          clear c120
          (first | rw [c120b0] | (simp only [i64_w, i32_w]; rw [c120b0]) | skip)
          have H' := Aside0.mk H
          clear H
          have hnb189 := NB640_632.out
          have hnc189 := NB632_640.out
          have hnb190 := NB640_633.out
          have hnc190 := NB633_640.out
          have hnb191 := NB640_634.out
          have hnc191 := NB634_640.out
          have hnb192 := NB640_644.out
          have hnc192 := NB644_640.out
          have hnb193 := NB640_648.out
          have hnc193 := NB648_640.out
          have hcz194_0 : wc.cell? ⟨gb640, 0, none⟩ = some (.int .u64 t637) := (blk_cell BK640.out 0).trans rfl
          have hcz194_1 : wc.cell? ⟨gb640, 1, none⟩ = some (.int .u64 t638) := (blk_cell BK640.out 1).trans rfl
          have hcz194_2 : wc.cell? ⟨gb640, 2, none⟩ = some (.int .i64 t639) := (blk_cell BK640.out 2).trans rfl
          have hfz194_0 := blk_frozen BK640.out 0
          have hfz194_1 := blk_frozen BK640.out 1
          have hfz194_2 := blk_frozen BK640.out 2
          have hnb195 := NB644_632.out
          have hnc195 := NB632_644.out
          have hnb196 := NB644_633.out
          have hnc196 := NB633_644.out
          have hnb197 := NB644_634.out
          have hnc197 := NB634_644.out
          have hnb198 := NB644_648.out
          have hnc198 := NB648_644.out
          have hcz199_0 : wc.cell? ⟨gb644, 0, none⟩ = some (.int .u64 t641) := (blk_cell BK644.out 0).trans rfl
          have hcz199_1 : wc.cell? ⟨gb644, 1, none⟩ = some (.int .u64 t642) := (blk_cell BK644.out 1).trans rfl
          have hcz199_2 : wc.cell? ⟨gb644, 2, none⟩ = some (.int .i64 t643) := (blk_cell BK644.out 2).trans rfl
          have hfz199_0 := blk_frozen BK644.out 0
          have hfz199_1 := blk_frozen BK644.out 1
          have hfz199_2 := blk_frozen BK644.out 2
          go_wp2_with (first | ((with_reducible refine gate_callee (f := 34) rfl ?_); refine goesL_ (some 72) rfl rfl Tryd.func34 (by kernel_rfl) rfl #[.agg #[.int .u64 t637, .int .u64 t638, .int .i64 t639], .agg #[.int .u64 t641, .int .u64 t642, .int .i64 t643]] rfl xM ?_; (with_reducible refine (prefix_Cmp.calls t637 t638 t639 t641 t642 t643 t655 _ A119.out).mono ?_); rintro e w200 ⟨rfl, hb⟩; refine ⟨_, rfl, ?_⟩; have n0_ := xP BK632.out hb; have n1_ := xP BK633.out hb; have n2_ := xP BK634.out hb; have n3_ := xP BK640.out hb; have n4_ := xP BK644.out hb; have n5_ := xP BK648.out hb; have n6_ := Aside0.mk (below_step xG hb); clear BK632; clear BK633; clear BK634; clear BK640; clear BK644; clear BK648; clear HB; have BK632 := n0_; have BK633 := n1_; have BK634 := n2_; have BK640 := n3_; have BK644 := n4_; have BK648 := n5_; have HB := n6_; clear n0_ n1_ n2_ n3_ n4_ n5_ n6_; (try clear hb); (try clear hb2); (try clear hk); (try clear hi)))
          go_meet
          case rel => exact ⟨_, (false), xV, H', ⟨by have := HJ13.out; have := HJ59.out; first | omega | exact Nat.le_refl _⟩, ⟨xK BK632.out⟩, ⟨xK BK633.out⟩, ⟨xK BK634.out⟩, ⟨xK BK640.out⟩, ⟨xK BK644.out⟩, ⟨xK BK648.out⟩, ⟨xG⟩⟩
        case rest =>
         clear HC118
         try clear c1
         try clear c2
         try clear p2
         try clear c3
         try clear c4
         try clear c5
         try clear c6
         try clear p6
         try clear c7
         try clear c8
         try clear c9
         try clear c10
         try clear c11
         try clear c12
         try clear c13
         try clear c14
         try clear c15
         try clear c16
         try clear c17
         try clear c18
         try clear c19
         try clear c20
         try clear c24
         try clear c25
         try clear c26
         try clear c28
         try clear c32
         try clear c33
         try clear c34
         try clear c35
         try clear c40
         try clear c41
         try clear c42
         try clear c43
         try clear c44
         try clear c48
         try clear c48b0
         try clear c48b1
         try clear c59
         try clear c62
         try clear c62b0
         try clear c64
         try clear c64b0
         try clear p64
         try clear c66
         try clear c67
         try clear c68
         try clear c69
         try clear c70
         try clear c72
         try clear c73
         try clear c74
         try clear c75
         try clear c79
         try clear c80
         try clear c81
         try clear c87
         try clear c88
         try clear c89
         try clear c90
         try clear c91
         try clear c93
         try clear c94
         try clear c95
         try clear c96
         try clear c100
         try clear c101
         try clear c102
         try clear c105
         try clear c106
         try clear c107
         try clear c108
         try clear c109
         try clear c111
         try clear c112
         try clear c113
         try clear c114
         try clear c117
         try clear c120
         try clear c120b0
         try clear c122
         try clear c122b0
         try clear c124
         try clear c126
         try clear c127
         try clear c128
         try clear c129
         try clear c130
         try clear c132
         try clear c133
         try clear c134
         try clear c135
         try clear c139
         try clear c140
         try clear c141
         try clear c150
         try clear c151
         try clear c152
         try clear c153
         try clear c154
         try clear c156
         try clear c157
         try clear c158
         try clear c159
         try clear c163
         try clear c164
         try clear c165
         try clear c171
         try clear c172
         try clear c173
         try clear c174
         try clear c175
         try clear c177
         try clear c178
         try clear c179
         try clear c180
         try clear c184
         try clear c185
         try clear c186
         try clear c189
         try clear c190
         try clear c191
         try clear c192
         try clear c193
         try clear c195
         try clear c196
         try clear c197
         try clear c198
         try clear hcz103_0
         try clear hcz103_1
         try clear hcz103_2
         try clear hcz110_0
         try clear hcz110_1
         try clear hcz110_2
         try clear hcz115_0
         try clear hcz115_1
         try clear hcz115_2
         try clear hcz131_0
         try clear hcz131_1
         try clear hcz131_2
         try clear hcz136_0
         try clear hcz136_1
         try clear hcz136_2
         try clear hcz138_0
         try clear hcz138_1
         try clear hcz138_2
         try clear hcz142_0
         try clear hcz142_1
         try clear hcz142_2
         try clear hcz144_0
         try clear hcz144_1
         try clear hcz144_2
         try clear hcz145_0
         try clear hcz145_1
         try clear hcz145_2
         try clear hcz147_0
         try clear hcz147_1
         try clear hcz147_2
         try clear hcz148_0
         try clear hcz148_1
         try clear hcz148_2
         try clear hcz155_0
         try clear hcz155_1
         try clear hcz155_2
         try clear hcz160_0
         try clear hcz160_1
         try clear hcz160_2
         try clear hcz162_0
         try clear hcz162_1
         try clear hcz162_2
         try clear hcz166_0
         try clear hcz166_1
         try clear hcz166_2
         try clear hcz168_0
         try clear hcz168_1
         try clear hcz168_2
         try clear hcz169_0
         try clear hcz169_1
         try clear hcz169_2
         try clear hcz176_0
         try clear hcz176_1
         try clear hcz176_2
         try clear hcz181_0
         try clear hcz181_1
         try clear hcz181_2
         try clear hcz183_0
         try clear hcz183_1
         try clear hcz183_2
         try clear hcz187_0
         try clear hcz187_1
         try clear hcz187_2
         try clear hcz194_0
         try clear hcz194_1
         try clear hcz194_2
         try clear hcz199_0
         try clear hcz199_1
         try clear hcz199_2
         try clear hcz21_0
         try clear hcz21_1
         try clear hcz27_0
         try clear hcz27_1
         try clear hcz27_2
         try clear hcz29_0
         try clear hcz29_1
         try clear hcz36_0
         try clear hcz36_1
         try clear hcz36_2
         try clear hcz37_0
         try clear hcz37_1
         try clear hcz45_0
         try clear hcz45_1
         try clear hcz45_2
         try clear hcz71_0
         try clear hcz71_1
         try clear hcz71_2
         try clear hcz76_0
         try clear hcz76_1
         try clear hcz76_2
         try clear hcz78_0
         try clear hcz78_1
         try clear hcz78_2
         try clear hcz82_0
         try clear hcz82_1
         try clear hcz82_2
         try clear hcz84_0
         try clear hcz84_1
         try clear hcz84_2
         try clear hcz85_0
         try clear hcz85_1
         try clear hcz85_2
         try clear hcz92_0
         try clear hcz92_1
         try clear hcz92_2
         try clear hcz97_0
         try clear hcz97_1
         try clear hcz97_2
         try clear hcz99_0
         try clear hcz99_1
         try clear hcz99_2
         try clear hfz103_0
         try clear hfz103_1
         try clear hfz103_2
         try clear hfz110_0
         try clear hfz110_1
         try clear hfz110_2
         try clear hfz115_0
         try clear hfz115_1
         try clear hfz115_2
         try clear hfz131_0
         try clear hfz131_1
         try clear hfz131_2
         try clear hfz136_0
         try clear hfz136_1
         try clear hfz136_2
         try clear hfz138_0
         try clear hfz138_1
         try clear hfz138_2
         try clear hfz142_0
         try clear hfz142_1
         try clear hfz142_2
         try clear hfz144_0
         try clear hfz144_1
         try clear hfz144_2
         try clear hfz145_0
         try clear hfz145_1
         try clear hfz145_2
         try clear hfz147_0
         try clear hfz147_1
         try clear hfz147_2
         try clear hfz148_0
         try clear hfz148_1
         try clear hfz148_2
         try clear hfz155_0
         try clear hfz155_1
         try clear hfz155_2
         try clear hfz160_0
         try clear hfz160_1
         try clear hfz160_2
         try clear hfz162_0
         try clear hfz162_1
         try clear hfz162_2
         try clear hfz166_0
         try clear hfz166_1
         try clear hfz166_2
         try clear hfz168_0
         try clear hfz168_1
         try clear hfz168_2
         try clear hfz169_0
         try clear hfz169_1
         try clear hfz169_2
         try clear hfz176_0
         try clear hfz176_1
         try clear hfz176_2
         try clear hfz181_0
         try clear hfz181_1
         try clear hfz181_2
         try clear hfz183_0
         try clear hfz183_1
         try clear hfz183_2
         try clear hfz187_0
         try clear hfz187_1
         try clear hfz187_2
         try clear hfz194_0
         try clear hfz194_1
         try clear hfz194_2
         try clear hfz199_0
         try clear hfz199_1
         try clear hfz199_2
         try clear hfz21_0
         try clear hfz21_1
         try clear hfz27_0
         try clear hfz27_1
         try clear hfz27_2
         try clear hfz29_0
         try clear hfz29_1
         try clear hfz36_0
         try clear hfz36_1
         try clear hfz36_2
         try clear hfz37_0
         try clear hfz37_1
         try clear hfz45_0
         try clear hfz45_1
         try clear hfz45_2
         try clear hfz71_0
         try clear hfz71_1
         try clear hfz71_2
         try clear hfz76_0
         try clear hfz76_1
         try clear hfz76_2
         try clear hfz78_0
         try clear hfz78_1
         try clear hfz78_2
         try clear hfz82_0
         try clear hfz82_1
         try clear hfz82_2
         try clear hfz84_0
         try clear hfz84_1
         try clear hfz84_2
         try clear hfz85_0
         try clear hfz85_1
         try clear hfz85_2
         try clear hfz92_0
         try clear hfz92_1
         try clear hfz92_2
         try clear hfz97_0
         try clear hfz97_1
         try clear hfz97_2
         try clear hfz99_0
         try clear hfz99_1
         try clear hfz99_2
         try clear p2
         try clear p6
         try clear p64
         obtain ⟨kq, x90_117, rfl, HA, HJ117, BK632, BK633, BK634, BK640, BK644, BK648, HB⟩ := hcut
         cases kq with
         | zero => exact absurd HA.out (by simp [turnpikelaw3_PrefixOrder.j2])
         | succ kj117 =>
          have H := HA.out
          clear HA
          simp only [turnpikelaw3_PrefixOrder.j2] at H
          by_cases c201 : x90_117 = true
          ·subst c201
           have H1 : (some false) = some r := by rw [if_pos rfl] at H; exact H
           clear H
           have H := H1
           clear H1
           obtain rfl := Option.some.inj H
           exact absurd hr_.out (by decide)
          ·replace c201 := Bool.eq_false_iff.mpr c201
           subst c201
           have H1 : ((prefix_Meet.f t637 t638 t639 t641 t642 t643).bind fun bt659 => ((prefix_Meet.f t641 t642 t643 t637 t638 t639).bind fun bt663 => (if ((!(bt659.1 == bt663.1) || (!(bt659.2.1 == bt663.2.1))) || (!(bt659.2.2 == bt663.2.2))) = true then (turnpikelaw3_PrefixOrder.j3 kj117 true t637 t638 t639 t641 t642 t643 t645 t646 t647 bt659.1 bt659.2.1 bt659.2.2) else ((prefix_Within.f t637 t638 t639 bt659.1 bt659.2.1 bt659.2.2).bind fun t666 => (if t666 = true then ((prefix_Within.f t641 t642 t643 bt659.1 bt659.2.1 bt659.2.2).bind fun t667 => (if t667 = true then ((prefix_Within.f t641 t642 t643 t637 t638 t639).bind fun t668 => (turnpikelaw3_PrefixOrder.j3 kj117 (((bt659.1 == t637 && (bt659.2.1 == t638)) && (bt659.2.2 == t639)) != t668) t637 t638 t639 t641 t642 t643 t645 t646 t647 bt659.1 bt659.2.1 bt659.2.2)) else (turnpikelaw3_PrefixOrder.j3 kj117 true t637 t638 t639 t641 t642 t643 t645 t646 t647 bt659.1 bt659.2.1 bt659.2.2))) else (turnpikelaw3_PrefixOrder.j3 kj117 true t637 t638 t639 t641 t642 t643 t645 t646 t647 bt659.1 bt659.2.1 bt659.2.2)))))) = some r := by rw [if_neg (show ¬ (false = true) by decide)] at H; exact H
           clear H
           have H := H1
           clear H1
           replace H := Option.bind_eq_some_iff.mp H
           obtain ⟨⟨t659, t660, t661⟩, A2020, H⟩ := H
           replace H : ((prefix_Meet.f t641 t642 t643 t637 t638 t639).bind fun bt663 => (if ((!(t659 == bt663.1) || (!(t660 == bt663.2.1))) || (!(t661 == bt663.2.2))) = true then (turnpikelaw3_PrefixOrder.j3 kj117 true t637 t638 t639 t641 t642 t643 t645 t646 t647 t659 t660 t661) else ((prefix_Within.f t637 t638 t639 t659 t660 t661).bind fun t666 => (if t666 = true then ((prefix_Within.f t641 t642 t643 t659 t660 t661).bind fun t667 => (if t667 = true then ((prefix_Within.f t641 t642 t643 t637 t638 t639).bind fun t668 => (turnpikelaw3_PrefixOrder.j3 kj117 (((t659 == t637 && (t660 == t638)) && (t661 == t639)) != t668) t637 t638 t639 t641 t642 t643 t645 t646 t647 t659 t660 t661)) else (turnpikelaw3_PrefixOrder.j3 kj117 true t637 t638 t639 t641 t642 t643 t645 t646 t647 t659 t660 t661))) else (turnpikelaw3_PrefixOrder.j3 kj117 true t637 t638 t639 t641 t642 t643 t645 t646 t647 t659 t660 t661))))) = some r := H
           have A202 := Aside0.mk A2020
           clear A2020
           have HC203 := Aside0.mk H
           clear H
           have hnb204 := NB640_632.out
           have hnc204 := NB632_640.out
           have hnb205 := NB640_633.out
           have hnc205 := NB633_640.out
           have hnb206 := NB640_634.out
           have hnc206 := NB634_640.out
           have hnb207 := NB640_644.out
           have hnc207 := NB644_640.out
           have hnb208 := NB640_648.out
           have hnc208 := NB648_640.out
           have hcz209_0 : wc.cell? ⟨gb640, 0, none⟩ = some (.int .u64 t637) := (blk_cell BK640.out 0).trans rfl
           have hcz209_1 : wc.cell? ⟨gb640, 1, none⟩ = some (.int .u64 t638) := (blk_cell BK640.out 1).trans rfl
           have hcz209_2 : wc.cell? ⟨gb640, 2, none⟩ = some (.int .i64 t639) := (blk_cell BK640.out 2).trans rfl
           have hfz209_0 := blk_frozen BK640.out 0
           have hfz209_1 := blk_frozen BK640.out 1
           have hfz209_2 := blk_frozen BK640.out 2
           have hnb210 := NB644_632.out
           have hnc210 := NB632_644.out
           have hnb211 := NB644_633.out
           have hnc211 := NB633_644.out
           have hnb212 := NB644_634.out
           have hnc212 := NB634_644.out
           have hnb213 := NB644_648.out
           have hnc213 := NB648_644.out
           have hcz214_0 : wc.cell? ⟨gb644, 0, none⟩ = some (.int .u64 t641) := (blk_cell BK644.out 0).trans rfl
           have hcz214_1 : wc.cell? ⟨gb644, 1, none⟩ = some (.int .u64 t642) := (blk_cell BK644.out 1).trans rfl
           have hcz214_2 : wc.cell? ⟨gb644, 2, none⟩ = some (.int .i64 t643) := (blk_cell BK644.out 2).trans rfl
           have hfz214_0 := blk_frozen BK644.out 0
           have hfz214_1 := blk_frozen BK644.out 1
           have hfz214_2 := blk_frozen BK644.out 2
           go_upto_region 14 with (first | ((with_reducible refine gate_callee (f := 41) rfl ?_); refine goesL_ (some 93) rfl rfl Tryd.func41 (by kernel_rfl) rfl #[.agg #[.int .u64 t637, .int .u64 t638, .int .i64 t639], .agg #[.int .u64 t641, .int .u64 t642, .int .i64 t643]] rfl xM ?_; (with_reducible refine (prefix_Meet.calls t637 t638 t639 t641 t642 t643 t659 t660 t661 _ A202.out).mono ?_); rintro e w215 ⟨rfl, hb⟩; refine ⟨_, rfl, ?_⟩; have n0_ := xP BK632.out hb; have n1_ := xP BK633.out hb; have n2_ := xP BK634.out hb; have n3_ := xP BK640.out hb; have n4_ := xP BK644.out hb; have n5_ := xP BK648.out hb; have n6_ := Aside0.mk (below_step xG hb); clear BK632; clear BK633; clear BK634; clear BK640; clear BK644; clear BK648; clear HB; have BK632 := n0_; have BK633 := n1_; have BK634 := n2_; have BK640 := n3_; have BK644 := n4_; have BK648 := n5_; have HB := n6_; clear n0_ n1_ n2_ n3_ n4_ n5_ n6_; (try clear hb); (try clear hb2); (try clear hk); (try clear hi)) | ((with_reducible refine gate_dst (N := 19) rfl ?_); refine box_event ?hg (N := 19) ?hd (cs := #[.int .u64 0, .int .u64 0, .int .i64 0]) (t := 28) ?hr ?_; (case hd => rfl); (case hg => rfl); (case hr => first | (go_simp; done) | (go_simp; rfl)); intro gb662 hg w216 hbox hb; have n0_ := xP BK632.out hb; have n1_ := xP BK633.out hb; have n2_ := xP BK634.out hb; have n3_ := xP BK640.out hb; have n4_ := xP BK644.out hb; have n5_ := xP BK648.out hb; have n6_ := Aside0.mk (below_step xG hb); have n7_ := Aside0.mk (hbox); have n8_ := xT w hg; have n9_ := xT w hg; have n10_ := Aside0.mk ((xNl BK632.out hg : gb632 ≠ gb662)); have n11_ := Aside0.mk ((xNr BK632.out hg : gb662 ≠ gb632)); have n12_ := Aside0.mk ((xNl BK633.out hg : gb633 ≠ gb662)); have n13_ := Aside0.mk ((xNr BK633.out hg : gb662 ≠ gb633)); have n14_ := Aside0.mk ((xNl BK634.out hg : gb634 ≠ gb662)); have n15_ := Aside0.mk ((xNr BK634.out hg : gb662 ≠ gb634)); have n16_ := Aside0.mk ((xNl BK640.out hg : gb640 ≠ gb662)); have n17_ := Aside0.mk ((xNr BK640.out hg : gb662 ≠ gb640)); have n18_ := Aside0.mk ((xNl BK644.out hg : gb644 ≠ gb662)); have n19_ := Aside0.mk ((xNr BK644.out hg : gb662 ≠ gb644)); have n20_ := Aside0.mk ((xNl BK648.out hg : gb648 ≠ gb662)); have n21_ := Aside0.mk ((xNr BK648.out hg : gb662 ≠ gb648)); clear BK632; clear BK633; clear BK634; clear BK640; clear BK644; clear BK648; clear HB; have BK632 := n0_; have BK633 := n1_; have BK634 := n2_; have BK640 := n3_; have BK644 := n4_; have BK648 := n5_; have HB := n6_; have BK662 := n7_; have GW662 := n8_; have GE662 := n9_; have NB632_662 := n10_; have NB662_632 := n11_; have NB633_662 := n12_; have NB662_633 := n13_; have NB634_662 := n14_; have NB662_634 := n15_; have NB640_662 := n16_; have NB662_640 := n17_; have NB644_662 := n18_; have NB662_644 := n19_; have NB648_662 := n20_; have NB662_648 := n21_; clear n0_ n1_ n2_ n3_ n4_ n5_ n6_ n7_ n8_ n9_ n10_ n11_ n12_ n13_ n14_ n15_ n16_ n17_ n18_ n19_ n20_ n21_; clear hb hbox hg; have hnb217 := NB662_632.out; have hnc217 := NB632_662.out; have hnb218 := NB662_633.out; have hnc218 := NB633_662.out; have hnb219 := NB662_634.out; have hnc219 := NB634_662.out; have hnb220 := NB662_640.out; have hnc220 := NB640_662.out; have hnb221 := NB662_644.out; have hnc221 := NB644_662.out; have hnb222 := NB662_648.out; have hnc222 := NB648_662.out; have hcz223_0 : w216.cell? ⟨gb662, 0, none⟩ = some (.int .u64 0) := (blk_cell BK662.out 0).trans rfl; have hcz223_1 : w216.cell? ⟨gb662, 1, none⟩ = some (.int .u64 0) := (blk_cell BK662.out 1).trans rfl; have hcz223_2 : w216.cell? ⟨gb662, 2, none⟩ = some (.int .i64 0) := (blk_cell BK662.out 2).trans rfl; have hfz223_0 := blk_frozen BK662.out 0; have hfz223_1 := blk_frozen BK662.out 1; have hfz223_2 := blk_frozen BK662.out 2))
           (try simp only [Act.put, List.setIfInBounds_toArray, List.set_cons_zero, List.set_cons_succ])
           go_cut [119] (fun v119 wc => ∃ (kq : Nat) (x119_202 : Bool), v119 = .bool x119_202 ∧ Aside0 (turnpikelaw3_PrefixOrder.j3 kq x119_202 t637 t638 t639 t641 t642 t643 t645 t646 t647 t659 t660 t661 = some r) ∧ Aside0 (kq ≤ kj117) ∧ Aside0 (wc.heap[gb632]? = some (.cells #[.int .u64 a1_0, .int .u64 a1_1] 24 (0, 0))) ∧ Aside0 (wc.heap[gb633]? = some (.cells #[.int .u64 a3_0, .int .u64 a3_1] 24 (0, 0))) ∧ Aside0 (wc.heap[gb634]? = some (.cells #[.int .u64 a5_0, .int .u64 a5_1] 24 (0, 0))) ∧ Aside0 (wc.heap[gb640]? = some (.cells #[.int .u64 t637, .int .u64 t638, .int .i64 t639] 28 (0, 0))) ∧ Aside0 (wc.heap[gb644]? = some (.cells #[.int .u64 t641, .int .u64 t642, .int .i64 t643] 28 (0, 0))) ∧ Aside0 (wc.heap[gb648]? = some (.cells #[.int .u64 t645, .int .u64 t646, .int .i64 t647] 28 (0, 0))) ∧ Aside0 (wc.heap[gb662]? = some (.cells #[.int .u64 t659, .int .u64 t660, .int .i64 t661] 28 (0, 0))) ∧ Aside0 (Below w.heap.size w wc))
           case first =>
            have H := HC203.out
            clear HC203
            replace H := Option.bind_eq_some_iff.mp H
            obtain ⟨⟨t663, t664, t665⟩, A2240, H⟩ := H
            replace H : (if ((!(t659 == t663) || (!(t660 == t664))) || (!(t661 == t665))) = true then (turnpikelaw3_PrefixOrder.j3 kj117 true t637 t638 t639 t641 t642 t643 t645 t646 t647 t659 t660 t661) else ((prefix_Within.f t637 t638 t639 t659 t660 t661).bind fun t666 => (if t666 = true then ((prefix_Within.f t641 t642 t643 t659 t660 t661).bind fun t667 => (if t667 = true then ((prefix_Within.f t641 t642 t643 t637 t638 t639).bind fun t668 => (turnpikelaw3_PrefixOrder.j3 kj117 (((t659 == t637 && (t660 == t638)) && (t661 == t639)) != t668) t637 t638 t639 t641 t642 t643 t645 t646 t647 t659 t660 t661)) else (turnpikelaw3_PrefixOrder.j3 kj117 true t637 t638 t639 t641 t642 t643 t645 t646 t647 t659 t660 t661))) else (turnpikelaw3_PrefixOrder.j3 kj117 true t637 t638 t639 t641 t642 t643 t645 t646 t647 t659 t660 t661)))) = some r := H
            have A224 := Aside0.mk A2240
            clear A2240
            by_cases c225 : ((!(t659 == t663) || (!(t660 == t664))) || (!(t661 == t665))) = true
            ·rw [if_pos c225] at H
             have c225b0 : ((!(t659 == t663) || (!(t660 == t664))) || (!(t661 == t665))) = true := c225
             clear c225
             (first | rw [c225b0] | (simp only [i64_w, i32_w]; rw [c225b0]) | skip)
             have H' := Aside0.mk H
             clear H
             try go_wp2
             have n0_ : Aside0 ((((w216.setCell ⟨gb662, 0, none⟩ (.int .u64 t659)).setCell ⟨gb662, 1, none⟩ (.int .u64 t660)).setCell ⟨gb662, 2, none⟩ (.int .i64 t661)).heap[gb632]? = some (.cells #[.int .u64 a1_0, .int .u64 a1_1] 24 (0, 0))) := ⟨by (with_reducible repeat (first | refine blk_drewN ?_ _ | refine blk_drew ?_ | refine blk_alloc ?_ _)); refine blk_far ?_ NB632_662.out _; (with_reducible repeat (first | refine blk_drewN ?_ _ | refine blk_drew ?_ | refine blk_alloc ?_ _)); refine blk_far ?_ NB632_662.out _; (with_reducible repeat (first | refine blk_drewN ?_ _ | refine blk_drew ?_ | refine blk_alloc ?_ _)); refine blk_far ?_ NB632_662.out _; (with_reducible repeat (first | refine blk_drewN ?_ _ | refine blk_drew ?_ | refine blk_alloc ?_ _)); exact BK632.out⟩
             have n1_ : Aside0 ((((w216.setCell ⟨gb662, 0, none⟩ (.int .u64 t659)).setCell ⟨gb662, 1, none⟩ (.int .u64 t660)).setCell ⟨gb662, 2, none⟩ (.int .i64 t661)).heap[gb633]? = some (.cells #[.int .u64 a3_0, .int .u64 a3_1] 24 (0, 0))) := ⟨by (with_reducible repeat (first | refine blk_drewN ?_ _ | refine blk_drew ?_ | refine blk_alloc ?_ _)); refine blk_far ?_ NB633_662.out _; (with_reducible repeat (first | refine blk_drewN ?_ _ | refine blk_drew ?_ | refine blk_alloc ?_ _)); refine blk_far ?_ NB633_662.out _; (with_reducible repeat (first | refine blk_drewN ?_ _ | refine blk_drew ?_ | refine blk_alloc ?_ _)); refine blk_far ?_ NB633_662.out _; (with_reducible repeat (first | refine blk_drewN ?_ _ | refine blk_drew ?_ | refine blk_alloc ?_ _)); exact BK633.out⟩
             have n2_ : Aside0 ((((w216.setCell ⟨gb662, 0, none⟩ (.int .u64 t659)).setCell ⟨gb662, 1, none⟩ (.int .u64 t660)).setCell ⟨gb662, 2, none⟩ (.int .i64 t661)).heap[gb634]? = some (.cells #[.int .u64 a5_0, .int .u64 a5_1] 24 (0, 0))) := ⟨by (with_reducible repeat (first | refine blk_drewN ?_ _ | refine blk_drew ?_ | refine blk_alloc ?_ _)); refine blk_far ?_ NB634_662.out _; (with_reducible repeat (first | refine blk_drewN ?_ _ | refine blk_drew ?_ | refine blk_alloc ?_ _)); refine blk_far ?_ NB634_662.out _; (with_reducible repeat (first | refine blk_drewN ?_ _ | refine blk_drew ?_ | refine blk_alloc ?_ _)); refine blk_far ?_ NB634_662.out _; (with_reducible repeat (first | refine blk_drewN ?_ _ | refine blk_drew ?_ | refine blk_alloc ?_ _)); exact BK634.out⟩
             have n3_ : Aside0 ((((w216.setCell ⟨gb662, 0, none⟩ (.int .u64 t659)).setCell ⟨gb662, 1, none⟩ (.int .u64 t660)).setCell ⟨gb662, 2, none⟩ (.int .i64 t661)).heap[gb640]? = some (.cells #[.int .u64 t637, .int .u64 t638, .int .i64 t639] 28 (0, 0))) := ⟨by (with_reducible repeat (first | refine blk_drewN ?_ _ | refine blk_drew ?_ | refine blk_alloc ?_ _)); refine blk_far ?_ NB640_662.out _; (with_reducible repeat (first | refine blk_drewN ?_ _ | refine blk_drew ?_ | refine blk_alloc ?_ _)); refine blk_far ?_ NB640_662.out _; (with_reducible repeat (first | refine blk_drewN ?_ _ | refine blk_drew ?_ | refine blk_alloc ?_ _)); refine blk_far ?_ NB640_662.out _; (with_reducible repeat (first | refine blk_drewN ?_ _ | refine blk_drew ?_ | refine blk_alloc ?_ _)); exact BK640.out⟩
             have n4_ : Aside0 ((((w216.setCell ⟨gb662, 0, none⟩ (.int .u64 t659)).setCell ⟨gb662, 1, none⟩ (.int .u64 t660)).setCell ⟨gb662, 2, none⟩ (.int .i64 t661)).heap[gb644]? = some (.cells #[.int .u64 t641, .int .u64 t642, .int .i64 t643] 28 (0, 0))) := ⟨by (with_reducible repeat (first | refine blk_drewN ?_ _ | refine blk_drew ?_ | refine blk_alloc ?_ _)); refine blk_far ?_ NB644_662.out _; (with_reducible repeat (first | refine blk_drewN ?_ _ | refine blk_drew ?_ | refine blk_alloc ?_ _)); refine blk_far ?_ NB644_662.out _; (with_reducible repeat (first | refine blk_drewN ?_ _ | refine blk_drew ?_ | refine blk_alloc ?_ _)); refine blk_far ?_ NB644_662.out _; (with_reducible repeat (first | refine blk_drewN ?_ _ | refine blk_drew ?_ | refine blk_alloc ?_ _)); exact BK644.out⟩
             have n5_ : Aside0 ((((w216.setCell ⟨gb662, 0, none⟩ (.int .u64 t659)).setCell ⟨gb662, 1, none⟩ (.int .u64 t660)).setCell ⟨gb662, 2, none⟩ (.int .i64 t661)).heap[gb648]? = some (.cells #[.int .u64 t645, .int .u64 t646, .int .i64 t647] 28 (0, 0))) := ⟨by (with_reducible repeat (first | refine blk_drewN ?_ _ | refine blk_drew ?_ | refine blk_alloc ?_ _)); refine blk_far ?_ NB648_662.out _; (with_reducible repeat (first | refine blk_drewN ?_ _ | refine blk_drew ?_ | refine blk_alloc ?_ _)); refine blk_far ?_ NB648_662.out _; (with_reducible repeat (first | refine blk_drewN ?_ _ | refine blk_drew ?_ | refine blk_alloc ?_ _)); refine blk_far ?_ NB648_662.out _; (with_reducible repeat (first | refine blk_drewN ?_ _ | refine blk_drew ?_ | refine blk_alloc ?_ _)); exact BK648.out⟩
             have n6_ : Aside0 ((((w216.setCell ⟨gb662, 0, none⟩ (.int .u64 t659)).setCell ⟨gb662, 1, none⟩ (.int .u64 t660)).setCell ⟨gb662, 2, none⟩ (.int .i64 t661)).heap[gb662]? = some (.cells #[.int .u64 t659, .int .u64 t660, .int .i64 t661] 28 (0, 0))) := ⟨by (with_reducible repeat (first | refine blk_drewN ?_ _ | refine blk_drew ?_ | refine blk_alloc ?_ _)); refine blk_put (cs := #[.int .u64 t659, .int .u64 t660, .int .i64 0]) ?_ 2 _ rfl; (with_reducible repeat (first | refine blk_drewN ?_ _ | refine blk_drew ?_ | refine blk_alloc ?_ _)); refine blk_put (cs := #[.int .u64 t659, .int .u64 0, .int .i64 0]) ?_ 1 _ rfl; (with_reducible repeat (first | refine blk_drewN ?_ _ | refine blk_drew ?_ | refine blk_alloc ?_ _)); refine blk_put (cs := #[.int .u64 0, .int .u64 0, .int .i64 0]) ?_ 0 _ rfl; (with_reducible repeat (first | refine blk_drewN ?_ _ | refine blk_drew ?_ | refine blk_alloc ?_ _)); exact BK662.out⟩
             have n7_ : Aside0 (Below w.heap.size w (((w216.setCell ⟨gb662, 0, none⟩ (.int .u64 t659)).setCell ⟨gb662, 1, none⟩ (.int .u64 t660)).setCell ⟨gb662, 2, none⟩ (.int .i64 t661))) := ⟨xG⟩
             (try clear BK632)
             (try clear BK633)
             (try clear BK634)
             (try clear BK640)
             (try clear BK644)
             (try clear BK648)
             (try clear BK662)
             (try clear HB)
             generalize (((w216.setCell ⟨gb662, 0, none⟩ (.int .u64 t659)).setCell ⟨gb662, 1, none⟩ (.int .u64 t660)).setCell ⟨gb662, 2, none⟩ (.int .i64 t661)) = w226 at n0_ n1_ n2_ n3_ n4_ n5_ n6_ n7_ ⊢
             have BK632 := n0_
             have BK633 := n1_
             have BK634 := n2_
             have BK640 := n3_
             have BK644 := n4_
             have BK648 := n5_
             have BK662 := n6_
             have HB := n7_
             clear n0_ n1_ n2_ n3_ n4_ n5_ n6_ n7_
             have n0_ := Aside0.mk (blk_drew BK632.out)
             have n1_ := Aside0.mk (blk_drew BK633.out)
             have n2_ := Aside0.mk (blk_drew BK634.out)
             have n3_ := Aside0.mk (blk_drew BK640.out)
             have n4_ := Aside0.mk (blk_drew BK644.out)
             have n5_ := Aside0.mk (blk_drew BK648.out)
             have n6_ := Aside0.mk (blk_drew BK662.out)
             have n7_ := Aside0.mk (below_drew1 HB.out)
             clear BK632
             clear BK633
             clear BK634
             clear BK640
             clear BK644
             clear BK648
             clear BK662
             clear HB
             have BK632 := n0_
             have BK633 := n1_
             have BK634 := n2_
             have BK640 := n3_
             have BK644 := n4_
             have BK648 := n5_
             have BK662 := n6_
             have HB := n7_
             clear n0_ n1_ n2_ n3_ n4_ n5_ n6_ n7_
             refine start_ (n := 26) (S := fun w' => w'.cell? ⟨gb662, 0, none⟩ = some (.int .u64 t659) ∧ w'.cell? ⟨gb662, 1, none⟩ = some (.int .u64 t660) ∧ w'.cell? ⟨gb662, 2, none⟩ = some (.int .i64 t661) ∧ w'.cell? ⟨gb644, 0, none⟩ = some (.int .u64 t641) ∧ w'.cell? ⟨gb644, 1, none⟩ = some (.int .u64 t642) ∧ w'.cell? ⟨gb644, 2, none⟩ = some (.int .i64 t643) ∧ w'.cell? ⟨gb640, 0, none⟩ = some (.int .u64 t637) ∧ w'.cell? ⟨gb640, 1, none⟩ = some (.int .u64 t638) ∧ w'.cell? ⟨gb640, 2, none⟩ = some (.int .i64 t639)) (ds := []) #[false, false, false, false, false, false, false, false, false, false, false, false, false, false, false, false, false, false, false, false, false, false, false, false, false, false] (by kernel_rfl) rfl rfl ⟨(blk_cell BK662.out 0).trans rfl, (blk_cell BK662.out 1).trans rfl, (blk_cell BK662.out 2).trans rfl, (blk_cell BK644.out 0).trans rfl, (blk_cell BK644.out 1).trans rfl, (blk_cell BK644.out 2).trans rfl, (blk_cell BK640.out 0).trans rfl, (blk_cell BK640.out 1).trans rfl, (blk_cell BK640.out 2).trans rfl⟩ (fun hHeld => ?_); refine with_tabW turnpikelaw3_PrefixOrder.tab14 turnpikelaw3_PrefixOrder.bits14 (fun HT_ HW_ => ?_)
             generalize w226.drew = w227 at BK632 BK633 BK634 BK640 BK644 BK648 BK662 HB hHeld ⊢
             refine take_ (i := 0) (N := some 94) (v := ?_) (a' := ?_) #[true, false, false, false, false, false, false, false, false, false, false, false, false, false, false, false, false, false, false, false, false, false, false, false, false, false] rfl rfl (take_ofW HT_.out HW_.out (by kernel_rfl)) (fun _ _ _ h => h) (Or.inl ⟨by rfl, ?_⟩) hHeld ?_ ?_
             rotate_left
             ·rintro w' ⟨s0, s1, s2, s3, s4, s5, s6, s7, s8⟩
              go_simp
              with_reducible rfl
             rotate_left
             ·simp only [Act.put, List.setIfInBounds_toArray, List.set_cons_zero, List.set_cons_succ, i64_w, i32_w]
              rfl
             refine take_ (i := 1) (N := some 95) (v := ?_) (a' := ?_) #[true, true, false, false, false, false, false, false, false, false, false, false, false, false, false, false, false, false, false, false, false, false, false, false, false, false] rfl rfl (take_ofW HT_.out HW_.out (by kernel_rfl)) (fun _ _ _ h => h) (Or.inl ⟨by rfl, ?_⟩) hHeld ?_ ?_
             rotate_left
             ·rintro w' ⟨s0, s1, s2, s3, s4, s5, s6, s7, s8⟩
              go_simp
              with_reducible rfl
             rotate_left
             ·simp only [Act.put, List.setIfInBounds_toArray, List.set_cons_zero, List.set_cons_succ, i64_w, i32_w]
              rfl
             refine take_ (i := 2) (N := some 96) (v := ?_) (a' := ?_) #[true, true, true, false, false, false, false, false, false, false, false, false, false, false, false, false, false, false, false, false, false, false, false, false, false, false] rfl rfl (take_ofW HT_.out HW_.out (by kernel_rfl)) (fun _ _ _ h => h) (Or.inl ⟨by rfl, ?_⟩) hHeld ?_ ?_
             rotate_left
             ·rintro w' ⟨s0, s1, s2, s3, s4, s5, s6, s7, s8⟩
              go_simp
              with_reducible rfl
             rotate_left
             ·simp only [Act.put, List.setIfInBounds_toArray, List.set_cons_zero, List.set_cons_succ, i64_w, i32_w]
              rfl
             refine one_ (i := 3) (N := some 97) #[true, true, true, true, false, false, false, false, false, false, false, false, false, false, false, false, false, false, false, false, false, false, false, false, false, false] rfl rfl (one_of HT_.out (by kernel_rfl)) (by decide) (fun K hK => ?_)
             refine goes_ Tryd.func41 (by kernel_rfl) rfl #[.agg #[.int .u64 t641, .int .u64 t642, .int .i64 t643], .agg #[.int .u64 t637, .int .u64 t638, .int .i64 t639]] (by rfl) rfl rfl xM ?_
             with_reducible refine (prefix_Meet.calls t641 t642 t643 t637 t638 t639 t663 t664 t665 _ A224.out).mono ?_
             rintro e w228 ⟨rfl, hb⟩
             refine ⟨_, rfl, ?_⟩
             have n0_ := xP BK632.out hb
             have n1_ := xP BK633.out hb
             have n2_ := xP BK634.out hb
             have n3_ := xP BK640.out hb
             have n4_ := xP BK644.out hb
             have n5_ := xP BK648.out hb
             have n6_ := xP BK662.out hb
             have n7_ := Aside0.mk (below_step xG hb)
             clear BK632
             clear BK633
             clear BK634
             clear BK640
             clear BK644
             clear BK648
             clear BK662
             clear HB
             have BK632 := n0_
             have BK633 := n1_
             have BK634 := n2_
             have BK640 := n3_
             have BK644 := n4_
             have BK648 := n5_
             have BK662 := n6_
             have HB := n7_
             clear n0_ n1_ n2_ n3_ n4_ n5_ n6_ n7_
             (try clear hb)
             (try clear hb2)
             (try clear hk)
             (try clear hi)
             refine hK.out _ _ ⟨(blk_cell BK662.out 0).trans rfl, (blk_cell BK662.out 1).trans rfl, (blk_cell BK662.out 2).trans rfl, (blk_cell BK644.out 0).trans rfl, (blk_cell BK644.out 1).trans rfl, (blk_cell BK644.out 2).trans rfl, (blk_cell BK640.out 0).trans rfl, (blk_cell BK640.out 1).trans rfl, (blk_cell BK640.out 2).trans rfl⟩ (fun hHeld => ?_)
             clear hK K
             refine norm_ (a' := ?_) ?_ ?_
             rotate_left
             ·show Act.put _ (some 97) _ = _
              simp only [Act.put, List.setIfInBounds_toArray, List.set_cons_zero, List.set_cons_succ, i64_w, i32_w]
              rfl
             refine pure_ (i := 4) (N := some 98) (v := ?_) (a' := ?_) #[true, true, true, true, true, false, false, false, false, false, false, false, false, false, false, false, false, false, false, false, false, false, false, false, false, false] rfl rfl (any_of HT_.out (by kernel_rfl)) (fun _ _ _ h => h) (Or.inl ⟨by rfl, ?_⟩) ?_ ?_
             rotate_left
             ·intro w'
              go_simp
              with_reducible rfl
             rotate_left
             ·simp only [Act.put, List.setIfInBounds_toArray, List.set_cons_zero, List.set_cons_succ, i64_w, i32_w]
              rfl
             refine pure_ (i := 5) (N := some 99) (v := ?_) (a' := ?_) #[true, true, true, true, true, true, false, false, false, false, false, false, false, false, false, false, false, false, false, false, false, false, false, false, false, false] rfl rfl (any_of HT_.out (by kernel_rfl)) (fun _ _ _ h => h) (Or.inl ⟨by rfl, ?_⟩) ?_ ?_
             rotate_left
             ·intro w'
              go_simp
              with_reducible rfl
             rotate_left
             ·simp only [Act.put, List.setIfInBounds_toArray, List.set_cons_zero, List.set_cons_succ, i64_w, i32_w]
              rfl
             refine pure_ (i := 6) (N := some 100) (v := undef) (a' := ?_) #[true, true, true, true, true, true, true, false, false, false, false, false, false, false, false, false, false, false, false, false, false, false, false, false, false, false] rfl rfl (any_of HT_.out (by kernel_rfl)) (fun _ _ _ h => h) (Or.inr ⟨by rfl, rfl⟩) ?_ ?_
             rotate_left
             ·simp only [Act.put, List.setIfInBounds_toArray, List.set_cons_zero, List.set_cons_succ, i64_w, i32_w]
              rfl
             refine pure_ (i := 7) (N := some 101) (v := undef) (a' := ?_) #[true, true, true, true, true, true, true, true, false, false, false, false, false, false, false, false, false, false, false, false, false, false, false, false, false, false] rfl rfl (any_of HT_.out (by kernel_rfl)) (fun _ _ _ h => h) (Or.inr ⟨by rfl, rfl⟩) ?_ ?_
             rotate_left
             ·simp only [Act.put, List.setIfInBounds_toArray, List.set_cons_zero, List.set_cons_succ, i64_w, i32_w]
              rfl
             refine pure_ (i := 8) (N := some 102) (v := undef) (a' := ?_) #[true, true, true, true, true, true, true, true, true, false, false, false, false, false, false, false, false, false, false, false, false, false, false, false, false, false] rfl rfl (any_of HT_.out (by kernel_rfl)) (fun _ _ _ h => h) (Or.inr ⟨by rfl, rfl⟩) ?_ ?_
             rotate_left
             ·simp only [Act.put, List.setIfInBounds_toArray, List.set_cons_zero, List.set_cons_succ, i64_w, i32_w]
              rfl
             refine pure_ (i := 9) (N := some 103) (v := undef) (a' := ?_) #[true, true, true, true, true, true, true, true, true, true, false, false, false, false, false, false, false, false, false, false, false, false, false, false, false, false] rfl rfl (any_of HT_.out (by kernel_rfl)) (fun _ _ _ h => h) (Or.inr ⟨by rfl, rfl⟩) ?_ ?_
             rotate_left
             ·simp only [Act.put, List.setIfInBounds_toArray, List.set_cons_zero, List.set_cons_succ, i64_w, i32_w]
              rfl
             refine pure_ (i := 10) (N := some 104) (v := ?_) (a' := ?_) #[true, true, true, true, true, true, true, true, true, true, true, false, false, false, false, false, false, false, false, false, false, false, false, false, false, false] rfl rfl (any_of HT_.out (by kernel_rfl)) (fun _ _ _ h => h) (Or.inl ⟨by rfl, ?_⟩) ?_ ?_
             rotate_left
             ·intro w'
              go_simp
              with_reducible rfl
             rotate_left
             ·simp only [Act.put, List.setIfInBounds_toArray, List.set_cons_zero, List.set_cons_succ, i64_w, i32_w]
              rfl
             refine pure_ (i := 11) (N := some 105) (v := ?_) (a' := ?_) #[true, true, true, true, true, true, true, true, true, true, true, true, false, false, false, false, false, false, false, false, false, false, false, false, false, false] rfl rfl (any_of HT_.out (by kernel_rfl)) (fun _ _ _ h => h) (Or.inl ⟨by rfl, ?_⟩) ?_ ?_
             rotate_left
             ·intro w'
              go_simp
              with_reducible rfl
             rotate_left
             ·simp only [Act.put, List.setIfInBounds_toArray, List.set_cons_zero, List.set_cons_succ, i64_w, i32_w]
              rfl
             refine pure_ (i := 12) (N := some 106) (v := undef) (a' := ?_) #[true, true, true, true, true, true, true, true, true, true, true, true, true, false, false, false, false, false, false, false, false, false, false, false, false, false] rfl rfl (any_of HT_.out (by kernel_rfl)) (fun _ _ _ h => h) (Or.inr ⟨by rfl, rfl⟩) ?_ ?_
             rotate_left
             ·simp only [Act.put, List.setIfInBounds_toArray, List.set_cons_zero, List.set_cons_succ, i64_w, i32_w]
              rfl
             refine pure_ (i := 13) (N := some 107) (v := undef) (a' := ?_) #[true, true, true, true, true, true, true, true, true, true, true, true, true, true, false, false, false, false, false, false, false, false, false, false, false, false] rfl rfl (any_of HT_.out (by kernel_rfl)) (fun _ _ _ h => h) (Or.inr ⟨by rfl, rfl⟩) ?_ ?_
             rotate_left
             ·simp only [Act.put, List.setIfInBounds_toArray, List.set_cons_zero, List.set_cons_succ, i64_w, i32_w]
              rfl
             refine pure_ (i := 14) (N := some 108) (v := undef) (a' := ?_) #[true, true, true, true, true, true, true, true, true, true, true, true, true, true, true, false, false, false, false, false, false, false, false, false, false, false] rfl rfl (any_of HT_.out (by kernel_rfl)) (fun _ _ _ h => h) (Or.inr ⟨by rfl, rfl⟩) ?_ ?_
             rotate_left
             ·simp only [Act.put, List.setIfInBounds_toArray, List.set_cons_zero, List.set_cons_succ, i64_w, i32_w]
              rfl
             refine pure_ (i := 15) (N := some 109) (v := undef) (a' := ?_) #[true, true, true, true, true, true, true, true, true, true, true, true, true, true, true, true, false, false, false, false, false, false, false, false, false, false] rfl rfl (any_of HT_.out (by kernel_rfl)) (fun _ _ _ h => h) (Or.inr ⟨by rfl, rfl⟩) ?_ ?_
             rotate_left
             ·simp only [Act.put, List.setIfInBounds_toArray, List.set_cons_zero, List.set_cons_succ, i64_w, i32_w]
              rfl
             refine pure_ (i := 16) (N := some 110) (v := ?_) (a' := ?_) #[true, true, true, true, true, true, true, true, true, true, true, true, true, true, true, true, true, false, false, false, false, false, false, false, false, false] rfl rfl (any_of HT_.out (by kernel_rfl)) (fun _ _ _ h => h) (Or.inl ⟨by rfl, ?_⟩) ?_ ?_
             rotate_left
             ·intro w'
              go_simp
              with_reducible rfl
             rotate_left
             ·simp only [Act.put, List.setIfInBounds_toArray, List.set_cons_zero, List.set_cons_succ, i64_w, i32_w]
              rfl
             refine pure_ (i := 17) (N := some 111) (v := ?_) (a' := ?_) #[true, true, true, true, true, true, true, true, true, true, true, true, true, true, true, true, true, true, false, false, false, false, false, false, false, false] rfl rfl (any_of HT_.out (by kernel_rfl)) (fun _ _ _ h => h) (Or.inl ⟨by rfl, ?_⟩) ?_ ?_
             rotate_left
             ·intro w'
              go_simp
              with_reducible rfl
             rotate_left
             ·simp only [Act.put, List.setIfInBounds_toArray, List.set_cons_zero, List.set_cons_succ, i64_w, i32_w]
              rfl
             refine pure_ (i := 18) (N := some 112) (v := undef) (a' := ?_) #[true, true, true, true, true, true, true, true, true, true, true, true, true, true, true, true, true, true, true, false, false, false, false, false, false, false] rfl rfl (any_of HT_.out (by kernel_rfl)) (fun _ _ _ h => h) (Or.inr ⟨by rfl, rfl⟩) ?_ ?_
             rotate_left
             ·simp only [Act.put, List.setIfInBounds_toArray, List.set_cons_zero, List.set_cons_succ, i64_w, i32_w]
              rfl
             refine pure_ (i := 19) (N := some 113) (v := undef) (a' := ?_) #[true, true, true, true, true, true, true, true, true, true, true, true, true, true, true, true, true, true, true, true, false, false, false, false, false, false] rfl rfl (any_of HT_.out (by kernel_rfl)) (fun _ _ _ h => h) (Or.inr ⟨by rfl, rfl⟩) ?_ ?_
             rotate_left
             ·simp only [Act.put, List.setIfInBounds_toArray, List.set_cons_zero, List.set_cons_succ, i64_w, i32_w]
              rfl
             refine pure_ (i := 20) (N := some 114) (v := undef) (a' := ?_) #[true, true, true, true, true, true, true, true, true, true, true, true, true, true, true, true, true, true, true, true, true, false, false, false, false, false] rfl rfl (any_of HT_.out (by kernel_rfl)) (fun _ _ _ h => h) (Or.inr ⟨by rfl, rfl⟩) ?_ ?_
             rotate_left
             ·simp only [Act.put, List.setIfInBounds_toArray, List.set_cons_zero, List.set_cons_succ, i64_w, i32_w]
              rfl
             refine pure_ (i := 21) (N := some 115) (v := undef) (a' := ?_) #[true, true, true, true, true, true, true, true, true, true, true, true, true, true, true, true, true, true, true, true, true, true, false, false, false, false] rfl rfl (any_of HT_.out (by kernel_rfl)) (fun _ _ _ h => h) (Or.inr ⟨by rfl, rfl⟩) ?_ ?_
             rotate_left
             ·simp only [Act.put, List.setIfInBounds_toArray, List.set_cons_zero, List.set_cons_succ, i64_w, i32_w]
              rfl
             refine pure_ (i := 22) (N := some 116) (v := undef) (a' := ?_) #[true, true, true, true, true, true, true, true, true, true, true, true, true, true, true, true, true, true, true, true, true, true, true, false, false, false] rfl rfl (any_of HT_.out (by kernel_rfl)) (fun _ _ _ h => h) (Or.inr ⟨by rfl, rfl⟩) ?_ ?_
             rotate_left
             ·simp only [Act.put, List.setIfInBounds_toArray, List.set_cons_zero, List.set_cons_succ, i64_w, i32_w]
              rfl
             refine pure_ (i := 23) (N := some 117) (v := undef) (a' := ?_) #[true, true, true, true, true, true, true, true, true, true, true, true, true, true, true, true, true, true, true, true, true, true, true, true, false, false] rfl rfl (any_of HT_.out (by kernel_rfl)) (fun _ _ _ h => h) (Or.inr ⟨by rfl, rfl⟩) ?_ ?_
             rotate_left
             ·simp only [Act.put, List.setIfInBounds_toArray, List.set_cons_zero, List.set_cons_succ, i64_w, i32_w]
              rfl
             refine pure_ (i := 24) (N := some 118) (v := undef) (a' := ?_) #[true, true, true, true, true, true, true, true, true, true, true, true, true, true, true, true, true, true, true, true, true, true, true, true, true, false] rfl rfl (any_of HT_.out (by kernel_rfl)) (fun _ _ _ h => h) (Or.inr ⟨by rfl, rfl⟩) ?_ ?_
             rotate_left
             ·simp only [Act.put, List.setIfInBounds_toArray, List.set_cons_zero, List.set_cons_succ, i64_w, i32_w]
              rfl
             refine pure_ (i := 25) (N := some 119) (v := ?_) (a' := ?_) #[true, true, true, true, true, true, true, true, true, true, true, true, true, true, true, true, true, true, true, true, true, true, true, true, true, true] rfl rfl (any_of HT_.out (by kernel_rfl)) (fun _ _ _ h => h) (Or.inl ⟨by rfl, ?_⟩) ?_ ?_
             rotate_left
             ·intro w'
              go_simp
              with_reducible rfl
             rotate_left
             ·simp only [Act.put, List.setIfInBounds_toArray, List.set_cons_zero, List.set_cons_succ, i64_w, i32_w]
              rfl
             refine done_ (done_of HT_.out (by kernel_rfl)) ?_
             try go_wp2
             go_meet
             case rel => exact ⟨_, (true), xV, H', ⟨by have := HJ13.out; have := HJ59.out; have := HJ117.out; first | omega | exact Nat.le_refl _⟩, ⟨xK BK632.out⟩, ⟨xK BK633.out⟩, ⟨xK BK634.out⟩, ⟨xK BK640.out⟩, ⟨xK BK644.out⟩, ⟨xK BK648.out⟩, ⟨xK BK662.out⟩, ⟨xG⟩⟩
            ·rw [if_neg c225] at H
             have c225b0 : ((!(t659 == t663) || (!(t660 == t664))) || (!(t661 == t665))) = false := by simpa using c225
             clear c225
             (first | rw [c225b0] | (simp only [i64_w, i32_w]; rw [c225b0]) | skip)
             replace H := Option.bind_eq_some_iff.mp H
             obtain ⟨t666, A2290, H⟩ := H
             replace H : (if t666 = true then ((prefix_Within.f t641 t642 t643 t659 t660 t661).bind fun t667 => (if t667 = true then ((prefix_Within.f t641 t642 t643 t637 t638 t639).bind fun t668 => (turnpikelaw3_PrefixOrder.j3 kj117 (((t659 == t637 && (t660 == t638)) && (t661 == t639)) != t668) t637 t638 t639 t641 t642 t643 t645 t646 t647 t659 t660 t661)) else (turnpikelaw3_PrefixOrder.j3 kj117 true t637 t638 t639 t641 t642 t643 t645 t646 t647 t659 t660 t661))) else (turnpikelaw3_PrefixOrder.j3 kj117 true t637 t638 t639 t641 t642 t643 t645 t646 t647 t659 t660 t661)) = some r := H
             have A229 := Aside0.mk A2290
             clear A2290
             by_cases c230 : t666 = true
             ·subst c230
              have H1 : ((prefix_Within.f t641 t642 t643 t659 t660 t661).bind fun t667 => (if t667 = true then ((prefix_Within.f t641 t642 t643 t637 t638 t639).bind fun t668 => (turnpikelaw3_PrefixOrder.j3 kj117 (((t659 == t637 && (t660 == t638)) && (t661 == t639)) != t668) t637 t638 t639 t641 t642 t643 t645 t646 t647 t659 t660 t661)) else (turnpikelaw3_PrefixOrder.j3 kj117 true t637 t638 t639 t641 t642 t643 t645 t646 t647 t659 t660 t661))) = some r := by rw [if_pos rfl] at H; exact H
              clear H
              have H := H1
              clear H1
              replace H := Option.bind_eq_some_iff.mp H
              obtain ⟨t667, A2310, H⟩ := H
              replace H : (if t667 = true then ((prefix_Within.f t641 t642 t643 t637 t638 t639).bind fun t668 => (turnpikelaw3_PrefixOrder.j3 kj117 (((t659 == t637 && (t660 == t638)) && (t661 == t639)) != t668) t637 t638 t639 t641 t642 t643 t645 t646 t647 t659 t660 t661)) else (turnpikelaw3_PrefixOrder.j3 kj117 true t637 t638 t639 t641 t642 t643 t645 t646 t647 t659 t660 t661)) = some r := H
              have A231 := Aside0.mk A2310
              clear A2310
              by_cases c232 : t667 = true
              ·subst c232
               have H1 : ((prefix_Within.f t641 t642 t643 t637 t638 t639).bind fun t668 => (turnpikelaw3_PrefixOrder.j3 kj117 (((t659 == t637 && (t660 == t638)) && (t661 == t639)) != t668) t637 t638 t639 t641 t642 t643 t645 t646 t647 t659 t660 t661)) = some r := by rw [if_pos rfl] at H; exact H
               clear H
               have H := H1
               clear H1
               replace H := Option.bind_eq_some_iff.mp H
               obtain ⟨t668, A2330, H⟩ := H
               replace H : (turnpikelaw3_PrefixOrder.j3 kj117 (((t659 == t637 && (t660 == t638)) && (t661 == t639)) != t668) t637 t638 t639 t641 t642 t643 t645 t646 t647 t659 t660 t661) = some r := H
               have A233 := Aside0.mk A2330
               clear A2330
               have H' := Aside0.mk H
               clear H
               try go_wp2
               have n0_ : Aside0 ((((w216.setCell ⟨gb662, 0, none⟩ (.int .u64 t659)).setCell ⟨gb662, 1, none⟩ (.int .u64 t660)).setCell ⟨gb662, 2, none⟩ (.int .i64 t661)).heap[gb632]? = some (.cells #[.int .u64 a1_0, .int .u64 a1_1] 24 (0, 0))) := ⟨by (with_reducible repeat (first | refine blk_drewN ?_ _ | refine blk_drew ?_ | refine blk_alloc ?_ _)); refine blk_far ?_ NB632_662.out _; (with_reducible repeat (first | refine blk_drewN ?_ _ | refine blk_drew ?_ | refine blk_alloc ?_ _)); refine blk_far ?_ NB632_662.out _; (with_reducible repeat (first | refine blk_drewN ?_ _ | refine blk_drew ?_ | refine blk_alloc ?_ _)); refine blk_far ?_ NB632_662.out _; (with_reducible repeat (first | refine blk_drewN ?_ _ | refine blk_drew ?_ | refine blk_alloc ?_ _)); exact BK632.out⟩
               have n1_ : Aside0 ((((w216.setCell ⟨gb662, 0, none⟩ (.int .u64 t659)).setCell ⟨gb662, 1, none⟩ (.int .u64 t660)).setCell ⟨gb662, 2, none⟩ (.int .i64 t661)).heap[gb633]? = some (.cells #[.int .u64 a3_0, .int .u64 a3_1] 24 (0, 0))) := ⟨by (with_reducible repeat (first | refine blk_drewN ?_ _ | refine blk_drew ?_ | refine blk_alloc ?_ _)); refine blk_far ?_ NB633_662.out _; (with_reducible repeat (first | refine blk_drewN ?_ _ | refine blk_drew ?_ | refine blk_alloc ?_ _)); refine blk_far ?_ NB633_662.out _; (with_reducible repeat (first | refine blk_drewN ?_ _ | refine blk_drew ?_ | refine blk_alloc ?_ _)); refine blk_far ?_ NB633_662.out _; (with_reducible repeat (first | refine blk_drewN ?_ _ | refine blk_drew ?_ | refine blk_alloc ?_ _)); exact BK633.out⟩
               have n2_ : Aside0 ((((w216.setCell ⟨gb662, 0, none⟩ (.int .u64 t659)).setCell ⟨gb662, 1, none⟩ (.int .u64 t660)).setCell ⟨gb662, 2, none⟩ (.int .i64 t661)).heap[gb634]? = some (.cells #[.int .u64 a5_0, .int .u64 a5_1] 24 (0, 0))) := ⟨by (with_reducible repeat (first | refine blk_drewN ?_ _ | refine blk_drew ?_ | refine blk_alloc ?_ _)); refine blk_far ?_ NB634_662.out _; (with_reducible repeat (first | refine blk_drewN ?_ _ | refine blk_drew ?_ | refine blk_alloc ?_ _)); refine blk_far ?_ NB634_662.out _; (with_reducible repeat (first | refine blk_drewN ?_ _ | refine blk_drew ?_ | refine blk_alloc ?_ _)); refine blk_far ?_ NB634_662.out _; (with_reducible repeat (first | refine blk_drewN ?_ _ | refine blk_drew ?_ | refine blk_alloc ?_ _)); exact BK634.out⟩
               have n3_ : Aside0 ((((w216.setCell ⟨gb662, 0, none⟩ (.int .u64 t659)).setCell ⟨gb662, 1, none⟩ (.int .u64 t660)).setCell ⟨gb662, 2, none⟩ (.int .i64 t661)).heap[gb640]? = some (.cells #[.int .u64 t637, .int .u64 t638, .int .i64 t639] 28 (0, 0))) := ⟨by (with_reducible repeat (first | refine blk_drewN ?_ _ | refine blk_drew ?_ | refine blk_alloc ?_ _)); refine blk_far ?_ NB640_662.out _; (with_reducible repeat (first | refine blk_drewN ?_ _ | refine blk_drew ?_ | refine blk_alloc ?_ _)); refine blk_far ?_ NB640_662.out _; (with_reducible repeat (first | refine blk_drewN ?_ _ | refine blk_drew ?_ | refine blk_alloc ?_ _)); refine blk_far ?_ NB640_662.out _; (with_reducible repeat (first | refine blk_drewN ?_ _ | refine blk_drew ?_ | refine blk_alloc ?_ _)); exact BK640.out⟩
               have n4_ : Aside0 ((((w216.setCell ⟨gb662, 0, none⟩ (.int .u64 t659)).setCell ⟨gb662, 1, none⟩ (.int .u64 t660)).setCell ⟨gb662, 2, none⟩ (.int .i64 t661)).heap[gb644]? = some (.cells #[.int .u64 t641, .int .u64 t642, .int .i64 t643] 28 (0, 0))) := ⟨by (with_reducible repeat (first | refine blk_drewN ?_ _ | refine blk_drew ?_ | refine blk_alloc ?_ _)); refine blk_far ?_ NB644_662.out _; (with_reducible repeat (first | refine blk_drewN ?_ _ | refine blk_drew ?_ | refine blk_alloc ?_ _)); refine blk_far ?_ NB644_662.out _; (with_reducible repeat (first | refine blk_drewN ?_ _ | refine blk_drew ?_ | refine blk_alloc ?_ _)); refine blk_far ?_ NB644_662.out _; (with_reducible repeat (first | refine blk_drewN ?_ _ | refine blk_drew ?_ | refine blk_alloc ?_ _)); exact BK644.out⟩
               have n5_ : Aside0 ((((w216.setCell ⟨gb662, 0, none⟩ (.int .u64 t659)).setCell ⟨gb662, 1, none⟩ (.int .u64 t660)).setCell ⟨gb662, 2, none⟩ (.int .i64 t661)).heap[gb648]? = some (.cells #[.int .u64 t645, .int .u64 t646, .int .i64 t647] 28 (0, 0))) := ⟨by (with_reducible repeat (first | refine blk_drewN ?_ _ | refine blk_drew ?_ | refine blk_alloc ?_ _)); refine blk_far ?_ NB648_662.out _; (with_reducible repeat (first | refine blk_drewN ?_ _ | refine blk_drew ?_ | refine blk_alloc ?_ _)); refine blk_far ?_ NB648_662.out _; (with_reducible repeat (first | refine blk_drewN ?_ _ | refine blk_drew ?_ | refine blk_alloc ?_ _)); refine blk_far ?_ NB648_662.out _; (with_reducible repeat (first | refine blk_drewN ?_ _ | refine blk_drew ?_ | refine blk_alloc ?_ _)); exact BK648.out⟩
               have n6_ : Aside0 ((((w216.setCell ⟨gb662, 0, none⟩ (.int .u64 t659)).setCell ⟨gb662, 1, none⟩ (.int .u64 t660)).setCell ⟨gb662, 2, none⟩ (.int .i64 t661)).heap[gb662]? = some (.cells #[.int .u64 t659, .int .u64 t660, .int .i64 t661] 28 (0, 0))) := ⟨by (with_reducible repeat (first | refine blk_drewN ?_ _ | refine blk_drew ?_ | refine blk_alloc ?_ _)); refine blk_put (cs := #[.int .u64 t659, .int .u64 t660, .int .i64 0]) ?_ 2 _ rfl; (with_reducible repeat (first | refine blk_drewN ?_ _ | refine blk_drew ?_ | refine blk_alloc ?_ _)); refine blk_put (cs := #[.int .u64 t659, .int .u64 0, .int .i64 0]) ?_ 1 _ rfl; (with_reducible repeat (first | refine blk_drewN ?_ _ | refine blk_drew ?_ | refine blk_alloc ?_ _)); refine blk_put (cs := #[.int .u64 0, .int .u64 0, .int .i64 0]) ?_ 0 _ rfl; (with_reducible repeat (first | refine blk_drewN ?_ _ | refine blk_drew ?_ | refine blk_alloc ?_ _)); exact BK662.out⟩
               have n7_ : Aside0 (Below w.heap.size w (((w216.setCell ⟨gb662, 0, none⟩ (.int .u64 t659)).setCell ⟨gb662, 1, none⟩ (.int .u64 t660)).setCell ⟨gb662, 2, none⟩ (.int .i64 t661))) := ⟨xG⟩
               (try clear BK632)
               (try clear BK633)
               (try clear BK634)
               (try clear BK640)
               (try clear BK644)
               (try clear BK648)
               (try clear BK662)
               (try clear HB)
               generalize (((w216.setCell ⟨gb662, 0, none⟩ (.int .u64 t659)).setCell ⟨gb662, 1, none⟩ (.int .u64 t660)).setCell ⟨gb662, 2, none⟩ (.int .i64 t661)) = w234 at n0_ n1_ n2_ n3_ n4_ n5_ n6_ n7_ ⊢
               have BK632 := n0_
               have BK633 := n1_
               have BK634 := n2_
               have BK640 := n3_
               have BK644 := n4_
               have BK648 := n5_
               have BK662 := n6_
               have HB := n7_
               clear n0_ n1_ n2_ n3_ n4_ n5_ n6_ n7_
               have n0_ := Aside0.mk (blk_drew BK632.out)
               have n1_ := Aside0.mk (blk_drew BK633.out)
               have n2_ := Aside0.mk (blk_drew BK634.out)
               have n3_ := Aside0.mk (blk_drew BK640.out)
               have n4_ := Aside0.mk (blk_drew BK644.out)
               have n5_ := Aside0.mk (blk_drew BK648.out)
               have n6_ := Aside0.mk (blk_drew BK662.out)
               have n7_ := Aside0.mk (below_drew1 HB.out)
               clear BK632
               clear BK633
               clear BK634
               clear BK640
               clear BK644
               clear BK648
               clear BK662
               clear HB
               have BK632 := n0_
               have BK633 := n1_
               have BK634 := n2_
               have BK640 := n3_
               have BK644 := n4_
               have BK648 := n5_
               have BK662 := n6_
               have HB := n7_
               clear n0_ n1_ n2_ n3_ n4_ n5_ n6_ n7_
               refine start_ (n := 26) (S := fun w' => w'.cell? ⟨gb662, 0, none⟩ = some (.int .u64 t659) ∧ w'.cell? ⟨gb662, 1, none⟩ = some (.int .u64 t660) ∧ w'.cell? ⟨gb662, 2, none⟩ = some (.int .i64 t661) ∧ w'.cell? ⟨gb644, 0, none⟩ = some (.int .u64 t641) ∧ w'.cell? ⟨gb644, 1, none⟩ = some (.int .u64 t642) ∧ w'.cell? ⟨gb644, 2, none⟩ = some (.int .i64 t643) ∧ w'.cell? ⟨gb640, 0, none⟩ = some (.int .u64 t637) ∧ w'.cell? ⟨gb640, 1, none⟩ = some (.int .u64 t638) ∧ w'.cell? ⟨gb640, 2, none⟩ = some (.int .i64 t639)) (ds := []) #[false, false, false, false, false, false, false, false, false, false, false, false, false, false, false, false, false, false, false, false, false, false, false, false, false, false] (by kernel_rfl) rfl rfl ⟨(blk_cell BK662.out 0).trans rfl, (blk_cell BK662.out 1).trans rfl, (blk_cell BK662.out 2).trans rfl, (blk_cell BK644.out 0).trans rfl, (blk_cell BK644.out 1).trans rfl, (blk_cell BK644.out 2).trans rfl, (blk_cell BK640.out 0).trans rfl, (blk_cell BK640.out 1).trans rfl, (blk_cell BK640.out 2).trans rfl⟩ (fun hHeld => ?_); refine with_tabW turnpikelaw3_PrefixOrder.tab14 turnpikelaw3_PrefixOrder.bits14 (fun HT_ HW_ => ?_)
               generalize w234.drew = w235 at BK632 BK633 BK634 BK640 BK644 BK648 BK662 HB hHeld ⊢
               refine take_ (i := 0) (N := some 94) (v := ?_) (a' := ?_) #[true, false, false, false, false, false, false, false, false, false, false, false, false, false, false, false, false, false, false, false, false, false, false, false, false, false] rfl rfl (take_ofW HT_.out HW_.out (by kernel_rfl)) (fun _ _ _ h => h) (Or.inl ⟨by rfl, ?_⟩) hHeld ?_ ?_
               rotate_left
               ·rintro w' ⟨s0, s1, s2, s3, s4, s5, s6, s7, s8⟩
                go_simp
                with_reducible rfl
               rotate_left
               ·simp only [Act.put, List.setIfInBounds_toArray, List.set_cons_zero, List.set_cons_succ, i64_w, i32_w]
                rfl
               refine take_ (i := 1) (N := some 95) (v := ?_) (a' := ?_) #[true, true, false, false, false, false, false, false, false, false, false, false, false, false, false, false, false, false, false, false, false, false, false, false, false, false] rfl rfl (take_ofW HT_.out HW_.out (by kernel_rfl)) (fun _ _ _ h => h) (Or.inl ⟨by rfl, ?_⟩) hHeld ?_ ?_
               rotate_left
               ·rintro w' ⟨s0, s1, s2, s3, s4, s5, s6, s7, s8⟩
                go_simp
                with_reducible rfl
               rotate_left
               ·simp only [Act.put, List.setIfInBounds_toArray, List.set_cons_zero, List.set_cons_succ, i64_w, i32_w]
                rfl
               refine take_ (i := 2) (N := some 96) (v := ?_) (a' := ?_) #[true, true, true, false, false, false, false, false, false, false, false, false, false, false, false, false, false, false, false, false, false, false, false, false, false, false] rfl rfl (take_ofW HT_.out HW_.out (by kernel_rfl)) (fun _ _ _ h => h) (Or.inl ⟨by rfl, ?_⟩) hHeld ?_ ?_
               rotate_left
               ·rintro w' ⟨s0, s1, s2, s3, s4, s5, s6, s7, s8⟩
                go_simp
                with_reducible rfl
               rotate_left
               ·simp only [Act.put, List.setIfInBounds_toArray, List.set_cons_zero, List.set_cons_succ, i64_w, i32_w]
                rfl
               refine one_ (i := 3) (N := some 97) #[true, true, true, true, false, false, false, false, false, false, false, false, false, false, false, false, false, false, false, false, false, false, false, false, false, false] rfl rfl (one_of HT_.out (by kernel_rfl)) (by decide) (fun K hK => ?_)
               refine goes_ Tryd.func41 (by kernel_rfl) rfl #[.agg #[.int .u64 t641, .int .u64 t642, .int .i64 t643], .agg #[.int .u64 t637, .int .u64 t638, .int .i64 t639]] (by rfl) rfl rfl xM ?_
               with_reducible refine (prefix_Meet.calls t641 t642 t643 t637 t638 t639 t663 t664 t665 _ A224.out).mono ?_
               rintro e w236 ⟨rfl, hb⟩
               refine ⟨_, rfl, ?_⟩
               have n0_ := xP BK632.out hb
               have n1_ := xP BK633.out hb
               have n2_ := xP BK634.out hb
               have n3_ := xP BK640.out hb
               have n4_ := xP BK644.out hb
               have n5_ := xP BK648.out hb
               have n6_ := xP BK662.out hb
               have n7_ := Aside0.mk (below_step xG hb)
               clear BK632
               clear BK633
               clear BK634
               clear BK640
               clear BK644
               clear BK648
               clear BK662
               clear HB
               have BK632 := n0_
               have BK633 := n1_
               have BK634 := n2_
               have BK640 := n3_
               have BK644 := n4_
               have BK648 := n5_
               have BK662 := n6_
               have HB := n7_
               clear n0_ n1_ n2_ n3_ n4_ n5_ n6_ n7_
               (try clear hb)
               (try clear hb2)
               (try clear hk)
               (try clear hi)
               refine hK.out _ _ ⟨(blk_cell BK662.out 0).trans rfl, (blk_cell BK662.out 1).trans rfl, (blk_cell BK662.out 2).trans rfl, (blk_cell BK644.out 0).trans rfl, (blk_cell BK644.out 1).trans rfl, (blk_cell BK644.out 2).trans rfl, (blk_cell BK640.out 0).trans rfl, (blk_cell BK640.out 1).trans rfl, (blk_cell BK640.out 2).trans rfl⟩ (fun hHeld => ?_)
               clear hK K
               refine norm_ (a' := ?_) ?_ ?_
               rotate_left
               ·show Act.put _ (some 97) _ = _
                simp only [Act.put, List.setIfInBounds_toArray, List.set_cons_zero, List.set_cons_succ, i64_w, i32_w]
                rfl
               refine pure_ (i := 4) (N := some 98) (v := ?_) (a' := ?_) #[true, true, true, true, true, false, false, false, false, false, false, false, false, false, false, false, false, false, false, false, false, false, false, false, false, false] rfl rfl (any_of HT_.out (by kernel_rfl)) (fun _ _ _ h => h) (Or.inl ⟨by rfl, ?_⟩) ?_ ?_
               rotate_left
               ·intro w'
                go_simp
                with_reducible rfl
               rotate_left
               ·simp only [Act.put, List.setIfInBounds_toArray, List.set_cons_zero, List.set_cons_succ, i64_w, i32_w]
                rfl
               refine pure_ (i := 5) (N := some 99) (v := ?_) (a' := ?_) #[true, true, true, true, true, true, false, false, false, false, false, false, false, false, false, false, false, false, false, false, false, false, false, false, false, false] rfl rfl (any_of HT_.out (by kernel_rfl)) (fun _ _ _ h => h) (Or.inl ⟨by rfl, ?_⟩) ?_ ?_
               rotate_left
               ·intro w'
                go_simp
                with_reducible rfl
               rotate_left
               ·simp only [Act.put, List.setIfInBounds_toArray, List.set_cons_zero, List.set_cons_succ, i64_w, i32_w]
                rfl
               refine take_ (i := 6) (N := some 100) (v := ?_) (a' := ?_) #[true, true, true, true, true, true, true, false, false, false, false, false, false, false, false, false, false, false, false, false, false, false, false, false, false, false] rfl rfl (take_ofW HT_.out HW_.out (by kernel_rfl)) (fun _ _ _ h => h) (Or.inl ⟨by rfl, ?_⟩) hHeld ?_ ?_
               rotate_left
               ·rintro w' ⟨s0, s1, s2, s3, s4, s5, s6, s7, s8⟩
                go_simp
                with_reducible rfl
               rotate_left
               ·simp only [Act.put, List.setIfInBounds_toArray, List.set_cons_zero, List.set_cons_succ, i64_w, i32_w]
                rfl
               refine take_ (i := 7) (N := some 101) (v := ?_) (a' := ?_) #[true, true, true, true, true, true, true, true, false, false, false, false, false, false, false, false, false, false, false, false, false, false, false, false, false, false] rfl rfl (take_ofW HT_.out HW_.out (by kernel_rfl)) (fun _ _ _ h => h) (Or.inl ⟨by rfl, ?_⟩) hHeld ?_ ?_
               rotate_left
               ·rintro w' ⟨s0, s1, s2, s3, s4, s5, s6, s7, s8⟩
                go_simp
                with_reducible rfl
               rotate_left
               ·simp only [Act.put, List.setIfInBounds_toArray, List.set_cons_zero, List.set_cons_succ, i64_w, i32_w]
                rfl
               refine one_ (i := 8) (N := some 102) #[true, true, true, true, true, true, true, true, true, false, false, false, false, false, false, false, false, false, false, false, false, false, false, false, false, false] rfl rfl (one_of HT_.out (by kernel_rfl)) (by decide) (fun K hK => ?_)
               refine goes_ Tryd.func22 (by kernel_rfl) rfl #[.agg #[.int .u64 t637, .int .u64 t638, .int .i64 t639], .agg #[.int .u64 t659, .int .u64 t660, .int .i64 t661]] (by rfl) rfl rfl xM ?_
               with_reducible refine (prefix_Within.calls t637 t638 t639 t659 t660 t661 true _ A229.out).mono ?_
               rintro e w237 ⟨rfl, hb⟩
               refine ⟨_, rfl, ?_⟩
               have n0_ := xP BK632.out hb
               have n1_ := xP BK633.out hb
               have n2_ := xP BK634.out hb
               have n3_ := xP BK640.out hb
               have n4_ := xP BK644.out hb
               have n5_ := xP BK648.out hb
               have n6_ := xP BK662.out hb
               have n7_ := Aside0.mk (below_step xG hb)
               clear BK632
               clear BK633
               clear BK634
               clear BK640
               clear BK644
               clear BK648
               clear BK662
               clear HB
               have BK632 := n0_
               have BK633 := n1_
               have BK634 := n2_
               have BK640 := n3_
               have BK644 := n4_
               have BK648 := n5_
               have BK662 := n6_
               have HB := n7_
               clear n0_ n1_ n2_ n3_ n4_ n5_ n6_ n7_
               (try clear hb)
               (try clear hb2)
               (try clear hk)
               (try clear hi)
               refine hK.out _ _ ⟨(blk_cell BK662.out 0).trans rfl, (blk_cell BK662.out 1).trans rfl, (blk_cell BK662.out 2).trans rfl, (blk_cell BK644.out 0).trans rfl, (blk_cell BK644.out 1).trans rfl, (blk_cell BK644.out 2).trans rfl, (blk_cell BK640.out 0).trans rfl, (blk_cell BK640.out 1).trans rfl, (blk_cell BK640.out 2).trans rfl⟩ (fun hHeld => ?_)
               clear hK K
               refine norm_ (a' := ?_) ?_ ?_
               rotate_left
               ·show Act.put _ (some 102) _ = _
                simp only [Act.put, List.setIfInBounds_toArray, List.set_cons_zero, List.set_cons_succ, i64_w, i32_w]
                rfl
               refine pure_ (i := 9) (N := some 103) (v := ?_) (a' := ?_) #[true, true, true, true, true, true, true, true, true, true, false, false, false, false, false, false, false, false, false, false, false, false, false, false, false, false] rfl rfl (any_of HT_.out (by kernel_rfl)) (fun _ _ _ h => h) (Or.inl ⟨by rfl, ?_⟩) ?_ ?_
               rotate_left
               ·intro w'
                go_simp
                with_reducible rfl
               rotate_left
               ·simp only [Act.put, List.setIfInBounds_toArray, List.set_cons_zero, List.set_cons_succ, i64_w, i32_w]
                rfl
               refine pure_ (i := 10) (N := some 104) (v := ?_) (a' := ?_) #[true, true, true, true, true, true, true, true, true, true, true, false, false, false, false, false, false, false, false, false, false, false, false, false, false, false] rfl rfl (any_of HT_.out (by kernel_rfl)) (fun _ _ _ h => h) (Or.inl ⟨by rfl, ?_⟩) ?_ ?_
               rotate_left
               ·intro w'
                go_simp
                with_reducible rfl
               rotate_left
               ·simp only [Act.put, List.setIfInBounds_toArray, List.set_cons_zero, List.set_cons_succ, i64_w, i32_w]
                rfl
               refine pure_ (i := 11) (N := some 105) (v := ?_) (a' := ?_) #[true, true, true, true, true, true, true, true, true, true, true, true, false, false, false, false, false, false, false, false, false, false, false, false, false, false] rfl rfl (any_of HT_.out (by kernel_rfl)) (fun _ _ _ h => h) (Or.inl ⟨by rfl, ?_⟩) ?_ ?_
               rotate_left
               ·intro w'
                go_simp
                with_reducible rfl
               rotate_left
               ·simp only [Act.put, List.setIfInBounds_toArray, List.set_cons_zero, List.set_cons_succ, i64_w, i32_w]
                rfl
               refine take_ (i := 12) (N := some 106) (v := ?_) (a' := ?_) #[true, true, true, true, true, true, true, true, true, true, true, true, true, false, false, false, false, false, false, false, false, false, false, false, false, false] rfl rfl (take_ofW HT_.out HW_.out (by kernel_rfl)) (fun _ _ _ h => h) (Or.inl ⟨by rfl, ?_⟩) hHeld ?_ ?_
               rotate_left
               ·rintro w' ⟨s0, s1, s2, s3, s4, s5, s6, s7, s8⟩
                go_simp
                with_reducible rfl
               rotate_left
               ·simp only [Act.put, List.setIfInBounds_toArray, List.set_cons_zero, List.set_cons_succ, i64_w, i32_w]
                rfl
               refine take_ (i := 13) (N := some 107) (v := ?_) (a' := ?_) #[true, true, true, true, true, true, true, true, true, true, true, true, true, true, false, false, false, false, false, false, false, false, false, false, false, false] rfl rfl (take_ofW HT_.out HW_.out (by kernel_rfl)) (fun _ _ _ h => h) (Or.inl ⟨by rfl, ?_⟩) hHeld ?_ ?_
               rotate_left
               ·rintro w' ⟨s0, s1, s2, s3, s4, s5, s6, s7, s8⟩
                go_simp
                with_reducible rfl
               rotate_left
               ·simp only [Act.put, List.setIfInBounds_toArray, List.set_cons_zero, List.set_cons_succ, i64_w, i32_w]
                rfl
               refine one_ (i := 14) (N := some 108) #[true, true, true, true, true, true, true, true, true, true, true, true, true, true, true, false, false, false, false, false, false, false, false, false, false, false] rfl rfl (one_of HT_.out (by kernel_rfl)) (by decide) (fun K hK => ?_)
               refine goes_ Tryd.func22 (by kernel_rfl) rfl #[.agg #[.int .u64 t641, .int .u64 t642, .int .i64 t643], .agg #[.int .u64 t659, .int .u64 t660, .int .i64 t661]] (by rfl) rfl rfl xM ?_
               with_reducible refine (prefix_Within.calls t641 t642 t643 t659 t660 t661 true _ A231.out).mono ?_
               rintro e w238 ⟨rfl, hb⟩
               refine ⟨_, rfl, ?_⟩
               have n0_ := xP BK632.out hb
               have n1_ := xP BK633.out hb
               have n2_ := xP BK634.out hb
               have n3_ := xP BK640.out hb
               have n4_ := xP BK644.out hb
               have n5_ := xP BK648.out hb
               have n6_ := xP BK662.out hb
               have n7_ := Aside0.mk (below_step xG hb)
               clear BK632
               clear BK633
               clear BK634
               clear BK640
               clear BK644
               clear BK648
               clear BK662
               clear HB
               have BK632 := n0_
               have BK633 := n1_
               have BK634 := n2_
               have BK640 := n3_
               have BK644 := n4_
               have BK648 := n5_
               have BK662 := n6_
               have HB := n7_
               clear n0_ n1_ n2_ n3_ n4_ n5_ n6_ n7_
               (try clear hb)
               (try clear hb2)
               (try clear hk)
               (try clear hi)
               refine hK.out _ _ ⟨(blk_cell BK662.out 0).trans rfl, (blk_cell BK662.out 1).trans rfl, (blk_cell BK662.out 2).trans rfl, (blk_cell BK644.out 0).trans rfl, (blk_cell BK644.out 1).trans rfl, (blk_cell BK644.out 2).trans rfl, (blk_cell BK640.out 0).trans rfl, (blk_cell BK640.out 1).trans rfl, (blk_cell BK640.out 2).trans rfl⟩ (fun hHeld => ?_)
               clear hK K
               refine norm_ (a' := ?_) ?_ ?_
               rotate_left
               ·show Act.put _ (some 108) _ = _
                simp only [Act.put, List.setIfInBounds_toArray, List.set_cons_zero, List.set_cons_succ, i64_w, i32_w]
                rfl
               refine pure_ (i := 15) (N := some 109) (v := ?_) (a' := ?_) #[true, true, true, true, true, true, true, true, true, true, true, true, true, true, true, true, false, false, false, false, false, false, false, false, false, false] rfl rfl (any_of HT_.out (by kernel_rfl)) (fun _ _ _ h => h) (Or.inl ⟨by rfl, ?_⟩) ?_ ?_
               rotate_left
               ·intro w'
                go_simp
                with_reducible rfl
               rotate_left
               ·simp only [Act.put, List.setIfInBounds_toArray, List.set_cons_zero, List.set_cons_succ, i64_w, i32_w]
                rfl
               refine pure_ (i := 16) (N := some 110) (v := ?_) (a' := ?_) #[true, true, true, true, true, true, true, true, true, true, true, true, true, true, true, true, true, false, false, false, false, false, false, false, false, false] rfl rfl (any_of HT_.out (by kernel_rfl)) (fun _ _ _ h => h) (Or.inl ⟨by rfl, ?_⟩) ?_ ?_
               rotate_left
               ·intro w'
                go_simp
                with_reducible rfl
               rotate_left
               ·simp only [Act.put, List.setIfInBounds_toArray, List.set_cons_zero, List.set_cons_succ, i64_w, i32_w]
                rfl
               refine pure_ (i := 17) (N := some 111) (v := ?_) (a' := ?_) #[true, true, true, true, true, true, true, true, true, true, true, true, true, true, true, true, true, true, false, false, false, false, false, false, false, false] rfl rfl (any_of HT_.out (by kernel_rfl)) (fun _ _ _ h => h) (Or.inl ⟨by rfl, ?_⟩) ?_ ?_
               rotate_left
               ·intro w'
                go_simp
                with_reducible rfl
               rotate_left
               ·simp only [Act.put, List.setIfInBounds_toArray, List.set_cons_zero, List.set_cons_succ, i64_w, i32_w]
                rfl
               refine take_ (i := 18) (N := some 112) (v := ?_) (a' := ?_) #[true, true, true, true, true, true, true, true, true, true, true, true, true, true, true, true, true, true, true, false, false, false, false, false, false, false] rfl rfl (take_ofW HT_.out HW_.out (by kernel_rfl)) (fun _ _ _ h => h) (Or.inl ⟨by rfl, ?_⟩) hHeld ?_ ?_
               rotate_left
               ·rintro w' ⟨s0, s1, s2, s3, s4, s5, s6, s7, s8⟩
                go_simp
                with_reducible rfl
               rotate_left
               ·simp only [Act.put, List.setIfInBounds_toArray, List.set_cons_zero, List.set_cons_succ, i64_w, i32_w]
                rfl
               refine take_ (i := 19) (N := some 113) (v := ?_) (a' := ?_) #[true, true, true, true, true, true, true, true, true, true, true, true, true, true, true, true, true, true, true, true, false, false, false, false, false, false] rfl rfl (take_ofW HT_.out HW_.out (by kernel_rfl)) (fun _ _ _ h => h) (Or.inl ⟨by rfl, ?_⟩) hHeld ?_ ?_
               rotate_left
               ·rintro w' ⟨s0, s1, s2, s3, s4, s5, s6, s7, s8⟩
                go_simp
                with_reducible rfl
               rotate_left
               ·simp only [Act.put, List.setIfInBounds_toArray, List.set_cons_zero, List.set_cons_succ, i64_w, i32_w]
                rfl
               refine pure_ (i := 20) (N := some 114) (v := ?_) (a' := ?_) #[true, true, true, true, true, true, true, true, true, true, true, true, true, true, true, true, true, true, true, true, true, false, false, false, false, false] rfl rfl (any_of HT_.out (by kernel_rfl)) (fun _ _ _ h => h) (Or.inl ⟨by rfl, ?_⟩) ?_ ?_
               rotate_left
               ·intro w'
                go_simp
                with_reducible rfl
               rotate_left
               ·simp only [Act.put, List.setIfInBounds_toArray, List.set_cons_zero, List.set_cons_succ, i64_w, i32_w]
                rfl
               refine take_ (i := 21) (N := some 115) (v := ?_) (a' := ?_) #[true, true, true, true, true, true, true, true, true, true, true, true, true, true, true, true, true, true, true, true, true, true, false, false, false, false] rfl rfl (take_ofW HT_.out HW_.out (by kernel_rfl)) (fun _ _ _ h => h) (Or.inl ⟨by rfl, ?_⟩) hHeld ?_ ?_
               rotate_left
               ·rintro w' ⟨s0, s1, s2, s3, s4, s5, s6, s7, s8⟩
                go_simp
                with_reducible rfl
               rotate_left
               ·simp only [Act.put, List.setIfInBounds_toArray, List.set_cons_zero, List.set_cons_succ, i64_w, i32_w]
                rfl
               refine take_ (i := 22) (N := some 116) (v := ?_) (a' := ?_) #[true, true, true, true, true, true, true, true, true, true, true, true, true, true, true, true, true, true, true, true, true, true, true, false, false, false] rfl rfl (take_ofW HT_.out HW_.out (by kernel_rfl)) (fun _ _ _ h => h) (Or.inl ⟨by rfl, ?_⟩) hHeld ?_ ?_
               rotate_left
               ·rintro w' ⟨s0, s1, s2, s3, s4, s5, s6, s7, s8⟩
                go_simp
                with_reducible rfl
               rotate_left
               ·simp only [Act.put, List.setIfInBounds_toArray, List.set_cons_zero, List.set_cons_succ, i64_w, i32_w]
                rfl
               refine one_ (i := 23) (N := some 117) #[true, true, true, true, true, true, true, true, true, true, true, true, true, true, true, true, true, true, true, true, true, true, true, true, false, false] rfl rfl (one_of HT_.out (by kernel_rfl)) (by decide) (fun K hK => ?_)
               refine goes_ Tryd.func22 (by kernel_rfl) rfl #[.agg #[.int .u64 t641, .int .u64 t642, .int .i64 t643], .agg #[.int .u64 t637, .int .u64 t638, .int .i64 t639]] (by rfl) rfl rfl xM ?_
               with_reducible refine (prefix_Within.calls t641 t642 t643 t637 t638 t639 t668 _ A233.out).mono ?_
               rintro e w239 ⟨rfl, hb⟩
               refine ⟨_, rfl, ?_⟩
               have n0_ := xP BK632.out hb
               have n1_ := xP BK633.out hb
               have n2_ := xP BK634.out hb
               have n3_ := xP BK640.out hb
               have n4_ := xP BK644.out hb
               have n5_ := xP BK648.out hb
               have n6_ := xP BK662.out hb
               have n7_ := Aside0.mk (below_step xG hb)
               clear BK632
               clear BK633
               clear BK634
               clear BK640
               clear BK644
               clear BK648
               clear BK662
               clear HB
               have BK632 := n0_
               have BK633 := n1_
               have BK634 := n2_
               have BK640 := n3_
               have BK644 := n4_
               have BK648 := n5_
               have BK662 := n6_
               have HB := n7_
               clear n0_ n1_ n2_ n3_ n4_ n5_ n6_ n7_
               (try clear hb)
               (try clear hb2)
               (try clear hk)
               (try clear hi)
               refine hK.out _ _ ⟨(blk_cell BK662.out 0).trans rfl, (blk_cell BK662.out 1).trans rfl, (blk_cell BK662.out 2).trans rfl, (blk_cell BK644.out 0).trans rfl, (blk_cell BK644.out 1).trans rfl, (blk_cell BK644.out 2).trans rfl, (blk_cell BK640.out 0).trans rfl, (blk_cell BK640.out 1).trans rfl, (blk_cell BK640.out 2).trans rfl⟩ (fun hHeld => ?_)
               clear hK K
               refine norm_ (a' := ?_) ?_ ?_
               rotate_left
               ·show Act.put _ (some 117) _ = _
                simp only [Act.put, List.setIfInBounds_toArray, List.set_cons_zero, List.set_cons_succ, i64_w, i32_w]
                rfl
               refine pure_ (i := 24) (N := some 118) (v := ?_) (a' := ?_) #[true, true, true, true, true, true, true, true, true, true, true, true, true, true, true, true, true, true, true, true, true, true, true, true, true, false] rfl rfl (any_of HT_.out (by kernel_rfl)) (fun _ _ _ h => h) (Or.inl ⟨by rfl, ?_⟩) ?_ ?_
               rotate_left
               ·intro w'
                go_simp
                with_reducible rfl
               rotate_left
               ·simp only [Act.put, List.setIfInBounds_toArray, List.set_cons_zero, List.set_cons_succ, i64_w, i32_w]
                rfl
               refine pure_ (i := 25) (N := some 119) (v := ?_) (a' := ?_) #[true, true, true, true, true, true, true, true, true, true, true, true, true, true, true, true, true, true, true, true, true, true, true, true, true, true] rfl rfl (any_of HT_.out (by kernel_rfl)) (fun _ _ _ h => h) (Or.inl ⟨by rfl, ?_⟩) ?_ ?_
               rotate_left
               ·intro w'
                go_simp
                with_reducible rfl
               rotate_left
               ·simp only [Act.put, List.setIfInBounds_toArray, List.set_cons_zero, List.set_cons_succ, i64_w, i32_w]
                rfl
               refine done_ (done_of HT_.out (by kernel_rfl)) ?_
               try go_wp2
               go_meet
               case rel => exact ⟨_, ((((t659 == t637 && (t660 == t638)) && (t661 == t639)) != t668)), xV, H', ⟨by have := HJ13.out; have := HJ59.out; have := HJ117.out; first | omega | exact Nat.le_refl _⟩, ⟨xK BK632.out⟩, ⟨xK BK633.out⟩, ⟨xK BK634.out⟩, ⟨xK BK640.out⟩, ⟨xK BK644.out⟩, ⟨xK BK648.out⟩, ⟨xK BK662.out⟩, ⟨xG⟩⟩
              ·replace c232 := Bool.eq_false_iff.mpr c232
               subst c232
               have H1 : (turnpikelaw3_PrefixOrder.j3 kj117 true t637 t638 t639 t641 t642 t643 t645 t646 t647 t659 t660 t661) = some r := by rw [if_neg (show ¬ (false = true) by decide)] at H; exact H
               clear H
               have H := H1
               clear H1
               have H' := Aside0.mk H
               clear H
               try go_wp2
               have n0_ : Aside0 ((((w216.setCell ⟨gb662, 0, none⟩ (.int .u64 t659)).setCell ⟨gb662, 1, none⟩ (.int .u64 t660)).setCell ⟨gb662, 2, none⟩ (.int .i64 t661)).heap[gb632]? = some (.cells #[.int .u64 a1_0, .int .u64 a1_1] 24 (0, 0))) := ⟨by (with_reducible repeat (first | refine blk_drewN ?_ _ | refine blk_drew ?_ | refine blk_alloc ?_ _)); refine blk_far ?_ NB632_662.out _; (with_reducible repeat (first | refine blk_drewN ?_ _ | refine blk_drew ?_ | refine blk_alloc ?_ _)); refine blk_far ?_ NB632_662.out _; (with_reducible repeat (first | refine blk_drewN ?_ _ | refine blk_drew ?_ | refine blk_alloc ?_ _)); refine blk_far ?_ NB632_662.out _; (with_reducible repeat (first | refine blk_drewN ?_ _ | refine blk_drew ?_ | refine blk_alloc ?_ _)); exact BK632.out⟩
               have n1_ : Aside0 ((((w216.setCell ⟨gb662, 0, none⟩ (.int .u64 t659)).setCell ⟨gb662, 1, none⟩ (.int .u64 t660)).setCell ⟨gb662, 2, none⟩ (.int .i64 t661)).heap[gb633]? = some (.cells #[.int .u64 a3_0, .int .u64 a3_1] 24 (0, 0))) := ⟨by (with_reducible repeat (first | refine blk_drewN ?_ _ | refine blk_drew ?_ | refine blk_alloc ?_ _)); refine blk_far ?_ NB633_662.out _; (with_reducible repeat (first | refine blk_drewN ?_ _ | refine blk_drew ?_ | refine blk_alloc ?_ _)); refine blk_far ?_ NB633_662.out _; (with_reducible repeat (first | refine blk_drewN ?_ _ | refine blk_drew ?_ | refine blk_alloc ?_ _)); refine blk_far ?_ NB633_662.out _; (with_reducible repeat (first | refine blk_drewN ?_ _ | refine blk_drew ?_ | refine blk_alloc ?_ _)); exact BK633.out⟩
               have n2_ : Aside0 ((((w216.setCell ⟨gb662, 0, none⟩ (.int .u64 t659)).setCell ⟨gb662, 1, none⟩ (.int .u64 t660)).setCell ⟨gb662, 2, none⟩ (.int .i64 t661)).heap[gb634]? = some (.cells #[.int .u64 a5_0, .int .u64 a5_1] 24 (0, 0))) := ⟨by (with_reducible repeat (first | refine blk_drewN ?_ _ | refine blk_drew ?_ | refine blk_alloc ?_ _)); refine blk_far ?_ NB634_662.out _; (with_reducible repeat (first | refine blk_drewN ?_ _ | refine blk_drew ?_ | refine blk_alloc ?_ _)); refine blk_far ?_ NB634_662.out _; (with_reducible repeat (first | refine blk_drewN ?_ _ | refine blk_drew ?_ | refine blk_alloc ?_ _)); refine blk_far ?_ NB634_662.out _; (with_reducible repeat (first | refine blk_drewN ?_ _ | refine blk_drew ?_ | refine blk_alloc ?_ _)); exact BK634.out⟩
               have n3_ : Aside0 ((((w216.setCell ⟨gb662, 0, none⟩ (.int .u64 t659)).setCell ⟨gb662, 1, none⟩ (.int .u64 t660)).setCell ⟨gb662, 2, none⟩ (.int .i64 t661)).heap[gb640]? = some (.cells #[.int .u64 t637, .int .u64 t638, .int .i64 t639] 28 (0, 0))) := ⟨by (with_reducible repeat (first | refine blk_drewN ?_ _ | refine blk_drew ?_ | refine blk_alloc ?_ _)); refine blk_far ?_ NB640_662.out _; (with_reducible repeat (first | refine blk_drewN ?_ _ | refine blk_drew ?_ | refine blk_alloc ?_ _)); refine blk_far ?_ NB640_662.out _; (with_reducible repeat (first | refine blk_drewN ?_ _ | refine blk_drew ?_ | refine blk_alloc ?_ _)); refine blk_far ?_ NB640_662.out _; (with_reducible repeat (first | refine blk_drewN ?_ _ | refine blk_drew ?_ | refine blk_alloc ?_ _)); exact BK640.out⟩
               have n4_ : Aside0 ((((w216.setCell ⟨gb662, 0, none⟩ (.int .u64 t659)).setCell ⟨gb662, 1, none⟩ (.int .u64 t660)).setCell ⟨gb662, 2, none⟩ (.int .i64 t661)).heap[gb644]? = some (.cells #[.int .u64 t641, .int .u64 t642, .int .i64 t643] 28 (0, 0))) := ⟨by (with_reducible repeat (first | refine blk_drewN ?_ _ | refine blk_drew ?_ | refine blk_alloc ?_ _)); refine blk_far ?_ NB644_662.out _; (with_reducible repeat (first | refine blk_drewN ?_ _ | refine blk_drew ?_ | refine blk_alloc ?_ _)); refine blk_far ?_ NB644_662.out _; (with_reducible repeat (first | refine blk_drewN ?_ _ | refine blk_drew ?_ | refine blk_alloc ?_ _)); refine blk_far ?_ NB644_662.out _; (with_reducible repeat (first | refine blk_drewN ?_ _ | refine blk_drew ?_ | refine blk_alloc ?_ _)); exact BK644.out⟩
               have n5_ : Aside0 ((((w216.setCell ⟨gb662, 0, none⟩ (.int .u64 t659)).setCell ⟨gb662, 1, none⟩ (.int .u64 t660)).setCell ⟨gb662, 2, none⟩ (.int .i64 t661)).heap[gb648]? = some (.cells #[.int .u64 t645, .int .u64 t646, .int .i64 t647] 28 (0, 0))) := ⟨by (with_reducible repeat (first | refine blk_drewN ?_ _ | refine blk_drew ?_ | refine blk_alloc ?_ _)); refine blk_far ?_ NB648_662.out _; (with_reducible repeat (first | refine blk_drewN ?_ _ | refine blk_drew ?_ | refine blk_alloc ?_ _)); refine blk_far ?_ NB648_662.out _; (with_reducible repeat (first | refine blk_drewN ?_ _ | refine blk_drew ?_ | refine blk_alloc ?_ _)); refine blk_far ?_ NB648_662.out _; (with_reducible repeat (first | refine blk_drewN ?_ _ | refine blk_drew ?_ | refine blk_alloc ?_ _)); exact BK648.out⟩
               have n6_ : Aside0 ((((w216.setCell ⟨gb662, 0, none⟩ (.int .u64 t659)).setCell ⟨gb662, 1, none⟩ (.int .u64 t660)).setCell ⟨gb662, 2, none⟩ (.int .i64 t661)).heap[gb662]? = some (.cells #[.int .u64 t659, .int .u64 t660, .int .i64 t661] 28 (0, 0))) := ⟨by (with_reducible repeat (first | refine blk_drewN ?_ _ | refine blk_drew ?_ | refine blk_alloc ?_ _)); refine blk_put (cs := #[.int .u64 t659, .int .u64 t660, .int .i64 0]) ?_ 2 _ rfl; (with_reducible repeat (first | refine blk_drewN ?_ _ | refine blk_drew ?_ | refine blk_alloc ?_ _)); refine blk_put (cs := #[.int .u64 t659, .int .u64 0, .int .i64 0]) ?_ 1 _ rfl; (with_reducible repeat (first | refine blk_drewN ?_ _ | refine blk_drew ?_ | refine blk_alloc ?_ _)); refine blk_put (cs := #[.int .u64 0, .int .u64 0, .int .i64 0]) ?_ 0 _ rfl; (with_reducible repeat (first | refine blk_drewN ?_ _ | refine blk_drew ?_ | refine blk_alloc ?_ _)); exact BK662.out⟩
               have n7_ : Aside0 (Below w.heap.size w (((w216.setCell ⟨gb662, 0, none⟩ (.int .u64 t659)).setCell ⟨gb662, 1, none⟩ (.int .u64 t660)).setCell ⟨gb662, 2, none⟩ (.int .i64 t661))) := ⟨xG⟩
               (try clear BK632)
               (try clear BK633)
               (try clear BK634)
               (try clear BK640)
               (try clear BK644)
               (try clear BK648)
               (try clear BK662)
               (try clear HB)
               generalize (((w216.setCell ⟨gb662, 0, none⟩ (.int .u64 t659)).setCell ⟨gb662, 1, none⟩ (.int .u64 t660)).setCell ⟨gb662, 2, none⟩ (.int .i64 t661)) = w240 at n0_ n1_ n2_ n3_ n4_ n5_ n6_ n7_ ⊢
               have BK632 := n0_
               have BK633 := n1_
               have BK634 := n2_
               have BK640 := n3_
               have BK644 := n4_
               have BK648 := n5_
               have BK662 := n6_
               have HB := n7_
               clear n0_ n1_ n2_ n3_ n4_ n5_ n6_ n7_
               have n0_ := Aside0.mk (blk_drew BK632.out)
               have n1_ := Aside0.mk (blk_drew BK633.out)
               have n2_ := Aside0.mk (blk_drew BK634.out)
               have n3_ := Aside0.mk (blk_drew BK640.out)
               have n4_ := Aside0.mk (blk_drew BK644.out)
               have n5_ := Aside0.mk (blk_drew BK648.out)
               have n6_ := Aside0.mk (blk_drew BK662.out)
               have n7_ := Aside0.mk (below_drew1 HB.out)
               clear BK632
               clear BK633
               clear BK634
               clear BK640
               clear BK644
               clear BK648
               clear BK662
               clear HB
               have BK632 := n0_
               have BK633 := n1_
               have BK634 := n2_
               have BK640 := n3_
               have BK644 := n4_
               have BK648 := n5_
               have BK662 := n6_
               have HB := n7_
               clear n0_ n1_ n2_ n3_ n4_ n5_ n6_ n7_
               refine start_ (n := 26) (S := fun w' => w'.cell? ⟨gb662, 0, none⟩ = some (.int .u64 t659) ∧ w'.cell? ⟨gb662, 1, none⟩ = some (.int .u64 t660) ∧ w'.cell? ⟨gb662, 2, none⟩ = some (.int .i64 t661) ∧ w'.cell? ⟨gb644, 0, none⟩ = some (.int .u64 t641) ∧ w'.cell? ⟨gb644, 1, none⟩ = some (.int .u64 t642) ∧ w'.cell? ⟨gb644, 2, none⟩ = some (.int .i64 t643) ∧ w'.cell? ⟨gb640, 0, none⟩ = some (.int .u64 t637) ∧ w'.cell? ⟨gb640, 1, none⟩ = some (.int .u64 t638) ∧ w'.cell? ⟨gb640, 2, none⟩ = some (.int .i64 t639)) (ds := []) #[false, false, false, false, false, false, false, false, false, false, false, false, false, false, false, false, false, false, false, false, false, false, false, false, false, false] (by kernel_rfl) rfl rfl ⟨(blk_cell BK662.out 0).trans rfl, (blk_cell BK662.out 1).trans rfl, (blk_cell BK662.out 2).trans rfl, (blk_cell BK644.out 0).trans rfl, (blk_cell BK644.out 1).trans rfl, (blk_cell BK644.out 2).trans rfl, (blk_cell BK640.out 0).trans rfl, (blk_cell BK640.out 1).trans rfl, (blk_cell BK640.out 2).trans rfl⟩ (fun hHeld => ?_); refine with_tabW turnpikelaw3_PrefixOrder.tab14 turnpikelaw3_PrefixOrder.bits14 (fun HT_ HW_ => ?_)
               generalize w240.drew = w241 at BK632 BK633 BK634 BK640 BK644 BK648 BK662 HB hHeld ⊢
               refine take_ (i := 0) (N := some 94) (v := ?_) (a' := ?_) #[true, false, false, false, false, false, false, false, false, false, false, false, false, false, false, false, false, false, false, false, false, false, false, false, false, false] rfl rfl (take_ofW HT_.out HW_.out (by kernel_rfl)) (fun _ _ _ h => h) (Or.inl ⟨by rfl, ?_⟩) hHeld ?_ ?_
               rotate_left
               ·rintro w' ⟨s0, s1, s2, s3, s4, s5, s6, s7, s8⟩
                go_simp
                with_reducible rfl
               rotate_left
               ·simp only [Act.put, List.setIfInBounds_toArray, List.set_cons_zero, List.set_cons_succ, i64_w, i32_w]
                rfl
               refine take_ (i := 1) (N := some 95) (v := ?_) (a' := ?_) #[true, true, false, false, false, false, false, false, false, false, false, false, false, false, false, false, false, false, false, false, false, false, false, false, false, false] rfl rfl (take_ofW HT_.out HW_.out (by kernel_rfl)) (fun _ _ _ h => h) (Or.inl ⟨by rfl, ?_⟩) hHeld ?_ ?_
               rotate_left
               ·rintro w' ⟨s0, s1, s2, s3, s4, s5, s6, s7, s8⟩
                go_simp
                with_reducible rfl
               rotate_left
               ·simp only [Act.put, List.setIfInBounds_toArray, List.set_cons_zero, List.set_cons_succ, i64_w, i32_w]
                rfl
               refine take_ (i := 2) (N := some 96) (v := ?_) (a' := ?_) #[true, true, true, false, false, false, false, false, false, false, false, false, false, false, false, false, false, false, false, false, false, false, false, false, false, false] rfl rfl (take_ofW HT_.out HW_.out (by kernel_rfl)) (fun _ _ _ h => h) (Or.inl ⟨by rfl, ?_⟩) hHeld ?_ ?_
               rotate_left
               ·rintro w' ⟨s0, s1, s2, s3, s4, s5, s6, s7, s8⟩
                go_simp
                with_reducible rfl
               rotate_left
               ·simp only [Act.put, List.setIfInBounds_toArray, List.set_cons_zero, List.set_cons_succ, i64_w, i32_w]
                rfl
               refine one_ (i := 3) (N := some 97) #[true, true, true, true, false, false, false, false, false, false, false, false, false, false, false, false, false, false, false, false, false, false, false, false, false, false] rfl rfl (one_of HT_.out (by kernel_rfl)) (by decide) (fun K hK => ?_)
               refine goes_ Tryd.func41 (by kernel_rfl) rfl #[.agg #[.int .u64 t641, .int .u64 t642, .int .i64 t643], .agg #[.int .u64 t637, .int .u64 t638, .int .i64 t639]] (by rfl) rfl rfl xM ?_
               with_reducible refine (prefix_Meet.calls t641 t642 t643 t637 t638 t639 t663 t664 t665 _ A224.out).mono ?_
               rintro e w242 ⟨rfl, hb⟩
               refine ⟨_, rfl, ?_⟩
               have n0_ := xP BK632.out hb
               have n1_ := xP BK633.out hb
               have n2_ := xP BK634.out hb
               have n3_ := xP BK640.out hb
               have n4_ := xP BK644.out hb
               have n5_ := xP BK648.out hb
               have n6_ := xP BK662.out hb
               have n7_ := Aside0.mk (below_step xG hb)
               clear BK632
               clear BK633
               clear BK634
               clear BK640
               clear BK644
               clear BK648
               clear BK662
               clear HB
               have BK632 := n0_
               have BK633 := n1_
               have BK634 := n2_
               have BK640 := n3_
               have BK644 := n4_
               have BK648 := n5_
               have BK662 := n6_
               have HB := n7_
               clear n0_ n1_ n2_ n3_ n4_ n5_ n6_ n7_
               (try clear hb)
               (try clear hb2)
               (try clear hk)
               (try clear hi)
               refine hK.out _ _ ⟨(blk_cell BK662.out 0).trans rfl, (blk_cell BK662.out 1).trans rfl, (blk_cell BK662.out 2).trans rfl, (blk_cell BK644.out 0).trans rfl, (blk_cell BK644.out 1).trans rfl, (blk_cell BK644.out 2).trans rfl, (blk_cell BK640.out 0).trans rfl, (blk_cell BK640.out 1).trans rfl, (blk_cell BK640.out 2).trans rfl⟩ (fun hHeld => ?_)
               clear hK K
               refine norm_ (a' := ?_) ?_ ?_
               rotate_left
               ·show Act.put _ (some 97) _ = _
                simp only [Act.put, List.setIfInBounds_toArray, List.set_cons_zero, List.set_cons_succ, i64_w, i32_w]
                rfl
               refine pure_ (i := 4) (N := some 98) (v := ?_) (a' := ?_) #[true, true, true, true, true, false, false, false, false, false, false, false, false, false, false, false, false, false, false, false, false, false, false, false, false, false] rfl rfl (any_of HT_.out (by kernel_rfl)) (fun _ _ _ h => h) (Or.inl ⟨by rfl, ?_⟩) ?_ ?_
               rotate_left
               ·intro w'
                go_simp
                with_reducible rfl
               rotate_left
               ·simp only [Act.put, List.setIfInBounds_toArray, List.set_cons_zero, List.set_cons_succ, i64_w, i32_w]
                rfl
               refine pure_ (i := 5) (N := some 99) (v := ?_) (a' := ?_) #[true, true, true, true, true, true, false, false, false, false, false, false, false, false, false, false, false, false, false, false, false, false, false, false, false, false] rfl rfl (any_of HT_.out (by kernel_rfl)) (fun _ _ _ h => h) (Or.inl ⟨by rfl, ?_⟩) ?_ ?_
               rotate_left
               ·intro w'
                go_simp
                with_reducible rfl
               rotate_left
               ·simp only [Act.put, List.setIfInBounds_toArray, List.set_cons_zero, List.set_cons_succ, i64_w, i32_w]
                rfl
               refine take_ (i := 6) (N := some 100) (v := ?_) (a' := ?_) #[true, true, true, true, true, true, true, false, false, false, false, false, false, false, false, false, false, false, false, false, false, false, false, false, false, false] rfl rfl (take_ofW HT_.out HW_.out (by kernel_rfl)) (fun _ _ _ h => h) (Or.inl ⟨by rfl, ?_⟩) hHeld ?_ ?_
               rotate_left
               ·rintro w' ⟨s0, s1, s2, s3, s4, s5, s6, s7, s8⟩
                go_simp
                with_reducible rfl
               rotate_left
               ·simp only [Act.put, List.setIfInBounds_toArray, List.set_cons_zero, List.set_cons_succ, i64_w, i32_w]
                rfl
               refine take_ (i := 7) (N := some 101) (v := ?_) (a' := ?_) #[true, true, true, true, true, true, true, true, false, false, false, false, false, false, false, false, false, false, false, false, false, false, false, false, false, false] rfl rfl (take_ofW HT_.out HW_.out (by kernel_rfl)) (fun _ _ _ h => h) (Or.inl ⟨by rfl, ?_⟩) hHeld ?_ ?_
               rotate_left
               ·rintro w' ⟨s0, s1, s2, s3, s4, s5, s6, s7, s8⟩
                go_simp
                with_reducible rfl
               rotate_left
               ·simp only [Act.put, List.setIfInBounds_toArray, List.set_cons_zero, List.set_cons_succ, i64_w, i32_w]
                rfl
               refine one_ (i := 8) (N := some 102) #[true, true, true, true, true, true, true, true, true, false, false, false, false, false, false, false, false, false, false, false, false, false, false, false, false, false] rfl rfl (one_of HT_.out (by kernel_rfl)) (by decide) (fun K hK => ?_)
               refine goes_ Tryd.func22 (by kernel_rfl) rfl #[.agg #[.int .u64 t637, .int .u64 t638, .int .i64 t639], .agg #[.int .u64 t659, .int .u64 t660, .int .i64 t661]] (by rfl) rfl rfl xM ?_
               with_reducible refine (prefix_Within.calls t637 t638 t639 t659 t660 t661 true _ A229.out).mono ?_
               rintro e w243 ⟨rfl, hb⟩
               refine ⟨_, rfl, ?_⟩
               have n0_ := xP BK632.out hb
               have n1_ := xP BK633.out hb
               have n2_ := xP BK634.out hb
               have n3_ := xP BK640.out hb
               have n4_ := xP BK644.out hb
               have n5_ := xP BK648.out hb
               have n6_ := xP BK662.out hb
               have n7_ := Aside0.mk (below_step xG hb)
               clear BK632
               clear BK633
               clear BK634
               clear BK640
               clear BK644
               clear BK648
               clear BK662
               clear HB
               have BK632 := n0_
               have BK633 := n1_
               have BK634 := n2_
               have BK640 := n3_
               have BK644 := n4_
               have BK648 := n5_
               have BK662 := n6_
               have HB := n7_
               clear n0_ n1_ n2_ n3_ n4_ n5_ n6_ n7_
               (try clear hb)
               (try clear hb2)
               (try clear hk)
               (try clear hi)
               refine hK.out _ _ ⟨(blk_cell BK662.out 0).trans rfl, (blk_cell BK662.out 1).trans rfl, (blk_cell BK662.out 2).trans rfl, (blk_cell BK644.out 0).trans rfl, (blk_cell BK644.out 1).trans rfl, (blk_cell BK644.out 2).trans rfl, (blk_cell BK640.out 0).trans rfl, (blk_cell BK640.out 1).trans rfl, (blk_cell BK640.out 2).trans rfl⟩ (fun hHeld => ?_)
               clear hK K
               refine norm_ (a' := ?_) ?_ ?_
               rotate_left
               ·show Act.put _ (some 102) _ = _
                simp only [Act.put, List.setIfInBounds_toArray, List.set_cons_zero, List.set_cons_succ, i64_w, i32_w]
                rfl
               refine pure_ (i := 9) (N := some 103) (v := ?_) (a' := ?_) #[true, true, true, true, true, true, true, true, true, true, false, false, false, false, false, false, false, false, false, false, false, false, false, false, false, false] rfl rfl (any_of HT_.out (by kernel_rfl)) (fun _ _ _ h => h) (Or.inl ⟨by rfl, ?_⟩) ?_ ?_
               rotate_left
               ·intro w'
                go_simp
                with_reducible rfl
               rotate_left
               ·simp only [Act.put, List.setIfInBounds_toArray, List.set_cons_zero, List.set_cons_succ, i64_w, i32_w]
                rfl
               refine pure_ (i := 10) (N := some 104) (v := ?_) (a' := ?_) #[true, true, true, true, true, true, true, true, true, true, true, false, false, false, false, false, false, false, false, false, false, false, false, false, false, false] rfl rfl (any_of HT_.out (by kernel_rfl)) (fun _ _ _ h => h) (Or.inl ⟨by rfl, ?_⟩) ?_ ?_
               rotate_left
               ·intro w'
                go_simp
                with_reducible rfl
               rotate_left
               ·simp only [Act.put, List.setIfInBounds_toArray, List.set_cons_zero, List.set_cons_succ, i64_w, i32_w]
                rfl
               refine pure_ (i := 11) (N := some 105) (v := ?_) (a' := ?_) #[true, true, true, true, true, true, true, true, true, true, true, true, false, false, false, false, false, false, false, false, false, false, false, false, false, false] rfl rfl (any_of HT_.out (by kernel_rfl)) (fun _ _ _ h => h) (Or.inl ⟨by rfl, ?_⟩) ?_ ?_
               rotate_left
               ·intro w'
                go_simp
                with_reducible rfl
               rotate_left
               ·simp only [Act.put, List.setIfInBounds_toArray, List.set_cons_zero, List.set_cons_succ, i64_w, i32_w]
                rfl
               refine take_ (i := 12) (N := some 106) (v := ?_) (a' := ?_) #[true, true, true, true, true, true, true, true, true, true, true, true, true, false, false, false, false, false, false, false, false, false, false, false, false, false] rfl rfl (take_ofW HT_.out HW_.out (by kernel_rfl)) (fun _ _ _ h => h) (Or.inl ⟨by rfl, ?_⟩) hHeld ?_ ?_
               rotate_left
               ·rintro w' ⟨s0, s1, s2, s3, s4, s5, s6, s7, s8⟩
                go_simp
                with_reducible rfl
               rotate_left
               ·simp only [Act.put, List.setIfInBounds_toArray, List.set_cons_zero, List.set_cons_succ, i64_w, i32_w]
                rfl
               refine take_ (i := 13) (N := some 107) (v := ?_) (a' := ?_) #[true, true, true, true, true, true, true, true, true, true, true, true, true, true, false, false, false, false, false, false, false, false, false, false, false, false] rfl rfl (take_ofW HT_.out HW_.out (by kernel_rfl)) (fun _ _ _ h => h) (Or.inl ⟨by rfl, ?_⟩) hHeld ?_ ?_
               rotate_left
               ·rintro w' ⟨s0, s1, s2, s3, s4, s5, s6, s7, s8⟩
                go_simp
                with_reducible rfl
               rotate_left
               ·simp only [Act.put, List.setIfInBounds_toArray, List.set_cons_zero, List.set_cons_succ, i64_w, i32_w]
                rfl
               refine one_ (i := 14) (N := some 108) #[true, true, true, true, true, true, true, true, true, true, true, true, true, true, true, false, false, false, false, false, false, false, false, false, false, false] rfl rfl (one_of HT_.out (by kernel_rfl)) (by decide) (fun K hK => ?_)
               refine goes_ Tryd.func22 (by kernel_rfl) rfl #[.agg #[.int .u64 t641, .int .u64 t642, .int .i64 t643], .agg #[.int .u64 t659, .int .u64 t660, .int .i64 t661]] (by rfl) rfl rfl xM ?_
               with_reducible refine (prefix_Within.calls t641 t642 t643 t659 t660 t661 false _ A231.out).mono ?_
               rintro e w244 ⟨rfl, hb⟩
               refine ⟨_, rfl, ?_⟩
               have n0_ := xP BK632.out hb
               have n1_ := xP BK633.out hb
               have n2_ := xP BK634.out hb
               have n3_ := xP BK640.out hb
               have n4_ := xP BK644.out hb
               have n5_ := xP BK648.out hb
               have n6_ := xP BK662.out hb
               have n7_ := Aside0.mk (below_step xG hb)
               clear BK632
               clear BK633
               clear BK634
               clear BK640
               clear BK644
               clear BK648
               clear BK662
               clear HB
               have BK632 := n0_
               have BK633 := n1_
               have BK634 := n2_
               have BK640 := n3_
               have BK644 := n4_
               have BK648 := n5_
               have BK662 := n6_
               have HB := n7_
               clear n0_ n1_ n2_ n3_ n4_ n5_ n6_ n7_
               (try clear hb)
               (try clear hb2)
               (try clear hk)
               (try clear hi)
               refine hK.out _ _ ⟨(blk_cell BK662.out 0).trans rfl, (blk_cell BK662.out 1).trans rfl, (blk_cell BK662.out 2).trans rfl, (blk_cell BK644.out 0).trans rfl, (blk_cell BK644.out 1).trans rfl, (blk_cell BK644.out 2).trans rfl, (blk_cell BK640.out 0).trans rfl, (blk_cell BK640.out 1).trans rfl, (blk_cell BK640.out 2).trans rfl⟩ (fun hHeld => ?_)
               clear hK K
               refine norm_ (a' := ?_) ?_ ?_
               rotate_left
               ·show Act.put _ (some 108) _ = _
                simp only [Act.put, List.setIfInBounds_toArray, List.set_cons_zero, List.set_cons_succ, i64_w, i32_w]
                rfl
               refine pure_ (i := 15) (N := some 109) (v := ?_) (a' := ?_) #[true, true, true, true, true, true, true, true, true, true, true, true, true, true, true, true, false, false, false, false, false, false, false, false, false, false] rfl rfl (any_of HT_.out (by kernel_rfl)) (fun _ _ _ h => h) (Or.inl ⟨by rfl, ?_⟩) ?_ ?_
               rotate_left
               ·intro w'
                go_simp
                with_reducible rfl
               rotate_left
               ·simp only [Act.put, List.setIfInBounds_toArray, List.set_cons_zero, List.set_cons_succ, i64_w, i32_w]
                rfl
               refine pure_ (i := 16) (N := some 110) (v := ?_) (a' := ?_) #[true, true, true, true, true, true, true, true, true, true, true, true, true, true, true, true, true, false, false, false, false, false, false, false, false, false] rfl rfl (any_of HT_.out (by kernel_rfl)) (fun _ _ _ h => h) (Or.inl ⟨by rfl, ?_⟩) ?_ ?_
               rotate_left
               ·intro w'
                go_simp
                with_reducible rfl
               rotate_left
               ·simp only [Act.put, List.setIfInBounds_toArray, List.set_cons_zero, List.set_cons_succ, i64_w, i32_w]
                rfl
               refine pure_ (i := 17) (N := some 111) (v := ?_) (a' := ?_) #[true, true, true, true, true, true, true, true, true, true, true, true, true, true, true, true, true, true, false, false, false, false, false, false, false, false] rfl rfl (any_of HT_.out (by kernel_rfl)) (fun _ _ _ h => h) (Or.inl ⟨by rfl, ?_⟩) ?_ ?_
               rotate_left
               ·intro w'
                go_simp
                with_reducible rfl
               rotate_left
               ·simp only [Act.put, List.setIfInBounds_toArray, List.set_cons_zero, List.set_cons_succ, i64_w, i32_w]
                rfl
               refine pure_ (i := 18) (N := some 112) (v := undef) (a' := ?_) #[true, true, true, true, true, true, true, true, true, true, true, true, true, true, true, true, true, true, true, false, false, false, false, false, false, false] rfl rfl (any_of HT_.out (by kernel_rfl)) (fun _ _ _ h => h) (Or.inr ⟨by rfl, rfl⟩) ?_ ?_
               rotate_left
               ·simp only [Act.put, List.setIfInBounds_toArray, List.set_cons_zero, List.set_cons_succ, i64_w, i32_w]
                rfl
               refine pure_ (i := 19) (N := some 113) (v := undef) (a' := ?_) #[true, true, true, true, true, true, true, true, true, true, true, true, true, true, true, true, true, true, true, true, false, false, false, false, false, false] rfl rfl (any_of HT_.out (by kernel_rfl)) (fun _ _ _ h => h) (Or.inr ⟨by rfl, rfl⟩) ?_ ?_
               rotate_left
               ·simp only [Act.put, List.setIfInBounds_toArray, List.set_cons_zero, List.set_cons_succ, i64_w, i32_w]
                rfl
               refine pure_ (i := 20) (N := some 114) (v := undef) (a' := ?_) #[true, true, true, true, true, true, true, true, true, true, true, true, true, true, true, true, true, true, true, true, true, false, false, false, false, false] rfl rfl (any_of HT_.out (by kernel_rfl)) (fun _ _ _ h => h) (Or.inr ⟨by rfl, rfl⟩) ?_ ?_
               rotate_left
               ·simp only [Act.put, List.setIfInBounds_toArray, List.set_cons_zero, List.set_cons_succ, i64_w, i32_w]
                rfl
               refine pure_ (i := 21) (N := some 115) (v := undef) (a' := ?_) #[true, true, true, true, true, true, true, true, true, true, true, true, true, true, true, true, true, true, true, true, true, true, false, false, false, false] rfl rfl (any_of HT_.out (by kernel_rfl)) (fun _ _ _ h => h) (Or.inr ⟨by rfl, rfl⟩) ?_ ?_
               rotate_left
               ·simp only [Act.put, List.setIfInBounds_toArray, List.set_cons_zero, List.set_cons_succ, i64_w, i32_w]
                rfl
               refine pure_ (i := 22) (N := some 116) (v := undef) (a' := ?_) #[true, true, true, true, true, true, true, true, true, true, true, true, true, true, true, true, true, true, true, true, true, true, true, false, false, false] rfl rfl (any_of HT_.out (by kernel_rfl)) (fun _ _ _ h => h) (Or.inr ⟨by rfl, rfl⟩) ?_ ?_
               rotate_left
               ·simp only [Act.put, List.setIfInBounds_toArray, List.set_cons_zero, List.set_cons_succ, i64_w, i32_w]
                rfl
               refine pure_ (i := 23) (N := some 117) (v := undef) (a' := ?_) #[true, true, true, true, true, true, true, true, true, true, true, true, true, true, true, true, true, true, true, true, true, true, true, true, false, false] rfl rfl (any_of HT_.out (by kernel_rfl)) (fun _ _ _ h => h) (Or.inr ⟨by rfl, rfl⟩) ?_ ?_
               rotate_left
               ·simp only [Act.put, List.setIfInBounds_toArray, List.set_cons_zero, List.set_cons_succ, i64_w, i32_w]
                rfl
               refine pure_ (i := 24) (N := some 118) (v := undef) (a' := ?_) #[true, true, true, true, true, true, true, true, true, true, true, true, true, true, true, true, true, true, true, true, true, true, true, true, true, false] rfl rfl (any_of HT_.out (by kernel_rfl)) (fun _ _ _ h => h) (Or.inr ⟨by rfl, rfl⟩) ?_ ?_
               rotate_left
               ·simp only [Act.put, List.setIfInBounds_toArray, List.set_cons_zero, List.set_cons_succ, i64_w, i32_w]
                rfl
               refine pure_ (i := 25) (N := some 119) (v := ?_) (a' := ?_) #[true, true, true, true, true, true, true, true, true, true, true, true, true, true, true, true, true, true, true, true, true, true, true, true, true, true] rfl rfl (any_of HT_.out (by kernel_rfl)) (fun _ _ _ h => h) (Or.inl ⟨by rfl, ?_⟩) ?_ ?_
               rotate_left
               ·intro w'
                go_simp
                with_reducible rfl
               rotate_left
               ·simp only [Act.put, List.setIfInBounds_toArray, List.set_cons_zero, List.set_cons_succ, i64_w, i32_w]
                rfl
               refine done_ (done_of HT_.out (by kernel_rfl)) ?_
               try go_wp2
               go_meet
               case rel => exact ⟨_, (true), xV, H', ⟨by have := HJ13.out; have := HJ59.out; have := HJ117.out; first | omega | exact Nat.le_refl _⟩, ⟨xK BK632.out⟩, ⟨xK BK633.out⟩, ⟨xK BK634.out⟩, ⟨xK BK640.out⟩, ⟨xK BK644.out⟩, ⟨xK BK648.out⟩, ⟨xK BK662.out⟩, ⟨xG⟩⟩
             ·replace c230 := Bool.eq_false_iff.mpr c230
              subst c230
              have H1 : (turnpikelaw3_PrefixOrder.j3 kj117 true t637 t638 t639 t641 t642 t643 t645 t646 t647 t659 t660 t661) = some r := by rw [if_neg (show ¬ (false = true) by decide)] at H; exact H
              clear H
              have H := H1
              clear H1
              have H' := Aside0.mk H
              clear H
              try go_wp2
              have n0_ : Aside0 ((((w216.setCell ⟨gb662, 0, none⟩ (.int .u64 t659)).setCell ⟨gb662, 1, none⟩ (.int .u64 t660)).setCell ⟨gb662, 2, none⟩ (.int .i64 t661)).heap[gb632]? = some (.cells #[.int .u64 a1_0, .int .u64 a1_1] 24 (0, 0))) := ⟨by (with_reducible repeat (first | refine blk_drewN ?_ _ | refine blk_drew ?_ | refine blk_alloc ?_ _)); refine blk_far ?_ NB632_662.out _; (with_reducible repeat (first | refine blk_drewN ?_ _ | refine blk_drew ?_ | refine blk_alloc ?_ _)); refine blk_far ?_ NB632_662.out _; (with_reducible repeat (first | refine blk_drewN ?_ _ | refine blk_drew ?_ | refine blk_alloc ?_ _)); refine blk_far ?_ NB632_662.out _; (with_reducible repeat (first | refine blk_drewN ?_ _ | refine blk_drew ?_ | refine blk_alloc ?_ _)); exact BK632.out⟩
              have n1_ : Aside0 ((((w216.setCell ⟨gb662, 0, none⟩ (.int .u64 t659)).setCell ⟨gb662, 1, none⟩ (.int .u64 t660)).setCell ⟨gb662, 2, none⟩ (.int .i64 t661)).heap[gb633]? = some (.cells #[.int .u64 a3_0, .int .u64 a3_1] 24 (0, 0))) := ⟨by (with_reducible repeat (first | refine blk_drewN ?_ _ | refine blk_drew ?_ | refine blk_alloc ?_ _)); refine blk_far ?_ NB633_662.out _; (with_reducible repeat (first | refine blk_drewN ?_ _ | refine blk_drew ?_ | refine blk_alloc ?_ _)); refine blk_far ?_ NB633_662.out _; (with_reducible repeat (first | refine blk_drewN ?_ _ | refine blk_drew ?_ | refine blk_alloc ?_ _)); refine blk_far ?_ NB633_662.out _; (with_reducible repeat (first | refine blk_drewN ?_ _ | refine blk_drew ?_ | refine blk_alloc ?_ _)); exact BK633.out⟩
              have n2_ : Aside0 ((((w216.setCell ⟨gb662, 0, none⟩ (.int .u64 t659)).setCell ⟨gb662, 1, none⟩ (.int .u64 t660)).setCell ⟨gb662, 2, none⟩ (.int .i64 t661)).heap[gb634]? = some (.cells #[.int .u64 a5_0, .int .u64 a5_1] 24 (0, 0))) := ⟨by (with_reducible repeat (first | refine blk_drewN ?_ _ | refine blk_drew ?_ | refine blk_alloc ?_ _)); refine blk_far ?_ NB634_662.out _; (with_reducible repeat (first | refine blk_drewN ?_ _ | refine blk_drew ?_ | refine blk_alloc ?_ _)); refine blk_far ?_ NB634_662.out _; (with_reducible repeat (first | refine blk_drewN ?_ _ | refine blk_drew ?_ | refine blk_alloc ?_ _)); refine blk_far ?_ NB634_662.out _; (with_reducible repeat (first | refine blk_drewN ?_ _ | refine blk_drew ?_ | refine blk_alloc ?_ _)); exact BK634.out⟩
              have n3_ : Aside0 ((((w216.setCell ⟨gb662, 0, none⟩ (.int .u64 t659)).setCell ⟨gb662, 1, none⟩ (.int .u64 t660)).setCell ⟨gb662, 2, none⟩ (.int .i64 t661)).heap[gb640]? = some (.cells #[.int .u64 t637, .int .u64 t638, .int .i64 t639] 28 (0, 0))) := ⟨by (with_reducible repeat (first | refine blk_drewN ?_ _ | refine blk_drew ?_ | refine blk_alloc ?_ _)); refine blk_far ?_ NB640_662.out _; (with_reducible repeat (first | refine blk_drewN ?_ _ | refine blk_drew ?_ | refine blk_alloc ?_ _)); refine blk_far ?_ NB640_662.out _; (with_reducible repeat (first | refine blk_drewN ?_ _ | refine blk_drew ?_ | refine blk_alloc ?_ _)); refine blk_far ?_ NB640_662.out _; (with_reducible repeat (first | refine blk_drewN ?_ _ | refine blk_drew ?_ | refine blk_alloc ?_ _)); exact BK640.out⟩
              have n4_ : Aside0 ((((w216.setCell ⟨gb662, 0, none⟩ (.int .u64 t659)).setCell ⟨gb662, 1, none⟩ (.int .u64 t660)).setCell ⟨gb662, 2, none⟩ (.int .i64 t661)).heap[gb644]? = some (.cells #[.int .u64 t641, .int .u64 t642, .int .i64 t643] 28 (0, 0))) := ⟨by (with_reducible repeat (first | refine blk_drewN ?_ _ | refine blk_drew ?_ | refine blk_alloc ?_ _)); refine blk_far ?_ NB644_662.out _; (with_reducible repeat (first | refine blk_drewN ?_ _ | refine blk_drew ?_ | refine blk_alloc ?_ _)); refine blk_far ?_ NB644_662.out _; (with_reducible repeat (first | refine blk_drewN ?_ _ | refine blk_drew ?_ | refine blk_alloc ?_ _)); refine blk_far ?_ NB644_662.out _; (with_reducible repeat (first | refine blk_drewN ?_ _ | refine blk_drew ?_ | refine blk_alloc ?_ _)); exact BK644.out⟩
              have n5_ : Aside0 ((((w216.setCell ⟨gb662, 0, none⟩ (.int .u64 t659)).setCell ⟨gb662, 1, none⟩ (.int .u64 t660)).setCell ⟨gb662, 2, none⟩ (.int .i64 t661)).heap[gb648]? = some (.cells #[.int .u64 t645, .int .u64 t646, .int .i64 t647] 28 (0, 0))) := ⟨by (with_reducible repeat (first | refine blk_drewN ?_ _ | refine blk_drew ?_ | refine blk_alloc ?_ _)); refine blk_far ?_ NB648_662.out _; (with_reducible repeat (first | refine blk_drewN ?_ _ | refine blk_drew ?_ | refine blk_alloc ?_ _)); refine blk_far ?_ NB648_662.out _; (with_reducible repeat (first | refine blk_drewN ?_ _ | refine blk_drew ?_ | refine blk_alloc ?_ _)); refine blk_far ?_ NB648_662.out _; (with_reducible repeat (first | refine blk_drewN ?_ _ | refine blk_drew ?_ | refine blk_alloc ?_ _)); exact BK648.out⟩
              have n6_ : Aside0 ((((w216.setCell ⟨gb662, 0, none⟩ (.int .u64 t659)).setCell ⟨gb662, 1, none⟩ (.int .u64 t660)).setCell ⟨gb662, 2, none⟩ (.int .i64 t661)).heap[gb662]? = some (.cells #[.int .u64 t659, .int .u64 t660, .int .i64 t661] 28 (0, 0))) := ⟨by (with_reducible repeat (first | refine blk_drewN ?_ _ | refine blk_drew ?_ | refine blk_alloc ?_ _)); refine blk_put (cs := #[.int .u64 t659, .int .u64 t660, .int .i64 0]) ?_ 2 _ rfl; (with_reducible repeat (first | refine blk_drewN ?_ _ | refine blk_drew ?_ | refine blk_alloc ?_ _)); refine blk_put (cs := #[.int .u64 t659, .int .u64 0, .int .i64 0]) ?_ 1 _ rfl; (with_reducible repeat (first | refine blk_drewN ?_ _ | refine blk_drew ?_ | refine blk_alloc ?_ _)); refine blk_put (cs := #[.int .u64 0, .int .u64 0, .int .i64 0]) ?_ 0 _ rfl; (with_reducible repeat (first | refine blk_drewN ?_ _ | refine blk_drew ?_ | refine blk_alloc ?_ _)); exact BK662.out⟩
              have n7_ : Aside0 (Below w.heap.size w (((w216.setCell ⟨gb662, 0, none⟩ (.int .u64 t659)).setCell ⟨gb662, 1, none⟩ (.int .u64 t660)).setCell ⟨gb662, 2, none⟩ (.int .i64 t661))) := ⟨xG⟩
              (try clear BK632)
              (try clear BK633)
              (try clear BK634)
              (try clear BK640)
              (try clear BK644)
              (try clear BK648)
              (try clear BK662)
              (try clear HB)
              generalize (((w216.setCell ⟨gb662, 0, none⟩ (.int .u64 t659)).setCell ⟨gb662, 1, none⟩ (.int .u64 t660)).setCell ⟨gb662, 2, none⟩ (.int .i64 t661)) = w245 at n0_ n1_ n2_ n3_ n4_ n5_ n6_ n7_ ⊢
              have BK632 := n0_
              have BK633 := n1_
              have BK634 := n2_
              have BK640 := n3_
              have BK644 := n4_
              have BK648 := n5_
              have BK662 := n6_
              have HB := n7_
              clear n0_ n1_ n2_ n3_ n4_ n5_ n6_ n7_
              have n0_ := Aside0.mk (blk_drew BK632.out)
              have n1_ := Aside0.mk (blk_drew BK633.out)
              have n2_ := Aside0.mk (blk_drew BK634.out)
              have n3_ := Aside0.mk (blk_drew BK640.out)
              have n4_ := Aside0.mk (blk_drew BK644.out)
              have n5_ := Aside0.mk (blk_drew BK648.out)
              have n6_ := Aside0.mk (blk_drew BK662.out)
              have n7_ := Aside0.mk (below_drew1 HB.out)
              clear BK632
              clear BK633
              clear BK634
              clear BK640
              clear BK644
              clear BK648
              clear BK662
              clear HB
              have BK632 := n0_
              have BK633 := n1_
              have BK634 := n2_
              have BK640 := n3_
              have BK644 := n4_
              have BK648 := n5_
              have BK662 := n6_
              have HB := n7_
              clear n0_ n1_ n2_ n3_ n4_ n5_ n6_ n7_
              refine start_ (n := 26) (S := fun w' => w'.cell? ⟨gb662, 0, none⟩ = some (.int .u64 t659) ∧ w'.cell? ⟨gb662, 1, none⟩ = some (.int .u64 t660) ∧ w'.cell? ⟨gb662, 2, none⟩ = some (.int .i64 t661) ∧ w'.cell? ⟨gb644, 0, none⟩ = some (.int .u64 t641) ∧ w'.cell? ⟨gb644, 1, none⟩ = some (.int .u64 t642) ∧ w'.cell? ⟨gb644, 2, none⟩ = some (.int .i64 t643) ∧ w'.cell? ⟨gb640, 0, none⟩ = some (.int .u64 t637) ∧ w'.cell? ⟨gb640, 1, none⟩ = some (.int .u64 t638) ∧ w'.cell? ⟨gb640, 2, none⟩ = some (.int .i64 t639)) (ds := []) #[false, false, false, false, false, false, false, false, false, false, false, false, false, false, false, false, false, false, false, false, false, false, false, false, false, false] (by kernel_rfl) rfl rfl ⟨(blk_cell BK662.out 0).trans rfl, (blk_cell BK662.out 1).trans rfl, (blk_cell BK662.out 2).trans rfl, (blk_cell BK644.out 0).trans rfl, (blk_cell BK644.out 1).trans rfl, (blk_cell BK644.out 2).trans rfl, (blk_cell BK640.out 0).trans rfl, (blk_cell BK640.out 1).trans rfl, (blk_cell BK640.out 2).trans rfl⟩ (fun hHeld => ?_); refine with_tabW turnpikelaw3_PrefixOrder.tab14 turnpikelaw3_PrefixOrder.bits14 (fun HT_ HW_ => ?_)
              generalize w245.drew = w246 at BK632 BK633 BK634 BK640 BK644 BK648 BK662 HB hHeld ⊢
              refine take_ (i := 0) (N := some 94) (v := ?_) (a' := ?_) #[true, false, false, false, false, false, false, false, false, false, false, false, false, false, false, false, false, false, false, false, false, false, false, false, false, false] rfl rfl (take_ofW HT_.out HW_.out (by kernel_rfl)) (fun _ _ _ h => h) (Or.inl ⟨by rfl, ?_⟩) hHeld ?_ ?_
              rotate_left
              ·rintro w' ⟨s0, s1, s2, s3, s4, s5, s6, s7, s8⟩
               go_simp
               with_reducible rfl
              rotate_left
              ·simp only [Act.put, List.setIfInBounds_toArray, List.set_cons_zero, List.set_cons_succ, i64_w, i32_w]
               rfl
              refine take_ (i := 1) (N := some 95) (v := ?_) (a' := ?_) #[true, true, false, false, false, false, false, false, false, false, false, false, false, false, false, false, false, false, false, false, false, false, false, false, false, false] rfl rfl (take_ofW HT_.out HW_.out (by kernel_rfl)) (fun _ _ _ h => h) (Or.inl ⟨by rfl, ?_⟩) hHeld ?_ ?_
              rotate_left
              ·rintro w' ⟨s0, s1, s2, s3, s4, s5, s6, s7, s8⟩
               go_simp
               with_reducible rfl
              rotate_left
              ·simp only [Act.put, List.setIfInBounds_toArray, List.set_cons_zero, List.set_cons_succ, i64_w, i32_w]
               rfl
              refine take_ (i := 2) (N := some 96) (v := ?_) (a' := ?_) #[true, true, true, false, false, false, false, false, false, false, false, false, false, false, false, false, false, false, false, false, false, false, false, false, false, false] rfl rfl (take_ofW HT_.out HW_.out (by kernel_rfl)) (fun _ _ _ h => h) (Or.inl ⟨by rfl, ?_⟩) hHeld ?_ ?_
              rotate_left
              ·rintro w' ⟨s0, s1, s2, s3, s4, s5, s6, s7, s8⟩
               go_simp
               with_reducible rfl
              rotate_left
              ·simp only [Act.put, List.setIfInBounds_toArray, List.set_cons_zero, List.set_cons_succ, i64_w, i32_w]
               rfl
              refine one_ (i := 3) (N := some 97) #[true, true, true, true, false, false, false, false, false, false, false, false, false, false, false, false, false, false, false, false, false, false, false, false, false, false] rfl rfl (one_of HT_.out (by kernel_rfl)) (by decide) (fun K hK => ?_)
              refine goes_ Tryd.func41 (by kernel_rfl) rfl #[.agg #[.int .u64 t641, .int .u64 t642, .int .i64 t643], .agg #[.int .u64 t637, .int .u64 t638, .int .i64 t639]] (by rfl) rfl rfl xM ?_
              with_reducible refine (prefix_Meet.calls t641 t642 t643 t637 t638 t639 t663 t664 t665 _ A224.out).mono ?_
              rintro e w247 ⟨rfl, hb⟩
              refine ⟨_, rfl, ?_⟩
              have n0_ := xP BK632.out hb
              have n1_ := xP BK633.out hb
              have n2_ := xP BK634.out hb
              have n3_ := xP BK640.out hb
              have n4_ := xP BK644.out hb
              have n5_ := xP BK648.out hb
              have n6_ := xP BK662.out hb
              have n7_ := Aside0.mk (below_step xG hb)
              clear BK632
              clear BK633
              clear BK634
              clear BK640
              clear BK644
              clear BK648
              clear BK662
              clear HB
              have BK632 := n0_
              have BK633 := n1_
              have BK634 := n2_
              have BK640 := n3_
              have BK644 := n4_
              have BK648 := n5_
              have BK662 := n6_
              have HB := n7_
              clear n0_ n1_ n2_ n3_ n4_ n5_ n6_ n7_
              (try clear hb)
              (try clear hb2)
              (try clear hk)
              (try clear hi)
              refine hK.out _ _ ⟨(blk_cell BK662.out 0).trans rfl, (blk_cell BK662.out 1).trans rfl, (blk_cell BK662.out 2).trans rfl, (blk_cell BK644.out 0).trans rfl, (blk_cell BK644.out 1).trans rfl, (blk_cell BK644.out 2).trans rfl, (blk_cell BK640.out 0).trans rfl, (blk_cell BK640.out 1).trans rfl, (blk_cell BK640.out 2).trans rfl⟩ (fun hHeld => ?_)
              clear hK K
              refine norm_ (a' := ?_) ?_ ?_
              rotate_left
              ·show Act.put _ (some 97) _ = _
               simp only [Act.put, List.setIfInBounds_toArray, List.set_cons_zero, List.set_cons_succ, i64_w, i32_w]
               rfl
              refine pure_ (i := 4) (N := some 98) (v := ?_) (a' := ?_) #[true, true, true, true, true, false, false, false, false, false, false, false, false, false, false, false, false, false, false, false, false, false, false, false, false, false] rfl rfl (any_of HT_.out (by kernel_rfl)) (fun _ _ _ h => h) (Or.inl ⟨by rfl, ?_⟩) ?_ ?_
              rotate_left
              ·intro w'
               go_simp
               with_reducible rfl
              rotate_left
              ·simp only [Act.put, List.setIfInBounds_toArray, List.set_cons_zero, List.set_cons_succ, i64_w, i32_w]
               rfl
              refine pure_ (i := 5) (N := some 99) (v := ?_) (a' := ?_) #[true, true, true, true, true, true, false, false, false, false, false, false, false, false, false, false, false, false, false, false, false, false, false, false, false, false] rfl rfl (any_of HT_.out (by kernel_rfl)) (fun _ _ _ h => h) (Or.inl ⟨by rfl, ?_⟩) ?_ ?_
              rotate_left
              ·intro w'
               go_simp
               with_reducible rfl
              rotate_left
              ·simp only [Act.put, List.setIfInBounds_toArray, List.set_cons_zero, List.set_cons_succ, i64_w, i32_w]
               rfl
              refine take_ (i := 6) (N := some 100) (v := ?_) (a' := ?_) #[true, true, true, true, true, true, true, false, false, false, false, false, false, false, false, false, false, false, false, false, false, false, false, false, false, false] rfl rfl (take_ofW HT_.out HW_.out (by kernel_rfl)) (fun _ _ _ h => h) (Or.inl ⟨by rfl, ?_⟩) hHeld ?_ ?_
              rotate_left
              ·rintro w' ⟨s0, s1, s2, s3, s4, s5, s6, s7, s8⟩
               go_simp
               with_reducible rfl
              rotate_left
              ·simp only [Act.put, List.setIfInBounds_toArray, List.set_cons_zero, List.set_cons_succ, i64_w, i32_w]
               rfl
              refine take_ (i := 7) (N := some 101) (v := ?_) (a' := ?_) #[true, true, true, true, true, true, true, true, false, false, false, false, false, false, false, false, false, false, false, false, false, false, false, false, false, false] rfl rfl (take_ofW HT_.out HW_.out (by kernel_rfl)) (fun _ _ _ h => h) (Or.inl ⟨by rfl, ?_⟩) hHeld ?_ ?_
              rotate_left
              ·rintro w' ⟨s0, s1, s2, s3, s4, s5, s6, s7, s8⟩
               go_simp
               with_reducible rfl
              rotate_left
              ·simp only [Act.put, List.setIfInBounds_toArray, List.set_cons_zero, List.set_cons_succ, i64_w, i32_w]
               rfl
              refine one_ (i := 8) (N := some 102) #[true, true, true, true, true, true, true, true, true, false, false, false, false, false, false, false, false, false, false, false, false, false, false, false, false, false] rfl rfl (one_of HT_.out (by kernel_rfl)) (by decide) (fun K hK => ?_)
              refine goes_ Tryd.func22 (by kernel_rfl) rfl #[.agg #[.int .u64 t637, .int .u64 t638, .int .i64 t639], .agg #[.int .u64 t659, .int .u64 t660, .int .i64 t661]] (by rfl) rfl rfl xM ?_
              with_reducible refine (prefix_Within.calls t637 t638 t639 t659 t660 t661 false _ A229.out).mono ?_
              rintro e w248 ⟨rfl, hb⟩
              refine ⟨_, rfl, ?_⟩
              have n0_ := xP BK632.out hb
              have n1_ := xP BK633.out hb
              have n2_ := xP BK634.out hb
              have n3_ := xP BK640.out hb
              have n4_ := xP BK644.out hb
              have n5_ := xP BK648.out hb
              have n6_ := xP BK662.out hb
              have n7_ := Aside0.mk (below_step xG hb)
              clear BK632
              clear BK633
              clear BK634
              clear BK640
              clear BK644
              clear BK648
              clear BK662
              clear HB
              have BK632 := n0_
              have BK633 := n1_
              have BK634 := n2_
              have BK640 := n3_
              have BK644 := n4_
              have BK648 := n5_
              have BK662 := n6_
              have HB := n7_
              clear n0_ n1_ n2_ n3_ n4_ n5_ n6_ n7_
              (try clear hb)
              (try clear hb2)
              (try clear hk)
              (try clear hi)
              refine hK.out _ _ ⟨(blk_cell BK662.out 0).trans rfl, (blk_cell BK662.out 1).trans rfl, (blk_cell BK662.out 2).trans rfl, (blk_cell BK644.out 0).trans rfl, (blk_cell BK644.out 1).trans rfl, (blk_cell BK644.out 2).trans rfl, (blk_cell BK640.out 0).trans rfl, (blk_cell BK640.out 1).trans rfl, (blk_cell BK640.out 2).trans rfl⟩ (fun hHeld => ?_)
              clear hK K
              refine norm_ (a' := ?_) ?_ ?_
              rotate_left
              ·show Act.put _ (some 102) _ = _
               simp only [Act.put, List.setIfInBounds_toArray, List.set_cons_zero, List.set_cons_succ, i64_w, i32_w]
               rfl
              refine pure_ (i := 9) (N := some 103) (v := ?_) (a' := ?_) #[true, true, true, true, true, true, true, true, true, true, false, false, false, false, false, false, false, false, false, false, false, false, false, false, false, false] rfl rfl (any_of HT_.out (by kernel_rfl)) (fun _ _ _ h => h) (Or.inl ⟨by rfl, ?_⟩) ?_ ?_
              rotate_left
              ·intro w'
               go_simp
               with_reducible rfl
              rotate_left
              ·simp only [Act.put, List.setIfInBounds_toArray, List.set_cons_zero, List.set_cons_succ, i64_w, i32_w]
               rfl
              refine pure_ (i := 10) (N := some 104) (v := ?_) (a' := ?_) #[true, true, true, true, true, true, true, true, true, true, true, false, false, false, false, false, false, false, false, false, false, false, false, false, false, false] rfl rfl (any_of HT_.out (by kernel_rfl)) (fun _ _ _ h => h) (Or.inl ⟨by rfl, ?_⟩) ?_ ?_
              rotate_left
              ·intro w'
               go_simp
               with_reducible rfl
              rotate_left
              ·simp only [Act.put, List.setIfInBounds_toArray, List.set_cons_zero, List.set_cons_succ, i64_w, i32_w]
               rfl
              refine pure_ (i := 11) (N := some 105) (v := ?_) (a' := ?_) #[true, true, true, true, true, true, true, true, true, true, true, true, false, false, false, false, false, false, false, false, false, false, false, false, false, false] rfl rfl (any_of HT_.out (by kernel_rfl)) (fun _ _ _ h => h) (Or.inl ⟨by rfl, ?_⟩) ?_ ?_
              rotate_left
              ·intro w'
               go_simp
               with_reducible rfl
              rotate_left
              ·simp only [Act.put, List.setIfInBounds_toArray, List.set_cons_zero, List.set_cons_succ, i64_w, i32_w]
               rfl
              refine pure_ (i := 12) (N := some 106) (v := undef) (a' := ?_) #[true, true, true, true, true, true, true, true, true, true, true, true, true, false, false, false, false, false, false, false, false, false, false, false, false, false] rfl rfl (any_of HT_.out (by kernel_rfl)) (fun _ _ _ h => h) (Or.inr ⟨by rfl, rfl⟩) ?_ ?_
              rotate_left
              ·simp only [Act.put, List.setIfInBounds_toArray, List.set_cons_zero, List.set_cons_succ, i64_w, i32_w]
               rfl
              refine pure_ (i := 13) (N := some 107) (v := undef) (a' := ?_) #[true, true, true, true, true, true, true, true, true, true, true, true, true, true, false, false, false, false, false, false, false, false, false, false, false, false] rfl rfl (any_of HT_.out (by kernel_rfl)) (fun _ _ _ h => h) (Or.inr ⟨by rfl, rfl⟩) ?_ ?_
              rotate_left
              ·simp only [Act.put, List.setIfInBounds_toArray, List.set_cons_zero, List.set_cons_succ, i64_w, i32_w]
               rfl
              refine pure_ (i := 14) (N := some 108) (v := undef) (a' := ?_) #[true, true, true, true, true, true, true, true, true, true, true, true, true, true, true, false, false, false, false, false, false, false, false, false, false, false] rfl rfl (any_of HT_.out (by kernel_rfl)) (fun _ _ _ h => h) (Or.inr ⟨by rfl, rfl⟩) ?_ ?_
              rotate_left
              ·simp only [Act.put, List.setIfInBounds_toArray, List.set_cons_zero, List.set_cons_succ, i64_w, i32_w]
               rfl
              refine pure_ (i := 15) (N := some 109) (v := undef) (a' := ?_) #[true, true, true, true, true, true, true, true, true, true, true, true, true, true, true, true, false, false, false, false, false, false, false, false, false, false] rfl rfl (any_of HT_.out (by kernel_rfl)) (fun _ _ _ h => h) (Or.inr ⟨by rfl, rfl⟩) ?_ ?_
              rotate_left
              ·simp only [Act.put, List.setIfInBounds_toArray, List.set_cons_zero, List.set_cons_succ, i64_w, i32_w]
               rfl
              refine pure_ (i := 16) (N := some 110) (v := ?_) (a' := ?_) #[true, true, true, true, true, true, true, true, true, true, true, true, true, true, true, true, true, false, false, false, false, false, false, false, false, false] rfl rfl (any_of HT_.out (by kernel_rfl)) (fun _ _ _ h => h) (Or.inl ⟨by rfl, ?_⟩) ?_ ?_
              rotate_left
              ·intro w'
               go_simp
               with_reducible rfl
              rotate_left
              ·simp only [Act.put, List.setIfInBounds_toArray, List.set_cons_zero, List.set_cons_succ, i64_w, i32_w]
               rfl
              refine pure_ (i := 17) (N := some 111) (v := ?_) (a' := ?_) #[true, true, true, true, true, true, true, true, true, true, true, true, true, true, true, true, true, true, false, false, false, false, false, false, false, false] rfl rfl (any_of HT_.out (by kernel_rfl)) (fun _ _ _ h => h) (Or.inl ⟨by rfl, ?_⟩) ?_ ?_
              rotate_left
              ·intro w'
               go_simp
               with_reducible rfl
              rotate_left
              ·simp only [Act.put, List.setIfInBounds_toArray, List.set_cons_zero, List.set_cons_succ, i64_w, i32_w]
               rfl
              refine pure_ (i := 18) (N := some 112) (v := undef) (a' := ?_) #[true, true, true, true, true, true, true, true, true, true, true, true, true, true, true, true, true, true, true, false, false, false, false, false, false, false] rfl rfl (any_of HT_.out (by kernel_rfl)) (fun _ _ _ h => h) (Or.inr ⟨by rfl, rfl⟩) ?_ ?_
              rotate_left
              ·simp only [Act.put, List.setIfInBounds_toArray, List.set_cons_zero, List.set_cons_succ, i64_w, i32_w]
               rfl
              refine pure_ (i := 19) (N := some 113) (v := undef) (a' := ?_) #[true, true, true, true, true, true, true, true, true, true, true, true, true, true, true, true, true, true, true, true, false, false, false, false, false, false] rfl rfl (any_of HT_.out (by kernel_rfl)) (fun _ _ _ h => h) (Or.inr ⟨by rfl, rfl⟩) ?_ ?_
              rotate_left
              ·simp only [Act.put, List.setIfInBounds_toArray, List.set_cons_zero, List.set_cons_succ, i64_w, i32_w]
               rfl
              refine pure_ (i := 20) (N := some 114) (v := undef) (a' := ?_) #[true, true, true, true, true, true, true, true, true, true, true, true, true, true, true, true, true, true, true, true, true, false, false, false, false, false] rfl rfl (any_of HT_.out (by kernel_rfl)) (fun _ _ _ h => h) (Or.inr ⟨by rfl, rfl⟩) ?_ ?_
              rotate_left
              ·simp only [Act.put, List.setIfInBounds_toArray, List.set_cons_zero, List.set_cons_succ, i64_w, i32_w]
               rfl
              refine pure_ (i := 21) (N := some 115) (v := undef) (a' := ?_) #[true, true, true, true, true, true, true, true, true, true, true, true, true, true, true, true, true, true, true, true, true, true, false, false, false, false] rfl rfl (any_of HT_.out (by kernel_rfl)) (fun _ _ _ h => h) (Or.inr ⟨by rfl, rfl⟩) ?_ ?_
              rotate_left
              ·simp only [Act.put, List.setIfInBounds_toArray, List.set_cons_zero, List.set_cons_succ, i64_w, i32_w]
               rfl
              refine pure_ (i := 22) (N := some 116) (v := undef) (a' := ?_) #[true, true, true, true, true, true, true, true, true, true, true, true, true, true, true, true, true, true, true, true, true, true, true, false, false, false] rfl rfl (any_of HT_.out (by kernel_rfl)) (fun _ _ _ h => h) (Or.inr ⟨by rfl, rfl⟩) ?_ ?_
              rotate_left
              ·simp only [Act.put, List.setIfInBounds_toArray, List.set_cons_zero, List.set_cons_succ, i64_w, i32_w]
               rfl
              refine pure_ (i := 23) (N := some 117) (v := undef) (a' := ?_) #[true, true, true, true, true, true, true, true, true, true, true, true, true, true, true, true, true, true, true, true, true, true, true, true, false, false] rfl rfl (any_of HT_.out (by kernel_rfl)) (fun _ _ _ h => h) (Or.inr ⟨by rfl, rfl⟩) ?_ ?_
              rotate_left
              ·simp only [Act.put, List.setIfInBounds_toArray, List.set_cons_zero, List.set_cons_succ, i64_w, i32_w]
               rfl
              refine pure_ (i := 24) (N := some 118) (v := undef) (a' := ?_) #[true, true, true, true, true, true, true, true, true, true, true, true, true, true, true, true, true, true, true, true, true, true, true, true, true, false] rfl rfl (any_of HT_.out (by kernel_rfl)) (fun _ _ _ h => h) (Or.inr ⟨by rfl, rfl⟩) ?_ ?_
              rotate_left
              ·simp only [Act.put, List.setIfInBounds_toArray, List.set_cons_zero, List.set_cons_succ, i64_w, i32_w]
               rfl
              refine pure_ (i := 25) (N := some 119) (v := ?_) (a' := ?_) #[true, true, true, true, true, true, true, true, true, true, true, true, true, true, true, true, true, true, true, true, true, true, true, true, true, true] rfl rfl (any_of HT_.out (by kernel_rfl)) (fun _ _ _ h => h) (Or.inl ⟨by rfl, ?_⟩) ?_ ?_
              rotate_left
              ·intro w'
               go_simp
               with_reducible rfl
              rotate_left
              ·simp only [Act.put, List.setIfInBounds_toArray, List.set_cons_zero, List.set_cons_succ, i64_w, i32_w]
               rfl
              refine done_ (done_of HT_.out (by kernel_rfl)) ?_
              try go_wp2
              go_meet
              case rel => exact ⟨_, (true), xV, H', ⟨by have := HJ13.out; have := HJ59.out; have := HJ117.out; first | omega | exact Nat.le_refl _⟩, ⟨xK BK632.out⟩, ⟨xK BK633.out⟩, ⟨xK BK634.out⟩, ⟨xK BK640.out⟩, ⟨xK BK644.out⟩, ⟨xK BK648.out⟩, ⟨xK BK662.out⟩, ⟨xG⟩⟩
           case rest =>
            clear HC203
            try clear c2
            try clear p2
            try clear c4
            try clear c22
            try clear c23
            try clear c41
            try clear c230
            obtain ⟨kq, x119_202, rfl, HA, HJ202, BK632, BK633, BK634, BK640, BK644, BK648, BK662, HB⟩ := hcut
            cases kq with
            | zero => exact absurd HA.out (by simp [turnpikelaw3_PrefixOrder.j3])
            | succ kj202 =>
             have H := HA.out
             clear HA
             simp only [turnpikelaw3_PrefixOrder.j3] at H
             by_cases c249 : x119_202 = true
             ·subst c249
              have H1 : (some false) = some r := by rw [if_pos rfl] at H; exact H
              clear H
              have H := H1
              clear H1
              obtain rfl := Option.some.inj H
              exact absurd hr_.out (by decide)
             ·replace c249 := Bool.eq_false_iff.mpr c249
              subst c249
              have H1 : ((prefix_Within.f t637 t638 t639 t645 t646 t647).bind fun t669 => (if t669 = true then ((prefix_Within.f t641 t642 t643 t645 t646 t647).bind fun t670 => (if t670 = true then ((prefix_Within.f t659 t660 t661 t645 t646 t647).bind fun t671 => (some t671)) else (some true))) else (some true))) = some r := by rw [if_neg (show ¬ (false = true) by decide)] at H; exact H
              clear H
              have H := H1
              clear H1
              replace H := Option.bind_eq_some_iff.mp H
              obtain ⟨t669, A2500, H⟩ := H
              replace H : (if t669 = true then ((prefix_Within.f t641 t642 t643 t645 t646 t647).bind fun t670 => (if t670 = true then ((prefix_Within.f t659 t660 t661 t645 t646 t647).bind fun t671 => (some t671)) else (some true))) else (some true)) = some r := H
              have A250 := Aside0.mk A2500
              clear A2500
              by_cases c251 : t669 = true
              ·subst c251
               have H1 : ((prefix_Within.f t641 t642 t643 t645 t646 t647).bind fun t670 => (if t670 = true then ((prefix_Within.f t659 t660 t661 t645 t646 t647).bind fun t671 => (some t671)) else (some true))) = some r := by rw [if_pos rfl] at H; exact H
               clear H
               have H := H1
               clear H1
               replace H := Option.bind_eq_some_iff.mp H
               obtain ⟨t670, A2520, H⟩ := H
               replace H : (if t670 = true then ((prefix_Within.f t659 t660 t661 t645 t646 t647).bind fun t671 => (some t671)) else (some true)) = some r := H
               have A252 := Aside0.mk A2520
               clear A2520
               by_cases c253 : t670 = true
               ·subst c253
                have H1 : ((prefix_Within.f t659 t660 t661 t645 t646 t647).bind fun t671 => (some t671)) = some r := by rw [if_pos rfl] at H; exact H
                clear H
                have H := H1
                clear H1
                replace H := Option.bind_eq_some_iff.mp H
                obtain ⟨t671, A2540, H⟩ := H
                replace H : (some t671) = some r := H
                have A254 := Aside0.mk A2540
                clear A2540
                obtain rfl := Option.some.inj H
                have hnb255 := NB640_632.out
                have hnc255 := NB632_640.out
                have hnb256 := NB640_633.out
                have hnc256 := NB633_640.out
                have hnb257 := NB640_634.out
                have hnc257 := NB634_640.out
                have hnb258 := NB640_644.out
                have hnc258 := NB644_640.out
                have hnb259 := NB640_648.out
                have hnc259 := NB648_640.out
                have hnb260 := NB640_662.out
                have hnc260 := NB662_640.out
                have hcz261_0 : wc.cell? ⟨gb640, 0, none⟩ = some (.int .u64 t637) := (blk_cell BK640.out 0).trans rfl
                have hcz261_1 : wc.cell? ⟨gb640, 1, none⟩ = some (.int .u64 t638) := (blk_cell BK640.out 1).trans rfl
                have hcz261_2 : wc.cell? ⟨gb640, 2, none⟩ = some (.int .i64 t639) := (blk_cell BK640.out 2).trans rfl
                have hfz261_0 := blk_frozen BK640.out 0
                have hfz261_1 := blk_frozen BK640.out 1
                have hfz261_2 := blk_frozen BK640.out 2
                have hnb262 := NB648_632.out
                have hnc262 := NB632_648.out
                have hnb263 := NB648_633.out
                have hnc263 := NB633_648.out
                have hnb264 := NB648_634.out
                have hnc264 := NB634_648.out
                have hnb265 := NB648_644.out
                have hnc265 := NB644_648.out
                have hnb266 := NB648_662.out
                have hnc266 := NB662_648.out
                have hcz267_0 : wc.cell? ⟨gb648, 0, none⟩ = some (.int .u64 t645) := (blk_cell BK648.out 0).trans rfl
                have hcz267_1 : wc.cell? ⟨gb648, 1, none⟩ = some (.int .u64 t646) := (blk_cell BK648.out 1).trans rfl
                have hcz267_2 : wc.cell? ⟨gb648, 2, none⟩ = some (.int .i64 t647) := (blk_cell BK648.out 2).trans rfl
                have hfz267_0 := blk_frozen BK648.out 0
                have hfz267_1 := blk_frozen BK648.out 1
                have hfz267_2 := blk_frozen BK648.out 2
                go_wp2_with (first | ((with_reducible refine gate_callee (f := 22) rfl ?_); refine goesL_ (some 122) rfl rfl Tryd.func22 (by kernel_rfl) rfl #[.agg #[.int .u64 t637, .int .u64 t638, .int .i64 t639], .agg #[.int .u64 t645, .int .u64 t646, .int .i64 t647]] rfl xM ?_; (with_reducible refine (prefix_Within.calls t637 t638 t639 t645 t646 t647 true _ A250.out).mono ?_); rintro e w268 ⟨rfl, hb⟩; refine ⟨_, rfl, ?_⟩; have n0_ := xP BK632.out hb; have n1_ := xP BK633.out hb; have n2_ := xP BK634.out hb; have n3_ := xP BK640.out hb; have n4_ := xP BK644.out hb; have n5_ := xP BK648.out hb; have n6_ := xP BK662.out hb; have n7_ := Aside0.mk (below_step xG hb); clear BK632; clear BK633; clear BK634; clear BK640; clear BK644; clear BK648; clear BK662; clear HB; have BK632 := n0_; have BK633 := n1_; have BK634 := n2_; have BK640 := n3_; have BK644 := n4_; have BK648 := n5_; have BK662 := n6_; have HB := n7_; clear n0_ n1_ n2_ n3_ n4_ n5_ n6_ n7_; (try clear hb); (try clear hb2); (try clear hk); (try clear hi); have hnb269 := NB644_632.out; have hnc269 := NB632_644.out; have hnb270 := NB644_633.out; have hnc270 := NB633_644.out; have hnb271 := NB644_634.out; have hnc271 := NB634_644.out; have hnb272 := NB644_662.out; have hnc272 := NB662_644.out; have hcz273_0 : w268.cell? ⟨gb644, 0, none⟩ = some (.int .u64 t641) := (blk_cell BK644.out 0).trans rfl; have hcz273_1 : w268.cell? ⟨gb644, 1, none⟩ = some (.int .u64 t642) := (blk_cell BK644.out 1).trans rfl; have hcz273_2 : w268.cell? ⟨gb644, 2, none⟩ = some (.int .i64 t643) := (blk_cell BK644.out 2).trans rfl; have hfz273_0 := blk_frozen BK644.out 0; have hfz273_1 := blk_frozen BK644.out 1; have hfz273_2 := blk_frozen BK644.out 2; have hcz274_0 : w268.cell? ⟨gb648, 0, none⟩ = some (.int .u64 t645) := (blk_cell BK648.out 0).trans rfl; have hcz274_1 : w268.cell? ⟨gb648, 1, none⟩ = some (.int .u64 t646) := (blk_cell BK648.out 1).trans rfl; have hcz274_2 : w268.cell? ⟨gb648, 2, none⟩ = some (.int .i64 t647) := (blk_cell BK648.out 2).trans rfl; have hfz274_0 := blk_frozen BK648.out 0; have hfz274_1 := blk_frozen BK648.out 1; have hfz274_2 := blk_frozen BK648.out 2) | (go_at_call 22; (with_reducible refine (prefix_Within.calls t641 t642 t643 t645 t646 t647 true _ A252.out).mono ?_); rintro e w275 ⟨rfl, hb⟩; have n0_ := xP BK632.out hb; have n1_ := xP BK633.out hb; have n2_ := xP BK634.out hb; have n3_ := xP BK640.out hb; have n4_ := xP BK644.out hb; have n5_ := xP BK648.out hb; have n6_ := xP BK662.out hb; have n7_ := Aside0.mk (below_step xG hb); clear BK632; clear BK633; clear BK634; clear BK640; clear BK644; clear BK648; clear BK662; clear HB; have BK632 := n0_; have BK633 := n1_; have BK634 := n2_; have BK640 := n3_; have BK644 := n4_; have BK648 := n5_; have BK662 := n6_; have HB := n7_; clear n0_ n1_ n2_ n3_ n4_ n5_ n6_ n7_; (try clear hb); (try clear hb2); (try clear hk); (try clear hi); have hnb276 := NB662_632.out; have hnc276 := NB632_662.out; have hnb277 := NB662_633.out; have hnc277 := NB633_662.out; have hnb278 := NB662_634.out; have hnc278 := NB634_662.out; have hcz279_0 : w275.cell? ⟨gb662, 0, none⟩ = some (.int .u64 t659) := (blk_cell BK662.out 0).trans rfl; have hcz279_1 : w275.cell? ⟨gb662, 1, none⟩ = some (.int .u64 t660) := (blk_cell BK662.out 1).trans rfl; have hcz279_2 : w275.cell? ⟨gb662, 2, none⟩ = some (.int .i64 t661) := (blk_cell BK662.out 2).trans rfl; have hfz279_0 := blk_frozen BK662.out 0; have hfz279_1 := blk_frozen BK662.out 1; have hfz279_2 := blk_frozen BK662.out 2; have hcz280_0 : w275.cell? ⟨gb648, 0, none⟩ = some (.int .u64 t645) := (blk_cell BK648.out 0).trans rfl; have hcz280_1 : w275.cell? ⟨gb648, 1, none⟩ = some (.int .u64 t646) := (blk_cell BK648.out 1).trans rfl; have hcz280_2 : w275.cell? ⟨gb648, 2, none⟩ = some (.int .i64 t647) := (blk_cell BK648.out 2).trans rfl; have hfz280_0 := blk_frozen BK648.out 0; have hfz280_1 := blk_frozen BK648.out 1; have hfz280_2 := blk_frozen BK648.out 2) | (go_at_call 22; (with_reducible refine (prefix_Within.calls t659 t660 t661 t645 t646 t647 t671 _ A254.out).mono ?_); rintro e w281 ⟨rfl, hb⟩; have n0_ := xP BK632.out hb; have n1_ := xP BK633.out hb; have n2_ := xP BK634.out hb; have n3_ := xP BK640.out hb; have n4_ := xP BK644.out hb; have n5_ := xP BK648.out hb; have n6_ := xP BK662.out hb; have n7_ := Aside0.mk (below_step xG hb); clear BK632; clear BK633; clear BK634; clear BK640; clear BK644; clear BK648; clear BK662; clear HB; have BK632 := n0_; have BK633 := n1_; have BK634 := n2_; have BK640 := n3_; have BK644 := n4_; have BK648 := n5_; have BK662 := n6_; have HB := n7_; clear n0_ n1_ n2_ n3_ n4_ n5_ n6_ n7_; (try clear hb); (try clear hb2); (try clear hk); (try clear hi)))
                go_ret
                exact ⟨xE, xG⟩
               ·replace c253 := Bool.eq_false_iff.mpr c253
                subst c253
                have H1 : (some true) = some r := by rw [if_neg (show ¬ (false = true) by decide)] at H; exact H
                clear H
                have H := H1
                clear H1
                obtain rfl := Option.some.inj H
                have hnb282 := NB640_632.out
                have hnc282 := NB632_640.out
                have hnb283 := NB640_633.out
                have hnc283 := NB633_640.out
                have hnb284 := NB640_634.out
                have hnc284 := NB634_640.out
                have hnb285 := NB640_644.out
                have hnc285 := NB644_640.out
                have hnb286 := NB640_648.out
                have hnc286 := NB648_640.out
                have hnb287 := NB640_662.out
                have hnc287 := NB662_640.out
                have hcz288_0 : wc.cell? ⟨gb640, 0, none⟩ = some (.int .u64 t637) := (blk_cell BK640.out 0).trans rfl
                have hcz288_1 : wc.cell? ⟨gb640, 1, none⟩ = some (.int .u64 t638) := (blk_cell BK640.out 1).trans rfl
                have hcz288_2 : wc.cell? ⟨gb640, 2, none⟩ = some (.int .i64 t639) := (blk_cell BK640.out 2).trans rfl
                have hfz288_0 := blk_frozen BK640.out 0
                have hfz288_1 := blk_frozen BK640.out 1
                have hfz288_2 := blk_frozen BK640.out 2
                have hnb289 := NB648_632.out
                have hnc289 := NB632_648.out
                have hnb290 := NB648_633.out
                have hnc290 := NB633_648.out
                have hnb291 := NB648_634.out
                have hnc291 := NB634_648.out
                have hnb292 := NB648_644.out
                have hnc292 := NB644_648.out
                have hnb293 := NB648_662.out
                have hnc293 := NB662_648.out
                have hcz294_0 : wc.cell? ⟨gb648, 0, none⟩ = some (.int .u64 t645) := (blk_cell BK648.out 0).trans rfl
                have hcz294_1 : wc.cell? ⟨gb648, 1, none⟩ = some (.int .u64 t646) := (blk_cell BK648.out 1).trans rfl
                have hcz294_2 : wc.cell? ⟨gb648, 2, none⟩ = some (.int .i64 t647) := (blk_cell BK648.out 2).trans rfl
                have hfz294_0 := blk_frozen BK648.out 0
                have hfz294_1 := blk_frozen BK648.out 1
                have hfz294_2 := blk_frozen BK648.out 2
                go_wp2_with (first | ((with_reducible refine gate_callee (f := 22) rfl ?_); refine goesL_ (some 122) rfl rfl Tryd.func22 (by kernel_rfl) rfl #[.agg #[.int .u64 t637, .int .u64 t638, .int .i64 t639], .agg #[.int .u64 t645, .int .u64 t646, .int .i64 t647]] rfl xM ?_; (with_reducible refine (prefix_Within.calls t637 t638 t639 t645 t646 t647 true _ A250.out).mono ?_); rintro e w295 ⟨rfl, hb⟩; refine ⟨_, rfl, ?_⟩; have n0_ := xP BK632.out hb; have n1_ := xP BK633.out hb; have n2_ := xP BK634.out hb; have n3_ := xP BK640.out hb; have n4_ := xP BK644.out hb; have n5_ := xP BK648.out hb; have n6_ := xP BK662.out hb; have n7_ := Aside0.mk (below_step xG hb); clear BK632; clear BK633; clear BK634; clear BK640; clear BK644; clear BK648; clear BK662; clear HB; have BK632 := n0_; have BK633 := n1_; have BK634 := n2_; have BK640 := n3_; have BK644 := n4_; have BK648 := n5_; have BK662 := n6_; have HB := n7_; clear n0_ n1_ n2_ n3_ n4_ n5_ n6_ n7_; (try clear hb); (try clear hb2); (try clear hk); (try clear hi); have hnb296 := NB644_632.out; have hnc296 := NB632_644.out; have hnb297 := NB644_633.out; have hnc297 := NB633_644.out; have hnb298 := NB644_634.out; have hnc298 := NB634_644.out; have hnb299 := NB644_662.out; have hnc299 := NB662_644.out; have hcz300_0 : w295.cell? ⟨gb644, 0, none⟩ = some (.int .u64 t641) := (blk_cell BK644.out 0).trans rfl; have hcz300_1 : w295.cell? ⟨gb644, 1, none⟩ = some (.int .u64 t642) := (blk_cell BK644.out 1).trans rfl; have hcz300_2 : w295.cell? ⟨gb644, 2, none⟩ = some (.int .i64 t643) := (blk_cell BK644.out 2).trans rfl; have hfz300_0 := blk_frozen BK644.out 0; have hfz300_1 := blk_frozen BK644.out 1; have hfz300_2 := blk_frozen BK644.out 2; have hcz301_0 : w295.cell? ⟨gb648, 0, none⟩ = some (.int .u64 t645) := (blk_cell BK648.out 0).trans rfl; have hcz301_1 : w295.cell? ⟨gb648, 1, none⟩ = some (.int .u64 t646) := (blk_cell BK648.out 1).trans rfl; have hcz301_2 : w295.cell? ⟨gb648, 2, none⟩ = some (.int .i64 t647) := (blk_cell BK648.out 2).trans rfl; have hfz301_0 := blk_frozen BK648.out 0; have hfz301_1 := blk_frozen BK648.out 1; have hfz301_2 := blk_frozen BK648.out 2) | (go_at_call 22; (with_reducible refine (prefix_Within.calls t641 t642 t643 t645 t646 t647 false _ A252.out).mono ?_); rintro e w302 ⟨rfl, hb⟩; have n0_ := xP BK632.out hb; have n1_ := xP BK633.out hb; have n2_ := xP BK634.out hb; have n3_ := xP BK640.out hb; have n4_ := xP BK644.out hb; have n5_ := xP BK648.out hb; have n6_ := xP BK662.out hb; have n7_ := Aside0.mk (below_step xG hb); clear BK632; clear BK633; clear BK634; clear BK640; clear BK644; clear BK648; clear BK662; clear HB; have BK632 := n0_; have BK633 := n1_; have BK634 := n2_; have BK640 := n3_; have BK644 := n4_; have BK648 := n5_; have BK662 := n6_; have HB := n7_; clear n0_ n1_ n2_ n3_ n4_ n5_ n6_ n7_; (try clear hb); (try clear hb2); (try clear hk); (try clear hi)))
                go_ret
                exact ⟨xE, xG⟩
              ·replace c251 := Bool.eq_false_iff.mpr c251
               subst c251
               have H1 : (some true) = some r := by rw [if_neg (show ¬ (false = true) by decide)] at H; exact H
               clear H
               have H := H1
               clear H1
               obtain rfl := Option.some.inj H
               have hnb303 := NB640_632.out
               have hnc303 := NB632_640.out
               have hnb304 := NB640_633.out
               have hnc304 := NB633_640.out
               have hnb305 := NB640_634.out
               have hnc305 := NB634_640.out
               have hnb306 := NB640_644.out
               have hnc306 := NB644_640.out
               have hnb307 := NB640_648.out
               have hnc307 := NB648_640.out
               have hnb308 := NB640_662.out
               have hnc308 := NB662_640.out
               have hcz309_0 : wc.cell? ⟨gb640, 0, none⟩ = some (.int .u64 t637) := (blk_cell BK640.out 0).trans rfl
               have hcz309_1 : wc.cell? ⟨gb640, 1, none⟩ = some (.int .u64 t638) := (blk_cell BK640.out 1).trans rfl
               have hcz309_2 : wc.cell? ⟨gb640, 2, none⟩ = some (.int .i64 t639) := (blk_cell BK640.out 2).trans rfl
               have hfz309_0 := blk_frozen BK640.out 0
               have hfz309_1 := blk_frozen BK640.out 1
               have hfz309_2 := blk_frozen BK640.out 2
               have hnb310 := NB648_632.out
               have hnc310 := NB632_648.out
               have hnb311 := NB648_633.out
               have hnc311 := NB633_648.out
               have hnb312 := NB648_634.out
               have hnc312 := NB634_648.out
               have hnb313 := NB648_644.out
               have hnc313 := NB644_648.out
               have hnb314 := NB648_662.out
               have hnc314 := NB662_648.out
               have hcz315_0 : wc.cell? ⟨gb648, 0, none⟩ = some (.int .u64 t645) := (blk_cell BK648.out 0).trans rfl
               have hcz315_1 : wc.cell? ⟨gb648, 1, none⟩ = some (.int .u64 t646) := (blk_cell BK648.out 1).trans rfl
               have hcz315_2 : wc.cell? ⟨gb648, 2, none⟩ = some (.int .i64 t647) := (blk_cell BK648.out 2).trans rfl
               have hfz315_0 := blk_frozen BK648.out 0
               have hfz315_1 := blk_frozen BK648.out 1
               have hfz315_2 := blk_frozen BK648.out 2
               go_wp2_with (first | ((with_reducible refine gate_callee (f := 22) rfl ?_); refine goesL_ (some 122) rfl rfl Tryd.func22 (by kernel_rfl) rfl #[.agg #[.int .u64 t637, .int .u64 t638, .int .i64 t639], .agg #[.int .u64 t645, .int .u64 t646, .int .i64 t647]] rfl xM ?_; (with_reducible refine (prefix_Within.calls t637 t638 t639 t645 t646 t647 false _ A250.out).mono ?_); rintro e w316 ⟨rfl, hb⟩; refine ⟨_, rfl, ?_⟩; have n0_ := xP BK632.out hb; have n1_ := xP BK633.out hb; have n2_ := xP BK634.out hb; have n3_ := xP BK640.out hb; have n4_ := xP BK644.out hb; have n5_ := xP BK648.out hb; have n6_ := xP BK662.out hb; have n7_ := Aside0.mk (below_step xG hb); clear BK632; clear BK633; clear BK634; clear BK640; clear BK644; clear BK648; clear BK662; clear HB; have BK632 := n0_; have BK633 := n1_; have BK634 := n2_; have BK640 := n3_; have BK644 := n4_; have BK648 := n5_; have BK662 := n6_; have HB := n7_; clear n0_ n1_ n2_ n3_ n4_ n5_ n6_ n7_; (try clear hb); (try clear hb2); (try clear hk); (try clear hi)))
               go_ret
               exact ⟨xE, xG⟩
 ·replace c9 := Bool.eq_false_iff.mpr c9
  subst c9
  have H1 : (some false) = some r := by rw [if_neg (show ¬ (false = true) by decide)] at H; exact H
  clear H
  have H := H1
  clear H1
  obtain rfl := Option.some.inj H
  exact absurd hr_.out (by decide)
def turnpikelaw3_PrefixOrder.Pure : Prop := ∀ (a0 : Bool) (a1_0 : Int) (a1_1 : Int) (a2 : Int) (a3_0 : Int) (a3_1 : Int) (a4 : Int) (a5_0 : Int) (a5_1 : Int) (a6 : Int), (Lit.int .u64 a1_0).wf = true → (Lit.int .u64 a1_1).wf = true → (Lit.int .i64 a2).wf = true → (Lit.int .u64 a3_0).wf = true → (Lit.int .u64 a3_1).wf = true → (Lit.int .i64 a4).wf = true → (Lit.int .u64 a5_0).wf = true → (Lit.int .u64 a5_1).wf = true → (Lit.int .i64 a6).wf = true → ∃ k, turnpikelaw3_PrefixOrder.f k a0 a1_0 a1_1 a2 a3_0 a3_1 a4 a5_0 a5_1 a6 = some true
theorem turnpikelaw3_PrefixOrder.walk (P : turnpikelaw3_PrefixOrder.Pure) (a0 : Bool) (a1_0 : Int) (a1_1 : Int) (a2 : Int) (a3_0 : Int) (a3_1 : Int) (a4 : Int) (a5_0 : Int) (a5_1 : Int) (a6 : Int) (w : World) (hML : MLOk w) (wa1_0 : (Lit.int .u64 a1_0).wf = true) (wa1_1 : (Lit.int .u64 a1_1).wf = true) (wa2 : (Lit.int .i64 a2).wf = true) (wa3_0 : (Lit.int .u64 a3_0).wf = true) (wa3_1 : (Lit.int .u64 a3_1).wf = true) (wa4 : (Lit.int .i64 a4).wf = true) (wa5_0 : (Lit.int .u64 a5_0).wf = true) (wa5_1 : (Lit.int .u64 a5_1).wf = true) (wa6 : (Lit.int .i64 a6).wf = true) :
  Calls Tryd.prog 10 #[.bool a0, .agg #[.int .u64 a1_0, .int .u64 a1_1], .int .i64 a2, .agg #[.int .u64 a3_0, .int .u64 a3_1], .int .i64 a4, .agg #[.int .u64 a5_0, .int .u64 a5_1], .int .i64 a6] w fun e w' => e = .returned (.bool true) ∧ Below w.heap.size w w' := by
 obtain ⟨k, h⟩ := P a0 a1_0 a1_1 a2 a3_0 a3_1 a4 a5_0 a5_1 a6 wa1_0 wa1_1 wa2 wa3_0 wa3_1 wa4 wa5_0 wa5_1 wa6
 refine (turnpikelaw3_PrefixOrder.calls k a0 a1_0 a1_1 a2 a3_0 a3_1 a4 a5_0 a5_1 a6 true w hML ⟨rfl⟩ h).mono ?_
 rintro e w' ⟨rfl, hd⟩
 exact ⟨rfl, hd⟩
end Go.Proofs.YtdjhmapmhajkcaaDoor.X
