-- Printed by a program of this session (xprint.py, over the kit's printer)
import Derived.Test.YtdjhmapmhajkcaaDoorZLX0
import Derived.Test.YtdjhmapmhajkcaaDoorZLX1
import Derived.Test.YtdjhmapmhajkcaaDoorZLX2
import Derived.Test.YtdjhmapmhajkcaaDoorZLX6
import Derived.Test.YtdjhmapmhajkcaaDoorZLX8
import Derived.Test.YtdjhmapmhajkcaaDoorZLX14
import Derived.Test.YtdjhmapmhajkcaaDoorZLX20
import Derived.Test.YtdjhmapmhajkcaaDoorZLX21
import Derived.Test.YtdjhmapmhajkcaaDoorZLX23
import Derived.Test.YtdjhmapmhajkcaaDoorZLSh
namespace Go.Proofs.YtdjhmapmhajkcaaDoor.X
open Go.RowKit Go.Proofs.YtdjhmapmhajkcaaDoorW.PrintWords Go.Proofs.YtdjhmapmhajkcaaDoorW.PrintLast Go.Proofs.YtdjhmapmhajkcaaDoor.Sm Go.Proofs.YtdjhmapmhajkcaaDoor.Sh
set_option linter.unusedVariables false
set_option linter.unusedSimpArgs false
attribute [local go_sem high] eqA24 eqA28
def turnpikelaw3_PrefixHalves.j0 : Nat → Int → Bool → Int → Int → Int → Int → Int → Int → Int → Int → Int → Option (Bool)
 | 0, _, _, _, _, _, _, _, _, _, _, _ => none
 | k + 1, x7, x70, x434000, x434001, x434002, x442000, x442001, x442002, x443000, x443001, x443002 => if x70 = true then (some false) else ((prefix_Last.f x7 x442000 x442001 x442002).bind fun bt451 => ((turnpikeref1_Put.f 0 0 (wrap64 (x7 - 1)) 1).bind fun bt453 => ((turnpikeref1_Add.f bt451.1 bt451.2 bt453.1 bt453.2).bind fun bt455 => ((prefix_Parent.f x442000 x442001 x442002).bind fun bt459 => ((prefix_Parent.f x443000 x443001 x443002).bind fun bt464 => ((prefix_Sibling.f x442000 x442001 x442002).bind fun bt469 => ((prefix_Sibling.f x443000 x443001 x443002).bind fun bt474 => (if bt455.2.2 = true then (some false) else ((prefix_First.f x443000 x443001 x443002).bind fun bt479 => (if (bt455.1 == bt479.1 && (bt455.2.1 == bt479.2)) = true then (if bt459.2.2.2 = true then (if bt464.2.2.2 = true then (if ((bt459.1 == x434000 && (bt459.2.1 == x434001)) && (bt459.2.2.1 == x434002)) = true then (if ((bt464.1 == x434000 && (bt464.2.1 == x434001)) && (bt464.2.2.1 == x434002)) = true then (if bt469.2.2.2 = true then (if bt474.2.2.2 = true then (if ((bt469.1 == x443000 && (bt469.2.1 == x443001)) && (bt469.2.2.1 == x443002)) = true then (if ((bt474.1 == x442000 && (bt474.2.1 == x442001)) && (bt474.2.2.1 == x442002)) = true then ((prefix_Cmp.f x434000 x434001 x434002 x442000 x442001 x442002).bind fun t481 => (if t481 < 0 then ((prefix_Cmp.f x442000 x442001 x442002 x443000 x443001 x443002).bind fun t482 => (some (decide (t482 < 0)))) else (some false))) else (some false)) else (some false)) else (some false)) else (some false)) else (some false)) else (some false)) else (some false)) else (some false)) else (some false)))))))))))
def turnpikelaw3_PrefixHalves.f (k : Nat) (a0 : Bool) (a1_0 : Int) (a1_1 : Int) (a2 : Int) : Option (Bool) := (turnpikelaw3_known.f k).bind fun t428 => (if t428 = true then ((turnpikelaw3_Family.f a0).bind fun t429 => ((turnpikelaw3_Some.f k t429 a1_0 a1_1 a2).bind fun bt430 => ((prefix_Kids.f t429 bt430.1 bt430.2.1 bt430.2.2).bind fun bt434 => (if bt430.2.2 = t429 then (if bt434.2.2.2.2.2.2 = true then (some false) else (if ((bt434.1 == 0 && (bt434.2.1 == 0)) && (bt434.2.2.1 == 0)) = true then (some ((bt434.2.2.2.1 == 0 && (bt434.2.2.2.2.1 == 0)) && (bt434.2.2.2.2.2.1 == 0))) else (some false))) else (if bt434.2.2.2.2.2.2 = true then ((prefix_First.f bt434.1 bt434.2.1 bt434.2.2.1).bind fun bt443 => ((prefix_First.f bt430.1 bt430.2.1 bt430.2.2).bind fun bt445 => (if (!(bt443.1 == bt445.1) || (!(bt443.2 == bt445.2))) = true then (turnpikelaw3_PrefixHalves.j0 k t429 true bt430.1 bt430.2.1 bt430.2.2 bt434.1 bt434.2.1 bt434.2.2.1 bt434.2.2.2.1 bt434.2.2.2.2.1 bt434.2.2.2.2.2.1) else ((prefix_Last.f t429 bt434.2.2.2.1 bt434.2.2.2.2.1 bt434.2.2.2.2.2.1).bind fun bt447 => ((prefix_Last.f t429 bt430.1 bt430.2.1 bt430.2.2).bind fun bt449 => (turnpikelaw3_PrefixHalves.j0 k t429 (!(bt447.1 == bt449.1) || (!(bt447.2 == bt449.2))) bt430.1 bt430.2.1 bt430.2.2 bt434.1 bt434.2.1 bt434.2.2.1 bt434.2.2.2.1 bt434.2.2.2.2.1 bt434.2.2.2.2.2.1)))))) else (turnpikelaw3_PrefixHalves.j0 k t429 true bt430.1 bt430.2.1 bt430.2.2 bt434.1 bt434.2.1 bt434.2.2.1 bt434.2.2.2.1 bt434.2.2.2.2.1 bt434.2.2.2.2.2.1)))))) else (some false))
theorem turnpikelaw3_PrefixHalves.mono_l : ∀ k, (∀ y0 y1 y2 y3 y4 y5 y6 y7 y8 y9 y10, LeO (turnpikelaw3_PrefixHalves.j0 k y0 y1 y2 y3 y4 y5 y6 y7 y8 y9 y10) (turnpikelaw3_PrefixHalves.j0 (k + 1) y0 y1 y2 y3 y4 y5 y6 y7 y8 y9 y10))
 | 0 => fun _ _ _ _ _ _ _ _ _ _ _ r h => by simp [turnpikelaw3_PrefixHalves.j0] at h
 | k + 1 => by
  have ih0 := turnpikelaw3_PrefixHalves.mono_l k
  ·intro y0 y1 y2 y3 y4 y5 y6 y7 y8 y9 y10
   unfold turnpikelaw3_PrefixHalves.j0
   have m0 := @turnpikelaw3_Some.mono
   have m1 := @turnpikelaw3_known.mono
   exact xO
theorem turnpikelaw3_PrefixHalves.mono : ∀ a0 a1 a2 a3 k, LeO (turnpikelaw3_PrefixHalves.f k a0 a1 a2 a3) (turnpikelaw3_PrefixHalves.f (k + 1) a0 a1 a2 a3) := by
 intro a0 a1 a2 a3 k
 have ih0 := turnpikelaw3_PrefixHalves.mono_l k
 unfold turnpikelaw3_PrefixHalves.f
 have m0 := @turnpikelaw3_Some.mono
 have m1 := @turnpikelaw3_known.mono
 exact xO
def turnpikelaw3_PrefixHalves.T8 : Bool × List (List Nat × List Nat) := (true, [([], []), ([0], [0]), ([1], [1]), ([2], [2]), ([3, 2, 2], [2, 3]), ([2], [2]), ([5, 4, 2], [2, 5]), ([4, 6, 2], [2, 4, 6]), ([2, 7], [2, 7]), ([8, 6], [8]), ([9], [9]), ([9], [9]), ([10, 11, 9, 9], [9, 10, 11]), ([9], [9]), ([9], [9]), ([13, 14, 12, 9], [9, 13, 14]), ([12, 15, 9], [9, 12, 15]), ([9, 16], [9, 16])])
def turnpikelaw3_PrefixHalves.B8 : List Nat := [0, 1, 3, 7, 15, 7, 63, 127, 255, 511, 1023, 1023, 4095, 1023, 1023, 32767, 65535, 131071]
theorem turnpikelaw3_PrefixHalves.tab8 : rtab .any (opsOf Tryd.f6 8) = turnpikelaw3_PrefixHalves.T8 := by kernel_rfl
theorem turnpikelaw3_PrefixHalves.bits8 : waitsOk turnpikelaw3_PrefixHalves.T8.2 turnpikelaw3_PrefixHalves.B8 = true := by kernel_rfl
def turnpikelaw3_PrefixHalves.T15 : Bool × List (List Nat × List Nat) := (true, [([], []), ([0], [0]), ([1], [1]), ([2], [2]), ([2], [2]), ([4, 2, 2], [2, 4]), ([3, 5, 2], [2, 3, 5]), ([2, 6], [2, 6]), ([7, 5], [7]), ([8], [8]), ([8, 9], [8, 9]), ([10, 8], [10]), ([11], [11]), ([11, 12], [11, 12]), ([13, 11], [13]), ([14], [14]), ([14], [14]), ([15, 16, 14], [14, 15, 16]), ([14, 17], [14, 17]), ([18, 14], [18]), ([19], [19]), ([19], [19]), ([20, 21, 19], [19, 20, 21]), ([19, 22], [19, 22]), ([23, 19], [23]), ([24], [24]), ([24, 25], [24, 25]), ([26, 24], [26]), ([27], [27]), ([27, 28], [27, 28]), ([29, 27], [29]), ([30], [30]), ([30], [30]), ([31, 32, 30], [30, 31, 32]), ([30, 33], [30, 33]), ([34, 30], [34]), ([35], [35]), ([35], [35]), ([36, 37, 35], [35, 36, 37]), ([35, 38], [35, 38]), ([39, 35], [39]), ([40], [40]), ([40], [40]), ([41, 42, 40, 40], [40, 41, 42]), ([43, 40], [40, 43]), ([40, 44], [40, 44]), ([45, 43], [45]), ([46], [46]), ([46], [46]), ([47, 48, 46, 46], [46, 47, 48]), ([49, 46], [46, 49]), ([46, 50], [46, 50]), ([51, 49, 0, 1, 2, 3, 4, 5, 6, 7, 8, 9, 10, 11, 12, 13, 14, 15, 16, 17, 18, 19, 20, 21, 22, 23, 24, 25, 26, 27, 28, 29, 30, 31, 32, 33, 34, 35, 36, 37, 38, 39, 40, 41, 42, 43, 44, 45, 46, 47, 48, 49, 50, 51], [51])])
def turnpikelaw3_PrefixHalves.B15 : List Nat := [0, 1, 3, 7, 7, 23, 63, 127, 255, 511, 1023, 2047, 4095, 8191, 16383, 32767, 32767, 131071, 262143, 524287, 1048575, 1048575, 4194303, 8388607, 16777215, 33554431, 67108863, 134217727, 268435455, 536870911, 1073741823, 2147483647, 2147483647, 8589934591, 17179869183, 34359738367, 68719476735, 68719476735, 274877906943, 549755813887, 1099511627775, 2199023255551, 2199023255551, 8796093022207, 17592186044415, 35184372088831, 70368744177663, 140737488355327, 140737488355327, 562949953421311, 1125899906842623, 2251799813685247, 4503599627370495]
theorem turnpikelaw3_PrefixHalves.tab15 : rtab .any (opsOf Tryd.f6 15) = turnpikelaw3_PrefixHalves.T15 := by kernel_rfl
theorem turnpikelaw3_PrefixHalves.bits15 : waitsOk turnpikelaw3_PrefixHalves.T15.2 turnpikelaw3_PrefixHalves.B15 = true := by kernel_rfl
set_option maxHeartbeats 8000000 in
set_option maxRecDepth 100000 in
theorem turnpikelaw3_PrefixHalves.calls (k : Nat) (a0 : Bool) (a1_0 : Int) (a1_1 : Int) (a2 : Int) (r : Bool) (w : World) (hML : MLOk w) (hr_ : Aside0 (r = true)) (h : turnpikelaw3_PrefixHalves.f k a0 a1_0 a1_1 a2 = some r) :
  Calls Tryd.prog 6 #[.bool a0, .agg #[.int .u64 a1_0, .int .u64 a1_1], .int .i64 a2] w fun e w' => e = .returned (.bool r) ∧ Below w.heap.size w w' := by
 have hu24 := Tryd.underlying24
 have hu28 := Tryd.underlying28
 have HML := Aside0.mk hML
 clear hML
 have HB := Aside0.mk (Below.refl w.heap.size w)
 have H : ((turnpikelaw3_known.f k).bind fun t428 => (if t428 = true then ((turnpikelaw3_Family.f a0).bind fun t429 => ((turnpikelaw3_Some.f k t429 a1_0 a1_1 a2).bind fun bt430 => ((prefix_Kids.f t429 bt430.1 bt430.2.1 bt430.2.2).bind fun bt434 => (if bt430.2.2 = t429 then (if bt434.2.2.2.2.2.2 = true then (some false) else (if ((bt434.1 == 0 && (bt434.2.1 == 0)) && (bt434.2.2.1 == 0)) = true then (some ((bt434.2.2.2.1 == 0 && (bt434.2.2.2.2.1 == 0)) && (bt434.2.2.2.2.2.1 == 0))) else (some false))) else (if bt434.2.2.2.2.2.2 = true then ((prefix_First.f bt434.1 bt434.2.1 bt434.2.2.1).bind fun bt443 => ((prefix_First.f bt430.1 bt430.2.1 bt430.2.2).bind fun bt445 => (if (!(bt443.1 == bt445.1) || (!(bt443.2 == bt445.2))) = true then (turnpikelaw3_PrefixHalves.j0 k t429 true bt430.1 bt430.2.1 bt430.2.2 bt434.1 bt434.2.1 bt434.2.2.1 bt434.2.2.2.1 bt434.2.2.2.2.1 bt434.2.2.2.2.2.1) else ((prefix_Last.f t429 bt434.2.2.2.1 bt434.2.2.2.2.1 bt434.2.2.2.2.2.1).bind fun bt447 => ((prefix_Last.f t429 bt430.1 bt430.2.1 bt430.2.2).bind fun bt449 => (turnpikelaw3_PrefixHalves.j0 k t429 (!(bt447.1 == bt449.1) || (!(bt447.2 == bt449.2))) bt430.1 bt430.2.1 bt430.2.2 bt434.1 bt434.2.1 bt434.2.2.1 bt434.2.2.2.1 bt434.2.2.2.2.1 bt434.2.2.2.2.2.1)))))) else (turnpikelaw3_PrefixHalves.j0 k t429 true bt430.1 bt430.2.1 bt430.2.2 bt434.1 bt434.2.1 bt434.2.2.1 bt434.2.2.2.1 bt434.2.2.2.2.1 bt434.2.2.2.2.2.1)))))) else (some false))) = some r := h
 clear h
 replace H := Option.bind_eq_some_iff.mp H
 obtain ⟨t428, A40, H⟩ := H
 replace H : (if t428 = true then ((turnpikelaw3_Family.f a0).bind fun t429 => ((turnpikelaw3_Some.f k t429 a1_0 a1_1 a2).bind fun bt430 => ((prefix_Kids.f t429 bt430.1 bt430.2.1 bt430.2.2).bind fun bt434 => (if bt430.2.2 = t429 then (if bt434.2.2.2.2.2.2 = true then (some false) else (if ((bt434.1 == 0 && (bt434.2.1 == 0)) && (bt434.2.2.1 == 0)) = true then (some ((bt434.2.2.2.1 == 0 && (bt434.2.2.2.2.1 == 0)) && (bt434.2.2.2.2.2.1 == 0))) else (some false))) else (if bt434.2.2.2.2.2.2 = true then ((prefix_First.f bt434.1 bt434.2.1 bt434.2.2.1).bind fun bt443 => ((prefix_First.f bt430.1 bt430.2.1 bt430.2.2).bind fun bt445 => (if (!(bt443.1 == bt445.1) || (!(bt443.2 == bt445.2))) = true then (turnpikelaw3_PrefixHalves.j0 k t429 true bt430.1 bt430.2.1 bt430.2.2 bt434.1 bt434.2.1 bt434.2.2.1 bt434.2.2.2.1 bt434.2.2.2.2.1 bt434.2.2.2.2.2.1) else ((prefix_Last.f t429 bt434.2.2.2.1 bt434.2.2.2.2.1 bt434.2.2.2.2.2.1).bind fun bt447 => ((prefix_Last.f t429 bt430.1 bt430.2.1 bt430.2.2).bind fun bt449 => (turnpikelaw3_PrefixHalves.j0 k t429 (!(bt447.1 == bt449.1) || (!(bt447.2 == bt449.2))) bt430.1 bt430.2.1 bt430.2.2 bt434.1 bt434.2.1 bt434.2.2.1 bt434.2.2.2.1 bt434.2.2.2.2.1 bt434.2.2.2.2.2.1)))))) else (turnpikelaw3_PrefixHalves.j0 k t429 true bt430.1 bt430.2.1 bt430.2.2 bt434.1 bt434.2.1 bt434.2.2.1 bt434.2.2.2.1 bt434.2.2.2.2.1 bt434.2.2.2.2.2.1)))))) else (some false)) = some r := H
 have A4 := Aside0.mk A40
 clear A40
 by_cases c5 : t428 = true
 ·subst c5
  have H1 : ((turnpikelaw3_Family.f a0).bind fun t429 => ((turnpikelaw3_Some.f k t429 a1_0 a1_1 a2).bind fun bt430 => ((prefix_Kids.f t429 bt430.1 bt430.2.1 bt430.2.2).bind fun bt434 => (if bt430.2.2 = t429 then (if bt434.2.2.2.2.2.2 = true then (some false) else (if ((bt434.1 == 0 && (bt434.2.1 == 0)) && (bt434.2.2.1 == 0)) = true then (some ((bt434.2.2.2.1 == 0 && (bt434.2.2.2.2.1 == 0)) && (bt434.2.2.2.2.2.1 == 0))) else (some false))) else (if bt434.2.2.2.2.2.2 = true then ((prefix_First.f bt434.1 bt434.2.1 bt434.2.2.1).bind fun bt443 => ((prefix_First.f bt430.1 bt430.2.1 bt430.2.2).bind fun bt445 => (if (!(bt443.1 == bt445.1) || (!(bt443.2 == bt445.2))) = true then (turnpikelaw3_PrefixHalves.j0 k t429 true bt430.1 bt430.2.1 bt430.2.2 bt434.1 bt434.2.1 bt434.2.2.1 bt434.2.2.2.1 bt434.2.2.2.2.1 bt434.2.2.2.2.2.1) else ((prefix_Last.f t429 bt434.2.2.2.1 bt434.2.2.2.2.1 bt434.2.2.2.2.2.1).bind fun bt447 => ((prefix_Last.f t429 bt430.1 bt430.2.1 bt430.2.2).bind fun bt449 => (turnpikelaw3_PrefixHalves.j0 k t429 (!(bt447.1 == bt449.1) || (!(bt447.2 == bt449.2))) bt430.1 bt430.2.1 bt430.2.2 bt434.1 bt434.2.1 bt434.2.2.1 bt434.2.2.2.1 bt434.2.2.2.2.1 bt434.2.2.2.2.2.1)))))) else (turnpikelaw3_PrefixHalves.j0 k t429 true bt430.1 bt430.2.1 bt430.2.2 bt434.1 bt434.2.1 bt434.2.2.1 bt434.2.2.2.1 bt434.2.2.2.2.1 bt434.2.2.2.2.2.1)))))) = some r := by rw [if_pos rfl] at H; exact H
  clear H
  have H := H1
  clear H1
  replace H := Option.bind_eq_some_iff.mp H
  obtain ⟨t429, A60, H⟩ := H
  replace H : ((turnpikelaw3_Some.f k t429 a1_0 a1_1 a2).bind fun bt430 => ((prefix_Kids.f t429 bt430.1 bt430.2.1 bt430.2.2).bind fun bt434 => (if bt430.2.2 = t429 then (if bt434.2.2.2.2.2.2 = true then (some false) else (if ((bt434.1 == 0 && (bt434.2.1 == 0)) && (bt434.2.2.1 == 0)) = true then (some ((bt434.2.2.2.1 == 0 && (bt434.2.2.2.2.1 == 0)) && (bt434.2.2.2.2.2.1 == 0))) else (some false))) else (if bt434.2.2.2.2.2.2 = true then ((prefix_First.f bt434.1 bt434.2.1 bt434.2.2.1).bind fun bt443 => ((prefix_First.f bt430.1 bt430.2.1 bt430.2.2).bind fun bt445 => (if (!(bt443.1 == bt445.1) || (!(bt443.2 == bt445.2))) = true then (turnpikelaw3_PrefixHalves.j0 k t429 true bt430.1 bt430.2.1 bt430.2.2 bt434.1 bt434.2.1 bt434.2.2.1 bt434.2.2.2.1 bt434.2.2.2.2.1 bt434.2.2.2.2.2.1) else ((prefix_Last.f t429 bt434.2.2.2.1 bt434.2.2.2.2.1 bt434.2.2.2.2.2.1).bind fun bt447 => ((prefix_Last.f t429 bt430.1 bt430.2.1 bt430.2.2).bind fun bt449 => (turnpikelaw3_PrefixHalves.j0 k t429 (!(bt447.1 == bt449.1) || (!(bt447.2 == bt449.2))) bt430.1 bt430.2.1 bt430.2.2 bt434.1 bt434.2.1 bt434.2.2.1 bt434.2.2.2.1 bt434.2.2.2.2.1 bt434.2.2.2.2.2.1)))))) else (turnpikelaw3_PrefixHalves.j0 k t429 true bt430.1 bt430.2.1 bt430.2.2 bt434.1 bt434.2.1 bt434.2.2.1 bt434.2.2.2.1 bt434.2.2.2.2.1 bt434.2.2.2.2.2.1))))) = some r := H
  have A6 := Aside0.mk A60
  clear A60
  replace H := Option.bind_eq_some_iff.mp H
  obtain ⟨⟨t430, t431, t432⟩, A70, H⟩ := H
  replace H : ((prefix_Kids.f t429 t430 t431 t432).bind fun bt434 => (if t432 = t429 then (if bt434.2.2.2.2.2.2 = true then (some false) else (if ((bt434.1 == 0 && (bt434.2.1 == 0)) && (bt434.2.2.1 == 0)) = true then (some ((bt434.2.2.2.1 == 0 && (bt434.2.2.2.2.1 == 0)) && (bt434.2.2.2.2.2.1 == 0))) else (some false))) else (if bt434.2.2.2.2.2.2 = true then ((prefix_First.f bt434.1 bt434.2.1 bt434.2.2.1).bind fun bt443 => ((prefix_First.f t430 t431 t432).bind fun bt445 => (if (!(bt443.1 == bt445.1) || (!(bt443.2 == bt445.2))) = true then (turnpikelaw3_PrefixHalves.j0 k t429 true t430 t431 t432 bt434.1 bt434.2.1 bt434.2.2.1 bt434.2.2.2.1 bt434.2.2.2.2.1 bt434.2.2.2.2.2.1) else ((prefix_Last.f t429 bt434.2.2.2.1 bt434.2.2.2.2.1 bt434.2.2.2.2.2.1).bind fun bt447 => ((prefix_Last.f t429 t430 t431 t432).bind fun bt449 => (turnpikelaw3_PrefixHalves.j0 k t429 (!(bt447.1 == bt449.1) || (!(bt447.2 == bt449.2))) t430 t431 t432 bt434.1 bt434.2.1 bt434.2.2.1 bt434.2.2.2.1 bt434.2.2.2.2.1 bt434.2.2.2.2.2.1)))))) else (turnpikelaw3_PrefixHalves.j0 k t429 true t430 t431 t432 bt434.1 bt434.2.1 bt434.2.2.1 bt434.2.2.2.1 bt434.2.2.2.2.1 bt434.2.2.2.2.2.1)))) = some r := H
  have A7 := Aside0.mk A70
  clear A70
  replace H := Option.bind_eq_some_iff.mp H
  obtain ⟨⟨t434, t435, t436, t437, t438, t439, t440⟩, A80, H⟩ := H
  replace H : (if t432 = t429 then (if t440 = true then (some false) else (if ((t434 == 0 && (t435 == 0)) && (t436 == 0)) = true then (some ((t437 == 0 && (t438 == 0)) && (t439 == 0))) else (some false))) else (if t440 = true then ((prefix_First.f t434 t435 t436).bind fun bt443 => ((prefix_First.f t430 t431 t432).bind fun bt445 => (if (!(bt443.1 == bt445.1) || (!(bt443.2 == bt445.2))) = true then (turnpikelaw3_PrefixHalves.j0 k t429 true t430 t431 t432 t434 t435 t436 t437 t438 t439) else ((prefix_Last.f t429 t437 t438 t439).bind fun bt447 => ((prefix_Last.f t429 t430 t431 t432).bind fun bt449 => (turnpikelaw3_PrefixHalves.j0 k t429 (!(bt447.1 == bt449.1) || (!(bt447.2 == bt449.2))) t430 t431 t432 t434 t435 t436 t437 t438 t439)))))) else (turnpikelaw3_PrefixHalves.j0 k t429 true t430 t431 t432 t434 t435 t436 t437 t438 t439))) = some r := H
  have A8 := Aside0.mk A80
  clear A80
  by_cases c9 : t432 = t429
  ·rw [if_pos c9] at H
   have c9b0 : (t432 == t429) = true := beq_iff_eq.mpr c9
   have c9b1 : (t432 != t429) = false := bne_eq_false_iff_eq.mpr c9
   clear c9
   by_cases c10 : t440 = true
   ·subst c10
    have H1 : (some false) = some r := by rw [if_pos rfl] at H; exact H
    clear H
    have H := H1
    clear H1
    obtain rfl := Option.some.inj H
    exact absurd hr_.out (by decide)
   ·replace c10 := Bool.eq_false_iff.mpr c10
    subst c10
    have H1 : (if ((t434 == 0 && (t435 == 0)) && (t436 == 0)) = true then (some ((t437 == 0 && (t438 == 0)) && (t439 == 0))) else (some false)) = some r := by rw [if_neg (show ¬ (false = true) by decide)] at H; exact H
    clear H
    have H := H1
    clear H1
    by_cases c11 : ((t434 == 0 && (t435 == 0)) && (t436 == 0)) = true
    ·rw [if_pos c11] at H
     have c11b0 : ((t434 == 0 && (t435 == 0)) && (t436 == 0)) = true := c11
     clear c11
     obtain rfl := Option.some.inj H
     go_enter Tryd.func6, Tryd.ntmps6
     go_wp2_with (first | ((with_reducible refine gate_dst (N := 4) rfl ?_); refine box_event ?hg (N := 4) ?hd (cs := #[.int .u64 a1_0, .int .u64 a1_1]) (t := 24) ?hr ?_; (case hd => rfl); (case hg => rfl); (case hr => first | (go_simp; done) | (go_simp; rfl)); intro gb427 hg w12 hbox hb; have n0_ := Aside0.mk (below_step xB hb); have n1_ := Aside0.mk (hbox); have n2_ := xS w hg; have n3_ := xS w hg; clear HB; have HB := n0_; have BK427 := n1_; have GW427 := n2_; have GE427 := n3_; clear n0_ n1_ n2_ n3_; clear hb hbox hg) | ((with_reducible refine gate_callee (f := 14) rfl ?_); refine goesL_ (some 22) rfl rfl Tryd.func14 (by kernel_rfl) rfl #[] rfl xM ?_; (with_reducible refine (turnpikelaw3_known.calls k  true _ ?side1 A4.out).mono ?_); (case side1 => first | exact MLOk.below HML.out xG | (repeat (first | exact HML.out | (with_reducible refine MLOk.alloc ?_ _) | (with_reducible refine MLOk.drewN ?_ _) | (with_reducible refine MLOk.drew ?_)))); rintro e w13 ⟨rfl, hb⟩; refine ⟨_, rfl, ?_⟩; have n0_ := xP BK427.out hb; have n1_ := Aside0.mk (below_step xG hb); clear BK427; clear HB; have BK427 := n0_; have HB := n1_; clear n0_ n1_; (try clear hb); (try clear hb2); (try clear hk); (try clear hi)) | ((with_reducible refine gate_callee (f := 15) rfl ?_); refine goesL_ (some 25) rfl rfl Tryd.func15 (by kernel_rfl) rfl #[.bool a0] rfl xM ?_; (with_reducible refine (turnpikelaw3_Family.calls a0 t429 _ A6.out).mono ?_); rintro e w' ⟨rfl, ⟨nd, rfl⟩⟩; refine ⟨_, rfl, ?_⟩; (try (rw [drewN_self w13]; generalize hq_ : World.drewN w13 _ = w13; have n0_ : Aside0 (w13.heap[gb427]? = some (.cells #[.int .u64 a1_0, .int .u64 a1_1] 24 (0, 0))) := ⟨by rw [← hq_]; exact (xK BK427.out)⟩; have n1_ : Aside0 (Below w.heap.size w w13) := ⟨by rw [← hq_]; exact xG⟩; clear BK427 HB hq_; have BK427 := n0_; have HB := n1_; clear n0_ n1_)); have hcz14_0 : w13.cell? ⟨gb427, 0, none⟩ = some (.int .u64 a1_0) := (blk_cell BK427.out 0).trans rfl; have hcz14_1 : w13.cell? ⟨gb427, 1, none⟩ = some (.int .u64 a1_1) := (blk_cell BK427.out 1).trans rfl; have hfz14_0 := blk_frozen BK427.out 0; have hfz14_1 := blk_frozen BK427.out 1) | ((with_reducible refine gate_callee (f := 16) rfl ?_); refine goesL_ (some 29) rfl rfl Tryd.func16 (by kernel_rfl) rfl #[.int .i64 t429, .agg #[.int .u64 a1_0, .int .u64 a1_1], .int .i64 a2] rfl xM ?_; (with_reducible refine (turnpikelaw3_Some.calls k t429 a1_0 a1_1 a2 t430 t431 t432 _ A7.out).mono ?_); rintro e w15 ⟨rfl, hb⟩; refine ⟨_, rfl, ?_⟩; have n0_ := xP BK427.out hb; have n1_ := Aside0.mk (below_step xG hb); clear BK427; clear HB; have BK427 := n0_; have HB := n1_; clear n0_ n1_; (try clear hb); (try clear hb2); (try clear hk); (try clear hi)) | ((with_reducible refine gate_dst (N := 8) rfl ?_); refine box_event ?hg (N := 8) ?hd (cs := #[.int .u64 0, .int .u64 0, .int .i64 0]) (t := 28) ?hr ?_; (case hd => rfl); (case hg => rfl); (case hr => first | (go_simp; done) | (go_simp; rfl)); intro gb433 hg w16 hbox hb; have n0_ := xP BK427.out hb; have n1_ := Aside0.mk (below_step xG hb); have n2_ := Aside0.mk (hbox); have n3_ := xT w hg; have n4_ := xT w hg; have n5_ := Aside0.mk ((xNl BK427.out hg : gb427 ≠ gb433)); have n6_ := Aside0.mk ((xNr BK427.out hg : gb433 ≠ gb427)); clear BK427; clear HB; have BK427 := n0_; have HB := n1_; have BK433 := n2_; have GW433 := n3_; have GE433 := n4_; have NB427_433 := n5_; have NB433_427 := n6_; clear n0_ n1_ n2_ n3_ n4_ n5_ n6_; clear hb hbox hg; have hnb17 := NB433_427.out; have hnc17 := NB427_433.out; have hcz18_0 : w16.cell? ⟨gb433, 0, none⟩ = some (.int .u64 0) := (blk_cell BK433.out 0).trans rfl; have hcz18_1 : w16.cell? ⟨gb433, 1, none⟩ = some (.int .u64 0) := (blk_cell BK433.out 1).trans rfl; have hcz18_2 : w16.cell? ⟨gb433, 2, none⟩ = some (.int .i64 0) := (blk_cell BK433.out 2).trans rfl; have hfz18_0 := blk_frozen BK433.out 0; have hfz18_1 := blk_frozen BK433.out 1; have hfz18_2 := blk_frozen BK433.out 2) | ((with_reducible refine gate_callee (f := 29) rfl ?_); refine goesL_ (some 33) rfl rfl Tryd.func29 (by kernel_rfl) rfl #[.int .i64 t429, .agg #[.int .u64 t430, .int .u64 t431, .int .i64 t432]] rfl xM ?_; (with_reducible refine (prefix_Kids.calls t429 t430 t431 t432 t434 t435 t436 t437 t438 t439 false _ A8.out).mono ?_); rintro e w19 ⟨rfl, hb⟩; refine ⟨_, rfl, ?_⟩; have n0_ := Aside0.mk (blk_below (g := gb427) (o := .cells #[.int .u64 a1_0, .int .u64 a1_1] 24 (0, 0)) (by (with_reducible repeat (first | refine blk_drewN ?_ _ | refine blk_drew ?_ | refine blk_alloc ?_ _)); refine blk_far ?_ NB427_433.out _; (with_reducible repeat (first | refine blk_drewN ?_ _ | refine blk_drew ?_ | refine blk_alloc ?_ _)); refine blk_far ?_ NB427_433.out _; (with_reducible repeat (first | refine blk_drewN ?_ _ | refine blk_drew ?_ | refine blk_alloc ?_ _)); refine blk_far ?_ NB427_433.out _; (with_reducible repeat (first | refine blk_drewN ?_ _ | refine blk_drew ?_ | refine blk_alloc ?_ _)); exact BK427.out) hb); have n1_ := Aside0.mk (blk_below (g := gb433) (o := .cells #[.int .u64 t430, .int .u64 t431, .int .i64 t432] 28 (0, 0)) (by (with_reducible repeat (first | refine blk_drewN ?_ _ | refine blk_drew ?_ | refine blk_alloc ?_ _)); refine blk_put (cs := #[.int .u64 t430, .int .u64 t431, .int .i64 0]) ?_ 2 _ rfl; (with_reducible repeat (first | refine blk_drewN ?_ _ | refine blk_drew ?_ | refine blk_alloc ?_ _)); refine blk_put (cs := #[.int .u64 t430, .int .u64 0, .int .i64 0]) ?_ 1 _ rfl; (with_reducible repeat (first | refine blk_drewN ?_ _ | refine blk_drew ?_ | refine blk_alloc ?_ _)); refine blk_put (cs := #[.int .u64 0, .int .u64 0, .int .i64 0]) ?_ 0 _ rfl; (with_reducible repeat (first | refine blk_drewN ?_ _ | refine blk_drew ?_ | refine blk_alloc ?_ _)); exact BK433.out) hb); have n2_ := Aside0.mk (below_step xG hb); clear BK427; clear BK433; clear HB; have BK427 := n0_; have BK433 := n1_; have HB := n2_; clear n0_ n1_ n2_; (try clear hb); (try clear hb2); (try clear hk); (try clear hi)) | ((with_reducible refine gate_dst (N := 9) rfl ?_); refine box_event ?hg (N := 9) ?hd (cs := #[.int .u64 0, .int .u64 0, .int .i64 0]) (t := 28) ?hr ?_; (case hd => rfl); (case hg => rfl); (case hr => first | (go_simp; done) | (go_simp; rfl)); intro gb441 hg w20 hbox hb; have n0_ := xP BK427.out hb; have n1_ := xP BK433.out hb; have n2_ := Aside0.mk (below_step xG hb); have n3_ := Aside0.mk (hbox); have n4_ := xT w hg; have n5_ := xT w hg; have n6_ := Aside0.mk ((xNl BK427.out hg : gb427 ≠ gb441)); have n7_ := Aside0.mk ((xNr BK427.out hg : gb441 ≠ gb427)); have n8_ := Aside0.mk ((xNl BK433.out hg : gb433 ≠ gb441)); have n9_ := Aside0.mk ((xNr BK433.out hg : gb441 ≠ gb433)); clear BK427; clear BK433; clear HB; have BK427 := n0_; have BK433 := n1_; have HB := n2_; have BK441 := n3_; have GW441 := n4_; have GE441 := n5_; have NB427_441 := n6_; have NB441_427 := n7_; have NB433_441 := n8_; have NB441_433 := n9_; clear n0_ n1_ n2_ n3_ n4_ n5_ n6_ n7_ n8_ n9_; clear hb hbox hg) | ((with_reducible refine gate_dst (N := 10) rfl ?_); refine box_event ?hg (N := 10) ?hd (cs := #[.int .u64 0, .int .u64 0, .int .i64 0]) (t := 28) ?hr ?_; (case hd => rfl); (case hg => rfl); (case hr => first | (go_simp; done) | (go_simp; rfl)); intro gb442 hg w21 hbox hb; have n0_ := xP BK427.out hb; have n1_ := xP BK433.out hb; have n2_ := xP BK441.out hb; have n3_ := Aside0.mk (below_step xG hb); have n4_ := Aside0.mk (hbox); have n5_ := xT w hg; have n6_ := xT w hg; have n7_ := Aside0.mk ((xNl BK427.out hg : gb427 ≠ gb442)); have n8_ := Aside0.mk ((xNr BK427.out hg : gb442 ≠ gb427)); have n9_ := Aside0.mk ((xNl BK433.out hg : gb433 ≠ gb442)); have n10_ := Aside0.mk ((xNr BK433.out hg : gb442 ≠ gb433)); have n11_ := Aside0.mk ((xNl BK441.out hg : gb441 ≠ gb442)); have n12_ := Aside0.mk ((xNr BK441.out hg : gb442 ≠ gb441)); clear BK427; clear BK433; clear BK441; clear HB; have BK427 := n0_; have BK433 := n1_; have BK441 := n2_; have HB := n3_; have BK442 := n4_; have GW442 := n5_; have GE442 := n6_; have NB427_442 := n7_; have NB442_427 := n8_; have NB433_442 := n9_; have NB442_433 := n10_; have NB441_442 := n11_; have NB442_441 := n12_; clear n0_ n1_ n2_ n3_ n4_ n5_ n6_ n7_ n8_ n9_ n10_ n11_ n12_; clear hb hbox hg; have hnb22 := NB441_427.out; have hnc22 := NB427_441.out; have hnb23 := NB441_433.out; have hnc23 := NB433_441.out; have hnb24 := NB441_442.out; have hnc24 := NB442_441.out; have hcz25_0 : w21.cell? ⟨gb441, 0, none⟩ = some (.int .u64 0) := (blk_cell BK441.out 0).trans rfl; have hcz25_1 : w21.cell? ⟨gb441, 1, none⟩ = some (.int .u64 0) := (blk_cell BK441.out 1).trans rfl; have hcz25_2 : w21.cell? ⟨gb441, 2, none⟩ = some (.int .i64 0) := (blk_cell BK441.out 2).trans rfl; have hfz25_0 := blk_frozen BK441.out 0; have hfz25_1 := blk_frozen BK441.out 1; have hfz25_2 := blk_frozen BK441.out 2; have hnb26 := NB442_427.out; have hnc26 := NB427_442.out; have hnb27 := NB442_433.out; have hnc27 := NB433_442.out; have hcz28_0 : w21.cell? ⟨gb442, 0, none⟩ = some (.int .u64 0) := (blk_cell BK442.out 0).trans rfl; have hcz28_1 : w21.cell? ⟨gb442, 1, none⟩ = some (.int .u64 0) := (blk_cell BK442.out 1).trans rfl; have hcz28_2 : w21.cell? ⟨gb442, 2, none⟩ = some (.int .i64 0) := (blk_cell BK442.out 2).trans rfl; have hfz28_0 := blk_frozen BK442.out 0; have hfz28_1 := blk_frozen BK442.out 1; have hfz28_2 := blk_frozen BK442.out 2; have hcz29_0 : w21.cell? ⟨gb433, 0, none⟩ = some (.int .u64 t430) := (blk_cell BK433.out 0).trans rfl; have hcz29_1 : w21.cell? ⟨gb433, 1, none⟩ = some (.int .u64 t431) := (blk_cell BK433.out 1).trans rfl; have hcz29_2 : w21.cell? ⟨gb433, 2, none⟩ = some (.int .i64 t432) := (blk_cell BK433.out 2).trans rfl; have hfz29_0 := blk_frozen BK433.out 0; have hfz29_1 := blk_frozen BK433.out 1; have hfz29_2 := blk_frozen BK433.out 2))
     go_ret
     exact ⟨xE, xG⟩
    ·rw [if_neg c11] at H
     have c11b0 : ((t434 == 0 && (t435 == 0)) && (t436 == 0)) = false := by simpa using c11
     clear c11
     obtain rfl := Option.some.inj H
     exact absurd hr_.out (by decide)
  ·rw [if_neg c9] at H
   have c9b0 : (t432 == t429) = false := beq_eq_false_iff_ne.mpr c9
   have c9b1 : (t432 != t429) = true := bne_iff_ne.mpr c9
   have HC30 := Aside0.mk H
   clear H
   go_enter Tryd.func6, Tryd.ntmps6
   go_upto_region 8 with (first | ((with_reducible refine gate_dst (N := 4) rfl ?_); refine box_event ?hg (N := 4) ?hd (cs := #[.int .u64 a1_0, .int .u64 a1_1]) (t := 24) ?hr ?_; (case hd => rfl); (case hg => rfl); (case hr => first | (go_simp; done) | (go_simp; rfl)); intro gb427 hg w31 hbox hb; have n0_ := Aside0.mk (below_step xB hb); have n1_ := Aside0.mk (hbox); have n2_ := xS w hg; have n3_ := xS w hg; clear HB; have HB := n0_; have BK427 := n1_; have GW427 := n2_; have GE427 := n3_; clear n0_ n1_ n2_ n3_; clear hb hbox hg) | ((with_reducible refine gate_callee (f := 14) rfl ?_); refine goesL_ (some 22) rfl rfl Tryd.func14 (by kernel_rfl) rfl #[] rfl xM ?_; (with_reducible refine (turnpikelaw3_known.calls k  true _ ?side1 A4.out).mono ?_); (case side1 => first | exact MLOk.below HML.out xG | (repeat (first | exact HML.out | (with_reducible refine MLOk.alloc ?_ _) | (with_reducible refine MLOk.drewN ?_ _) | (with_reducible refine MLOk.drew ?_)))); rintro e w32 ⟨rfl, hb⟩; refine ⟨_, rfl, ?_⟩; have n0_ := xP BK427.out hb; have n1_ := Aside0.mk (below_step xG hb); clear BK427; clear HB; have BK427 := n0_; have HB := n1_; clear n0_ n1_; (try clear hb); (try clear hb2); (try clear hk); (try clear hi)) | ((with_reducible refine gate_callee (f := 15) rfl ?_); refine goesL_ (some 25) rfl rfl Tryd.func15 (by kernel_rfl) rfl #[.bool a0] rfl xM ?_; (with_reducible refine (turnpikelaw3_Family.calls a0 t429 _ A6.out).mono ?_); rintro e w' ⟨rfl, ⟨nd, rfl⟩⟩; refine ⟨_, rfl, ?_⟩; (try (rw [drewN_self w32]; generalize hq_ : World.drewN w32 _ = w32; have n0_ : Aside0 (w32.heap[gb427]? = some (.cells #[.int .u64 a1_0, .int .u64 a1_1] 24 (0, 0))) := ⟨by rw [← hq_]; exact (xK BK427.out)⟩; have n1_ : Aside0 (Below w.heap.size w w32) := ⟨by rw [← hq_]; exact xG⟩; clear BK427 HB hq_; have BK427 := n0_; have HB := n1_; clear n0_ n1_)); have hcz33_0 : w32.cell? ⟨gb427, 0, none⟩ = some (.int .u64 a1_0) := (blk_cell BK427.out 0).trans rfl; have hcz33_1 : w32.cell? ⟨gb427, 1, none⟩ = some (.int .u64 a1_1) := (blk_cell BK427.out 1).trans rfl; have hfz33_0 := blk_frozen BK427.out 0; have hfz33_1 := blk_frozen BK427.out 1) | ((with_reducible refine gate_callee (f := 16) rfl ?_); refine goesL_ (some 29) rfl rfl Tryd.func16 (by kernel_rfl) rfl #[.int .i64 t429, .agg #[.int .u64 a1_0, .int .u64 a1_1], .int .i64 a2] rfl xM ?_; (with_reducible refine (turnpikelaw3_Some.calls k t429 a1_0 a1_1 a2 t430 t431 t432 _ A7.out).mono ?_); rintro e w34 ⟨rfl, hb⟩; refine ⟨_, rfl, ?_⟩; have n0_ := xP BK427.out hb; have n1_ := Aside0.mk (below_step xG hb); clear BK427; clear HB; have BK427 := n0_; have HB := n1_; clear n0_ n1_; (try clear hb); (try clear hb2); (try clear hk); (try clear hi)) | ((with_reducible refine gate_dst (N := 8) rfl ?_); refine box_event ?hg (N := 8) ?hd (cs := #[.int .u64 0, .int .u64 0, .int .i64 0]) (t := 28) ?hr ?_; (case hd => rfl); (case hg => rfl); (case hr => first | (go_simp; done) | (go_simp; rfl)); intro gb433 hg w35 hbox hb; have n0_ := xP BK427.out hb; have n1_ := Aside0.mk (below_step xG hb); have n2_ := Aside0.mk (hbox); have n3_ := xT w hg; have n4_ := xT w hg; have n5_ := Aside0.mk ((xNl BK427.out hg : gb427 ≠ gb433)); have n6_ := Aside0.mk ((xNr BK427.out hg : gb433 ≠ gb427)); clear BK427; clear HB; have BK427 := n0_; have HB := n1_; have BK433 := n2_; have GW433 := n3_; have GE433 := n4_; have NB427_433 := n5_; have NB433_427 := n6_; clear n0_ n1_ n2_ n3_ n4_ n5_ n6_; clear hb hbox hg; have hnb36 := NB433_427.out; have hnc36 := NB427_433.out; have hcz37_0 : w35.cell? ⟨gb433, 0, none⟩ = some (.int .u64 0) := (blk_cell BK433.out 0).trans rfl; have hcz37_1 : w35.cell? ⟨gb433, 1, none⟩ = some (.int .u64 0) := (blk_cell BK433.out 1).trans rfl; have hcz37_2 : w35.cell? ⟨gb433, 2, none⟩ = some (.int .i64 0) := (blk_cell BK433.out 2).trans rfl; have hfz37_0 := blk_frozen BK433.out 0; have hfz37_1 := blk_frozen BK433.out 1; have hfz37_2 := blk_frozen BK433.out 2) | ((with_reducible refine gate_callee (f := 29) rfl ?_); refine goesL_ (some 33) rfl rfl Tryd.func29 (by kernel_rfl) rfl #[.int .i64 t429, .agg #[.int .u64 t430, .int .u64 t431, .int .i64 t432]] rfl xM ?_; (with_reducible refine (prefix_Kids.calls t429 t430 t431 t432 t434 t435 t436 t437 t438 t439 t440 _ A8.out).mono ?_); rintro e w38 ⟨rfl, hb⟩; refine ⟨_, rfl, ?_⟩; have n0_ := Aside0.mk (blk_below (g := gb427) (o := .cells #[.int .u64 a1_0, .int .u64 a1_1] 24 (0, 0)) (by (with_reducible repeat (first | refine blk_drewN ?_ _ | refine blk_drew ?_ | refine blk_alloc ?_ _)); refine blk_far ?_ NB427_433.out _; (with_reducible repeat (first | refine blk_drewN ?_ _ | refine blk_drew ?_ | refine blk_alloc ?_ _)); refine blk_far ?_ NB427_433.out _; (with_reducible repeat (first | refine blk_drewN ?_ _ | refine blk_drew ?_ | refine blk_alloc ?_ _)); refine blk_far ?_ NB427_433.out _; (with_reducible repeat (first | refine blk_drewN ?_ _ | refine blk_drew ?_ | refine blk_alloc ?_ _)); exact BK427.out) hb); have n1_ := Aside0.mk (blk_below (g := gb433) (o := .cells #[.int .u64 t430, .int .u64 t431, .int .i64 t432] 28 (0, 0)) (by (with_reducible repeat (first | refine blk_drewN ?_ _ | refine blk_drew ?_ | refine blk_alloc ?_ _)); refine blk_put (cs := #[.int .u64 t430, .int .u64 t431, .int .i64 0]) ?_ 2 _ rfl; (with_reducible repeat (first | refine blk_drewN ?_ _ | refine blk_drew ?_ | refine blk_alloc ?_ _)); refine blk_put (cs := #[.int .u64 t430, .int .u64 0, .int .i64 0]) ?_ 1 _ rfl; (with_reducible repeat (first | refine blk_drewN ?_ _ | refine blk_drew ?_ | refine blk_alloc ?_ _)); refine blk_put (cs := #[.int .u64 0, .int .u64 0, .int .i64 0]) ?_ 0 _ rfl; (with_reducible repeat (first | refine blk_drewN ?_ _ | refine blk_drew ?_ | refine blk_alloc ?_ _)); exact BK433.out) hb); have n2_ := Aside0.mk (below_step xG hb); clear BK427; clear BK433; clear HB; have BK427 := n0_; have BK433 := n1_; have HB := n2_; clear n0_ n1_ n2_; (try clear hb); (try clear hb2); (try clear hk); (try clear hi)) | ((with_reducible refine gate_dst (N := 9) rfl ?_); refine box_event ?hg (N := 9) ?hd (cs := #[.int .u64 0, .int .u64 0, .int .i64 0]) (t := 28) ?hr ?_; (case hd => rfl); (case hg => rfl); (case hr => first | (go_simp; done) | (go_simp; rfl)); intro gb441 hg w39 hbox hb; have n0_ := xP BK427.out hb; have n1_ := xP BK433.out hb; have n2_ := Aside0.mk (below_step xG hb); have n3_ := Aside0.mk (hbox); have n4_ := xT w hg; have n5_ := xT w hg; have n6_ := Aside0.mk ((xNl BK427.out hg : gb427 ≠ gb441)); have n7_ := Aside0.mk ((xNr BK427.out hg : gb441 ≠ gb427)); have n8_ := Aside0.mk ((xNl BK433.out hg : gb433 ≠ gb441)); have n9_ := Aside0.mk ((xNr BK433.out hg : gb441 ≠ gb433)); clear BK427; clear BK433; clear HB; have BK427 := n0_; have BK433 := n1_; have HB := n2_; have BK441 := n3_; have GW441 := n4_; have GE441 := n5_; have NB427_441 := n6_; have NB441_427 := n7_; have NB433_441 := n8_; have NB441_433 := n9_; clear n0_ n1_ n2_ n3_ n4_ n5_ n6_ n7_ n8_ n9_; clear hb hbox hg) | ((with_reducible refine gate_dst (N := 10) rfl ?_); refine box_event ?hg (N := 10) ?hd (cs := #[.int .u64 0, .int .u64 0, .int .i64 0]) (t := 28) ?hr ?_; (case hd => rfl); (case hg => rfl); (case hr => first | (go_simp; done) | (go_simp; rfl)); intro gb442 hg w40 hbox hb; have n0_ := xP BK427.out hb; have n1_ := xP BK433.out hb; have n2_ := xP BK441.out hb; have n3_ := Aside0.mk (below_step xG hb); have n4_ := Aside0.mk (hbox); have n5_ := xT w hg; have n6_ := xT w hg; have n7_ := Aside0.mk ((xNl BK427.out hg : gb427 ≠ gb442)); have n8_ := Aside0.mk ((xNr BK427.out hg : gb442 ≠ gb427)); have n9_ := Aside0.mk ((xNl BK433.out hg : gb433 ≠ gb442)); have n10_ := Aside0.mk ((xNr BK433.out hg : gb442 ≠ gb433)); have n11_ := Aside0.mk ((xNl BK441.out hg : gb441 ≠ gb442)); have n12_ := Aside0.mk ((xNr BK441.out hg : gb442 ≠ gb441)); clear BK427; clear BK433; clear BK441; clear HB; have BK427 := n0_; have BK433 := n1_; have BK441 := n2_; have HB := n3_; have BK442 := n4_; have GW442 := n5_; have GE442 := n6_; have NB427_442 := n7_; have NB442_427 := n8_; have NB433_442 := n9_; have NB442_433 := n10_; have NB441_442 := n11_; have NB442_441 := n12_; clear n0_ n1_ n2_ n3_ n4_ n5_ n6_ n7_ n8_ n9_ n10_ n11_ n12_; clear hb hbox hg; have hnb41 := NB441_427.out; have hnc41 := NB427_441.out; have hnb42 := NB441_433.out; have hnc42 := NB433_441.out; have hnb43 := NB441_442.out; have hnc43 := NB442_441.out; have hcz44_0 : w40.cell? ⟨gb441, 0, none⟩ = some (.int .u64 0) := (blk_cell BK441.out 0).trans rfl; have hcz44_1 : w40.cell? ⟨gb441, 1, none⟩ = some (.int .u64 0) := (blk_cell BK441.out 1).trans rfl; have hcz44_2 : w40.cell? ⟨gb441, 2, none⟩ = some (.int .i64 0) := (blk_cell BK441.out 2).trans rfl; have hfz44_0 := blk_frozen BK441.out 0; have hfz44_1 := blk_frozen BK441.out 1; have hfz44_2 := blk_frozen BK441.out 2; have hnb45 := NB442_427.out; have hnc45 := NB427_442.out; have hnb46 := NB442_433.out; have hnc46 := NB433_442.out; have hcz47_0 : w40.cell? ⟨gb442, 0, none⟩ = some (.int .u64 0) := (blk_cell BK442.out 0).trans rfl; have hcz47_1 : w40.cell? ⟨gb442, 1, none⟩ = some (.int .u64 0) := (blk_cell BK442.out 1).trans rfl; have hcz47_2 : w40.cell? ⟨gb442, 2, none⟩ = some (.int .i64 0) := (blk_cell BK442.out 2).trans rfl; have hfz47_0 := blk_frozen BK442.out 0; have hfz47_1 := blk_frozen BK442.out 1; have hfz47_2 := blk_frozen BK442.out 2; have hcz48_0 : w40.cell? ⟨gb433, 0, none⟩ = some (.int .u64 t430) := (blk_cell BK433.out 0).trans rfl; have hcz48_1 : w40.cell? ⟨gb433, 1, none⟩ = some (.int .u64 t431) := (blk_cell BK433.out 1).trans rfl; have hcz48_2 : w40.cell? ⟨gb433, 2, none⟩ = some (.int .i64 t432) := (blk_cell BK433.out 2).trans rfl; have hfz48_0 := blk_frozen BK433.out 0; have hfz48_1 := blk_frozen BK433.out 1; have hfz48_2 := blk_frozen BK433.out 2))
   (try simp only [Act.put, List.setIfInBounds_toArray, List.set_cons_zero, List.set_cons_succ])
   go_cut [70] (fun v70 wc => ∃ (kq : Nat) (x70_29 : Bool), v70 = .bool x70_29 ∧ Aside0 (turnpikelaw3_PrefixHalves.j0 kq t429 x70_29 t430 t431 t432 t434 t435 t436 t437 t438 t439 = some r) ∧ Aside0 (kq ≤ k) ∧ Aside0 (wc.heap[gb427]? = some (.cells #[.int .u64 a1_0, .int .u64 a1_1] 24 (0, 0))) ∧ Aside0 (wc.heap[gb433]? = some (.cells #[.int .u64 t430, .int .u64 t431, .int .i64 t432] 28 (0, 0))) ∧ Aside0 (wc.heap[gb441]? = some (.cells #[.int .u64 t434, .int .u64 t435, .int .i64 t436] 28 (0, 0))) ∧ Aside0 (wc.heap[gb442]? = some (.cells #[.int .u64 t437, .int .u64 t438, .int .i64 t439] 28 (0, 0))) ∧ Aside0 (Below w.heap.size w wc))
   case first =>
    have H := HC30.out
    clear HC30
    by_cases c49 : t440 = true
    ·subst c49
     have H1 : ((prefix_First.f t434 t435 t436).bind fun bt443 => ((prefix_First.f t430 t431 t432).bind fun bt445 => (if (!(bt443.1 == bt445.1) || (!(bt443.2 == bt445.2))) = true then (turnpikelaw3_PrefixHalves.j0 k t429 true t430 t431 t432 t434 t435 t436 t437 t438 t439) else ((prefix_Last.f t429 t437 t438 t439).bind fun bt447 => ((prefix_Last.f t429 t430 t431 t432).bind fun bt449 => (turnpikelaw3_PrefixHalves.j0 k t429 (!(bt447.1 == bt449.1) || (!(bt447.2 == bt449.2))) t430 t431 t432 t434 t435 t436 t437 t438 t439)))))) = some r := by rw [if_pos rfl] at H; exact H
     clear H
     have H := H1
     clear H1
     replace H := Option.bind_eq_some_iff.mp H
     obtain ⟨⟨t443, t444⟩, A500, H⟩ := H
     replace H : ((prefix_First.f t430 t431 t432).bind fun bt445 => (if (!(t443 == bt445.1) || (!(t444 == bt445.2))) = true then (turnpikelaw3_PrefixHalves.j0 k t429 true t430 t431 t432 t434 t435 t436 t437 t438 t439) else ((prefix_Last.f t429 t437 t438 t439).bind fun bt447 => ((prefix_Last.f t429 t430 t431 t432).bind fun bt449 => (turnpikelaw3_PrefixHalves.j0 k t429 (!(bt447.1 == bt449.1) || (!(bt447.2 == bt449.2))) t430 t431 t432 t434 t435 t436 t437 t438 t439))))) = some r := H
     have A50 := Aside0.mk A500
     clear A500
     replace H := Option.bind_eq_some_iff.mp H
     obtain ⟨⟨t445, t446⟩, A510, H⟩ := H
     replace H : (if (!(t443 == t445) || (!(t444 == t446))) = true then (turnpikelaw3_PrefixHalves.j0 k t429 true t430 t431 t432 t434 t435 t436 t437 t438 t439) else ((prefix_Last.f t429 t437 t438 t439).bind fun bt447 => ((prefix_Last.f t429 t430 t431 t432).bind fun bt449 => (turnpikelaw3_PrefixHalves.j0 k t429 (!(bt447.1 == bt449.1) || (!(bt447.2 == bt449.2))) t430 t431 t432 t434 t435 t436 t437 t438 t439)))) = some r := H
     have A51 := Aside0.mk A510
     clear A510
     by_cases c52 : (!(t443 == t445) || (!(t444 == t446))) = true
     ·rw [if_pos c52] at H
      have c52b0 : (!(t443 == t445) || (!(t444 == t446))) = true := c52
      clear c52
      (first | rw [c52b0] | (simp only [i64_w, i32_w]; rw [c52b0]) | skip)
      have H' := Aside0.mk H
      clear H
      try go_wp2
      have n0_ : Aside0 (((((((w40.setCell ⟨gb441, 0, none⟩ (.int .u64 t434)).setCell ⟨gb441, 1, none⟩ (.int .u64 t435)).setCell ⟨gb441, 2, none⟩ (.int .i64 t436)).setCell ⟨gb442, 0, none⟩ (.int .u64 t437)).setCell ⟨gb442, 1, none⟩ (.int .u64 t438)).setCell ⟨gb442, 2, none⟩ (.int .i64 t439)).heap[gb427]? = some (.cells #[.int .u64 a1_0, .int .u64 a1_1] 24 (0, 0))) := ⟨by (with_reducible repeat (first | refine blk_drewN ?_ _ | refine blk_drew ?_ | refine blk_alloc ?_ _)); refine blk_far ?_ NB427_442.out _; (with_reducible repeat (first | refine blk_drewN ?_ _ | refine blk_drew ?_ | refine blk_alloc ?_ _)); refine blk_far ?_ NB427_442.out _; (with_reducible repeat (first | refine blk_drewN ?_ _ | refine blk_drew ?_ | refine blk_alloc ?_ _)); refine blk_far ?_ NB427_442.out _; (with_reducible repeat (first | refine blk_drewN ?_ _ | refine blk_drew ?_ | refine blk_alloc ?_ _)); refine blk_far ?_ NB427_441.out _; (with_reducible repeat (first | refine blk_drewN ?_ _ | refine blk_drew ?_ | refine blk_alloc ?_ _)); refine blk_far ?_ NB427_441.out _; (with_reducible repeat (first | refine blk_drewN ?_ _ | refine blk_drew ?_ | refine blk_alloc ?_ _)); refine blk_far ?_ NB427_441.out _; (with_reducible repeat (first | refine blk_drewN ?_ _ | refine blk_drew ?_ | refine blk_alloc ?_ _)); exact BK427.out⟩
      have n1_ : Aside0 (((((((w40.setCell ⟨gb441, 0, none⟩ (.int .u64 t434)).setCell ⟨gb441, 1, none⟩ (.int .u64 t435)).setCell ⟨gb441, 2, none⟩ (.int .i64 t436)).setCell ⟨gb442, 0, none⟩ (.int .u64 t437)).setCell ⟨gb442, 1, none⟩ (.int .u64 t438)).setCell ⟨gb442, 2, none⟩ (.int .i64 t439)).heap[gb433]? = some (.cells #[.int .u64 t430, .int .u64 t431, .int .i64 t432] 28 (0, 0))) := ⟨by (with_reducible repeat (first | refine blk_drewN ?_ _ | refine blk_drew ?_ | refine blk_alloc ?_ _)); refine blk_far ?_ NB433_442.out _; (with_reducible repeat (first | refine blk_drewN ?_ _ | refine blk_drew ?_ | refine blk_alloc ?_ _)); refine blk_far ?_ NB433_442.out _; (with_reducible repeat (first | refine blk_drewN ?_ _ | refine blk_drew ?_ | refine blk_alloc ?_ _)); refine blk_far ?_ NB433_442.out _; (with_reducible repeat (first | refine blk_drewN ?_ _ | refine blk_drew ?_ | refine blk_alloc ?_ _)); refine blk_far ?_ NB433_441.out _; (with_reducible repeat (first | refine blk_drewN ?_ _ | refine blk_drew ?_ | refine blk_alloc ?_ _)); refine blk_far ?_ NB433_441.out _; (with_reducible repeat (first | refine blk_drewN ?_ _ | refine blk_drew ?_ | refine blk_alloc ?_ _)); refine blk_far ?_ NB433_441.out _; (with_reducible repeat (first | refine blk_drewN ?_ _ | refine blk_drew ?_ | refine blk_alloc ?_ _)); exact BK433.out⟩
      have n2_ : Aside0 (((((((w40.setCell ⟨gb441, 0, none⟩ (.int .u64 t434)).setCell ⟨gb441, 1, none⟩ (.int .u64 t435)).setCell ⟨gb441, 2, none⟩ (.int .i64 t436)).setCell ⟨gb442, 0, none⟩ (.int .u64 t437)).setCell ⟨gb442, 1, none⟩ (.int .u64 t438)).setCell ⟨gb442, 2, none⟩ (.int .i64 t439)).heap[gb441]? = some (.cells #[.int .u64 t434, .int .u64 t435, .int .i64 t436] 28 (0, 0))) := ⟨by (with_reducible repeat (first | refine blk_drewN ?_ _ | refine blk_drew ?_ | refine blk_alloc ?_ _)); refine blk_far ?_ NB441_442.out _; (with_reducible repeat (first | refine blk_drewN ?_ _ | refine blk_drew ?_ | refine blk_alloc ?_ _)); refine blk_far ?_ NB441_442.out _; (with_reducible repeat (first | refine blk_drewN ?_ _ | refine blk_drew ?_ | refine blk_alloc ?_ _)); refine blk_far ?_ NB441_442.out _; (with_reducible repeat (first | refine blk_drewN ?_ _ | refine blk_drew ?_ | refine blk_alloc ?_ _)); refine blk_put (cs := #[.int .u64 t434, .int .u64 t435, .int .i64 0]) ?_ 2 _ rfl; (with_reducible repeat (first | refine blk_drewN ?_ _ | refine blk_drew ?_ | refine blk_alloc ?_ _)); refine blk_put (cs := #[.int .u64 t434, .int .u64 0, .int .i64 0]) ?_ 1 _ rfl; (with_reducible repeat (first | refine blk_drewN ?_ _ | refine blk_drew ?_ | refine blk_alloc ?_ _)); refine blk_put (cs := #[.int .u64 0, .int .u64 0, .int .i64 0]) ?_ 0 _ rfl; (with_reducible repeat (first | refine blk_drewN ?_ _ | refine blk_drew ?_ | refine blk_alloc ?_ _)); exact BK441.out⟩
      have n3_ : Aside0 (((((((w40.setCell ⟨gb441, 0, none⟩ (.int .u64 t434)).setCell ⟨gb441, 1, none⟩ (.int .u64 t435)).setCell ⟨gb441, 2, none⟩ (.int .i64 t436)).setCell ⟨gb442, 0, none⟩ (.int .u64 t437)).setCell ⟨gb442, 1, none⟩ (.int .u64 t438)).setCell ⟨gb442, 2, none⟩ (.int .i64 t439)).heap[gb442]? = some (.cells #[.int .u64 t437, .int .u64 t438, .int .i64 t439] 28 (0, 0))) := ⟨by (with_reducible repeat (first | refine blk_drewN ?_ _ | refine blk_drew ?_ | refine blk_alloc ?_ _)); refine blk_put (cs := #[.int .u64 t437, .int .u64 t438, .int .i64 0]) ?_ 2 _ rfl; (with_reducible repeat (first | refine blk_drewN ?_ _ | refine blk_drew ?_ | refine blk_alloc ?_ _)); refine blk_put (cs := #[.int .u64 t437, .int .u64 0, .int .i64 0]) ?_ 1 _ rfl; (with_reducible repeat (first | refine blk_drewN ?_ _ | refine blk_drew ?_ | refine blk_alloc ?_ _)); refine blk_put (cs := #[.int .u64 0, .int .u64 0, .int .i64 0]) ?_ 0 _ rfl; (with_reducible repeat (first | refine blk_drewN ?_ _ | refine blk_drew ?_ | refine blk_alloc ?_ _)); refine blk_far ?_ NB442_441.out _; (with_reducible repeat (first | refine blk_drewN ?_ _ | refine blk_drew ?_ | refine blk_alloc ?_ _)); refine blk_far ?_ NB442_441.out _; (with_reducible repeat (first | refine blk_drewN ?_ _ | refine blk_drew ?_ | refine blk_alloc ?_ _)); refine blk_far ?_ NB442_441.out _; (with_reducible repeat (first | refine blk_drewN ?_ _ | refine blk_drew ?_ | refine blk_alloc ?_ _)); exact BK442.out⟩
      have n4_ : Aside0 (Below w.heap.size w ((((((w40.setCell ⟨gb441, 0, none⟩ (.int .u64 t434)).setCell ⟨gb441, 1, none⟩ (.int .u64 t435)).setCell ⟨gb441, 2, none⟩ (.int .i64 t436)).setCell ⟨gb442, 0, none⟩ (.int .u64 t437)).setCell ⟨gb442, 1, none⟩ (.int .u64 t438)).setCell ⟨gb442, 2, none⟩ (.int .i64 t439))) := ⟨xG⟩
      (try clear BK427)
      (try clear BK433)
      (try clear BK441)
      (try clear BK442)
      (try clear HB)
      generalize ((((((w40.setCell ⟨gb441, 0, none⟩ (.int .u64 t434)).setCell ⟨gb441, 1, none⟩ (.int .u64 t435)).setCell ⟨gb441, 2, none⟩ (.int .i64 t436)).setCell ⟨gb442, 0, none⟩ (.int .u64 t437)).setCell ⟨gb442, 1, none⟩ (.int .u64 t438)).setCell ⟨gb442, 2, none⟩ (.int .i64 t439)) = w53 at n0_ n1_ n2_ n3_ n4_ ⊢
      have BK427 := n0_
      have BK433 := n1_
      have BK441 := n2_
      have BK442 := n3_
      have HB := n4_
      clear n0_ n1_ n2_ n3_ n4_
      have n0_ := Aside0.mk (blk_drew BK427.out)
      have n1_ := Aside0.mk (blk_drew BK433.out)
      have n2_ := Aside0.mk (blk_drew BK441.out)
      have n3_ := Aside0.mk (blk_drew BK442.out)
      have n4_ := Aside0.mk (below_drew1 HB.out)
      clear BK427
      clear BK433
      clear BK441
      clear BK442
      clear HB
      have BK427 := n0_
      have BK433 := n1_
      have BK441 := n2_
      have BK442 := n3_
      have HB := n4_
      clear n0_ n1_ n2_ n3_ n4_
      refine start_ (n := 18) (S := fun w' => w'.cell? ⟨gb441, 0, none⟩ = some (.int .u64 t434) ∧ w'.cell? ⟨gb441, 1, none⟩ = some (.int .u64 t435) ∧ w'.cell? ⟨gb441, 2, none⟩ = some (.int .i64 t436) ∧ w'.cell? ⟨gb433, 0, none⟩ = some (.int .u64 t430) ∧ w'.cell? ⟨gb433, 1, none⟩ = some (.int .u64 t431) ∧ w'.cell? ⟨gb433, 2, none⟩ = some (.int .i64 t432)) (ds := []) #[false, false, false, false, false, false, false, false, false, false, false, false, false, false, false, false, false, false] (by kernel_rfl) rfl rfl ⟨(blk_cell BK441.out 0).trans rfl, (blk_cell BK441.out 1).trans rfl, (blk_cell BK441.out 2).trans rfl, (blk_cell BK433.out 0).trans rfl, (blk_cell BK433.out 1).trans rfl, (blk_cell BK433.out 2).trans rfl⟩ (fun hHeld => ?_); refine with_tabW turnpikelaw3_PrefixHalves.tab8 turnpikelaw3_PrefixHalves.bits8 (fun HT_ HW_ => ?_)
      generalize w53.drew = w54 at BK427 BK433 BK441 BK442 HB hHeld ⊢
      refine pure_ (i := 0) (N := some 53) (v := ?_) (a' := ?_) #[true, false, false, false, false, false, false, false, false, false, false, false, false, false, false, false, false, false] rfl rfl (any_of HT_.out (by kernel_rfl)) (fun _ _ _ h => h) (Or.inl ⟨by rfl, ?_⟩) ?_ ?_
      rotate_left
      ·intro w'
       go_simp
       with_reducible rfl
      rotate_left
      ·simp only [Act.put, List.setIfInBounds_toArray, List.set_cons_zero, List.set_cons_succ, i64_w, i32_w]
       rfl
      refine pure_ (i := 1) (N := some 54) (v := ?_) (a' := ?_) #[true, true, false, false, false, false, false, false, false, false, false, false, false, false, false, false, false, false] rfl rfl (any_of HT_.out (by kernel_rfl)) (fun _ _ _ h => h) (Or.inl ⟨by rfl, ?_⟩) ?_ ?_
      rotate_left
      ·intro w'
       go_simp
       with_reducible rfl
      rotate_left
      ·simp only [Act.put, List.setIfInBounds_toArray, List.set_cons_zero, List.set_cons_succ, i64_w, i32_w]
       rfl
      refine pure_ (i := 2) (N := some 55) (v := ?_) (a' := ?_) #[true, true, true, false, false, false, false, false, false, false, false, false, false, false, false, false, false, false] rfl rfl (any_of HT_.out (by kernel_rfl)) (fun _ _ _ h => h) (Or.inl ⟨by rfl, ?_⟩) ?_ ?_
      rotate_left
      ·intro w'
       go_simp
       with_reducible rfl
      rotate_left
      ·simp only [Act.put, List.setIfInBounds_toArray, List.set_cons_zero, List.set_cons_succ, i64_w, i32_w]
       rfl
      refine take_ (i := 3) (N := some 56) (v := ?_) (a' := ?_) #[true, true, true, true, false, false, false, false, false, false, false, false, false, false, false, false, false, false] rfl rfl (take_ofW HT_.out HW_.out (by kernel_rfl)) (fun _ _ _ h => h) (Or.inl ⟨by rfl, ?_⟩) hHeld ?_ ?_
      rotate_left
      ·rintro w' ⟨s0, s1, s2, s3, s4, s5⟩
       go_simp
       with_reducible rfl
      rotate_left
      ·simp only [Act.put, List.setIfInBounds_toArray, List.set_cons_zero, List.set_cons_succ, i64_w, i32_w]
       rfl
      refine take_ (i := 5) (N := some 58) (v := ?_) (a' := ?_) #[true, true, true, true, false, true, false, false, false, false, false, false, false, false, false, false, false, false] rfl rfl (take_ofW HT_.out HW_.out (by kernel_rfl)) (fun _ _ _ h => h) (Or.inl ⟨by rfl, ?_⟩) hHeld ?_ ?_
      rotate_left
      ·rintro w' ⟨s0, s1, s2, s3, s4, s5⟩
       go_simp
       with_reducible rfl
      rotate_left
      ·simp only [Act.put, List.setIfInBounds_toArray, List.set_cons_zero, List.set_cons_succ, i64_w, i32_w]
       rfl
      refine one_ (i := 4) (N := some 57) #[true, true, true, true, true, true, false, false, false, false, false, false, false, false, false, false, false, false] rfl rfl (one_of HT_.out (by kernel_rfl)) (by decide) (fun K hK => ?_)
      refine goes_ Tryd.func20 (by kernel_rfl) rfl #[.agg #[.int .u64 t434, .int .u64 t435, .int .i64 t436]] (by rfl) rfl rfl xM ?_
      with_reducible refine (prefix_First.calls t434 t435 t436 t443 t444 _ A50.out).mono ?_
      rintro e w55 ⟨rfl, hb⟩
      refine ⟨_, rfl, ?_⟩
      have n0_ := xP BK427.out hb
      have n1_ := xP BK433.out hb
      have n2_ := xP BK441.out hb
      have n3_ := xP BK442.out hb
      have n4_ := Aside0.mk (below_step xG hb)
      clear BK427
      clear BK433
      clear BK441
      clear BK442
      clear HB
      have BK427 := n0_
      have BK433 := n1_
      have BK441 := n2_
      have BK442 := n3_
      have HB := n4_
      clear n0_ n1_ n2_ n3_ n4_
      (try clear hb)
      (try clear hb2)
      (try clear hk)
      (try clear hi)
      refine hK.out _ _ ⟨(blk_cell BK441.out 0).trans rfl, (blk_cell BK441.out 1).trans rfl, (blk_cell BK441.out 2).trans rfl, (blk_cell BK433.out 0).trans rfl, (blk_cell BK433.out 1).trans rfl, (blk_cell BK433.out 2).trans rfl⟩ (fun hHeld => ?_)
      clear hK K
      refine norm_ (a' := ?_) ?_ ?_
      rotate_left
      ·show Act.put _ (some 57) _ = _
       simp only [Act.put, List.setIfInBounds_toArray, List.set_cons_zero, List.set_cons_succ, i64_w, i32_w]
       rfl
      refine one_ (i := 6) (N := some 59) #[true, true, true, true, true, true, true, false, false, false, false, false, false, false, false, false, false, false] rfl rfl (one_of HT_.out (by kernel_rfl)) (by decide) (fun K hK => ?_)
      refine goes_ Tryd.func20 (by kernel_rfl) rfl #[.agg #[.int .u64 t430, .int .u64 t431, .int .i64 t432]] (by rfl) rfl rfl xM ?_
      with_reducible refine (prefix_First.calls t430 t431 t432 t445 t446 _ A51.out).mono ?_
      rintro e w56 ⟨rfl, hb⟩
      refine ⟨_, rfl, ?_⟩
      have n0_ := xP BK427.out hb
      have n1_ := xP BK433.out hb
      have n2_ := xP BK441.out hb
      have n3_ := xP BK442.out hb
      have n4_ := Aside0.mk (below_step xG hb)
      clear BK427
      clear BK433
      clear BK441
      clear BK442
      clear HB
      have BK427 := n0_
      have BK433 := n1_
      have BK441 := n2_
      have BK442 := n3_
      have HB := n4_
      clear n0_ n1_ n2_ n3_ n4_
      (try clear hb)
      (try clear hb2)
      (try clear hk)
      (try clear hi)
      refine hK.out _ _ ⟨(blk_cell BK441.out 0).trans rfl, (blk_cell BK441.out 1).trans rfl, (blk_cell BK441.out 2).trans rfl, (blk_cell BK433.out 0).trans rfl, (blk_cell BK433.out 1).trans rfl, (blk_cell BK433.out 2).trans rfl⟩ (fun hHeld => ?_)
      clear hK K
      refine norm_ (a' := ?_) ?_ ?_
      rotate_left
      ·show Act.put _ (some 59) _ = _
       simp only [Act.put, List.setIfInBounds_toArray, List.set_cons_zero, List.set_cons_succ, i64_w, i32_w]
       rfl
      refine pure_ (i := 7) (N := some 60) (v := ?_) (a' := ?_) #[true, true, true, true, true, true, true, true, false, false, false, false, false, false, false, false, false, false] rfl rfl (any_of HT_.out (by kernel_rfl)) (fun _ _ _ h => h) (Or.inl ⟨by rfl, ?_⟩) ?_ ?_
      rotate_left
      ·intro w'
       go_simp
       with_reducible rfl
      rotate_left
      ·simp only [Act.put, List.setIfInBounds_toArray, List.set_cons_zero, List.set_cons_succ, i64_w, i32_w]
       rfl
      refine pure_ (i := 8) (N := some 61) (v := ?_) (a' := ?_) #[true, true, true, true, true, true, true, true, true, false, false, false, false, false, false, false, false, false] rfl rfl (any_of HT_.out (by kernel_rfl)) (fun _ _ _ h => h) (Or.inl ⟨by rfl, ?_⟩) ?_ ?_
      rotate_left
      ·intro w'
       go_simp
       with_reducible rfl
      rotate_left
      ·simp only [Act.put, List.setIfInBounds_toArray, List.set_cons_zero, List.set_cons_succ, i64_w, i32_w]
       rfl
      refine pure_ (i := 9) (N := some 62) (v := ?_) (a' := ?_) #[true, true, true, true, true, true, true, true, true, true, false, false, false, false, false, false, false, false] rfl rfl (any_of HT_.out (by kernel_rfl)) (fun _ _ _ h => h) (Or.inl ⟨by rfl, ?_⟩) ?_ ?_
      rotate_left
      ·intro w'
       go_simp
       with_reducible rfl
      rotate_left
      ·simp only [Act.put, List.setIfInBounds_toArray, List.set_cons_zero, List.set_cons_succ, i64_w, i32_w]
       rfl
      refine pure_ (i := 10) (N := some 63) (v := undef) (a' := ?_) #[true, true, true, true, true, true, true, true, true, true, true, false, false, false, false, false, false, false] rfl rfl (any_of HT_.out (by kernel_rfl)) (fun _ _ _ h => h) (Or.inr ⟨by rfl, rfl⟩) ?_ ?_
      rotate_left
      ·simp only [Act.put, List.setIfInBounds_toArray, List.set_cons_zero, List.set_cons_succ, i64_w, i32_w]
       rfl
      refine pure_ (i := 11) (N := some 64) (v := undef) (a' := ?_) #[true, true, true, true, true, true, true, true, true, true, true, true, false, false, false, false, false, false] rfl rfl (any_of HT_.out (by kernel_rfl)) (fun _ _ _ h => h) (Or.inr ⟨by rfl, rfl⟩) ?_ ?_
      rotate_left
      ·simp only [Act.put, List.setIfInBounds_toArray, List.set_cons_zero, List.set_cons_succ, i64_w, i32_w]
       rfl
      refine pure_ (i := 12) (N := some 65) (v := undef) (a' := ?_) #[true, true, true, true, true, true, true, true, true, true, true, true, true, false, false, false, false, false] rfl rfl (any_of HT_.out (by kernel_rfl)) (fun _ _ _ h => h) (Or.inr ⟨by rfl, rfl⟩) ?_ ?_
      rotate_left
      ·simp only [Act.put, List.setIfInBounds_toArray, List.set_cons_zero, List.set_cons_succ, i64_w, i32_w]
       rfl
      refine pure_ (i := 13) (N := some 66) (v := undef) (a' := ?_) #[true, true, true, true, true, true, true, true, true, true, true, true, true, true, false, false, false, false] rfl rfl (any_of HT_.out (by kernel_rfl)) (fun _ _ _ h => h) (Or.inr ⟨by rfl, rfl⟩) ?_ ?_
      rotate_left
      ·simp only [Act.put, List.setIfInBounds_toArray, List.set_cons_zero, List.set_cons_succ, i64_w, i32_w]
       rfl
      refine pure_ (i := 14) (N := some 67) (v := undef) (a' := ?_) #[true, true, true, true, true, true, true, true, true, true, true, true, true, true, true, false, false, false] rfl rfl (any_of HT_.out (by kernel_rfl)) (fun _ _ _ h => h) (Or.inr ⟨by rfl, rfl⟩) ?_ ?_
      rotate_left
      ·simp only [Act.put, List.setIfInBounds_toArray, List.set_cons_zero, List.set_cons_succ, i64_w, i32_w]
       rfl
      refine pure_ (i := 15) (N := some 68) (v := undef) (a' := ?_) #[true, true, true, true, true, true, true, true, true, true, true, true, true, true, true, true, false, false] rfl rfl (any_of HT_.out (by kernel_rfl)) (fun _ _ _ h => h) (Or.inr ⟨by rfl, rfl⟩) ?_ ?_
      rotate_left
      ·simp only [Act.put, List.setIfInBounds_toArray, List.set_cons_zero, List.set_cons_succ, i64_w, i32_w]
       rfl
      refine pure_ (i := 16) (N := some 69) (v := undef) (a' := ?_) #[true, true, true, true, true, true, true, true, true, true, true, true, true, true, true, true, true, false] rfl rfl (any_of HT_.out (by kernel_rfl)) (fun _ _ _ h => h) (Or.inr ⟨by rfl, rfl⟩) ?_ ?_
      rotate_left
      ·simp only [Act.put, List.setIfInBounds_toArray, List.set_cons_zero, List.set_cons_succ, i64_w, i32_w]
       rfl
      refine pure_ (i := 17) (N := some 70) (v := ?_) (a' := ?_) #[true, true, true, true, true, true, true, true, true, true, true, true, true, true, true, true, true, true] rfl rfl (any_of HT_.out (by kernel_rfl)) (fun _ _ _ h => h) (Or.inl ⟨by rfl, ?_⟩) ?_ ?_
      rotate_left
      ·intro w'
       go_simp
       with_reducible rfl
      rotate_left
      ·simp only [Act.put, List.setIfInBounds_toArray, List.set_cons_zero, List.set_cons_succ, i64_w, i32_w]
       rfl
      refine done_ (done_of HT_.out (by kernel_rfl)) ?_
      try go_wp2
      go_meet
      case rel => exact ⟨_, (true), xV, H', ⟨by first | omega | exact Nat.le_refl _⟩, ⟨xK BK427.out⟩, ⟨xK BK433.out⟩, ⟨xK BK441.out⟩, ⟨xK BK442.out⟩, ⟨xG⟩⟩
     ·rw [if_neg c52] at H
      have c52b0 : (!(t443 == t445) || (!(t444 == t446))) = false := by simpa using c52
      clear c52
      (first | rw [c52b0] | (simp only [i64_w, i32_w]; rw [c52b0]) | skip)
      replace H := Option.bind_eq_some_iff.mp H
      obtain ⟨⟨t447, t448⟩, A570, H⟩ := H
      replace H : ((prefix_Last.f t429 t430 t431 t432).bind fun bt449 => (turnpikelaw3_PrefixHalves.j0 k t429 (!(t447 == bt449.1) || (!(t448 == bt449.2))) t430 t431 t432 t434 t435 t436 t437 t438 t439)) = some r := H
      have A57 := Aside0.mk A570
      clear A570
      replace H := Option.bind_eq_some_iff.mp H
      obtain ⟨⟨t449, t450⟩, A580, H⟩ := H
      replace H : (turnpikelaw3_PrefixHalves.j0 k t429 (!(t447 == t449) || (!(t448 == t450))) t430 t431 t432 t434 t435 t436 t437 t438 t439) = some r := H
      have A58 := Aside0.mk A580
      clear A580
      have H' := Aside0.mk H
      clear H
      try go_wp2
      have n0_ : Aside0 (((((((w40.setCell ⟨gb441, 0, none⟩ (.int .u64 t434)).setCell ⟨gb441, 1, none⟩ (.int .u64 t435)).setCell ⟨gb441, 2, none⟩ (.int .i64 t436)).setCell ⟨gb442, 0, none⟩ (.int .u64 t437)).setCell ⟨gb442, 1, none⟩ (.int .u64 t438)).setCell ⟨gb442, 2, none⟩ (.int .i64 t439)).heap[gb427]? = some (.cells #[.int .u64 a1_0, .int .u64 a1_1] 24 (0, 0))) := ⟨by (with_reducible repeat (first | refine blk_drewN ?_ _ | refine blk_drew ?_ | refine blk_alloc ?_ _)); refine blk_far ?_ NB427_442.out _; (with_reducible repeat (first | refine blk_drewN ?_ _ | refine blk_drew ?_ | refine blk_alloc ?_ _)); refine blk_far ?_ NB427_442.out _; (with_reducible repeat (first | refine blk_drewN ?_ _ | refine blk_drew ?_ | refine blk_alloc ?_ _)); refine blk_far ?_ NB427_442.out _; (with_reducible repeat (first | refine blk_drewN ?_ _ | refine blk_drew ?_ | refine blk_alloc ?_ _)); refine blk_far ?_ NB427_441.out _; (with_reducible repeat (first | refine blk_drewN ?_ _ | refine blk_drew ?_ | refine blk_alloc ?_ _)); refine blk_far ?_ NB427_441.out _; (with_reducible repeat (first | refine blk_drewN ?_ _ | refine blk_drew ?_ | refine blk_alloc ?_ _)); refine blk_far ?_ NB427_441.out _; (with_reducible repeat (first | refine blk_drewN ?_ _ | refine blk_drew ?_ | refine blk_alloc ?_ _)); exact BK427.out⟩
      have n1_ : Aside0 (((((((w40.setCell ⟨gb441, 0, none⟩ (.int .u64 t434)).setCell ⟨gb441, 1, none⟩ (.int .u64 t435)).setCell ⟨gb441, 2, none⟩ (.int .i64 t436)).setCell ⟨gb442, 0, none⟩ (.int .u64 t437)).setCell ⟨gb442, 1, none⟩ (.int .u64 t438)).setCell ⟨gb442, 2, none⟩ (.int .i64 t439)).heap[gb433]? = some (.cells #[.int .u64 t430, .int .u64 t431, .int .i64 t432] 28 (0, 0))) := ⟨by (with_reducible repeat (first | refine blk_drewN ?_ _ | refine blk_drew ?_ | refine blk_alloc ?_ _)); refine blk_far ?_ NB433_442.out _; (with_reducible repeat (first | refine blk_drewN ?_ _ | refine blk_drew ?_ | refine blk_alloc ?_ _)); refine blk_far ?_ NB433_442.out _; (with_reducible repeat (first | refine blk_drewN ?_ _ | refine blk_drew ?_ | refine blk_alloc ?_ _)); refine blk_far ?_ NB433_442.out _; (with_reducible repeat (first | refine blk_drewN ?_ _ | refine blk_drew ?_ | refine blk_alloc ?_ _)); refine blk_far ?_ NB433_441.out _; (with_reducible repeat (first | refine blk_drewN ?_ _ | refine blk_drew ?_ | refine blk_alloc ?_ _)); refine blk_far ?_ NB433_441.out _; (with_reducible repeat (first | refine blk_drewN ?_ _ | refine blk_drew ?_ | refine blk_alloc ?_ _)); refine blk_far ?_ NB433_441.out _; (with_reducible repeat (first | refine blk_drewN ?_ _ | refine blk_drew ?_ | refine blk_alloc ?_ _)); exact BK433.out⟩
      have n2_ : Aside0 (((((((w40.setCell ⟨gb441, 0, none⟩ (.int .u64 t434)).setCell ⟨gb441, 1, none⟩ (.int .u64 t435)).setCell ⟨gb441, 2, none⟩ (.int .i64 t436)).setCell ⟨gb442, 0, none⟩ (.int .u64 t437)).setCell ⟨gb442, 1, none⟩ (.int .u64 t438)).setCell ⟨gb442, 2, none⟩ (.int .i64 t439)).heap[gb441]? = some (.cells #[.int .u64 t434, .int .u64 t435, .int .i64 t436] 28 (0, 0))) := ⟨by (with_reducible repeat (first | refine blk_drewN ?_ _ | refine blk_drew ?_ | refine blk_alloc ?_ _)); refine blk_far ?_ NB441_442.out _; (with_reducible repeat (first | refine blk_drewN ?_ _ | refine blk_drew ?_ | refine blk_alloc ?_ _)); refine blk_far ?_ NB441_442.out _; (with_reducible repeat (first | refine blk_drewN ?_ _ | refine blk_drew ?_ | refine blk_alloc ?_ _)); refine blk_far ?_ NB441_442.out _; (with_reducible repeat (first | refine blk_drewN ?_ _ | refine blk_drew ?_ | refine blk_alloc ?_ _)); refine blk_put (cs := #[.int .u64 t434, .int .u64 t435, .int .i64 0]) ?_ 2 _ rfl; (with_reducible repeat (first | refine blk_drewN ?_ _ | refine blk_drew ?_ | refine blk_alloc ?_ _)); refine blk_put (cs := #[.int .u64 t434, .int .u64 0, .int .i64 0]) ?_ 1 _ rfl; (with_reducible repeat (first | refine blk_drewN ?_ _ | refine blk_drew ?_ | refine blk_alloc ?_ _)); refine blk_put (cs := #[.int .u64 0, .int .u64 0, .int .i64 0]) ?_ 0 _ rfl; (with_reducible repeat (first | refine blk_drewN ?_ _ | refine blk_drew ?_ | refine blk_alloc ?_ _)); exact BK441.out⟩
      have n3_ : Aside0 (((((((w40.setCell ⟨gb441, 0, none⟩ (.int .u64 t434)).setCell ⟨gb441, 1, none⟩ (.int .u64 t435)).setCell ⟨gb441, 2, none⟩ (.int .i64 t436)).setCell ⟨gb442, 0, none⟩ (.int .u64 t437)).setCell ⟨gb442, 1, none⟩ (.int .u64 t438)).setCell ⟨gb442, 2, none⟩ (.int .i64 t439)).heap[gb442]? = some (.cells #[.int .u64 t437, .int .u64 t438, .int .i64 t439] 28 (0, 0))) := ⟨by (with_reducible repeat (first | refine blk_drewN ?_ _ | refine blk_drew ?_ | refine blk_alloc ?_ _)); refine blk_put (cs := #[.int .u64 t437, .int .u64 t438, .int .i64 0]) ?_ 2 _ rfl; (with_reducible repeat (first | refine blk_drewN ?_ _ | refine blk_drew ?_ | refine blk_alloc ?_ _)); refine blk_put (cs := #[.int .u64 t437, .int .u64 0, .int .i64 0]) ?_ 1 _ rfl; (with_reducible repeat (first | refine blk_drewN ?_ _ | refine blk_drew ?_ | refine blk_alloc ?_ _)); refine blk_put (cs := #[.int .u64 0, .int .u64 0, .int .i64 0]) ?_ 0 _ rfl; (with_reducible repeat (first | refine blk_drewN ?_ _ | refine blk_drew ?_ | refine blk_alloc ?_ _)); refine blk_far ?_ NB442_441.out _; (with_reducible repeat (first | refine blk_drewN ?_ _ | refine blk_drew ?_ | refine blk_alloc ?_ _)); refine blk_far ?_ NB442_441.out _; (with_reducible repeat (first | refine blk_drewN ?_ _ | refine blk_drew ?_ | refine blk_alloc ?_ _)); refine blk_far ?_ NB442_441.out _; (with_reducible repeat (first | refine blk_drewN ?_ _ | refine blk_drew ?_ | refine blk_alloc ?_ _)); exact BK442.out⟩
      have n4_ : Aside0 (Below w.heap.size w ((((((w40.setCell ⟨gb441, 0, none⟩ (.int .u64 t434)).setCell ⟨gb441, 1, none⟩ (.int .u64 t435)).setCell ⟨gb441, 2, none⟩ (.int .i64 t436)).setCell ⟨gb442, 0, none⟩ (.int .u64 t437)).setCell ⟨gb442, 1, none⟩ (.int .u64 t438)).setCell ⟨gb442, 2, none⟩ (.int .i64 t439))) := ⟨xG⟩
      (try clear BK427)
      (try clear BK433)
      (try clear BK441)
      (try clear BK442)
      (try clear HB)
      generalize ((((((w40.setCell ⟨gb441, 0, none⟩ (.int .u64 t434)).setCell ⟨gb441, 1, none⟩ (.int .u64 t435)).setCell ⟨gb441, 2, none⟩ (.int .i64 t436)).setCell ⟨gb442, 0, none⟩ (.int .u64 t437)).setCell ⟨gb442, 1, none⟩ (.int .u64 t438)).setCell ⟨gb442, 2, none⟩ (.int .i64 t439)) = w59 at n0_ n1_ n2_ n3_ n4_ ⊢
      have BK427 := n0_
      have BK433 := n1_
      have BK441 := n2_
      have BK442 := n3_
      have HB := n4_
      clear n0_ n1_ n2_ n3_ n4_
      have n0_ := Aside0.mk (blk_drew BK427.out)
      have n1_ := Aside0.mk (blk_drew BK433.out)
      have n2_ := Aside0.mk (blk_drew BK441.out)
      have n3_ := Aside0.mk (blk_drew BK442.out)
      have n4_ := Aside0.mk (below_drew1 HB.out)
      clear BK427
      clear BK433
      clear BK441
      clear BK442
      clear HB
      have BK427 := n0_
      have BK433 := n1_
      have BK441 := n2_
      have BK442 := n3_
      have HB := n4_
      clear n0_ n1_ n2_ n3_ n4_
      refine start_ (n := 18) (S := fun w' => w'.cell? ⟨gb441, 0, none⟩ = some (.int .u64 t434) ∧ w'.cell? ⟨gb441, 1, none⟩ = some (.int .u64 t435) ∧ w'.cell? ⟨gb441, 2, none⟩ = some (.int .i64 t436) ∧ w'.cell? ⟨gb433, 0, none⟩ = some (.int .u64 t430) ∧ w'.cell? ⟨gb433, 1, none⟩ = some (.int .u64 t431) ∧ w'.cell? ⟨gb433, 2, none⟩ = some (.int .i64 t432) ∧ w'.cell? ⟨gb442, 0, none⟩ = some (.int .u64 t437) ∧ w'.cell? ⟨gb442, 1, none⟩ = some (.int .u64 t438) ∧ w'.cell? ⟨gb442, 2, none⟩ = some (.int .i64 t439)) (ds := []) #[false, false, false, false, false, false, false, false, false, false, false, false, false, false, false, false, false, false] (by kernel_rfl) rfl rfl ⟨(blk_cell BK441.out 0).trans rfl, (blk_cell BK441.out 1).trans rfl, (blk_cell BK441.out 2).trans rfl, (blk_cell BK433.out 0).trans rfl, (blk_cell BK433.out 1).trans rfl, (blk_cell BK433.out 2).trans rfl, (blk_cell BK442.out 0).trans rfl, (blk_cell BK442.out 1).trans rfl, (blk_cell BK442.out 2).trans rfl⟩ (fun hHeld => ?_); refine with_tabW turnpikelaw3_PrefixHalves.tab8 turnpikelaw3_PrefixHalves.bits8 (fun HT_ HW_ => ?_)
      generalize w59.drew = w60 at BK427 BK433 BK441 BK442 HB hHeld ⊢
      refine pure_ (i := 0) (N := some 53) (v := ?_) (a' := ?_) #[true, false, false, false, false, false, false, false, false, false, false, false, false, false, false, false, false, false] rfl rfl (any_of HT_.out (by kernel_rfl)) (fun _ _ _ h => h) (Or.inl ⟨by rfl, ?_⟩) ?_ ?_
      rotate_left
      ·intro w'
       go_simp
       with_reducible rfl
      rotate_left
      ·simp only [Act.put, List.setIfInBounds_toArray, List.set_cons_zero, List.set_cons_succ, i64_w, i32_w]
       rfl
      refine pure_ (i := 1) (N := some 54) (v := ?_) (a' := ?_) #[true, true, false, false, false, false, false, false, false, false, false, false, false, false, false, false, false, false] rfl rfl (any_of HT_.out (by kernel_rfl)) (fun _ _ _ h => h) (Or.inl ⟨by rfl, ?_⟩) ?_ ?_
      rotate_left
      ·intro w'
       go_simp
       with_reducible rfl
      rotate_left
      ·simp only [Act.put, List.setIfInBounds_toArray, List.set_cons_zero, List.set_cons_succ, i64_w, i32_w]
       rfl
      refine pure_ (i := 2) (N := some 55) (v := ?_) (a' := ?_) #[true, true, true, false, false, false, false, false, false, false, false, false, false, false, false, false, false, false] rfl rfl (any_of HT_.out (by kernel_rfl)) (fun _ _ _ h => h) (Or.inl ⟨by rfl, ?_⟩) ?_ ?_
      rotate_left
      ·intro w'
       go_simp
       with_reducible rfl
      rotate_left
      ·simp only [Act.put, List.setIfInBounds_toArray, List.set_cons_zero, List.set_cons_succ, i64_w, i32_w]
       rfl
      refine take_ (i := 3) (N := some 56) (v := ?_) (a' := ?_) #[true, true, true, true, false, false, false, false, false, false, false, false, false, false, false, false, false, false] rfl rfl (take_ofW HT_.out HW_.out (by kernel_rfl)) (fun _ _ _ h => h) (Or.inl ⟨by rfl, ?_⟩) hHeld ?_ ?_
      rotate_left
      ·rintro w' ⟨s0, s1, s2, s3, s4, s5, s6, s7, s8⟩
       go_simp
       with_reducible rfl
      rotate_left
      ·simp only [Act.put, List.setIfInBounds_toArray, List.set_cons_zero, List.set_cons_succ, i64_w, i32_w]
       rfl
      refine take_ (i := 5) (N := some 58) (v := ?_) (a' := ?_) #[true, true, true, true, false, true, false, false, false, false, false, false, false, false, false, false, false, false] rfl rfl (take_ofW HT_.out HW_.out (by kernel_rfl)) (fun _ _ _ h => h) (Or.inl ⟨by rfl, ?_⟩) hHeld ?_ ?_
      rotate_left
      ·rintro w' ⟨s0, s1, s2, s3, s4, s5, s6, s7, s8⟩
       go_simp
       with_reducible rfl
      rotate_left
      ·simp only [Act.put, List.setIfInBounds_toArray, List.set_cons_zero, List.set_cons_succ, i64_w, i32_w]
       rfl
      refine one_ (i := 4) (N := some 57) #[true, true, true, true, true, true, false, false, false, false, false, false, false, false, false, false, false, false] rfl rfl (one_of HT_.out (by kernel_rfl)) (by decide) (fun K hK => ?_)
      refine goes_ Tryd.func20 (by kernel_rfl) rfl #[.agg #[.int .u64 t434, .int .u64 t435, .int .i64 t436]] (by rfl) rfl rfl xM ?_
      with_reducible refine (prefix_First.calls t434 t435 t436 t443 t444 _ A50.out).mono ?_
      rintro e w61 ⟨rfl, hb⟩
      refine ⟨_, rfl, ?_⟩
      have n0_ := xP BK427.out hb
      have n1_ := xP BK433.out hb
      have n2_ := xP BK441.out hb
      have n3_ := xP BK442.out hb
      have n4_ := Aside0.mk (below_step xG hb)
      clear BK427
      clear BK433
      clear BK441
      clear BK442
      clear HB
      have BK427 := n0_
      have BK433 := n1_
      have BK441 := n2_
      have BK442 := n3_
      have HB := n4_
      clear n0_ n1_ n2_ n3_ n4_
      (try clear hb)
      (try clear hb2)
      (try clear hk)
      (try clear hi)
      refine hK.out _ _ ⟨(blk_cell BK441.out 0).trans rfl, (blk_cell BK441.out 1).trans rfl, (blk_cell BK441.out 2).trans rfl, (blk_cell BK433.out 0).trans rfl, (blk_cell BK433.out 1).trans rfl, (blk_cell BK433.out 2).trans rfl, (blk_cell BK442.out 0).trans rfl, (blk_cell BK442.out 1).trans rfl, (blk_cell BK442.out 2).trans rfl⟩ (fun hHeld => ?_)
      clear hK K
      refine norm_ (a' := ?_) ?_ ?_
      rotate_left
      ·show Act.put _ (some 57) _ = _
       simp only [Act.put, List.setIfInBounds_toArray, List.set_cons_zero, List.set_cons_succ, i64_w, i32_w]
       rfl
      refine one_ (i := 6) (N := some 59) #[true, true, true, true, true, true, true, false, false, false, false, false, false, false, false, false, false, false] rfl rfl (one_of HT_.out (by kernel_rfl)) (by decide) (fun K hK => ?_)
      refine goes_ Tryd.func20 (by kernel_rfl) rfl #[.agg #[.int .u64 t430, .int .u64 t431, .int .i64 t432]] (by rfl) rfl rfl xM ?_
      with_reducible refine (prefix_First.calls t430 t431 t432 t445 t446 _ A51.out).mono ?_
      rintro e w62 ⟨rfl, hb⟩
      refine ⟨_, rfl, ?_⟩
      have n0_ := xP BK427.out hb
      have n1_ := xP BK433.out hb
      have n2_ := xP BK441.out hb
      have n3_ := xP BK442.out hb
      have n4_ := Aside0.mk (below_step xG hb)
      clear BK427
      clear BK433
      clear BK441
      clear BK442
      clear HB
      have BK427 := n0_
      have BK433 := n1_
      have BK441 := n2_
      have BK442 := n3_
      have HB := n4_
      clear n0_ n1_ n2_ n3_ n4_
      (try clear hb)
      (try clear hb2)
      (try clear hk)
      (try clear hi)
      refine hK.out _ _ ⟨(blk_cell BK441.out 0).trans rfl, (blk_cell BK441.out 1).trans rfl, (blk_cell BK441.out 2).trans rfl, (blk_cell BK433.out 0).trans rfl, (blk_cell BK433.out 1).trans rfl, (blk_cell BK433.out 2).trans rfl, (blk_cell BK442.out 0).trans rfl, (blk_cell BK442.out 1).trans rfl, (blk_cell BK442.out 2).trans rfl⟩ (fun hHeld => ?_)
      clear hK K
      refine norm_ (a' := ?_) ?_ ?_
      rotate_left
      ·show Act.put _ (some 59) _ = _
       simp only [Act.put, List.setIfInBounds_toArray, List.set_cons_zero, List.set_cons_succ, i64_w, i32_w]
       rfl
      refine pure_ (i := 7) (N := some 60) (v := ?_) (a' := ?_) #[true, true, true, true, true, true, true, true, false, false, false, false, false, false, false, false, false, false] rfl rfl (any_of HT_.out (by kernel_rfl)) (fun _ _ _ h => h) (Or.inl ⟨by rfl, ?_⟩) ?_ ?_
      rotate_left
      ·intro w'
       go_simp
       with_reducible rfl
      rotate_left
      ·simp only [Act.put, List.setIfInBounds_toArray, List.set_cons_zero, List.set_cons_succ, i64_w, i32_w]
       rfl
      refine pure_ (i := 8) (N := some 61) (v := ?_) (a' := ?_) #[true, true, true, true, true, true, true, true, true, false, false, false, false, false, false, false, false, false] rfl rfl (any_of HT_.out (by kernel_rfl)) (fun _ _ _ h => h) (Or.inl ⟨by rfl, ?_⟩) ?_ ?_
      rotate_left
      ·intro w'
       go_simp
       with_reducible rfl
      rotate_left
      ·simp only [Act.put, List.setIfInBounds_toArray, List.set_cons_zero, List.set_cons_succ, i64_w, i32_w]
       rfl
      refine pure_ (i := 9) (N := some 62) (v := ?_) (a' := ?_) #[true, true, true, true, true, true, true, true, true, true, false, false, false, false, false, false, false, false] rfl rfl (any_of HT_.out (by kernel_rfl)) (fun _ _ _ h => h) (Or.inl ⟨by rfl, ?_⟩) ?_ ?_
      rotate_left
      ·intro w'
       go_simp
       with_reducible rfl
      rotate_left
      ·simp only [Act.put, List.setIfInBounds_toArray, List.set_cons_zero, List.set_cons_succ, i64_w, i32_w]
       rfl
      refine pure_ (i := 10) (N := some 63) (v := ?_) (a' := ?_) #[true, true, true, true, true, true, true, true, true, true, true, false, false, false, false, false, false, false] rfl rfl (any_of HT_.out (by kernel_rfl)) (fun _ _ _ h => h) (Or.inl ⟨by rfl, ?_⟩) ?_ ?_
      rotate_left
      ·intro w'
       go_simp
       with_reducible rfl
      rotate_left
      ·simp only [Act.put, List.setIfInBounds_toArray, List.set_cons_zero, List.set_cons_succ, i64_w, i32_w]
       rfl
      refine pure_ (i := 13) (N := some 66) (v := ?_) (a' := ?_) #[true, true, true, true, true, true, true, true, true, true, true, false, false, true, false, false, false, false] rfl rfl (any_of HT_.out (by kernel_rfl)) (fun _ _ _ h => h) (Or.inl ⟨by rfl, ?_⟩) ?_ ?_
      rotate_left
      ·intro w'
       go_simp
       with_reducible rfl
      rotate_left
      ·simp only [Act.put, List.setIfInBounds_toArray, List.set_cons_zero, List.set_cons_succ, i64_w, i32_w]
       rfl
      refine take_ (i := 11) (N := some 64) (v := ?_) (a' := ?_) #[true, true, true, true, true, true, true, true, true, true, true, true, false, true, false, false, false, false] rfl rfl (take_ofW HT_.out HW_.out (by kernel_rfl)) (fun _ _ _ h => h) (Or.inl ⟨by rfl, ?_⟩) hHeld ?_ ?_
      rotate_left
      ·rintro w' ⟨s0, s1, s2, s3, s4, s5, s6, s7, s8⟩
       go_simp
       with_reducible rfl
      rotate_left
      ·simp only [Act.put, List.setIfInBounds_toArray, List.set_cons_zero, List.set_cons_succ, i64_w, i32_w]
       rfl
      refine take_ (i := 14) (N := some 67) (v := ?_) (a' := ?_) #[true, true, true, true, true, true, true, true, true, true, true, true, false, true, true, false, false, false] rfl rfl (take_ofW HT_.out HW_.out (by kernel_rfl)) (fun _ _ _ h => h) (Or.inl ⟨by rfl, ?_⟩) hHeld ?_ ?_
      rotate_left
      ·rintro w' ⟨s0, s1, s2, s3, s4, s5, s6, s7, s8⟩
       go_simp
       with_reducible rfl
      rotate_left
      ·simp only [Act.put, List.setIfInBounds_toArray, List.set_cons_zero, List.set_cons_succ, i64_w, i32_w]
       rfl
      refine one_ (i := 12) (N := some 65) #[true, true, true, true, true, true, true, true, true, true, true, true, true, true, true, false, false, false] rfl rfl (one_of HT_.out (by kernel_rfl)) (by decide) (fun K hK => ?_)
      refine goes_ Tryd.func21 (by kernel_rfl) rfl #[.int .i64 t429, .agg #[.int .u64 t437, .int .u64 t438, .int .i64 t439]] (by rfl) rfl rfl xM ?_
      with_reducible refine (prefix_Last.calls t429 t437 t438 t439 t447 t448 _ A57.out).mono ?_
      rintro e w63 ⟨rfl, hb⟩
      refine ⟨_, rfl, ?_⟩
      have n0_ := xP BK427.out hb
      have n1_ := xP BK433.out hb
      have n2_ := xP BK441.out hb
      have n3_ := xP BK442.out hb
      have n4_ := Aside0.mk (below_step xG hb)
      clear BK427
      clear BK433
      clear BK441
      clear BK442
      clear HB
      have BK427 := n0_
      have BK433 := n1_
      have BK441 := n2_
      have BK442 := n3_
      have HB := n4_
      clear n0_ n1_ n2_ n3_ n4_
      (try clear hb)
      (try clear hb2)
      (try clear hk)
      (try clear hi)
      refine hK.out _ _ ⟨(blk_cell BK441.out 0).trans rfl, (blk_cell BK441.out 1).trans rfl, (blk_cell BK441.out 2).trans rfl, (blk_cell BK433.out 0).trans rfl, (blk_cell BK433.out 1).trans rfl, (blk_cell BK433.out 2).trans rfl, (blk_cell BK442.out 0).trans rfl, (blk_cell BK442.out 1).trans rfl, (blk_cell BK442.out 2).trans rfl⟩ (fun hHeld => ?_)
      clear hK K
      refine norm_ (a' := ?_) ?_ ?_
      rotate_left
      ·show Act.put _ (some 65) _ = _
       simp only [Act.put, List.setIfInBounds_toArray, List.set_cons_zero, List.set_cons_succ, i64_w, i32_w]
       rfl
      refine one_ (i := 15) (N := some 68) #[true, true, true, true, true, true, true, true, true, true, true, true, true, true, true, true, false, false] rfl rfl (one_of HT_.out (by kernel_rfl)) (by decide) (fun K hK => ?_)
      refine goes_ Tryd.func21 (by kernel_rfl) rfl #[.int .i64 t429, .agg #[.int .u64 t430, .int .u64 t431, .int .i64 t432]] (by rfl) rfl rfl xM ?_
      with_reducible refine (prefix_Last.calls t429 t430 t431 t432 t449 t450 _ A58.out).mono ?_
      rintro e w64 ⟨rfl, hb⟩
      refine ⟨_, rfl, ?_⟩
      have n0_ := xP BK427.out hb
      have n1_ := xP BK433.out hb
      have n2_ := xP BK441.out hb
      have n3_ := xP BK442.out hb
      have n4_ := Aside0.mk (below_step xG hb)
      clear BK427
      clear BK433
      clear BK441
      clear BK442
      clear HB
      have BK427 := n0_
      have BK433 := n1_
      have BK441 := n2_
      have BK442 := n3_
      have HB := n4_
      clear n0_ n1_ n2_ n3_ n4_
      (try clear hb)
      (try clear hb2)
      (try clear hk)
      (try clear hi)
      refine hK.out _ _ ⟨(blk_cell BK441.out 0).trans rfl, (blk_cell BK441.out 1).trans rfl, (blk_cell BK441.out 2).trans rfl, (blk_cell BK433.out 0).trans rfl, (blk_cell BK433.out 1).trans rfl, (blk_cell BK433.out 2).trans rfl, (blk_cell BK442.out 0).trans rfl, (blk_cell BK442.out 1).trans rfl, (blk_cell BK442.out 2).trans rfl⟩ (fun hHeld => ?_)
      clear hK K
      refine norm_ (a' := ?_) ?_ ?_
      rotate_left
      ·show Act.put _ (some 68) _ = _
       simp only [Act.put, List.setIfInBounds_toArray, List.set_cons_zero, List.set_cons_succ, i64_w, i32_w]
       rfl
      refine pure_ (i := 16) (N := some 69) (v := ?_) (a' := ?_) #[true, true, true, true, true, true, true, true, true, true, true, true, true, true, true, true, true, false] rfl rfl (any_of HT_.out (by kernel_rfl)) (fun _ _ _ h => h) (Or.inl ⟨by rfl, ?_⟩) ?_ ?_
      rotate_left
      ·intro w'
       go_simp
       with_reducible rfl
      rotate_left
      ·simp only [Act.put, List.setIfInBounds_toArray, List.set_cons_zero, List.set_cons_succ, i64_w, i32_w]
       rfl
      refine pure_ (i := 17) (N := some 70) (v := ?_) (a' := ?_) #[true, true, true, true, true, true, true, true, true, true, true, true, true, true, true, true, true, true] rfl rfl (any_of HT_.out (by kernel_rfl)) (fun _ _ _ h => h) (Or.inl ⟨by rfl, ?_⟩) ?_ ?_
      rotate_left
      ·intro w'
       go_simp
       with_reducible rfl
      rotate_left
      ·simp only [Act.put, List.setIfInBounds_toArray, List.set_cons_zero, List.set_cons_succ, i64_w, i32_w]
       rfl
      refine done_ (done_of HT_.out (by kernel_rfl)) ?_
      try go_wp2
      go_meet
      case rel => exact ⟨_, ((!(t447 == t449) || (!(t448 == t450)))), xV, H', ⟨by first | omega | exact Nat.le_refl _⟩, ⟨xK BK427.out⟩, ⟨xK BK433.out⟩, ⟨xK BK441.out⟩, ⟨xK BK442.out⟩, ⟨xG⟩⟩
    ·replace c49 := Bool.eq_false_iff.mpr c49
     subst c49
     have H1 : (turnpikelaw3_PrefixHalves.j0 k t429 true t430 t431 t432 t434 t435 t436 t437 t438 t439) = some r := by rw [if_neg (show ¬ (false = true) by decide)] at H; exact H
     clear H
     have H := H1
     clear H1
     have H' := Aside0.mk H
     clear H
     try go_wp2
     have n0_ : Aside0 (((((((w40.setCell ⟨gb441, 0, none⟩ (.int .u64 t434)).setCell ⟨gb441, 1, none⟩ (.int .u64 t435)).setCell ⟨gb441, 2, none⟩ (.int .i64 t436)).setCell ⟨gb442, 0, none⟩ (.int .u64 t437)).setCell ⟨gb442, 1, none⟩ (.int .u64 t438)).setCell ⟨gb442, 2, none⟩ (.int .i64 t439)).heap[gb427]? = some (.cells #[.int .u64 a1_0, .int .u64 a1_1] 24 (0, 0))) := ⟨by (with_reducible repeat (first | refine blk_drewN ?_ _ | refine blk_drew ?_ | refine blk_alloc ?_ _)); refine blk_far ?_ NB427_442.out _; (with_reducible repeat (first | refine blk_drewN ?_ _ | refine blk_drew ?_ | refine blk_alloc ?_ _)); refine blk_far ?_ NB427_442.out _; (with_reducible repeat (first | refine blk_drewN ?_ _ | refine blk_drew ?_ | refine blk_alloc ?_ _)); refine blk_far ?_ NB427_442.out _; (with_reducible repeat (first | refine blk_drewN ?_ _ | refine blk_drew ?_ | refine blk_alloc ?_ _)); refine blk_far ?_ NB427_441.out _; (with_reducible repeat (first | refine blk_drewN ?_ _ | refine blk_drew ?_ | refine blk_alloc ?_ _)); refine blk_far ?_ NB427_441.out _; (with_reducible repeat (first | refine blk_drewN ?_ _ | refine blk_drew ?_ | refine blk_alloc ?_ _)); refine blk_far ?_ NB427_441.out _; (with_reducible repeat (first | refine blk_drewN ?_ _ | refine blk_drew ?_ | refine blk_alloc ?_ _)); exact BK427.out⟩
     have n1_ : Aside0 (((((((w40.setCell ⟨gb441, 0, none⟩ (.int .u64 t434)).setCell ⟨gb441, 1, none⟩ (.int .u64 t435)).setCell ⟨gb441, 2, none⟩ (.int .i64 t436)).setCell ⟨gb442, 0, none⟩ (.int .u64 t437)).setCell ⟨gb442, 1, none⟩ (.int .u64 t438)).setCell ⟨gb442, 2, none⟩ (.int .i64 t439)).heap[gb433]? = some (.cells #[.int .u64 t430, .int .u64 t431, .int .i64 t432] 28 (0, 0))) := ⟨by (with_reducible repeat (first | refine blk_drewN ?_ _ | refine blk_drew ?_ | refine blk_alloc ?_ _)); refine blk_far ?_ NB433_442.out _; (with_reducible repeat (first | refine blk_drewN ?_ _ | refine blk_drew ?_ | refine blk_alloc ?_ _)); refine blk_far ?_ NB433_442.out _; (with_reducible repeat (first | refine blk_drewN ?_ _ | refine blk_drew ?_ | refine blk_alloc ?_ _)); refine blk_far ?_ NB433_442.out _; (with_reducible repeat (first | refine blk_drewN ?_ _ | refine blk_drew ?_ | refine blk_alloc ?_ _)); refine blk_far ?_ NB433_441.out _; (with_reducible repeat (first | refine blk_drewN ?_ _ | refine blk_drew ?_ | refine blk_alloc ?_ _)); refine blk_far ?_ NB433_441.out _; (with_reducible repeat (first | refine blk_drewN ?_ _ | refine blk_drew ?_ | refine blk_alloc ?_ _)); refine blk_far ?_ NB433_441.out _; (with_reducible repeat (first | refine blk_drewN ?_ _ | refine blk_drew ?_ | refine blk_alloc ?_ _)); exact BK433.out⟩
     have n2_ : Aside0 (((((((w40.setCell ⟨gb441, 0, none⟩ (.int .u64 t434)).setCell ⟨gb441, 1, none⟩ (.int .u64 t435)).setCell ⟨gb441, 2, none⟩ (.int .i64 t436)).setCell ⟨gb442, 0, none⟩ (.int .u64 t437)).setCell ⟨gb442, 1, none⟩ (.int .u64 t438)).setCell ⟨gb442, 2, none⟩ (.int .i64 t439)).heap[gb441]? = some (.cells #[.int .u64 t434, .int .u64 t435, .int .i64 t436] 28 (0, 0))) := ⟨by (with_reducible repeat (first | refine blk_drewN ?_ _ | refine blk_drew ?_ | refine blk_alloc ?_ _)); refine blk_far ?_ NB441_442.out _; (with_reducible repeat (first | refine blk_drewN ?_ _ | refine blk_drew ?_ | refine blk_alloc ?_ _)); refine blk_far ?_ NB441_442.out _; (with_reducible repeat (first | refine blk_drewN ?_ _ | refine blk_drew ?_ | refine blk_alloc ?_ _)); refine blk_far ?_ NB441_442.out _; (with_reducible repeat (first | refine blk_drewN ?_ _ | refine blk_drew ?_ | refine blk_alloc ?_ _)); refine blk_put (cs := #[.int .u64 t434, .int .u64 t435, .int .i64 0]) ?_ 2 _ rfl; (with_reducible repeat (first | refine blk_drewN ?_ _ | refine blk_drew ?_ | refine blk_alloc ?_ _)); refine blk_put (cs := #[.int .u64 t434, .int .u64 0, .int .i64 0]) ?_ 1 _ rfl; (with_reducible repeat (first | refine blk_drewN ?_ _ | refine blk_drew ?_ | refine blk_alloc ?_ _)); refine blk_put (cs := #[.int .u64 0, .int .u64 0, .int .i64 0]) ?_ 0 _ rfl; (with_reducible repeat (first | refine blk_drewN ?_ _ | refine blk_drew ?_ | refine blk_alloc ?_ _)); exact BK441.out⟩
     have n3_ : Aside0 (((((((w40.setCell ⟨gb441, 0, none⟩ (.int .u64 t434)).setCell ⟨gb441, 1, none⟩ (.int .u64 t435)).setCell ⟨gb441, 2, none⟩ (.int .i64 t436)).setCell ⟨gb442, 0, none⟩ (.int .u64 t437)).setCell ⟨gb442, 1, none⟩ (.int .u64 t438)).setCell ⟨gb442, 2, none⟩ (.int .i64 t439)).heap[gb442]? = some (.cells #[.int .u64 t437, .int .u64 t438, .int .i64 t439] 28 (0, 0))) := ⟨by (with_reducible repeat (first | refine blk_drewN ?_ _ | refine blk_drew ?_ | refine blk_alloc ?_ _)); refine blk_put (cs := #[.int .u64 t437, .int .u64 t438, .int .i64 0]) ?_ 2 _ rfl; (with_reducible repeat (first | refine blk_drewN ?_ _ | refine blk_drew ?_ | refine blk_alloc ?_ _)); refine blk_put (cs := #[.int .u64 t437, .int .u64 0, .int .i64 0]) ?_ 1 _ rfl; (with_reducible repeat (first | refine blk_drewN ?_ _ | refine blk_drew ?_ | refine blk_alloc ?_ _)); refine blk_put (cs := #[.int .u64 0, .int .u64 0, .int .i64 0]) ?_ 0 _ rfl; (with_reducible repeat (first | refine blk_drewN ?_ _ | refine blk_drew ?_ | refine blk_alloc ?_ _)); refine blk_far ?_ NB442_441.out _; (with_reducible repeat (first | refine blk_drewN ?_ _ | refine blk_drew ?_ | refine blk_alloc ?_ _)); refine blk_far ?_ NB442_441.out _; (with_reducible repeat (first | refine blk_drewN ?_ _ | refine blk_drew ?_ | refine blk_alloc ?_ _)); refine blk_far ?_ NB442_441.out _; (with_reducible repeat (first | refine blk_drewN ?_ _ | refine blk_drew ?_ | refine blk_alloc ?_ _)); exact BK442.out⟩
     have n4_ : Aside0 (Below w.heap.size w ((((((w40.setCell ⟨gb441, 0, none⟩ (.int .u64 t434)).setCell ⟨gb441, 1, none⟩ (.int .u64 t435)).setCell ⟨gb441, 2, none⟩ (.int .i64 t436)).setCell ⟨gb442, 0, none⟩ (.int .u64 t437)).setCell ⟨gb442, 1, none⟩ (.int .u64 t438)).setCell ⟨gb442, 2, none⟩ (.int .i64 t439))) := ⟨xG⟩
     (try clear BK427)
     (try clear BK433)
     (try clear BK441)
     (try clear BK442)
     (try clear HB)
     generalize ((((((w40.setCell ⟨gb441, 0, none⟩ (.int .u64 t434)).setCell ⟨gb441, 1, none⟩ (.int .u64 t435)).setCell ⟨gb441, 2, none⟩ (.int .i64 t436)).setCell ⟨gb442, 0, none⟩ (.int .u64 t437)).setCell ⟨gb442, 1, none⟩ (.int .u64 t438)).setCell ⟨gb442, 2, none⟩ (.int .i64 t439)) = w65 at n0_ n1_ n2_ n3_ n4_ ⊢
     have BK427 := n0_
     have BK433 := n1_
     have BK441 := n2_
     have BK442 := n3_
     have HB := n4_
     clear n0_ n1_ n2_ n3_ n4_
     have n0_ := Aside0.mk (blk_drew BK427.out)
     have n1_ := Aside0.mk (blk_drew BK433.out)
     have n2_ := Aside0.mk (blk_drew BK441.out)
     have n3_ := Aside0.mk (blk_drew BK442.out)
     have n4_ := Aside0.mk (below_drew1 HB.out)
     clear BK427
     clear BK433
     clear BK441
     clear BK442
     clear HB
     have BK427 := n0_
     have BK433 := n1_
     have BK441 := n2_
     have BK442 := n3_
     have HB := n4_
     clear n0_ n1_ n2_ n3_ n4_
     refine start_ (n := 18) (S := fun w' => True) (ds := []) #[false, false, false, false, false, false, false, false, false, false, false, false, false, false, false, false, false, false] (by kernel_rfl) rfl rfl trivial (fun hHeld => ?_); refine with_tabW turnpikelaw3_PrefixHalves.tab8 turnpikelaw3_PrefixHalves.bits8 (fun HT_ HW_ => ?_)
     generalize w65.drew = w66 at BK427 BK433 BK441 BK442 HB hHeld ⊢
     refine pure_ (i := 0) (N := some 53) (v := ?_) (a' := ?_) #[true, false, false, false, false, false, false, false, false, false, false, false, false, false, false, false, false, false] rfl rfl (any_of HT_.out (by kernel_rfl)) (fun _ _ _ h => h) (Or.inl ⟨by rfl, ?_⟩) ?_ ?_
     rotate_left
     ·intro w'
      go_simp
      with_reducible rfl
     rotate_left
     ·simp only [Act.put, List.setIfInBounds_toArray, List.set_cons_zero, List.set_cons_succ, i64_w, i32_w]
      rfl
     refine pure_ (i := 1) (N := some 54) (v := ?_) (a' := ?_) #[true, true, false, false, false, false, false, false, false, false, false, false, false, false, false, false, false, false] rfl rfl (any_of HT_.out (by kernel_rfl)) (fun _ _ _ h => h) (Or.inl ⟨by rfl, ?_⟩) ?_ ?_
     rotate_left
     ·intro w'
      go_simp
      with_reducible rfl
     rotate_left
     ·simp only [Act.put, List.setIfInBounds_toArray, List.set_cons_zero, List.set_cons_succ, i64_w, i32_w]
      rfl
     refine pure_ (i := 2) (N := some 55) (v := ?_) (a' := ?_) #[true, true, true, false, false, false, false, false, false, false, false, false, false, false, false, false, false, false] rfl rfl (any_of HT_.out (by kernel_rfl)) (fun _ _ _ h => h) (Or.inl ⟨by rfl, ?_⟩) ?_ ?_
     rotate_left
     ·intro w'
      go_simp
      with_reducible rfl
     rotate_left
     ·simp only [Act.put, List.setIfInBounds_toArray, List.set_cons_zero, List.set_cons_succ, i64_w, i32_w]
      rfl
     refine pure_ (i := 3) (N := some 56) (v := undef) (a' := ?_) #[true, true, true, true, false, false, false, false, false, false, false, false, false, false, false, false, false, false] rfl rfl (any_of HT_.out (by kernel_rfl)) (fun _ _ _ h => h) (Or.inr ⟨by rfl, rfl⟩) ?_ ?_
     rotate_left
     ·simp only [Act.put, List.setIfInBounds_toArray, List.set_cons_zero, List.set_cons_succ, i64_w, i32_w]
      rfl
     refine pure_ (i := 4) (N := some 57) (v := undef) (a' := ?_) #[true, true, true, true, true, false, false, false, false, false, false, false, false, false, false, false, false, false] rfl rfl (any_of HT_.out (by kernel_rfl)) (fun _ _ _ h => h) (Or.inr ⟨by rfl, rfl⟩) ?_ ?_
     rotate_left
     ·simp only [Act.put, List.setIfInBounds_toArray, List.set_cons_zero, List.set_cons_succ, i64_w, i32_w]
      rfl
     refine pure_ (i := 5) (N := some 58) (v := undef) (a' := ?_) #[true, true, true, true, true, true, false, false, false, false, false, false, false, false, false, false, false, false] rfl rfl (any_of HT_.out (by kernel_rfl)) (fun _ _ _ h => h) (Or.inr ⟨by rfl, rfl⟩) ?_ ?_
     rotate_left
     ·simp only [Act.put, List.setIfInBounds_toArray, List.set_cons_zero, List.set_cons_succ, i64_w, i32_w]
      rfl
     refine pure_ (i := 6) (N := some 59) (v := undef) (a' := ?_) #[true, true, true, true, true, true, true, false, false, false, false, false, false, false, false, false, false, false] rfl rfl (any_of HT_.out (by kernel_rfl)) (fun _ _ _ h => h) (Or.inr ⟨by rfl, rfl⟩) ?_ ?_
     rotate_left
     ·simp only [Act.put, List.setIfInBounds_toArray, List.set_cons_zero, List.set_cons_succ, i64_w, i32_w]
      rfl
     refine pure_ (i := 7) (N := some 60) (v := undef) (a' := ?_) #[true, true, true, true, true, true, true, true, false, false, false, false, false, false, false, false, false, false] rfl rfl (any_of HT_.out (by kernel_rfl)) (fun _ _ _ h => h) (Or.inr ⟨by rfl, rfl⟩) ?_ ?_
     rotate_left
     ·simp only [Act.put, List.setIfInBounds_toArray, List.set_cons_zero, List.set_cons_succ, i64_w, i32_w]
      rfl
     refine pure_ (i := 8) (N := some 61) (v := ?_) (a' := ?_) #[true, true, true, true, true, true, true, true, true, false, false, false, false, false, false, false, false, false] rfl rfl (any_of HT_.out (by kernel_rfl)) (fun _ _ _ h => h) (Or.inl ⟨by rfl, ?_⟩) ?_ ?_
     rotate_left
     ·intro w'
      go_simp
      with_reducible rfl
     rotate_left
     ·simp only [Act.put, List.setIfInBounds_toArray, List.set_cons_zero, List.set_cons_succ, i64_w, i32_w]
      rfl
     refine pure_ (i := 9) (N := some 62) (v := ?_) (a' := ?_) #[true, true, true, true, true, true, true, true, true, true, false, false, false, false, false, false, false, false] rfl rfl (any_of HT_.out (by kernel_rfl)) (fun _ _ _ h => h) (Or.inl ⟨by rfl, ?_⟩) ?_ ?_
     rotate_left
     ·intro w'
      go_simp
      with_reducible rfl
     rotate_left
     ·simp only [Act.put, List.setIfInBounds_toArray, List.set_cons_zero, List.set_cons_succ, i64_w, i32_w]
      rfl
     refine pure_ (i := 10) (N := some 63) (v := undef) (a' := ?_) #[true, true, true, true, true, true, true, true, true, true, true, false, false, false, false, false, false, false] rfl rfl (any_of HT_.out (by kernel_rfl)) (fun _ _ _ h => h) (Or.inr ⟨by rfl, rfl⟩) ?_ ?_
     rotate_left
     ·simp only [Act.put, List.setIfInBounds_toArray, List.set_cons_zero, List.set_cons_succ, i64_w, i32_w]
      rfl
     refine pure_ (i := 11) (N := some 64) (v := undef) (a' := ?_) #[true, true, true, true, true, true, true, true, true, true, true, true, false, false, false, false, false, false] rfl rfl (any_of HT_.out (by kernel_rfl)) (fun _ _ _ h => h) (Or.inr ⟨by rfl, rfl⟩) ?_ ?_
     rotate_left
     ·simp only [Act.put, List.setIfInBounds_toArray, List.set_cons_zero, List.set_cons_succ, i64_w, i32_w]
      rfl
     refine pure_ (i := 12) (N := some 65) (v := undef) (a' := ?_) #[true, true, true, true, true, true, true, true, true, true, true, true, true, false, false, false, false, false] rfl rfl (any_of HT_.out (by kernel_rfl)) (fun _ _ _ h => h) (Or.inr ⟨by rfl, rfl⟩) ?_ ?_
     rotate_left
     ·simp only [Act.put, List.setIfInBounds_toArray, List.set_cons_zero, List.set_cons_succ, i64_w, i32_w]
      rfl
     refine pure_ (i := 13) (N := some 66) (v := undef) (a' := ?_) #[true, true, true, true, true, true, true, true, true, true, true, true, true, true, false, false, false, false] rfl rfl (any_of HT_.out (by kernel_rfl)) (fun _ _ _ h => h) (Or.inr ⟨by rfl, rfl⟩) ?_ ?_
     rotate_left
     ·simp only [Act.put, List.setIfInBounds_toArray, List.set_cons_zero, List.set_cons_succ, i64_w, i32_w]
      rfl
     refine pure_ (i := 14) (N := some 67) (v := undef) (a' := ?_) #[true, true, true, true, true, true, true, true, true, true, true, true, true, true, true, false, false, false] rfl rfl (any_of HT_.out (by kernel_rfl)) (fun _ _ _ h => h) (Or.inr ⟨by rfl, rfl⟩) ?_ ?_
     rotate_left
     ·simp only [Act.put, List.setIfInBounds_toArray, List.set_cons_zero, List.set_cons_succ, i64_w, i32_w]
      rfl
     refine pure_ (i := 15) (N := some 68) (v := undef) (a' := ?_) #[true, true, true, true, true, true, true, true, true, true, true, true, true, true, true, true, false, false] rfl rfl (any_of HT_.out (by kernel_rfl)) (fun _ _ _ h => h) (Or.inr ⟨by rfl, rfl⟩) ?_ ?_
     rotate_left
     ·simp only [Act.put, List.setIfInBounds_toArray, List.set_cons_zero, List.set_cons_succ, i64_w, i32_w]
      rfl
     refine pure_ (i := 16) (N := some 69) (v := undef) (a' := ?_) #[true, true, true, true, true, true, true, true, true, true, true, true, true, true, true, true, true, false] rfl rfl (any_of HT_.out (by kernel_rfl)) (fun _ _ _ h => h) (Or.inr ⟨by rfl, rfl⟩) ?_ ?_
     rotate_left
     ·simp only [Act.put, List.setIfInBounds_toArray, List.set_cons_zero, List.set_cons_succ, i64_w, i32_w]
      rfl
     refine pure_ (i := 17) (N := some 70) (v := ?_) (a' := ?_) #[true, true, true, true, true, true, true, true, true, true, true, true, true, true, true, true, true, true] rfl rfl (any_of HT_.out (by kernel_rfl)) (fun _ _ _ h => h) (Or.inl ⟨by rfl, ?_⟩) ?_ ?_
     rotate_left
     ·intro w'
      go_simp
      with_reducible rfl
     rotate_left
     ·simp only [Act.put, List.setIfInBounds_toArray, List.set_cons_zero, List.set_cons_succ, i64_w, i32_w]
      rfl
     refine done_ (done_of HT_.out (by kernel_rfl)) ?_
     try go_wp2
     go_meet
     case rel => exact ⟨_, (true), xV, H', ⟨by first | omega | exact Nat.le_refl _⟩, ⟨xK BK427.out⟩, ⟨xK BK433.out⟩, ⟨xK BK441.out⟩, ⟨xK BK442.out⟩, ⟨xG⟩⟩
   case rest =>
    clear HC30
    try clear c2
    try clear p2
    try clear c4
    try clear c5
    try clear c20
    try clear c21
    try clear c49
    try clear c52
    try clear c52b0
    obtain ⟨kq, x70_29, rfl, HA, HJ29, BK427, BK433, BK441, BK442, HB⟩ := hcut
    cases kq with
    | zero => exact absurd HA.out (by simp [turnpikelaw3_PrefixHalves.j0])
    | succ kj29 =>
     have H := HA.out
     clear HA
     simp only [turnpikelaw3_PrefixHalves.j0] at H
     by_cases c67 : x70_29 = true
     ·subst c67
      have H1 : (some false) = some r := by rw [if_pos rfl] at H; exact H
      clear H
      have H := H1
      clear H1
      obtain rfl := Option.some.inj H
      exact absurd hr_.out (by decide)
     ·replace c67 := Bool.eq_false_iff.mpr c67
      subst c67
      have H1 : ((prefix_Last.f t429 t434 t435 t436).bind fun bt451 => ((turnpikeref1_Put.f 0 0 (wrap64 (t429 - 1)) 1).bind fun bt453 => ((turnpikeref1_Add.f bt451.1 bt451.2 bt453.1 bt453.2).bind fun bt455 => ((prefix_Parent.f t434 t435 t436).bind fun bt459 => ((prefix_Parent.f t437 t438 t439).bind fun bt464 => ((prefix_Sibling.f t434 t435 t436).bind fun bt469 => ((prefix_Sibling.f t437 t438 t439).bind fun bt474 => (if bt455.2.2 = true then (some false) else ((prefix_First.f t437 t438 t439).bind fun bt479 => (if (bt455.1 == bt479.1 && (bt455.2.1 == bt479.2)) = true then (if bt459.2.2.2 = true then (if bt464.2.2.2 = true then (if ((bt459.1 == t430 && (bt459.2.1 == t431)) && (bt459.2.2.1 == t432)) = true then (if ((bt464.1 == t430 && (bt464.2.1 == t431)) && (bt464.2.2.1 == t432)) = true then (if bt469.2.2.2 = true then (if bt474.2.2.2 = true then (if ((bt469.1 == t437 && (bt469.2.1 == t438)) && (bt469.2.2.1 == t439)) = true then (if ((bt474.1 == t434 && (bt474.2.1 == t435)) && (bt474.2.2.1 == t436)) = true then ((prefix_Cmp.f t430 t431 t432 t434 t435 t436).bind fun t481 => (if t481 < 0 then ((prefix_Cmp.f t434 t435 t436 t437 t438 t439).bind fun t482 => (some (decide (t482 < 0)))) else (some false))) else (some false)) else (some false)) else (some false)) else (some false)) else (some false)) else (some false)) else (some false)) else (some false)) else (some false))))))))))) = some r := by rw [if_neg (show ¬ (false = true) by decide)] at H; exact H
      clear H
      have H := H1
      clear H1
      replace H := Option.bind_eq_some_iff.mp H
      obtain ⟨⟨t451, t452⟩, A680, H⟩ := H
      replace H : ((turnpikeref1_Put.f 0 0 (wrap64 (t429 - 1)) 1).bind fun bt453 => ((turnpikeref1_Add.f t451 t452 bt453.1 bt453.2).bind fun bt455 => ((prefix_Parent.f t434 t435 t436).bind fun bt459 => ((prefix_Parent.f t437 t438 t439).bind fun bt464 => ((prefix_Sibling.f t434 t435 t436).bind fun bt469 => ((prefix_Sibling.f t437 t438 t439).bind fun bt474 => (if bt455.2.2 = true then (some false) else ((prefix_First.f t437 t438 t439).bind fun bt479 => (if (bt455.1 == bt479.1 && (bt455.2.1 == bt479.2)) = true then (if bt459.2.2.2 = true then (if bt464.2.2.2 = true then (if ((bt459.1 == t430 && (bt459.2.1 == t431)) && (bt459.2.2.1 == t432)) = true then (if ((bt464.1 == t430 && (bt464.2.1 == t431)) && (bt464.2.2.1 == t432)) = true then (if bt469.2.2.2 = true then (if bt474.2.2.2 = true then (if ((bt469.1 == t437 && (bt469.2.1 == t438)) && (bt469.2.2.1 == t439)) = true then (if ((bt474.1 == t434 && (bt474.2.1 == t435)) && (bt474.2.2.1 == t436)) = true then ((prefix_Cmp.f t430 t431 t432 t434 t435 t436).bind fun t481 => (if t481 < 0 then ((prefix_Cmp.f t434 t435 t436 t437 t438 t439).bind fun t482 => (some (decide (t482 < 0)))) else (some false))) else (some false)) else (some false)) else (some false)) else (some false)) else (some false)) else (some false)) else (some false)) else (some false)) else (some false)))))))))) = some r := H
      have A68 := Aside0.mk A680
      clear A680
      replace H := Option.bind_eq_some_iff.mp H
      obtain ⟨⟨t453, t454⟩, A690, H⟩ := H
      replace H : ((turnpikeref1_Add.f t451 t452 t453 t454).bind fun bt455 => ((prefix_Parent.f t434 t435 t436).bind fun bt459 => ((prefix_Parent.f t437 t438 t439).bind fun bt464 => ((prefix_Sibling.f t434 t435 t436).bind fun bt469 => ((prefix_Sibling.f t437 t438 t439).bind fun bt474 => (if bt455.2.2 = true then (some false) else ((prefix_First.f t437 t438 t439).bind fun bt479 => (if (bt455.1 == bt479.1 && (bt455.2.1 == bt479.2)) = true then (if bt459.2.2.2 = true then (if bt464.2.2.2 = true then (if ((bt459.1 == t430 && (bt459.2.1 == t431)) && (bt459.2.2.1 == t432)) = true then (if ((bt464.1 == t430 && (bt464.2.1 == t431)) && (bt464.2.2.1 == t432)) = true then (if bt469.2.2.2 = true then (if bt474.2.2.2 = true then (if ((bt469.1 == t437 && (bt469.2.1 == t438)) && (bt469.2.2.1 == t439)) = true then (if ((bt474.1 == t434 && (bt474.2.1 == t435)) && (bt474.2.2.1 == t436)) = true then ((prefix_Cmp.f t430 t431 t432 t434 t435 t436).bind fun t481 => (if t481 < 0 then ((prefix_Cmp.f t434 t435 t436 t437 t438 t439).bind fun t482 => (some (decide (t482 < 0)))) else (some false))) else (some false)) else (some false)) else (some false)) else (some false)) else (some false)) else (some false)) else (some false)) else (some false)) else (some false))))))))) = some r := H
      have A69 := Aside0.mk A690
      clear A690
      replace H := Option.bind_eq_some_iff.mp H
      obtain ⟨⟨t455, t456, t457⟩, A700, H⟩ := H
      replace H : ((prefix_Parent.f t434 t435 t436).bind fun bt459 => ((prefix_Parent.f t437 t438 t439).bind fun bt464 => ((prefix_Sibling.f t434 t435 t436).bind fun bt469 => ((prefix_Sibling.f t437 t438 t439).bind fun bt474 => (if t457 = true then (some false) else ((prefix_First.f t437 t438 t439).bind fun bt479 => (if (t455 == bt479.1 && (t456 == bt479.2)) = true then (if bt459.2.2.2 = true then (if bt464.2.2.2 = true then (if ((bt459.1 == t430 && (bt459.2.1 == t431)) && (bt459.2.2.1 == t432)) = true then (if ((bt464.1 == t430 && (bt464.2.1 == t431)) && (bt464.2.2.1 == t432)) = true then (if bt469.2.2.2 = true then (if bt474.2.2.2 = true then (if ((bt469.1 == t437 && (bt469.2.1 == t438)) && (bt469.2.2.1 == t439)) = true then (if ((bt474.1 == t434 && (bt474.2.1 == t435)) && (bt474.2.2.1 == t436)) = true then ((prefix_Cmp.f t430 t431 t432 t434 t435 t436).bind fun t481 => (if t481 < 0 then ((prefix_Cmp.f t434 t435 t436 t437 t438 t439).bind fun t482 => (some (decide (t482 < 0)))) else (some false))) else (some false)) else (some false)) else (some false)) else (some false)) else (some false)) else (some false)) else (some false)) else (some false)) else (some false)))))))) = some r := H
      have A70 := Aside0.mk A700
      clear A700
      replace H := Option.bind_eq_some_iff.mp H
      obtain ⟨⟨t459, t460, t461, t462⟩, A710, H⟩ := H
      replace H : ((prefix_Parent.f t437 t438 t439).bind fun bt464 => ((prefix_Sibling.f t434 t435 t436).bind fun bt469 => ((prefix_Sibling.f t437 t438 t439).bind fun bt474 => (if t457 = true then (some false) else ((prefix_First.f t437 t438 t439).bind fun bt479 => (if (t455 == bt479.1 && (t456 == bt479.2)) = true then (if t462 = true then (if bt464.2.2.2 = true then (if ((t459 == t430 && (t460 == t431)) && (t461 == t432)) = true then (if ((bt464.1 == t430 && (bt464.2.1 == t431)) && (bt464.2.2.1 == t432)) = true then (if bt469.2.2.2 = true then (if bt474.2.2.2 = true then (if ((bt469.1 == t437 && (bt469.2.1 == t438)) && (bt469.2.2.1 == t439)) = true then (if ((bt474.1 == t434 && (bt474.2.1 == t435)) && (bt474.2.2.1 == t436)) = true then ((prefix_Cmp.f t430 t431 t432 t434 t435 t436).bind fun t481 => (if t481 < 0 then ((prefix_Cmp.f t434 t435 t436 t437 t438 t439).bind fun t482 => (some (decide (t482 < 0)))) else (some false))) else (some false)) else (some false)) else (some false)) else (some false)) else (some false)) else (some false)) else (some false)) else (some false)) else (some false))))))) = some r := H
      have A71 := Aside0.mk A710
      clear A710
      replace H := Option.bind_eq_some_iff.mp H
      obtain ⟨⟨t464, t465, t466, t467⟩, A720, H⟩ := H
      replace H : ((prefix_Sibling.f t434 t435 t436).bind fun bt469 => ((prefix_Sibling.f t437 t438 t439).bind fun bt474 => (if t457 = true then (some false) else ((prefix_First.f t437 t438 t439).bind fun bt479 => (if (t455 == bt479.1 && (t456 == bt479.2)) = true then (if t462 = true then (if t467 = true then (if ((t459 == t430 && (t460 == t431)) && (t461 == t432)) = true then (if ((t464 == t430 && (t465 == t431)) && (t466 == t432)) = true then (if bt469.2.2.2 = true then (if bt474.2.2.2 = true then (if ((bt469.1 == t437 && (bt469.2.1 == t438)) && (bt469.2.2.1 == t439)) = true then (if ((bt474.1 == t434 && (bt474.2.1 == t435)) && (bt474.2.2.1 == t436)) = true then ((prefix_Cmp.f t430 t431 t432 t434 t435 t436).bind fun t481 => (if t481 < 0 then ((prefix_Cmp.f t434 t435 t436 t437 t438 t439).bind fun t482 => (some (decide (t482 < 0)))) else (some false))) else (some false)) else (some false)) else (some false)) else (some false)) else (some false)) else (some false)) else (some false)) else (some false)) else (some false)))))) = some r := H
      have A72 := Aside0.mk A720
      clear A720
      replace H := Option.bind_eq_some_iff.mp H
      obtain ⟨⟨t469, t470, t471, t472⟩, A730, H⟩ := H
      replace H : ((prefix_Sibling.f t437 t438 t439).bind fun bt474 => (if t457 = true then (some false) else ((prefix_First.f t437 t438 t439).bind fun bt479 => (if (t455 == bt479.1 && (t456 == bt479.2)) = true then (if t462 = true then (if t467 = true then (if ((t459 == t430 && (t460 == t431)) && (t461 == t432)) = true then (if ((t464 == t430 && (t465 == t431)) && (t466 == t432)) = true then (if t472 = true then (if bt474.2.2.2 = true then (if ((t469 == t437 && (t470 == t438)) && (t471 == t439)) = true then (if ((bt474.1 == t434 && (bt474.2.1 == t435)) && (bt474.2.2.1 == t436)) = true then ((prefix_Cmp.f t430 t431 t432 t434 t435 t436).bind fun t481 => (if t481 < 0 then ((prefix_Cmp.f t434 t435 t436 t437 t438 t439).bind fun t482 => (some (decide (t482 < 0)))) else (some false))) else (some false)) else (some false)) else (some false)) else (some false)) else (some false)) else (some false)) else (some false)) else (some false)) else (some false))))) = some r := H
      have A73 := Aside0.mk A730
      clear A730
      replace H := Option.bind_eq_some_iff.mp H
      obtain ⟨⟨t474, t475, t476, t477⟩, A740, H⟩ := H
      replace H : (if t457 = true then (some false) else ((prefix_First.f t437 t438 t439).bind fun bt479 => (if (t455 == bt479.1 && (t456 == bt479.2)) = true then (if t462 = true then (if t467 = true then (if ((t459 == t430 && (t460 == t431)) && (t461 == t432)) = true then (if ((t464 == t430 && (t465 == t431)) && (t466 == t432)) = true then (if t472 = true then (if t477 = true then (if ((t469 == t437 && (t470 == t438)) && (t471 == t439)) = true then (if ((t474 == t434 && (t475 == t435)) && (t476 == t436)) = true then ((prefix_Cmp.f t430 t431 t432 t434 t435 t436).bind fun t481 => (if t481 < 0 then ((prefix_Cmp.f t434 t435 t436 t437 t438 t439).bind fun t482 => (some (decide (t482 < 0)))) else (some false))) else (some false)) else (some false)) else (some false)) else (some false)) else (some false)) else (some false)) else (some false)) else (some false)) else (some false)))) = some r := H
      have A74 := Aside0.mk A740
      clear A740
      by_cases c75 : t457 = true
      ·subst c75
       have H1 : (some false) = some r := by rw [if_pos rfl] at H; exact H
       clear H
       have H := H1
       clear H1
       obtain rfl := Option.some.inj H
       exact absurd hr_.out (by decide)
      ·replace c75 := Bool.eq_false_iff.mpr c75
       subst c75
       have H1 : ((prefix_First.f t437 t438 t439).bind fun bt479 => (if (t455 == bt479.1 && (t456 == bt479.2)) = true then (if t462 = true then (if t467 = true then (if ((t459 == t430 && (t460 == t431)) && (t461 == t432)) = true then (if ((t464 == t430 && (t465 == t431)) && (t466 == t432)) = true then (if t472 = true then (if t477 = true then (if ((t469 == t437 && (t470 == t438)) && (t471 == t439)) = true then (if ((t474 == t434 && (t475 == t435)) && (t476 == t436)) = true then ((prefix_Cmp.f t430 t431 t432 t434 t435 t436).bind fun t481 => (if t481 < 0 then ((prefix_Cmp.f t434 t435 t436 t437 t438 t439).bind fun t482 => (some (decide (t482 < 0)))) else (some false))) else (some false)) else (some false)) else (some false)) else (some false)) else (some false)) else (some false)) else (some false)) else (some false)) else (some false))) = some r := by rw [if_neg (show ¬ (false = true) by decide)] at H; exact H
       clear H
       have H := H1
       clear H1
       replace H := Option.bind_eq_some_iff.mp H
       obtain ⟨⟨t479, t480⟩, A760, H⟩ := H
       replace H : (if (t455 == t479 && (t456 == t480)) = true then (if t462 = true then (if t467 = true then (if ((t459 == t430 && (t460 == t431)) && (t461 == t432)) = true then (if ((t464 == t430 && (t465 == t431)) && (t466 == t432)) = true then (if t472 = true then (if t477 = true then (if ((t469 == t437 && (t470 == t438)) && (t471 == t439)) = true then (if ((t474 == t434 && (t475 == t435)) && (t476 == t436)) = true then ((prefix_Cmp.f t430 t431 t432 t434 t435 t436).bind fun t481 => (if t481 < 0 then ((prefix_Cmp.f t434 t435 t436 t437 t438 t439).bind fun t482 => (some (decide (t482 < 0)))) else (some false))) else (some false)) else (some false)) else (some false)) else (some false)) else (some false)) else (some false)) else (some false)) else (some false)) else (some false)) = some r := H
       have A76 := Aside0.mk A760
       clear A760
       by_cases c77 : (t455 == t479 && (t456 == t480)) = true
       ·rw [if_pos c77] at H
        have c77b0 : (t455 == t479 && (t456 == t480)) = true := c77
        (try (have c77b1 : decide (t455 = t479 && (t456 == t480)) = true := by simpa using c77))
        (try (have c77b2 : (t455 == t479 && (t456 == t480)) = true := by simpa using c77))
        clear c77
        by_cases c78 : t462 = true
        ·subst c78
         have H1 : (if t467 = true then (if ((t459 == t430 && (t460 == t431)) && (t461 == t432)) = true then (if ((t464 == t430 && (t465 == t431)) && (t466 == t432)) = true then (if t472 = true then (if t477 = true then (if ((t469 == t437 && (t470 == t438)) && (t471 == t439)) = true then (if ((t474 == t434 && (t475 == t435)) && (t476 == t436)) = true then ((prefix_Cmp.f t430 t431 t432 t434 t435 t436).bind fun t481 => (if t481 < 0 then ((prefix_Cmp.f t434 t435 t436 t437 t438 t439).bind fun t482 => (some (decide (t482 < 0)))) else (some false))) else (some false)) else (some false)) else (some false)) else (some false)) else (some false)) else (some false)) else (some false)) = some r := by rw [if_pos rfl] at H; exact H
         clear H
         have H := H1
         clear H1
         by_cases c79 : t467 = true
         ·subst c79
          have H1 : (if ((t459 == t430 && (t460 == t431)) && (t461 == t432)) = true then (if ((t464 == t430 && (t465 == t431)) && (t466 == t432)) = true then (if t472 = true then (if t477 = true then (if ((t469 == t437 && (t470 == t438)) && (t471 == t439)) = true then (if ((t474 == t434 && (t475 == t435)) && (t476 == t436)) = true then ((prefix_Cmp.f t430 t431 t432 t434 t435 t436).bind fun t481 => (if t481 < 0 then ((prefix_Cmp.f t434 t435 t436 t437 t438 t439).bind fun t482 => (some (decide (t482 < 0)))) else (some false))) else (some false)) else (some false)) else (some false)) else (some false)) else (some false)) else (some false)) = some r := by rw [if_pos rfl] at H; exact H
          clear H
          have H := H1
          clear H1
          by_cases c80 : ((t459 == t430 && (t460 == t431)) && (t461 == t432)) = true
          ·rw [if_pos c80] at H
           have c80b0 : ((t459 == t430 && (t460 == t431)) && (t461 == t432)) = true := c80
           clear c80
           by_cases c81 : ((t464 == t430 && (t465 == t431)) && (t466 == t432)) = true
           ·rw [if_pos c81] at H
            have c81b0 : ((t464 == t430 && (t465 == t431)) && (t466 == t432)) = true := c81
            clear c81
            by_cases c82 : t472 = true
            ·subst c82
             have H1 : (if t477 = true then (if ((t469 == t437 && (t470 == t438)) && (t471 == t439)) = true then (if ((t474 == t434 && (t475 == t435)) && (t476 == t436)) = true then ((prefix_Cmp.f t430 t431 t432 t434 t435 t436).bind fun t481 => (if t481 < 0 then ((prefix_Cmp.f t434 t435 t436 t437 t438 t439).bind fun t482 => (some (decide (t482 < 0)))) else (some false))) else (some false)) else (some false)) else (some false)) = some r := by rw [if_pos rfl] at H; exact H
             clear H
             have H := H1
             clear H1
             by_cases c83 : t477 = true
             ·subst c83
              have H1 : (if ((t469 == t437 && (t470 == t438)) && (t471 == t439)) = true then (if ((t474 == t434 && (t475 == t435)) && (t476 == t436)) = true then ((prefix_Cmp.f t430 t431 t432 t434 t435 t436).bind fun t481 => (if t481 < 0 then ((prefix_Cmp.f t434 t435 t436 t437 t438 t439).bind fun t482 => (some (decide (t482 < 0)))) else (some false))) else (some false)) else (some false)) = some r := by rw [if_pos rfl] at H; exact H
              clear H
              have H := H1
              clear H1
              by_cases c84 : ((t469 == t437 && (t470 == t438)) && (t471 == t439)) = true
              ·rw [if_pos c84] at H
               have c84b0 : ((t469 == t437 && (t470 == t438)) && (t471 == t439)) = true := c84
               clear c84
               by_cases c85 : ((t474 == t434 && (t475 == t435)) && (t476 == t436)) = true
               ·rw [if_pos c85] at H
                have c85b0 : ((t474 == t434 && (t475 == t435)) && (t476 == t436)) = true := c85
                clear c85
                replace H := Option.bind_eq_some_iff.mp H
                obtain ⟨t481, A860, H⟩ := H
                replace H : (if t481 < 0 then ((prefix_Cmp.f t434 t435 t436 t437 t438 t439).bind fun t482 => (some (decide (t482 < 0)))) else (some false)) = some r := H
                have A86 := Aside0.mk A860
                clear A860
                by_cases c87 : t481 < 0
                ·rw [if_pos c87] at H
                 have c87b0 : decide (t481 < 0) = true := decide_eq_true c87
                 clear c87
                 replace H := Option.bind_eq_some_iff.mp H
                 obtain ⟨t482, A880, H⟩ := H
                 replace H : (some (decide (t482 < 0))) = some r := H
                 have A88 := Aside0.mk A880
                 clear A880
                 obtain rfl := Option.some.inj H
                 have hnb89 := NB441_427.out
                 have hnc89 := NB427_441.out
                 have hnb90 := NB441_433.out
                 have hnc90 := NB433_441.out
                 have hnb91 := NB441_442.out
                 have hnc91 := NB442_441.out
                 have hcz92_0 : wc.cell? ⟨gb441, 0, none⟩ = some (.int .u64 t434) := (blk_cell BK441.out 0).trans rfl
                 have hcz92_1 : wc.cell? ⟨gb441, 1, none⟩ = some (.int .u64 t435) := (blk_cell BK441.out 1).trans rfl
                 have hcz92_2 : wc.cell? ⟨gb441, 2, none⟩ = some (.int .i64 t436) := (blk_cell BK441.out 2).trans rfl
                 have hfz92_0 := blk_frozen BK441.out 0
                 have hfz92_1 := blk_frozen BK441.out 1
                 have hfz92_2 := blk_frozen BK441.out 2
                 try go_wp2_with (first | ((with_reducible refine gate_callee (f := 21) rfl ?_); refine goesL_ (some 74) rfl rfl Tryd.func21 (by kernel_rfl) rfl #[.int .i64 t429, .agg #[.int .u64 t434, .int .u64 t435, .int .i64 t436]] rfl xM ?_; (with_reducible refine (prefix_Last.calls t429 t434 t435 t436 t451 t452 _ A68.out).mono ?_); rintro e w93 ⟨rfl, hb⟩; refine ⟨_, rfl, ?_⟩; have n0_ := xP BK427.out hb; have n1_ := xP BK433.out hb; have n2_ := xP BK441.out hb; have n3_ := xP BK442.out hb; have n4_ := Aside0.mk (below_step xG hb); clear BK427; clear BK433; clear BK441; clear BK442; clear HB; have BK427 := n0_; have BK433 := n1_; have BK441 := n2_; have BK442 := n3_; have HB := n4_; clear n0_ n1_ n2_ n3_ n4_; (try clear hb); (try clear hb2); (try clear hk); (try clear hi)) | ((with_reducible refine gate_callee (f := 31) rfl ?_); refine goesL_ (some 78) rfl rfl Tryd.func31 (by kernel_rfl) rfl #[.agg #[.int .u64 0, .int .u64 0], .int .i64 (wrap64 (t429 - 1)), .int .i64 1] rfl xM ?_; (with_reducible refine (turnpikeref1_Put.calls 0 0 (wrap64 (t429 - 1)) 1 t453 t454 _ A69.out).mono ?_); rintro e w94 ⟨rfl, hb⟩; refine ⟨_, rfl, ?_⟩; have n0_ := xP BK427.out hb; have n1_ := xP BK433.out hb; have n2_ := xP BK441.out hb; have n3_ := xP BK442.out hb; have n4_ := Aside0.mk (below_step xG hb); clear BK427; clear BK433; clear BK441; clear BK442; clear HB; have BK427 := n0_; have BK433 := n1_; have BK441 := n2_; have BK442 := n3_; have HB := n4_; clear n0_ n1_ n2_ n3_ n4_; (try clear hb); (try clear hb2); (try clear hk); (try clear hi)) | ((with_reducible refine gate_callee (f := 30) rfl ?_); refine goesL_ (some 79) rfl rfl Tryd.func30 (by kernel_rfl) rfl #[.agg #[.int .u64 t451, .int .u64 t452], .agg #[.int .u64 t453, .int .u64 t454]] rfl xM ?_; (with_reducible refine (turnpikeref1_Add.calls t451 t452 t453 t454 t455 t456 false _ A70.out).mono ?_); rintro e w95 ⟨rfl, hb⟩; refine ⟨_, rfl, ?_⟩; have n0_ := xP BK427.out hb; have n1_ := xP BK433.out hb; have n2_ := xP BK441.out hb; have n3_ := xP BK442.out hb; have n4_ := Aside0.mk (below_step xG hb); clear BK427; clear BK433; clear BK441; clear BK442; clear HB; have BK427 := n0_; have BK433 := n1_; have BK441 := n2_; have BK442 := n3_; have HB := n4_; clear n0_ n1_ n2_ n3_ n4_; (try clear hb); (try clear hb2); (try clear hk); (try clear hi)) | ((with_reducible refine gate_dst (N := 12) rfl ?_); refine box_event ?hg (N := 12) ?hd (cs := #[.int .u64 0, .int .u64 0]) (t := 24) ?hr ?_; (case hd => rfl); (case hg => rfl); (case hr => first | (go_simp; done) | (go_simp; rfl)); intro gb458 hg w96 hbox hb; have n0_ := xP BK427.out hb; have n1_ := xP BK433.out hb; have n2_ := xP BK441.out hb; have n3_ := xP BK442.out hb; have n4_ := Aside0.mk (below_step xG hb); have n5_ := Aside0.mk (hbox); have n6_ := xT w hg; have n7_ := xT w hg; have n8_ := Aside0.mk ((xNl BK427.out hg : gb427 ≠ gb458)); have n9_ := Aside0.mk ((xNr BK427.out hg : gb458 ≠ gb427)); have n10_ := Aside0.mk ((xNl BK433.out hg : gb433 ≠ gb458)); have n11_ := Aside0.mk ((xNr BK433.out hg : gb458 ≠ gb433)); have n12_ := Aside0.mk ((xNl BK441.out hg : gb441 ≠ gb458)); have n13_ := Aside0.mk ((xNr BK441.out hg : gb458 ≠ gb441)); have n14_ := Aside0.mk ((xNl BK442.out hg : gb442 ≠ gb458)); have n15_ := Aside0.mk ((xNr BK442.out hg : gb458 ≠ gb442)); clear BK427; clear BK433; clear BK441; clear BK442; clear HB; have BK427 := n0_; have BK433 := n1_; have BK441 := n2_; have BK442 := n3_; have HB := n4_; have BK458 := n5_; have GW458 := n6_; have GE458 := n7_; have NB427_458 := n8_; have NB458_427 := n9_; have NB433_458 := n10_; have NB458_433 := n11_; have NB441_458 := n12_; have NB458_441 := n13_; have NB442_458 := n14_; have NB458_442 := n15_; clear n0_ n1_ n2_ n3_ n4_ n5_ n6_ n7_ n8_ n9_ n10_ n11_ n12_ n13_ n14_ n15_; clear hb hbox hg; have hnb97 := NB458_427.out; have hnc97 := NB427_458.out; have hnb98 := NB458_433.out; have hnc98 := NB433_458.out; have hnb99 := NB458_441.out; have hnc99 := NB441_458.out; have hnb100 := NB458_442.out; have hnc100 := NB442_458.out; have hcz101_0 : w96.cell? ⟨gb458, 0, none⟩ = some (.int .u64 0) := (blk_cell BK458.out 0).trans rfl; have hcz101_1 : w96.cell? ⟨gb458, 1, none⟩ = some (.int .u64 0) := (blk_cell BK458.out 1).trans rfl; have hfz101_0 := blk_frozen BK458.out 0; have hfz101_1 := blk_frozen BK458.out 1; have hcz102_0 : w96.cell? ⟨gb441, 0, none⟩ = some (.int .u64 t434) := (blk_cell BK441.out 0).trans rfl; have hcz102_1 : w96.cell? ⟨gb441, 1, none⟩ = some (.int .u64 t435) := (blk_cell BK441.out 1).trans rfl; have hcz102_2 : w96.cell? ⟨gb441, 2, none⟩ = some (.int .i64 t436) := (blk_cell BK441.out 2).trans rfl; have hfz102_0 := blk_frozen BK441.out 0; have hfz102_1 := blk_frozen BK441.out 1; have hfz102_2 := blk_frozen BK441.out 2) | ((with_reducible refine gate_callee (f := 32) rfl ?_); refine goesL_ (some 84) rfl rfl Tryd.func32 (by kernel_rfl) rfl #[.agg #[.int .u64 t434, .int .u64 t435, .int .i64 t436]] rfl xM ?_; (with_reducible refine (prefix_Parent.calls t434 t435 t436 t459 t460 t461 true _ A71.out).mono ?_); rintro e w103 ⟨rfl, hb⟩; refine ⟨_, rfl, ?_⟩; have n0_ := Aside0.mk (blk_below (g := gb427) (o := .cells #[.int .u64 a1_0, .int .u64 a1_1] 24 (0, 0)) (by (with_reducible repeat (first | refine blk_drewN ?_ _ | refine blk_drew ?_ | refine blk_alloc ?_ _)); refine blk_far ?_ NB427_458.out _; (with_reducible repeat (first | refine blk_drewN ?_ _ | refine blk_drew ?_ | refine blk_alloc ?_ _)); refine blk_far ?_ NB427_458.out _; (with_reducible repeat (first | refine blk_drewN ?_ _ | refine blk_drew ?_ | refine blk_alloc ?_ _)); exact BK427.out) hb); have n1_ := Aside0.mk (blk_below (g := gb433) (o := .cells #[.int .u64 t430, .int .u64 t431, .int .i64 t432] 28 (0, 0)) (by (with_reducible repeat (first | refine blk_drewN ?_ _ | refine blk_drew ?_ | refine blk_alloc ?_ _)); refine blk_far ?_ NB433_458.out _; (with_reducible repeat (first | refine blk_drewN ?_ _ | refine blk_drew ?_ | refine blk_alloc ?_ _)); refine blk_far ?_ NB433_458.out _; (with_reducible repeat (first | refine blk_drewN ?_ _ | refine blk_drew ?_ | refine blk_alloc ?_ _)); exact BK433.out) hb); have n2_ := Aside0.mk (blk_below (g := gb441) (o := .cells #[.int .u64 t434, .int .u64 t435, .int .i64 t436] 28 (0, 0)) (by (with_reducible repeat (first | refine blk_drewN ?_ _ | refine blk_drew ?_ | refine blk_alloc ?_ _)); refine blk_far ?_ NB441_458.out _; (with_reducible repeat (first | refine blk_drewN ?_ _ | refine blk_drew ?_ | refine blk_alloc ?_ _)); refine blk_far ?_ NB441_458.out _; (with_reducible repeat (first | refine blk_drewN ?_ _ | refine blk_drew ?_ | refine blk_alloc ?_ _)); exact BK441.out) hb); have n3_ := Aside0.mk (blk_below (g := gb442) (o := .cells #[.int .u64 t437, .int .u64 t438, .int .i64 t439] 28 (0, 0)) (by (with_reducible repeat (first | refine blk_drewN ?_ _ | refine blk_drew ?_ | refine blk_alloc ?_ _)); refine blk_far ?_ NB442_458.out _; (with_reducible repeat (first | refine blk_drewN ?_ _ | refine blk_drew ?_ | refine blk_alloc ?_ _)); refine blk_far ?_ NB442_458.out _; (with_reducible repeat (first | refine blk_drewN ?_ _ | refine blk_drew ?_ | refine blk_alloc ?_ _)); exact BK442.out) hb); have n4_ := Aside0.mk (blk_below (g := gb458) (o := .cells #[.int .u64 t455, .int .u64 t456] 24 (0, 0)) (by (with_reducible repeat (first | refine blk_drewN ?_ _ | refine blk_drew ?_ | refine blk_alloc ?_ _)); refine blk_put (cs := #[.int .u64 t455, .int .u64 0]) ?_ 1 _ rfl; (with_reducible repeat (first | refine blk_drewN ?_ _ | refine blk_drew ?_ | refine blk_alloc ?_ _)); refine blk_put (cs := #[.int .u64 0, .int .u64 0]) ?_ 0 _ rfl; (with_reducible repeat (first | refine blk_drewN ?_ _ | refine blk_drew ?_ | refine blk_alloc ?_ _)); exact BK458.out) hb); have n5_ := Aside0.mk (below_step xG hb); clear BK427; clear BK433; clear BK441; clear BK442; clear BK458; clear HB; have BK427 := n0_; have BK433 := n1_; have BK441 := n2_; have BK442 := n3_; have BK458 := n4_; have HB := n5_; clear n0_ n1_ n2_ n3_ n4_ n5_; (try clear hb); (try clear hb2); (try clear hk); (try clear hi)) | ((with_reducible refine gate_dst (N := 14) rfl ?_); refine box_event ?hg (N := 14) ?hd (cs := #[.int .u64 0, .int .u64 0, .int .i64 0]) (t := 28) ?hr ?_; (case hd => rfl); (case hg => rfl); (case hr => first | (go_simp; done) | (go_simp; rfl)); intro gb463 hg w104 hbox hb; have n0_ := xP BK427.out hb; have n1_ := xP BK433.out hb; have n2_ := xP BK441.out hb; have n3_ := xP BK442.out hb; have n4_ := xP BK458.out hb; have n5_ := Aside0.mk (below_step xG hb); have n6_ := Aside0.mk (hbox); have n7_ := xT w hg; have n8_ := xT w hg; have n9_ := Aside0.mk ((xNl BK427.out hg : gb427 ≠ gb463)); have n10_ := Aside0.mk ((xNr BK427.out hg : gb463 ≠ gb427)); have n11_ := Aside0.mk ((xNl BK433.out hg : gb433 ≠ gb463)); have n12_ := Aside0.mk ((xNr BK433.out hg : gb463 ≠ gb433)); have n13_ := Aside0.mk ((xNl BK441.out hg : gb441 ≠ gb463)); have n14_ := Aside0.mk ((xNr BK441.out hg : gb463 ≠ gb441)); have n15_ := Aside0.mk ((xNl BK442.out hg : gb442 ≠ gb463)); have n16_ := Aside0.mk ((xNr BK442.out hg : gb463 ≠ gb442)); have n17_ := Aside0.mk ((xNl BK458.out hg : gb458 ≠ gb463)); have n18_ := Aside0.mk ((xNr BK458.out hg : gb463 ≠ gb458)); clear BK427; clear BK433; clear BK441; clear BK442; clear BK458; clear HB; have BK427 := n0_; have BK433 := n1_; have BK441 := n2_; have BK442 := n3_; have BK458 := n4_; have HB := n5_; have BK463 := n6_; have GW463 := n7_; have GE463 := n8_; have NB427_463 := n9_; have NB463_427 := n10_; have NB433_463 := n11_; have NB463_433 := n12_; have NB441_463 := n13_; have NB463_441 := n14_; have NB442_463 := n15_; have NB463_442 := n16_; have NB458_463 := n17_; have NB463_458 := n18_; clear n0_ n1_ n2_ n3_ n4_ n5_ n6_ n7_ n8_ n9_ n10_ n11_ n12_ n13_ n14_ n15_ n16_ n17_ n18_; clear hb hbox hg; have hnb105 := NB463_427.out; have hnc105 := NB427_463.out; have hnb106 := NB463_433.out; have hnc106 := NB433_463.out; have hnb107 := NB463_441.out; have hnc107 := NB441_463.out; have hnb108 := NB463_442.out; have hnc108 := NB442_463.out; have hnb109 := NB463_458.out; have hnc109 := NB458_463.out; have hcz110_0 : w104.cell? ⟨gb463, 0, none⟩ = some (.int .u64 0) := (blk_cell BK463.out 0).trans rfl; have hcz110_1 : w104.cell? ⟨gb463, 1, none⟩ = some (.int .u64 0) := (blk_cell BK463.out 1).trans rfl; have hcz110_2 : w104.cell? ⟨gb463, 2, none⟩ = some (.int .i64 0) := (blk_cell BK463.out 2).trans rfl; have hfz110_0 := blk_frozen BK463.out 0; have hfz110_1 := blk_frozen BK463.out 1; have hfz110_2 := blk_frozen BK463.out 2; have hnb111 := NB442_427.out; have hnc111 := NB427_442.out; have hnb112 := NB442_433.out; have hnc112 := NB433_442.out; have hcz113_0 : w104.cell? ⟨gb442, 0, none⟩ = some (.int .u64 t437) := (blk_cell BK442.out 0).trans rfl; have hcz113_1 : w104.cell? ⟨gb442, 1, none⟩ = some (.int .u64 t438) := (blk_cell BK442.out 1).trans rfl; have hcz113_2 : w104.cell? ⟨gb442, 2, none⟩ = some (.int .i64 t439) := (blk_cell BK442.out 2).trans rfl; have hfz113_0 := blk_frozen BK442.out 0; have hfz113_1 := blk_frozen BK442.out 1; have hfz113_2 := blk_frozen BK442.out 2) | ((with_reducible refine gate_callee (f := 32) rfl ?_); refine goesL_ (some 89) rfl rfl Tryd.func32 (by kernel_rfl) rfl #[.agg #[.int .u64 t437, .int .u64 t438, .int .i64 t439]] rfl xM ?_; (with_reducible refine (prefix_Parent.calls t437 t438 t439 t464 t465 t466 true _ A72.out).mono ?_); rintro e w114 ⟨rfl, hb⟩; refine ⟨_, rfl, ?_⟩; have n0_ := Aside0.mk (blk_below (g := gb427) (o := .cells #[.int .u64 a1_0, .int .u64 a1_1] 24 (0, 0)) (by (with_reducible repeat (first | refine blk_drewN ?_ _ | refine blk_drew ?_ | refine blk_alloc ?_ _)); refine blk_far ?_ NB427_463.out _; (with_reducible repeat (first | refine blk_drewN ?_ _ | refine blk_drew ?_ | refine blk_alloc ?_ _)); refine blk_far ?_ NB427_463.out _; (with_reducible repeat (first | refine blk_drewN ?_ _ | refine blk_drew ?_ | refine blk_alloc ?_ _)); refine blk_far ?_ NB427_463.out _; (with_reducible repeat (first | refine blk_drewN ?_ _ | refine blk_drew ?_ | refine blk_alloc ?_ _)); exact BK427.out) hb); have n1_ := Aside0.mk (blk_below (g := gb433) (o := .cells #[.int .u64 t430, .int .u64 t431, .int .i64 t432] 28 (0, 0)) (by (with_reducible repeat (first | refine blk_drewN ?_ _ | refine blk_drew ?_ | refine blk_alloc ?_ _)); refine blk_far ?_ NB433_463.out _; (with_reducible repeat (first | refine blk_drewN ?_ _ | refine blk_drew ?_ | refine blk_alloc ?_ _)); refine blk_far ?_ NB433_463.out _; (with_reducible repeat (first | refine blk_drewN ?_ _ | refine blk_drew ?_ | refine blk_alloc ?_ _)); refine blk_far ?_ NB433_463.out _; (with_reducible repeat (first | refine blk_drewN ?_ _ | refine blk_drew ?_ | refine blk_alloc ?_ _)); exact BK433.out) hb); have n2_ := Aside0.mk (blk_below (g := gb441) (o := .cells #[.int .u64 t434, .int .u64 t435, .int .i64 t436] 28 (0, 0)) (by (with_reducible repeat (first | refine blk_drewN ?_ _ | refine blk_drew ?_ | refine blk_alloc ?_ _)); refine blk_far ?_ NB441_463.out _; (with_reducible repeat (first | refine blk_drewN ?_ _ | refine blk_drew ?_ | refine blk_alloc ?_ _)); refine blk_far ?_ NB441_463.out _; (with_reducible repeat (first | refine blk_drewN ?_ _ | refine blk_drew ?_ | refine blk_alloc ?_ _)); refine blk_far ?_ NB441_463.out _; (with_reducible repeat (first | refine blk_drewN ?_ _ | refine blk_drew ?_ | refine blk_alloc ?_ _)); exact BK441.out) hb); have n3_ := Aside0.mk (blk_below (g := gb442) (o := .cells #[.int .u64 t437, .int .u64 t438, .int .i64 t439] 28 (0, 0)) (by (with_reducible repeat (first | refine blk_drewN ?_ _ | refine blk_drew ?_ | refine blk_alloc ?_ _)); refine blk_far ?_ NB442_463.out _; (with_reducible repeat (first | refine blk_drewN ?_ _ | refine blk_drew ?_ | refine blk_alloc ?_ _)); refine blk_far ?_ NB442_463.out _; (with_reducible repeat (first | refine blk_drewN ?_ _ | refine blk_drew ?_ | refine blk_alloc ?_ _)); refine blk_far ?_ NB442_463.out _; (with_reducible repeat (first | refine blk_drewN ?_ _ | refine blk_drew ?_ | refine blk_alloc ?_ _)); exact BK442.out) hb); have n4_ := Aside0.mk (blk_below (g := gb458) (o := .cells #[.int .u64 t455, .int .u64 t456] 24 (0, 0)) (by (with_reducible repeat (first | refine blk_drewN ?_ _ | refine blk_drew ?_ | refine blk_alloc ?_ _)); refine blk_far ?_ NB458_463.out _; (with_reducible repeat (first | refine blk_drewN ?_ _ | refine blk_drew ?_ | refine blk_alloc ?_ _)); refine blk_far ?_ NB458_463.out _; (with_reducible repeat (first | refine blk_drewN ?_ _ | refine blk_drew ?_ | refine blk_alloc ?_ _)); refine blk_far ?_ NB458_463.out _; (with_reducible repeat (first | refine blk_drewN ?_ _ | refine blk_drew ?_ | refine blk_alloc ?_ _)); exact BK458.out) hb); have n5_ := Aside0.mk (blk_below (g := gb463) (o := .cells #[.int .u64 t459, .int .u64 t460, .int .i64 t461] 28 (0, 0)) (by (with_reducible repeat (first | refine blk_drewN ?_ _ | refine blk_drew ?_ | refine blk_alloc ?_ _)); refine blk_put (cs := #[.int .u64 t459, .int .u64 t460, .int .i64 0]) ?_ 2 _ rfl; (with_reducible repeat (first | refine blk_drewN ?_ _ | refine blk_drew ?_ | refine blk_alloc ?_ _)); refine blk_put (cs := #[.int .u64 t459, .int .u64 0, .int .i64 0]) ?_ 1 _ rfl; (with_reducible repeat (first | refine blk_drewN ?_ _ | refine blk_drew ?_ | refine blk_alloc ?_ _)); refine blk_put (cs := #[.int .u64 0, .int .u64 0, .int .i64 0]) ?_ 0 _ rfl; (with_reducible repeat (first | refine blk_drewN ?_ _ | refine blk_drew ?_ | refine blk_alloc ?_ _)); exact BK463.out) hb); have n6_ := Aside0.mk (below_step xG hb); clear BK427; clear BK433; clear BK441; clear BK442; clear BK458; clear BK463; clear HB; have BK427 := n0_; have BK433 := n1_; have BK441 := n2_; have BK442 := n3_; have BK458 := n4_; have BK463 := n5_; have HB := n6_; clear n0_ n1_ n2_ n3_ n4_ n5_ n6_; (try clear hb); (try clear hb2); (try clear hk); (try clear hi)) | ((with_reducible refine gate_dst (N := 16) rfl ?_); refine box_event ?hg (N := 16) ?hd (cs := #[.int .u64 0, .int .u64 0, .int .i64 0]) (t := 28) ?hr ?_; (case hd => rfl); (case hg => rfl); (case hr => first | (go_simp; done) | (go_simp; rfl)); intro gb468 hg w115 hbox hb; have n0_ := xP BK427.out hb; have n1_ := xP BK433.out hb; have n2_ := xP BK441.out hb; have n3_ := xP BK442.out hb; have n4_ := xP BK458.out hb; have n5_ := xP BK463.out hb; have n6_ := Aside0.mk (below_step xG hb); have n7_ := Aside0.mk (hbox); have n8_ := xT w hg; have n9_ := xT w hg; have n10_ := Aside0.mk ((xNl BK427.out hg : gb427 ≠ gb468)); have n11_ := Aside0.mk ((xNr BK427.out hg : gb468 ≠ gb427)); have n12_ := Aside0.mk ((xNl BK433.out hg : gb433 ≠ gb468)); have n13_ := Aside0.mk ((xNr BK433.out hg : gb468 ≠ gb433)); have n14_ := Aside0.mk ((xNl BK441.out hg : gb441 ≠ gb468)); have n15_ := Aside0.mk ((xNr BK441.out hg : gb468 ≠ gb441)); have n16_ := Aside0.mk ((xNl BK442.out hg : gb442 ≠ gb468)); have n17_ := Aside0.mk ((xNr BK442.out hg : gb468 ≠ gb442)); have n18_ := Aside0.mk ((xNl BK458.out hg : gb458 ≠ gb468)); have n19_ := Aside0.mk ((xNr BK458.out hg : gb468 ≠ gb458)); have n20_ := Aside0.mk ((xNl BK463.out hg : gb463 ≠ gb468)); have n21_ := Aside0.mk ((xNr BK463.out hg : gb468 ≠ gb463)); clear BK427; clear BK433; clear BK441; clear BK442; clear BK458; clear BK463; clear HB; have BK427 := n0_; have BK433 := n1_; have BK441 := n2_; have BK442 := n3_; have BK458 := n4_; have BK463 := n5_; have HB := n6_; have BK468 := n7_; have GW468 := n8_; have GE468 := n9_; have NB427_468 := n10_; have NB468_427 := n11_; have NB433_468 := n12_; have NB468_433 := n13_; have NB441_468 := n14_; have NB468_441 := n15_; have NB442_468 := n16_; have NB468_442 := n17_; have NB458_468 := n18_; have NB468_458 := n19_; have NB463_468 := n20_; have NB468_463 := n21_; clear n0_ n1_ n2_ n3_ n4_ n5_ n6_ n7_ n8_ n9_ n10_ n11_ n12_ n13_ n14_ n15_ n16_ n17_ n18_ n19_ n20_ n21_; clear hb hbox hg; have hnb116 := NB468_427.out; have hnc116 := NB427_468.out; have hnb117 := NB468_433.out; have hnc117 := NB433_468.out; have hnb118 := NB468_441.out; have hnc118 := NB441_468.out; have hnb119 := NB468_442.out; have hnc119 := NB442_468.out; have hnb120 := NB468_458.out; have hnc120 := NB458_468.out; have hnb121 := NB468_463.out; have hnc121 := NB463_468.out; have hcz122_0 : w115.cell? ⟨gb468, 0, none⟩ = some (.int .u64 0) := (blk_cell BK468.out 0).trans rfl; have hcz122_1 : w115.cell? ⟨gb468, 1, none⟩ = some (.int .u64 0) := (blk_cell BK468.out 1).trans rfl; have hcz122_2 : w115.cell? ⟨gb468, 2, none⟩ = some (.int .i64 0) := (blk_cell BK468.out 2).trans rfl; have hfz122_0 := blk_frozen BK468.out 0; have hfz122_1 := blk_frozen BK468.out 1; have hfz122_2 := blk_frozen BK468.out 2; have hcz123_0 : w115.cell? ⟨gb441, 0, none⟩ = some (.int .u64 t434) := (blk_cell BK441.out 0).trans rfl; have hcz123_1 : w115.cell? ⟨gb441, 1, none⟩ = some (.int .u64 t435) := (blk_cell BK441.out 1).trans rfl; have hcz123_2 : w115.cell? ⟨gb441, 2, none⟩ = some (.int .i64 t436) := (blk_cell BK441.out 2).trans rfl; have hfz123_0 := blk_frozen BK441.out 0; have hfz123_1 := blk_frozen BK441.out 1; have hfz123_2 := blk_frozen BK441.out 2) | ((with_reducible refine gate_callee (f := 33) rfl ?_); refine goesL_ (some 94) rfl rfl Tryd.func33 (by kernel_rfl) rfl #[.agg #[.int .u64 t434, .int .u64 t435, .int .i64 t436]] rfl xM ?_; (with_reducible refine (prefix_Sibling.calls t434 t435 t436 t469 t470 t471 true _ A73.out).mono ?_); rintro e w124 ⟨rfl, hb⟩; refine ⟨_, rfl, ?_⟩; have n0_ := Aside0.mk (blk_below (g := gb427) (o := .cells #[.int .u64 a1_0, .int .u64 a1_1] 24 (0, 0)) (by (with_reducible repeat (first | refine blk_drewN ?_ _ | refine blk_drew ?_ | refine blk_alloc ?_ _)); refine blk_far ?_ NB427_468.out _; (with_reducible repeat (first | refine blk_drewN ?_ _ | refine blk_drew ?_ | refine blk_alloc ?_ _)); refine blk_far ?_ NB427_468.out _; (with_reducible repeat (first | refine blk_drewN ?_ _ | refine blk_drew ?_ | refine blk_alloc ?_ _)); refine blk_far ?_ NB427_468.out _; (with_reducible repeat (first | refine blk_drewN ?_ _ | refine blk_drew ?_ | refine blk_alloc ?_ _)); exact BK427.out) hb); have n1_ := Aside0.mk (blk_below (g := gb433) (o := .cells #[.int .u64 t430, .int .u64 t431, .int .i64 t432] 28 (0, 0)) (by (with_reducible repeat (first | refine blk_drewN ?_ _ | refine blk_drew ?_ | refine blk_alloc ?_ _)); refine blk_far ?_ NB433_468.out _; (with_reducible repeat (first | refine blk_drewN ?_ _ | refine blk_drew ?_ | refine blk_alloc ?_ _)); refine blk_far ?_ NB433_468.out _; (with_reducible repeat (first | refine blk_drewN ?_ _ | refine blk_drew ?_ | refine blk_alloc ?_ _)); refine blk_far ?_ NB433_468.out _; (with_reducible repeat (first | refine blk_drewN ?_ _ | refine blk_drew ?_ | refine blk_alloc ?_ _)); exact BK433.out) hb); have n2_ := Aside0.mk (blk_below (g := gb441) (o := .cells #[.int .u64 t434, .int .u64 t435, .int .i64 t436] 28 (0, 0)) (by (with_reducible repeat (first | refine blk_drewN ?_ _ | refine blk_drew ?_ | refine blk_alloc ?_ _)); refine blk_far ?_ NB441_468.out _; (with_reducible repeat (first | refine blk_drewN ?_ _ | refine blk_drew ?_ | refine blk_alloc ?_ _)); refine blk_far ?_ NB441_468.out _; (with_reducible repeat (first | refine blk_drewN ?_ _ | refine blk_drew ?_ | refine blk_alloc ?_ _)); refine blk_far ?_ NB441_468.out _; (with_reducible repeat (first | refine blk_drewN ?_ _ | refine blk_drew ?_ | refine blk_alloc ?_ _)); exact BK441.out) hb); have n3_ := Aside0.mk (blk_below (g := gb442) (o := .cells #[.int .u64 t437, .int .u64 t438, .int .i64 t439] 28 (0, 0)) (by (with_reducible repeat (first | refine blk_drewN ?_ _ | refine blk_drew ?_ | refine blk_alloc ?_ _)); refine blk_far ?_ NB442_468.out _; (with_reducible repeat (first | refine blk_drewN ?_ _ | refine blk_drew ?_ | refine blk_alloc ?_ _)); refine blk_far ?_ NB442_468.out _; (with_reducible repeat (first | refine blk_drewN ?_ _ | refine blk_drew ?_ | refine blk_alloc ?_ _)); refine blk_far ?_ NB442_468.out _; (with_reducible repeat (first | refine blk_drewN ?_ _ | refine blk_drew ?_ | refine blk_alloc ?_ _)); exact BK442.out) hb); have n4_ := Aside0.mk (blk_below (g := gb458) (o := .cells #[.int .u64 t455, .int .u64 t456] 24 (0, 0)) (by (with_reducible repeat (first | refine blk_drewN ?_ _ | refine blk_drew ?_ | refine blk_alloc ?_ _)); refine blk_far ?_ NB458_468.out _; (with_reducible repeat (first | refine blk_drewN ?_ _ | refine blk_drew ?_ | refine blk_alloc ?_ _)); refine blk_far ?_ NB458_468.out _; (with_reducible repeat (first | refine blk_drewN ?_ _ | refine blk_drew ?_ | refine blk_alloc ?_ _)); refine blk_far ?_ NB458_468.out _; (with_reducible repeat (first | refine blk_drewN ?_ _ | refine blk_drew ?_ | refine blk_alloc ?_ _)); exact BK458.out) hb); have n5_ := Aside0.mk (blk_below (g := gb463) (o := .cells #[.int .u64 t459, .int .u64 t460, .int .i64 t461] 28 (0, 0)) (by (with_reducible repeat (first | refine blk_drewN ?_ _ | refine blk_drew ?_ | refine blk_alloc ?_ _)); refine blk_far ?_ NB463_468.out _; (with_reducible repeat (first | refine blk_drewN ?_ _ | refine blk_drew ?_ | refine blk_alloc ?_ _)); refine blk_far ?_ NB463_468.out _; (with_reducible repeat (first | refine blk_drewN ?_ _ | refine blk_drew ?_ | refine blk_alloc ?_ _)); refine blk_far ?_ NB463_468.out _; (with_reducible repeat (first | refine blk_drewN ?_ _ | refine blk_drew ?_ | refine blk_alloc ?_ _)); exact BK463.out) hb); have n6_ := Aside0.mk (blk_below (g := gb468) (o := .cells #[.int .u64 t464, .int .u64 t465, .int .i64 t466] 28 (0, 0)) (by (with_reducible repeat (first | refine blk_drewN ?_ _ | refine blk_drew ?_ | refine blk_alloc ?_ _)); refine blk_put (cs := #[.int .u64 t464, .int .u64 t465, .int .i64 0]) ?_ 2 _ rfl; (with_reducible repeat (first | refine blk_drewN ?_ _ | refine blk_drew ?_ | refine blk_alloc ?_ _)); refine blk_put (cs := #[.int .u64 t464, .int .u64 0, .int .i64 0]) ?_ 1 _ rfl; (with_reducible repeat (first | refine blk_drewN ?_ _ | refine blk_drew ?_ | refine blk_alloc ?_ _)); refine blk_put (cs := #[.int .u64 0, .int .u64 0, .int .i64 0]) ?_ 0 _ rfl; (with_reducible repeat (first | refine blk_drewN ?_ _ | refine blk_drew ?_ | refine blk_alloc ?_ _)); exact BK468.out) hb); have n7_ := Aside0.mk (below_step xG hb); clear BK427; clear BK433; clear BK441; clear BK442; clear BK458; clear BK463; clear BK468; clear HB; have BK427 := n0_; have BK433 := n1_; have BK441 := n2_; have BK442 := n3_; have BK458 := n4_; have BK463 := n5_; have BK468 := n6_; have HB := n7_; clear n0_ n1_ n2_ n3_ n4_ n5_ n6_ n7_; (try clear hb); (try clear hb2); (try clear hk); (try clear hi)) | ((with_reducible refine gate_dst (N := 18) rfl ?_); refine box_event ?hg (N := 18) ?hd (cs := #[.int .u64 0, .int .u64 0, .int .i64 0]) (t := 28) ?hr ?_; (case hd => rfl); (case hg => rfl); (case hr => first | (go_simp; done) | (go_simp; rfl)); intro gb473 hg w125 hbox hb; have n0_ := xP BK427.out hb; have n1_ := xP BK433.out hb; have n2_ := xP BK441.out hb; have n3_ := xP BK442.out hb; have n4_ := xP BK458.out hb; have n5_ := xP BK463.out hb; have n6_ := xP BK468.out hb; have n7_ := Aside0.mk (below_step xG hb); have n8_ := Aside0.mk (hbox); have n9_ := xT w hg; have n10_ := xT w hg; have n11_ := Aside0.mk ((xNl BK427.out hg : gb427 ≠ gb473)); have n12_ := Aside0.mk ((xNr BK427.out hg : gb473 ≠ gb427)); have n13_ := Aside0.mk ((xNl BK433.out hg : gb433 ≠ gb473)); have n14_ := Aside0.mk ((xNr BK433.out hg : gb473 ≠ gb433)); have n15_ := Aside0.mk ((xNl BK441.out hg : gb441 ≠ gb473)); have n16_ := Aside0.mk ((xNr BK441.out hg : gb473 ≠ gb441)); have n17_ := Aside0.mk ((xNl BK442.out hg : gb442 ≠ gb473)); have n18_ := Aside0.mk ((xNr BK442.out hg : gb473 ≠ gb442)); have n19_ := Aside0.mk ((xNl BK458.out hg : gb458 ≠ gb473)); have n20_ := Aside0.mk ((xNr BK458.out hg : gb473 ≠ gb458)); have n21_ := Aside0.mk ((xNl BK463.out hg : gb463 ≠ gb473)); have n22_ := Aside0.mk ((xNr BK463.out hg : gb473 ≠ gb463)); have n23_ := Aside0.mk ((xNl BK468.out hg : gb468 ≠ gb473)); have n24_ := Aside0.mk ((xNr BK468.out hg : gb473 ≠ gb468)); clear BK427; clear BK433; clear BK441; clear BK442; clear BK458; clear BK463; clear BK468; clear HB; have BK427 := n0_; have BK433 := n1_; have BK441 := n2_; have BK442 := n3_; have BK458 := n4_; have BK463 := n5_; have BK468 := n6_; have HB := n7_; have BK473 := n8_; have GW473 := n9_; have GE473 := n10_; have NB427_473 := n11_; have NB473_427 := n12_; have NB433_473 := n13_; have NB473_433 := n14_; have NB441_473 := n15_; have NB473_441 := n16_; have NB442_473 := n17_; have NB473_442 := n18_; have NB458_473 := n19_; have NB473_458 := n20_; have NB463_473 := n21_; have NB473_463 := n22_; have NB468_473 := n23_; have NB473_468 := n24_; clear n0_ n1_ n2_ n3_ n4_ n5_ n6_ n7_ n8_ n9_ n10_ n11_ n12_ n13_ n14_ n15_ n16_ n17_ n18_ n19_ n20_ n21_ n22_ n23_ n24_; clear hb hbox hg; have hnb126 := NB473_427.out; have hnc126 := NB427_473.out; have hnb127 := NB473_433.out; have hnc127 := NB433_473.out; have hnb128 := NB473_441.out; have hnc128 := NB441_473.out; have hnb129 := NB473_442.out; have hnc129 := NB442_473.out; have hnb130 := NB473_458.out; have hnc130 := NB458_473.out; have hnb131 := NB473_463.out; have hnc131 := NB463_473.out; have hnb132 := NB473_468.out; have hnc132 := NB468_473.out; have hcz133_0 : w125.cell? ⟨gb473, 0, none⟩ = some (.int .u64 0) := (blk_cell BK473.out 0).trans rfl; have hcz133_1 : w125.cell? ⟨gb473, 1, none⟩ = some (.int .u64 0) := (blk_cell BK473.out 1).trans rfl; have hcz133_2 : w125.cell? ⟨gb473, 2, none⟩ = some (.int .i64 0) := (blk_cell BK473.out 2).trans rfl; have hfz133_0 := blk_frozen BK473.out 0; have hfz133_1 := blk_frozen BK473.out 1; have hfz133_2 := blk_frozen BK473.out 2; have hcz134_0 : w125.cell? ⟨gb442, 0, none⟩ = some (.int .u64 t437) := (blk_cell BK442.out 0).trans rfl; have hcz134_1 : w125.cell? ⟨gb442, 1, none⟩ = some (.int .u64 t438) := (blk_cell BK442.out 1).trans rfl; have hcz134_2 : w125.cell? ⟨gb442, 2, none⟩ = some (.int .i64 t439) := (blk_cell BK442.out 2).trans rfl; have hfz134_0 := blk_frozen BK442.out 0; have hfz134_1 := blk_frozen BK442.out 1; have hfz134_2 := blk_frozen BK442.out 2) | ((with_reducible refine gate_callee (f := 33) rfl ?_); refine goesL_ (some 99) rfl rfl Tryd.func33 (by kernel_rfl) rfl #[.agg #[.int .u64 t437, .int .u64 t438, .int .i64 t439]] rfl xM ?_; (with_reducible refine (prefix_Sibling.calls t437 t438 t439 t474 t475 t476 true _ A74.out).mono ?_); rintro e w135 ⟨rfl, hb⟩; refine ⟨_, rfl, ?_⟩; have n0_ := Aside0.mk (blk_below (g := gb427) (o := .cells #[.int .u64 a1_0, .int .u64 a1_1] 24 (0, 0)) (by (with_reducible repeat (first | refine blk_drewN ?_ _ | refine blk_drew ?_ | refine blk_alloc ?_ _)); refine blk_far ?_ NB427_473.out _; (with_reducible repeat (first | refine blk_drewN ?_ _ | refine blk_drew ?_ | refine blk_alloc ?_ _)); refine blk_far ?_ NB427_473.out _; (with_reducible repeat (first | refine blk_drewN ?_ _ | refine blk_drew ?_ | refine blk_alloc ?_ _)); refine blk_far ?_ NB427_473.out _; (with_reducible repeat (first | refine blk_drewN ?_ _ | refine blk_drew ?_ | refine blk_alloc ?_ _)); exact BK427.out) hb); have n1_ := Aside0.mk (blk_below (g := gb433) (o := .cells #[.int .u64 t430, .int .u64 t431, .int .i64 t432] 28 (0, 0)) (by (with_reducible repeat (first | refine blk_drewN ?_ _ | refine blk_drew ?_ | refine blk_alloc ?_ _)); refine blk_far ?_ NB433_473.out _; (with_reducible repeat (first | refine blk_drewN ?_ _ | refine blk_drew ?_ | refine blk_alloc ?_ _)); refine blk_far ?_ NB433_473.out _; (with_reducible repeat (first | refine blk_drewN ?_ _ | refine blk_drew ?_ | refine blk_alloc ?_ _)); refine blk_far ?_ NB433_473.out _; (with_reducible repeat (first | refine blk_drewN ?_ _ | refine blk_drew ?_ | refine blk_alloc ?_ _)); exact BK433.out) hb); have n2_ := Aside0.mk (blk_below (g := gb441) (o := .cells #[.int .u64 t434, .int .u64 t435, .int .i64 t436] 28 (0, 0)) (by (with_reducible repeat (first | refine blk_drewN ?_ _ | refine blk_drew ?_ | refine blk_alloc ?_ _)); refine blk_far ?_ NB441_473.out _; (with_reducible repeat (first | refine blk_drewN ?_ _ | refine blk_drew ?_ | refine blk_alloc ?_ _)); refine blk_far ?_ NB441_473.out _; (with_reducible repeat (first | refine blk_drewN ?_ _ | refine blk_drew ?_ | refine blk_alloc ?_ _)); refine blk_far ?_ NB441_473.out _; (with_reducible repeat (first | refine blk_drewN ?_ _ | refine blk_drew ?_ | refine blk_alloc ?_ _)); exact BK441.out) hb); have n3_ := Aside0.mk (blk_below (g := gb442) (o := .cells #[.int .u64 t437, .int .u64 t438, .int .i64 t439] 28 (0, 0)) (by (with_reducible repeat (first | refine blk_drewN ?_ _ | refine blk_drew ?_ | refine blk_alloc ?_ _)); refine blk_far ?_ NB442_473.out _; (with_reducible repeat (first | refine blk_drewN ?_ _ | refine blk_drew ?_ | refine blk_alloc ?_ _)); refine blk_far ?_ NB442_473.out _; (with_reducible repeat (first | refine blk_drewN ?_ _ | refine blk_drew ?_ | refine blk_alloc ?_ _)); refine blk_far ?_ NB442_473.out _; (with_reducible repeat (first | refine blk_drewN ?_ _ | refine blk_drew ?_ | refine blk_alloc ?_ _)); exact BK442.out) hb); have n4_ := Aside0.mk (blk_below (g := gb458) (o := .cells #[.int .u64 t455, .int .u64 t456] 24 (0, 0)) (by (with_reducible repeat (first | refine blk_drewN ?_ _ | refine blk_drew ?_ | refine blk_alloc ?_ _)); refine blk_far ?_ NB458_473.out _; (with_reducible repeat (first | refine blk_drewN ?_ _ | refine blk_drew ?_ | refine blk_alloc ?_ _)); refine blk_far ?_ NB458_473.out _; (with_reducible repeat (first | refine blk_drewN ?_ _ | refine blk_drew ?_ | refine blk_alloc ?_ _)); refine blk_far ?_ NB458_473.out _; (with_reducible repeat (first | refine blk_drewN ?_ _ | refine blk_drew ?_ | refine blk_alloc ?_ _)); exact BK458.out) hb); have n5_ := Aside0.mk (blk_below (g := gb463) (o := .cells #[.int .u64 t459, .int .u64 t460, .int .i64 t461] 28 (0, 0)) (by (with_reducible repeat (first | refine blk_drewN ?_ _ | refine blk_drew ?_ | refine blk_alloc ?_ _)); refine blk_far ?_ NB463_473.out _; (with_reducible repeat (first | refine blk_drewN ?_ _ | refine blk_drew ?_ | refine blk_alloc ?_ _)); refine blk_far ?_ NB463_473.out _; (with_reducible repeat (first | refine blk_drewN ?_ _ | refine blk_drew ?_ | refine blk_alloc ?_ _)); refine blk_far ?_ NB463_473.out _; (with_reducible repeat (first | refine blk_drewN ?_ _ | refine blk_drew ?_ | refine blk_alloc ?_ _)); exact BK463.out) hb); have n6_ := Aside0.mk (blk_below (g := gb468) (o := .cells #[.int .u64 t464, .int .u64 t465, .int .i64 t466] 28 (0, 0)) (by (with_reducible repeat (first | refine blk_drewN ?_ _ | refine blk_drew ?_ | refine blk_alloc ?_ _)); refine blk_far ?_ NB468_473.out _; (with_reducible repeat (first | refine blk_drewN ?_ _ | refine blk_drew ?_ | refine blk_alloc ?_ _)); refine blk_far ?_ NB468_473.out _; (with_reducible repeat (first | refine blk_drewN ?_ _ | refine blk_drew ?_ | refine blk_alloc ?_ _)); refine blk_far ?_ NB468_473.out _; (with_reducible repeat (first | refine blk_drewN ?_ _ | refine blk_drew ?_ | refine blk_alloc ?_ _)); exact BK468.out) hb); have n7_ := Aside0.mk (blk_below (g := gb473) (o := .cells #[.int .u64 t469, .int .u64 t470, .int .i64 t471] 28 (0, 0)) (by (with_reducible repeat (first | refine blk_drewN ?_ _ | refine blk_drew ?_ | refine blk_alloc ?_ _)); refine blk_put (cs := #[.int .u64 t469, .int .u64 t470, .int .i64 0]) ?_ 2 _ rfl; (with_reducible repeat (first | refine blk_drewN ?_ _ | refine blk_drew ?_ | refine blk_alloc ?_ _)); refine blk_put (cs := #[.int .u64 t469, .int .u64 0, .int .i64 0]) ?_ 1 _ rfl; (with_reducible repeat (first | refine blk_drewN ?_ _ | refine blk_drew ?_ | refine blk_alloc ?_ _)); refine blk_put (cs := #[.int .u64 0, .int .u64 0, .int .i64 0]) ?_ 0 _ rfl; (with_reducible repeat (first | refine blk_drewN ?_ _ | refine blk_drew ?_ | refine blk_alloc ?_ _)); exact BK473.out) hb); have n8_ := Aside0.mk (below_step xG hb); clear BK427; clear BK433; clear BK441; clear BK442; clear BK458; clear BK463; clear BK468; clear BK473; clear HB; have BK427 := n0_; have BK433 := n1_; have BK441 := n2_; have BK442 := n3_; have BK458 := n4_; have BK463 := n5_; have BK468 := n6_; have BK473 := n7_; have HB := n8_; clear n0_ n1_ n2_ n3_ n4_ n5_ n6_ n7_ n8_; (try clear hb); (try clear hb2); (try clear hk); (try clear hi)) | ((with_reducible refine gate_dst (N := 20) rfl ?_); refine box_event ?hg (N := 20) ?hd (cs := #[.int .u64 0, .int .u64 0, .int .i64 0]) (t := 28) ?hr ?_; (case hd => rfl); (case hg => rfl); (case hr => first | (go_simp; done) | (go_simp; rfl)); intro gb478 hg w136 hbox hb; have n0_ := xP BK427.out hb; have n1_ := xP BK433.out hb; have n2_ := xP BK441.out hb; have n3_ := xP BK442.out hb; have n4_ := xP BK458.out hb; have n5_ := xP BK463.out hb; have n6_ := xP BK468.out hb; have n7_ := xP BK473.out hb; have n8_ := Aside0.mk (below_step xG hb); have n9_ := Aside0.mk (hbox); have n10_ := xT w hg; have n11_ := xT w hg; have n12_ := Aside0.mk ((xNl BK427.out hg : gb427 ≠ gb478)); have n13_ := Aside0.mk ((xNr BK427.out hg : gb478 ≠ gb427)); have n14_ := Aside0.mk ((xNl BK433.out hg : gb433 ≠ gb478)); have n15_ := Aside0.mk ((xNr BK433.out hg : gb478 ≠ gb433)); have n16_ := Aside0.mk ((xNl BK441.out hg : gb441 ≠ gb478)); have n17_ := Aside0.mk ((xNr BK441.out hg : gb478 ≠ gb441)); have n18_ := Aside0.mk ((xNl BK442.out hg : gb442 ≠ gb478)); have n19_ := Aside0.mk ((xNr BK442.out hg : gb478 ≠ gb442)); have n20_ := Aside0.mk ((xNl BK458.out hg : gb458 ≠ gb478)); have n21_ := Aside0.mk ((xNr BK458.out hg : gb478 ≠ gb458)); have n22_ := Aside0.mk ((xNl BK463.out hg : gb463 ≠ gb478)); have n23_ := Aside0.mk ((xNr BK463.out hg : gb478 ≠ gb463)); have n24_ := Aside0.mk ((xNl BK468.out hg : gb468 ≠ gb478)); have n25_ := Aside0.mk ((xNr BK468.out hg : gb478 ≠ gb468)); have n26_ := Aside0.mk ((xNl BK473.out hg : gb473 ≠ gb478)); have n27_ := Aside0.mk ((xNr BK473.out hg : gb478 ≠ gb473)); clear BK427; clear BK433; clear BK441; clear BK442; clear BK458; clear BK463; clear BK468; clear BK473; clear HB; have BK427 := n0_; have BK433 := n1_; have BK441 := n2_; have BK442 := n3_; have BK458 := n4_; have BK463 := n5_; have BK468 := n6_; have BK473 := n7_; have HB := n8_; have BK478 := n9_; have GW478 := n10_; have GE478 := n11_; have NB427_478 := n12_; have NB478_427 := n13_; have NB433_478 := n14_; have NB478_433 := n15_; have NB441_478 := n16_; have NB478_441 := n17_; have NB442_478 := n18_; have NB478_442 := n19_; have NB458_478 := n20_; have NB478_458 := n21_; have NB463_478 := n22_; have NB478_463 := n23_; have NB468_478 := n24_; have NB478_468 := n25_; have NB473_478 := n26_; have NB478_473 := n27_; clear n0_ n1_ n2_ n3_ n4_ n5_ n6_ n7_ n8_ n9_ n10_ n11_ n12_ n13_ n14_ n15_ n16_ n17_ n18_ n19_ n20_ n21_ n22_ n23_ n24_ n25_ n26_ n27_; clear hb hbox hg; have hnb137 := NB478_427.out; have hnc137 := NB427_478.out; have hnb138 := NB478_433.out; have hnc138 := NB433_478.out; have hnb139 := NB478_441.out; have hnc139 := NB441_478.out; have hnb140 := NB478_442.out; have hnc140 := NB442_478.out; have hnb141 := NB478_458.out; have hnc141 := NB458_478.out; have hnb142 := NB478_463.out; have hnc142 := NB463_478.out; have hnb143 := NB478_468.out; have hnc143 := NB468_478.out; have hnb144 := NB478_473.out; have hnc144 := NB473_478.out; have hcz145_0 : w136.cell? ⟨gb478, 0, none⟩ = some (.int .u64 0) := (blk_cell BK478.out 0).trans rfl; have hcz145_1 : w136.cell? ⟨gb478, 1, none⟩ = some (.int .u64 0) := (blk_cell BK478.out 1).trans rfl; have hcz145_2 : w136.cell? ⟨gb478, 2, none⟩ = some (.int .i64 0) := (blk_cell BK478.out 2).trans rfl; have hfz145_0 := blk_frozen BK478.out 0; have hfz145_1 := blk_frozen BK478.out 1; have hfz145_2 := blk_frozen BK478.out 2))
                 have n0_ : Aside0 ((((w136.setCell ⟨gb478, 0, none⟩ (.int .u64 t474)).setCell ⟨gb478, 1, none⟩ (.int .u64 t475)).setCell ⟨gb478, 2, none⟩ (.int .i64 t476)).heap[gb427]? = some (.cells #[.int .u64 a1_0, .int .u64 a1_1] 24 (0, 0))) := ⟨by (with_reducible repeat (first | refine blk_drewN ?_ _ | refine blk_drew ?_ | refine blk_alloc ?_ _)); refine blk_far ?_ NB427_478.out _; (with_reducible repeat (first | refine blk_drewN ?_ _ | refine blk_drew ?_ | refine blk_alloc ?_ _)); refine blk_far ?_ NB427_478.out _; (with_reducible repeat (first | refine blk_drewN ?_ _ | refine blk_drew ?_ | refine blk_alloc ?_ _)); refine blk_far ?_ NB427_478.out _; (with_reducible repeat (first | refine blk_drewN ?_ _ | refine blk_drew ?_ | refine blk_alloc ?_ _)); exact BK427.out⟩
                 have n1_ : Aside0 ((((w136.setCell ⟨gb478, 0, none⟩ (.int .u64 t474)).setCell ⟨gb478, 1, none⟩ (.int .u64 t475)).setCell ⟨gb478, 2, none⟩ (.int .i64 t476)).heap[gb433]? = some (.cells #[.int .u64 t430, .int .u64 t431, .int .i64 t432] 28 (0, 0))) := ⟨by (with_reducible repeat (first | refine blk_drewN ?_ _ | refine blk_drew ?_ | refine blk_alloc ?_ _)); refine blk_far ?_ NB433_478.out _; (with_reducible repeat (first | refine blk_drewN ?_ _ | refine blk_drew ?_ | refine blk_alloc ?_ _)); refine blk_far ?_ NB433_478.out _; (with_reducible repeat (first | refine blk_drewN ?_ _ | refine blk_drew ?_ | refine blk_alloc ?_ _)); refine blk_far ?_ NB433_478.out _; (with_reducible repeat (first | refine blk_drewN ?_ _ | refine blk_drew ?_ | refine blk_alloc ?_ _)); exact BK433.out⟩
                 have n2_ : Aside0 ((((w136.setCell ⟨gb478, 0, none⟩ (.int .u64 t474)).setCell ⟨gb478, 1, none⟩ (.int .u64 t475)).setCell ⟨gb478, 2, none⟩ (.int .i64 t476)).heap[gb441]? = some (.cells #[.int .u64 t434, .int .u64 t435, .int .i64 t436] 28 (0, 0))) := ⟨by (with_reducible repeat (first | refine blk_drewN ?_ _ | refine blk_drew ?_ | refine blk_alloc ?_ _)); refine blk_far ?_ NB441_478.out _; (with_reducible repeat (first | refine blk_drewN ?_ _ | refine blk_drew ?_ | refine blk_alloc ?_ _)); refine blk_far ?_ NB441_478.out _; (with_reducible repeat (first | refine blk_drewN ?_ _ | refine blk_drew ?_ | refine blk_alloc ?_ _)); refine blk_far ?_ NB441_478.out _; (with_reducible repeat (first | refine blk_drewN ?_ _ | refine blk_drew ?_ | refine blk_alloc ?_ _)); exact BK441.out⟩
                 have n3_ : Aside0 ((((w136.setCell ⟨gb478, 0, none⟩ (.int .u64 t474)).setCell ⟨gb478, 1, none⟩ (.int .u64 t475)).setCell ⟨gb478, 2, none⟩ (.int .i64 t476)).heap[gb442]? = some (.cells #[.int .u64 t437, .int .u64 t438, .int .i64 t439] 28 (0, 0))) := ⟨by (with_reducible repeat (first | refine blk_drewN ?_ _ | refine blk_drew ?_ | refine blk_alloc ?_ _)); refine blk_far ?_ NB442_478.out _; (with_reducible repeat (first | refine blk_drewN ?_ _ | refine blk_drew ?_ | refine blk_alloc ?_ _)); refine blk_far ?_ NB442_478.out _; (with_reducible repeat (first | refine blk_drewN ?_ _ | refine blk_drew ?_ | refine blk_alloc ?_ _)); refine blk_far ?_ NB442_478.out _; (with_reducible repeat (first | refine blk_drewN ?_ _ | refine blk_drew ?_ | refine blk_alloc ?_ _)); exact BK442.out⟩
                 have n4_ : Aside0 ((((w136.setCell ⟨gb478, 0, none⟩ (.int .u64 t474)).setCell ⟨gb478, 1, none⟩ (.int .u64 t475)).setCell ⟨gb478, 2, none⟩ (.int .i64 t476)).heap[gb458]? = some (.cells #[.int .u64 t455, .int .u64 t456] 24 (0, 0))) := ⟨by (with_reducible repeat (first | refine blk_drewN ?_ _ | refine blk_drew ?_ | refine blk_alloc ?_ _)); refine blk_far ?_ NB458_478.out _; (with_reducible repeat (first | refine blk_drewN ?_ _ | refine blk_drew ?_ | refine blk_alloc ?_ _)); refine blk_far ?_ NB458_478.out _; (with_reducible repeat (first | refine blk_drewN ?_ _ | refine blk_drew ?_ | refine blk_alloc ?_ _)); refine blk_far ?_ NB458_478.out _; (with_reducible repeat (first | refine blk_drewN ?_ _ | refine blk_drew ?_ | refine blk_alloc ?_ _)); exact BK458.out⟩
                 have n5_ : Aside0 ((((w136.setCell ⟨gb478, 0, none⟩ (.int .u64 t474)).setCell ⟨gb478, 1, none⟩ (.int .u64 t475)).setCell ⟨gb478, 2, none⟩ (.int .i64 t476)).heap[gb463]? = some (.cells #[.int .u64 t459, .int .u64 t460, .int .i64 t461] 28 (0, 0))) := ⟨by (with_reducible repeat (first | refine blk_drewN ?_ _ | refine blk_drew ?_ | refine blk_alloc ?_ _)); refine blk_far ?_ NB463_478.out _; (with_reducible repeat (first | refine blk_drewN ?_ _ | refine blk_drew ?_ | refine blk_alloc ?_ _)); refine blk_far ?_ NB463_478.out _; (with_reducible repeat (first | refine blk_drewN ?_ _ | refine blk_drew ?_ | refine blk_alloc ?_ _)); refine blk_far ?_ NB463_478.out _; (with_reducible repeat (first | refine blk_drewN ?_ _ | refine blk_drew ?_ | refine blk_alloc ?_ _)); exact BK463.out⟩
                 have n6_ : Aside0 ((((w136.setCell ⟨gb478, 0, none⟩ (.int .u64 t474)).setCell ⟨gb478, 1, none⟩ (.int .u64 t475)).setCell ⟨gb478, 2, none⟩ (.int .i64 t476)).heap[gb468]? = some (.cells #[.int .u64 t464, .int .u64 t465, .int .i64 t466] 28 (0, 0))) := ⟨by (with_reducible repeat (first | refine blk_drewN ?_ _ | refine blk_drew ?_ | refine blk_alloc ?_ _)); refine blk_far ?_ NB468_478.out _; (with_reducible repeat (first | refine blk_drewN ?_ _ | refine blk_drew ?_ | refine blk_alloc ?_ _)); refine blk_far ?_ NB468_478.out _; (with_reducible repeat (first | refine blk_drewN ?_ _ | refine blk_drew ?_ | refine blk_alloc ?_ _)); refine blk_far ?_ NB468_478.out _; (with_reducible repeat (first | refine blk_drewN ?_ _ | refine blk_drew ?_ | refine blk_alloc ?_ _)); exact BK468.out⟩
                 have n7_ : Aside0 ((((w136.setCell ⟨gb478, 0, none⟩ (.int .u64 t474)).setCell ⟨gb478, 1, none⟩ (.int .u64 t475)).setCell ⟨gb478, 2, none⟩ (.int .i64 t476)).heap[gb473]? = some (.cells #[.int .u64 t469, .int .u64 t470, .int .i64 t471] 28 (0, 0))) := ⟨by (with_reducible repeat (first | refine blk_drewN ?_ _ | refine blk_drew ?_ | refine blk_alloc ?_ _)); refine blk_far ?_ NB473_478.out _; (with_reducible repeat (first | refine blk_drewN ?_ _ | refine blk_drew ?_ | refine blk_alloc ?_ _)); refine blk_far ?_ NB473_478.out _; (with_reducible repeat (first | refine blk_drewN ?_ _ | refine blk_drew ?_ | refine blk_alloc ?_ _)); refine blk_far ?_ NB473_478.out _; (with_reducible repeat (first | refine blk_drewN ?_ _ | refine blk_drew ?_ | refine blk_alloc ?_ _)); exact BK473.out⟩
                 have n8_ : Aside0 ((((w136.setCell ⟨gb478, 0, none⟩ (.int .u64 t474)).setCell ⟨gb478, 1, none⟩ (.int .u64 t475)).setCell ⟨gb478, 2, none⟩ (.int .i64 t476)).heap[gb478]? = some (.cells #[.int .u64 t474, .int .u64 t475, .int .i64 t476] 28 (0, 0))) := ⟨by (with_reducible repeat (first | refine blk_drewN ?_ _ | refine blk_drew ?_ | refine blk_alloc ?_ _)); refine blk_put (cs := #[.int .u64 t474, .int .u64 t475, .int .i64 0]) ?_ 2 _ rfl; (with_reducible repeat (first | refine blk_drewN ?_ _ | refine blk_drew ?_ | refine blk_alloc ?_ _)); refine blk_put (cs := #[.int .u64 t474, .int .u64 0, .int .i64 0]) ?_ 1 _ rfl; (with_reducible repeat (first | refine blk_drewN ?_ _ | refine blk_drew ?_ | refine blk_alloc ?_ _)); refine blk_put (cs := #[.int .u64 0, .int .u64 0, .int .i64 0]) ?_ 0 _ rfl; (with_reducible repeat (first | refine blk_drewN ?_ _ | refine blk_drew ?_ | refine blk_alloc ?_ _)); exact BK478.out⟩
                 have n9_ : Aside0 (Below w.heap.size w (((w136.setCell ⟨gb478, 0, none⟩ (.int .u64 t474)).setCell ⟨gb478, 1, none⟩ (.int .u64 t475)).setCell ⟨gb478, 2, none⟩ (.int .i64 t476))) := ⟨xG⟩
                 (try clear BK427)
                 (try clear BK433)
                 (try clear BK441)
                 (try clear BK442)
                 (try clear BK458)
                 (try clear BK463)
                 (try clear BK468)
                 (try clear BK473)
                 (try clear BK478)
                 (try clear HB)
                 generalize (((w136.setCell ⟨gb478, 0, none⟩ (.int .u64 t474)).setCell ⟨gb478, 1, none⟩ (.int .u64 t475)).setCell ⟨gb478, 2, none⟩ (.int .i64 t476)) = w146 at n0_ n1_ n2_ n3_ n4_ n5_ n6_ n7_ n8_ n9_ ⊢
                 have BK427 := n0_
                 have BK433 := n1_
                 have BK441 := n2_
                 have BK442 := n3_
                 have BK458 := n4_
                 have BK463 := n5_
                 have BK468 := n6_
                 have BK473 := n7_
                 have BK478 := n8_
                 have HB := n9_
                 clear n0_ n1_ n2_ n3_ n4_ n5_ n6_ n7_ n8_ n9_
                 have n0_ := Aside0.mk (blk_drew BK427.out)
                 have n1_ := Aside0.mk (blk_drew BK433.out)
                 have n2_ := Aside0.mk (blk_drew BK441.out)
                 have n3_ := Aside0.mk (blk_drew BK442.out)
                 have n4_ := Aside0.mk (blk_drew BK458.out)
                 have n5_ := Aside0.mk (blk_drew BK463.out)
                 have n6_ := Aside0.mk (blk_drew BK468.out)
                 have n7_ := Aside0.mk (blk_drew BK473.out)
                 have n8_ := Aside0.mk (blk_drew BK478.out)
                 have n9_ := Aside0.mk (below_drew1 HB.out)
                 clear BK427
                 clear BK433
                 clear BK441
                 clear BK442
                 clear BK458
                 clear BK463
                 clear BK468
                 clear BK473
                 clear BK478
                 clear HB
                 have BK427 := n0_
                 have BK433 := n1_
                 have BK441 := n2_
                 have BK442 := n3_
                 have BK458 := n4_
                 have BK463 := n5_
                 have BK468 := n6_
                 have BK473 := n7_
                 have BK478 := n8_
                 have HB := n9_
                 clear n0_ n1_ n2_ n3_ n4_ n5_ n6_ n7_ n8_ n9_
                 refine start_ (n := 53) (S := fun w' => w'.cell? ⟨gb458, 0, none⟩ = some (.int .u64 t455) ∧ w'.cell? ⟨gb458, 1, none⟩ = some (.int .u64 t456) ∧ w'.cell? ⟨gb442, 0, none⟩ = some (.int .u64 t437) ∧ w'.cell? ⟨gb442, 1, none⟩ = some (.int .u64 t438) ∧ w'.cell? ⟨gb442, 2, none⟩ = some (.int .i64 t439) ∧ w'.cell? ⟨gb463, 0, none⟩ = some (.int .u64 t459) ∧ w'.cell? ⟨gb463, 1, none⟩ = some (.int .u64 t460) ∧ w'.cell? ⟨gb463, 2, none⟩ = some (.int .i64 t461) ∧ w'.cell? ⟨gb433, 0, none⟩ = some (.int .u64 t430) ∧ w'.cell? ⟨gb433, 1, none⟩ = some (.int .u64 t431) ∧ w'.cell? ⟨gb433, 2, none⟩ = some (.int .i64 t432) ∧ w'.cell? ⟨gb468, 0, none⟩ = some (.int .u64 t464) ∧ w'.cell? ⟨gb468, 1, none⟩ = some (.int .u64 t465) ∧ w'.cell? ⟨gb468, 2, none⟩ = some (.int .i64 t466) ∧ w'.cell? ⟨gb473, 0, none⟩ = some (.int .u64 t469) ∧ w'.cell? ⟨gb473, 1, none⟩ = some (.int .u64 t470) ∧ w'.cell? ⟨gb473, 2, none⟩ = some (.int .i64 t471) ∧ w'.cell? ⟨gb478, 0, none⟩ = some (.int .u64 t474) ∧ w'.cell? ⟨gb478, 1, none⟩ = some (.int .u64 t475) ∧ w'.cell? ⟨gb478, 2, none⟩ = some (.int .i64 t476) ∧ w'.cell? ⟨gb441, 0, none⟩ = some (.int .u64 t434) ∧ w'.cell? ⟨gb441, 1, none⟩ = some (.int .u64 t435) ∧ w'.cell? ⟨gb441, 2, none⟩ = some (.int .i64 t436)) (ds := []) #[false, false, false, false, false, false, false, false, false, false, false, false, false, false, false, false, false, false, false, false, false, false, false, false, false, false, false, false, false, false, false, false, false, false, false, false, false, false, false, false, false, false, false, false, false, false, false, false, false, false, false, false, false] (by kernel_rfl) rfl rfl ⟨(blk_cell BK458.out 0).trans rfl, (blk_cell BK458.out 1).trans rfl, (blk_cell BK442.out 0).trans rfl, (blk_cell BK442.out 1).trans rfl, (blk_cell BK442.out 2).trans rfl, (blk_cell BK463.out 0).trans rfl, (blk_cell BK463.out 1).trans rfl, (blk_cell BK463.out 2).trans rfl, (blk_cell BK433.out 0).trans rfl, (blk_cell BK433.out 1).trans rfl, (blk_cell BK433.out 2).trans rfl, (blk_cell BK468.out 0).trans rfl, (blk_cell BK468.out 1).trans rfl, (blk_cell BK468.out 2).trans rfl, (blk_cell BK473.out 0).trans rfl, (blk_cell BK473.out 1).trans rfl, (blk_cell BK473.out 2).trans rfl, (blk_cell BK478.out 0).trans rfl, (blk_cell BK478.out 1).trans rfl, (blk_cell BK478.out 2).trans rfl, (blk_cell BK441.out 0).trans rfl, (blk_cell BK441.out 1).trans rfl, (blk_cell BK441.out 2).trans rfl⟩ (fun hHeld => ?_); refine with_tabW turnpikelaw3_PrefixHalves.tab15 turnpikelaw3_PrefixHalves.bits15 (fun HT_ HW_ => ?_)
                 generalize w146.drew = w147 at BK427 BK433 BK441 BK442 BK458 BK463 BK468 BK473 BK478 HB hHeld ⊢
                 refine pure_ (i := 0) (N := some 102) (v := ?_) (a' := ?_) #[true, false, false, false, false, false, false, false, false, false, false, false, false, false, false, false, false, false, false, false, false, false, false, false, false, false, false, false, false, false, false, false, false, false, false, false, false, false, false, false, false, false, false, false, false, false, false, false, false, false, false, false, false] rfl rfl (any_of HT_.out (by kernel_rfl)) (fun _ _ _ h => h) (Or.inl ⟨by rfl, ?_⟩) ?_ ?_
                 rotate_left
                 ·intro w'
                  go_simp
                  with_reducible rfl
                 rotate_left
                 ·simp only [Act.put, List.setIfInBounds_toArray, List.set_cons_zero, List.set_cons_succ, i64_w, i32_w]
                  rfl
                 refine pure_ (i := 1) (N := some 103) (v := ?_) (a' := ?_) #[true, true, false, false, false, false, false, false, false, false, false, false, false, false, false, false, false, false, false, false, false, false, false, false, false, false, false, false, false, false, false, false, false, false, false, false, false, false, false, false, false, false, false, false, false, false, false, false, false, false, false, false, false] rfl rfl (any_of HT_.out (by kernel_rfl)) (fun _ _ _ h => h) (Or.inl ⟨by rfl, ?_⟩) ?_ ?_
                 rotate_left
                 ·intro w'
                  go_simp
                  with_reducible rfl
                 rotate_left
                 ·simp only [Act.put, List.setIfInBounds_toArray, List.set_cons_zero, List.set_cons_succ, i64_w, i32_w]
                  rfl
                 refine pure_ (i := 2) (N := some 104) (v := ?_) (a' := ?_) #[true, true, true, false, false, false, false, false, false, false, false, false, false, false, false, false, false, false, false, false, false, false, false, false, false, false, false, false, false, false, false, false, false, false, false, false, false, false, false, false, false, false, false, false, false, false, false, false, false, false, false, false, false] rfl rfl (any_of HT_.out (by kernel_rfl)) (fun _ _ _ h => h) (Or.inl ⟨by rfl, ?_⟩) ?_ ?_
                 rotate_left
                 ·intro w'
                  go_simp
                  with_reducible rfl
                 rotate_left
                 ·simp only [Act.put, List.setIfInBounds_toArray, List.set_cons_zero, List.set_cons_succ, i64_w, i32_w]
                  rfl
                 refine take_ (i := 3) (N := some 105) (v := ?_) (a' := ?_) #[true, true, true, true, false, false, false, false, false, false, false, false, false, false, false, false, false, false, false, false, false, false, false, false, false, false, false, false, false, false, false, false, false, false, false, false, false, false, false, false, false, false, false, false, false, false, false, false, false, false, false, false, false] rfl rfl (take_ofW HT_.out HW_.out (by kernel_rfl)) (fun _ _ _ h => h) (Or.inl ⟨by rfl, ?_⟩) hHeld ?_ ?_
                 rotate_left
                 ·rintro w' ⟨s0, s1, s2, s3, s4, s5, s6, s7, s8, s9, s10, s11, s12, s13, s14, s15, s16, s17, s18, s19, s20, s21, s22⟩
                  go_simp
                  with_reducible rfl
                 rotate_left
                 ·simp only [Act.put, List.setIfInBounds_toArray, List.set_cons_zero, List.set_cons_succ, i64_w, i32_w]
                  rfl
                 refine take_ (i := 4) (N := some 106) (v := ?_) (a' := ?_) #[true, true, true, true, true, false, false, false, false, false, false, false, false, false, false, false, false, false, false, false, false, false, false, false, false, false, false, false, false, false, false, false, false, false, false, false, false, false, false, false, false, false, false, false, false, false, false, false, false, false, false, false, false] rfl rfl (take_ofW HT_.out HW_.out (by kernel_rfl)) (fun _ _ _ h => h) (Or.inl ⟨by rfl, ?_⟩) hHeld ?_ ?_
                 rotate_left
                 ·rintro w' ⟨s0, s1, s2, s3, s4, s5, s6, s7, s8, s9, s10, s11, s12, s13, s14, s15, s16, s17, s18, s19, s20, s21, s22⟩
                  go_simp
                  with_reducible rfl
                 rotate_left
                 ·simp only [Act.put, List.setIfInBounds_toArray, List.set_cons_zero, List.set_cons_succ, i64_w, i32_w]
                  rfl
                 refine one_ (i := 5) (N := some 107) #[true, true, true, true, true, true, false, false, false, false, false, false, false, false, false, false, false, false, false, false, false, false, false, false, false, false, false, false, false, false, false, false, false, false, false, false, false, false, false, false, false, false, false, false, false, false, false, false, false, false, false, false, false] rfl rfl (one_of HT_.out (by kernel_rfl)) (by decide) (fun K hK => ?_)
                 refine goes_ Tryd.func20 (by kernel_rfl) rfl #[.agg #[.int .u64 t437, .int .u64 t438, .int .i64 t439]] (by rfl) rfl rfl xM ?_
                 with_reducible refine (prefix_First.calls t437 t438 t439 t479 t480 _ A76.out).mono ?_
                 rintro e w148 ⟨rfl, hb⟩
                 refine ⟨_, rfl, ?_⟩
                 have n0_ := xP BK427.out hb
                 have n1_ := xP BK433.out hb
                 have n2_ := xP BK441.out hb
                 have n3_ := xP BK442.out hb
                 have n4_ := xP BK458.out hb
                 have n5_ := xP BK463.out hb
                 have n6_ := xP BK468.out hb
                 have n7_ := xP BK473.out hb
                 have n8_ := xP BK478.out hb
                 have n9_ := Aside0.mk (below_step xG hb)
                 clear BK427
                 clear BK433
                 clear BK441
                 clear BK442
                 clear BK458
                 clear BK463
                 clear BK468
                 clear BK473
                 clear BK478
                 clear HB
                 have BK427 := n0_
                 have BK433 := n1_
                 have BK441 := n2_
                 have BK442 := n3_
                 have BK458 := n4_
                 have BK463 := n5_
                 have BK468 := n6_
                 have BK473 := n7_
                 have BK478 := n8_
                 have HB := n9_
                 clear n0_ n1_ n2_ n3_ n4_ n5_ n6_ n7_ n8_ n9_
                 (try clear hb)
                 (try clear hb2)
                 (try clear hk)
                 (try clear hi)
                 refine hK.out _ _ ⟨(blk_cell BK458.out 0).trans rfl, (blk_cell BK458.out 1).trans rfl, (blk_cell BK442.out 0).trans rfl, (blk_cell BK442.out 1).trans rfl, (blk_cell BK442.out 2).trans rfl, (blk_cell BK463.out 0).trans rfl, (blk_cell BK463.out 1).trans rfl, (blk_cell BK463.out 2).trans rfl, (blk_cell BK433.out 0).trans rfl, (blk_cell BK433.out 1).trans rfl, (blk_cell BK433.out 2).trans rfl, (blk_cell BK468.out 0).trans rfl, (blk_cell BK468.out 1).trans rfl, (blk_cell BK468.out 2).trans rfl, (blk_cell BK473.out 0).trans rfl, (blk_cell BK473.out 1).trans rfl, (blk_cell BK473.out 2).trans rfl, (blk_cell BK478.out 0).trans rfl, (blk_cell BK478.out 1).trans rfl, (blk_cell BK478.out 2).trans rfl, (blk_cell BK441.out 0).trans rfl, (blk_cell BK441.out 1).trans rfl, (blk_cell BK441.out 2).trans rfl⟩ (fun hHeld => ?_)
                 clear hK K
                 refine norm_ (a' := ?_) ?_ ?_
                 rotate_left
                 ·show Act.put _ (some 107) _ = _
                  simp only [Act.put, List.setIfInBounds_toArray, List.set_cons_zero, List.set_cons_succ, i64_w, i32_w]
                  rfl
                 refine pure_ (i := 6) (N := some 108) (v := ?_) (a' := ?_) #[true, true, true, true, true, true, true, false, false, false, false, false, false, false, false, false, false, false, false, false, false, false, false, false, false, false, false, false, false, false, false, false, false, false, false, false, false, false, false, false, false, false, false, false, false, false, false, false, false, false, false, false, false] rfl rfl (any_of HT_.out (by kernel_rfl)) (fun _ _ _ h => h) (Or.inl ⟨by rfl, ?_⟩) ?_ ?_
                 rotate_left
                 ·intro w'
                  go_simp
                  with_reducible rfl
                 rotate_left
                 ·simp only [Act.put, List.setIfInBounds_toArray, List.set_cons_zero, List.set_cons_succ, i64_w, i32_w]
                  rfl
                 refine pure_ (i := 7) (N := some 109) (v := ?_) (a' := ?_) #[true, true, true, true, true, true, true, true, false, false, false, false, false, false, false, false, false, false, false, false, false, false, false, false, false, false, false, false, false, false, false, false, false, false, false, false, false, false, false, false, false, false, false, false, false, false, false, false, false, false, false, false, false] rfl rfl (any_of HT_.out (by kernel_rfl)) (fun _ _ _ h => h) (Or.inl ⟨by rfl, ?_⟩) ?_ ?_
                 rotate_left
                 ·intro w'
                  go_simp
                  with_reducible rfl
                 rotate_left
                 ·simp only [Act.put, List.setIfInBounds_toArray, List.set_cons_zero, List.set_cons_succ, i64_w, i32_w]
                  rfl
                 refine pure_ (i := 8) (N := some 110) (v := ?_) (a' := ?_) #[true, true, true, true, true, true, true, true, true, false, false, false, false, false, false, false, false, false, false, false, false, false, false, false, false, false, false, false, false, false, false, false, false, false, false, false, false, false, false, false, false, false, false, false, false, false, false, false, false, false, false, false, false] rfl rfl (any_of HT_.out (by kernel_rfl)) (fun _ _ _ h => h) (Or.inl ⟨by rfl, ?_⟩) ?_ ?_
                 rotate_left
                 ·intro w'
                  go_simp
                  with_reducible rfl
                 rotate_left
                 ·simp only [Act.put, List.setIfInBounds_toArray, List.set_cons_zero, List.set_cons_succ, i64_w, i32_w]
                  rfl
                 refine pure_ (i := 9) (N := some 111) (v := ?_) (a' := ?_) #[true, true, true, true, true, true, true, true, true, true, false, false, false, false, false, false, false, false, false, false, false, false, false, false, false, false, false, false, false, false, false, false, false, false, false, false, false, false, false, false, false, false, false, false, false, false, false, false, false, false, false, false, false] rfl rfl (any_of HT_.out (by kernel_rfl)) (fun _ _ _ h => h) (Or.inl ⟨by rfl, ?_⟩) ?_ ?_
                 rotate_left
                 ·intro w'
                  go_simp
                  with_reducible rfl
                 rotate_left
                 ·simp only [Act.put, List.setIfInBounds_toArray, List.set_cons_zero, List.set_cons_succ, i64_w, i32_w]
                  rfl
                 refine pure_ (i := 10) (N := some 112) (v := ?_) (a' := ?_) #[true, true, true, true, true, true, true, true, true, true, true, false, false, false, false, false, false, false, false, false, false, false, false, false, false, false, false, false, false, false, false, false, false, false, false, false, false, false, false, false, false, false, false, false, false, false, false, false, false, false, false, false, false] rfl rfl (any_of HT_.out (by kernel_rfl)) (fun _ _ _ h => h) (Or.inl ⟨by rfl, ?_⟩) ?_ ?_
                 rotate_left
                 ·intro w'
                  go_simp
                  with_reducible rfl
                 rotate_left
                 ·simp only [Act.put, List.setIfInBounds_toArray, List.set_cons_zero, List.set_cons_succ, i64_w, i32_w]
                  rfl
                 refine pure_ (i := 11) (N := some 113) (v := ?_) (a' := ?_) #[true, true, true, true, true, true, true, true, true, true, true, true, false, false, false, false, false, false, false, false, false, false, false, false, false, false, false, false, false, false, false, false, false, false, false, false, false, false, false, false, false, false, false, false, false, false, false, false, false, false, false, false, false] rfl rfl (any_of HT_.out (by kernel_rfl)) (fun _ _ _ h => h) (Or.inl ⟨by rfl, ?_⟩) ?_ ?_
                 rotate_left
                 ·intro w'
                  go_simp
                  with_reducible rfl
                 rotate_left
                 ·simp only [Act.put, List.setIfInBounds_toArray, List.set_cons_zero, List.set_cons_succ, i64_w, i32_w]
                  rfl
                 refine pure_ (i := 12) (N := some 114) (v := ?_) (a' := ?_) #[true, true, true, true, true, true, true, true, true, true, true, true, true, false, false, false, false, false, false, false, false, false, false, false, false, false, false, false, false, false, false, false, false, false, false, false, false, false, false, false, false, false, false, false, false, false, false, false, false, false, false, false, false] rfl rfl (any_of HT_.out (by kernel_rfl)) (fun _ _ _ h => h) (Or.inl ⟨by rfl, ?_⟩) ?_ ?_
                 rotate_left
                 ·intro w'
                  go_simp
                  with_reducible rfl
                 rotate_left
                 ·simp only [Act.put, List.setIfInBounds_toArray, List.set_cons_zero, List.set_cons_succ, i64_w, i32_w]
                  rfl
                 refine pure_ (i := 13) (N := some 115) (v := ?_) (a' := ?_) #[true, true, true, true, true, true, true, true, true, true, true, true, true, true, false, false, false, false, false, false, false, false, false, false, false, false, false, false, false, false, false, false, false, false, false, false, false, false, false, false, false, false, false, false, false, false, false, false, false, false, false, false, false] rfl rfl (any_of HT_.out (by kernel_rfl)) (fun _ _ _ h => h) (Or.inl ⟨by rfl, ?_⟩) ?_ ?_
                 rotate_left
                 ·intro w'
                  go_simp
                  with_reducible rfl
                 rotate_left
                 ·simp only [Act.put, List.setIfInBounds_toArray, List.set_cons_zero, List.set_cons_succ, i64_w, i32_w]
                  rfl
                 refine pure_ (i := 14) (N := some 116) (v := ?_) (a' := ?_) #[true, true, true, true, true, true, true, true, true, true, true, true, true, true, true, false, false, false, false, false, false, false, false, false, false, false, false, false, false, false, false, false, false, false, false, false, false, false, false, false, false, false, false, false, false, false, false, false, false, false, false, false, false] rfl rfl (any_of HT_.out (by kernel_rfl)) (fun _ _ _ h => h) (Or.inl ⟨by rfl, ?_⟩) ?_ ?_
                 rotate_left
                 ·intro w'
                  go_simp
                  with_reducible rfl
                 rotate_left
                 ·simp only [Act.put, List.setIfInBounds_toArray, List.set_cons_zero, List.set_cons_succ, i64_w, i32_w]
                  rfl
                 refine take_ (i := 15) (N := some 117) (v := ?_) (a' := ?_) #[true, true, true, true, true, true, true, true, true, true, true, true, true, true, true, true, false, false, false, false, false, false, false, false, false, false, false, false, false, false, false, false, false, false, false, false, false, false, false, false, false, false, false, false, false, false, false, false, false, false, false, false, false] rfl rfl (take_ofW HT_.out HW_.out (by kernel_rfl)) (fun _ _ _ h => h) (Or.inl ⟨by rfl, ?_⟩) hHeld ?_ ?_
                 rotate_left
                 ·rintro w' ⟨s0, s1, s2, s3, s4, s5, s6, s7, s8, s9, s10, s11, s12, s13, s14, s15, s16, s17, s18, s19, s20, s21, s22⟩
                  go_simp
                  with_reducible rfl
                 rotate_left
                 ·simp only [Act.put, List.setIfInBounds_toArray, List.set_cons_zero, List.set_cons_succ, i64_w, i32_w]
                  rfl
                 refine take_ (i := 16) (N := some 118) (v := ?_) (a' := ?_) #[true, true, true, true, true, true, true, true, true, true, true, true, true, true, true, true, true, false, false, false, false, false, false, false, false, false, false, false, false, false, false, false, false, false, false, false, false, false, false, false, false, false, false, false, false, false, false, false, false, false, false, false, false] rfl rfl (take_ofW HT_.out HW_.out (by kernel_rfl)) (fun _ _ _ h => h) (Or.inl ⟨by rfl, ?_⟩) hHeld ?_ ?_
                 rotate_left
                 ·rintro w' ⟨s0, s1, s2, s3, s4, s5, s6, s7, s8, s9, s10, s11, s12, s13, s14, s15, s16, s17, s18, s19, s20, s21, s22⟩
                  go_simp
                  with_reducible rfl
                 rotate_left
                 ·simp only [Act.put, List.setIfInBounds_toArray, List.set_cons_zero, List.set_cons_succ, i64_w, i32_w]
                  rfl
                 refine pure_ (i := 17) (N := some 119) (v := ?_) (a' := ?_) #[true, true, true, true, true, true, true, true, true, true, true, true, true, true, true, true, true, true, false, false, false, false, false, false, false, false, false, false, false, false, false, false, false, false, false, false, false, false, false, false, false, false, false, false, false, false, false, false, false, false, false, false, false] rfl rfl (any_of HT_.out (by kernel_rfl)) (fun _ _ _ h => h) (Or.inl ⟨by rfl, ?_⟩) ?_ ?_
                 rotate_left
                 ·intro w'
                  go_simp
                  with_reducible rfl
                 rotate_left
                 ·simp only [Act.put, List.setIfInBounds_toArray, List.set_cons_zero, List.set_cons_succ, i64_w, i32_w]
                  rfl
                 refine pure_ (i := 18) (N := some 120) (v := ?_) (a' := ?_) #[true, true, true, true, true, true, true, true, true, true, true, true, true, true, true, true, true, true, true, false, false, false, false, false, false, false, false, false, false, false, false, false, false, false, false, false, false, false, false, false, false, false, false, false, false, false, false, false, false, false, false, false, false] rfl rfl (any_of HT_.out (by kernel_rfl)) (fun _ _ _ h => h) (Or.inl ⟨by rfl, ?_⟩) ?_ ?_
                 rotate_left
                 ·intro w'
                  go_simp
                  with_reducible rfl
                 rotate_left
                 ·simp only [Act.put, List.setIfInBounds_toArray, List.set_cons_zero, List.set_cons_succ, i64_w, i32_w]
                  rfl
                 refine pure_ (i := 19) (N := some 121) (v := ?_) (a' := ?_) #[true, true, true, true, true, true, true, true, true, true, true, true, true, true, true, true, true, true, true, true, false, false, false, false, false, false, false, false, false, false, false, false, false, false, false, false, false, false, false, false, false, false, false, false, false, false, false, false, false, false, false, false, false] rfl rfl (any_of HT_.out (by kernel_rfl)) (fun _ _ _ h => h) (Or.inl ⟨by rfl, ?_⟩) ?_ ?_
                 rotate_left
                 ·intro w'
                  go_simp
                  with_reducible rfl
                 rotate_left
                 ·simp only [Act.put, List.setIfInBounds_toArray, List.set_cons_zero, List.set_cons_succ, i64_w, i32_w]
                  rfl
                 refine take_ (i := 20) (N := some 122) (v := ?_) (a' := ?_) #[true, true, true, true, true, true, true, true, true, true, true, true, true, true, true, true, true, true, true, true, true, false, false, false, false, false, false, false, false, false, false, false, false, false, false, false, false, false, false, false, false, false, false, false, false, false, false, false, false, false, false, false, false] rfl rfl (take_ofW HT_.out HW_.out (by kernel_rfl)) (fun _ _ _ h => h) (Or.inl ⟨by rfl, ?_⟩) hHeld ?_ ?_
                 rotate_left
                 ·rintro w' ⟨s0, s1, s2, s3, s4, s5, s6, s7, s8, s9, s10, s11, s12, s13, s14, s15, s16, s17, s18, s19, s20, s21, s22⟩
                  go_simp
                  with_reducible rfl
                 rotate_left
                 ·simp only [Act.put, List.setIfInBounds_toArray, List.set_cons_zero, List.set_cons_succ, i64_w, i32_w]
                  rfl
                 refine take_ (i := 21) (N := some 123) (v := ?_) (a' := ?_) #[true, true, true, true, true, true, true, true, true, true, true, true, true, true, true, true, true, true, true, true, true, true, false, false, false, false, false, false, false, false, false, false, false, false, false, false, false, false, false, false, false, false, false, false, false, false, false, false, false, false, false, false, false] rfl rfl (take_ofW HT_.out HW_.out (by kernel_rfl)) (fun _ _ _ h => h) (Or.inl ⟨by rfl, ?_⟩) hHeld ?_ ?_
                 rotate_left
                 ·rintro w' ⟨s0, s1, s2, s3, s4, s5, s6, s7, s8, s9, s10, s11, s12, s13, s14, s15, s16, s17, s18, s19, s20, s21, s22⟩
                  go_simp
                  with_reducible rfl
                 rotate_left
                 ·simp only [Act.put, List.setIfInBounds_toArray, List.set_cons_zero, List.set_cons_succ, i64_w, i32_w]
                  rfl
                 refine pure_ (i := 22) (N := some 124) (v := ?_) (a' := ?_) #[true, true, true, true, true, true, true, true, true, true, true, true, true, true, true, true, true, true, true, true, true, true, true, false, false, false, false, false, false, false, false, false, false, false, false, false, false, false, false, false, false, false, false, false, false, false, false, false, false, false, false, false, false] rfl rfl (any_of HT_.out (by kernel_rfl)) (fun _ _ _ h => h) (Or.inl ⟨by rfl, ?_⟩) ?_ ?_
                 rotate_left
                 ·intro w'
                  go_simp
                  with_reducible rfl
                 rotate_left
                 ·simp only [Act.put, List.setIfInBounds_toArray, List.set_cons_zero, List.set_cons_succ, i64_w, i32_w]
                  rfl
                 refine pure_ (i := 23) (N := some 125) (v := ?_) (a' := ?_) #[true, true, true, true, true, true, true, true, true, true, true, true, true, true, true, true, true, true, true, true, true, true, true, true, false, false, false, false, false, false, false, false, false, false, false, false, false, false, false, false, false, false, false, false, false, false, false, false, false, false, false, false, false] rfl rfl (any_of HT_.out (by kernel_rfl)) (fun _ _ _ h => h) (Or.inl ⟨by rfl, ?_⟩) ?_ ?_
                 rotate_left
                 ·intro w'
                  go_simp
                  with_reducible rfl
                 rotate_left
                 ·simp only [Act.put, List.setIfInBounds_toArray, List.set_cons_zero, List.set_cons_succ, i64_w, i32_w]
                  rfl
                 refine pure_ (i := 24) (N := some 126) (v := ?_) (a' := ?_) #[true, true, true, true, true, true, true, true, true, true, true, true, true, true, true, true, true, true, true, true, true, true, true, true, true, false, false, false, false, false, false, false, false, false, false, false, false, false, false, false, false, false, false, false, false, false, false, false, false, false, false, false, false] rfl rfl (any_of HT_.out (by kernel_rfl)) (fun _ _ _ h => h) (Or.inl ⟨by rfl, ?_⟩) ?_ ?_
                 rotate_left
                 ·intro w'
                  go_simp
                  with_reducible rfl
                 rotate_left
                 ·simp only [Act.put, List.setIfInBounds_toArray, List.set_cons_zero, List.set_cons_succ, i64_w, i32_w]
                  rfl
                 refine pure_ (i := 25) (N := some 127) (v := ?_) (a' := ?_) #[true, true, true, true, true, true, true, true, true, true, true, true, true, true, true, true, true, true, true, true, true, true, true, true, true, true, false, false, false, false, false, false, false, false, false, false, false, false, false, false, false, false, false, false, false, false, false, false, false, false, false, false, false] rfl rfl (any_of HT_.out (by kernel_rfl)) (fun _ _ _ h => h) (Or.inl ⟨by rfl, ?_⟩) ?_ ?_
                 rotate_left
                 ·intro w'
                  go_simp
                  with_reducible rfl
                 rotate_left
                 ·simp only [Act.put, List.setIfInBounds_toArray, List.set_cons_zero, List.set_cons_succ, i64_w, i32_w]
                  rfl
                 refine pure_ (i := 26) (N := some 128) (v := ?_) (a' := ?_) #[true, true, true, true, true, true, true, true, true, true, true, true, true, true, true, true, true, true, true, true, true, true, true, true, true, true, true, false, false, false, false, false, false, false, false, false, false, false, false, false, false, false, false, false, false, false, false, false, false, false, false, false, false] rfl rfl (any_of HT_.out (by kernel_rfl)) (fun _ _ _ h => h) (Or.inl ⟨by rfl, ?_⟩) ?_ ?_
                 rotate_left
                 ·intro w'
                  go_simp
                  with_reducible rfl
                 rotate_left
                 ·simp only [Act.put, List.setIfInBounds_toArray, List.set_cons_zero, List.set_cons_succ, i64_w, i32_w]
                  rfl
                 refine pure_ (i := 27) (N := some 129) (v := ?_) (a' := ?_) #[true, true, true, true, true, true, true, true, true, true, true, true, true, true, true, true, true, true, true, true, true, true, true, true, true, true, true, true, false, false, false, false, false, false, false, false, false, false, false, false, false, false, false, false, false, false, false, false, false, false, false, false, false] rfl rfl (any_of HT_.out (by kernel_rfl)) (fun _ _ _ h => h) (Or.inl ⟨by rfl, ?_⟩) ?_ ?_
                 rotate_left
                 ·intro w'
                  go_simp
                  with_reducible rfl
                 rotate_left
                 ·simp only [Act.put, List.setIfInBounds_toArray, List.set_cons_zero, List.set_cons_succ, i64_w, i32_w]
                  rfl
                 refine pure_ (i := 28) (N := some 130) (v := ?_) (a' := ?_) #[true, true, true, true, true, true, true, true, true, true, true, true, true, true, true, true, true, true, true, true, true, true, true, true, true, true, true, true, true, false, false, false, false, false, false, false, false, false, false, false, false, false, false, false, false, false, false, false, false, false, false, false, false] rfl rfl (any_of HT_.out (by kernel_rfl)) (fun _ _ _ h => h) (Or.inl ⟨by rfl, ?_⟩) ?_ ?_
                 rotate_left
                 ·intro w'
                  go_simp
                  with_reducible rfl
                 rotate_left
                 ·simp only [Act.put, List.setIfInBounds_toArray, List.set_cons_zero, List.set_cons_succ, i64_w, i32_w]
                  rfl
                 refine pure_ (i := 29) (N := some 131) (v := ?_) (a' := ?_) #[true, true, true, true, true, true, true, true, true, true, true, true, true, true, true, true, true, true, true, true, true, true, true, true, true, true, true, true, true, true, false, false, false, false, false, false, false, false, false, false, false, false, false, false, false, false, false, false, false, false, false, false, false] rfl rfl (any_of HT_.out (by kernel_rfl)) (fun _ _ _ h => h) (Or.inl ⟨by rfl, ?_⟩) ?_ ?_
                 rotate_left
                 ·intro w'
                  go_simp
                  with_reducible rfl
                 rotate_left
                 ·simp only [Act.put, List.setIfInBounds_toArray, List.set_cons_zero, List.set_cons_succ, i64_w, i32_w]
                  rfl
                 refine pure_ (i := 30) (N := some 132) (v := ?_) (a' := ?_) #[true, true, true, true, true, true, true, true, true, true, true, true, true, true, true, true, true, true, true, true, true, true, true, true, true, true, true, true, true, true, true, false, false, false, false, false, false, false, false, false, false, false, false, false, false, false, false, false, false, false, false, false, false] rfl rfl (any_of HT_.out (by kernel_rfl)) (fun _ _ _ h => h) (Or.inl ⟨by rfl, ?_⟩) ?_ ?_
                 rotate_left
                 ·intro w'
                  go_simp
                  with_reducible rfl
                 rotate_left
                 ·simp only [Act.put, List.setIfInBounds_toArray, List.set_cons_zero, List.set_cons_succ, i64_w, i32_w]
                  rfl
                 refine take_ (i := 31) (N := some 133) (v := ?_) (a' := ?_) #[true, true, true, true, true, true, true, true, true, true, true, true, true, true, true, true, true, true, true, true, true, true, true, true, true, true, true, true, true, true, true, true, false, false, false, false, false, false, false, false, false, false, false, false, false, false, false, false, false, false, false, false, false] rfl rfl (take_ofW HT_.out HW_.out (by kernel_rfl)) (fun _ _ _ h => h) (Or.inl ⟨by rfl, ?_⟩) hHeld ?_ ?_
                 rotate_left
                 ·rintro w' ⟨s0, s1, s2, s3, s4, s5, s6, s7, s8, s9, s10, s11, s12, s13, s14, s15, s16, s17, s18, s19, s20, s21, s22⟩
                  go_simp
                  with_reducible rfl
                 rotate_left
                 ·simp only [Act.put, List.setIfInBounds_toArray, List.set_cons_zero, List.set_cons_succ, i64_w, i32_w]
                  rfl
                 refine take_ (i := 32) (N := some 134) (v := ?_) (a' := ?_) #[true, true, true, true, true, true, true, true, true, true, true, true, true, true, true, true, true, true, true, true, true, true, true, true, true, true, true, true, true, true, true, true, true, false, false, false, false, false, false, false, false, false, false, false, false, false, false, false, false, false, false, false, false] rfl rfl (take_ofW HT_.out HW_.out (by kernel_rfl)) (fun _ _ _ h => h) (Or.inl ⟨by rfl, ?_⟩) hHeld ?_ ?_
                 rotate_left
                 ·rintro w' ⟨s0, s1, s2, s3, s4, s5, s6, s7, s8, s9, s10, s11, s12, s13, s14, s15, s16, s17, s18, s19, s20, s21, s22⟩
                  go_simp
                  with_reducible rfl
                 rotate_left
                 ·simp only [Act.put, List.setIfInBounds_toArray, List.set_cons_zero, List.set_cons_succ, i64_w, i32_w]
                  rfl
                 refine pure_ (i := 33) (N := some 135) (v := ?_) (a' := ?_) #[true, true, true, true, true, true, true, true, true, true, true, true, true, true, true, true, true, true, true, true, true, true, true, true, true, true, true, true, true, true, true, true, true, true, false, false, false, false, false, false, false, false, false, false, false, false, false, false, false, false, false, false, false] rfl rfl (any_of HT_.out (by kernel_rfl)) (fun _ _ _ h => h) (Or.inl ⟨by rfl, ?_⟩) ?_ ?_
                 rotate_left
                 ·intro w'
                  go_simp
                  with_reducible rfl
                 rotate_left
                 ·simp only [Act.put, List.setIfInBounds_toArray, List.set_cons_zero, List.set_cons_succ, i64_w, i32_w]
                  rfl
                 refine pure_ (i := 34) (N := some 136) (v := ?_) (a' := ?_) #[true, true, true, true, true, true, true, true, true, true, true, true, true, true, true, true, true, true, true, true, true, true, true, true, true, true, true, true, true, true, true, true, true, true, true, false, false, false, false, false, false, false, false, false, false, false, false, false, false, false, false, false, false] rfl rfl (any_of HT_.out (by kernel_rfl)) (fun _ _ _ h => h) (Or.inl ⟨by rfl, ?_⟩) ?_ ?_
                 rotate_left
                 ·intro w'
                  go_simp
                  with_reducible rfl
                 rotate_left
                 ·simp only [Act.put, List.setIfInBounds_toArray, List.set_cons_zero, List.set_cons_succ, i64_w, i32_w]
                  rfl
                 refine pure_ (i := 35) (N := some 137) (v := ?_) (a' := ?_) #[true, true, true, true, true, true, true, true, true, true, true, true, true, true, true, true, true, true, true, true, true, true, true, true, true, true, true, true, true, true, true, true, true, true, true, true, false, false, false, false, false, false, false, false, false, false, false, false, false, false, false, false, false] rfl rfl (any_of HT_.out (by kernel_rfl)) (fun _ _ _ h => h) (Or.inl ⟨by rfl, ?_⟩) ?_ ?_
                 rotate_left
                 ·intro w'
                  go_simp
                  with_reducible rfl
                 rotate_left
                 ·simp only [Act.put, List.setIfInBounds_toArray, List.set_cons_zero, List.set_cons_succ, i64_w, i32_w]
                  rfl
                 refine take_ (i := 36) (N := some 138) (v := ?_) (a' := ?_) #[true, true, true, true, true, true, true, true, true, true, true, true, true, true, true, true, true, true, true, true, true, true, true, true, true, true, true, true, true, true, true, true, true, true, true, true, true, false, false, false, false, false, false, false, false, false, false, false, false, false, false, false, false] rfl rfl (take_ofW HT_.out HW_.out (by kernel_rfl)) (fun _ _ _ h => h) (Or.inl ⟨by rfl, ?_⟩) hHeld ?_ ?_
                 rotate_left
                 ·rintro w' ⟨s0, s1, s2, s3, s4, s5, s6, s7, s8, s9, s10, s11, s12, s13, s14, s15, s16, s17, s18, s19, s20, s21, s22⟩
                  go_simp
                  with_reducible rfl
                 rotate_left
                 ·simp only [Act.put, List.setIfInBounds_toArray, List.set_cons_zero, List.set_cons_succ, i64_w, i32_w]
                  rfl
                 refine take_ (i := 37) (N := some 139) (v := ?_) (a' := ?_) #[true, true, true, true, true, true, true, true, true, true, true, true, true, true, true, true, true, true, true, true, true, true, true, true, true, true, true, true, true, true, true, true, true, true, true, true, true, true, false, false, false, false, false, false, false, false, false, false, false, false, false, false, false] rfl rfl (take_ofW HT_.out HW_.out (by kernel_rfl)) (fun _ _ _ h => h) (Or.inl ⟨by rfl, ?_⟩) hHeld ?_ ?_
                 rotate_left
                 ·rintro w' ⟨s0, s1, s2, s3, s4, s5, s6, s7, s8, s9, s10, s11, s12, s13, s14, s15, s16, s17, s18, s19, s20, s21, s22⟩
                  go_simp
                  with_reducible rfl
                 rotate_left
                 ·simp only [Act.put, List.setIfInBounds_toArray, List.set_cons_zero, List.set_cons_succ, i64_w, i32_w]
                  rfl
                 refine pure_ (i := 38) (N := some 140) (v := ?_) (a' := ?_) #[true, true, true, true, true, true, true, true, true, true, true, true, true, true, true, true, true, true, true, true, true, true, true, true, true, true, true, true, true, true, true, true, true, true, true, true, true, true, true, false, false, false, false, false, false, false, false, false, false, false, false, false, false] rfl rfl (any_of HT_.out (by kernel_rfl)) (fun _ _ _ h => h) (Or.inl ⟨by rfl, ?_⟩) ?_ ?_
                 rotate_left
                 ·intro w'
                  go_simp
                  with_reducible rfl
                 rotate_left
                 ·simp only [Act.put, List.setIfInBounds_toArray, List.set_cons_zero, List.set_cons_succ, i64_w, i32_w]
                  rfl
                 refine pure_ (i := 39) (N := some 141) (v := ?_) (a' := ?_) #[true, true, true, true, true, true, true, true, true, true, true, true, true, true, true, true, true, true, true, true, true, true, true, true, true, true, true, true, true, true, true, true, true, true, true, true, true, true, true, true, false, false, false, false, false, false, false, false, false, false, false, false, false] rfl rfl (any_of HT_.out (by kernel_rfl)) (fun _ _ _ h => h) (Or.inl ⟨by rfl, ?_⟩) ?_ ?_
                 rotate_left
                 ·intro w'
                  go_simp
                  with_reducible rfl
                 rotate_left
                 ·simp only [Act.put, List.setIfInBounds_toArray, List.set_cons_zero, List.set_cons_succ, i64_w, i32_w]
                  rfl
                 refine pure_ (i := 40) (N := some 142) (v := ?_) (a' := ?_) #[true, true, true, true, true, true, true, true, true, true, true, true, true, true, true, true, true, true, true, true, true, true, true, true, true, true, true, true, true, true, true, true, true, true, true, true, true, true, true, true, true, false, false, false, false, false, false, false, false, false, false, false, false] rfl rfl (any_of HT_.out (by kernel_rfl)) (fun _ _ _ h => h) (Or.inl ⟨by rfl, ?_⟩) ?_ ?_
                 rotate_left
                 ·intro w'
                  go_simp
                  with_reducible rfl
                 rotate_left
                 ·simp only [Act.put, List.setIfInBounds_toArray, List.set_cons_zero, List.set_cons_succ, i64_w, i32_w]
                  rfl
                 refine take_ (i := 41) (N := some 143) (v := ?_) (a' := ?_) #[true, true, true, true, true, true, true, true, true, true, true, true, true, true, true, true, true, true, true, true, true, true, true, true, true, true, true, true, true, true, true, true, true, true, true, true, true, true, true, true, true, true, false, false, false, false, false, false, false, false, false, false, false] rfl rfl (take_ofW HT_.out HW_.out (by kernel_rfl)) (fun _ _ _ h => h) (Or.inl ⟨by rfl, ?_⟩) hHeld ?_ ?_
                 rotate_left
                 ·rintro w' ⟨s0, s1, s2, s3, s4, s5, s6, s7, s8, s9, s10, s11, s12, s13, s14, s15, s16, s17, s18, s19, s20, s21, s22⟩
                  go_simp
                  with_reducible rfl
                 rotate_left
                 ·simp only [Act.put, List.setIfInBounds_toArray, List.set_cons_zero, List.set_cons_succ, i64_w, i32_w]
                  rfl
                 refine take_ (i := 42) (N := some 144) (v := ?_) (a' := ?_) #[true, true, true, true, true, true, true, true, true, true, true, true, true, true, true, true, true, true, true, true, true, true, true, true, true, true, true, true, true, true, true, true, true, true, true, true, true, true, true, true, true, true, true, false, false, false, false, false, false, false, false, false, false] rfl rfl (take_ofW HT_.out HW_.out (by kernel_rfl)) (fun _ _ _ h => h) (Or.inl ⟨by rfl, ?_⟩) hHeld ?_ ?_
                 rotate_left
                 ·rintro w' ⟨s0, s1, s2, s3, s4, s5, s6, s7, s8, s9, s10, s11, s12, s13, s14, s15, s16, s17, s18, s19, s20, s21, s22⟩
                  go_simp
                  with_reducible rfl
                 rotate_left
                 ·simp only [Act.put, List.setIfInBounds_toArray, List.set_cons_zero, List.set_cons_succ, i64_w, i32_w]
                  rfl
                 refine one_ (i := 43) (N := some 145) #[true, true, true, true, true, true, true, true, true, true, true, true, true, true, true, true, true, true, true, true, true, true, true, true, true, true, true, true, true, true, true, true, true, true, true, true, true, true, true, true, true, true, true, true, false, false, false, false, false, false, false, false, false] rfl rfl (one_of HT_.out (by kernel_rfl)) (by decide) (fun K hK => ?_)
                 refine goes_ Tryd.func34 (by kernel_rfl) rfl #[.agg #[.int .u64 t430, .int .u64 t431, .int .i64 t432], .agg #[.int .u64 t434, .int .u64 t435, .int .i64 t436]] (by rfl) rfl rfl xM ?_
                 with_reducible refine (prefix_Cmp.calls t430 t431 t432 t434 t435 t436 t481 _ A86.out).mono ?_
                 rintro e w149 ⟨rfl, hb⟩
                 refine ⟨_, rfl, ?_⟩
                 have n0_ := xP BK427.out hb
                 have n1_ := xP BK433.out hb
                 have n2_ := xP BK441.out hb
                 have n3_ := xP BK442.out hb
                 have n4_ := xP BK458.out hb
                 have n5_ := xP BK463.out hb
                 have n6_ := xP BK468.out hb
                 have n7_ := xP BK473.out hb
                 have n8_ := xP BK478.out hb
                 have n9_ := Aside0.mk (below_step xG hb)
                 clear BK427
                 clear BK433
                 clear BK441
                 clear BK442
                 clear BK458
                 clear BK463
                 clear BK468
                 clear BK473
                 clear BK478
                 clear HB
                 have BK427 := n0_
                 have BK433 := n1_
                 have BK441 := n2_
                 have BK442 := n3_
                 have BK458 := n4_
                 have BK463 := n5_
                 have BK468 := n6_
                 have BK473 := n7_
                 have BK478 := n8_
                 have HB := n9_
                 clear n0_ n1_ n2_ n3_ n4_ n5_ n6_ n7_ n8_ n9_
                 (try clear hb)
                 (try clear hb2)
                 (try clear hk)
                 (try clear hi)
                 refine hK.out _ _ ⟨(blk_cell BK458.out 0).trans rfl, (blk_cell BK458.out 1).trans rfl, (blk_cell BK442.out 0).trans rfl, (blk_cell BK442.out 1).trans rfl, (blk_cell BK442.out 2).trans rfl, (blk_cell BK463.out 0).trans rfl, (blk_cell BK463.out 1).trans rfl, (blk_cell BK463.out 2).trans rfl, (blk_cell BK433.out 0).trans rfl, (blk_cell BK433.out 1).trans rfl, (blk_cell BK433.out 2).trans rfl, (blk_cell BK468.out 0).trans rfl, (blk_cell BK468.out 1).trans rfl, (blk_cell BK468.out 2).trans rfl, (blk_cell BK473.out 0).trans rfl, (blk_cell BK473.out 1).trans rfl, (blk_cell BK473.out 2).trans rfl, (blk_cell BK478.out 0).trans rfl, (blk_cell BK478.out 1).trans rfl, (blk_cell BK478.out 2).trans rfl, (blk_cell BK441.out 0).trans rfl, (blk_cell BK441.out 1).trans rfl, (blk_cell BK441.out 2).trans rfl⟩ (fun hHeld => ?_)
                 clear hK K
                 refine norm_ (a' := ?_) ?_ ?_
                 rotate_left
                 ·show Act.put _ (some 145) _ = _
                  simp only [Act.put, List.setIfInBounds_toArray, List.set_cons_zero, List.set_cons_succ, i64_w, i32_w]
                  rfl
                 refine pure_ (i := 44) (N := some 146) (v := ?_) (a' := ?_) #[true, true, true, true, true, true, true, true, true, true, true, true, true, true, true, true, true, true, true, true, true, true, true, true, true, true, true, true, true, true, true, true, true, true, true, true, true, true, true, true, true, true, true, true, true, false, false, false, false, false, false, false, false] rfl rfl (any_of HT_.out (by kernel_rfl)) (fun _ _ _ h => h) (Or.inl ⟨by rfl, ?_⟩) ?_ ?_
                 rotate_left
                 ·intro w'
                  go_simp
                  with_reducible rfl
                 rotate_left
                 ·simp only [Act.put, List.setIfInBounds_toArray, List.set_cons_zero, List.set_cons_succ, i64_w, i32_w]
                  rfl
                 refine pure_ (i := 45) (N := some 147) (v := ?_) (a' := ?_) #[true, true, true, true, true, true, true, true, true, true, true, true, true, true, true, true, true, true, true, true, true, true, true, true, true, true, true, true, true, true, true, true, true, true, true, true, true, true, true, true, true, true, true, true, true, true, false, false, false, false, false, false, false] rfl rfl (any_of HT_.out (by kernel_rfl)) (fun _ _ _ h => h) (Or.inl ⟨by rfl, ?_⟩) ?_ ?_
                 rotate_left
                 ·intro w'
                  go_simp
                  with_reducible rfl
                 rotate_left
                 ·simp only [Act.put, List.setIfInBounds_toArray, List.set_cons_zero, List.set_cons_succ, i64_w, i32_w]
                  rfl
                 refine pure_ (i := 46) (N := some 148) (v := ?_) (a' := ?_) #[true, true, true, true, true, true, true, true, true, true, true, true, true, true, true, true, true, true, true, true, true, true, true, true, true, true, true, true, true, true, true, true, true, true, true, true, true, true, true, true, true, true, true, true, true, true, true, false, false, false, false, false, false] rfl rfl (any_of HT_.out (by kernel_rfl)) (fun _ _ _ h => h) (Or.inl ⟨by rfl, ?_⟩) ?_ ?_
                 rotate_left
                 ·intro w'
                  go_simp
                  with_reducible rfl
                 rotate_left
                 ·simp only [Act.put, List.setIfInBounds_toArray, List.set_cons_zero, List.set_cons_succ, i64_w, i32_w]
                  rfl
                 refine take_ (i := 47) (N := some 149) (v := ?_) (a' := ?_) #[true, true, true, true, true, true, true, true, true, true, true, true, true, true, true, true, true, true, true, true, true, true, true, true, true, true, true, true, true, true, true, true, true, true, true, true, true, true, true, true, true, true, true, true, true, true, true, true, false, false, false, false, false] rfl rfl (take_ofW HT_.out HW_.out (by kernel_rfl)) (fun _ _ _ h => h) (Or.inl ⟨by rfl, ?_⟩) hHeld ?_ ?_
                 rotate_left
                 ·rintro w' ⟨s0, s1, s2, s3, s4, s5, s6, s7, s8, s9, s10, s11, s12, s13, s14, s15, s16, s17, s18, s19, s20, s21, s22⟩
                  go_simp
                  with_reducible rfl
                 rotate_left
                 ·simp only [Act.put, List.setIfInBounds_toArray, List.set_cons_zero, List.set_cons_succ, i64_w, i32_w]
                  rfl
                 refine take_ (i := 48) (N := some 150) (v := ?_) (a' := ?_) #[true, true, true, true, true, true, true, true, true, true, true, true, true, true, true, true, true, true, true, true, true, true, true, true, true, true, true, true, true, true, true, true, true, true, true, true, true, true, true, true, true, true, true, true, true, true, true, true, true, false, false, false, false] rfl rfl (take_ofW HT_.out HW_.out (by kernel_rfl)) (fun _ _ _ h => h) (Or.inl ⟨by rfl, ?_⟩) hHeld ?_ ?_
                 rotate_left
                 ·rintro w' ⟨s0, s1, s2, s3, s4, s5, s6, s7, s8, s9, s10, s11, s12, s13, s14, s15, s16, s17, s18, s19, s20, s21, s22⟩
                  go_simp
                  with_reducible rfl
                 rotate_left
                 ·simp only [Act.put, List.setIfInBounds_toArray, List.set_cons_zero, List.set_cons_succ, i64_w, i32_w]
                  rfl
                 refine one_ (i := 49) (N := some 151) #[true, true, true, true, true, true, true, true, true, true, true, true, true, true, true, true, true, true, true, true, true, true, true, true, true, true, true, true, true, true, true, true, true, true, true, true, true, true, true, true, true, true, true, true, true, true, true, true, true, true, false, false, false] rfl rfl (one_of HT_.out (by kernel_rfl)) (by decide) (fun K hK => ?_)
                 refine goes_ Tryd.func34 (by kernel_rfl) rfl #[.agg #[.int .u64 t434, .int .u64 t435, .int .i64 t436], .agg #[.int .u64 t437, .int .u64 t438, .int .i64 t439]] (by rfl) rfl rfl xM ?_
                 with_reducible refine (prefix_Cmp.calls t434 t435 t436 t437 t438 t439 t482 _ A88.out).mono ?_
                 rintro e w150 ⟨rfl, hb⟩
                 refine ⟨_, rfl, ?_⟩
                 have n0_ := xP BK427.out hb
                 have n1_ := xP BK433.out hb
                 have n2_ := xP BK441.out hb
                 have n3_ := xP BK442.out hb
                 have n4_ := xP BK458.out hb
                 have n5_ := xP BK463.out hb
                 have n6_ := xP BK468.out hb
                 have n7_ := xP BK473.out hb
                 have n8_ := xP BK478.out hb
                 have n9_ := Aside0.mk (below_step xG hb)
                 clear BK427
                 clear BK433
                 clear BK441
                 clear BK442
                 clear BK458
                 clear BK463
                 clear BK468
                 clear BK473
                 clear BK478
                 clear HB
                 have BK427 := n0_
                 have BK433 := n1_
                 have BK441 := n2_
                 have BK442 := n3_
                 have BK458 := n4_
                 have BK463 := n5_
                 have BK468 := n6_
                 have BK473 := n7_
                 have BK478 := n8_
                 have HB := n9_
                 clear n0_ n1_ n2_ n3_ n4_ n5_ n6_ n7_ n8_ n9_
                 (try clear hb)
                 (try clear hb2)
                 (try clear hk)
                 (try clear hi)
                 refine hK.out _ _ ⟨(blk_cell BK458.out 0).trans rfl, (blk_cell BK458.out 1).trans rfl, (blk_cell BK442.out 0).trans rfl, (blk_cell BK442.out 1).trans rfl, (blk_cell BK442.out 2).trans rfl, (blk_cell BK463.out 0).trans rfl, (blk_cell BK463.out 1).trans rfl, (blk_cell BK463.out 2).trans rfl, (blk_cell BK433.out 0).trans rfl, (blk_cell BK433.out 1).trans rfl, (blk_cell BK433.out 2).trans rfl, (blk_cell BK468.out 0).trans rfl, (blk_cell BK468.out 1).trans rfl, (blk_cell BK468.out 2).trans rfl, (blk_cell BK473.out 0).trans rfl, (blk_cell BK473.out 1).trans rfl, (blk_cell BK473.out 2).trans rfl, (blk_cell BK478.out 0).trans rfl, (blk_cell BK478.out 1).trans rfl, (blk_cell BK478.out 2).trans rfl, (blk_cell BK441.out 0).trans rfl, (blk_cell BK441.out 1).trans rfl, (blk_cell BK441.out 2).trans rfl⟩ (fun hHeld => ?_)
                 clear hK K
                 refine norm_ (a' := ?_) ?_ ?_
                 rotate_left
                 ·show Act.put _ (some 151) _ = _
                  simp only [Act.put, List.setIfInBounds_toArray, List.set_cons_zero, List.set_cons_succ, i64_w, i32_w]
                  rfl
                 refine pure_ (i := 50) (N := some 152) (v := ?_) (a' := ?_) #[true, true, true, true, true, true, true, true, true, true, true, true, true, true, true, true, true, true, true, true, true, true, true, true, true, true, true, true, true, true, true, true, true, true, true, true, true, true, true, true, true, true, true, true, true, true, true, true, true, true, true, false, false] rfl rfl (any_of HT_.out (by kernel_rfl)) (fun _ _ _ h => h) (Or.inl ⟨by rfl, ?_⟩) ?_ ?_
                 rotate_left
                 ·intro w'
                  go_simp
                  with_reducible rfl
                 rotate_left
                 ·simp only [Act.put, List.setIfInBounds_toArray, List.set_cons_zero, List.set_cons_succ, i64_w, i32_w]
                  rfl
                 refine pure_ (i := 51) (N := some 153) (v := ?_) (a' := ?_) #[true, true, true, true, true, true, true, true, true, true, true, true, true, true, true, true, true, true, true, true, true, true, true, true, true, true, true, true, true, true, true, true, true, true, true, true, true, true, true, true, true, true, true, true, true, true, true, true, true, true, true, true, false] rfl rfl (any_of HT_.out (by kernel_rfl)) (fun _ _ _ h => h) (Or.inl ⟨by rfl, ?_⟩) ?_ ?_
                 rotate_left
                 ·intro w'
                  go_simp
                  with_reducible rfl
                 rotate_left
                 ·simp only [Act.put, List.setIfInBounds_toArray, List.set_cons_zero, List.set_cons_succ, i64_w, i32_w]
                  rfl
                 refine pure_ (i := 52) (N := some 6) (v := ?_) (a' := ?_) #[true, true, true, true, true, true, true, true, true, true, true, true, true, true, true, true, true, true, true, true, true, true, true, true, true, true, true, true, true, true, true, true, true, true, true, true, true, true, true, true, true, true, true, true, true, true, true, true, true, true, true, true, true] rfl rfl (any_of HT_.out (by kernel_rfl)) (fun _ _ _ h => h) (Or.inl ⟨by rfl, ?_⟩) ?_ ?_
                 rotate_left
                 ·intro w'
                  go_simp
                  with_reducible rfl
                 rotate_left
                 ·simp only [Act.put, List.setIfInBounds_toArray, List.set_cons_zero, List.set_cons_succ, i64_w, i32_w]
                  rfl
                 refine done_ (done_of HT_.out (by kernel_rfl)) ?_
                 try go_wp2
                 go_ret
                 exact ⟨xE, xG⟩
                ·rw [if_neg c87] at H
                 have c87b0 : decide (t481 < 0) = false := decide_eq_false c87
                 clear c87
                 obtain rfl := Option.some.inj H
                 exact absurd hr_.out (by decide)
               ·rw [if_neg c85] at H
                have c85b0 : ((t474 == t434 && (t475 == t435)) && (t476 == t436)) = false := by simpa using c85
                clear c85
                obtain rfl := Option.some.inj H
                exact absurd hr_.out (by decide)
              ·rw [if_neg c84] at H
               have c84b0 : ((t469 == t437 && (t470 == t438)) && (t471 == t439)) = false := by simpa using c84
               clear c84
               obtain rfl := Option.some.inj H
               exact absurd hr_.out (by decide)
             ·replace c83 := Bool.eq_false_iff.mpr c83
              subst c83
              have H1 : (some false) = some r := by rw [if_neg (show ¬ (false = true) by decide)] at H; exact H
              clear H
              have H := H1
              clear H1
              obtain rfl := Option.some.inj H
              exact absurd hr_.out (by decide)
            ·replace c82 := Bool.eq_false_iff.mpr c82
             subst c82
             have H1 : (some false) = some r := by rw [if_neg (show ¬ (false = true) by decide)] at H; exact H
             clear H
             have H := H1
             clear H1
             obtain rfl := Option.some.inj H
             exact absurd hr_.out (by decide)
           ·rw [if_neg c81] at H
            have c81b0 : ((t464 == t430 && (t465 == t431)) && (t466 == t432)) = false := by simpa using c81
            clear c81
            obtain rfl := Option.some.inj H
            exact absurd hr_.out (by decide)
          ·rw [if_neg c80] at H
           have c80b0 : ((t459 == t430 && (t460 == t431)) && (t461 == t432)) = false := by simpa using c80
           clear c80
           obtain rfl := Option.some.inj H
           exact absurd hr_.out (by decide)
         ·replace c79 := Bool.eq_false_iff.mpr c79
          subst c79
          have H1 : (some false) = some r := by rw [if_neg (show ¬ (false = true) by decide)] at H; exact H
          clear H
          have H := H1
          clear H1
          obtain rfl := Option.some.inj H
          exact absurd hr_.out (by decide)
        ·replace c78 := Bool.eq_false_iff.mpr c78
         subst c78
         have H1 : (some false) = some r := by rw [if_neg (show ¬ (false = true) by decide)] at H; exact H
         clear H
         have H := H1
         clear H1
         obtain rfl := Option.some.inj H
         exact absurd hr_.out (by decide)
       ·rw [if_neg c77] at H
        have c77b0 : (t455 == t479 && (t456 == t480)) = false := by simpa using c77
        (try (have c77b1 : decide (t455 = t479 && (t456 == t480)) = false := by simpa using c77))
        (try (have c77b2 : (t455 == t479 && (t456 == t480)) = false := by simpa using c77))
        (try (have c77b3 : ¬ (t455 = t479 && (t456 == t480)) := by simpa using c77))
        clear c77
        obtain rfl := Option.some.inj H
        exact absurd hr_.out (by decide)
 ·replace c5 := Bool.eq_false_iff.mpr c5
  subst c5
  have H1 : (some false) = some r := by rw [if_neg (show ¬ (false = true) by decide)] at H; exact H
  clear H
  have H := H1
  clear H1
  obtain rfl := Option.some.inj H
  exact absurd hr_.out (by decide)
def turnpikelaw3_PrefixHalves.Pure : Prop := ∀ (a0 : Bool) (a1_0 : Int) (a1_1 : Int) (a2 : Int), (Lit.int .u64 a1_0).wf = true → (Lit.int .u64 a1_1).wf = true → (Lit.int .i64 a2).wf = true → ∃ k, turnpikelaw3_PrefixHalves.f k a0 a1_0 a1_1 a2 = some true
theorem turnpikelaw3_PrefixHalves.walk (P : turnpikelaw3_PrefixHalves.Pure) (a0 : Bool) (a1_0 : Int) (a1_1 : Int) (a2 : Int) (w : World) (hML : MLOk w) (wa1_0 : (Lit.int .u64 a1_0).wf = true) (wa1_1 : (Lit.int .u64 a1_1).wf = true) (wa2 : (Lit.int .i64 a2).wf = true) :
  Calls Tryd.prog 6 #[.bool a0, .agg #[.int .u64 a1_0, .int .u64 a1_1], .int .i64 a2] w fun e w' => e = .returned (.bool true) ∧ Below w.heap.size w w' := by
 obtain ⟨k, h⟩ := P a0 a1_0 a1_1 a2 wa1_0 wa1_1 wa2
 refine (turnpikelaw3_PrefixHalves.calls k a0 a1_0 a1_1 a2 true w hML ⟨rfl⟩ h).mono ?_
 rintro e w' ⟨rfl, hd⟩
 exact ⟨rfl, hd⟩
end Go.Proofs.YtdjhmapmhajkcaaDoor.X
