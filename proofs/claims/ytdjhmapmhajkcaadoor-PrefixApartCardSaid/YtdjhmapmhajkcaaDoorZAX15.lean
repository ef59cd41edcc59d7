-- Printed by a program of this session (xprint.py, over the kit's printer)
import Derived.Test.YtdjhmapmhajkcaaDoorX0
import Derived.Test.YtdjhmapmhajkcaaDoorZAX2
import Derived.Test.YtdjhmapmhajkcaaDoorZAX6
import Derived.Test.YtdjhmapmhajkcaaDoorZAX8
import Derived.Test.YtdjhmapmhajkcaaDoorZAX12
import Derived.Test.YtdjhmapmhajkcaaDoorZAX13
import Derived.Test.YtdjhmapmhajkcaaDoorZAX14
import Derived.Test.YtdjhmapmhajkcaaDoorSh
namespace Go.Proofs.YtdjhmapmhajkcaaDoor.X
open Go.RowKit Go.Proofs.YtdjhmapmhajkcaaDoorW.PrintWords Go.Proofs.YtdjhmapmhajkcaaDoorW.PrintLast Go.Proofs.YtdjhmapmhajkcaaDoor.Sm Go.Proofs.YtdjhmapmhajkcaaDoor.Sh
set_option linter.unusedVariables false
set_option linter.unusedSimpArgs false
attribute [local go_sem high] eqA28
mutual
def turnpikelaw3_PrefixApart.j0 : Nat → Int → Bool → Int → Int → Int → Int → Int → Int → Int → Int → Option (Bool)
  | 0, _, _, _, _, _, _, _, _, _, _ => none
  | k + 1, x13, x53, x298000, x298001, x304000, x304001, x304002, x308000, x308001, x308002 => if x53 = true then (some false) else ((prefix_Within.f x304000 x304001 x304002 x308000 x308001 x308002).bind fun t318 => ((prefix_Within.f x308000 x308001 x308002 x304000 x304001 x304002).bind fun t319 => ((prefix_Last.f x13 x304000 x304001 x304002).bind fun bt320 => ((prefix_First.f x308000 x308001 x308002).bind fun bt322 => ((turnpikeref1_Cmp.f k bt320.1 bt320.2 bt322.1 bt322.2).bind fun t324 => (if t324 < 0 then (turnpikelaw3_PrefixApart.j1 k x13 t318 t319 true x298000 x298001 x304000 x304001 x304002 x308000 x308001 x308002) else ((prefix_Last.f x13 x308000 x308001 x308002).bind fun bt325 => ((prefix_First.f x304000 x304001 x304002).bind fun bt327 => ((turnpikeref1_Cmp.f k bt325.1 bt325.2 bt327.1 bt327.2).bind fun t329 => (turnpikelaw3_PrefixApart.j1 k x13 t318 t319 (decide (t329 < 0)) x298000 x298001 x304000 x304001 x304002 x308000 x308001 x308002))))))))))
def turnpikelaw3_PrefixApart.j1 : Nat → Int → Bool → Bool → Bool → Int → Int → Int → Int → Int → Int → Int → Int → Option (Bool)
  | 0, _, _, _, _, _, _, _, _, _, _, _, _ => none
  | k + 1, x13, x16, x17, x18, x298000, x298001, x304000, x304001, x304002, x308000, x308001, x308002 => if x16 = true then (if (x17 != ((x304000 == x308000 && (x304001 == x308001)) && (x304002 == x308002))) = true then (turnpikelaw3_PrefixApart.j2 k x13 x16 true x298000 x298001 x304000 x304001 x304002 x308000 x308001 x308002) else (turnpikelaw3_PrefixApart.j2 k x13 x16 (x18 == true) x298000 x298001 x304000 x304001 x304002 x308000 x308001 x308002)) else (if (false != ((x304000 == x308000 && (x304001 == x308001)) && (x304002 == x308002))) = true then (turnpikelaw3_PrefixApart.j2 k x13 x16 true x298000 x298001 x304000 x304001 x304002 x308000 x308001 x308002) else (turnpikelaw3_PrefixApart.j2 k x13 x16 (x18 == x17) x298000 x298001 x304000 x304001 x304002 x308000 x308001 x308002))
def turnpikelaw3_PrefixApart.j2 : Nat → Int → Bool → Bool → Int → Int → Int → Int → Int → Int → Int → Int → Option (Bool)
  | 0, _, _, _, _, _, _, _, _, _, _, _ => none
  | k + 1, x13, x16, x91, x298000, x298001, x304000, x304001, x304002, x308000, x308001, x308002 => if x91 = true then (some false) else (if x16 = true then ((prefix_First.f x308000 x308001 x308002).bind fun bt330 => ((prefix_First.f x304000 x304001 x304002).bind fun bt332 => ((turnpikeref1_Cmp.f k bt330.1 bt330.2 bt332.1 bt332.2).bind fun t334 => (if t334 > 0 then (turnpikelaw3_PrefixApart.j3 k x16 true x298000 x298001 x304000 x304001 x304002 x308000 x308001 x308002) else ((prefix_Last.f x13 x304000 x304001 x304002).bind fun bt335 => ((prefix_Last.f x13 x308000 x308001 x308002).bind fun bt337 => ((turnpikeref1_Cmp.f k bt335.1 bt335.2 bt337.1 bt337.2).bind fun t339 => (turnpikelaw3_PrefixApart.j3 k x16 (decide (t339 > 0)) x298000 x298001 x304000 x304001 x304002 x308000 x308001 x308002)))))))) else (turnpikelaw3_PrefixApart.j3 k x16 false x298000 x298001 x304000 x304001 x304002 x308000 x308001 x308002))
def turnpikelaw3_PrefixApart.j3 : Nat → Bool → Bool → Int → Int → Int → Int → Int → Int → Int → Int → Option (Bool)
  | 0, _, _, _, _, _, _, _, _, _, _ => none
  | k + 1, x16, x110, x298000, x298001, x304000, x304001, x304002, x308000, x308001, x308002 => if x110 = true then (some false) else (if x16 = true then ((prefix_Has.f x304000 x304001 x304002 x298000 x298001).bind fun t340 => (if t340 = true then ((prefix_Has.f x308000 x308001 x308002 x298000 x298001).bind fun t341 => (some t341)) else (some true))) else (some true))
end
def turnpikelaw3_PrefixApart.f (k : Nat) (a0 : Bool) (a1_0 : Int) (a1_1 : Int) (a2 : Int) (a3_0 : Int) (a3_1 : Int) (a4 : Int) (a5_0 : Int) (a5_1 : Int) : Option (Bool) := (turnpikelaw3_known.f k).bind fun t298 => (if t298 = true then ((turnpikelaw3_Family.f a0).bind fun t299 => ((turnpikelaw3_Some.f k t299 a1_0 a1_1 a2).bind fun bt300 => ((turnpikelaw3_Some.f k t299 a3_0 a3_1 a4).bind fun bt304 => ((turnpikelaw3_clip.f k t299 a5_0 a5_1).bind fun bt308 => ((prefix_Has.f bt300.1 bt300.2.1 bt300.2.2 bt308.1 bt308.2.1).bind fun t311 => ((prefix_First.f bt300.1 bt300.2.1 bt300.2.2).bind fun bt312 => ((turnpikeref1_Cmp.f k bt312.1 bt312.2 bt308.1 bt308.2.1).bind fun t314 => (if t314 ≤ 0 then ((prefix_Last.f t299 bt300.1 bt300.2.1 bt300.2.2).bind fun bt315 => ((turnpikeref1_Cmp.f k bt308.1 bt308.2.1 bt315.1 bt315.2).bind fun t317 => (turnpikelaw3_PrefixApart.j0 k t299 (t311 != (decide (t317 ≤ 0))) bt308.1 bt308.2.1 bt300.1 bt300.2.1 bt300.2.2 bt304.1 bt304.2.1 bt304.2.2))) else (turnpikelaw3_PrefixApart.j0 k t299 (t311 != false) bt308.1 bt308.2.1 bt300.1 bt300.2.1 bt300.2.2 bt304.1 bt304.2.1 bt304.2.2))))))))) else (some false))
theorem turnpikelaw3_PrefixApart.mono_l : ∀ k, (∀ y0 y1 y2 y3 y4 y5 y6 y7 y8 y9, LeO (turnpikelaw3_PrefixApart.j0 k y0 y1 y2 y3 y4 y5 y6 y7 y8 y9) (turnpikelaw3_PrefixApart.j0 (k + 1) y0 y1 y2 y3 y4 y5 y6 y7 y8 y9)) ∧ (∀ y0 y1 y2 y3 y4 y5 y6 y7 y8 y9 y10 y11, LeO (turnpikelaw3_PrefixApart.j1 k y0 y1 y2 y3 y4 y5 y6 y7 y8 y9 y10 y11) (turnpikelaw3_PrefixApart.j1 (k + 1) y0 y1 y2 y3 y4 y5 y6 y7 y8 y9 y10 y11)) ∧ (∀ y0 y1 y2 y3 y4 y5 y6 y7 y8 y9 y10, LeO (turnpikelaw3_PrefixApart.j2 k y0 y1 y2 y3 y4 y5 y6 y7 y8 y9 y10) (turnpikelaw3_PrefixApart.j2 (k + 1) y0 y1 y2 y3 y4 y5 y6 y7 y8 y9 y10)) ∧ (∀ y0 y1 y2 y3 y4 y5 y6 y7 y8 y9, LeO (turnpikelaw3_PrefixApart.j3 k y0 y1 y2 y3 y4 y5 y6 y7 y8 y9) (turnpikelaw3_PrefixApart.j3 (k + 1) y0 y1 y2 y3 y4 y5 y6 y7 y8 y9))
  | 0 => ⟨fun _ _ _ _ _ _ _ _ _ _ r h => by simp [turnpikelaw3_PrefixApart.j0] at h, fun _ _ _ _ _ _ _ _ _ _ _ _ r h => by simp [turnpikelaw3_PrefixApart.j1] at h, fun _ _ _ _ _ _ _ _ _ _ _ r h => by simp [turnpikelaw3_PrefixApart.j2] at h, fun _ _ _ _ _ _ _ _ _ _ r h => by simp [turnpikelaw3_PrefixApart.j3] at h⟩
  | k + 1 => by
    obtain ⟨ih0, ih1, ih2, ih3⟩ := turnpikelaw3_PrefixApart.mono_l k
    refine ⟨?_, ?_, ?_, ?_⟩
    · intro y0 y1 y2 y3 y4 y5 y6 y7 y8 y9
      unfold turnpikelaw3_PrefixApart.j0
      have m0 := @turnpikelaw3_Some.mono
      have m1 := @turnpikelaw3_clip.mono
      have m2 := @turnpikelaw3_known.mono
      have m3 := @turnpikeref1_Cmp.mono
      exact xO
    · intro y0 y1 y2 y3 y4 y5 y6 y7 y8 y9 y10 y11
      unfold turnpikelaw3_PrefixApart.j1
      have m0 := @turnpikelaw3_Some.mono
      have m1 := @turnpikelaw3_clip.mono
      have m2 := @turnpikelaw3_known.mono
      have m3 := @turnpikeref1_Cmp.mono
      exact xO
    · intro y0 y1 y2 y3 y4 y5 y6 y7 y8 y9 y10
      unfold turnpikelaw3_PrefixApart.j2
      have m0 := @turnpikelaw3_Some.mono
      have m1 := @turnpikelaw3_clip.mono
      have m2 := @turnpikelaw3_known.mono
      have m3 := @turnpikeref1_Cmp.mono
      exact xO
    · intro y0 y1 y2 y3 y4 y5 y6 y7 y8 y9
      unfold turnpikelaw3_PrefixApart.j3
      have m0 := @turnpikelaw3_Some.mono
      have m1 := @turnpikelaw3_clip.mono
      have m2 := @turnpikelaw3_known.mono
      have m3 := @turnpikeref1_Cmp.mono
      exact xO
theorem turnpikelaw3_PrefixApart.mono : ∀ a0 a1 a2 a3 a4 a5 a6 a7 a8 k, LeO (turnpikelaw3_PrefixApart.f k a0 a1 a2 a3 a4 a5 a6 a7 a8) (turnpikelaw3_PrefixApart.f (k + 1) a0 a1 a2 a3 a4 a5 a6 a7 a8) := by
  intro a0 a1 a2 a3 a4 a5 a6 a7 a8 k
  obtain ⟨ih0, ih1, ih2, ih3⟩ := turnpikelaw3_PrefixApart.mono_l k
  unfold turnpikelaw3_PrefixApart.f
  have m0 := @turnpikelaw3_Some.mono
  have m1 := @turnpikelaw3_clip.mono
  have m2 := @turnpikelaw3_known.mono
  have m3 := @turnpikeref1_Cmp.mono
  exact xO
def turnpikelaw3_PrefixApart.T7 : Bool × List (List Nat × List Nat) := (true, [([], []), ([], []), ([0, 1], [0, 1]), ([], []), ([3, 2], [3]), ([], []), ([4, 5, 4], [4, 5]), ([6], [6]), ([7, 6], [7]), ([8], [8]), ([8], [8]), ([8], [8]), ([10, 11, 8, 8], [8, 10, 11]), ([9, 12, 12, 8], [8, 9, 12]), ([13, 8], [8, 13]), ([8, 14], [8, 14]), ([2, 15], [2, 15])])
def turnpikelaw3_PrefixApart.B7 : List Nat := [0, 0, 3, 0, 15, 0, 63, 127, 255, 511, 511, 511, 3583, 8191, 16383, 32767, 65535]
theorem turnpikelaw3_PrefixApart.tab7 : rtab .any (opsOf Tryd.f3 7) = turnpikelaw3_PrefixApart.T7 := by kernel_rfl
theorem turnpikelaw3_PrefixApart.bits7 : waitsOk turnpikelaw3_PrefixApart.T7.2 turnpikelaw3_PrefixApart.B7 = true := by kernel_rfl
def turnpikelaw3_PrefixApart.T11 : Bool × List (List Nat × List Nat) := (true, [([], []), ([], []), ([0, 1], [0, 1]), ([], []), ([3, 2], [3]), ([2, 4, 4], [2, 4]), ([5], [5]), ([6, 5], [6]), ([7], [7]), ([7], [7]), ([8, 9, 7, 7], [7, 8, 9]), ([7], [7]), ([11, 10, 7], [7, 11]), ([10, 12, 12, 7], [7, 10, 12]), ([13, 7], [7, 13]), ([7, 14], [7, 14]), ([15, 13, 0, 1, 2, 3, 4, 5, 6, 7, 8, 9, 10, 11, 12, 13, 14, 15], [15])])
def turnpikelaw3_PrefixApart.B11 : List Nat := [0, 0, 3, 0, 15, 31, 63, 127, 255, 255, 1023, 255, 4095, 8191, 16383, 32767, 65535]
theorem turnpikelaw3_PrefixApart.tab11 : rtab .any (opsOf Tryd.f3 11) = turnpikelaw3_PrefixApart.T11 := by kernel_rfl
theorem turnpikelaw3_PrefixApart.bits11 : waitsOk turnpikelaw3_PrefixApart.T11.2 turnpikelaw3_PrefixApart.B11 = true := by kernel_rfl
def turnpikelaw3_PrefixApart.T14 : Bool × List (List Nat × List Nat) := (true, [([], []), ([0], [0]), ([1], [1]), ([2, 1, 1], [1, 2]), ([1], [1]), ([4, 3, 1], [1, 4]), ([3, 5, 5, 1], [1, 3, 5]), ([6, 1], [1, 6]), ([7, 6, 1], [1, 7]), ([8], [8]), ([8], [8]), ([9, 10, 8, 8], [8, 9, 10]), ([8], [8]), ([8], [8]), ([12, 13, 11, 8], [8, 12, 13]), ([11, 14, 14, 8], [8, 11, 14]), ([15, 8], [8, 15]), ([8, 16, 1], [1, 8, 16]), ([1, 17], [1, 17])])
def turnpikelaw3_PrefixApart.B14 : List Nat := [0, 1, 3, 7, 3, 31, 63, 127, 255, 511, 511, 2047, 511, 511, 16383, 32767, 65535, 131071, 262143]
theorem turnpikelaw3_PrefixApart.tab14 : rtab .any (opsOf Tryd.f3 14) = turnpikelaw3_PrefixApart.T14 := by kernel_rfl
theorem turnpikelaw3_PrefixApart.bits14 : waitsOk turnpikelaw3_PrefixApart.T14.2 turnpikelaw3_PrefixApart.B14 = true := by kernel_rfl
set_option maxHeartbeats 8000000 in
set_option maxRecDepth 100000 in
theorem turnpikelaw3_PrefixApart.calls (k : Nat) (a0 : Bool) (a1_0 : Int) (a1_1 : Int) (a2 : Int) (a3_0 : Int) (a3_1 : Int) (a4 : Int) (a5_0 : Int) (a5_1 : Int) (r : Bool) (w : World) (hML : MLOk w) (hr_ : Aside0 (r = true)) (h : turnpikelaw3_PrefixApart.f k a0 a1_0 a1_1 a2 a3_0 a3_1 a4 a5_0 a5_1 = some r) :
    Calls Tryd.prog 3 #[.bool a0, .agg #[.int .u64 a1_0, .int .u64 a1_1], .int .i64 a2, .agg #[.int .u64 a3_0, .int .u64 a3_1], .int .i64 a4, .agg #[.int .u64 a5_0, .int .u64 a5_1]] w fun e w' => e = .returned (.bool r) ∧ Below w.heap.size w w' := by
  have hu24 := Tryd.underlying24
  have hu28 := Tryd.underlying28
  have HML := Aside0.mk hML
  clear hML
  have HB := Aside0.mk (Below.refl w.heap.size w)
  have H : ((turnpikelaw3_known.f k).bind fun t298 => (if t298 = true then ((turnpikelaw3_Family.f a0).bind fun t299 => ((turnpikelaw3_Some.f k t299 a1_0 a1_1 a2).bind fun bt300 => ((turnpikelaw3_Some.f k t299 a3_0 a3_1 a4).bind fun bt304 => ((turnpikelaw3_clip.f k t299 a5_0 a5_1).bind fun bt308 => ((prefix_Has.f bt300.1 bt300.2.1 bt300.2.2 bt308.1 bt308.2.1).bind fun t311 => ((prefix_First.f bt300.1 bt300.2.1 bt300.2.2).bind fun bt312 => ((turnpikeref1_Cmp.f k bt312.1 bt312.2 bt308.1 bt308.2.1).bind fun t314 => (if t314 ≤ 0 then ((prefix_Last.f t299 bt300.1 bt300.2.1 bt300.2.2).bind fun bt315 => ((turnpikeref1_Cmp.f k bt308.1 bt308.2.1 bt315.1 bt315.2).bind fun t317 => (turnpikelaw3_PrefixApart.j0 k t299 (t311 != (decide (t317 ≤ 0))) bt308.1 bt308.2.1 bt300.1 bt300.2.1 bt300.2.2 bt304.1 bt304.2.1 bt304.2.2))) else (turnpikelaw3_PrefixApart.j0 k t299 (t311 != false) bt308.1 bt308.2.1 bt300.1 bt300.2.1 bt300.2.2 bt304.1 bt304.2.1 bt304.2.2))))))))) else (some false))) = some r := h
  clear h
  replace H := Option.bind_eq_some_iff.mp H
  obtain ⟨t298, A70, H⟩ := H
  replace H : (if t298 = true then ((turnpikelaw3_Family.f a0).bind fun t299 => ((turnpikelaw3_Some.f k t299 a1_0 a1_1 a2).bind fun bt300 => ((turnpikelaw3_Some.f k t299 a3_0 a3_1 a4).bind fun bt304 => ((turnpikelaw3_clip.f k t299 a5_0 a5_1).bind fun bt308 => ((prefix_Has.f bt300.1 bt300.2.1 bt300.2.2 bt308.1 bt308.2.1).bind fun t311 => ((prefix_First.f bt300.1 bt300.2.1 bt300.2.2).bind fun bt312 => ((turnpikeref1_Cmp.f k bt312.1 bt312.2 bt308.1 bt308.2.1).bind fun t314 => (if t314 ≤ 0 then ((prefix_Last.f t299 bt300.1 bt300.2.1 bt300.2.2).bind fun bt315 => ((turnpikeref1_Cmp.f k bt308.1 bt308.2.1 bt315.1 bt315.2).bind fun t317 => (turnpikelaw3_PrefixApart.j0 k t299 (t311 != (decide (t317 ≤ 0))) bt308.1 bt308.2.1 bt300.1 bt300.2.1 bt300.2.2 bt304.1 bt304.2.1 bt304.2.2))) else (turnpikelaw3_PrefixApart.j0 k t299 (t311 != false) bt308.1 bt308.2.1 bt300.1 bt300.2.1 bt300.2.2 bt304.1 bt304.2.1 bt304.2.2))))))))) else (some false)) = some r := H
  have A7 := Aside0.mk A70
  clear A70
  by_cases c8 : t298 = true
  · subst c8
    have H1 : ((turnpikelaw3_Family.f a0).bind fun t299 => ((turnpikelaw3_Some.f k t299 a1_0 a1_1 a2).bind fun bt300 => ((turnpikelaw3_Some.f k t299 a3_0 a3_1 a4).bind fun bt304 => ((turnpikelaw3_clip.f k t299 a5_0 a5_1).bind fun bt308 => ((prefix_Has.f bt300.1 bt300.2.1 bt300.2.2 bt308.1 bt308.2.1).bind fun t311 => ((prefix_First.f bt300.1 bt300.2.1 bt300.2.2).bind fun bt312 => ((turnpikeref1_Cmp.f k bt312.1 bt312.2 bt308.1 bt308.2.1).bind fun t314 => (if t314 ≤ 0 then ((prefix_Last.f t299 bt300.1 bt300.2.1 bt300.2.2).bind fun bt315 => ((turnpikeref1_Cmp.f k bt308.1 bt308.2.1 bt315.1 bt315.2).bind fun t317 => (turnpikelaw3_PrefixApart.j0 k t299 (t311 != (decide (t317 ≤ 0))) bt308.1 bt308.2.1 bt300.1 bt300.2.1 bt300.2.2 bt304.1 bt304.2.1 bt304.2.2))) else (turnpikelaw3_PrefixApart.j0 k t299 (t311 != false) bt308.1 bt308.2.1 bt300.1 bt300.2.1 bt300.2.2 bt304.1 bt304.2.1 bt304.2.2))))))))) = some r := by rw [if_pos rfl] at H; exact H
    clear H
    have H := H1
    clear H1
    replace H := Option.bind_eq_some_iff.mp H
    obtain ⟨t299, A90, H⟩ := H
    replace H : ((turnpikelaw3_Some.f k t299 a1_0 a1_1 a2).bind fun bt300 => ((turnpikelaw3_Some.f k t299 a3_0 a3_1 a4).bind fun bt304 => ((turnpikelaw3_clip.f k t299 a5_0 a5_1).bind fun bt308 => ((prefix_Has.f bt300.1 bt300.2.1 bt300.2.2 bt308.1 bt308.2.1).bind fun t311 => ((prefix_First.f bt300.1 bt300.2.1 bt300.2.2).bind fun bt312 => ((turnpikeref1_Cmp.f k bt312.1 bt312.2 bt308.1 bt308.2.1).bind fun t314 => (if t314 ≤ 0 then ((prefix_Last.f t299 bt300.1 bt300.2.1 bt300.2.2).bind fun bt315 => ((turnpikeref1_Cmp.f k bt308.1 bt308.2.1 bt315.1 bt315.2).bind fun t317 => (turnpikelaw3_PrefixApart.j0 k t299 (t311 != (decide (t317 ≤ 0))) bt308.1 bt308.2.1 bt300.1 bt300.2.1 bt300.2.2 bt304.1 bt304.2.1 bt304.2.2))) else (turnpikelaw3_PrefixApart.j0 k t299 (t311 != false) bt308.1 bt308.2.1 bt300.1 bt300.2.1 bt300.2.2 bt304.1 bt304.2.1 bt304.2.2)))))))) = some r := H
    have A9 := Aside0.mk A90
    clear A90
    replace H := Option.bind_eq_some_iff.mp H
    obtain ⟨⟨t300, t301, t302⟩, A100, H⟩ := H
    replace H : ((turnpikelaw3_Some.f k t299 a3_0 a3_1 a4).bind fun bt304 => ((turnpikelaw3_clip.f k t299 a5_0 a5_1).bind fun bt308 => ((prefix_Has.f t300 t301 t302 bt308.1 bt308.2.1).bind fun t311 => ((prefix_First.f t300 t301 t302).bind fun bt312 => ((turnpikeref1_Cmp.f k bt312.1 bt312.2 bt308.1 bt308.2.1).bind fun t314 => (if t314 ≤ 0 then ((prefix_Last.f t299 t300 t301 t302).bind fun bt315 => ((turnpikeref1_Cmp.f k bt308.1 bt308.2.1 bt315.1 bt315.2).bind fun t317 => (turnpikelaw3_PrefixApart.j0 k t299 (t311 != (decide (t317 ≤ 0))) bt308.1 bt308.2.1 t300 t301 t302 bt304.1 bt304.2.1 bt304.2.2))) else (turnpikelaw3_PrefixApart.j0 k t299 (t311 != false) bt308.1 bt308.2.1 t300 t301 t302 bt304.1 bt304.2.1 bt304.2.2))))))) = some r := H
    have A10 := Aside0.mk A100
    clear A100
    replace H := Option.bind_eq_some_iff.mp H
    obtain ⟨⟨t304, t305, t306⟩, A110, H⟩ := H
    replace H : ((turnpikelaw3_clip.f k t299 a5_0 a5_1).bind fun bt308 => ((prefix_Has.f t300 t301 t302 bt308.1 bt308.2.1).bind fun t311 => ((prefix_First.f t300 t301 t302).bind fun bt312 => ((turnpikeref1_Cmp.f k bt312.1 bt312.2 bt308.1 bt308.2.1).bind fun t314 => (if t314 ≤ 0 then ((prefix_Last.f t299 t300 t301 t302).bind fun bt315 => ((turnpikeref1_Cmp.f k bt308.1 bt308.2.1 bt315.1 bt315.2).bind fun t317 => (turnpikelaw3_PrefixApart.j0 k t299 (t311 != (decide (t317 ≤ 0))) bt308.1 bt308.2.1 t300 t301 t302 t304 t305 t306))) else (turnpikelaw3_PrefixApart.j0 k t299 (t311 != false) bt308.1 bt308.2.1 t300 t301 t302 t304 t305 t306)))))) = some r := H
    have A11 := Aside0.mk A110
    clear A110
    replace H := Option.bind_eq_some_iff.mp H
    obtain ⟨⟨t308, t309, t310⟩, A120, H⟩ := H
    replace H : ((prefix_Has.f t300 t301 t302 t308 t309).bind fun t311 => ((prefix_First.f t300 t301 t302).bind fun bt312 => ((turnpikeref1_Cmp.f k bt312.1 bt312.2 t308 t309).bind fun t314 => (if t314 ≤ 0 then ((prefix_Last.f t299 t300 t301 t302).bind fun bt315 => ((turnpikeref1_Cmp.f k t308 t309 bt315.1 bt315.2).bind fun t317 => (turnpikelaw3_PrefixApart.j0 k t299 (t311 != (decide (t317 ≤ 0))) t308 t309 t300 t301 t302 t304 t305 t306))) else (turnpikelaw3_PrefixApart.j0 k t299 (t311 != false) t308 t309 t300 t301 t302 t304 t305 t306))))) = some r := H
    have A12 := Aside0.mk A120
    clear A120
    have HC13 := Aside0.mk H
    clear H
    go_enter Tryd.func3, Tryd.ntmps3
    go_upto_region 7 with (first | ((with_reducible refine gate_dst (N := 7) rfl ?_); refine box_event ?hg (N := 7) ?hd (cs := #[.int .u64 a1_0, .int .u64 a1_1]) (t := 24) ?hr ?_; (case hd => rfl); (case hg => rfl); (case hr => first | (go_simp; done) | (go_simp; rfl)); intro gb295 hg w14 hbox hb; have n0_ := Aside0.mk (below_step xB hb); have n1_ := Aside0.mk (hbox); have n2_ := Aside0.mk ((by rw [hg]; exact (below_size xB) : w.heap.size ≤ gb295)); have n3_ := Aside0.mk ((by rw [hg]; exact (below_size xB) : w.heap.size ≤ gb295)); clear HB; have HB := n0_; have BK295 := n1_; have GW295 := n2_; have GE295 := n3_; clear n0_ n1_ n2_ n3_; clear hb hbox hg) | ((with_reducible refine gate_dst (N := 9) rfl ?_); refine box_event ?hg (N := 9) ?hd (cs := #[.int .u64 a3_0, .int .u64 a3_1]) (t := 24) ?hr ?_; (case hd => rfl); (case hg => rfl); (case hr => first | (go_simp; done) | (go_simp; rfl)); intro gb296 hg w15 hbox hb; have n0_ := Aside0.mk (blk_below (g := gb295) (o := .cells #[.int .u64 a1_0, .int .u64 a1_1] 24 (0, 0)) (xK BK295.out) hb); have n1_ := Aside0.mk (below_step xG hb); have n2_ := Aside0.mk (hbox); have n3_ := Aside0.mk ((by rw [hg]; exact (below_size xG) : w.heap.size ≤ gb296)); have n4_ := Aside0.mk ((by rw [hg]; exact (below_size xG) : w.heap.size ≤ gb296)); have n5_ := Aside0.mk ((by rw [hg]; exact Nat.ne_of_lt (blk_lt (g := gb295) (o := .cells #[.int .u64 a1_0, .int .u64 a1_1] 24 (0, 0)) (xK BK295.out)) : gb295 ≠ gb296)); have n6_ := Aside0.mk ((by rw [hg]; exact Nat.ne_of_gt (blk_lt (g := gb295) (o := .cells #[.int .u64 a1_0, .int .u64 a1_1] 24 (0, 0)) (xK BK295.out)) : gb296 ≠ gb295)); clear BK295; clear HB; have BK295 := n0_; have HB := n1_; have BK296 := n2_; have GW296 := n3_; have GE296 := n4_; have NB295_296 := n5_; have NB296_295 := n6_; clear n0_ n1_ n2_ n3_ n4_ n5_ n6_; clear hb hbox hg) | ((with_reducible refine gate_dst (N := 11) rfl ?_); refine box_event ?hg (N := 11) ?hd (cs := #[.int .u64 a5_0, .int .u64 a5_1]) (t := 24) ?hr ?_; (case hd => rfl); (case hg => rfl); (case hr => first | (go_simp; done) | (go_simp; rfl)); intro gb297 hg w16 hbox hb; have n0_ := Aside0.mk (blk_below (g := gb295) (o := .cells #[.int .u64 a1_0, .int .u64 a1_1] 24 (0, 0)) (xK BK295.out) hb); have n1_ := Aside0.mk (blk_below (g := gb296) (o := .cells #[.int .u64 a3_0, .int .u64 a3_1] 24 (0, 0)) (xK BK296.out) hb); have n2_ := Aside0.mk (below_step xG hb); have n3_ := Aside0.mk (hbox); have n4_ := Aside0.mk ((by rw [hg]; exact (below_size xG) : w.heap.size ≤ gb297)); have n5_ := Aside0.mk ((by rw [hg]; exact (below_size xG) : w.heap.size ≤ gb297)); have n6_ := Aside0.mk ((by rw [hg]; exact Nat.ne_of_lt (blk_lt (g := gb295) (o := .cells #[.int .u64 a1_0, .int .u64 a1_1] 24 (0, 0)) (xK BK295.out)) : gb295 ≠ gb297)); have n7_ := Aside0.mk ((by rw [hg]; exact Nat.ne_of_gt (blk_lt (g := gb295) (o := .cells #[.int .u64 a1_0, .int .u64 a1_1] 24 (0, 0)) (xK BK295.out)) : gb297 ≠ gb295)); have n8_ := Aside0.mk ((by rw [hg]; exact Nat.ne_of_lt (blk_lt (g := gb296) (o := .cells #[.int .u64 a3_0, .int .u64 a3_1] 24 (0, 0)) (xK BK296.out)) : gb296 ≠ gb297)); have n9_ := Aside0.mk ((by rw [hg]; exact Nat.ne_of_gt (blk_lt (g := gb296) (o := .cells #[.int .u64 a3_0, .int .u64 a3_1] 24 (0, 0)) (xK BK296.out)) : gb297 ≠ gb296)); clear BK295; clear BK296; clear HB; have BK295 := n0_; have BK296 := n1_; have HB := n2_; have BK297 := n3_; have GW297 := n4_; have GE297 := n5_; have NB295_297 := n6_; have NB297_295 := n7_; have NB296_297 := n8_; have NB297_296 := n9_; clear n0_ n1_ n2_ n3_ n4_ n5_ n6_ n7_ n8_ n9_; clear hb hbox hg) | ((with_reducible refine gate_callee (f := 14) rfl ?_); refine goesL_ (some 19) rfl rfl Tryd.func14 (by kernel_rfl) rfl #[] rfl xM ?_; (with_reducible refine (turnpikelaw3_known.calls k  true _ ?side1 A7.out).mono ?_); (case side1 => first | exact MLOk.below HML.out xG | (repeat (first | exact HML.out | (with_reducible refine MLOk.alloc ?_ _) | (with_reducible refine MLOk.drewN ?_ _) | (with_reducible refine MLOk.drew ?_)))); rintro e w17 ⟨rfl, hb⟩; refine ⟨_, rfl, ?_⟩; have n0_ := Aside0.mk (blk_below (g := gb295) (o := .cells #[.int .u64 a1_0, .int .u64 a1_1] 24 (0, 0)) (xK BK295.out) hb); have n1_ := Aside0.mk (blk_below (g := gb296) (o := .cells #[.int .u64 a3_0, .int .u64 a3_1] 24 (0, 0)) (xK BK296.out) hb); have n2_ := Aside0.mk (blk_below (g := gb297) (o := .cells #[.int .u64 a5_0, .int .u64 a5_1] 24 (0, 0)) (xK BK297.out) hb); have n3_ := Aside0.mk (below_step xG hb); clear BK295; clear BK296; clear BK297; clear HB; have BK295 := n0_; have BK296 := n1_; have BK297 := n2_; have HB := n3_; clear n0_ n1_ n2_ n3_; (try clear hb); (try clear hb2); (try clear hk); (try clear hi)) | ((with_reducible refine gate_callee (f := 15) rfl ?_); refine goesL_ (some 22) rfl rfl Tryd.func15 (by kernel_rfl) rfl #[.bool a0] rfl xM ?_; (with_reducible refine (turnpikelaw3_Family.calls a0 t299 _ A9.out).mono ?_); rintro e w' ⟨rfl, ⟨nd, rfl⟩⟩; refine ⟨_, rfl, ?_⟩; (try (rw [drewN_self w17]; generalize hq_ : World.drewN w17 _ = w17; have n0_ : Aside0 (w17.heap[gb295]? = some (.cells #[.int .u64 a1_0, .int .u64 a1_1] 24 (0, 0))) := ⟨by rw [← hq_]; exact (xK BK295.out)⟩; have n1_ : Aside0 (w17.heap[gb296]? = some (.cells #[.int .u64 a3_0, .int .u64 a3_1] 24 (0, 0))) := ⟨by rw [← hq_]; exact (xK BK296.out)⟩; have n2_ : Aside0 (w17.heap[gb297]? = some (.cells #[.int .u64 a5_0, .int .u64 a5_1] 24 (0, 0))) := ⟨by rw [← hq_]; exact (xK BK297.out)⟩; have n3_ : Aside0 (Below w.heap.size w w17) := ⟨by rw [← hq_]; exact xG⟩; clear BK295 BK296 BK297 HB hq_; have BK295 := n0_; have BK296 := n1_; have BK297 := n2_; have HB := n3_; clear n0_ n1_ n2_ n3_)); have hnb18 := NB295_296.out; have hnc18 := NB296_295.out; have hnb19 := NB295_297.out; have hnc19 := NB297_295.out; have hcz20_0 : w17.cell? ⟨gb295, 0, none⟩ = some (.int .u64 a1_0) := (blk_cell BK295.out 0).trans rfl; have hcz20_1 : w17.cell? ⟨gb295, 1, none⟩ = some (.int .u64 a1_1) := (blk_cell BK295.out 1).trans rfl; have hfz20_0 := blk_frozen BK295.out 0; have hfz20_1 := blk_frozen BK295.out 1) | ((with_reducible refine gate_callee (f := 16) rfl ?_); refine goesL_ (some 26) rfl rfl Tryd.func16 (by kernel_rfl) rfl #[.int .i64 t299, .agg #[.int .u64 a1_0, .int .u64 a1_1], .int .i64 a2] rfl xM ?_; (with_reducible refine (turnpikelaw3_Some.calls k t299 a1_0 a1_1 a2 t300 t301 t302 _ A10.out).mono ?_); rintro e w21 ⟨rfl, hb⟩; refine ⟨_, rfl, ?_⟩; have n0_ := Aside0.mk (blk_below (g := gb295) (o := .cells #[.int .u64 a1_0, .int .u64 a1_1] 24 (0, 0)) (xK BK295.out) hb); have n1_ := Aside0.mk (blk_below (g := gb296) (o := .cells #[.int .u64 a3_0, .int .u64 a3_1] 24 (0, 0)) (xK BK296.out) hb); have n2_ := Aside0.mk (blk_below (g := gb297) (o := .cells #[.int .u64 a5_0, .int .u64 a5_1] 24 (0, 0)) (xK BK297.out) hb); have n3_ := Aside0.mk (below_step xG hb); clear BK295; clear BK296; clear BK297; clear HB; have BK295 := n0_; have BK296 := n1_; have BK297 := n2_; have HB := n3_; clear n0_ n1_ n2_ n3_; (try clear hb); (try clear hb2); (try clear hk); (try clear hi)) | ((with_reducible refine gate_dst (N := 14) rfl ?_); refine box_event ?hg (N := 14) ?hd (cs := #[.int .u64 0, .int .u64 0, .int .i64 0]) (t := 28) ?hr ?_; (case hd => rfl); (case hg => rfl); (case hr => first | (go_simp; done) | (go_simp; rfl)); intro gb303 hg w22 hbox hb; have n0_ := Aside0.mk (blk_below (g := gb295) (o := .cells #[.int .u64 a1_0, .int .u64 a1_1] 24 (0, 0)) (xK BK295.out) hb); have n1_ := Aside0.mk (blk_below (g := gb296) (o := .cells #[.int .u64 a3_0, .int .u64 a3_1] 24 (0, 0)) (xK BK296.out) hb); have n2_ := Aside0.mk (blk_below (g := gb297) (o := .cells #[.int .u64 a5_0, .int .u64 a5_1] 24 (0, 0)) (xK BK297.out) hb); have n3_ := Aside0.mk (below_step xG hb); have n4_ := Aside0.mk (hbox); have n5_ := Aside0.mk ((by rw [hg]; exact (below_size xG) : w.heap.size ≤ gb303)); have n6_ := Aside0.mk ((by rw [hg]; exact (below_size xG) : w.heap.size ≤ gb303)); have n7_ := Aside0.mk ((by rw [hg]; exact Nat.ne_of_lt (blk_lt (g := gb295) (o := .cells #[.int .u64 a1_0, .int .u64 a1_1] 24 (0, 0)) (xK BK295.out)) : gb295 ≠ gb303)); have n8_ := Aside0.mk ((by rw [hg]; exact Nat.ne_of_gt (blk_lt (g := gb295) (o := .cells #[.int .u64 a1_0, .int .u64 a1_1] 24 (0, 0)) (xK BK295.out)) : gb303 ≠ gb295)); have n9_ := Aside0.mk ((by rw [hg]; exact Nat.ne_of_lt (blk_lt (g := gb296) (o := .cells #[.int .u64 a3_0, .int .u64 a3_1] 24 (0, 0)) (xK BK296.out)) : gb296 ≠ gb303)); have n10_ := Aside0.mk ((by rw [hg]; exact Nat.ne_of_gt (blk_lt (g := gb296) (o := .cells #[.int .u64 a3_0, .int .u64 a3_1] 24 (0, 0)) (xK BK296.out)) : gb303 ≠ gb296)); have n11_ := Aside0.mk ((by rw [hg]; exact Nat.ne_of_lt (blk_lt (g := gb297) (o := .cells #[.int .u64 a5_0, .int .u64 a5_1] 24 (0, 0)) (xK BK297.out)) : gb297 ≠ gb303)); have n12_ := Aside0.mk ((by rw [hg]; exact Nat.ne_of_gt (blk_lt (g := gb297) (o := .cells #[.int .u64 a5_0, .int .u64 a5_1] 24 (0, 0)) (xK BK297.out)) : gb303 ≠ gb297)); clear BK295; clear BK296; clear BK297; clear HB; have BK295 := n0_; have BK296 := n1_; have BK297 := n2_; have HB := n3_; have BK303 := n4_; have GW303 := n5_; have GE303 := n6_; have NB295_303 := n7_; have NB303_295 := n8_; have NB296_303 := n9_; have NB303_296 := n10_; have NB297_303 := n11_; have NB303_297 := n12_; clear n0_ n1_ n2_ n3_ n4_ n5_ n6_ n7_ n8_ n9_ n10_ n11_ n12_; clear hb hbox hg; have hnb23 := NB303_295.out; have hnc23 := NB295_303.out; have hnb24 := NB303_296.out; have hnc24 := NB296_303.out; have hnb25 := NB303_297.out; have hnc25 := NB297_303.out; have hcz26_0 : w22.cell? ⟨gb303, 0, none⟩ = some (.int .u64 0) := (blk_cell BK303.out 0).trans rfl; have hcz26_1 : w22.cell? ⟨gb303, 1, none⟩ = some (.int .u64 0) := (blk_cell BK303.out 1).trans rfl; have hcz26_2 : w22.cell? ⟨gb303, 2, none⟩ = some (.int .i64 0) := (blk_cell BK303.out 2).trans rfl; have hfz26_0 := blk_frozen BK303.out 0; have hfz26_1 := blk_frozen BK303.out 1; have hfz26_2 := blk_frozen BK303.out 2; have hnb27 := NB296_297.out; have hnc27 := NB297_296.out; have hcz28_0 : w22.cell? ⟨gb296, 0, none⟩ = some (.int .u64 a3_0) := (blk_cell BK296.out 0).trans rfl; have hcz28_1 : w22.cell? ⟨gb296, 1, none⟩ = some (.int .u64 a3_1) := (blk_cell BK296.out 1).trans rfl; have hfz28_0 := blk_frozen BK296.out 0; have hfz28_1 := blk_frozen BK296.out 1) | ((with_reducible refine gate_callee (f := 16) rfl ?_); refine goesL_ (some 30) rfl rfl Tryd.func16 (by kernel_rfl) rfl #[.int .i64 t299, .agg #[.int .u64 a3_0, .int .u64 a3_1], .int .i64 a4] rfl xM ?_; (with_reducible refine (turnpikelaw3_Some.calls k t299 a3_0 a3_1 a4 t304 t305 t306 _ A11.out).mono ?_); rintro e w29 ⟨rfl, hb⟩; refine ⟨_, rfl, ?_⟩; have n0_ := Aside0.mk (blk_below (g := gb295) (o := .cells #[.int .u64 a1_0, .int .u64 a1_1] 24 (0, 0)) (by (with_reducible repeat (first | refine blk_drewN ?_ _ | refine blk_drew ?_ | refine blk_alloc ?_ _)); refine blk_far ?_ NB295_303.out _; (with_reducible repeat (first | refine blk_drewN ?_ _ | refine blk_drew ?_ | refine blk_alloc ?_ _)); refine blk_far ?_ NB295_303.out _; (with_reducible repeat (first | refine blk_drewN ?_ _ | refine blk_drew ?_ | refine blk_alloc ?_ _)); refine blk_far ?_ NB295_303.out _; (with_reducible repeat (first | refine blk_drewN ?_ _ | refine blk_drew ?_ | refine blk_alloc ?_ _)); exact BK295.out) hb); have n1_ := Aside0.mk (blk_below (g := gb296) (o := .cells #[.int .u64 a3_0, .int .u64 a3_1] 24 (0, 0)) (by (with_reducible repeat (first | refine blk_drewN ?_ _ | refine blk_drew ?_ | refine blk_alloc ?_ _)); refine blk_far ?_ NB296_303.out _; (with_reducible repeat (first | refine blk_drewN ?_ _ | refine blk_drew ?_ | refine blk_alloc ?_ _)); refine blk_far ?_ NB296_303.out _; (with_reducible repeat (first | refine blk_drewN ?_ _ | refine blk_drew ?_ | refine blk_alloc ?_ _)); refine blk_far ?_ NB296_303.out _; (with_reducible repeat (first | refine blk_drewN ?_ _ | refine blk_drew ?_ | refine blk_alloc ?_ _)); exact BK296.out) hb); have n2_ := Aside0.mk (blk_below (g := gb297) (o := .cells #[.int .u64 a5_0, .int .u64 a5_1] 24 (0, 0)) (by (with_reducible repeat (first | refine blk_drewN ?_ _ | refine blk_drew ?_ | refine blk_alloc ?_ _)); refine blk_far ?_ NB297_303.out _; (with_reducible repeat (first | refine blk_drewN ?_ _ | refine blk_drew ?_ | refine blk_alloc ?_ _)); refine blk_far ?_ NB297_303.out _; (with_reducible repeat (first | refine blk_drewN ?_ _ | refine blk_drew ?_ | refine blk_alloc ?_ _)); refine blk_far ?_ NB297_303.out _; (with_reducible repeat (first | refine blk_drewN ?_ _ | refine blk_drew ?_ | refine blk_alloc ?_ _)); exact BK297.out) hb); have n3_ := Aside0.mk (blk_below (g := gb303) (o := .cells #[.int .u64 t300, .int .u64 t301, .int .i64 t302] 28 (0, 0)) (by (with_reducible repeat (first | refine blk_drewN ?_ _ | refine blk_drew ?_ | refine blk_alloc ?_ _)); refine blk_put (cs := #[.int .u64 t300, .int .u64 t301, .int .i64 0]) ?_ 2 _ rfl; (with_reducible repeat (first | refine blk_drewN ?_ _ | refine blk_drew ?_ | refine blk_alloc ?_ _)); refine blk_put (cs := #[.int .u64 t300, .int .u64 0, .int .i64 0]) ?_ 1 _ rfl; (with_reducible repeat (first | refine blk_drewN ?_ _ | refine blk_drew ?_ | refine blk_alloc ?_ _)); refine blk_put (cs := #[.int .u64 0, .int .u64 0, .int .i64 0]) ?_ 0 _ rfl; (with_reducible repeat (first | refine blk_drewN ?_ _ | refine blk_drew ?_ | refine blk_alloc ?_ _)); exact BK303.out) hb); have n4_ := Aside0.mk (below_step xG hb); clear BK295; clear BK296; clear BK297; clear BK303; clear HB; have BK295 := n0_; have BK296 := n1_; have BK297 := n2_; have BK303 := n3_; have HB := n4_; clear n0_ n1_ n2_ n3_ n4_; (try clear hb); (try clear hb2); (try clear hk); (try clear hi)) | ((with_reducible refine gate_dst (N := 15) rfl ?_); refine box_event ?hg (N := 15) ?hd (cs := #[.int .u64 0, .int .u64 0, .int .i64 0]) (t := 28) ?hr ?_; (case hd => rfl); (case hg => rfl); (case hr => first | (go_simp; done) | (go_simp; rfl)); intro gb307 hg w30 hbox hb; have n0_ := Aside0.mk (blk_below (g := gb295) (o := .cells #[.int .u64 a1_0, .int .u64 a1_1] 24 (0, 0)) (xK BK295.out) hb); have n1_ := Aside0.mk (blk_below (g := gb296) (o := .cells #[.int .u64 a3_0, .int .u64 a3_1] 24 (0, 0)) (xK BK296.out) hb); have n2_ := Aside0.mk (blk_below (g := gb297) (o := .cells #[.int .u64 a5_0, .int .u64 a5_1] 24 (0, 0)) (xK BK297.out) hb); have n3_ := Aside0.mk (blk_below (g := gb303) (o := .cells #[.int .u64 t300, .int .u64 t301, .int .i64 t302] 28 (0, 0)) (xK BK303.out) hb); have n4_ := Aside0.mk (below_step xG hb); have n5_ := Aside0.mk (hbox); have n6_ := Aside0.mk ((by rw [hg]; exact (below_size xG) : w.heap.size ≤ gb307)); have n7_ := Aside0.mk ((by rw [hg]; exact (below_size xG) : w.heap.size ≤ gb307)); have n8_ := Aside0.mk ((by rw [hg]; exact Nat.ne_of_lt (blk_lt (g := gb295) (o := .cells #[.int .u64 a1_0, .int .u64 a1_1] 24 (0, 0)) (xK BK295.out)) : gb295 ≠ gb307)); have n9_ := Aside0.mk ((by rw [hg]; exact Nat.ne_of_gt (blk_lt (g := gb295) (o := .cells #[.int .u64 a1_0, .int .u64 a1_1] 24 (0, 0)) (xK BK295.out)) : gb307 ≠ gb295)); have n10_ := Aside0.mk ((by rw [hg]; exact Nat.ne_of_lt (blk_lt (g := gb296) (o := .cells #[.int .u64 a3_0, .int .u64 a3_1] 24 (0, 0)) (xK BK296.out)) : gb296 ≠ gb307)); have n11_ := Aside0.mk ((by rw [hg]; exact Nat.ne_of_gt (blk_lt (g := gb296) (o := .cells #[.int .u64 a3_0, .int .u64 a3_1] 24 (0, 0)) (xK BK296.out)) : gb307 ≠ gb296)); have n12_ := Aside0.mk ((by rw [hg]; exact Nat.ne_of_lt (blk_lt (g := gb297) (o := .cells #[.int .u64 a5_0, .int .u64 a5_1] 24 (0, 0)) (xK BK297.out)) : gb297 ≠ gb307)); have n13_ := Aside0.mk ((by rw [hg]; exact Nat.ne_of_gt (blk_lt (g := gb297) (o := .cells #[.int .u64 a5_0, .int .u64 a5_1] 24 (0, 0)) (xK BK297.out)) : gb307 ≠ gb297)); have n14_ := Aside0.mk ((by rw [hg]; exact Nat.ne_of_lt (blk_lt (g := gb303) (o := .cells #[.int .u64 t300, .int .u64 t301, .int .i64 t302] 28 (0, 0)) (xK BK303.out)) : gb303 ≠ gb307)); have n15_ := Aside0.mk ((by rw [hg]; exact Nat.ne_of_gt (blk_lt (g := gb303) (o := .cells #[.int .u64 t300, .int .u64 t301, .int .i64 t302] 28 (0, 0)) (xK BK303.out)) : gb307 ≠ gb303)); clear BK295; clear BK296; clear BK297; clear BK303; clear HB; have BK295 := n0_; have BK296 := n1_; have BK297 := n2_; have BK303 := n3_; have HB := n4_; have BK307 := n5_; have GW307 := n6_; have GE307 := n7_; have NB295_307 := n8_; have NB307_295 := n9_; have NB296_307 := n10_; have NB307_296 := n11_; have NB297_307 := n12_; have NB307_297 := n13_; have NB303_307 := n14_; have NB307_303 := n15_; clear n0_ n1_ n2_ n3_ n4_ n5_ n6_ n7_ n8_ n9_ n10_ n11_ n12_ n13_ n14_ n15_; clear hb hbox hg; have hnb31 := NB307_295.out; have hnc31 := NB295_307.out; have hnb32 := NB307_296.out; have hnc32 := NB296_307.out; have hnb33 := NB307_297.out; have hnc33 := NB297_307.out; have hnb34 := NB307_303.out; have hnc34 := NB303_307.out; have hcz35_0 : w30.cell? ⟨gb307, 0, none⟩ = some (.int .u64 0) := (blk_cell BK307.out 0).trans rfl; have hcz35_1 : w30.cell? ⟨gb307, 1, none⟩ = some (.int .u64 0) := (blk_cell BK307.out 1).trans rfl; have hcz35_2 : w30.cell? ⟨gb307, 2, none⟩ = some (.int .i64 0) := (blk_cell BK307.out 2).trans rfl; have hfz35_0 := blk_frozen BK307.out 0; have hfz35_1 := blk_frozen BK307.out 1; have hfz35_2 := blk_frozen BK307.out 2; have hcz36_0 : w30.cell? ⟨gb297, 0, none⟩ = some (.int .u64 a5_0) := (blk_cell BK297.out 0).trans rfl; have hcz36_1 : w30.cell? ⟨gb297, 1, none⟩ = some (.int .u64 a5_1) := (blk_cell BK297.out 1).trans rfl; have hfz36_0 := blk_frozen BK297.out 0; have hfz36_1 := blk_frozen BK297.out 1) | ((with_reducible refine gate_callee (f := 17) rfl ?_); refine goesL_ (some 34) rfl rfl Tryd.func17 (by kernel_rfl) rfl #[.int .i64 t299, .agg #[.int .u64 a5_0, .int .u64 a5_1]] rfl xM ?_; (with_reducible refine (turnpikelaw3_clip.calls k t299 a5_0 a5_1 t308 t309 t310 _ A12.out).mono ?_); rintro e w37 ⟨rfl, hb⟩; refine ⟨_, rfl, ?_⟩; have n0_ := Aside0.mk (blk_below (g := gb295) (o := .cells #[.int .u64 a1_0, .int .u64 a1_1] 24 (0, 0)) (by (with_reducible repeat (first | refine blk_drewN ?_ _ | refine blk_drew ?_ | refine blk_alloc ?_ _)); refine blk_far ?_ NB295_307.out _; (with_reducible repeat (first | refine blk_drewN ?_ _ | refine blk_drew ?_ | refine blk_alloc ?_ _)); refine blk_far ?_ NB295_307.out _; (with_reducible repeat (first | refine blk_drewN ?_ _ | refine blk_drew ?_ | refine blk_alloc ?_ _)); refine blk_far ?_ NB295_307.out _; (with_reducible repeat (first | refine blk_drewN ?_ _ | refine blk_drew ?_ | refine blk_alloc ?_ _)); exact BK295.out) hb); have n1_ := Aside0.mk (blk_below (g := gb296) (o := .cells #[.int .u64 a3_0, .int .u64 a3_1] 24 (0, 0)) (by (with_reducible repeat (first | refine blk_drewN ?_ _ | refine blk_drew ?_ | refine blk_alloc ?_ _)); refine blk_far ?_ NB296_307.out _; (with_reducible repeat (first | refine blk_drewN ?_ _ | refine blk_drew ?_ | refine blk_alloc ?_ _)); refine blk_far ?_ NB296_307.out _; (with_reducible repeat (first | refine blk_drewN ?_ _ | refine blk_drew ?_ | refine blk_alloc ?_ _)); refine blk_far ?_ NB296_307.out _; (with_reducible repeat (first | refine blk_drewN ?_ _ | refine blk_drew ?_ | refine blk_alloc ?_ _)); exact BK296.out) hb); have n2_ := Aside0.mk (blk_below (g := gb297) (o := .cells #[.int .u64 a5_0, .int .u64 a5_1] 24 (0, 0)) (by (with_reducible repeat (first | refine blk_drewN ?_ _ | refine blk_drew ?_ | refine blk_alloc ?_ _)); refine blk_far ?_ NB297_307.out _; (with_reducible repeat (first | refine blk_drewN ?_ _ | refine blk_drew ?_ | refine blk_alloc ?_ _)); refine blk_far ?_ NB297_307.out _; (with_reducible repeat (first | refine blk_drewN ?_ _ | refine blk_drew ?_ | refine blk_alloc ?_ _)); refine blk_far ?_ NB297_307.out _; (with_reducible repeat (first | refine blk_drewN ?_ _ | refine blk_drew ?_ | refine blk_alloc ?_ _)); exact BK297.out) hb); have n3_ := Aside0.mk (blk_below (g := gb303) (o := .cells #[.int .u64 t300, .int .u64 t301, .int .i64 t302] 28 (0, 0)) (by (with_reducible repeat (first | refine blk_drewN ?_ _ | refine blk_drew ?_ | refine blk_alloc ?_ _)); refine blk_far ?_ NB303_307.out _; (with_reducible repeat (first | refine blk_drewN ?_ _ | refine blk_drew ?_ | refine blk_alloc ?_ _)); refine blk_far ?_ NB303_307.out _; (with_reducible repeat (first | refine blk_drewN ?_ _ | refine blk_drew ?_ | refine blk_alloc ?_ _)); refine blk_far ?_ NB303_307.out _; (with_reducible repeat (first | refine blk_drewN ?_ _ | refine blk_drew ?_ | refine blk_alloc ?_ _)); exact BK303.out) hb); have n4_ := Aside0.mk (blk_below (g := gb307) (o := .cells #[.int .u64 t304, .int .u64 t305, .int .i64 t306] 28 (0, 0)) (by (with_reducible repeat (first | refine blk_drewN ?_ _ | refine blk_drew ?_ | refine blk_alloc ?_ _)); refine blk_put (cs := #[.int .u64 t304, .int .u64 t305, .int .i64 0]) ?_ 2 _ rfl; (with_reducible repeat (first | refine blk_drewN ?_ _ | refine blk_drew ?_ | refine blk_alloc ?_ _)); refine blk_put (cs := #[.int .u64 t304, .int .u64 0, .int .i64 0]) ?_ 1 _ rfl; (with_reducible repeat (first | refine blk_drewN ?_ _ | refine blk_drew ?_ | refine blk_alloc ?_ _)); refine blk_put (cs := #[.int .u64 0, .int .u64 0, .int .i64 0]) ?_ 0 _ rfl; (with_reducible repeat (first | refine blk_drewN ?_ _ | refine blk_drew ?_ | refine blk_alloc ?_ _)); exact BK307.out) hb); have n5_ := Aside0.mk (below_step xG hb); clear BK295; clear BK296; clear BK297; clear BK303; clear BK307; clear HB; have BK295 := n0_; have BK296 := n1_; have BK297 := n2_; have BK303 := n3_; have BK307 := n4_; have HB := n5_; clear n0_ n1_ n2_ n3_ n4_ n5_; (try clear hb); (try clear hb2); (try clear hk); (try clear hi); have hcz38_0 : w37.cell? ⟨gb297, 0, none⟩ = some (.int .u64 a5_0) := (blk_cell BK297.out 0).trans rfl; have hcz38_1 : w37.cell? ⟨gb297, 1, none⟩ = some (.int .u64 a5_1) := (blk_cell BK297.out 1).trans rfl; have hfz38_0 := blk_frozen BK297.out 0; have hfz38_1 := blk_frozen BK297.out 1))
    (try simp only [Act.put, List.setIfInBounds_toArray, List.set_cons_zero, List.set_cons_succ])
    go_cut [53] (fun v53 wc => ∃ (kq : Nat) (x53_12 : Bool), v53 = .bool x53_12 ∧ Aside0 (turnpikelaw3_PrefixApart.j0 kq t299 x53_12 t308 t309 t300 t301 t302 t304 t305 t306 = some r) ∧ Aside0 (kq ≤ k) ∧ Aside0 (wc.heap[gb295]? = some (.cells #[.int .u64 a1_0, .int .u64 a1_1] 24 (0, 0))) ∧ Aside0 (wc.heap[gb296]? = some (.cells #[.int .u64 a3_0, .int .u64 a3_1] 24 (0, 0))) ∧ Aside0 (wc.heap[gb297]? = some (.cells #[.int .u64 t308, .int .u64 t309] 24 (0, 0))) ∧ Aside0 (wc.heap[gb303]? = some (.cells #[.int .u64 t300, .int .u64 t301, .int .i64 t302] 28 (0, 0))) ∧ Aside0 (wc.heap[gb307]? = some (.cells #[.int .u64 t304, .int .u64 t305, .int .i64 t306] 28 (0, 0))) ∧ Aside0 (Below w.heap.size w wc))
    case first =>
      have H := HC13.out
      clear HC13
      replace H := Option.bind_eq_some_iff.mp H
      obtain ⟨t311, A390, H⟩ := H
      replace H : ((prefix_First.f t300 t301 t302).bind fun bt312 => ((turnpikeref1_Cmp.f k bt312.1 bt312.2 t308 t309).bind fun t314 => (if t314 ≤ 0 then ((prefix_Last.f t299 t300 t301 t302).bind fun bt315 => ((turnpikeref1_Cmp.f k t308 t309 bt315.1 bt315.2).bind fun t317 => (turnpikelaw3_PrefixApart.j0 k t299 (t311 != (decide (t317 ≤ 0))) t308 t309 t300 t301 t302 t304 t305 t306))) else (turnpikelaw3_PrefixApart.j0 k t299 (t311 != false) t308 t309 t300 t301 t302 t304 t305 t306)))) = some r := H
      have A39 := Aside0.mk A390
      clear A390
      replace H := Option.bind_eq_some_iff.mp H
      obtain ⟨⟨t312, t313⟩, A400, H⟩ := H
      replace H : ((turnpikeref1_Cmp.f k t312 t313 t308 t309).bind fun t314 => (if t314 ≤ 0 then ((prefix_Last.f t299 t300 t301 t302).bind fun bt315 => ((turnpikeref1_Cmp.f k t308 t309 bt315.1 bt315.2).bind fun t317 => (turnpikelaw3_PrefixApart.j0 k t299 (t311 != (decide (t317 ≤ 0))) t308 t309 t300 t301 t302 t304 t305 t306))) else (turnpikelaw3_PrefixApart.j0 k t299 (t311 != false) t308 t309 t300 t301 t302 t304 t305 t306))) = some r := H
      have A40 := Aside0.mk A400
      clear A400
      replace H := Option.bind_eq_some_iff.mp H
      obtain ⟨t314, A410, H⟩ := H
      replace H : (if t314 ≤ 0 then ((prefix_Last.f t299 t300 t301 t302).bind fun bt315 => ((turnpikeref1_Cmp.f k t308 t309 bt315.1 bt315.2).bind fun t317 => (turnpikelaw3_PrefixApart.j0 k t299 (t311 != (decide (t317 ≤ 0))) t308 t309 t300 t301 t302 t304 t305 t306))) else (turnpikelaw3_PrefixApart.j0 k t299 (t311 != false) t308 t309 t300 t301 t302 t304 t305 t306)) = some r := H
      have A41 := Aside0.mk A410
      clear A410
      by_cases c42 : t314 ≤ 0
      · rw [if_pos c42] at H
        have c42b0 : decide (t314 ≤ 0) = true := decide_eq_true c42
        clear c42
        (first | rw [c42b0] | (simp only [i64_w, i32_w]; rw [c42b0]) | skip)
        replace H := Option.bind_eq_some_iff.mp H
        obtain ⟨⟨t315, t316⟩, A430, H⟩ := H
        replace H : ((turnpikeref1_Cmp.f k t308 t309 t315 t316).bind fun t317 => (turnpikelaw3_PrefixApart.j0 k t299 (t311 != (decide (t317 ≤ 0))) t308 t309 t300 t301 t302 t304 t305 t306)) = some r := H
        have A43 := Aside0.mk A430
        clear A430
        replace H := Option.bind_eq_some_iff.mp H
        obtain ⟨t317, A440, H⟩ := H
        replace H : (turnpikelaw3_PrefixApart.j0 k t299 (t311 != (decide (t317 ≤ 0))) t308 t309 t300 t301 t302 t304 t305 t306) = some r := H
        have A44 := Aside0.mk A440
        clear A440
        have H' := Aside0.mk H
        clear H
        try go_wp2
        have n0_ : Aside0 (((w37.setCell ⟨gb297, 0, none⟩ (.int .u64 t308)).setCell ⟨gb297, 1, none⟩ (.int .u64 t309)).heap[gb295]? = some (.cells #[.int .u64 a1_0, .int .u64 a1_1] 24 (0, 0))) := ⟨by (with_reducible repeat (first | refine blk_drewN ?_ _ | refine blk_drew ?_ | refine blk_alloc ?_ _)); refine blk_far ?_ NB295_297.out _; (with_reducible repeat (first | refine blk_drewN ?_ _ | refine blk_drew ?_ | refine blk_alloc ?_ _)); refine blk_far ?_ NB295_297.out _; (with_reducible repeat (first | refine blk_drewN ?_ _ | refine blk_drew ?_ | refine blk_alloc ?_ _)); exact BK295.out⟩
        have n1_ : Aside0 (((w37.setCell ⟨gb297, 0, none⟩ (.int .u64 t308)).setCell ⟨gb297, 1, none⟩ (.int .u64 t309)).heap[gb296]? = some (.cells #[.int .u64 a3_0, .int .u64 a3_1] 24 (0, 0))) := ⟨by (with_reducible repeat (first | refine blk_drewN ?_ _ | refine blk_drew ?_ | refine blk_alloc ?_ _)); refine blk_far ?_ NB296_297.out _; (with_reducible repeat (first | refine blk_drewN ?_ _ | refine blk_drew ?_ | refine blk_alloc ?_ _)); refine blk_far ?_ NB296_297.out _; (with_reducible repeat (first | refine blk_drewN ?_ _ | refine blk_drew ?_ | refine blk_alloc ?_ _)); exact BK296.out⟩
        have n2_ : Aside0 (((w37.setCell ⟨gb297, 0, none⟩ (.int .u64 t308)).setCell ⟨gb297, 1, none⟩ (.int .u64 t309)).heap[gb297]? = some (.cells #[.int .u64 t308, .int .u64 t309] 24 (0, 0))) := ⟨by (with_reducible repeat (first | refine blk_drewN ?_ _ | refine blk_drew ?_ | refine blk_alloc ?_ _)); refine blk_put (cs := #[.int .u64 t308, .int .u64 a5_1]) ?_ 1 _ rfl; (with_reducible repeat (first | refine blk_drewN ?_ _ | refine blk_drew ?_ | refine blk_alloc ?_ _)); refine blk_put (cs := #[.int .u64 a5_0, .int .u64 a5_1]) ?_ 0 _ rfl; (with_reducible repeat (first | refine blk_drewN ?_ _ | refine blk_drew ?_ | refine blk_alloc ?_ _)); exact BK297.out⟩
        have n3_ : Aside0 (((w37.setCell ⟨gb297, 0, none⟩ (.int .u64 t308)).setCell ⟨gb297, 1, none⟩ (.int .u64 t309)).heap[gb303]? = some (.cells #[.int .u64 t300, .int .u64 t301, .int .i64 t302] 28 (0, 0))) := ⟨by (with_reducible repeat (first | refine blk_drewN ?_ _ | refine blk_drew ?_ | refine blk_alloc ?_ _)); refine blk_far ?_ NB303_297.out _; (with_reducible repeat (first | refine blk_drewN ?_ _ | refine blk_drew ?_ | refine blk_alloc ?_ _)); refine blk_far ?_ NB303_297.out _; (with_reducible repeat (first | refine blk_drewN ?_ _ | refine blk_drew ?_ | refine blk_alloc ?_ _)); exact BK303.out⟩
        have n4_ : Aside0 (((w37.setCell ⟨gb297, 0, none⟩ (.int .u64 t308)).setCell ⟨gb297, 1, none⟩ (.int .u64 t309)).heap[gb307]? = some (.cells #[.int .u64 t304, .int .u64 t305, .int .i64 t306] 28 (0, 0))) := ⟨by (with_reducible repeat (first | refine blk_drewN ?_ _ | refine blk_drew ?_ | refine blk_alloc ?_ _)); refine blk_far ?_ NB307_297.out _; (with_reducible repeat (first | refine blk_drewN ?_ _ | refine blk_drew ?_ | refine blk_alloc ?_ _)); refine blk_far ?_ NB307_297.out _; (with_reducible repeat (first | refine blk_drewN ?_ _ | refine blk_drew ?_ | refine blk_alloc ?_ _)); exact BK307.out⟩
        have n5_ : Aside0 (Below w.heap.size w ((w37.setCell ⟨gb297, 0, none⟩ (.int .u64 t308)).setCell ⟨gb297, 1, none⟩ (.int .u64 t309))) := ⟨xG⟩
        (try clear BK295)
        (try clear BK296)
        (try clear BK297)
        (try clear BK303)
        (try clear BK307)
        (try clear HB)
        generalize ((w37.setCell ⟨gb297, 0, none⟩ (.int .u64 t308)).setCell ⟨gb297, 1, none⟩ (.int .u64 t309)) = w45 at n0_ n1_ n2_ n3_ n4_ n5_ ⊢
        have BK295 := n0_
        have BK296 := n1_
        have BK297 := n2_
        have BK303 := n3_
        have BK307 := n4_
        have HB := n5_
        clear n0_ n1_ n2_ n3_ n4_ n5_
        have n0_ := Aside0.mk (blk_drew BK295.out)
        have n1_ := Aside0.mk (blk_drew BK296.out)
        have n2_ := Aside0.mk (blk_drew BK297.out)
        have n3_ := Aside0.mk (blk_drew BK303.out)
        have n4_ := Aside0.mk (blk_drew BK307.out)
        have n5_ := Aside0.mk (below_drew1 HB.out)
        clear BK295
        clear BK296
        clear BK297
        clear BK303
        clear BK307
        clear HB
        have BK295 := n0_
        have BK296 := n1_
        have BK297 := n2_
        have BK303 := n3_
        have BK307 := n4_
        have HB := n5_
        clear n0_ n1_ n2_ n3_ n4_ n5_
        refine start_ (n := 17) (S := fun w' => w'.cell? ⟨gb303, 0, none⟩ = some (.int .u64 t300) ∧ w'.cell? ⟨gb303, 1, none⟩ = some (.int .u64 t301) ∧ w'.cell? ⟨gb303, 2, none⟩ = some (.int .i64 t302) ∧ w'.cell? ⟨gb297, 0, none⟩ = some (.int .u64 t308) ∧ w'.cell? ⟨gb297, 1, none⟩ = some (.int .u64 t309)) (ds := []) #[false, false, false, false, false, false, false, false, false, false, false, false, false, false, false, false, false] (by kernel_rfl) rfl rfl ⟨(blk_cell BK303.out 0).trans rfl, (blk_cell BK303.out 1).trans rfl, (blk_cell BK303.out 2).trans rfl, (blk_cell BK297.out 0).trans rfl, (blk_cell BK297.out 1).trans rfl⟩ (fun hHeld => ?_); refine with_tabW turnpikelaw3_PrefixApart.tab7 turnpikelaw3_PrefixApart.bits7 (fun HT_ HW_ => ?_)
        generalize w45.drew = w46 at BK295 BK296 BK297 BK303 BK307 HB hHeld ⊢
        refine take_ (i := 0) (N := some 37) (v := ?_) (a' := ?_) #[true, false, false, false, false, false, false, false, false, false, false, false, false, false, false, false, false] rfl rfl (take_ofW HT_.out HW_.out (by kernel_rfl)) (fun _ _ _ h => h) (Or.inl ⟨by rfl, ?_⟩) hHeld ?_ ?_
        rotate_left
        · rintro w' ⟨s0, s1, s2, s3, s4⟩
          go_simp
          with_reducible rfl
        rotate_left
        · simp only [Act.put, List.setIfInBounds_toArray, List.set_cons_zero, List.set_cons_succ, i64_w, i32_w]
          rfl
        refine take_ (i := 1) (N := some 38) (v := ?_) (a' := ?_) #[true, true, false, false, false, false, false, false, false, false, false, false, false, false, false, false, false] rfl rfl (take_ofW HT_.out HW_.out (by kernel_rfl)) (fun _ _ _ h => h) (Or.inl ⟨by rfl, ?_⟩) hHeld ?_ ?_
        rotate_left
        · rintro w' ⟨s0, s1, s2, s3, s4⟩
          go_simp
          with_reducible rfl
        rotate_left
        · simp only [Act.put, List.setIfInBounds_toArray, List.set_cons_zero, List.set_cons_succ, i64_w, i32_w]
          rfl
        refine take_ (i := 3) (N := some 40) (v := ?_) (a' := ?_) #[true, true, false, true, false, false, false, false, false, false, false, false, false, false, false, false, false] rfl rfl (take_ofW HT_.out HW_.out (by kernel_rfl)) (fun _ _ _ h => h) (Or.inl ⟨by rfl, ?_⟩) hHeld ?_ ?_
        rotate_left
        · rintro w' ⟨s0, s1, s2, s3, s4⟩
          go_simp
          with_reducible rfl
        rotate_left
        · simp only [Act.put, List.setIfInBounds_toArray, List.set_cons_zero, List.set_cons_succ, i64_w, i32_w]
          rfl
        refine take_ (i := 5) (N := some 42) (v := ?_) (a' := ?_) #[true, true, false, true, false, true, false, false, false, false, false, false, false, false, false, false, false] rfl rfl (take_ofW HT_.out HW_.out (by kernel_rfl)) (fun _ _ _ h => h) (Or.inl ⟨by rfl, ?_⟩) hHeld ?_ ?_
        rotate_left
        · rintro w' ⟨s0, s1, s2, s3, s4⟩
          go_simp
          with_reducible rfl
        rotate_left
        · simp only [Act.put, List.setIfInBounds_toArray, List.set_cons_zero, List.set_cons_succ, i64_w, i32_w]
          rfl
        refine one_ (i := 2) (N := some 39) #[true, true, true, true, false, true, false, false, false, false, false, false, false, false, false, false, false] rfl rfl (one_of HT_.out (by kernel_rfl)) (by decide) (fun K hK => ?_)
        refine goes_ Tryd.func18 (by kernel_rfl) rfl #[.agg #[.int .u64 t300, .int .u64 t301, .int .i64 t302], .agg #[.int .u64 t308, .int .u64 t309]] (by rfl) rfl rfl xM ?_
        with_reducible refine (prefix_Has.calls t300 t301 t302 t308 t309 t311 _ A39.out).mono ?_
        rintro e w47 ⟨rfl, hb⟩
        refine ⟨_, rfl, ?_⟩
        have n0_ := Aside0.mk (blk_below (g := gb295) (o := .cells #[.int .u64 a1_0, .int .u64 a1_1] 24 (0, 0)) (xK BK295.out) hb)
        have n1_ := Aside0.mk (blk_below (g := gb296) (o := .cells #[.int .u64 a3_0, .int .u64 a3_1] 24 (0, 0)) (xK BK296.out) hb)
        have n2_ := Aside0.mk (blk_below (g := gb297) (o := .cells #[.int .u64 t308, .int .u64 t309] 24 (0, 0)) (xK BK297.out) hb)
        have n3_ := Aside0.mk (blk_below (g := gb303) (o := .cells #[.int .u64 t300, .int .u64 t301, .int .i64 t302] 28 (0, 0)) (xK BK303.out) hb)
        have n4_ := Aside0.mk (blk_below (g := gb307) (o := .cells #[.int .u64 t304, .int .u64 t305, .int .i64 t306] 28 (0, 0)) (xK BK307.out) hb)
        have n5_ := Aside0.mk (below_step xG hb)
        clear BK295
        clear BK296
        clear BK297
        clear BK303
        clear BK307
        clear HB
        have BK295 := n0_
        have BK296 := n1_
        have BK297 := n2_
        have BK303 := n3_
        have BK307 := n4_
        have HB := n5_
        clear n0_ n1_ n2_ n3_ n4_ n5_
        (try clear hb)
        (try clear hb2)
        (try clear hk)
        (try clear hi)
        refine hK.out _ _ ⟨(blk_cell BK303.out 0).trans rfl, (blk_cell BK303.out 1).trans rfl, (blk_cell BK303.out 2).trans rfl, (blk_cell BK297.out 0).trans rfl, (blk_cell BK297.out 1).trans rfl⟩ (fun hHeld => ?_)
        clear hK K
        refine norm_ (a' := ?_) ?_ ?_
        rotate_left
        · show Act.put _ (some 39) _ = _
          simp only [Act.put, List.setIfInBounds_toArray, List.set_cons_zero, List.set_cons_succ, i64_w, i32_w]
          rfl
        refine one_ (i := 4) (N := some 41) #[true, true, true, true, true, true, false, false, false, false, false, false, false, false, false, false, false] rfl rfl (one_of HT_.out (by kernel_rfl)) (by decide) (fun K hK => ?_)
        refine goes_ Tryd.func20 (by kernel_rfl) rfl #[.agg #[.int .u64 t300, .int .u64 t301, .int .i64 t302]] (by rfl) rfl rfl xM ?_
        with_reducible refine (prefix_First.calls t300 t301 t302 t312 t313 _ A40.out).mono ?_
        rintro e w48 ⟨rfl, hb⟩
        refine ⟨_, rfl, ?_⟩
        have n0_ := Aside0.mk (blk_below (g := gb295) (o := .cells #[.int .u64 a1_0, .int .u64 a1_1] 24 (0, 0)) (xK BK295.out) hb)
        have n1_ := Aside0.mk (blk_below (g := gb296) (o := .cells #[.int .u64 a3_0, .int .u64 a3_1] 24 (0, 0)) (xK BK296.out) hb)
        have n2_ := Aside0.mk (blk_below (g := gb297) (o := .cells #[.int .u64 t308, .int .u64 t309] 24 (0, 0)) (xK BK297.out) hb)
        have n3_ := Aside0.mk (blk_below (g := gb303) (o := .cells #[.int .u64 t300, .int .u64 t301, .int .i64 t302] 28 (0, 0)) (xK BK303.out) hb)
        have n4_ := Aside0.mk (blk_below (g := gb307) (o := .cells #[.int .u64 t304, .int .u64 t305, .int .i64 t306] 28 (0, 0)) (xK BK307.out) hb)
        have n5_ := Aside0.mk (below_step xG hb)
        clear BK295
        clear BK296
        clear BK297
        clear BK303
        clear BK307
        clear HB
        have BK295 := n0_
        have BK296 := n1_
        have BK297 := n2_
        have BK303 := n3_
        have BK307 := n4_
        have HB := n5_
        clear n0_ n1_ n2_ n3_ n4_ n5_
        (try clear hb)
        (try clear hb2)
        (try clear hk)
        (try clear hi)
        refine hK.out _ _ ⟨(blk_cell BK303.out 0).trans rfl, (blk_cell BK303.out 1).trans rfl, (blk_cell BK303.out 2).trans rfl, (blk_cell BK297.out 0).trans rfl, (blk_cell BK297.out 1).trans rfl⟩ (fun hHeld => ?_)
        clear hK K
        refine norm_ (a' := ?_) ?_ ?_
        rotate_left
        · show Act.put _ (some 41) _ = _
          simp only [Act.put, List.setIfInBounds_toArray, List.set_cons_zero, List.set_cons_succ, i64_w, i32_w]
          rfl
        refine one_ (i := 6) (N := some 43) #[true, true, true, true, true, true, true, false, false, false, false, false, false, false, false, false, false] rfl rfl (one_of HT_.out (by kernel_rfl)) (by decide) (fun K hK => ?_)
        refine goes_ Tryd.func19 (by kernel_rfl) rfl #[.agg #[.int .u64 t312, .int .u64 t313], .agg #[.int .u64 t308, .int .u64 t309]] (by rfl) rfl rfl xM ?_
        with_reducible refine (turnpikeref1_Cmp.calls k t312 t313 t308 t309 t314 _ A41.out).mono ?_
        rintro e w49 ⟨rfl, hb⟩
        refine ⟨_, rfl, ?_⟩
        have n0_ := Aside0.mk (blk_below (g := gb295) (o := .cells #[.int .u64 a1_0, .int .u64 a1_1] 24 (0, 0)) (xK BK295.out) hb)
        have n1_ := Aside0.mk (blk_below (g := gb296) (o := .cells #[.int .u64 a3_0, .int .u64 a3_1] 24 (0, 0)) (xK BK296.out) hb)
        have n2_ := Aside0.mk (blk_below (g := gb297) (o := .cells #[.int .u64 t308, .int .u64 t309] 24 (0, 0)) (xK BK297.out) hb)
        have n3_ := Aside0.mk (blk_below (g := gb303) (o := .cells #[.int .u64 t300, .int .u64 t301, .int .i64 t302] 28 (0, 0)) (xK BK303.out) hb)
        have n4_ := Aside0.mk (blk_below (g := gb307) (o := .cells #[.int .u64 t304, .int .u64 t305, .int .i64 t306] 28 (0, 0)) (xK BK307.out) hb)
        have n5_ := Aside0.mk (below_step xG hb)
        clear BK295
        clear BK296
        clear BK297
        clear BK303
        clear BK307
        clear HB
        have BK295 := n0_
        have BK296 := n1_
        have BK297 := n2_
        have BK303 := n3_
        have BK307 := n4_
        have HB := n5_
        clear n0_ n1_ n2_ n3_ n4_ n5_
        (try clear hb)
        (try clear hb2)
        (try clear hk)
        (try clear hi)
        refine hK.out _ _ ⟨(blk_cell BK303.out 0).trans rfl, (blk_cell BK303.out 1).trans rfl, (blk_cell BK303.out 2).trans rfl, (blk_cell BK297.out 0).trans rfl, (blk_cell BK297.out 1).trans rfl⟩ (fun hHeld => ?_)
        clear hK K
        refine norm_ (a' := ?_) ?_ ?_
        rotate_left
        · show Act.put _ (some 43) _ = _
          simp only [Act.put, List.setIfInBounds_toArray, List.set_cons_zero, List.set_cons_succ, i64_w, i32_w]
          rfl
        refine pure_ (i := 7) (N := some 44) (v := ?_) (a' := ?_) #[true, true, true, true, true, true, true, true, false, false, false, false, false, false, false, false, false] rfl rfl (any_of HT_.out (by kernel_rfl)) (fun _ _ _ h => h) (Or.inl ⟨by rfl, ?_⟩) ?_ ?_
        rotate_left
        · intro w'
          go_simp
          with_reducible rfl
        rotate_left
        · simp only [Act.put, List.setIfInBounds_toArray, List.set_cons_zero, List.set_cons_succ, i64_w, i32_w]
          rfl
        refine pure_ (i := 8) (N := some 45) (v := ?_) (a' := ?_) #[true, true, true, true, true, true, true, true, true, false, false, false, false, false, false, false, false] rfl rfl (any_of HT_.out (by kernel_rfl)) (fun _ _ _ h => h) (Or.inl ⟨by rfl, ?_⟩) ?_ ?_
        rotate_left
        · intro w'
          go_simp
          with_reducible rfl
        rotate_left
        · simp only [Act.put, List.setIfInBounds_toArray, List.set_cons_zero, List.set_cons_succ, i64_w, i32_w]
          rfl
        refine pure_ (i := 10) (N := some 47) (v := ?_) (a' := ?_) #[true, true, true, true, true, true, true, true, true, false, true, false, false, false, false, false, false] rfl rfl (any_of HT_.out (by kernel_rfl)) (fun _ _ _ h => h) (Or.inl ⟨by rfl, ?_⟩) ?_ ?_
        rotate_left
        · intro w'
          go_simp
          with_reducible rfl
        rotate_left
        · simp only [Act.put, List.setIfInBounds_toArray, List.set_cons_zero, List.set_cons_succ, i64_w, i32_w]
          rfl
        refine take_ (i := 9) (N := some 46) (v := ?_) (a' := ?_) #[true, true, true, true, true, true, true, true, true, true, true, false, false, false, false, false, false] rfl rfl (take_ofW HT_.out HW_.out (by kernel_rfl)) (fun _ _ _ h => h) (Or.inl ⟨by rfl, ?_⟩) hHeld ?_ ?_
        rotate_left
        · rintro w' ⟨s0, s1, s2, s3, s4⟩
          go_simp
          with_reducible rfl
        rotate_left
        · simp only [Act.put, List.setIfInBounds_toArray, List.set_cons_zero, List.set_cons_succ, i64_w, i32_w]
          rfl
        refine take_ (i := 11) (N := some 48) (v := ?_) (a' := ?_) #[true, true, true, true, true, true, true, true, true, true, true, true, false, false, false, false, false] rfl rfl (take_ofW HT_.out HW_.out (by kernel_rfl)) (fun _ _ _ h => h) (Or.inl ⟨by rfl, ?_⟩) hHeld ?_ ?_
        rotate_left
        · rintro w' ⟨s0, s1, s2, s3, s4⟩
          go_simp
          with_reducible rfl
        rotate_left
        · simp only [Act.put, List.setIfInBounds_toArray, List.set_cons_zero, List.set_cons_succ, i64_w, i32_w]
          rfl
        refine one_ (i := 12) (N := some 49) #[true, true, true, true, true, true, true, true, true, true, true, true, true, false, false, false, false] rfl rfl (one_of HT_.out (by kernel_rfl)) (by decide) (fun K hK => ?_)
        refine goes_ Tryd.func21 (by kernel_rfl) rfl #[.int .i64 t299, .agg #[.int .u64 t300, .int .u64 t301, .int .i64 t302]] (by rfl) rfl rfl xM ?_
        with_reducible refine (prefix_Last.calls t299 t300 t301 t302 t315 t316 _ A43.out).mono ?_
        rintro e w50 ⟨rfl, hb⟩
        refine ⟨_, rfl, ?_⟩
        have n0_ := Aside0.mk (blk_below (g := gb295) (o := .cells #[.int .u64 a1_0, .int .u64 a1_1] 24 (0, 0)) (xK BK295.out) hb)
        have n1_ := Aside0.mk (blk_below (g := gb296) (o := .cells #[.int .u64 a3_0, .int .u64 a3_1] 24 (0, 0)) (xK BK296.out) hb)
        have n2_ := Aside0.mk (blk_below (g := gb297) (o := .cells #[.int .u64 t308, .int .u64 t309] 24 (0, 0)) (xK BK297.out) hb)
        have n3_ := Aside0.mk (blk_below (g := gb303) (o := .cells #[.int .u64 t300, .int .u64 t301, .int .i64 t302] 28 (0, 0)) (xK BK303.out) hb)
        have n4_ := Aside0.mk (blk_below (g := gb307) (o := .cells #[.int .u64 t304, .int .u64 t305, .int .i64 t306] 28 (0, 0)) (xK BK307.out) hb)
        have n5_ := Aside0.mk (below_step xG hb)
        clear BK295
        clear BK296
        clear BK297
        clear BK303
        clear BK307
        clear HB
        have BK295 := n0_
        have BK296 := n1_
        have BK297 := n2_
        have BK303 := n3_
        have BK307 := n4_
        have HB := n5_
        clear n0_ n1_ n2_ n3_ n4_ n5_
        (try clear hb)
        (try clear hb2)
        (try clear hk)
        (try clear hi)
        refine hK.out _ _ ⟨(blk_cell BK303.out 0).trans rfl, (blk_cell BK303.out 1).trans rfl, (blk_cell BK303.out 2).trans rfl, (blk_cell BK297.out 0).trans rfl, (blk_cell BK297.out 1).trans rfl⟩ (fun hHeld => ?_)
        clear hK K
        refine norm_ (a' := ?_) ?_ ?_
        rotate_left
        · show Act.put _ (some 49) _ = _
          simp only [Act.put, List.setIfInBounds_toArray, List.set_cons_zero, List.set_cons_succ, i64_w, i32_w]
          rfl
        refine one_ (i := 13) (N := some 50) #[true, true, true, true, true, true, true, true, true, true, true, true, true, true, false, false, false] rfl rfl (one_of HT_.out (by kernel_rfl)) (by decide) (fun K hK => ?_)
        refine goes_ Tryd.func19 (by kernel_rfl) rfl #[.agg #[.int .u64 t308, .int .u64 t309], .agg #[.int .u64 t315, .int .u64 t316]] (by rfl) rfl rfl xM ?_
        with_reducible refine (turnpikeref1_Cmp.calls k t308 t309 t315 t316 t317 _ A44.out).mono ?_
        rintro e w51 ⟨rfl, hb⟩
        refine ⟨_, rfl, ?_⟩
        have n0_ := Aside0.mk (blk_below (g := gb295) (o := .cells #[.int .u64 a1_0, .int .u64 a1_1] 24 (0, 0)) (xK BK295.out) hb)
        have n1_ := Aside0.mk (blk_below (g := gb296) (o := .cells #[.int .u64 a3_0, .int .u64 a3_1] 24 (0, 0)) (xK BK296.out) hb)
        have n2_ := Aside0.mk (blk_below (g := gb297) (o := .cells #[.int .u64 t308, .int .u64 t309] 24 (0, 0)) (xK BK297.out) hb)
        have n3_ := Aside0.mk (blk_below (g := gb303) (o := .cells #[.int .u64 t300, .int .u64 t301, .int .i64 t302] 28 (0, 0)) (xK BK303.out) hb)
        have n4_ := Aside0.mk (blk_below (g := gb307) (o := .cells #[.int .u64 t304, .int .u64 t305, .int .i64 t306] 28 (0, 0)) (xK BK307.out) hb)
        have n5_ := Aside0.mk (below_step xG hb)
        clear BK295
        clear BK296
        clear BK297
        clear BK303
        clear BK307
        clear HB
        have BK295 := n0_
        have BK296 := n1_
        have BK297 := n2_
        have BK303 := n3_
        have BK307 := n4_
        have HB := n5_
        clear n0_ n1_ n2_ n3_ n4_ n5_
        (try clear hb)
        (try clear hb2)
        (try clear hk)
        (try clear hi)
        refine hK.out _ _ ⟨(blk_cell BK303.out 0).trans rfl, (blk_cell BK303.out 1).trans rfl, (blk_cell BK303.out 2).trans rfl, (blk_cell BK297.out 0).trans rfl, (blk_cell BK297.out 1).trans rfl⟩ (fun hHeld => ?_)
        clear hK K
        refine norm_ (a' := ?_) ?_ ?_
        rotate_left
        · show Act.put _ (some 50) _ = _
          simp only [Act.put, List.setIfInBounds_toArray, List.set_cons_zero, List.set_cons_succ, i64_w, i32_w]
          rfl
        refine pure_ (i := 14) (N := some 51) (v := ?_) (a' := ?_) #[true, true, true, true, true, true, true, true, true, true, true, true, true, true, true, false, false] rfl rfl (any_of HT_.out (by kernel_rfl)) (fun _ _ _ h => h) (Or.inl ⟨by rfl, ?_⟩) ?_ ?_
        rotate_left
        · intro w'
          go_simp
          with_reducible rfl
        rotate_left
        · simp only [Act.put, List.setIfInBounds_toArray, List.set_cons_zero, List.set_cons_succ, i64_w, i32_w]
          rfl
        refine pure_ (i := 15) (N := some 52) (v := ?_) (a' := ?_) #[true, true, true, true, true, true, true, true, true, true, true, true, true, true, true, true, false] rfl rfl (any_of HT_.out (by kernel_rfl)) (fun _ _ _ h => h) (Or.inl ⟨by rfl, ?_⟩) ?_ ?_
        rotate_left
        · intro w'
          go_simp
          with_reducible rfl
        rotate_left
        · simp only [Act.put, List.setIfInBounds_toArray, List.set_cons_zero, List.set_cons_succ, i64_w, i32_w]
          rfl
        refine pure_ (i := 16) (N := some 53) (v := ?_) (a' := ?_) #[true, true, true, true, true, true, true, true, true, true, true, true, true, true, true, true, true] rfl rfl (any_of HT_.out (by kernel_rfl)) (fun _ _ _ h => h) (Or.inl ⟨by rfl, ?_⟩) ?_ ?_
        rotate_left
        · intro w'
          go_simp
          with_reducible rfl
        rotate_left
        · simp only [Act.put, List.setIfInBounds_toArray, List.set_cons_zero, List.set_cons_succ, i64_w, i32_w]
          rfl
        refine done_ (done_of HT_.out (by kernel_rfl)) ?_
        try go_wp2
        go_meet
        case rel => exact ⟨_, ((t311 != (decide (t317 ≤ 0)))), xV, H', ⟨by first | omega | exact Nat.le_refl _⟩, ⟨xK BK295.out⟩, ⟨xK BK296.out⟩, ⟨xK BK297.out⟩, ⟨xK BK303.out⟩, ⟨xK BK307.out⟩, ⟨xG⟩⟩
      · rw [if_neg c42] at H
        have c42b0 : decide (t314 ≤ 0) = false := decide_eq_false c42
        clear c42
        (first | rw [c42b0] | (simp only [i64_w, i32_w]; rw [c42b0]) | skip)
        have H' := Aside0.mk H
        clear H
        try go_wp2
        have n0_ : Aside0 (((w37.setCell ⟨gb297, 0, none⟩ (.int .u64 t308)).setCell ⟨gb297, 1, none⟩ (.int .u64 t309)).heap[gb295]? = some (.cells #[.int .u64 a1_0, .int .u64 a1_1] 24 (0, 0))) := ⟨by (with_reducible repeat (first | refine blk_drewN ?_ _ | refine blk_drew ?_ | refine blk_alloc ?_ _)); refine blk_far ?_ NB295_297.out _; (with_reducible repeat (first | refine blk_drewN ?_ _ | refine blk_drew ?_ | refine blk_alloc ?_ _)); refine blk_far ?_ NB295_297.out _; (with_reducible repeat (first | refine blk_drewN ?_ _ | refine blk_drew ?_ | refine blk_alloc ?_ _)); exact BK295.out⟩
        have n1_ : Aside0 (((w37.setCell ⟨gb297, 0, none⟩ (.int .u64 t308)).setCell ⟨gb297, 1, none⟩ (.int .u64 t309)).heap[gb296]? = some (.cells #[.int .u64 a3_0, .int .u64 a3_1] 24 (0, 0))) := ⟨by (with_reducible repeat (first | refine blk_drewN ?_ _ | refine blk_drew ?_ | refine blk_alloc ?_ _)); refine blk_far ?_ NB296_297.out _; (with_reducible repeat (first | refine blk_drewN ?_ _ | refine blk_drew ?_ | refine blk_alloc ?_ _)); refine blk_far ?_ NB296_297.out _; (with_reducible repeat (first | refine blk_drewN ?_ _ | refine blk_drew ?_ | refine blk_alloc ?_ _)); exact BK296.out⟩
        have n2_ : Aside0 (((w37.setCell ⟨gb297, 0, none⟩ (.int .u64 t308)).setCell ⟨gb297, 1, none⟩ (.int .u64 t309)).heap[gb297]? = some (.cells #[.int .u64 t308, .int .u64 t309] 24 (0, 0))) := ⟨by (with_reducible repeat (first | refine blk_drewN ?_ _ | refine blk_drew ?_ | refine blk_alloc ?_ _)); refine blk_put (cs := #[.int .u64 t308, .int .u64 a5_1]) ?_ 1 _ rfl; (with_reducible repeat (first | refine blk_drewN ?_ _ | refine blk_drew ?_ | refine blk_alloc ?_ _)); refine blk_put (cs := #[.int .u64 a5_0, .int .u64 a5_1]) ?_ 0 _ rfl; (with_reducible repeat (first | refine blk_drewN ?_ _ | refine blk_drew ?_ | refine blk_alloc ?_ _)); exact BK297.out⟩
        have n3_ : Aside0 (((w37.setCell ⟨gb297, 0, none⟩ (.int .u64 t308)).setCell ⟨gb297, 1, none⟩ (.int .u64 t309)).heap[gb303]? = some (.cells #[.int .u64 t300, .int .u64 t301, .int .i64 t302] 28 (0, 0))) := ⟨by (with_reducible repeat (first | refine blk_drewN ?_ _ | refine blk_drew ?_ | refine blk_alloc ?_ _)); refine blk_far ?_ NB303_297.out _; (with_reducible repeat (first | refine blk_drewN ?_ _ | refine blk_drew ?_ | refine blk_alloc ?_ _)); refine blk_far ?_ NB303_297.out _; (with_reducible repeat (first | refine blk_drewN ?_ _ | refine blk_drew ?_ | refine blk_alloc ?_ _)); exact BK303.out⟩
        have n4_ : Aside0 (((w37.setCell ⟨gb297, 0, none⟩ (.int .u64 t308)).setCell ⟨gb297, 1, none⟩ (.int .u64 t309)).heap[gb307]? = some (.cells #[.int .u64 t304, .int .u64 t305, .int .i64 t306] 28 (0, 0))) := ⟨by (with_reducible repeat (first | refine blk_drewN ?_ _ | refine blk_drew ?_ | refine blk_alloc ?_ _)); refine blk_far ?_ NB307_297.out _; (with_reducible repeat (first | refine blk_drewN ?_ _ | refine blk_drew ?_ | refine blk_alloc ?_ _)); refine blk_far ?_ NB307_297.out _; (with_reducible repeat (first | refine blk_drewN ?_ _ | refine blk_drew ?_ | refine blk_alloc ?_ _)); exact BK307.out⟩
        have n5_ : Aside0 (Below w.heap.size w ((w37.setCell ⟨gb297, 0, none⟩ (.int .u64 t308)).setCell ⟨gb297, 1, none⟩ (.int .u64 t309))) := ⟨xG⟩
        (try clear BK295)
        (try clear BK296)
        (try clear BK297)
        (try clear BK303)
        (try clear BK307)
        (try clear HB)
        generalize ((w37.setCell ⟨gb297, 0, none⟩ (.int .u64 t308)).setCell ⟨gb297, 1, none⟩ (.int .u64 t309)) = w52 at n0_ n1_ n2_ n3_ n4_ n5_ ⊢
        have BK295 := n0_
        have BK296 := n1_
        have BK297 := n2_
        have BK303 := n3_
        have BK307 := n4_
        have HB := n5_
        clear n0_ n1_ n2_ n3_ n4_ n5_
        have n0_ := Aside0.mk (blk_drew BK295.out)
        have n1_ := Aside0.mk (blk_drew BK296.out)
        have n2_ := Aside0.mk (blk_drew BK297.out)
        have n3_ := Aside0.mk (blk_drew BK303.out)
        have n4_ := Aside0.mk (blk_drew BK307.out)
        have n5_ := Aside0.mk (below_drew1 HB.out)
        clear BK295
        clear BK296
        clear BK297
        clear BK303
        clear BK307
        clear HB
        have BK295 := n0_
        have BK296 := n1_
        have BK297 := n2_
        have BK303 := n3_
        have BK307 := n4_
        have HB := n5_
        clear n0_ n1_ n2_ n3_ n4_ n5_
        refine start_ (n := 17) (S := fun w' => w'.cell? ⟨gb303, 0, none⟩ = some (.int .u64 t300) ∧ w'.cell? ⟨gb303, 1, none⟩ = some (.int .u64 t301) ∧ w'.cell? ⟨gb303, 2, none⟩ = some (.int .i64 t302) ∧ w'.cell? ⟨gb297, 0, none⟩ = some (.int .u64 t308) ∧ w'.cell? ⟨gb297, 1, none⟩ = some (.int .u64 t309)) (ds := []) #[false, false, false, false, false, false, false, false, false, false, false, false, false, false, false, false, false] (by kernel_rfl) rfl rfl ⟨(blk_cell BK303.out 0).trans rfl, (blk_cell BK303.out 1).trans rfl, (blk_cell BK303.out 2).trans rfl, (blk_cell BK297.out 0).trans rfl, (blk_cell BK297.out 1).trans rfl⟩ (fun hHeld => ?_); refine with_tabW turnpikelaw3_PrefixApart.tab7 turnpikelaw3_PrefixApart.bits7 (fun HT_ HW_ => ?_)
        generalize w52.drew = w53 at BK295 BK296 BK297 BK303 BK307 HB hHeld ⊢
        refine take_ (i := 0) (N := some 37) (v := ?_) (a' := ?_) #[true, false, false, false, false, false, false, false, false, false, false, false, false, false, false, false, false] rfl rfl (take_ofW HT_.out HW_.out (by kernel_rfl)) (fun _ _ _ h => h) (Or.inl ⟨by rfl, ?_⟩) hHeld ?_ ?_
        rotate_left
        · rintro w' ⟨s0, s1, s2, s3, s4⟩
          go_simp
          with_reducible rfl
        rotate_left
        · simp only [Act.put, List.setIfInBounds_toArray, List.set_cons_zero, List.set_cons_succ, i64_w, i32_w]
          rfl
        refine take_ (i := 1) (N := some 38) (v := ?_) (a' := ?_) #[true, true, false, false, false, false, false, false, false, false, false, false, false, false, false, false, false] rfl rfl (take_ofW HT_.out HW_.out (by kernel_rfl)) (fun _ _ _ h => h) (Or.inl ⟨by rfl, ?_⟩) hHeld ?_ ?_
        rotate_left
        · rintro w' ⟨s0, s1, s2, s3, s4⟩
          go_simp
          with_reducible rfl
        rotate_left
        · simp only [Act.put, List.setIfInBounds_toArray, List.set_cons_zero, List.set_cons_succ, i64_w, i32_w]
          rfl
        refine take_ (i := 3) (N := some 40) (v := ?_) (a' := ?_) #[true, true, false, true, false, false, false, false, false, false, false, false, false, false, false, false, false] rfl rfl (take_ofW HT_.out HW_.out (by kernel_rfl)) (fun _ _ _ h => h) (Or.inl ⟨by rfl, ?_⟩) hHeld ?_ ?_
        rotate_left
        · rintro w' ⟨s0, s1, s2, s3, s4⟩
          go_simp
          with_reducible rfl
        rotate_left
        · simp only [Act.put, List.setIfInBounds_toArray, List.set_cons_zero, List.set_cons_succ, i64_w, i32_w]
          rfl
        refine take_ (i := 5) (N := some 42) (v := ?_) (a' := ?_) #[true, true, false, true, false, true, false, false, false, false, false, false, false, false, false, false, false] rfl rfl (take_ofW HT_.out HW_.out (by kernel_rfl)) (fun _ _ _ h => h) (Or.inl ⟨by rfl, ?_⟩) hHeld ?_ ?_
        rotate_left
        · rintro w' ⟨s0, s1, s2, s3, s4⟩
          go_simp
          with_reducible rfl
        rotate_left
        · simp only [Act.put, List.setIfInBounds_toArray, List.set_cons_zero, List.set_cons_succ, i64_w, i32_w]
          rfl
        refine one_ (i := 2) (N := some 39) #[true, true, true, true, false, true, false, false, false, false, false, false, false, false, false, false, false] rfl rfl (one_of HT_.out (by kernel_rfl)) (by decide) (fun K hK => ?_)
        refine goes_ Tryd.func18 (by kernel_rfl) rfl #[.agg #[.int .u64 t300, .int .u64 t301, .int .i64 t302], .agg #[.int .u64 t308, .int .u64 t309]] (by rfl) rfl rfl xM ?_
        with_reducible refine (prefix_Has.calls t300 t301 t302 t308 t309 t311 _ A39.out).mono ?_
        rintro e w54 ⟨rfl, hb⟩
        refine ⟨_, rfl, ?_⟩
        have n0_ := Aside0.mk (blk_below (g := gb295) (o := .cells #[.int .u64 a1_0, .int .u64 a1_1] 24 (0, 0)) (xK BK295.out) hb)
        have n1_ := Aside0.mk (blk_below (g := gb296) (o := .cells #[.int .u64 a3_0, .int .u64 a3_1] 24 (0, 0)) (xK BK296.out) hb)
        have n2_ := Aside0.mk (blk_below (g := gb297) (o := .cells #[.int .u64 t308, .int .u64 t309] 24 (0, 0)) (xK BK297.out) hb)
        have n3_ := Aside0.mk (blk_below (g := gb303) (o := .cells #[.int .u64 t300, .int .u64 t301, .int .i64 t302] 28 (0, 0)) (xK BK303.out) hb)
        have n4_ := Aside0.mk (blk_below (g := gb307) (o := .cells #[.int .u64 t304, .int .u64 t305, .int .i64 t306] 28 (0, 0)) (xK BK307.out) hb)
        have n5_ := Aside0.mk (below_step xG hb)
        clear BK295
        clear BK296
        clear BK297
        clear BK303
        clear BK307
        clear HB
        have BK295 := n0_
        have BK296 := n1_
        have BK297 := n2_
        have BK303 := n3_
        have BK307 := n4_
        have HB := n5_
        clear n0_ n1_ n2_ n3_ n4_ n5_
        (try clear hb)
        (try clear hb2)
        (try clear hk)
        (try clear hi)
        refine hK.out _ _ ⟨(blk_cell BK303.out 0).trans rfl, (blk_cell BK303.out 1).trans rfl, (blk_cell BK303.out 2).trans rfl, (blk_cell BK297.out 0).trans rfl, (blk_cell BK297.out 1).trans rfl⟩ (fun hHeld => ?_)
        clear hK K
        refine norm_ (a' := ?_) ?_ ?_
        rotate_left
        · show Act.put _ (some 39) _ = _
          simp only [Act.put, List.setIfInBounds_toArray, List.set_cons_zero, List.set_cons_succ, i64_w, i32_w]
          rfl
        refine one_ (i := 4) (N := some 41) #[true, true, true, true, true, true, false, false, false, false, false, false, false, false, false, false, false] rfl rfl (one_of HT_.out (by kernel_rfl)) (by decide) (fun K hK => ?_)
        refine goes_ Tryd.func20 (by kernel_rfl) rfl #[.agg #[.int .u64 t300, .int .u64 t301, .int .i64 t302]] (by rfl) rfl rfl xM ?_
        with_reducible refine (prefix_First.calls t300 t301 t302 t312 t313 _ A40.out).mono ?_
        rintro e w55 ⟨rfl, hb⟩
        refine ⟨_, rfl, ?_⟩
        have n0_ := Aside0.mk (blk_below (g := gb295) (o := .cells #[.int .u64 a1_0, .int .u64 a1_1] 24 (0, 0)) (xK BK295.out) hb)
        have n1_ := Aside0.mk (blk_below (g := gb296) (o := .cells #[.int .u64 a3_0, .int .u64 a3_1] 24 (0, 0)) (xK BK296.out) hb)
        have n2_ := Aside0.mk (blk_below (g := gb297) (o := .cells #[.int .u64 t308, .int .u64 t309] 24 (0, 0)) (xK BK297.out) hb)
        have n3_ := Aside0.mk (blk_below (g := gb303) (o := .cells #[.int .u64 t300, .int .u64 t301, .int .i64 t302] 28 (0, 0)) (xK BK303.out) hb)
        have n4_ := Aside0.mk (blk_below (g := gb307) (o := .cells #[.int .u64 t304, .int .u64 t305, .int .i64 t306] 28 (0, 0)) (xK BK307.out) hb)
        have n5_ := Aside0.mk (below_step xG hb)
        clear BK295
        clear BK296
        clear BK297
        clear BK303
        clear BK307
        clear HB
        have BK295 := n0_
        have BK296 := n1_
        have BK297 := n2_
        have BK303 := n3_
        have BK307 := n4_
        have HB := n5_
        clear n0_ n1_ n2_ n3_ n4_ n5_
        (try clear hb)
        (try clear hb2)
        (try clear hk)
        (try clear hi)
        refine hK.out _ _ ⟨(blk_cell BK303.out 0).trans rfl, (blk_cell BK303.out 1).trans rfl, (blk_cell BK303.out 2).trans rfl, (blk_cell BK297.out 0).trans rfl, (blk_cell BK297.out 1).trans rfl⟩ (fun hHeld => ?_)
        clear hK K
        refine norm_ (a' := ?_) ?_ ?_
        rotate_left
        · show Act.put _ (some 41) _ = _
          simp only [Act.put, List.setIfInBounds_toArray, List.set_cons_zero, List.set_cons_succ, i64_w, i32_w]
          rfl
        refine one_ (i := 6) (N := some 43) #[true, true, true, true, true, true, true, false, false, false, false, false, false, false, false, false, false] rfl rfl (one_of HT_.out (by kernel_rfl)) (by decide) (fun K hK => ?_)
        refine goes_ Tryd.func19 (by kernel_rfl) rfl #[.agg #[.int .u64 t312, .int .u64 t313], .agg #[.int .u64 t308, .int .u64 t309]] (by rfl) rfl rfl xM ?_
        with_reducible refine (turnpikeref1_Cmp.calls k t312 t313 t308 t309 t314 _ A41.out).mono ?_
        rintro e w56 ⟨rfl, hb⟩
        refine ⟨_, rfl, ?_⟩
        have n0_ := Aside0.mk (blk_below (g := gb295) (o := .cells #[.int .u64 a1_0, .int .u64 a1_1] 24 (0, 0)) (xK BK295.out) hb)
        have n1_ := Aside0.mk (blk_below (g := gb296) (o := .cells #[.int .u64 a3_0, .int .u64 a3_1] 24 (0, 0)) (xK BK296.out) hb)
        have n2_ := Aside0.mk (blk_below (g := gb297) (o := .cells #[.int .u64 t308, .int .u64 t309] 24 (0, 0)) (xK BK297.out) hb)
        have n3_ := Aside0.mk (blk_below (g := gb303) (o := .cells #[.int .u64 t300, .int .u64 t301, .int .i64 t302] 28 (0, 0)) (xK BK303.out) hb)
        have n4_ := Aside0.mk (blk_below (g := gb307) (o := .cells #[.int .u64 t304, .int .u64 t305, .int .i64 t306] 28 (0, 0)) (xK BK307.out) hb)
        have n5_ := Aside0.mk (below_step xG hb)
        clear BK295
        clear BK296
        clear BK297
        clear BK303
        clear BK307
        clear HB
        have BK295 := n0_
        have BK296 := n1_
        have BK297 := n2_
        have BK303 := n3_
        have BK307 := n4_
        have HB := n5_
        clear n0_ n1_ n2_ n3_ n4_ n5_
        (try clear hb)
        (try clear hb2)
        (try clear hk)
        (try clear hi)
        refine hK.out _ _ ⟨(blk_cell BK303.out 0).trans rfl, (blk_cell BK303.out 1).trans rfl, (blk_cell BK303.out 2).trans rfl, (blk_cell BK297.out 0).trans rfl, (blk_cell BK297.out 1).trans rfl⟩ (fun hHeld => ?_)
        clear hK K
        refine norm_ (a' := ?_) ?_ ?_
        rotate_left
        · show Act.put _ (some 43) _ = _
          simp only [Act.put, List.setIfInBounds_toArray, List.set_cons_zero, List.set_cons_succ, i64_w, i32_w]
          rfl
        refine pure_ (i := 7) (N := some 44) (v := ?_) (a' := ?_) #[true, true, true, true, true, true, true, true, false, false, false, false, false, false, false, false, false] rfl rfl (any_of HT_.out (by kernel_rfl)) (fun _ _ _ h => h) (Or.inl ⟨by rfl, ?_⟩) ?_ ?_
        rotate_left
        · intro w'
          go_simp
          with_reducible rfl
        rotate_left
        · simp only [Act.put, List.setIfInBounds_toArray, List.set_cons_zero, List.set_cons_succ, i64_w, i32_w]
          rfl
        refine pure_ (i := 8) (N := some 45) (v := ?_) (a' := ?_) #[true, true, true, true, true, true, true, true, true, false, false, false, false, false, false, false, false] rfl rfl (any_of HT_.out (by kernel_rfl)) (fun _ _ _ h => h) (Or.inl ⟨by rfl, ?_⟩) ?_ ?_
        rotate_left
        · intro w'
          go_simp
          with_reducible rfl
        rotate_left
        · simp only [Act.put, List.setIfInBounds_toArray, List.set_cons_zero, List.set_cons_succ, i64_w, i32_w]
          rfl
        refine pure_ (i := 9) (N := some 46) (v := undef) (a' := ?_) #[true, true, true, true, true, true, true, true, true, true, false, false, false, false, false, false, false] rfl rfl (any_of HT_.out (by kernel_rfl)) (fun _ _ _ h => h) (Or.inr ⟨by rfl, rfl⟩) ?_ ?_
        rotate_left
        · simp only [Act.put, List.setIfInBounds_toArray, List.set_cons_zero, List.set_cons_succ, i64_w, i32_w]
          rfl
        refine pure_ (i := 10) (N := some 47) (v := undef) (a' := ?_) #[true, true, true, true, true, true, true, true, true, true, true, false, false, false, false, false, false] rfl rfl (any_of HT_.out (by kernel_rfl)) (fun _ _ _ h => h) (Or.inr ⟨by rfl, rfl⟩) ?_ ?_
        rotate_left
        · simp only [Act.put, List.setIfInBounds_toArray, List.set_cons_zero, List.set_cons_succ, i64_w, i32_w]
          rfl
        refine pure_ (i := 11) (N := some 48) (v := undef) (a' := ?_) #[true, true, true, true, true, true, true, true, true, true, true, true, false, false, false, false, false] rfl rfl (any_of HT_.out (by kernel_rfl)) (fun _ _ _ h => h) (Or.inr ⟨by rfl, rfl⟩) ?_ ?_
        rotate_left
        · simp only [Act.put, List.setIfInBounds_toArray, List.set_cons_zero, List.set_cons_succ, i64_w, i32_w]
          rfl
        refine pure_ (i := 12) (N := some 49) (v := undef) (a' := ?_) #[true, true, true, true, true, true, true, true, true, true, true, true, true, false, false, false, false] rfl rfl (any_of HT_.out (by kernel_rfl)) (fun _ _ _ h => h) (Or.inr ⟨by rfl, rfl⟩) ?_ ?_
        rotate_left
        · simp only [Act.put, List.setIfInBounds_toArray, List.set_cons_zero, List.set_cons_succ, i64_w, i32_w]
          rfl
        refine pure_ (i := 13) (N := some 50) (v := undef) (a' := ?_) #[true, true, true, true, true, true, true, true, true, true, true, true, true, true, false, false, false] rfl rfl (any_of HT_.out (by kernel_rfl)) (fun _ _ _ h => h) (Or.inr ⟨by rfl, rfl⟩) ?_ ?_
        rotate_left
        · simp only [Act.put, List.setIfInBounds_toArray, List.set_cons_zero, List.set_cons_succ, i64_w, i32_w]
          rfl
        refine pure_ (i := 14) (N := some 51) (v := undef) (a' := ?_) #[true, true, true, true, true, true, true, true, true, true, true, true, true, true, true, false, false] rfl rfl (any_of HT_.out (by kernel_rfl)) (fun _ _ _ h => h) (Or.inr ⟨by rfl, rfl⟩) ?_ ?_
        rotate_left
        · simp only [Act.put, List.setIfInBounds_toArray, List.set_cons_zero, List.set_cons_succ, i64_w, i32_w]
          rfl
        refine pure_ (i := 15) (N := some 52) (v := ?_) (a' := ?_) #[true, true, true, true, true, true, true, true, true, true, true, true, true, true, true, true, false] rfl rfl (any_of HT_.out (by kernel_rfl)) (fun _ _ _ h => h) (Or.inl ⟨by rfl, ?_⟩) ?_ ?_
        rotate_left
        · intro w'
          go_simp
          with_reducible rfl
        rotate_left
        · simp only [Act.put, List.setIfInBounds_toArray, List.set_cons_zero, List.set_cons_succ, i64_w, i32_w]
          rfl
        refine pure_ (i := 16) (N := some 53) (v := ?_) (a' := ?_) #[true, true, true, true, true, true, true, true, true, true, true, true, true, true, true, true, true] rfl rfl (any_of HT_.out (by kernel_rfl)) (fun _ _ _ h => h) (Or.inl ⟨by rfl, ?_⟩) ?_ ?_
        rotate_left
        · intro w'
          go_simp
          with_reducible rfl
        rotate_left
        · simp only [Act.put, List.setIfInBounds_toArray, List.set_cons_zero, List.set_cons_succ, i64_w, i32_w]
          rfl
        refine done_ (done_of HT_.out (by kernel_rfl)) ?_
        try go_wp2
        go_meet
        case rel => exact ⟨_, ((t311 != false)), xV, H', ⟨by first | omega | exact Nat.le_refl _⟩, ⟨xK BK295.out⟩, ⟨xK BK296.out⟩, ⟨xK BK297.out⟩, ⟨xK BK303.out⟩, ⟨xK BK307.out⟩, ⟨xG⟩⟩
    case rest =>
      clear HC13
      try clear c1
      try clear c2
      try clear p2
      try clear c4
      try clear c18
      try clear c19
      try clear c20
      try clear c21
      try clear c42
      try clear c42b0
      obtain ⟨kq, x53_12, rfl, HA, HJ12, BK295, BK296, BK297, BK303, BK307, HB⟩ := hcut
      cases kq with
      | zero => exact absurd HA.out (by simp [turnpikelaw3_PrefixApart.j0])
      | succ kj12 =>
        have H := HA.out
        clear HA
        simp only [turnpikelaw3_PrefixApart.j0] at H
        by_cases c57 : x53_12 = true
        · subst c57
          have H1 : (some false) = some r := by rw [if_pos rfl] at H; exact H
          clear H
          have H := H1
          clear H1
          obtain rfl := Option.some.inj H
          exact absurd hr_.out (by decide)
        · replace c57 := Bool.eq_false_iff.mpr c57
          subst c57
          have H1 : ((prefix_Within.f t300 t301 t302 t304 t305 t306).bind fun t318 => ((prefix_Within.f t304 t305 t306 t300 t301 t302).bind fun t319 => ((prefix_Last.f t299 t300 t301 t302).bind fun bt320 => ((prefix_First.f t304 t305 t306).bind fun bt322 => ((turnpikeref1_Cmp.f kj12 bt320.1 bt320.2 bt322.1 bt322.2).bind fun t324 => (if t324 < 0 then (turnpikelaw3_PrefixApart.j1 kj12 t299 t318 t319 true t308 t309 t300 t301 t302 t304 t305 t306) else ((prefix_Last.f t299 t304 t305 t306).bind fun bt325 => ((prefix_First.f t300 t301 t302).bind fun bt327 => ((turnpikeref1_Cmp.f kj12 bt325.1 bt325.2 bt327.1 bt327.2).bind fun t329 => (turnpikelaw3_PrefixApart.j1 kj12 t299 t318 t319 (decide (t329 < 0)) t308 t309 t300 t301 t302 t304 t305 t306)))))))))) = some r := by rw [if_neg (show ¬ (false = true) by decide)] at H; exact H
          clear H
          have H := H1
          clear H1
          replace H := Option.bind_eq_some_iff.mp H
          obtain ⟨t318, A580, H⟩ := H
          replace H : ((prefix_Within.f t304 t305 t306 t300 t301 t302).bind fun t319 => ((prefix_Last.f t299 t300 t301 t302).bind fun bt320 => ((prefix_First.f t304 t305 t306).bind fun bt322 => ((turnpikeref1_Cmp.f kj12 bt320.1 bt320.2 bt322.1 bt322.2).bind fun t324 => (if t324 < 0 then (turnpikelaw3_PrefixApart.j1 kj12 t299 t318 t319 true t308 t309 t300 t301 t302 t304 t305 t306) else ((prefix_Last.f t299 t304 t305 t306).bind fun bt325 => ((prefix_First.f t300 t301 t302).bind fun bt327 => ((turnpikeref1_Cmp.f kj12 bt325.1 bt325.2 bt327.1 bt327.2).bind fun t329 => (turnpikelaw3_PrefixApart.j1 kj12 t299 t318 t319 (decide (t329 < 0)) t308 t309 t300 t301 t302 t304 t305 t306))))))))) = some r := H
          have A58 := Aside0.mk A580
          clear A580
          replace H := Option.bind_eq_some_iff.mp H
          obtain ⟨t319, A590, H⟩ := H
          replace H : ((prefix_Last.f t299 t300 t301 t302).bind fun bt320 => ((prefix_First.f t304 t305 t306).bind fun bt322 => ((turnpikeref1_Cmp.f kj12 bt320.1 bt320.2 bt322.1 bt322.2).bind fun t324 => (if t324 < 0 then (turnpikelaw3_PrefixApart.j1 kj12 t299 t318 t319 true t308 t309 t300 t301 t302 t304 t305 t306) else ((prefix_Last.f t299 t304 t305 t306).bind fun bt325 => ((prefix_First.f t300 t301 t302).bind fun bt327 => ((turnpikeref1_Cmp.f kj12 bt325.1 bt325.2 bt327.1 bt327.2).bind fun t329 => (turnpikelaw3_PrefixApart.j1 kj12 t299 t318 t319 (decide (t329 < 0)) t308 t309 t300 t301 t302 t304 t305 t306)))))))) = some r := H
          have A59 := Aside0.mk A590
          clear A590
          have HC60 := Aside0.mk H
          clear H
          have hnb61 := NB303_295.out
          have hnc61 := NB295_303.out
          have hnb62 := NB303_296.out
          have hnc62 := NB296_303.out
          have hnb63 := NB303_297.out
          have hnc63 := NB297_303.out
          have hnb64 := NB303_307.out
          have hnc64 := NB307_303.out
          have hcz65_0 : wc.cell? ⟨gb303, 0, none⟩ = some (.int .u64 t300) := (blk_cell BK303.out 0).trans rfl
          have hcz65_1 : wc.cell? ⟨gb303, 1, none⟩ = some (.int .u64 t301) := (blk_cell BK303.out 1).trans rfl
          have hcz65_2 : wc.cell? ⟨gb303, 2, none⟩ = some (.int .i64 t302) := (blk_cell BK303.out 2).trans rfl
          have hfz65_0 := blk_frozen BK303.out 0
          have hfz65_1 := blk_frozen BK303.out 1
          have hfz65_2 := blk_frozen BK303.out 2
          have hnb66 := NB307_295.out
          have hnc66 := NB295_307.out
          have hnb67 := NB307_296.out
          have hnc67 := NB296_307.out
          have hnb68 := NB307_297.out
          have hnc68 := NB297_307.out
          have hcz69_0 : wc.cell? ⟨gb307, 0, none⟩ = some (.int .u64 t304) := (blk_cell BK307.out 0).trans rfl
          have hcz69_1 : wc.cell? ⟨gb307, 1, none⟩ = some (.int .u64 t305) := (blk_cell BK307.out 1).trans rfl
          have hcz69_2 : wc.cell? ⟨gb307, 2, none⟩ = some (.int .i64 t306) := (blk_cell BK307.out 2).trans rfl
          have hfz69_0 := blk_frozen BK307.out 0
          have hfz69_1 := blk_frozen BK307.out 1
          have hfz69_2 := blk_frozen BK307.out 2
          go_upto_region 11 with (first | ((with_reducible refine gate_callee (f := 22) rfl ?_); refine goesL_ (some 56) rfl rfl Tryd.func22 (by kernel_rfl) rfl #[.agg #[.int .u64 t300, .int .u64 t301, .int .i64 t302], .agg #[.int .u64 t304, .int .u64 t305, .int .i64 t306]] rfl xM ?_; (with_reducible refine (prefix_Within.calls t300 t301 t302 t304 t305 t306 t318 _ A58.out).mono ?_); rintro e w70 ⟨rfl, hb⟩; refine ⟨_, rfl, ?_⟩; have n0_ := Aside0.mk (blk_below (g := gb295) (o := .cells #[.int .u64 a1_0, .int .u64 a1_1] 24 (0, 0)) (xK BK295.out) hb); have n1_ := Aside0.mk (blk_below (g := gb296) (o := .cells #[.int .u64 a3_0, .int .u64 a3_1] 24 (0, 0)) (xK BK296.out) hb); have n2_ := Aside0.mk (blk_below (g := gb297) (o := .cells #[.int .u64 t308, .int .u64 t309] 24 (0, 0)) (xK BK297.out) hb); have n3_ := Aside0.mk (blk_below (g := gb303) (o := .cells #[.int .u64 t300, .int .u64 t301, .int .i64 t302] 28 (0, 0)) (xK BK303.out) hb); have n4_ := Aside0.mk (blk_below (g := gb307) (o := .cells #[.int .u64 t304, .int .u64 t305, .int .i64 t306] 28 (0, 0)) (xK BK307.out) hb); have n5_ := Aside0.mk (below_step xG hb); clear BK295; clear BK296; clear BK297; clear BK303; clear BK307; clear HB; have BK295 := n0_; have BK296 := n1_; have BK297 := n2_; have BK303 := n3_; have BK307 := n4_; have HB := n5_; clear n0_ n1_ n2_ n3_ n4_ n5_; (try clear hb); (try clear hb2); (try clear hk); (try clear hi); have hcz71_0 : w70.cell? ⟨gb307, 0, none⟩ = some (.int .u64 t304) := (blk_cell BK307.out 0).trans rfl; have hcz71_1 : w70.cell? ⟨gb307, 1, none⟩ = some (.int .u64 t305) := (blk_cell BK307.out 1).trans rfl; have hcz71_2 : w70.cell? ⟨gb307, 2, none⟩ = some (.int .i64 t306) := (blk_cell BK307.out 2).trans rfl; have hfz71_0 := blk_frozen BK307.out 0; have hfz71_1 := blk_frozen BK307.out 1; have hfz71_2 := blk_frozen BK307.out 2; have hcz72_0 : w70.cell? ⟨gb303, 0, none⟩ = some (.int .u64 t300) := (blk_cell BK303.out 0).trans rfl; have hcz72_1 : w70.cell? ⟨gb303, 1, none⟩ = some (.int .u64 t301) := (blk_cell BK303.out 1).trans rfl; have hcz72_2 : w70.cell? ⟨gb303, 2, none⟩ = some (.int .i64 t302) := (blk_cell BK303.out 2).trans rfl; have hfz72_0 := blk_frozen BK303.out 0; have hfz72_1 := blk_frozen BK303.out 1; have hfz72_2 := blk_frozen BK303.out 2) | ((with_reducible refine gate_callee (f := 22) rfl ?_); refine goesL_ (some 59) rfl rfl Tryd.func22 (by kernel_rfl) rfl #[.agg #[.int .u64 t304, .int .u64 t305, .int .i64 t306], .agg #[.int .u64 t300, .int .u64 t301, .int .i64 t302]] rfl xM ?_; (with_reducible refine (prefix_Within.calls t304 t305 t306 t300 t301 t302 t319 _ A59.out).mono ?_); rintro e w73 ⟨rfl, hb⟩; refine ⟨_, rfl, ?_⟩; have n0_ := Aside0.mk (blk_below (g := gb295) (o := .cells #[.int .u64 a1_0, .int .u64 a1_1] 24 (0, 0)) (xK BK295.out) hb); have n1_ := Aside0.mk (blk_below (g := gb296) (o := .cells #[.int .u64 a3_0, .int .u64 a3_1] 24 (0, 0)) (xK BK296.out) hb); have n2_ := Aside0.mk (blk_below (g := gb297) (o := .cells #[.int .u64 t308, .int .u64 t309] 24 (0, 0)) (xK BK297.out) hb); have n3_ := Aside0.mk (blk_below (g := gb303) (o := .cells #[.int .u64 t300, .int .u64 t301, .int .i64 t302] 28 (0, 0)) (xK BK303.out) hb); have n4_ := Aside0.mk (blk_below (g := gb307) (o := .cells #[.int .u64 t304, .int .u64 t305, .int .i64 t306] 28 (0, 0)) (xK BK307.out) hb); have n5_ := Aside0.mk (below_step xG hb); clear BK295; clear BK296; clear BK297; clear BK303; clear BK307; clear HB; have BK295 := n0_; have BK296 := n1_; have BK297 := n2_; have BK303 := n3_; have BK307 := n4_; have HB := n5_; clear n0_ n1_ n2_ n3_ n4_ n5_; (try clear hb); (try clear hb2); (try clear hk); (try clear hi)))
          (try simp only [Act.put, List.setIfInBounds_toArray, List.set_cons_zero, List.set_cons_succ])
          go_cut [18] (fun v18 wc => ∃ (kq : Nat) (x18_59 : Bool), v18 = .bool x18_59 ∧ Aside0 (turnpikelaw3_PrefixApart.j1 kq t299 t318 t319 x18_59 t308 t309 t300 t301 t302 t304 t305 t306 = some r) ∧ Aside0 (kq ≤ kj12) ∧ Aside0 (wc.heap[gb295]? = some (.cells #[.int .u64 a1_0, .int .u64 a1_1] 24 (0, 0))) ∧ Aside0 (wc.heap[gb296]? = some (.cells #[.int .u64 a3_0, .int .u64 a3_1] 24 (0, 0))) ∧ Aside0 (wc.heap[gb297]? = some (.cells #[.int .u64 t308, .int .u64 t309] 24 (0, 0))) ∧ Aside0 (wc.heap[gb303]? = some (.cells #[.int .u64 t300, .int .u64 t301, .int .i64 t302] 28 (0, 0))) ∧ Aside0 (wc.heap[gb307]? = some (.cells #[.int .u64 t304, .int .u64 t305, .int .i64 t306] 28 (0, 0))) ∧ Aside0 (Below w.heap.size w wc))
          case first =>
            have H := HC60.out
            clear HC60
            replace H := Option.bind_eq_some_iff.mp H
            obtain ⟨⟨t320, t321⟩, A740, H⟩ := H
            replace H : ((prefix_First.f t304 t305 t306).bind fun bt322 => ((turnpikeref1_Cmp.f kj12 t320 t321 bt322.1 bt322.2).bind fun t324 => (if t324 < 0 then (turnpikelaw3_PrefixApart.j1 kj12 t299 t318 t319 true t308 t309 t300 t301 t302 t304 t305 t306) else ((prefix_Last.f t299 t304 t305 t306).bind fun bt325 => ((prefix_First.f t300 t301 t302).bind fun bt327 => ((turnpikeref1_Cmp.f kj12 bt325.1 bt325.2 bt327.1 bt327.2).bind fun t329 => (turnpikelaw3_PrefixApart.j1 kj12 t299 t318 t319 (decide (t329 < 0)) t308 t309 t300 t301 t302 t304 t305 t306))))))) = some r := H
            have A74 := Aside0.mk A740
            clear A740
            replace H := Option.bind_eq_some_iff.mp H
            obtain ⟨⟨t322, t323⟩, A750, H⟩ := H
            replace H : ((turnpikeref1_Cmp.f kj12 t320 t321 t322 t323).bind fun t324 => (if t324 < 0 then (turnpikelaw3_PrefixApart.j1 kj12 t299 t318 t319 true t308 t309 t300 t301 t302 t304 t305 t306) else ((prefix_Last.f t299 t304 t305 t306).bind fun bt325 => ((prefix_First.f t300 t301 t302).bind fun bt327 => ((turnpikeref1_Cmp.f kj12 bt325.1 bt325.2 bt327.1 bt327.2).bind fun t329 => (turnpikelaw3_PrefixApart.j1 kj12 t299 t318 t319 (decide (t329 < 0)) t308 t309 t300 t301 t302 t304 t305 t306)))))) = some r := H
            have A75 := Aside0.mk A750
            clear A750
            replace H := Option.bind_eq_some_iff.mp H
            obtain ⟨t324, A760, H⟩ := H
            replace H : (if t324 < 0 then (turnpikelaw3_PrefixApart.j1 kj12 t299 t318 t319 true t308 t309 t300 t301 t302 t304 t305 t306) else ((prefix_Last.f t299 t304 t305 t306).bind fun bt325 => ((prefix_First.f t300 t301 t302).bind fun bt327 => ((turnpikeref1_Cmp.f kj12 bt325.1 bt325.2 bt327.1 bt327.2).bind fun t329 => (turnpikelaw3_PrefixApart.j1 kj12 t299 t318 t319 (decide (t329 < 0)) t308 t309 t300 t301 t302 t304 t305 t306))))) = some r := H
            have A76 := Aside0.mk A760
            clear A760
            by_cases c77 : t324 < 0
            · rw [if_pos c77] at H
              have c77b0 : decide (t324 < 0) = true := decide_eq_true c77
              clear c77
              (first | rw [c77b0] | (simp only [i64_w, i32_w]; rw [c77b0]) | skip)
              have H' := Aside0.mk H
              clear H
              try go_wp2
              have n0_ := Aside0.mk (blk_drew BK295.out)
              have n1_ := Aside0.mk (blk_drew BK296.out)
              have n2_ := Aside0.mk (blk_drew BK297.out)
              have n3_ := Aside0.mk (blk_drew BK303.out)
              have n4_ := Aside0.mk (blk_drew BK307.out)
              have n5_ := Aside0.mk (below_drew1 HB.out)
              clear BK295
              clear BK296
              clear BK297
              clear BK303
              clear BK307
              clear HB
              have BK295 := n0_
              have BK296 := n1_
              have BK297 := n2_
              have BK303 := n3_
              have BK307 := n4_
              have HB := n5_
              clear n0_ n1_ n2_ n3_ n4_ n5_
              refine start_ (n := 17) (S := fun w' => w'.cell? ⟨gb303, 0, none⟩ = some (.int .u64 t300) ∧ w'.cell? ⟨gb303, 1, none⟩ = some (.int .u64 t301) ∧ w'.cell? ⟨gb303, 2, none⟩ = some (.int .i64 t302) ∧ w'.cell? ⟨gb307, 0, none⟩ = some (.int .u64 t304) ∧ w'.cell? ⟨gb307, 1, none⟩ = some (.int .u64 t305) ∧ w'.cell? ⟨gb307, 2, none⟩ = some (.int .i64 t306)) (ds := []) #[false, false, false, false, false, false, false, false, false, false, false, false, false, false, false, false, false] (by kernel_rfl) rfl rfl ⟨(blk_cell BK303.out 0).trans rfl, (blk_cell BK303.out 1).trans rfl, (blk_cell BK303.out 2).trans rfl, (blk_cell BK307.out 0).trans rfl, (blk_cell BK307.out 1).trans rfl, (blk_cell BK307.out 2).trans rfl⟩ (fun hHeld => ?_); refine with_tabW turnpikelaw3_PrefixApart.tab11 turnpikelaw3_PrefixApart.bits11 (fun HT_ HW_ => ?_)
              generalize w73.drew = w78 at BK295 BK296 BK297 BK303 BK307 HB hHeld ⊢
              refine pure_ (i := 0) (N := some 60) (v := ?_) (a' := ?_) #[true, false, false, false, false, false, false, false, false, false, false, false, false, false, false, false, false] rfl rfl (any_of HT_.out (by kernel_rfl)) (fun _ _ _ h => h) (Or.inl ⟨by rfl, ?_⟩) ?_ ?_
              rotate_left
              · intro w'
                go_simp
                with_reducible rfl
              rotate_left
              · simp only [Act.put, List.setIfInBounds_toArray, List.set_cons_zero, List.set_cons_succ, i64_w, i32_w]
                rfl
              refine take_ (i := 1) (N := some 61) (v := ?_) (a' := ?_) #[true, true, false, false, false, false, false, false, false, false, false, false, false, false, false, false, false] rfl rfl (take_ofW HT_.out HW_.out (by kernel_rfl)) (fun _ _ _ h => h) (Or.inl ⟨by rfl, ?_⟩) hHeld ?_ ?_
              rotate_left
              · rintro w' ⟨s0, s1, s2, s3, s4, s5⟩
                go_simp
                with_reducible rfl
              rotate_left
              · simp only [Act.put, List.setIfInBounds_toArray, List.set_cons_zero, List.set_cons_succ, i64_w, i32_w]
                rfl
              refine take_ (i := 3) (N := some 63) (v := ?_) (a' := ?_) #[true, true, false, true, false, false, false, false, false, false, false, false, false, false, false, false, false] rfl rfl (take_ofW HT_.out HW_.out (by kernel_rfl)) (fun _ _ _ h => h) (Or.inl ⟨by rfl, ?_⟩) hHeld ?_ ?_
              rotate_left
              · rintro w' ⟨s0, s1, s2, s3, s4, s5⟩
                go_simp
                with_reducible rfl
              rotate_left
              · simp only [Act.put, List.setIfInBounds_toArray, List.set_cons_zero, List.set_cons_succ, i64_w, i32_w]
                rfl
              refine one_ (i := 2) (N := some 62) #[true, true, true, true, false, false, false, false, false, false, false, false, false, false, false, false, false] rfl rfl (one_of HT_.out (by kernel_rfl)) (by decide) (fun K hK => ?_)
              refine goes_ Tryd.func21 (by kernel_rfl) rfl #[.int .i64 t299, .agg #[.int .u64 t300, .int .u64 t301, .int .i64 t302]] (by rfl) rfl rfl xM ?_
              with_reducible refine (prefix_Last.calls t299 t300 t301 t302 t320 t321 _ A74.out).mono ?_
              rintro e w79 ⟨rfl, hb⟩
              refine ⟨_, rfl, ?_⟩
              have n0_ := Aside0.mk (blk_below (g := gb295) (o := .cells #[.int .u64 a1_0, .int .u64 a1_1] 24 (0, 0)) (xK BK295.out) hb)
              have n1_ := Aside0.mk (blk_below (g := gb296) (o := .cells #[.int .u64 a3_0, .int .u64 a3_1] 24 (0, 0)) (xK BK296.out) hb)
              have n2_ := Aside0.mk (blk_below (g := gb297) (o := .cells #[.int .u64 t308, .int .u64 t309] 24 (0, 0)) (xK BK297.out) hb)
              have n3_ := Aside0.mk (blk_below (g := gb303) (o := .cells #[.int .u64 t300, .int .u64 t301, .int .i64 t302] 28 (0, 0)) (xK BK303.out) hb)
              have n4_ := Aside0.mk (blk_below (g := gb307) (o := .cells #[.int .u64 t304, .int .u64 t305, .int .i64 t306] 28 (0, 0)) (xK BK307.out) hb)
              have n5_ := Aside0.mk (below_step xG hb)
              clear BK295
              clear BK296
              clear BK297
              clear BK303
              clear BK307
              clear HB
              have BK295 := n0_
              have BK296 := n1_
              have BK297 := n2_
              have BK303 := n3_
              have BK307 := n4_
              have HB := n5_
              clear n0_ n1_ n2_ n3_ n4_ n5_
              (try clear hb)
              (try clear hb2)
              (try clear hk)
              (try clear hi)
              refine hK.out _ _ ⟨(blk_cell BK303.out 0).trans rfl, (blk_cell BK303.out 1).trans rfl, (blk_cell BK303.out 2).trans rfl, (blk_cell BK307.out 0).trans rfl, (blk_cell BK307.out 1).trans rfl, (blk_cell BK307.out 2).trans rfl⟩ (fun hHeld => ?_)
              clear hK K
              refine norm_ (a' := ?_) ?_ ?_
              rotate_left
              · show Act.put _ (some 62) _ = _
                simp only [Act.put, List.setIfInBounds_toArray, List.set_cons_zero, List.set_cons_succ, i64_w, i32_w]
                rfl
              refine one_ (i := 4) (N := some 64) #[true, true, true, true, true, false, false, false, false, false, false, false, false, false, false, false, false] rfl rfl (one_of HT_.out (by kernel_rfl)) (by decide) (fun K hK => ?_)
              refine goes_ Tryd.func20 (by kernel_rfl) rfl #[.agg #[.int .u64 t304, .int .u64 t305, .int .i64 t306]] (by rfl) rfl rfl xM ?_
              with_reducible refine (prefix_First.calls t304 t305 t306 t322 t323 _ A75.out).mono ?_
              rintro e w80 ⟨rfl, hb⟩
              refine ⟨_, rfl, ?_⟩
              have n0_ := Aside0.mk (blk_below (g := gb295) (o := .cells #[.int .u64 a1_0, .int .u64 a1_1] 24 (0, 0)) (xK BK295.out) hb)
              have n1_ := Aside0.mk (blk_below (g := gb296) (o := .cells #[.int .u64 a3_0, .int .u64 a3_1] 24 (0, 0)) (xK BK296.out) hb)
              have n2_ := Aside0.mk (blk_below (g := gb297) (o := .cells #[.int .u64 t308, .int .u64 t309] 24 (0, 0)) (xK BK297.out) hb)
              have n3_ := Aside0.mk (blk_below (g := gb303) (o := .cells #[.int .u64 t300, .int .u64 t301, .int .i64 t302] 28 (0, 0)) (xK BK303.out) hb)
              have n4_ := Aside0.mk (blk_below (g := gb307) (o := .cells #[.int .u64 t304, .int .u64 t305, .int .i64 t306] 28 (0, 0)) (xK BK307.out) hb)
              have n5_ := Aside0.mk (below_step xG hb)
              clear BK295
              clear BK296
              clear BK297
              clear BK303
              clear BK307
              clear HB
              have BK295 := n0_
              have BK296 := n1_
              have BK297 := n2_
              have BK303 := n3_
              have BK307 := n4_
              have HB := n5_
              clear n0_ n1_ n2_ n3_ n4_ n5_
              (try clear hb)
              (try clear hb2)
              (try clear hk)
              (try clear hi)
              refine hK.out _ _ ⟨(blk_cell BK303.out 0).trans rfl, (blk_cell BK303.out 1).trans rfl, (blk_cell BK303.out 2).trans rfl, (blk_cell BK307.out 0).trans rfl, (blk_cell BK307.out 1).trans rfl, (blk_cell BK307.out 2).trans rfl⟩ (fun hHeld => ?_)
              clear hK K
              refine norm_ (a' := ?_) ?_ ?_
              rotate_left
              · show Act.put _ (some 64) _ = _
                simp only [Act.put, List.setIfInBounds_toArray, List.set_cons_zero, List.set_cons_succ, i64_w, i32_w]
                rfl
              refine one_ (i := 5) (N := some 65) #[true, true, true, true, true, true, false, false, false, false, false, false, false, false, false, false, false] rfl rfl (one_of HT_.out (by kernel_rfl)) (by decide) (fun K hK => ?_)
              refine goes_ Tryd.func19 (by kernel_rfl) rfl #[.agg #[.int .u64 t320, .int .u64 t321], .agg #[.int .u64 t322, .int .u64 t323]] (by rfl) rfl rfl xM ?_
              with_reducible refine (turnpikeref1_Cmp.calls kj12 t320 t321 t322 t323 t324 _ A76.out).mono ?_
              rintro e w81 ⟨rfl, hb⟩
              refine ⟨_, rfl, ?_⟩
              have n0_ := Aside0.mk (blk_below (g := gb295) (o := .cells #[.int .u64 a1_0, .int .u64 a1_1] 24 (0, 0)) (xK BK295.out) hb)
              have n1_ := Aside0.mk (blk_below (g := gb296) (o := .cells #[.int .u64 a3_0, .int .u64 a3_1] 24 (0, 0)) (xK BK296.out) hb)
              have n2_ := Aside0.mk (blk_below (g := gb297) (o := .cells #[.int .u64 t308, .int .u64 t309] 24 (0, 0)) (xK BK297.out) hb)
              have n3_ := Aside0.mk (blk_below (g := gb303) (o := .cells #[.int .u64 t300, .int .u64 t301, .int .i64 t302] 28 (0, 0)) (xK BK303.out) hb)
              have n4_ := Aside0.mk (blk_below (g := gb307) (o := .cells #[.int .u64 t304, .int .u64 t305, .int .i64 t306] 28 (0, 0)) (xK BK307.out) hb)
              have n5_ := Aside0.mk (below_step xG hb)
              clear BK295
              clear BK296
              clear BK297
              clear BK303
              clear BK307
              clear HB
              have BK295 := n0_
              have BK296 := n1_
              have BK297 := n2_
              have BK303 := n3_
              have BK307 := n4_
              have HB := n5_
              clear n0_ n1_ n2_ n3_ n4_ n5_
              (try clear hb)
              (try clear hb2)
              (try clear hk)
              (try clear hi)
              refine hK.out _ _ ⟨(blk_cell BK303.out 0).trans rfl, (blk_cell BK303.out 1).trans rfl, (blk_cell BK303.out 2).trans rfl, (blk_cell BK307.out 0).trans rfl, (blk_cell BK307.out 1).trans rfl, (blk_cell BK307.out 2).trans rfl⟩ (fun hHeld => ?_)
              clear hK K
              refine norm_ (a' := ?_) ?_ ?_
              rotate_left
              · show Act.put _ (some 65) _ = _
                simp only [Act.put, List.setIfInBounds_toArray, List.set_cons_zero, List.set_cons_succ, i64_w, i32_w]
                rfl
              refine pure_ (i := 6) (N := some 66) (v := ?_) (a' := ?_) #[true, true, true, true, true, true, true, false, false, false, false, false, false, false, false, false, false] rfl rfl (any_of HT_.out (by kernel_rfl)) (fun _ _ _ h => h) (Or.inl ⟨by rfl, ?_⟩) ?_ ?_
              rotate_left
              · intro w'
                go_simp
                with_reducible rfl
              rotate_left
              · simp only [Act.put, List.setIfInBounds_toArray, List.set_cons_zero, List.set_cons_succ, i64_w, i32_w]
                rfl
              refine pure_ (i := 7) (N := some 67) (v := ?_) (a' := ?_) #[true, true, true, true, true, true, true, true, false, false, false, false, false, false, false, false, false] rfl rfl (any_of HT_.out (by kernel_rfl)) (fun _ _ _ h => h) (Or.inl ⟨by rfl, ?_⟩) ?_ ?_
              rotate_left
              · intro w'
                go_simp
                with_reducible rfl
              rotate_left
              · simp only [Act.put, List.setIfInBounds_toArray, List.set_cons_zero, List.set_cons_succ, i64_w, i32_w]
                rfl
              refine pure_ (i := 8) (N := some 68) (v := undef) (a' := ?_) #[true, true, true, true, true, true, true, true, true, false, false, false, false, false, false, false, false] rfl rfl (any_of HT_.out (by kernel_rfl)) (fun _ _ _ h => h) (Or.inr ⟨by rfl, rfl⟩) ?_ ?_
              rotate_left
              · simp only [Act.put, List.setIfInBounds_toArray, List.set_cons_zero, List.set_cons_succ, i64_w, i32_w]
                rfl
              refine pure_ (i := 9) (N := some 69) (v := undef) (a' := ?_) #[true, true, true, true, true, true, true, true, true, true, false, false, false, false, false, false, false] rfl rfl (any_of HT_.out (by kernel_rfl)) (fun _ _ _ h => h) (Or.inr ⟨by rfl, rfl⟩) ?_ ?_
              rotate_left
              · simp only [Act.put, List.setIfInBounds_toArray, List.set_cons_zero, List.set_cons_succ, i64_w, i32_w]
                rfl
              refine pure_ (i := 10) (N := some 70) (v := undef) (a' := ?_) #[true, true, true, true, true, true, true, true, true, true, true, false, false, false, false, false, false] rfl rfl (any_of HT_.out (by kernel_rfl)) (fun _ _ _ h => h) (Or.inr ⟨by rfl, rfl⟩) ?_ ?_
              rotate_left
              · simp only [Act.put, List.setIfInBounds_toArray, List.set_cons_zero, List.set_cons_succ, i64_w, i32_w]
                rfl
              refine pure_ (i := 11) (N := some 71) (v := undef) (a' := ?_) #[true, true, true, true, true, true, true, true, true, true, true, true, false, false, false, false, false] rfl rfl (any_of HT_.out (by kernel_rfl)) (fun _ _ _ h => h) (Or.inr ⟨by rfl, rfl⟩) ?_ ?_
              rotate_left
              · simp only [Act.put, List.setIfInBounds_toArray, List.set_cons_zero, List.set_cons_succ, i64_w, i32_w]
                rfl
              refine pure_ (i := 12) (N := some 72) (v := undef) (a' := ?_) #[true, true, true, true, true, true, true, true, true, true, true, true, true, false, false, false, false] rfl rfl (any_of HT_.out (by kernel_rfl)) (fun _ _ _ h => h) (Or.inr ⟨by rfl, rfl⟩) ?_ ?_
              rotate_left
              · simp only [Act.put, List.setIfInBounds_toArray, List.set_cons_zero, List.set_cons_succ, i64_w, i32_w]
                rfl
              refine pure_ (i := 13) (N := some 73) (v := undef) (a' := ?_) #[true, true, true, true, true, true, true, true, true, true, true, true, true, true, false, false, false] rfl rfl (any_of HT_.out (by kernel_rfl)) (fun _ _ _ h => h) (Or.inr ⟨by rfl, rfl⟩) ?_ ?_
              rotate_left
              · simp only [Act.put, List.setIfInBounds_toArray, List.set_cons_zero, List.set_cons_succ, i64_w, i32_w]
                rfl
              refine pure_ (i := 14) (N := some 74) (v := undef) (a' := ?_) #[true, true, true, true, true, true, true, true, true, true, true, true, true, true, true, false, false] rfl rfl (any_of HT_.out (by kernel_rfl)) (fun _ _ _ h => h) (Or.inr ⟨by rfl, rfl⟩) ?_ ?_
              rotate_left
              · simp only [Act.put, List.setIfInBounds_toArray, List.set_cons_zero, List.set_cons_succ, i64_w, i32_w]
                rfl
              refine pure_ (i := 15) (N := some 75) (v := ?_) (a' := ?_) #[true, true, true, true, true, true, true, true, true, true, true, true, true, true, true, true, false] rfl rfl (any_of HT_.out (by kernel_rfl)) (fun _ _ _ h => h) (Or.inl ⟨by rfl, ?_⟩) ?_ ?_
              rotate_left
              · intro w'
                go_simp
                with_reducible rfl
              rotate_left
              · simp only [Act.put, List.setIfInBounds_toArray, List.set_cons_zero, List.set_cons_succ, i64_w, i32_w]
                rfl
              refine pure_ (i := 16) (N := some 18) (v := ?_) (a' := ?_) #[true, true, true, true, true, true, true, true, true, true, true, true, true, true, true, true, true] rfl rfl (any_of HT_.out (by kernel_rfl)) (fun _ _ _ h => h) (Or.inl ⟨by rfl, ?_⟩) ?_ ?_
              rotate_left
              · intro w'
                go_simp
                with_reducible rfl
              rotate_left
              · simp only [Act.put, List.setIfInBounds_toArray, List.set_cons_zero, List.set_cons_succ, i64_w, i32_w]
                rfl
              refine done_ (done_of HT_.out (by kernel_rfl)) ?_
              try go_wp2
              go_meet
              case rel => exact ⟨_, (true), xV, H', ⟨by have := HJ12.out; first | omega | exact Nat.le_refl _⟩, ⟨xK BK295.out⟩, ⟨xK BK296.out⟩, ⟨xK BK297.out⟩, ⟨xK BK303.out⟩, ⟨xK BK307.out⟩, ⟨xG⟩⟩
            · rw [if_neg c77] at H
              have c77b0 : decide (t324 < 0) = false := decide_eq_false c77
              clear c77
              (first | rw [c77b0] | (simp only [i64_w, i32_w]; rw [c77b0]) | skip)
              replace H := Option.bind_eq_some_iff.mp H
              obtain ⟨⟨t325, t326⟩, A820, H⟩ := H
              replace H : ((prefix_First.f t300 t301 t302).bind fun bt327 => ((turnpikeref1_Cmp.f kj12 t325 t326 bt327.1 bt327.2).bind fun t329 => (turnpikelaw3_PrefixApart.j1 kj12 t299 t318 t319 (decide (t329 < 0)) t308 t309 t300 t301 t302 t304 t305 t306))) = some r := H
              have A82 := Aside0.mk A820
              clear A820
              replace H := Option.bind_eq_some_iff.mp H
              obtain ⟨⟨t327, t328⟩, A830, H⟩ := H
              replace H : ((turnpikeref1_Cmp.f kj12 t325 t326 t327 t328).bind fun t329 => (turnpikelaw3_PrefixApart.j1 kj12 t299 t318 t319 (decide (t329 < 0)) t308 t309 t300 t301 t302 t304 t305 t306)) = some r := H
              have A83 := Aside0.mk A830
              clear A830
              replace H := Option.bind_eq_some_iff.mp H
              obtain ⟨t329, A840, H⟩ := H
              replace H : (turnpikelaw3_PrefixApart.j1 kj12 t299 t318 t319 (decide (t329 < 0)) t308 t309 t300 t301 t302 t304 t305 t306) = some r := H
              have A84 := Aside0.mk A840
              clear A840
              have H' := Aside0.mk H
              clear H
              try go_wp2
              have n0_ := Aside0.mk (blk_drew BK295.out)
              have n1_ := Aside0.mk (blk_drew BK296.out)
              have n2_ := Aside0.mk (blk_drew BK297.out)
              have n3_ := Aside0.mk (blk_drew BK303.out)
              have n4_ := Aside0.mk (blk_drew BK307.out)
              have n5_ := Aside0.mk (below_drew1 HB.out)
              clear BK295
              clear BK296
              clear BK297
              clear BK303
              clear BK307
              clear HB
              have BK295 := n0_
              have BK296 := n1_
              have BK297 := n2_
              have BK303 := n3_
              have BK307 := n4_
              have HB := n5_
              clear n0_ n1_ n2_ n3_ n4_ n5_
              refine start_ (n := 17) (S := fun w' => w'.cell? ⟨gb303, 0, none⟩ = some (.int .u64 t300) ∧ w'.cell? ⟨gb303, 1, none⟩ = some (.int .u64 t301) ∧ w'.cell? ⟨gb303, 2, none⟩ = some (.int .i64 t302) ∧ w'.cell? ⟨gb307, 0, none⟩ = some (.int .u64 t304) ∧ w'.cell? ⟨gb307, 1, none⟩ = some (.int .u64 t305) ∧ w'.cell? ⟨gb307, 2, none⟩ = some (.int .i64 t306)) (ds := []) #[false, false, false, false, false, false, false, false, false, false, false, false, false, false, false, false, false] (by kernel_rfl) rfl rfl ⟨(blk_cell BK303.out 0).trans rfl, (blk_cell BK303.out 1).trans rfl, (blk_cell BK303.out 2).trans rfl, (blk_cell BK307.out 0).trans rfl, (blk_cell BK307.out 1).trans rfl, (blk_cell BK307.out 2).trans rfl⟩ (fun hHeld => ?_); refine with_tabW turnpikelaw3_PrefixApart.tab11 turnpikelaw3_PrefixApart.bits11 (fun HT_ HW_ => ?_)
              generalize w73.drew = w85 at BK295 BK296 BK297 BK303 BK307 HB hHeld ⊢
              refine pure_ (i := 0) (N := some 60) (v := ?_) (a' := ?_) #[true, false, false, false, false, false, false, false, false, false, false, false, false, false, false, false, false] rfl rfl (any_of HT_.out (by kernel_rfl)) (fun _ _ _ h => h) (Or.inl ⟨by rfl, ?_⟩) ?_ ?_
              rotate_left
              · intro w'
                go_simp
                with_reducible rfl
              rotate_left
              · simp only [Act.put, List.setIfInBounds_toArray, List.set_cons_zero, List.set_cons_succ, i64_w, i32_w]
                rfl
              refine take_ (i := 1) (N := some 61) (v := ?_) (a' := ?_) #[true, true, false, false, false, false, false, false, false, false, false, false, false, false, false, false, false] rfl rfl (take_ofW HT_.out HW_.out (by kernel_rfl)) (fun _ _ _ h => h) (Or.inl ⟨by rfl, ?_⟩) hHeld ?_ ?_
              rotate_left
              · rintro w' ⟨s0, s1, s2, s3, s4, s5⟩
                go_simp
                with_reducible rfl
              rotate_left
              · simp only [Act.put, List.setIfInBounds_toArray, List.set_cons_zero, List.set_cons_succ, i64_w, i32_w]
                rfl
              refine take_ (i := 3) (N := some 63) (v := ?_) (a' := ?_) #[true, true, false, true, false, false, false, false, false, false, false, false, false, false, false, false, false] rfl rfl (take_ofW HT_.out HW_.out (by kernel_rfl)) (fun _ _ _ h => h) (Or.inl ⟨by rfl, ?_⟩) hHeld ?_ ?_
              rotate_left
              · rintro w' ⟨s0, s1, s2, s3, s4, s5⟩
                go_simp
                with_reducible rfl
              rotate_left
              · simp only [Act.put, List.setIfInBounds_toArray, List.set_cons_zero, List.set_cons_succ, i64_w, i32_w]
                rfl
              refine one_ (i := 2) (N := some 62) #[true, true, true, true, false, false, false, false, false, false, false, false, false, false, false, false, false] rfl rfl (one_of HT_.out (by kernel_rfl)) (by decide) (fun K hK => ?_)
              refine goes_ Tryd.func21 (by kernel_rfl) rfl #[.int .i64 t299, .agg #[.int .u64 t300, .int .u64 t301, .int .i64 t302]] (by rfl) rfl rfl xM ?_
              with_reducible refine (prefix_Last.calls t299 t300 t301 t302 t320 t321 _ A74.out).mono ?_
              rintro e w86 ⟨rfl, hb⟩
              refine ⟨_, rfl, ?_⟩
              have n0_ := Aside0.mk (blk_below (g := gb295) (o := .cells #[.int .u64 a1_0, .int .u64 a1_1] 24 (0, 0)) (xK BK295.out) hb)
              have n1_ := Aside0.mk (blk_below (g := gb296) (o := .cells #[.int .u64 a3_0, .int .u64 a3_1] 24 (0, 0)) (xK BK296.out) hb)
              have n2_ := Aside0.mk (blk_below (g := gb297) (o := .cells #[.int .u64 t308, .int .u64 t309] 24 (0, 0)) (xK BK297.out) hb)
              have n3_ := Aside0.mk (blk_below (g := gb303) (o := .cells #[.int .u64 t300, .int .u64 t301, .int .i64 t302] 28 (0, 0)) (xK BK303.out) hb)
              have n4_ := Aside0.mk (blk_below (g := gb307) (o := .cells #[.int .u64 t304, .int .u64 t305, .int .i64 t306] 28 (0, 0)) (xK BK307.out) hb)
              have n5_ := Aside0.mk (below_step xG hb)
              clear BK295
              clear BK296
              clear BK297
              clear BK303
              clear BK307
              clear HB
              have BK295 := n0_
              have BK296 := n1_
              have BK297 := n2_
              have BK303 := n3_
              have BK307 := n4_
              have HB := n5_
              clear n0_ n1_ n2_ n3_ n4_ n5_
              (try clear hb)
              (try clear hb2)
              (try clear hk)
              (try clear hi)
              refine hK.out _ _ ⟨(blk_cell BK303.out 0).trans rfl, (blk_cell BK303.out 1).trans rfl, (blk_cell BK303.out 2).trans rfl, (blk_cell BK307.out 0).trans rfl, (blk_cell BK307.out 1).trans rfl, (blk_cell BK307.out 2).trans rfl⟩ (fun hHeld => ?_)
              clear hK K
              refine norm_ (a' := ?_) ?_ ?_
              rotate_left
              · show Act.put _ (some 62) _ = _
                simp only [Act.put, List.setIfInBounds_toArray, List.set_cons_zero, List.set_cons_succ, i64_w, i32_w]
                rfl
              refine one_ (i := 4) (N := some 64) #[true, true, true, true, true, false, false, false, false, false, false, false, false, false, false, false, false] rfl rfl (one_of HT_.out (by kernel_rfl)) (by decide) (fun K hK => ?_)
              refine goes_ Tryd.func20 (by kernel_rfl) rfl #[.agg #[.int .u64 t304, .int .u64 t305, .int .i64 t306]] (by rfl) rfl rfl xM ?_
              with_reducible refine (prefix_First.calls t304 t305 t306 t322 t323 _ A75.out).mono ?_
              rintro e w87 ⟨rfl, hb⟩
              refine ⟨_, rfl, ?_⟩
              have n0_ := Aside0.mk (blk_below (g := gb295) (o := .cells #[.int .u64 a1_0, .int .u64 a1_1] 24 (0, 0)) (xK BK295.out) hb)
              have n1_ := Aside0.mk (blk_below (g := gb296) (o := .cells #[.int .u64 a3_0, .int .u64 a3_1] 24 (0, 0)) (xK BK296.out) hb)
              have n2_ := Aside0.mk (blk_below (g := gb297) (o := .cells #[.int .u64 t308, .int .u64 t309] 24 (0, 0)) (xK BK297.out) hb)
              have n3_ := Aside0.mk (blk_below (g := gb303) (o := .cells #[.int .u64 t300, .int .u64 t301, .int .i64 t302] 28 (0, 0)) (xK BK303.out) hb)
              have n4_ := Aside0.mk (blk_below (g := gb307) (o := .cells #[.int .u64 t304, .int .u64 t305, .int .i64 t306] 28 (0, 0)) (xK BK307.out) hb)
              have n5_ := Aside0.mk (below_step xG hb)
              clear BK295
              clear BK296
              clear BK297
              clear BK303
              clear BK307
              clear HB
              have BK295 := n0_
              have BK296 := n1_
              have BK297 := n2_
              have BK303 := n3_
              have BK307 := n4_
              have HB := n5_
              clear n0_ n1_ n2_ n3_ n4_ n5_
              (try clear hb)
              (try clear hb2)
              (try clear hk)
              (try clear hi)
              refine hK.out _ _ ⟨(blk_cell BK303.out 0).trans rfl, (blk_cell BK303.out 1).trans rfl, (blk_cell BK303.out 2).trans rfl, (blk_cell BK307.out 0).trans rfl, (blk_cell BK307.out 1).trans rfl, (blk_cell BK307.out 2).trans rfl⟩ (fun hHeld => ?_)
              clear hK K
              refine norm_ (a' := ?_) ?_ ?_
              rotate_left
              · show Act.put _ (some 64) _ = _
                simp only [Act.put, List.setIfInBounds_toArray, List.set_cons_zero, List.set_cons_succ, i64_w, i32_w]
                rfl
              refine one_ (i := 5) (N := some 65) #[true, true, true, true, true, true, false, false, false, false, false, false, false, false, false, false, false] rfl rfl (one_of HT_.out (by kernel_rfl)) (by decide) (fun K hK => ?_)
              refine goes_ Tryd.func19 (by kernel_rfl) rfl #[.agg #[.int .u64 t320, .int .u64 t321], .agg #[.int .u64 t322, .int .u64 t323]] (by rfl) rfl rfl xM ?_
              with_reducible refine (turnpikeref1_Cmp.calls kj12 t320 t321 t322 t323 t324 _ A76.out).mono ?_
              rintro e w88 ⟨rfl, hb⟩
              refine ⟨_, rfl, ?_⟩
              have n0_ := Aside0.mk (blk_below (g := gb295) (o := .cells #[.int .u64 a1_0, .int .u64 a1_1] 24 (0, 0)) (xK BK295.out) hb)
              have n1_ := Aside0.mk (blk_below (g := gb296) (o := .cells #[.int .u64 a3_0, .int .u64 a3_1] 24 (0, 0)) (xK BK296.out) hb)
              have n2_ := Aside0.mk (blk_below (g := gb297) (o := .cells #[.int .u64 t308, .int .u64 t309] 24 (0, 0)) (xK BK297.out) hb)
              have n3_ := Aside0.mk (blk_below (g := gb303) (o := .cells #[.int .u64 t300, .int .u64 t301, .int .i64 t302] 28 (0, 0)) (xK BK303.out) hb)
              have n4_ := Aside0.mk (blk_below (g := gb307) (o := .cells #[.int .u64 t304, .int .u64 t305, .int .i64 t306] 28 (0, 0)) (xK BK307.out) hb)
              have n5_ := Aside0.mk (below_step xG hb)
              clear BK295
              clear BK296
              clear BK297
              clear BK303
              clear BK307
              clear HB
              have BK295 := n0_
              have BK296 := n1_
              have BK297 := n2_
              have BK303 := n3_
              have BK307 := n4_
              have HB := n5_
              clear n0_ n1_ n2_ n3_ n4_ n5_
              (try clear hb)
              (try clear hb2)
              (try clear hk)
              (try clear hi)
              refine hK.out _ _ ⟨(blk_cell BK303.out 0).trans rfl, (blk_cell BK303.out 1).trans rfl, (blk_cell BK303.out 2).trans rfl, (blk_cell BK307.out 0).trans rfl, (blk_cell BK307.out 1).trans rfl, (blk_cell BK307.out 2).trans rfl⟩ (fun hHeld => ?_)
              clear hK K
              refine norm_ (a' := ?_) ?_ ?_
              rotate_left
              · show Act.put _ (some 65) _ = _
                simp only [Act.put, List.setIfInBounds_toArray, List.set_cons_zero, List.set_cons_succ, i64_w, i32_w]
                rfl
              refine pure_ (i := 6) (N := some 66) (v := ?_) (a' := ?_) #[true, true, true, true, true, true, true, false, false, false, false, false, false, false, false, false, false] rfl rfl (any_of HT_.out (by kernel_rfl)) (fun _ _ _ h => h) (Or.inl ⟨by rfl, ?_⟩) ?_ ?_
              rotate_left
              · intro w'
                go_simp
                with_reducible rfl
              rotate_left
              · simp only [Act.put, List.setIfInBounds_toArray, List.set_cons_zero, List.set_cons_succ, i64_w, i32_w]
                rfl
              refine pure_ (i := 7) (N := some 67) (v := ?_) (a' := ?_) #[true, true, true, true, true, true, true, true, false, false, false, false, false, false, false, false, false] rfl rfl (any_of HT_.out (by kernel_rfl)) (fun _ _ _ h => h) (Or.inl ⟨by rfl, ?_⟩) ?_ ?_
              rotate_left
              · intro w'
                go_simp
                with_reducible rfl
              rotate_left
              · simp only [Act.put, List.setIfInBounds_toArray, List.set_cons_zero, List.set_cons_succ, i64_w, i32_w]
                rfl
              refine pure_ (i := 8) (N := some 68) (v := ?_) (a' := ?_) #[true, true, true, true, true, true, true, true, true, false, false, false, false, false, false, false, false] rfl rfl (any_of HT_.out (by kernel_rfl)) (fun _ _ _ h => h) (Or.inl ⟨by rfl, ?_⟩) ?_ ?_
              rotate_left
              · intro w'
                go_simp
                with_reducible rfl
              rotate_left
              · simp only [Act.put, List.setIfInBounds_toArray, List.set_cons_zero, List.set_cons_succ, i64_w, i32_w]
                rfl
              refine take_ (i := 9) (N := some 69) (v := ?_) (a' := ?_) #[true, true, true, true, true, true, true, true, true, true, false, false, false, false, false, false, false] rfl rfl (take_ofW HT_.out HW_.out (by kernel_rfl)) (fun _ _ _ h => h) (Or.inl ⟨by rfl, ?_⟩) hHeld ?_ ?_
              rotate_left
              · rintro w' ⟨s0, s1, s2, s3, s4, s5⟩
                go_simp
                with_reducible rfl
              rotate_left
              · simp only [Act.put, List.setIfInBounds_toArray, List.set_cons_zero, List.set_cons_succ, i64_w, i32_w]
                rfl
              refine take_ (i := 11) (N := some 71) (v := ?_) (a' := ?_) #[true, true, true, true, true, true, true, true, true, true, false, true, false, false, false, false, false] rfl rfl (take_ofW HT_.out HW_.out (by kernel_rfl)) (fun _ _ _ h => h) (Or.inl ⟨by rfl, ?_⟩) hHeld ?_ ?_
              rotate_left
              · rintro w' ⟨s0, s1, s2, s3, s4, s5⟩
                go_simp
                with_reducible rfl
              rotate_left
              · simp only [Act.put, List.setIfInBounds_toArray, List.set_cons_zero, List.set_cons_succ, i64_w, i32_w]
                rfl
              refine one_ (i := 10) (N := some 70) #[true, true, true, true, true, true, true, true, true, true, true, true, false, false, false, false, false] rfl rfl (one_of HT_.out (by kernel_rfl)) (by decide) (fun K hK => ?_)
              refine goes_ Tryd.func21 (by kernel_rfl) rfl #[.int .i64 t299, .agg #[.int .u64 t304, .int .u64 t305, .int .i64 t306]] (by rfl) rfl rfl xM ?_
              with_reducible refine (prefix_Last.calls t299 t304 t305 t306 t325 t326 _ A82.out).mono ?_
              rintro e w89 ⟨rfl, hb⟩
              refine ⟨_, rfl, ?_⟩
              have n0_ := Aside0.mk (blk_below (g := gb295) (o := .cells #[.int .u64 a1_0, .int .u64 a1_1] 24 (0, 0)) (xK BK295.out) hb)
              have n1_ := Aside0.mk (blk_below (g := gb296) (o := .cells #[.int .u64 a3_0, .int .u64 a3_1] 24 (0, 0)) (xK BK296.out) hb)
              have n2_ := Aside0.mk (blk_below (g := gb297) (o := .cells #[.int .u64 t308, .int .u64 t309] 24 (0, 0)) (xK BK297.out) hb)
              have n3_ := Aside0.mk (blk_below (g := gb303) (o := .cells #[.int .u64 t300, .int .u64 t301, .int .i64 t302] 28 (0, 0)) (xK BK303.out) hb)
              have n4_ := Aside0.mk (blk_below (g := gb307) (o := .cells #[.int .u64 t304, .int .u64 t305, .int .i64 t306] 28 (0, 0)) (xK BK307.out) hb)
              have n5_ := Aside0.mk (below_step xG hb)
              clear BK295
              clear BK296
              clear BK297
              clear BK303
              clear BK307
              clear HB
              have BK295 := n0_
              have BK296 := n1_
              have BK297 := n2_
              have BK303 := n3_
              have BK307 := n4_
              have HB := n5_
              clear n0_ n1_ n2_ n3_ n4_ n5_
              (try clear hb)
              (try clear hb2)
              (try clear hk)
              (try clear hi)
              refine hK.out _ _ ⟨(blk_cell BK303.out 0).trans rfl, (blk_cell BK303.out 1).trans rfl, (blk_cell BK303.out 2).trans rfl, (blk_cell BK307.out 0).trans rfl, (blk_cell BK307.out 1).trans rfl, (blk_cell BK307.out 2).trans rfl⟩ (fun hHeld => ?_)
              clear hK K
              refine norm_ (a' := ?_) ?_ ?_
              rotate_left
              · show Act.put _ (some 70) _ = _
                simp only [Act.put, List.setIfInBounds_toArray, List.set_cons_zero, List.set_cons_succ, i64_w, i32_w]
                rfl
              refine one_ (i := 12) (N := some 72) #[true, true, true, true, true, true, true, true, true, true, true, true, true, false, false, false, false] rfl rfl (one_of HT_.out (by kernel_rfl)) (by decide) (fun K hK => ?_)
              refine goes_ Tryd.func20 (by kernel_rfl) rfl #[.agg #[.int .u64 t300, .int .u64 t301, .int .i64 t302]] (by rfl) rfl rfl xM ?_
              with_reducible refine (prefix_First.calls t300 t301 t302 t327 t328 _ A83.out).mono ?_
              rintro e w90 ⟨rfl, hb⟩
              refine ⟨_, rfl, ?_⟩
              have n0_ := Aside0.mk (blk_below (g := gb295) (o := .cells #[.int .u64 a1_0, .int .u64 a1_1] 24 (0, 0)) (xK BK295.out) hb)
              have n1_ := Aside0.mk (blk_below (g := gb296) (o := .cells #[.int .u64 a3_0, .int .u64 a3_1] 24 (0, 0)) (xK BK296.out) hb)
              have n2_ := Aside0.mk (blk_below (g := gb297) (o := .cells #[.int .u64 t308, .int .u64 t309] 24 (0, 0)) (xK BK297.out) hb)
              have n3_ := Aside0.mk (blk_below (g := gb303) (o := .cells #[.int .u64 t300, .int .u64 t301, .int .i64 t302] 28 (0, 0)) (xK BK303.out) hb)
              have n4_ := Aside0.mk (blk_below (g := gb307) (o := .cells #[.int .u64 t304, .int .u64 t305, .int .i64 t306] 28 (0, 0)) (xK BK307.out) hb)
              have n5_ := Aside0.mk (below_step xG hb)
              clear BK295
              clear BK296
              clear BK297
              clear BK303
              clear BK307
              clear HB
              have BK295 := n0_
              have BK296 := n1_
              have BK297 := n2_
              have BK303 := n3_
              have BK307 := n4_
              have HB := n5_
              clear n0_ n1_ n2_ n3_ n4_ n5_
              (try clear hb)
              (try clear hb2)
              (try clear hk)
              (try clear hi)
              refine hK.out _ _ ⟨(blk_cell BK303.out 0).trans rfl, (blk_cell BK303.out 1).trans rfl, (blk_cell BK303.out 2).trans rfl, (blk_cell BK307.out 0).trans rfl, (blk_cell BK307.out 1).trans rfl, (blk_cell BK307.out 2).trans rfl⟩ (fun hHeld => ?_)
              clear hK K
              refine norm_ (a' := ?_) ?_ ?_
              rotate_left
              · show Act.put _ (some 72) _ = _
                simp only [Act.put, List.setIfInBounds_toArray, List.set_cons_zero, List.set_cons_succ, i64_w, i32_w]
                rfl
              refine one_ (i := 13) (N := some 73) #[true, true, true, true, true, true, true, true, true, true, true, true, true, true, false, false, false] rfl rfl (one_of HT_.out (by kernel_rfl)) (by decide) (fun K hK => ?_)
              refine goes_ Tryd.func19 (by kernel_rfl) rfl #[.agg #[.int .u64 t325, .int .u64 t326], .agg #[.int .u64 t327, .int .u64 t328]] (by rfl) rfl rfl xM ?_
              with_reducible refine (turnpikeref1_Cmp.calls kj12 t325 t326 t327 t328 t329 _ A84.out).mono ?_
              rintro e w91 ⟨rfl, hb⟩
              refine ⟨_, rfl, ?_⟩
              have n0_ := Aside0.mk (blk_below (g := gb295) (o := .cells #[.int .u64 a1_0, .int .u64 a1_1] 24 (0, 0)) (xK BK295.out) hb)
              have n1_ := Aside0.mk (blk_below (g := gb296) (o := .cells #[.int .u64 a3_0, .int .u64 a3_1] 24 (0, 0)) (xK BK296.out) hb)
              have n2_ := Aside0.mk (blk_below (g := gb297) (o := .cells #[.int .u64 t308, .int .u64 t309] 24 (0, 0)) (xK BK297.out) hb)
              have n3_ := Aside0.mk (blk_below (g := gb303) (o := .cells #[.int .u64 t300, .int .u64 t301, .int .i64 t302] 28 (0, 0)) (xK BK303.out) hb)
              have n4_ := Aside0.mk (blk_below (g := gb307) (o := .cells #[.int .u64 t304, .int .u64 t305, .int .i64 t306] 28 (0, 0)) (xK BK307.out) hb)
              have n5_ := Aside0.mk (below_step xG hb)
              clear BK295
              clear BK296
              clear BK297
              clear BK303
              clear BK307
              clear HB
              have BK295 := n0_
              have BK296 := n1_
              have BK297 := n2_
              have BK303 := n3_
              have BK307 := n4_
              have HB := n5_
              clear n0_ n1_ n2_ n3_ n4_ n5_
              (try clear hb)
              (try clear hb2)
              (try clear hk)
              (try clear hi)
              refine hK.out _ _ ⟨(blk_cell BK303.out 0).trans rfl, (blk_cell BK303.out 1).trans rfl, (blk_cell BK303.out 2).trans rfl, (blk_cell BK307.out 0).trans rfl, (blk_cell BK307.out 1).trans rfl, (blk_cell BK307.out 2).trans rfl⟩ (fun hHeld => ?_)
              clear hK K
              refine norm_ (a' := ?_) ?_ ?_
              rotate_left
              · show Act.put _ (some 73) _ = _
                simp only [Act.put, List.setIfInBounds_toArray, List.set_cons_zero, List.set_cons_succ, i64_w, i32_w]
                rfl
              refine pure_ (i := 14) (N := some 74) (v := ?_) (a' := ?_) #[true, true, true, true, true, true, true, true, true, true, true, true, true, true, true, false, false] rfl rfl (any_of HT_.out (by kernel_rfl)) (fun _ _ _ h => h) (Or.inl ⟨by rfl, ?_⟩) ?_ ?_
              rotate_left
              · intro w'
                go_simp
                with_reducible rfl
              rotate_left
              · simp only [Act.put, List.setIfInBounds_toArray, List.set_cons_zero, List.set_cons_succ, i64_w, i32_w]
                rfl
              refine pure_ (i := 15) (N := some 75) (v := ?_) (a' := ?_) #[true, true, true, true, true, true, true, true, true, true, true, true, true, true, true, true, false] rfl rfl (any_of HT_.out (by kernel_rfl)) (fun _ _ _ h => h) (Or.inl ⟨by rfl, ?_⟩) ?_ ?_
              rotate_left
              · intro w'
                go_simp
                with_reducible rfl
              rotate_left
              · simp only [Act.put, List.setIfInBounds_toArray, List.set_cons_zero, List.set_cons_succ, i64_w, i32_w]
                rfl
              refine pure_ (i := 16) (N := some 18) (v := ?_) (a' := ?_) #[true, true, true, true, true, true, true, true, true, true, true, true, true, true, true, true, true] rfl rfl (any_of HT_.out (by kernel_rfl)) (fun _ _ _ h => h) (Or.inl ⟨by rfl, ?_⟩) ?_ ?_
              rotate_left
              · intro w'
                go_simp
                with_reducible rfl
              rotate_left
              · simp only [Act.put, List.setIfInBounds_toArray, List.set_cons_zero, List.set_cons_succ, i64_w, i32_w]
                rfl
              refine done_ (done_of HT_.out (by kernel_rfl)) ?_
              try go_wp2
              go_meet
              case rel => exact ⟨_, (decide (t329 < 0)), xV, H', ⟨by have := HJ12.out; first | omega | exact Nat.le_refl _⟩, ⟨xK BK295.out⟩, ⟨xK BK296.out⟩, ⟨xK BK297.out⟩, ⟨xK BK303.out⟩, ⟨xK BK307.out⟩, ⟨xG⟩⟩
          case rest =>
            clear HC60
            try clear c1
            try clear c2
            try clear p2
            try clear c6
            try clear c7
            try clear c19
            try clear c20
            try clear c21
            try clear c22
            try clear c67
            try clear c68
            try clear c77
            try clear c77b0
            try clear hcz69_0
            try clear hcz69_1
            try clear hcz69_2
            try clear hcz71_0
            try clear hcz71_1
            try clear hcz71_2
            try clear hcz72_0
            try clear hcz72_1
            try clear hcz72_2
            try clear hfz69_0
            try clear hfz69_1
            try clear hfz69_2
            try clear hfz71_0
            try clear hfz71_1
            try clear hfz71_2
            try clear hfz72_0
            try clear hfz72_1
            try clear hfz72_2
            obtain ⟨kq, x18_59, rfl, HA, HJ59, BK295, BK296, BK297, BK303, BK307, HB⟩ := hcut
            cases kq with
            | zero => exact absurd HA.out (by simp [turnpikelaw3_PrefixApart.j1])
            | succ kj59 =>
              have H := HA.out
              clear HA
              simp only [turnpikelaw3_PrefixApart.j1] at H
              have HC92 := Aside0.mk H
              clear H
              go_upto_region 12 with (fail)
              go_cut [91] (fun v91 wc => ∃ (kq : Nat) (x91_91 : Bool), v91 = .bool x91_91 ∧ Aside0 (turnpikelaw3_PrefixApart.j2 kq t299 t318 x91_91 t308 t309 t300 t301 t302 t304 t305 t306 = some r) ∧ Aside0 (kq ≤ kj59) ∧ Aside0 (wc.heap[gb295]? = some (.cells #[.int .u64 a1_0, .int .u64 a1_1] 24 (0, 0))) ∧ Aside0 (wc.heap[gb296]? = some (.cells #[.int .u64 a3_0, .int .u64 a3_1] 24 (0, 0))) ∧ Aside0 (wc.heap[gb297]? = some (.cells #[.int .u64 t308, .int .u64 t309] 24 (0, 0))) ∧ Aside0 (wc.heap[gb303]? = some (.cells #[.int .u64 t300, .int .u64 t301, .int .i64 t302] 28 (0, 0))) ∧ Aside0 (wc.heap[gb307]? = some (.cells #[.int .u64 t304, .int .u64 t305, .int .i64 t306] 28 (0, 0))) ∧ Aside0 (Below w.heap.size w wc))
              case first =>
                have H := HC92.out
                clear HC92
                by_cases c93 : t318 = true
                · subst c93
                  have H1 : (if (t319 != ((t300 == t304 && (t301 == t305)) && (t302 == t306))) = true then (turnpikelaw3_PrefixApart.j2 kj59 t299 true true t308 t309 t300 t301 t302 t304 t305 t306) else (turnpikelaw3_PrefixApart.j2 kj59 t299 true (x18_59 == true) t308 t309 t300 t301 t302 t304 t305 t306)) = some r := by rw [if_pos rfl] at H; exact H
                  clear H
                  have H := H1
                  clear H1
                  by_cases c94 : (t319 != ((t300 == t304 && (t301 == t305)) && (t302 == t306))) = true
                  · rw [if_pos c94] at H
                    have c94b0 : (t319 != ((t300 == t304 && (t301 == t305)) && (t302 == t306))) = true := c94
                    (try (have c94b1 : decide (t319 = ((t300 == t304 && (t301 == t305)) && (t302 == t306))) = false := by simpa using c94))
                    (try (have c94b2 : (t319 == ((t300 == t304 && (t301 == t305)) && (t302 == t306))) = false := by simpa using c94))
                    (try (have c94b3 : ¬ (t319 = ((t300 == t304 && (t301 == t305)) && (t302 == t306))) := by simpa using c94))
                    clear c94
                    (first | rw [c94b0] | (simp only [i64_w, i32_w]; rw [c94b0]) | skip)
                    have H' := Aside0.mk H
                    clear H
                    have hnb95 := NB303_295.out
                    have hnc95 := NB295_303.out
                    have hnb96 := NB303_296.out
                    have hnc96 := NB296_303.out
                    have hnb97 := NB303_297.out
                    have hnc97 := NB297_303.out
                    have hnb98 := NB303_307.out
                    have hnc98 := NB307_303.out
                    have hcz99_0 : wc.cell? ⟨gb303, 0, none⟩ = some (.int .u64 t300) := (blk_cell BK303.out 0).trans rfl
                    have hcz99_1 : wc.cell? ⟨gb303, 1, none⟩ = some (.int .u64 t301) := (blk_cell BK303.out 1).trans rfl
                    have hcz99_2 : wc.cell? ⟨gb303, 2, none⟩ = some (.int .i64 t302) := (blk_cell BK303.out 2).trans rfl
                    have hfz99_0 := blk_frozen BK303.out 0
                    have hfz99_1 := blk_frozen BK303.out 1
                    have hfz99_2 := blk_frozen BK303.out 2
                    have hnb100 := NB307_295.out
                    have hnc100 := NB295_307.out
                    have hnb101 := NB307_296.out
                    have hnc101 := NB296_307.out
                    have hnb102 := NB307_297.out
                    have hnc102 := NB297_307.out
                    have hcz103_0 : wc.cell? ⟨gb307, 0, none⟩ = some (.int .u64 t304) := (blk_cell BK307.out 0).trans rfl
                    have hcz103_1 : wc.cell? ⟨gb307, 1, none⟩ = some (.int .u64 t305) := (blk_cell BK307.out 1).trans rfl
                    have hcz103_2 : wc.cell? ⟨gb307, 2, none⟩ = some (.int .i64 t306) := (blk_cell BK307.out 2).trans rfl
                    have hfz103_0 := blk_frozen BK307.out 0
                    have hfz103_1 := blk_frozen BK307.out 1
                    have hfz103_2 := blk_frozen BK307.out 2
                    go_wp2
                    go_meet
                    case rel => exact ⟨_, (true), xV, H', ⟨by have := HJ12.out; have := HJ59.out; first | omega | exact Nat.le_refl _⟩, ⟨xK BK295.out⟩, ⟨xK BK296.out⟩, ⟨xK BK297.out⟩, ⟨xK BK303.out⟩, ⟨xK BK307.out⟩, ⟨xG⟩⟩
                  · rw [if_neg c94] at H
                    have c94b0 : (t319 != ((t300 == t304 && (t301 == t305)) && (t302 == t306))) = false := by simpa using c94
                    (try (have c94b1 : decide (t319 = ((t300 == t304 && (t301 == t305)) && (t302 == t306))) = true := by simpa using c94))
                    (try (have c94b2 : (t319 == ((t300 == t304 && (t301 == t305)) && (t302 == t306))) = true := by simpa using c94))
                    clear c94
                    (first | rw [c94b0] | (simp only [i64_w, i32_w]; rw [c94b0]) | skip)
                    have H' := Aside0.mk H
                    clear H
                    have hnb104 := NB303_295.out
                    have hnc104 := NB295_303.out
                    have hnb105 := NB303_296.out
                    have hnc105 := NB296_303.out
                    have hnb106 := NB303_297.out
                    have hnc106 := NB297_303.out
                    have hnb107 := NB303_307.out
                    have hnc107 := NB307_303.out
                    have hcz108_0 : wc.cell? ⟨gb303, 0, none⟩ = some (.int .u64 t300) := (blk_cell BK303.out 0).trans rfl
                    have hcz108_1 : wc.cell? ⟨gb303, 1, none⟩ = some (.int .u64 t301) := (blk_cell BK303.out 1).trans rfl
                    have hcz108_2 : wc.cell? ⟨gb303, 2, none⟩ = some (.int .i64 t302) := (blk_cell BK303.out 2).trans rfl
                    have hfz108_0 := blk_frozen BK303.out 0
                    have hfz108_1 := blk_frozen BK303.out 1
                    have hfz108_2 := blk_frozen BK303.out 2
                    have hnb109 := NB307_295.out
                    have hnc109 := NB295_307.out
                    have hnb110 := NB307_296.out
                    have hnc110 := NB296_307.out
                    have hnb111 := NB307_297.out
                    have hnc111 := NB297_307.out
                    have hcz112_0 : wc.cell? ⟨gb307, 0, none⟩ = some (.int .u64 t304) := (blk_cell BK307.out 0).trans rfl
                    have hcz112_1 : wc.cell? ⟨gb307, 1, none⟩ = some (.int .u64 t305) := (blk_cell BK307.out 1).trans rfl
                    have hcz112_2 : wc.cell? ⟨gb307, 2, none⟩ = some (.int .i64 t306) := (blk_cell BK307.out 2).trans rfl
                    have hfz112_0 := blk_frozen BK307.out 0
                    have hfz112_1 := blk_frozen BK307.out 1
                    have hfz112_2 := blk_frozen BK307.out 2
                    go_wp2
                    go_meet
                    case rel => exact ⟨_, ((x18_59 == true)), xV, H', ⟨by have := HJ12.out; have := HJ59.out; first | omega | exact Nat.le_refl _⟩, ⟨xK BK295.out⟩, ⟨xK BK296.out⟩, ⟨xK BK297.out⟩, ⟨xK BK303.out⟩, ⟨xK BK307.out⟩, ⟨xG⟩⟩
                · replace c93 := Bool.eq_false_iff.mpr c93
                  subst c93
                  have H1 : (if (false != ((t300 == t304 && (t301 == t305)) && (t302 == t306))) = true then (turnpikelaw3_PrefixApart.j2 kj59 t299 false true t308 t309 t300 t301 t302 t304 t305 t306) else (turnpikelaw3_PrefixApart.j2 kj59 t299 false (x18_59 == t319) t308 t309 t300 t301 t302 t304 t305 t306)) = some r := by rw [if_neg (show ¬ (false = true) by decide)] at H; exact H
                  clear H
                  have H := H1
                  clear H1
                  by_cases c113 : (false != ((t300 == t304 && (t301 == t305)) && (t302 == t306))) = true
                  · rw [if_pos c113] at H
                    have c113b0 : (false != ((t300 == t304 && (t301 == t305)) && (t302 == t306))) = true := c113
                    have c113b0x : ((t300 == t304 && (t301 == t305)) && (t302 == t306)) = true := by have q_ := c113b0; revert q_; cases ((t300 == t304 && (t301 == t305)) && (t302 == t306)) <;> decide
                    (try (have c113b1 : decide (false = ((t300 == t304 && (t301 == t305)) && (t302 == t306))) = false := by simpa using c113))
                    (try (have c113b2 : (false == ((t300 == t304 && (t301 == t305)) && (t302 == t306))) = false := by simpa using c113))
                    (try (have c113b3 : ¬ (false = ((t300 == t304 && (t301 == t305)) && (t302 == t306))) := by simpa using c113))
                    clear c113
                    have H' := Aside0.mk H
                    clear H
                    have hnb114 := NB303_295.out
                    have hnc114 := NB295_303.out
                    have hnb115 := NB303_296.out
                    have hnc115 := NB296_303.out
                    have hnb116 := NB303_297.out
                    have hnc116 := NB297_303.out
                    have hnb117 := NB303_307.out
                    have hnc117 := NB307_303.out
                    have hcz118_0 : wc.cell? ⟨gb303, 0, none⟩ = some (.int .u64 t300) := (blk_cell BK303.out 0).trans rfl
                    have hcz118_1 : wc.cell? ⟨gb303, 1, none⟩ = some (.int .u64 t301) := (blk_cell BK303.out 1).trans rfl
                    have hcz118_2 : wc.cell? ⟨gb303, 2, none⟩ = some (.int .i64 t302) := (blk_cell BK303.out 2).trans rfl
                    have hfz118_0 := blk_frozen BK303.out 0
                    have hfz118_1 := blk_frozen BK303.out 1
                    have hfz118_2 := blk_frozen BK303.out 2
                    have hnb119 := NB307_295.out
                    have hnc119 := NB295_307.out
                    have hnb120 := NB307_296.out
                    have hnc120 := NB296_307.out
                    have hnb121 := NB307_297.out
                    have hnc121 := NB297_307.out
                    have hcz122_0 : wc.cell? ⟨gb307, 0, none⟩ = some (.int .u64 t304) := (blk_cell BK307.out 0).trans rfl
                    have hcz122_1 : wc.cell? ⟨gb307, 1, none⟩ = some (.int .u64 t305) := (blk_cell BK307.out 1).trans rfl
                    have hcz122_2 : wc.cell? ⟨gb307, 2, none⟩ = some (.int .i64 t306) := (blk_cell BK307.out 2).trans rfl
                    have hfz122_0 := blk_frozen BK307.out 0
                    have hfz122_1 := blk_frozen BK307.out 1
                    have hfz122_2 := blk_frozen BK307.out 2
                    go_wp2
                    go_meet
                    case rel => exact ⟨_, (true), xV, H', ⟨by have := HJ12.out; have := HJ59.out; first | omega | exact Nat.le_refl _⟩, ⟨xK BK295.out⟩, ⟨xK BK296.out⟩, ⟨xK BK297.out⟩, ⟨xK BK303.out⟩, ⟨xK BK307.out⟩, ⟨xG⟩⟩
                  · rw [if_neg c113] at H
                    have c113b0 : (false != ((t300 == t304 && (t301 == t305)) && (t302 == t306))) = false := by simpa using c113
                    have c113b0x : ((t300 == t304 && (t301 == t305)) && (t302 == t306)) = false := by have q_ := c113b0; revert q_; cases ((t300 == t304 && (t301 == t305)) && (t302 == t306)) <;> decide
                    (try (have c113b1 : decide (false = ((t300 == t304 && (t301 == t305)) && (t302 == t306))) = true := by simpa using c113))
                    (try (have c113b2 : (false == ((t300 == t304 && (t301 == t305)) && (t302 == t306))) = true := by simpa using c113))
                    clear c113
                    have H' := Aside0.mk H
                    clear H
                    have hnb123 := NB303_295.out
                    have hnc123 := NB295_303.out
                    have hnb124 := NB303_296.out
                    have hnc124 := NB296_303.out
                    have hnb125 := NB303_297.out
                    have hnc125 := NB297_303.out
                    have hnb126 := NB303_307.out
                    have hnc126 := NB307_303.out
                    have hcz127_0 : wc.cell? ⟨gb303, 0, none⟩ = some (.int .u64 t300) := (blk_cell BK303.out 0).trans rfl
                    have hcz127_1 : wc.cell? ⟨gb303, 1, none⟩ = some (.int .u64 t301) := (blk_cell BK303.out 1).trans rfl
                    have hcz127_2 : wc.cell? ⟨gb303, 2, none⟩ = some (.int .i64 t302) := (blk_cell BK303.out 2).trans rfl
                    have hfz127_0 := blk_frozen BK303.out 0
                    have hfz127_1 := blk_frozen BK303.out 1
                    have hfz127_2 := blk_frozen BK303.out 2
                    have hnb128 := NB307_295.out
                    have hnc128 := NB295_307.out
                    have hnb129 := NB307_296.out
                    have hnc129 := NB296_307.out
                    have hnb130 := NB307_297.out
                    have hnc130 := NB297_307.out
                    have hcz131_0 : wc.cell? ⟨gb307, 0, none⟩ = some (.int .u64 t304) := (blk_cell BK307.out 0).trans rfl
                    have hcz131_1 : wc.cell? ⟨gb307, 1, none⟩ = some (.int .u64 t305) := (blk_cell BK307.out 1).trans rfl
                    have hcz131_2 : wc.cell? ⟨gb307, 2, none⟩ = some (.int .i64 t306) := (blk_cell BK307.out 2).trans rfl
                    have hfz131_0 := blk_frozen BK307.out 0
                    have hfz131_1 := blk_frozen BK307.out 1
                    have hfz131_2 := blk_frozen BK307.out 2
                    go_wp2
                    go_meet
                    case rel => exact ⟨_, ((x18_59 == t319)), xV, H', ⟨by have := HJ12.out; have := HJ59.out; first | omega | exact Nat.le_refl _⟩, ⟨xK BK295.out⟩, ⟨xK BK296.out⟩, ⟨xK BK297.out⟩, ⟨xK BK303.out⟩, ⟨xK BK307.out⟩, ⟨xG⟩⟩
              case rest =>
                clear HC92
                try clear c1
                try clear c2
                try clear p2
                try clear c6
                try clear c7
                try clear c9
                try clear c10
                try clear c11
                try clear c12
                try clear c13
                try clear c19
                try clear c20
                try clear c21
                try clear c22
                try clear c67
                try clear c68
                try clear c77
                try clear c77b0
                try clear c93
                try clear c94
                try clear c94b0
                try clear c94b1
                try clear c94b2
                try clear c95
                try clear c96
                try clear c97
                try clear c98
                try clear c100
                try clear c101
                try clear c102
                try clear c104
                try clear c105
                try clear c106
                try clear c107
                try clear c109
                try clear c110
                try clear c111
                try clear c113
                try clear c113b0
                try clear c113b1
                try clear c113b2
                try clear c114
                try clear c115
                try clear c116
                try clear c117
                try clear c119
                try clear c120
                try clear c121
                try clear c123
                try clear c124
                try clear c125
                try clear c126
                try clear c128
                try clear c129
                try clear c130
                try clear hcz103_0
                try clear hcz103_1
                try clear hcz103_2
                try clear hcz108_0
                try clear hcz108_1
                try clear hcz108_2
                try clear hcz112_0
                try clear hcz112_1
                try clear hcz112_2
                try clear hcz118_0
                try clear hcz118_1
                try clear hcz118_2
                try clear hcz122_0
                try clear hcz122_1
                try clear hcz122_2
                try clear hcz127_0
                try clear hcz127_1
                try clear hcz127_2
                try clear hcz131_0
                try clear hcz131_1
                try clear hcz131_2
                try clear hcz69_0
                try clear hcz69_1
                try clear hcz69_2
                try clear hcz71_0
                try clear hcz71_1
                try clear hcz71_2
                try clear hcz72_0
                try clear hcz72_1
                try clear hcz72_2
                try clear hcz99_0
                try clear hcz99_1
                try clear hcz99_2
                try clear hfz103_0
                try clear hfz103_1
                try clear hfz103_2
                try clear hfz108_0
                try clear hfz108_1
                try clear hfz108_2
                try clear hfz112_0
                try clear hfz112_1
                try clear hfz112_2
                try clear hfz118_0
                try clear hfz118_1
                try clear hfz118_2
                try clear hfz122_0
                try clear hfz122_1
                try clear hfz122_2
                try clear hfz127_0
                try clear hfz127_1
                try clear hfz127_2
                try clear hfz131_0
                try clear hfz131_1
                try clear hfz131_2
                try clear hfz69_0
                try clear hfz69_1
                try clear hfz69_2
                try clear hfz71_0
                try clear hfz71_1
                try clear hfz71_2
                try clear hfz72_0
                try clear hfz72_1
                try clear hfz72_2
                try clear hfz99_0
                try clear hfz99_1
                try clear hfz99_2
                try clear p2
                obtain ⟨kq, x91_91, rfl, HA, HJ91, BK295, BK296, BK297, BK303, BK307, HB⟩ := hcut
                cases kq with
                | zero => exact absurd HA.out (by simp [turnpikelaw3_PrefixApart.j2])
                | succ kj91 =>
                  have H := HA.out
                  clear HA
                  simp only [turnpikelaw3_PrefixApart.j2] at H
                  by_cases c132 : x91_91 = true
                  · subst c132
                    have H1 : (some false) = some r := by rw [if_pos rfl] at H; exact H
                    clear H
                    have H := H1
                    clear H1
                    obtain rfl := Option.some.inj H
                    exact absurd hr_.out (by decide)
                  · replace c132 := Bool.eq_false_iff.mpr c132
                    subst c132
                    have H1 : (if t318 = true then ((prefix_First.f t304 t305 t306).bind fun bt330 => ((prefix_First.f t300 t301 t302).bind fun bt332 => ((turnpikeref1_Cmp.f kj91 bt330.1 bt330.2 bt332.1 bt332.2).bind fun t334 => (if t334 > 0 then (turnpikelaw3_PrefixApart.j3 kj91 t318 true t308 t309 t300 t301 t302 t304 t305 t306) else ((prefix_Last.f t299 t300 t301 t302).bind fun bt335 => ((prefix_Last.f t299 t304 t305 t306).bind fun bt337 => ((turnpikeref1_Cmp.f kj91 bt335.1 bt335.2 bt337.1 bt337.2).bind fun t339 => (turnpikelaw3_PrefixApart.j3 kj91 t318 (decide (t339 > 0)) t308 t309 t300 t301 t302 t304 t305 t306)))))))) else (turnpikelaw3_PrefixApart.j3 kj91 t318 false t308 t309 t300 t301 t302 t304 t305 t306)) = some r := by rw [if_neg (show ¬ (false = true) by decide)] at H; exact H
                    clear H
                    have H := H1
                    clear H1
                    have HC133 := Aside0.mk H
                    clear H
                    go_upto_region 14 with (fail)
                    go_cut [110] (fun v110 wc => ∃ (kq : Nat) (x110_132 : Bool), v110 = .bool x110_132 ∧ Aside0 (turnpikelaw3_PrefixApart.j3 kq t318 x110_132 t308 t309 t300 t301 t302 t304 t305 t306 = some r) ∧ Aside0 (kq ≤ kj91) ∧ Aside0 (wc.heap[gb295]? = some (.cells #[.int .u64 a1_0, .int .u64 a1_1] 24 (0, 0))) ∧ Aside0 (wc.heap[gb296]? = some (.cells #[.int .u64 a3_0, .int .u64 a3_1] 24 (0, 0))) ∧ Aside0 (wc.heap[gb297]? = some (.cells #[.int .u64 t308, .int .u64 t309] 24 (0, 0))) ∧ Aside0 (wc.heap[gb303]? = some (.cells #[.int .u64 t300, .int .u64 t301, .int .i64 t302] 28 (0, 0))) ∧ Aside0 (wc.heap[gb307]? = some (.cells #[.int .u64 t304, .int .u64 t305, .int .i64 t306] 28 (0, 0))) ∧ Aside0 (Below w.heap.size w wc))
                    case first =>
                      have H := HC133.out
                      clear HC133
                      by_cases c134 : t318 = true
                      · subst c134
                        have H1 : ((prefix_First.f t304 t305 t306).bind fun bt330 => ((prefix_First.f t300 t301 t302).bind fun bt332 => ((turnpikeref1_Cmp.f kj91 bt330.1 bt330.2 bt332.1 bt332.2).bind fun t334 => (if t334 > 0 then (turnpikelaw3_PrefixApart.j3 kj91 true true t308 t309 t300 t301 t302 t304 t305 t306) else ((prefix_Last.f t299 t300 t301 t302).bind fun bt335 => ((prefix_Last.f t299 t304 t305 t306).bind fun bt337 => ((turnpikeref1_Cmp.f kj91 bt335.1 bt335.2 bt337.1 bt337.2).bind fun t339 => (turnpikelaw3_PrefixApart.j3 kj91 true (decide (t339 > 0)) t308 t309 t300 t301 t302 t304 t305 t306)))))))) = some r := by rw [if_pos rfl] at H; exact H
                        clear H
                        have H := H1
                        clear H1
                        replace H := Option.bind_eq_some_iff.mp H
                        obtain ⟨⟨t330, t331⟩, A1350, H⟩ := H
                        replace H : ((prefix_First.f t300 t301 t302).bind fun bt332 => ((turnpikeref1_Cmp.f kj91 t330 t331 bt332.1 bt332.2).bind fun t334 => (if t334 > 0 then (turnpikelaw3_PrefixApart.j3 kj91 true true t308 t309 t300 t301 t302 t304 t305 t306) else ((prefix_Last.f t299 t300 t301 t302).bind fun bt335 => ((prefix_Last.f t299 t304 t305 t306).bind fun bt337 => ((turnpikeref1_Cmp.f kj91 bt335.1 bt335.2 bt337.1 bt337.2).bind fun t339 => (turnpikelaw3_PrefixApart.j3 kj91 true (decide (t339 > 0)) t308 t309 t300 t301 t302 t304 t305 t306))))))) = some r := H
                        have A135 := Aside0.mk A1350
                        clear A1350
                        replace H := Option.bind_eq_some_iff.mp H
                        obtain ⟨⟨t332, t333⟩, A1360, H⟩ := H
                        replace H : ((turnpikeref1_Cmp.f kj91 t330 t331 t332 t333).bind fun t334 => (if t334 > 0 then (turnpikelaw3_PrefixApart.j3 kj91 true true t308 t309 t300 t301 t302 t304 t305 t306) else ((prefix_Last.f t299 t300 t301 t302).bind fun bt335 => ((prefix_Last.f t299 t304 t305 t306).bind fun bt337 => ((turnpikeref1_Cmp.f kj91 bt335.1 bt335.2 bt337.1 bt337.2).bind fun t339 => (turnpikelaw3_PrefixApart.j3 kj91 true (decide (t339 > 0)) t308 t309 t300 t301 t302 t304 t305 t306)))))) = some r := H
                        have A136 := Aside0.mk A1360
                        clear A1360
                        replace H := Option.bind_eq_some_iff.mp H
                        obtain ⟨t334, A1370, H⟩ := H
                        replace H : (if t334 > 0 then (turnpikelaw3_PrefixApart.j3 kj91 true true t308 t309 t300 t301 t302 t304 t305 t306) else ((prefix_Last.f t299 t300 t301 t302).bind fun bt335 => ((prefix_Last.f t299 t304 t305 t306).bind fun bt337 => ((turnpikeref1_Cmp.f kj91 bt335.1 bt335.2 bt337.1 bt337.2).bind fun t339 => (turnpikelaw3_PrefixApart.j3 kj91 true (decide (t339 > 0)) t308 t309 t300 t301 t302 t304 t305 t306))))) = some r := H
                        have A137 := Aside0.mk A1370
                        clear A1370
                        by_cases c138 : t334 > 0
                        · rw [if_pos c138] at H
                          have c138b0 : decide (0 < t334) = true := decide_eq_true c138
                          clear c138
                          (first | rw [c138b0] | (simp only [i64_w, i32_w]; rw [c138b0]) | skip)
                          have H' := Aside0.mk H
                          clear H
                          try go_wp2
                          have n0_ := Aside0.mk (blk_drew BK295.out)
                          have n1_ := Aside0.mk (blk_drew BK296.out)
                          have n2_ := Aside0.mk (blk_drew BK297.out)
                          have n3_ := Aside0.mk (blk_drew BK303.out)
                          have n4_ := Aside0.mk (blk_drew BK307.out)
                          have n5_ := Aside0.mk (below_drew1 HB.out)
                          clear BK295
                          clear BK296
                          clear BK297
                          clear BK303
                          clear BK307
                          clear HB
                          have BK295 := n0_
                          have BK296 := n1_
                          have BK297 := n2_
                          have BK303 := n3_
                          have BK307 := n4_
                          have HB := n5_
                          clear n0_ n1_ n2_ n3_ n4_ n5_
                          refine start_ (n := 19) (S := fun w' => w'.cell? ⟨gb307, 0, none⟩ = some (.int .u64 t304) ∧ w'.cell? ⟨gb307, 1, none⟩ = some (.int .u64 t305) ∧ w'.cell? ⟨gb307, 2, none⟩ = some (.int .i64 t306) ∧ w'.cell? ⟨gb303, 0, none⟩ = some (.int .u64 t300) ∧ w'.cell? ⟨gb303, 1, none⟩ = some (.int .u64 t301) ∧ w'.cell? ⟨gb303, 2, none⟩ = some (.int .i64 t302)) (ds := []) #[false, false, false, false, false, false, false, false, false, false, false, false, false, false, false, false, false, false, false] (by kernel_rfl) rfl rfl ⟨(blk_cell BK307.out 0).trans rfl, (blk_cell BK307.out 1).trans rfl, (blk_cell BK307.out 2).trans rfl, (blk_cell BK303.out 0).trans rfl, (blk_cell BK303.out 1).trans rfl, (blk_cell BK303.out 2).trans rfl⟩ (fun hHeld => ?_); refine with_tabW turnpikelaw3_PrefixApart.tab14 turnpikelaw3_PrefixApart.bits14 (fun HT_ HW_ => ?_)
                          generalize wc.drew = w139 at BK295 BK296 BK297 BK303 BK307 HB hHeld ⊢
                          refine pure_ (i := 0) (N := some 92) (v := ?_) (a' := ?_) #[true, false, false, false, false, false, false, false, false, false, false, false, false, false, false, false, false, false, false] rfl rfl (any_of HT_.out (by kernel_rfl)) (fun _ _ _ h => h) (Or.inl ⟨by rfl, ?_⟩) ?_ ?_
                          rotate_left
                          · intro w'
                            go_simp
                            with_reducible rfl
                          rotate_left
                          · simp only [Act.put, List.setIfInBounds_toArray, List.set_cons_zero, List.set_cons_succ, i64_w, i32_w]
                            rfl
                          refine pure_ (i := 1) (N := some 93) (v := ?_) (a' := ?_) #[true, true, false, false, false, false, false, false, false, false, false, false, false, false, false, false, false, false, false] rfl rfl (any_of HT_.out (by kernel_rfl)) (fun _ _ _ h => h) (Or.inl ⟨by rfl, ?_⟩) ?_ ?_
                          rotate_left
                          · intro w'
                            go_simp
                            with_reducible rfl
                          rotate_left
                          · simp only [Act.put, List.setIfInBounds_toArray, List.set_cons_zero, List.set_cons_succ, i64_w, i32_w]
                            rfl
                          refine take_ (i := 2) (N := some 94) (v := ?_) (a' := ?_) #[true, true, true, false, false, false, false, false, false, false, false, false, false, false, false, false, false, false, false] rfl rfl (take_ofW HT_.out HW_.out (by kernel_rfl)) (fun _ _ _ h => h) (Or.inl ⟨by rfl, ?_⟩) hHeld ?_ ?_
                          rotate_left
                          · rintro w' ⟨s0, s1, s2, s3, s4, s5⟩
                            go_simp
                            with_reducible rfl
                          rotate_left
                          · simp only [Act.put, List.setIfInBounds_toArray, List.set_cons_zero, List.set_cons_succ, i64_w, i32_w]
                            rfl
                          refine take_ (i := 4) (N := some 96) (v := ?_) (a' := ?_) #[true, true, true, false, true, false, false, false, false, false, false, false, false, false, false, false, false, false, false] rfl rfl (take_ofW HT_.out HW_.out (by kernel_rfl)) (fun _ _ _ h => h) (Or.inl ⟨by rfl, ?_⟩) hHeld ?_ ?_
                          rotate_left
                          · rintro w' ⟨s0, s1, s2, s3, s4, s5⟩
                            go_simp
                            with_reducible rfl
                          rotate_left
                          · simp only [Act.put, List.setIfInBounds_toArray, List.set_cons_zero, List.set_cons_succ, i64_w, i32_w]
                            rfl
                          refine one_ (i := 3) (N := some 95) #[true, true, true, true, true, false, false, false, false, false, false, false, false, false, false, false, false, false, false] rfl rfl (one_of HT_.out (by kernel_rfl)) (by decide) (fun K hK => ?_)
                          refine goes_ Tryd.func20 (by kernel_rfl) rfl #[.agg #[.int .u64 t304, .int .u64 t305, .int .i64 t306]] (by rfl) rfl rfl xM ?_
                          with_reducible refine (prefix_First.calls t304 t305 t306 t330 t331 _ A135.out).mono ?_
                          rintro e w140 ⟨rfl, hb⟩
                          refine ⟨_, rfl, ?_⟩
                          have n0_ := Aside0.mk (blk_below (g := gb295) (o := .cells #[.int .u64 a1_0, .int .u64 a1_1] 24 (0, 0)) (xK BK295.out) hb)
                          have n1_ := Aside0.mk (blk_below (g := gb296) (o := .cells #[.int .u64 a3_0, .int .u64 a3_1] 24 (0, 0)) (xK BK296.out) hb)
                          have n2_ := Aside0.mk (blk_below (g := gb297) (o := .cells #[.int .u64 t308, .int .u64 t309] 24 (0, 0)) (xK BK297.out) hb)
                          have n3_ := Aside0.mk (blk_below (g := gb303) (o := .cells #[.int .u64 t300, .int .u64 t301, .int .i64 t302] 28 (0, 0)) (xK BK303.out) hb)
                          have n4_ := Aside0.mk (blk_below (g := gb307) (o := .cells #[.int .u64 t304, .int .u64 t305, .int .i64 t306] 28 (0, 0)) (xK BK307.out) hb)
                          have n5_ := Aside0.mk (below_step xG hb)
                          clear BK295
                          clear BK296
                          clear BK297
                          clear BK303
                          clear BK307
                          clear HB
                          have BK295 := n0_
                          have BK296 := n1_
                          have BK297 := n2_
                          have BK303 := n3_
                          have BK307 := n4_
                          have HB := n5_
                          clear n0_ n1_ n2_ n3_ n4_ n5_
                          (try clear hb)
                          (try clear hb2)
                          (try clear hk)
                          (try clear hi)
                          refine hK.out _ _ ⟨(blk_cell BK307.out 0).trans rfl, (blk_cell BK307.out 1).trans rfl, (blk_cell BK307.out 2).trans rfl, (blk_cell BK303.out 0).trans rfl, (blk_cell BK303.out 1).trans rfl, (blk_cell BK303.out 2).trans rfl⟩ (fun hHeld => ?_)
                          clear hK K
                          refine norm_ (a' := ?_) ?_ ?_
                          rotate_left
                          · show Act.put _ (some 95) _ = _
                            simp only [Act.put, List.setIfInBounds_toArray, List.set_cons_zero, List.set_cons_succ, i64_w, i32_w]
                            rfl
                          refine one_ (i := 5) (N := some 97) #[true, true, true, true, true, true, false, false, false, false, false, false, false, false, false, false, false, false, false] rfl rfl (one_of HT_.out (by kernel_rfl)) (by decide) (fun K hK => ?_)
                          refine goes_ Tryd.func20 (by kernel_rfl) rfl #[.agg #[.int .u64 t300, .int .u64 t301, .int .i64 t302]] (by rfl) rfl rfl xM ?_
                          with_reducible refine (prefix_First.calls t300 t301 t302 t332 t333 _ A136.out).mono ?_
                          rintro e w141 ⟨rfl, hb⟩
                          refine ⟨_, rfl, ?_⟩
                          have n0_ := Aside0.mk (blk_below (g := gb295) (o := .cells #[.int .u64 a1_0, .int .u64 a1_1] 24 (0, 0)) (xK BK295.out) hb)
                          have n1_ := Aside0.mk (blk_below (g := gb296) (o := .cells #[.int .u64 a3_0, .int .u64 a3_1] 24 (0, 0)) (xK BK296.out) hb)
                          have n2_ := Aside0.mk (blk_below (g := gb297) (o := .cells #[.int .u64 t308, .int .u64 t309] 24 (0, 0)) (xK BK297.out) hb)
                          have n3_ := Aside0.mk (blk_below (g := gb303) (o := .cells #[.int .u64 t300, .int .u64 t301, .int .i64 t302] 28 (0, 0)) (xK BK303.out) hb)
                          have n4_ := Aside0.mk (blk_below (g := gb307) (o := .cells #[.int .u64 t304, .int .u64 t305, .int .i64 t306] 28 (0, 0)) (xK BK307.out) hb)
                          have n5_ := Aside0.mk (below_step xG hb)
                          clear BK295
                          clear BK296
                          clear BK297
                          clear BK303
                          clear BK307
                          clear HB
                          have BK295 := n0_
                          have BK296 := n1_
                          have BK297 := n2_
                          have BK303 := n3_
                          have BK307 := n4_
                          have HB := n5_
                          clear n0_ n1_ n2_ n3_ n4_ n5_
                          (try clear hb)
                          (try clear hb2)
                          (try clear hk)
                          (try clear hi)
                          refine hK.out _ _ ⟨(blk_cell BK307.out 0).trans rfl, (blk_cell BK307.out 1).trans rfl, (blk_cell BK307.out 2).trans rfl, (blk_cell BK303.out 0).trans rfl, (blk_cell BK303.out 1).trans rfl, (blk_cell BK303.out 2).trans rfl⟩ (fun hHeld => ?_)
                          clear hK K
                          refine norm_ (a' := ?_) ?_ ?_
                          rotate_left
                          · show Act.put _ (some 97) _ = _
                            simp only [Act.put, List.setIfInBounds_toArray, List.set_cons_zero, List.set_cons_succ, i64_w, i32_w]
                            rfl
                          refine one_ (i := 6) (N := some 98) #[true, true, true, true, true, true, true, false, false, false, false, false, false, false, false, false, false, false, false] rfl rfl (one_of HT_.out (by kernel_rfl)) (by decide) (fun K hK => ?_)
                          refine goes_ Tryd.func19 (by kernel_rfl) rfl #[.agg #[.int .u64 t330, .int .u64 t331], .agg #[.int .u64 t332, .int .u64 t333]] (by rfl) rfl rfl xM ?_
                          with_reducible refine (turnpikeref1_Cmp.calls kj91 t330 t331 t332 t333 t334 _ A137.out).mono ?_
                          rintro e w142 ⟨rfl, hb⟩
                          refine ⟨_, rfl, ?_⟩
                          have n0_ := Aside0.mk (blk_below (g := gb295) (o := .cells #[.int .u64 a1_0, .int .u64 a1_1] 24 (0, 0)) (xK BK295.out) hb)
                          have n1_ := Aside0.mk (blk_below (g := gb296) (o := .cells #[.int .u64 a3_0, .int .u64 a3_1] 24 (0, 0)) (xK BK296.out) hb)
                          have n2_ := Aside0.mk (blk_below (g := gb297) (o := .cells #[.int .u64 t308, .int .u64 t309] 24 (0, 0)) (xK BK297.out) hb)
                          have n3_ := Aside0.mk (blk_below (g := gb303) (o := .cells #[.int .u64 t300, .int .u64 t301, .int .i64 t302] 28 (0, 0)) (xK BK303.out) hb)
                          have n4_ := Aside0.mk (blk_below (g := gb307) (o := .cells #[.int .u64 t304, .int .u64 t305, .int .i64 t306] 28 (0, 0)) (xK BK307.out) hb)
                          have n5_ := Aside0.mk (below_step xG hb)
                          clear BK295
                          clear BK296
                          clear BK297
                          clear BK303
                          clear BK307
                          clear HB
                          have BK295 := n0_
                          have BK296 := n1_
                          have BK297 := n2_
                          have BK303 := n3_
                          have BK307 := n4_
                          have HB := n5_
                          clear n0_ n1_ n2_ n3_ n4_ n5_
                          (try clear hb)
                          (try clear hb2)
                          (try clear hk)
                          (try clear hi)
                          refine hK.out _ _ ⟨(blk_cell BK307.out 0).trans rfl, (blk_cell BK307.out 1).trans rfl, (blk_cell BK307.out 2).trans rfl, (blk_cell BK303.out 0).trans rfl, (blk_cell BK303.out 1).trans rfl, (blk_cell BK303.out 2).trans rfl⟩ (fun hHeld => ?_)
                          clear hK K
                          refine norm_ (a' := ?_) ?_ ?_
                          rotate_left
                          · show Act.put _ (some 98) _ = _
                            simp only [Act.put, List.setIfInBounds_toArray, List.set_cons_zero, List.set_cons_succ, i64_w, i32_w]
                            rfl
                          refine pure_ (i := 7) (N := some 99) (v := ?_) (a' := ?_) #[true, true, true, true, true, true, true, true, false, false, false, false, false, false, false, false, false, false, false] rfl rfl (any_of HT_.out (by kernel_rfl)) (fun _ _ _ h => h) (Or.inl ⟨by rfl, ?_⟩) ?_ ?_
                          rotate_left
                          · intro w'
                            go_simp
                            with_reducible rfl
                          rotate_left
                          · simp only [Act.put, List.setIfInBounds_toArray, List.set_cons_zero, List.set_cons_succ, i64_w, i32_w]
                            rfl
                          refine pure_ (i := 8) (N := some 100) (v := ?_) (a' := ?_) #[true, true, true, true, true, true, true, true, true, false, false, false, false, false, false, false, false, false, false] rfl rfl (any_of HT_.out (by kernel_rfl)) (fun _ _ _ h => h) (Or.inl ⟨by rfl, ?_⟩) ?_ ?_
                          rotate_left
                          · intro w'
                            go_simp
                            with_reducible rfl
                          rotate_left
                          · simp only [Act.put, List.setIfInBounds_toArray, List.set_cons_zero, List.set_cons_succ, i64_w, i32_w]
                            rfl
                          refine pure_ (i := 9) (N := some 101) (v := undef) (a' := ?_) #[true, true, true, true, true, true, true, true, true, true, false, false, false, false, false, false, false, false, false] rfl rfl (any_of HT_.out (by kernel_rfl)) (fun _ _ _ h => h) (Or.inr ⟨by rfl, rfl⟩) ?_ ?_
                          rotate_left
                          · simp only [Act.put, List.setIfInBounds_toArray, List.set_cons_zero, List.set_cons_succ, i64_w, i32_w]
                            rfl
                          refine pure_ (i := 10) (N := some 102) (v := undef) (a' := ?_) #[true, true, true, true, true, true, true, true, true, true, true, false, false, false, false, false, false, false, false] rfl rfl (any_of HT_.out (by kernel_rfl)) (fun _ _ _ h => h) (Or.inr ⟨by rfl, rfl⟩) ?_ ?_
                          rotate_left
                          · simp only [Act.put, List.setIfInBounds_toArray, List.set_cons_zero, List.set_cons_succ, i64_w, i32_w]
                            rfl
                          refine pure_ (i := 11) (N := some 103) (v := undef) (a' := ?_) #[true, true, true, true, true, true, true, true, true, true, true, true, false, false, false, false, false, false, false] rfl rfl (any_of HT_.out (by kernel_rfl)) (fun _ _ _ h => h) (Or.inr ⟨by rfl, rfl⟩) ?_ ?_
                          rotate_left
                          · simp only [Act.put, List.setIfInBounds_toArray, List.set_cons_zero, List.set_cons_succ, i64_w, i32_w]
                            rfl
                          refine pure_ (i := 12) (N := some 104) (v := undef) (a' := ?_) #[true, true, true, true, true, true, true, true, true, true, true, true, true, false, false, false, false, false, false] rfl rfl (any_of HT_.out (by kernel_rfl)) (fun _ _ _ h => h) (Or.inr ⟨by rfl, rfl⟩) ?_ ?_
                          rotate_left
                          · simp only [Act.put, List.setIfInBounds_toArray, List.set_cons_zero, List.set_cons_succ, i64_w, i32_w]
                            rfl
                          refine pure_ (i := 13) (N := some 105) (v := undef) (a' := ?_) #[true, true, true, true, true, true, true, true, true, true, true, true, true, true, false, false, false, false, false] rfl rfl (any_of HT_.out (by kernel_rfl)) (fun _ _ _ h => h) (Or.inr ⟨by rfl, rfl⟩) ?_ ?_
                          rotate_left
                          · simp only [Act.put, List.setIfInBounds_toArray, List.set_cons_zero, List.set_cons_succ, i64_w, i32_w]
                            rfl
                          refine pure_ (i := 14) (N := some 106) (v := undef) (a' := ?_) #[true, true, true, true, true, true, true, true, true, true, true, true, true, true, true, false, false, false, false] rfl rfl (any_of HT_.out (by kernel_rfl)) (fun _ _ _ h => h) (Or.inr ⟨by rfl, rfl⟩) ?_ ?_
                          rotate_left
                          · simp only [Act.put, List.setIfInBounds_toArray, List.set_cons_zero, List.set_cons_succ, i64_w, i32_w]
                            rfl
                          refine pure_ (i := 15) (N := some 107) (v := undef) (a' := ?_) #[true, true, true, true, true, true, true, true, true, true, true, true, true, true, true, true, false, false, false] rfl rfl (any_of HT_.out (by kernel_rfl)) (fun _ _ _ h => h) (Or.inr ⟨by rfl, rfl⟩) ?_ ?_
                          rotate_left
                          · simp only [Act.put, List.setIfInBounds_toArray, List.set_cons_zero, List.set_cons_succ, i64_w, i32_w]
                            rfl
                          refine pure_ (i := 16) (N := some 108) (v := undef) (a' := ?_) #[true, true, true, true, true, true, true, true, true, true, true, true, true, true, true, true, true, false, false] rfl rfl (any_of HT_.out (by kernel_rfl)) (fun _ _ _ h => h) (Or.inr ⟨by rfl, rfl⟩) ?_ ?_
                          rotate_left
                          · simp only [Act.put, List.setIfInBounds_toArray, List.set_cons_zero, List.set_cons_succ, i64_w, i32_w]
                            rfl
                          refine pure_ (i := 17) (N := some 109) (v := ?_) (a' := ?_) #[true, true, true, true, true, true, true, true, true, true, true, true, true, true, true, true, true, true, false] rfl rfl (any_of HT_.out (by kernel_rfl)) (fun _ _ _ h => h) (Or.inl ⟨by rfl, ?_⟩) ?_ ?_
                          rotate_left
                          · intro w'
                            go_simp
                            with_reducible rfl
                          rotate_left
                          · simp only [Act.put, List.setIfInBounds_toArray, List.set_cons_zero, List.set_cons_succ, i64_w, i32_w]
                            rfl
                          refine pure_ (i := 18) (N := some 110) (v := ?_) (a' := ?_) #[true, true, true, true, true, true, true, true, true, true, true, true, true, true, true, true, true, true, true] rfl rfl (any_of HT_.out (by kernel_rfl)) (fun _ _ _ h => h) (Or.inl ⟨by rfl, ?_⟩) ?_ ?_
                          rotate_left
                          · intro w'
                            go_simp
                            with_reducible rfl
                          rotate_left
                          · simp only [Act.put, List.setIfInBounds_toArray, List.set_cons_zero, List.set_cons_succ, i64_w, i32_w]
                            rfl
                          refine done_ (done_of HT_.out (by kernel_rfl)) ?_
                          try go_wp2
                          go_meet
                          case rel => exact ⟨_, (true), xV, H', ⟨by have := HJ12.out; have := HJ59.out; have := HJ91.out; first | omega | exact Nat.le_refl _⟩, ⟨xK BK295.out⟩, ⟨xK BK296.out⟩, ⟨xK BK297.out⟩, ⟨xK BK303.out⟩, ⟨xK BK307.out⟩, ⟨xG⟩⟩
                        · rw [if_neg c138] at H
                          have c138b0 : decide (0 < t334) = false := decide_eq_false c138
                          clear c138
                          (first | rw [c138b0] | (simp only [i64_w, i32_w]; rw [c138b0]) | skip)
                          replace H := Option.bind_eq_some_iff.mp H
                          obtain ⟨⟨t335, t336⟩, A1430, H⟩ := H
                          replace H : ((prefix_Last.f t299 t304 t305 t306).bind fun bt337 => ((turnpikeref1_Cmp.f kj91 t335 t336 bt337.1 bt337.2).bind fun t339 => (turnpikelaw3_PrefixApart.j3 kj91 true (decide (t339 > 0)) t308 t309 t300 t301 t302 t304 t305 t306))) = some r := H
                          have A143 := Aside0.mk A1430
                          clear A1430
                          replace H := Option.bind_eq_some_iff.mp H
                          obtain ⟨⟨t337, t338⟩, A1440, H⟩ := H
                          replace H : ((turnpikeref1_Cmp.f kj91 t335 t336 t337 t338).bind fun t339 => (turnpikelaw3_PrefixApart.j3 kj91 true (decide (t339 > 0)) t308 t309 t300 t301 t302 t304 t305 t306)) = some r := H
                          have A144 := Aside0.mk A1440
                          clear A1440
                          replace H := Option.bind_eq_some_iff.mp H
                          obtain ⟨t339, A1450, H⟩ := H
                          replace H : (turnpikelaw3_PrefixApart.j3 kj91 true (decide (t339 > 0)) t308 t309 t300 t301 t302 t304 t305 t306) = some r := H
                          have A145 := Aside0.mk A1450
                          clear A1450
                          have H' := Aside0.mk H
                          clear H
                          try go_wp2
                          have n0_ := Aside0.mk (blk_drew BK295.out)
                          have n1_ := Aside0.mk (blk_drew BK296.out)
                          have n2_ := Aside0.mk (blk_drew BK297.out)
                          have n3_ := Aside0.mk (blk_drew BK303.out)
                          have n4_ := Aside0.mk (blk_drew BK307.out)
                          have n5_ := Aside0.mk (below_drew1 HB.out)
                          clear BK295
                          clear BK296
                          clear BK297
                          clear BK303
                          clear BK307
                          clear HB
                          have BK295 := n0_
                          have BK296 := n1_
                          have BK297 := n2_
                          have BK303 := n3_
                          have BK307 := n4_
                          have HB := n5_
                          clear n0_ n1_ n2_ n3_ n4_ n5_
                          refine start_ (n := 19) (S := fun w' => w'.cell? ⟨gb307, 0, none⟩ = some (.int .u64 t304) ∧ w'.cell? ⟨gb307, 1, none⟩ = some (.int .u64 t305) ∧ w'.cell? ⟨gb307, 2, none⟩ = some (.int .i64 t306) ∧ w'.cell? ⟨gb303, 0, none⟩ = some (.int .u64 t300) ∧ w'.cell? ⟨gb303, 1, none⟩ = some (.int .u64 t301) ∧ w'.cell? ⟨gb303, 2, none⟩ = some (.int .i64 t302)) (ds := []) #[false, false, false, false, false, false, false, false, false, false, false, false, false, false, false, false, false, false, false] (by kernel_rfl) rfl rfl ⟨(blk_cell BK307.out 0).trans rfl, (blk_cell BK307.out 1).trans rfl, (blk_cell BK307.out 2).trans rfl, (blk_cell BK303.out 0).trans rfl, (blk_cell BK303.out 1).trans rfl, (blk_cell BK303.out 2).trans rfl⟩ (fun hHeld => ?_); refine with_tabW turnpikelaw3_PrefixApart.tab14 turnpikelaw3_PrefixApart.bits14 (fun HT_ HW_ => ?_)
                          generalize wc.drew = w146 at BK295 BK296 BK297 BK303 BK307 HB hHeld ⊢
                          refine pure_ (i := 0) (N := some 92) (v := ?_) (a' := ?_) #[true, false, false, false, false, false, false, false, false, false, false, false, false, false, false, false, false, false, false] rfl rfl (any_of HT_.out (by kernel_rfl)) (fun _ _ _ h => h) (Or.inl ⟨by rfl, ?_⟩) ?_ ?_
                          rotate_left
                          · intro w'
                            go_simp
                            with_reducible rfl
                          rotate_left
                          · simp only [Act.put, List.setIfInBounds_toArray, List.set_cons_zero, List.set_cons_succ, i64_w, i32_w]
                            rfl
                          refine pure_ (i := 1) (N := some 93) (v := ?_) (a' := ?_) #[true, true, false, false, false, false, false, false, false, false, false, false, false, false, false, false, false, false, false] rfl rfl (any_of HT_.out (by kernel_rfl)) (fun _ _ _ h => h) (Or.inl ⟨by rfl, ?_⟩) ?_ ?_
                          rotate_left
                          · intro w'
                            go_simp
                            with_reducible rfl
                          rotate_left
                          · simp only [Act.put, List.setIfInBounds_toArray, List.set_cons_zero, List.set_cons_succ, i64_w, i32_w]
                            rfl
                          refine take_ (i := 2) (N := some 94) (v := ?_) (a' := ?_) #[true, true, true, false, false, false, false, false, false, false, false, false, false, false, false, false, false, false, false] rfl rfl (take_ofW HT_.out HW_.out (by kernel_rfl)) (fun _ _ _ h => h) (Or.inl ⟨by rfl, ?_⟩) hHeld ?_ ?_
                          rotate_left
                          · rintro w' ⟨s0, s1, s2, s3, s4, s5⟩
                            go_simp
                            with_reducible rfl
                          rotate_left
                          · simp only [Act.put, List.setIfInBounds_toArray, List.set_cons_zero, List.set_cons_succ, i64_w, i32_w]
                            rfl
                          refine take_ (i := 4) (N := some 96) (v := ?_) (a' := ?_) #[true, true, true, false, true, false, false, false, false, false, false, false, false, false, false, false, false, false, false] rfl rfl (take_ofW HT_.out HW_.out (by kernel_rfl)) (fun _ _ _ h => h) (Or.inl ⟨by rfl, ?_⟩) hHeld ?_ ?_
                          rotate_left
                          · rintro w' ⟨s0, s1, s2, s3, s4, s5⟩
                            go_simp
                            with_reducible rfl
                          rotate_left
                          · simp only [Act.put, List.setIfInBounds_toArray, List.set_cons_zero, List.set_cons_succ, i64_w, i32_w]
                            rfl
                          refine one_ (i := 3) (N := some 95) #[true, true, true, true, true, false, false, false, false, false, false, false, false, false, false, false, false, false, false] rfl rfl (one_of HT_.out (by kernel_rfl)) (by decide) (fun K hK => ?_)
                          refine goes_ Tryd.func20 (by kernel_rfl) rfl #[.agg #[.int .u64 t304, .int .u64 t305, .int .i64 t306]] (by rfl) rfl rfl xM ?_
                          with_reducible refine (prefix_First.calls t304 t305 t306 t330 t331 _ A135.out).mono ?_
                          rintro e w147 ⟨rfl, hb⟩
                          refine ⟨_, rfl, ?_⟩
                          have n0_ := Aside0.mk (blk_below (g := gb295) (o := .cells #[.int .u64 a1_0, .int .u64 a1_1] 24 (0, 0)) (xK BK295.out) hb)
                          have n1_ := Aside0.mk (blk_below (g := gb296) (o := .cells #[.int .u64 a3_0, .int .u64 a3_1] 24 (0, 0)) (xK BK296.out) hb)
                          have n2_ := Aside0.mk (blk_below (g := gb297) (o := .cells #[.int .u64 t308, .int .u64 t309] 24 (0, 0)) (xK BK297.out) hb)
                          have n3_ := Aside0.mk (blk_below (g := gb303) (o := .cells #[.int .u64 t300, .int .u64 t301, .int .i64 t302] 28 (0, 0)) (xK BK303.out) hb)
                          have n4_ := Aside0.mk (blk_below (g := gb307) (o := .cells #[.int .u64 t304, .int .u64 t305, .int .i64 t306] 28 (0, 0)) (xK BK307.out) hb)
                          have n5_ := Aside0.mk (below_step xG hb)
                          clear BK295
                          clear BK296
                          clear BK297
                          clear BK303
                          clear BK307
                          clear HB
                          have BK295 := n0_
                          have BK296 := n1_
                          have BK297 := n2_
                          have BK303 := n3_
                          have BK307 := n4_
                          have HB := n5_
                          clear n0_ n1_ n2_ n3_ n4_ n5_
                          (try clear hb)
                          (try clear hb2)
                          (try clear hk)
                          (try clear hi)
                          refine hK.out _ _ ⟨(blk_cell BK307.out 0).trans rfl, (blk_cell BK307.out 1).trans rfl, (blk_cell BK307.out 2).trans rfl, (blk_cell BK303.out 0).trans rfl, (blk_cell BK303.out 1).trans rfl, (blk_cell BK303.out 2).trans rfl⟩ (fun hHeld => ?_)
                          clear hK K
                          refine norm_ (a' := ?_) ?_ ?_
                          rotate_left
                          · show Act.put _ (some 95) _ = _
                            simp only [Act.put, List.setIfInBounds_toArray, List.set_cons_zero, List.set_cons_succ, i64_w, i32_w]
                            rfl
                          refine one_ (i := 5) (N := some 97) #[true, true, true, true, true, true, false, false, false, false, false, false, false, false, false, false, false, false, false] rfl rfl (one_of HT_.out (by kernel_rfl)) (by decide) (fun K hK => ?_)
                          refine goes_ Tryd.func20 (by kernel_rfl) rfl #[.agg #[.int .u64 t300, .int .u64 t301, .int .i64 t302]] (by rfl) rfl rfl xM ?_
                          with_reducible refine (prefix_First.calls t300 t301 t302 t332 t333 _ A136.out).mono ?_
                          rintro e w148 ⟨rfl, hb⟩
                          refine ⟨_, rfl, ?_⟩
                          have n0_ := Aside0.mk (blk_below (g := gb295) (o := .cells #[.int .u64 a1_0, .int .u64 a1_1] 24 (0, 0)) (xK BK295.out) hb)
                          have n1_ := Aside0.mk (blk_below (g := gb296) (o := .cells #[.int .u64 a3_0, .int .u64 a3_1] 24 (0, 0)) (xK BK296.out) hb)
                          have n2_ := Aside0.mk (blk_below (g := gb297) (o := .cells #[.int .u64 t308, .int .u64 t309] 24 (0, 0)) (xK BK297.out) hb)
                          have n3_ := Aside0.mk (blk_below (g := gb303) (o := .cells #[.int .u64 t300, .int .u64 t301, .int .i64 t302] 28 (0, 0)) (xK BK303.out) hb)
                          have n4_ := Aside0.mk (blk_below (g := gb307) (o := .cells #[.int .u64 t304, .int .u64 t305, .int .i64 t306] 28 (0, 0)) (xK BK307.out) hb)
                          have n5_ := Aside0.mk (below_step xG hb)
                          clear BK295
                          clear BK296
                          clear BK297
                          clear BK303
                          clear BK307
                          clear HB
                          have BK295 := n0_
                          have BK296 := n1_
                          have BK297 := n2_
                          have BK303 := n3_
                          have BK307 := n4_
                          have HB := n5_
                          clear n0_ n1_ n2_ n3_ n4_ n5_
                          (try clear hb)
                          (try clear hb2)
                          (try clear hk)
                          (try clear hi)
                          refine hK.out _ _ ⟨(blk_cell BK307.out 0).trans rfl, (blk_cell BK307.out 1).trans rfl, (blk_cell BK307.out 2).trans rfl, (blk_cell BK303.out 0).trans rfl, (blk_cell BK303.out 1).trans rfl, (blk_cell BK303.out 2).trans rfl⟩ (fun hHeld => ?_)
                          clear hK K
                          refine norm_ (a' := ?_) ?_ ?_
                          rotate_left
                          · show Act.put _ (some 97) _ = _
                            simp only [Act.put, List.setIfInBounds_toArray, List.set_cons_zero, List.set_cons_succ, i64_w, i32_w]
                            rfl
                          refine one_ (i := 6) (N := some 98) #[true, true, true, true, true, true, true, false, false, false, false, false, false, false, false, false, false, false, false] rfl rfl (one_of HT_.out (by kernel_rfl)) (by decide) (fun K hK => ?_)
                          refine goes_ Tryd.func19 (by kernel_rfl) rfl #[.agg #[.int .u64 t330, .int .u64 t331], .agg #[.int .u64 t332, .int .u64 t333]] (by rfl) rfl rfl xM ?_
                          with_reducible refine (turnpikeref1_Cmp.calls kj91 t330 t331 t332 t333 t334 _ A137.out).mono ?_
                          rintro e w149 ⟨rfl, hb⟩
                          refine ⟨_, rfl, ?_⟩
                          have n0_ := Aside0.mk (blk_below (g := gb295) (o := .cells #[.int .u64 a1_0, .int .u64 a1_1] 24 (0, 0)) (xK BK295.out) hb)
                          have n1_ := Aside0.mk (blk_below (g := gb296) (o := .cells #[.int .u64 a3_0, .int .u64 a3_1] 24 (0, 0)) (xK BK296.out) hb)
                          have n2_ := Aside0.mk (blk_below (g := gb297) (o := .cells #[.int .u64 t308, .int .u64 t309] 24 (0, 0)) (xK BK297.out) hb)
                          have n3_ := Aside0.mk (blk_below (g := gb303) (o := .cells #[.int .u64 t300, .int .u64 t301, .int .i64 t302] 28 (0, 0)) (xK BK303.out) hb)
                          have n4_ := Aside0.mk (blk_below (g := gb307) (o := .cells #[.int .u64 t304, .int .u64 t305, .int .i64 t306] 28 (0, 0)) (xK BK307.out) hb)
                          have n5_ := Aside0.mk (below_step xG hb)
                          clear BK295
                          clear BK296
                          clear BK297
                          clear BK303
                          clear BK307
                          clear HB
                          have BK295 := n0_
                          have BK296 := n1_
                          have BK297 := n2_
                          have BK303 := n3_
                          have BK307 := n4_
                          have HB := n5_
                          clear n0_ n1_ n2_ n3_ n4_ n5_
                          (try clear hb)
                          (try clear hb2)
                          (try clear hk)
                          (try clear hi)
                          refine hK.out _ _ ⟨(blk_cell BK307.out 0).trans rfl, (blk_cell BK307.out 1).trans rfl, (blk_cell BK307.out 2).trans rfl, (blk_cell BK303.out 0).trans rfl, (blk_cell BK303.out 1).trans rfl, (blk_cell BK303.out 2).trans rfl⟩ (fun hHeld => ?_)
                          clear hK K
                          refine norm_ (a' := ?_) ?_ ?_
                          rotate_left
                          · show Act.put _ (some 98) _ = _
                            simp only [Act.put, List.setIfInBounds_toArray, List.set_cons_zero, List.set_cons_succ, i64_w, i32_w]
                            rfl
                          refine pure_ (i := 7) (N := some 99) (v := ?_) (a' := ?_) #[true, true, true, true, true, true, true, true, false, false, false, false, false, false, false, false, false, false, false] rfl rfl (any_of HT_.out (by kernel_rfl)) (fun _ _ _ h => h) (Or.inl ⟨by rfl, ?_⟩) ?_ ?_
                          rotate_left
                          · intro w'
                            go_simp
                            with_reducible rfl
                          rotate_left
                          · simp only [Act.put, List.setIfInBounds_toArray, List.set_cons_zero, List.set_cons_succ, i64_w, i32_w]
                            rfl
                          refine pure_ (i := 8) (N := some 100) (v := ?_) (a' := ?_) #[true, true, true, true, true, true, true, true, true, false, false, false, false, false, false, false, false, false, false] rfl rfl (any_of HT_.out (by kernel_rfl)) (fun _ _ _ h => h) (Or.inl ⟨by rfl, ?_⟩) ?_ ?_
                          rotate_left
                          · intro w'
                            go_simp
                            with_reducible rfl
                          rotate_left
                          · simp only [Act.put, List.setIfInBounds_toArray, List.set_cons_zero, List.set_cons_succ, i64_w, i32_w]
                            rfl
                          refine pure_ (i := 9) (N := some 101) (v := ?_) (a' := ?_) #[true, true, true, true, true, true, true, true, true, true, false, false, false, false, false, false, false, false, false] rfl rfl (any_of HT_.out (by kernel_rfl)) (fun _ _ _ h => h) (Or.inl ⟨by rfl, ?_⟩) ?_ ?_
                          rotate_left
                          · intro w'
                            go_simp
                            with_reducible rfl
                          rotate_left
                          · simp only [Act.put, List.setIfInBounds_toArray, List.set_cons_zero, List.set_cons_succ, i64_w, i32_w]
                            rfl
                          refine pure_ (i := 12) (N := some 104) (v := ?_) (a' := ?_) #[true, true, true, true, true, true, true, true, true, true, false, false, true, false, false, false, false, false, false] rfl rfl (any_of HT_.out (by kernel_rfl)) (fun _ _ _ h => h) (Or.inl ⟨by rfl, ?_⟩) ?_ ?_
                          rotate_left
                          · intro w'
                            go_simp
                            with_reducible rfl
                          rotate_left
                          · simp only [Act.put, List.setIfInBounds_toArray, List.set_cons_zero, List.set_cons_succ, i64_w, i32_w]
                            rfl
                          refine take_ (i := 10) (N := some 102) (v := ?_) (a' := ?_) #[true, true, true, true, true, true, true, true, true, true, true, false, true, false, false, false, false, false, false] rfl rfl (take_ofW HT_.out HW_.out (by kernel_rfl)) (fun _ _ _ h => h) (Or.inl ⟨by rfl, ?_⟩) hHeld ?_ ?_
                          rotate_left
                          · rintro w' ⟨s0, s1, s2, s3, s4, s5⟩
                            go_simp
                            with_reducible rfl
                          rotate_left
                          · simp only [Act.put, List.setIfInBounds_toArray, List.set_cons_zero, List.set_cons_succ, i64_w, i32_w]
                            rfl
                          refine take_ (i := 13) (N := some 105) (v := ?_) (a' := ?_) #[true, true, true, true, true, true, true, true, true, true, true, false, true, true, false, false, false, false, false] rfl rfl (take_ofW HT_.out HW_.out (by kernel_rfl)) (fun _ _ _ h => h) (Or.inl ⟨by rfl, ?_⟩) hHeld ?_ ?_
                          rotate_left
                          · rintro w' ⟨s0, s1, s2, s3, s4, s5⟩
                            go_simp
                            with_reducible rfl
                          rotate_left
                          · simp only [Act.put, List.setIfInBounds_toArray, List.set_cons_zero, List.set_cons_succ, i64_w, i32_w]
                            rfl
                          refine one_ (i := 11) (N := some 103) #[true, true, true, true, true, true, true, true, true, true, true, true, true, true, false, false, false, false, false] rfl rfl (one_of HT_.out (by kernel_rfl)) (by decide) (fun K hK => ?_)
                          refine goes_ Tryd.func21 (by kernel_rfl) rfl #[.int .i64 t299, .agg #[.int .u64 t300, .int .u64 t301, .int .i64 t302]] (by rfl) rfl rfl xM ?_
                          with_reducible refine (prefix_Last.calls t299 t300 t301 t302 t335 t336 _ A143.out).mono ?_
                          rintro e w150 ⟨rfl, hb⟩
                          refine ⟨_, rfl, ?_⟩
                          have n0_ := Aside0.mk (blk_below (g := gb295) (o := .cells #[.int .u64 a1_0, .int .u64 a1_1] 24 (0, 0)) (xK BK295.out) hb)
                          have n1_ := Aside0.mk (blk_below (g := gb296) (o := .cells #[.int .u64 a3_0, .int .u64 a3_1] 24 (0, 0)) (xK BK296.out) hb)
                          have n2_ := Aside0.mk (blk_below (g := gb297) (o := .cells #[.int .u64 t308, .int .u64 t309] 24 (0, 0)) (xK BK297.out) hb)
                          have n3_ := Aside0.mk (blk_below (g := gb303) (o := .cells #[.int .u64 t300, .int .u64 t301, .int .i64 t302] 28 (0, 0)) (xK BK303.out) hb)
                          have n4_ := Aside0.mk (blk_below (g := gb307) (o := .cells #[.int .u64 t304, .int .u64 t305, .int .i64 t306] 28 (0, 0)) (xK BK307.out) hb)
                          have n5_ := Aside0.mk (below_step xG hb)
                          clear BK295
                          clear BK296
                          clear BK297
                          clear BK303
                          clear BK307
                          clear HB
                          have BK295 := n0_
                          have BK296 := n1_
                          have BK297 := n2_
                          have BK303 := n3_
                          have BK307 := n4_
                          have HB := n5_
                          clear n0_ n1_ n2_ n3_ n4_ n5_
                          (try clear hb)
                          (try clear hb2)
                          (try clear hk)
                          (try clear hi)
                          refine hK.out _ _ ⟨(blk_cell BK307.out 0).trans rfl, (blk_cell BK307.out 1).trans rfl, (blk_cell BK307.out 2).trans rfl, (blk_cell BK303.out 0).trans rfl, (blk_cell BK303.out 1).trans rfl, (blk_cell BK303.out 2).trans rfl⟩ (fun hHeld => ?_)
                          clear hK K
                          refine norm_ (a' := ?_) ?_ ?_
                          rotate_left
                          · show Act.put _ (some 103) _ = _
                            simp only [Act.put, List.setIfInBounds_toArray, List.set_cons_zero, List.set_cons_succ, i64_w, i32_w]
                            rfl
                          refine one_ (i := 14) (N := some 106) #[true, true, true, true, true, true, true, true, true, true, true, true, true, true, true, false, false, false, false] rfl rfl (one_of HT_.out (by kernel_rfl)) (by decide) (fun K hK => ?_)
                          refine goes_ Tryd.func21 (by kernel_rfl) rfl #[.int .i64 t299, .agg #[.int .u64 t304, .int .u64 t305, .int .i64 t306]] (by rfl) rfl rfl xM ?_
                          with_reducible refine (prefix_Last.calls t299 t304 t305 t306 t337 t338 _ A144.out).mono ?_
                          rintro e w151 ⟨rfl, hb⟩
                          refine ⟨_, rfl, ?_⟩
                          have n0_ := Aside0.mk (blk_below (g := gb295) (o := .cells #[.int .u64 a1_0, .int .u64 a1_1] 24 (0, 0)) (xK BK295.out) hb)
                          have n1_ := Aside0.mk (blk_below (g := gb296) (o := .cells #[.int .u64 a3_0, .int .u64 a3_1] 24 (0, 0)) (xK BK296.out) hb)
                          have n2_ := Aside0.mk (blk_below (g := gb297) (o := .cells #[.int .u64 t308, .int .u64 t309] 24 (0, 0)) (xK BK297.out) hb)
                          have n3_ := Aside0.mk (blk_below (g := gb303) (o := .cells #[.int .u64 t300, .int .u64 t301, .int .i64 t302] 28 (0, 0)) (xK BK303.out) hb)
                          have n4_ := Aside0.mk (blk_below (g := gb307) (o := .cells #[.int .u64 t304, .int .u64 t305, .int .i64 t306] 28 (0, 0)) (xK BK307.out) hb)
                          have n5_ := Aside0.mk (below_step xG hb)
                          clear BK295
                          clear BK296
                          clear BK297
                          clear BK303
                          clear BK307
                          clear HB
                          have BK295 := n0_
                          have BK296 := n1_
                          have BK297 := n2_
                          have BK303 := n3_
                          have BK307 := n4_
                          have HB := n5_
                          clear n0_ n1_ n2_ n3_ n4_ n5_
                          (try clear hb)
                          (try clear hb2)
                          (try clear hk)
                          (try clear hi)
                          refine hK.out _ _ ⟨(blk_cell BK307.out 0).trans rfl, (blk_cell BK307.out 1).trans rfl, (blk_cell BK307.out 2).trans rfl, (blk_cell BK303.out 0).trans rfl, (blk_cell BK303.out 1).trans rfl, (blk_cell BK303.out 2).trans rfl⟩ (fun hHeld => ?_)
                          clear hK K
                          refine norm_ (a' := ?_) ?_ ?_
                          rotate_left
                          · show Act.put _ (some 106) _ = _
                            simp only [Act.put, List.setIfInBounds_toArray, List.set_cons_zero, List.set_cons_succ, i64_w, i32_w]
                            rfl
                          refine one_ (i := 15) (N := some 107) #[true, true, true, true, true, true, true, true, true, true, true, true, true, true, true, true, false, false, false] rfl rfl (one_of HT_.out (by kernel_rfl)) (by decide) (fun K hK => ?_)
                          refine goes_ Tryd.func19 (by kernel_rfl) rfl #[.agg #[.int .u64 t335, .int .u64 t336], .agg #[.int .u64 t337, .int .u64 t338]] (by rfl) rfl rfl xM ?_
                          with_reducible refine (turnpikeref1_Cmp.calls kj91 t335 t336 t337 t338 t339 _ A145.out).mono ?_
                          rintro e w152 ⟨rfl, hb⟩
                          refine ⟨_, rfl, ?_⟩
                          have n0_ := Aside0.mk (blk_below (g := gb295) (o := .cells #[.int .u64 a1_0, .int .u64 a1_1] 24 (0, 0)) (xK BK295.out) hb)
                          have n1_ := Aside0.mk (blk_below (g := gb296) (o := .cells #[.int .u64 a3_0, .int .u64 a3_1] 24 (0, 0)) (xK BK296.out) hb)
                          have n2_ := Aside0.mk (blk_below (g := gb297) (o := .cells #[.int .u64 t308, .int .u64 t309] 24 (0, 0)) (xK BK297.out) hb)
                          have n3_ := Aside0.mk (blk_below (g := gb303) (o := .cells #[.int .u64 t300, .int .u64 t301, .int .i64 t302] 28 (0, 0)) (xK BK303.out) hb)
                          have n4_ := Aside0.mk (blk_below (g := gb307) (o := .cells #[.int .u64 t304, .int .u64 t305, .int .i64 t306] 28 (0, 0)) (xK BK307.out) hb)
                          have n5_ := Aside0.mk (below_step xG hb)
                          clear BK295
                          clear BK296
                          clear BK297
                          clear BK303
                          clear BK307
                          clear HB
                          have BK295 := n0_
                          have BK296 := n1_
                          have BK297 := n2_
                          have BK303 := n3_
                          have BK307 := n4_
                          have HB := n5_
                          clear n0_ n1_ n2_ n3_ n4_ n5_
                          (try clear hb)
                          (try clear hb2)
                          (try clear hk)
                          (try clear hi)
                          refine hK.out _ _ ⟨(blk_cell BK307.out 0).trans rfl, (blk_cell BK307.out 1).trans rfl, (blk_cell BK307.out 2).trans rfl, (blk_cell BK303.out 0).trans rfl, (blk_cell BK303.out 1).trans rfl, (blk_cell BK303.out 2).trans rfl⟩ (fun hHeld => ?_)
                          clear hK K
                          refine norm_ (a' := ?_) ?_ ?_
                          rotate_left
                          · show Act.put _ (some 107) _ = _
                            simp only [Act.put, List.setIfInBounds_toArray, List.set_cons_zero, List.set_cons_succ, i64_w, i32_w]
                            rfl
                          refine pure_ (i := 16) (N := some 108) (v := ?_) (a' := ?_) #[true, true, true, true, true, true, true, true, true, true, true, true, true, true, true, true, true, false, false] rfl rfl (any_of HT_.out (by kernel_rfl)) (fun _ _ _ h => h) (Or.inl ⟨by rfl, ?_⟩) ?_ ?_
                          rotate_left
                          · intro w'
                            go_simp
                            with_reducible rfl
                          rotate_left
                          · simp only [Act.put, List.setIfInBounds_toArray, List.set_cons_zero, List.set_cons_succ, i64_w, i32_w]
                            rfl
                          refine pure_ (i := 17) (N := some 109) (v := ?_) (a' := ?_) #[true, true, true, true, true, true, true, true, true, true, true, true, true, true, true, true, true, true, false] rfl rfl (any_of HT_.out (by kernel_rfl)) (fun _ _ _ h => h) (Or.inl ⟨by rfl, ?_⟩) ?_ ?_
                          rotate_left
                          · intro w'
                            go_simp
                            with_reducible rfl
                          rotate_left
                          · simp only [Act.put, List.setIfInBounds_toArray, List.set_cons_zero, List.set_cons_succ, i64_w, i32_w]
                            rfl
                          refine pure_ (i := 18) (N := some 110) (v := ?_) (a' := ?_) #[true, true, true, true, true, true, true, true, true, true, true, true, true, true, true, true, true, true, true] rfl rfl (any_of HT_.out (by kernel_rfl)) (fun _ _ _ h => h) (Or.inl ⟨by rfl, ?_⟩) ?_ ?_
                          rotate_left
                          · intro w'
                            go_simp
                            with_reducible rfl
                          rotate_left
                          · simp only [Act.put, List.setIfInBounds_toArray, List.set_cons_zero, List.set_cons_succ, i64_w, i32_w]
                            rfl
                          refine done_ (done_of HT_.out (by kernel_rfl)) ?_
                          try go_wp2
                          go_meet
                          case rel => exact ⟨_, (decide (t339 > 0)), xV, H', ⟨by have := HJ12.out; have := HJ59.out; have := HJ91.out; first | omega | exact Nat.le_refl _⟩, ⟨xK BK295.out⟩, ⟨xK BK296.out⟩, ⟨xK BK297.out⟩, ⟨xK BK303.out⟩, ⟨xK BK307.out⟩, ⟨xG⟩⟩
                      · replace c134 := Bool.eq_false_iff.mpr c134
                        subst c134
                        have H1 : (turnpikelaw3_PrefixApart.j3 kj91 false false t308 t309 t300 t301 t302 t304 t305 t306) = some r := by rw [if_neg (show ¬ (false = true) by decide)] at H; exact H
                        clear H
                        have H := H1
                        clear H1
                        have H' := Aside0.mk H
                        clear H
                        try go_wp2
                        have n0_ := Aside0.mk (blk_drew BK295.out)
                        have n1_ := Aside0.mk (blk_drew BK296.out)
                        have n2_ := Aside0.mk (blk_drew BK297.out)
                        have n3_ := Aside0.mk (blk_drew BK303.out)
                        have n4_ := Aside0.mk (blk_drew BK307.out)
                        have n5_ := Aside0.mk (below_drew1 HB.out)
                        clear BK295
                        clear BK296
                        clear BK297
                        clear BK303
                        clear BK307
                        clear HB
                        have BK295 := n0_
                        have BK296 := n1_
                        have BK297 := n2_
                        have BK303 := n3_
                        have BK307 := n4_
                        have HB := n5_
                        clear n0_ n1_ n2_ n3_ n4_ n5_
                        refine start_ (n := 19) (S := fun w' => True) (ds := []) #[false, false, false, false, false, false, false, false, false, false, false, false, false, false, false, false, false, false, false] (by kernel_rfl) rfl rfl trivial (fun hHeld => ?_); refine with_tabW turnpikelaw3_PrefixApart.tab14 turnpikelaw3_PrefixApart.bits14 (fun HT_ HW_ => ?_)
                        generalize wc.drew = w153 at BK295 BK296 BK297 BK303 BK307 HB hHeld ⊢
                        refine pure_ (i := 0) (N := some 92) (v := ?_) (a' := ?_) #[true, false, false, false, false, false, false, false, false, false, false, false, false, false, false, false, false, false, false] rfl rfl (any_of HT_.out (by kernel_rfl)) (fun _ _ _ h => h) (Or.inl ⟨by rfl, ?_⟩) ?_ ?_
                        rotate_left
                        · intro w'
                          go_simp
                          with_reducible rfl
                        rotate_left
                        · simp only [Act.put, List.setIfInBounds_toArray, List.set_cons_zero, List.set_cons_succ, i64_w, i32_w]
                          rfl
                        refine pure_ (i := 1) (N := some 93) (v := ?_) (a' := ?_) #[true, true, false, false, false, false, false, false, false, false, false, false, false, false, false, false, false, false, false] rfl rfl (any_of HT_.out (by kernel_rfl)) (fun _ _ _ h => h) (Or.inl ⟨by rfl, ?_⟩) ?_ ?_
                        rotate_left
                        · intro w'
                          go_simp
                          with_reducible rfl
                        rotate_left
                        · simp only [Act.put, List.setIfInBounds_toArray, List.set_cons_zero, List.set_cons_succ, i64_w, i32_w]
                          rfl
                        refine pure_ (i := 2) (N := some 94) (v := undef) (a' := ?_) #[true, true, true, false, false, false, false, false, false, false, false, false, false, false, false, false, false, false, false] rfl rfl (any_of HT_.out (by kernel_rfl)) (fun _ _ _ h => h) (Or.inr ⟨by rfl, rfl⟩) ?_ ?_
                        rotate_left
                        · simp only [Act.put, List.setIfInBounds_toArray, List.set_cons_zero, List.set_cons_succ, i64_w, i32_w]
                          rfl
                        refine pure_ (i := 3) (N := some 95) (v := undef) (a' := ?_) #[true, true, true, true, false, false, false, false, false, false, false, false, false, false, false, false, false, false, false] rfl rfl (any_of HT_.out (by kernel_rfl)) (fun _ _ _ h => h) (Or.inr ⟨by rfl, rfl⟩) ?_ ?_
                        rotate_left
                        · simp only [Act.put, List.setIfInBounds_toArray, List.set_cons_zero, List.set_cons_succ, i64_w, i32_w]
                          rfl
                        refine pure_ (i := 4) (N := some 96) (v := undef) (a' := ?_) #[true, true, true, true, true, false, false, false, false, false, false, false, false, false, false, false, false, false, false] rfl rfl (any_of HT_.out (by kernel_rfl)) (fun _ _ _ h => h) (Or.inr ⟨by rfl, rfl⟩) ?_ ?_
                        rotate_left
                        · simp only [Act.put, List.setIfInBounds_toArray, List.set_cons_zero, List.set_cons_succ, i64_w, i32_w]
                          rfl
                        refine pure_ (i := 5) (N := some 97) (v := undef) (a' := ?_) #[true, true, true, true, true, true, false, false, false, false, false, false, false, false, false, false, false, false, false] rfl rfl (any_of HT_.out (by kernel_rfl)) (fun _ _ _ h => h) (Or.inr ⟨by rfl, rfl⟩) ?_ ?_
                        rotate_left
                        · simp only [Act.put, List.setIfInBounds_toArray, List.set_cons_zero, List.set_cons_succ, i64_w, i32_w]
                          rfl
                        refine pure_ (i := 6) (N := some 98) (v := undef) (a' := ?_) #[true, true, true, true, true, true, true, false, false, false, false, false, false, false, false, false, false, false, false] rfl rfl (any_of HT_.out (by kernel_rfl)) (fun _ _ _ h => h) (Or.inr ⟨by rfl, rfl⟩) ?_ ?_
                        rotate_left
                        · simp only [Act.put, List.setIfInBounds_toArray, List.set_cons_zero, List.set_cons_succ, i64_w, i32_w]
                          rfl
                        refine pure_ (i := 7) (N := some 99) (v := undef) (a' := ?_) #[true, true, true, true, true, true, true, true, false, false, false, false, false, false, false, false, false, false, false] rfl rfl (any_of HT_.out (by kernel_rfl)) (fun _ _ _ h => h) (Or.inr ⟨by rfl, rfl⟩) ?_ ?_
                        rotate_left
                        · simp only [Act.put, List.setIfInBounds_toArray, List.set_cons_zero, List.set_cons_succ, i64_w, i32_w]
                          rfl
                        refine pure_ (i := 8) (N := some 100) (v := undef) (a' := ?_) #[true, true, true, true, true, true, true, true, true, false, false, false, false, false, false, false, false, false, false] rfl rfl (any_of HT_.out (by kernel_rfl)) (fun _ _ _ h => h) (Or.inr ⟨by rfl, rfl⟩) ?_ ?_
                        rotate_left
                        · simp only [Act.put, List.setIfInBounds_toArray, List.set_cons_zero, List.set_cons_succ, i64_w, i32_w]
                          rfl
                        refine pure_ (i := 9) (N := some 101) (v := undef) (a' := ?_) #[true, true, true, true, true, true, true, true, true, true, false, false, false, false, false, false, false, false, false] rfl rfl (any_of HT_.out (by kernel_rfl)) (fun _ _ _ h => h) (Or.inr ⟨by rfl, rfl⟩) ?_ ?_
                        rotate_left
                        · simp only [Act.put, List.setIfInBounds_toArray, List.set_cons_zero, List.set_cons_succ, i64_w, i32_w]
                          rfl
                        refine pure_ (i := 10) (N := some 102) (v := undef) (a' := ?_) #[true, true, true, true, true, true, true, true, true, true, true, false, false, false, false, false, false, false, false] rfl rfl (any_of HT_.out (by kernel_rfl)) (fun _ _ _ h => h) (Or.inr ⟨by rfl, rfl⟩) ?_ ?_
                        rotate_left
                        · simp only [Act.put, List.setIfInBounds_toArray, List.set_cons_zero, List.set_cons_succ, i64_w, i32_w]
                          rfl
                        refine pure_ (i := 11) (N := some 103) (v := undef) (a' := ?_) #[true, true, true, true, true, true, true, true, true, true, true, true, false, false, false, false, false, false, false] rfl rfl (any_of HT_.out (by kernel_rfl)) (fun _ _ _ h => h) (Or.inr ⟨by rfl, rfl⟩) ?_ ?_
                        rotate_left
                        · simp only [Act.put, List.setIfInBounds_toArray, List.set_cons_zero, List.set_cons_succ, i64_w, i32_w]
                          rfl
                        refine pure_ (i := 12) (N := some 104) (v := undef) (a' := ?_) #[true, true, true, true, true, true, true, true, true, true, true, true, true, false, false, false, false, false, false] rfl rfl (any_of HT_.out (by kernel_rfl)) (fun _ _ _ h => h) (Or.inr ⟨by rfl, rfl⟩) ?_ ?_
                        rotate_left
                        · simp only [Act.put, List.setIfInBounds_toArray, List.set_cons_zero, List.set_cons_succ, i64_w, i32_w]
                          rfl
                        refine pure_ (i := 13) (N := some 105) (v := undef) (a' := ?_) #[true, true, true, true, true, true, true, true, true, true, true, true, true, true, false, false, false, false, false] rfl rfl (any_of HT_.out (by kernel_rfl)) (fun _ _ _ h => h) (Or.inr ⟨by rfl, rfl⟩) ?_ ?_
                        rotate_left
                        · simp only [Act.put, List.setIfInBounds_toArray, List.set_cons_zero, List.set_cons_succ, i64_w, i32_w]
                          rfl
                        refine pure_ (i := 14) (N := some 106) (v := undef) (a' := ?_) #[true, true, true, true, true, true, true, true, true, true, true, true, true, true, true, false, false, false, false] rfl rfl (any_of HT_.out (by kernel_rfl)) (fun _ _ _ h => h) (Or.inr ⟨by rfl, rfl⟩) ?_ ?_
                        rotate_left
                        · simp only [Act.put, List.setIfInBounds_toArray, List.set_cons_zero, List.set_cons_succ, i64_w, i32_w]
                          rfl
                        refine pure_ (i := 15) (N := some 107) (v := undef) (a' := ?_) #[true, true, true, true, true, true, true, true, true, true, true, true, true, true, true, true, false, false, false] rfl rfl (any_of HT_.out (by kernel_rfl)) (fun _ _ _ h => h) (Or.inr ⟨by rfl, rfl⟩) ?_ ?_
                        rotate_left
                        · simp only [Act.put, List.setIfInBounds_toArray, List.set_cons_zero, List.set_cons_succ, i64_w, i32_w]
                          rfl
                        refine pure_ (i := 16) (N := some 108) (v := undef) (a' := ?_) #[true, true, true, true, true, true, true, true, true, true, true, true, true, true, true, true, true, false, false] rfl rfl (any_of HT_.out (by kernel_rfl)) (fun _ _ _ h => h) (Or.inr ⟨by rfl, rfl⟩) ?_ ?_
                        rotate_left
                        · simp only [Act.put, List.setIfInBounds_toArray, List.set_cons_zero, List.set_cons_succ, i64_w, i32_w]
                          rfl
                        refine pure_ (i := 17) (N := some 109) (v := undef) (a' := ?_) #[true, true, true, true, true, true, true, true, true, true, true, true, true, true, true, true, true, true, false] rfl rfl (any_of HT_.out (by kernel_rfl)) (fun _ _ _ h => h) (Or.inr ⟨by rfl, rfl⟩) ?_ ?_
                        rotate_left
                        · simp only [Act.put, List.setIfInBounds_toArray, List.set_cons_zero, List.set_cons_succ, i64_w, i32_w]
                          rfl
                        refine pure_ (i := 18) (N := some 110) (v := ?_) (a' := ?_) #[true, true, true, true, true, true, true, true, true, true, true, true, true, true, true, true, true, true, true] rfl rfl (any_of HT_.out (by kernel_rfl)) (fun _ _ _ h => h) (Or.inl ⟨by rfl, ?_⟩) ?_ ?_
                        rotate_left
                        · intro w'
                          go_simp
                          with_reducible rfl
                        rotate_left
                        · simp only [Act.put, List.setIfInBounds_toArray, List.set_cons_zero, List.set_cons_succ, i64_w, i32_w]
                          rfl
                        refine done_ (done_of HT_.out (by kernel_rfl)) ?_
                        try go_wp2
                        go_meet
                        case rel => exact ⟨_, (false), xV, H', ⟨by have := HJ12.out; have := HJ59.out; have := HJ91.out; first | omega | exact Nat.le_refl _⟩, ⟨xK BK295.out⟩, ⟨xK BK296.out⟩, ⟨xK BK297.out⟩, ⟨xK BK303.out⟩, ⟨xK BK307.out⟩, ⟨xG⟩⟩
                    case rest =>
                      clear HC133
                      try clear c1
                      try clear c2
                      try clear p2
                      try clear c13
                      try clear c19
                      try clear c20
                      try clear c21
                      try clear c134
                      try clear c138
                      try clear c138b0
                      obtain ⟨kq, x110_132, rfl, HA, HJ132, BK295, BK296, BK297, BK303, BK307, HB⟩ := hcut
                      cases kq with
                      | zero => exact absurd HA.out (by simp [turnpikelaw3_PrefixApart.j3])
                      | succ kj132 =>
                        have H := HA.out
                        clear HA
                        simp only [turnpikelaw3_PrefixApart.j3] at H
                        by_cases c154 : x110_132 = true
                        · subst c154
                          have H1 : (some false) = some r := by rw [if_pos rfl] at H; exact H
                          clear H
                          have H := H1
                          clear H1
                          obtain rfl := Option.some.inj H
                          exact absurd hr_.out (by decide)
                        · replace c154 := Bool.eq_false_iff.mpr c154
                          subst c154
                          have H1 : (if t318 = true then ((prefix_Has.f t300 t301 t302 t308 t309).bind fun t340 => (if t340 = true then ((prefix_Has.f t304 t305 t306 t308 t309).bind fun t341 => (some t341)) else (some true))) else (some true)) = some r := by rw [if_neg (show ¬ (false = true) by decide)] at H; exact H
                          clear H
                          have H := H1
                          clear H1
                          by_cases c155 : t318 = true
                          · subst c155
                            have H1 : ((prefix_Has.f t300 t301 t302 t308 t309).bind fun t340 => (if t340 = true then ((prefix_Has.f t304 t305 t306 t308 t309).bind fun t341 => (some t341)) else (some true))) = some r := by rw [if_pos rfl] at H; exact H
                            clear H
                            have H := H1
                            clear H1
                            replace H := Option.bind_eq_some_iff.mp H
                            obtain ⟨t340, A1560, H⟩ := H
                            replace H : (if t340 = true then ((prefix_Has.f t304 t305 t306 t308 t309).bind fun t341 => (some t341)) else (some true)) = some r := H
                            have A156 := Aside0.mk A1560
                            clear A1560
                            by_cases c157 : t340 = true
                            · subst c157
                              have H1 : ((prefix_Has.f t304 t305 t306 t308 t309).bind fun t341 => (some t341)) = some r := by rw [if_pos rfl] at H; exact H
                              clear H
                              have H := H1
                              clear H1
                              replace H := Option.bind_eq_some_iff.mp H
                              obtain ⟨t341, A1580, H⟩ := H
                              replace H : (some t341) = some r := H
                              have A158 := Aside0.mk A1580
                              clear A1580
                              obtain rfl := Option.some.inj H
                              have hnb159 := NB303_295.out
                              have hnc159 := NB295_303.out
                              have hnb160 := NB303_296.out
                              have hnc160 := NB296_303.out
                              have hnb161 := NB303_297.out
                              have hnc161 := NB297_303.out
                              have hnb162 := NB303_307.out
                              have hnc162 := NB307_303.out
                              have hcz163_0 : wc.cell? ⟨gb303, 0, none⟩ = some (.int .u64 t300) := (blk_cell BK303.out 0).trans rfl
                              have hcz163_1 : wc.cell? ⟨gb303, 1, none⟩ = some (.int .u64 t301) := (blk_cell BK303.out 1).trans rfl
                              have hcz163_2 : wc.cell? ⟨gb303, 2, none⟩ = some (.int .i64 t302) := (blk_cell BK303.out 2).trans rfl
                              have hfz163_0 := blk_frozen BK303.out 0
                              have hfz163_1 := blk_frozen BK303.out 1
                              have hfz163_2 := blk_frozen BK303.out 2
                              have hnb164 := NB297_295.out
                              have hnc164 := NB295_297.out
                              have hnb165 := NB297_296.out
                              have hnc165 := NB296_297.out
                              have hnb166 := NB297_307.out
                              have hnc166 := NB307_297.out
                              have hcz167_0 : wc.cell? ⟨gb297, 0, none⟩ = some (.int .u64 t308) := (blk_cell BK297.out 0).trans rfl
                              have hcz167_1 : wc.cell? ⟨gb297, 1, none⟩ = some (.int .u64 t309) := (blk_cell BK297.out 1).trans rfl
                              have hfz167_0 := blk_frozen BK297.out 0
                              have hfz167_1 := blk_frozen BK297.out 1
                              go_wp2_with (first | (go_at_call 18; (with_reducible refine (prefix_Has.calls t300 t301 t302 t308 t309 true _ A156.out).mono ?_); rintro e w168 ⟨rfl, hb⟩; have n0_ := Aside0.mk (blk_below (g := gb295) (o := .cells #[.int .u64 a1_0, .int .u64 a1_1] 24 (0, 0)) (xK BK295.out) hb); have n1_ := Aside0.mk (blk_below (g := gb296) (o := .cells #[.int .u64 a3_0, .int .u64 a3_1] 24 (0, 0)) (xK BK296.out) hb); have n2_ := Aside0.mk (blk_below (g := gb297) (o := .cells #[.int .u64 t308, .int .u64 t309] 24 (0, 0)) (xK BK297.out) hb); have n3_ := Aside0.mk (blk_below (g := gb303) (o := .cells #[.int .u64 t300, .int .u64 t301, .int .i64 t302] 28 (0, 0)) (xK BK303.out) hb); have n4_ := Aside0.mk (blk_below (g := gb307) (o := .cells #[.int .u64 t304, .int .u64 t305, .int .i64 t306] 28 (0, 0)) (xK BK307.out) hb); have n5_ := Aside0.mk (below_step xG hb); clear BK295; clear BK296; clear BK297; clear BK303; clear BK307; clear HB; have BK295 := n0_; have BK296 := n1_; have BK297 := n2_; have BK303 := n3_; have BK307 := n4_; have HB := n5_; clear n0_ n1_ n2_ n3_ n4_ n5_; (try clear hb); (try clear hb2); (try clear hk); (try clear hi); have hnb169 := NB307_295.out; have hnc169 := NB295_307.out; have hnb170 := NB307_296.out; have hnc170 := NB296_307.out; have hcz171_0 : w168.cell? ⟨gb307, 0, none⟩ = some (.int .u64 t304) := (blk_cell BK307.out 0).trans rfl; have hcz171_1 : w168.cell? ⟨gb307, 1, none⟩ = some (.int .u64 t305) := (blk_cell BK307.out 1).trans rfl; have hcz171_2 : w168.cell? ⟨gb307, 2, none⟩ = some (.int .i64 t306) := (blk_cell BK307.out 2).trans rfl; have hfz171_0 := blk_frozen BK307.out 0; have hfz171_1 := blk_frozen BK307.out 1; have hfz171_2 := blk_frozen BK307.out 2; have hcz172_0 : w168.cell? ⟨gb297, 0, none⟩ = some (.int .u64 t308) := (blk_cell BK297.out 0).trans rfl; have hcz172_1 : w168.cell? ⟨gb297, 1, none⟩ = some (.int .u64 t309) := (blk_cell BK297.out 1).trans rfl; have hfz172_0 := blk_frozen BK297.out 0; have hfz172_1 := blk_frozen BK297.out 1) | (go_at_call 18; (with_reducible refine (prefix_Has.calls t304 t305 t306 t308 t309 t341 _ A158.out).mono ?_); rintro e w173 ⟨rfl, hb⟩; have n0_ := Aside0.mk (blk_below (g := gb295) (o := .cells #[.int .u64 a1_0, .int .u64 a1_1] 24 (0, 0)) (xK BK295.out) hb); have n1_ := Aside0.mk (blk_below (g := gb296) (o := .cells #[.int .u64 a3_0, .int .u64 a3_1] 24 (0, 0)) (xK BK296.out) hb); have n2_ := Aside0.mk (blk_below (g := gb297) (o := .cells #[.int .u64 t308, .int .u64 t309] 24 (0, 0)) (xK BK297.out) hb); have n3_ := Aside0.mk (blk_below (g := gb303) (o := .cells #[.int .u64 t300, .int .u64 t301, .int .i64 t302] 28 (0, 0)) (xK BK303.out) hb); have n4_ := Aside0.mk (blk_below (g := gb307) (o := .cells #[.int .u64 t304, .int .u64 t305, .int .i64 t306] 28 (0, 0)) (xK BK307.out) hb); have n5_ := Aside0.mk (below_step xG hb); clear BK295; clear BK296; clear BK297; clear BK303; clear BK307; clear HB; have BK295 := n0_; have BK296 := n1_; have BK297 := n2_; have BK303 := n3_; have BK307 := n4_; have HB := n5_; clear n0_ n1_ n2_ n3_ n4_ n5_; (try clear hb); (try clear hb2); (try clear hk); (try clear hi)))
                              go_ret
                              exact ⟨xE, xG⟩
                            · replace c157 := Bool.eq_false_iff.mpr c157
                              subst c157
                              have H1 : (some true) = some r := by rw [if_neg (show ¬ (false = true) by decide)] at H; exact H
                              clear H
                              have H := H1
                              clear H1
                              obtain rfl := Option.some.inj H
                              have hnb174 := NB303_295.out
                              have hnc174 := NB295_303.out
                              have hnb175 := NB303_296.out
                              have hnc175 := NB296_303.out
                              have hnb176 := NB303_297.out
                              have hnc176 := NB297_303.out
                              have hnb177 := NB303_307.out
                              have hnc177 := NB307_303.out
                              have hcz178_0 : wc.cell? ⟨gb303, 0, none⟩ = some (.int .u64 t300) := (blk_cell BK303.out 0).trans rfl
                              have hcz178_1 : wc.cell? ⟨gb303, 1, none⟩ = some (.int .u64 t301) := (blk_cell BK303.out 1).trans rfl
                              have hcz178_2 : wc.cell? ⟨gb303, 2, none⟩ = some (.int .i64 t302) := (blk_cell BK303.out 2).trans rfl
                              have hfz178_0 := blk_frozen BK303.out 0
                              have hfz178_1 := blk_frozen BK303.out 1
                              have hfz178_2 := blk_frozen BK303.out 2
                              have hnb179 := NB297_295.out
                              have hnc179 := NB295_297.out
                              have hnb180 := NB297_296.out
                              have hnc180 := NB296_297.out
                              have hnb181 := NB297_307.out
                              have hnc181 := NB307_297.out
                              have hcz182_0 : wc.cell? ⟨gb297, 0, none⟩ = some (.int .u64 t308) := (blk_cell BK297.out 0).trans rfl
                              have hcz182_1 : wc.cell? ⟨gb297, 1, none⟩ = some (.int .u64 t309) := (blk_cell BK297.out 1).trans rfl
                              have hfz182_0 := blk_frozen BK297.out 0
                              have hfz182_1 := blk_frozen BK297.out 1
                              go_wp2_with (first | (go_at_call 18; (with_reducible refine (prefix_Has.calls t300 t301 t302 t308 t309 false _ A156.out).mono ?_); rintro e w183 ⟨rfl, hb⟩; have n0_ := Aside0.mk (blk_below (g := gb295) (o := .cells #[.int .u64 a1_0, .int .u64 a1_1] 24 (0, 0)) (xK BK295.out) hb); have n1_ := Aside0.mk (blk_below (g := gb296) (o := .cells #[.int .u64 a3_0, .int .u64 a3_1] 24 (0, 0)) (xK BK296.out) hb); have n2_ := Aside0.mk (blk_below (g := gb297) (o := .cells #[.int .u64 t308, .int .u64 t309] 24 (0, 0)) (xK BK297.out) hb); have n3_ := Aside0.mk (blk_below (g := gb303) (o := .cells #[.int .u64 t300, .int .u64 t301, .int .i64 t302] 28 (0, 0)) (xK BK303.out) hb); have n4_ := Aside0.mk (blk_below (g := gb307) (o := .cells #[.int .u64 t304, .int .u64 t305, .int .i64 t306] 28 (0, 0)) (xK BK307.out) hb); have n5_ := Aside0.mk (below_step xG hb); clear BK295; clear BK296; clear BK297; clear BK303; clear BK307; clear HB; have BK295 := n0_; have BK296 := n1_; have BK297 := n2_; have BK303 := n3_; have BK307 := n4_; have HB := n5_; clear n0_ n1_ n2_ n3_ n4_ n5_; (try clear hb); (try clear hb2); (try clear hk); (try clear hi)))
                              go_ret
                              exact ⟨xE, xG⟩
                          · replace c155 := Bool.eq_false_iff.mpr c155
                            subst c155
                            have H1 : (some true) = some r := by rw [if_neg (show ¬ (false = true) by decide)] at H; exact H
                            clear H
                            have H := H1
                            clear H1
                            obtain rfl := Option.some.inj H
                            go_wp2
                            go_ret
                            exact ⟨xE, xG⟩
  · replace c8 := Bool.eq_false_iff.mpr c8
    subst c8
    have H1 : (some false) = some r := by rw [if_neg (show ¬ (false = true) by decide)] at H; exact H
    clear H
    have H := H1
    clear H1
    obtain rfl := Option.some.inj H
    exact absurd hr_.out (by decide)
def turnpikelaw3_PrefixApart.Pure : Prop := ∀ (a0 : Bool) (a1_0 : Int) (a1_1 : Int) (a2 : Int) (a3_0 : Int) (a3_1 : Int) (a4 : Int) (a5_0 : Int) (a5_1 : Int), (Lit.int .u64 a1_0).wf = true → (Lit.int .u64 a1_1).wf = true → (Lit.int .i64 a2).wf = true → (Lit.int .u64 a3_0).wf = true → (Lit.int .u64 a3_1).wf = true → (Lit.int .i64 a4).wf = true → (Lit.int .u64 a5_0).wf = true → (Lit.int .u64 a5_1).wf = true → ∃ k, turnpikelaw3_PrefixApart.f k a0 a1_0 a1_1 a2 a3_0 a3_1 a4 a5_0 a5_1 = some true
theorem turnpikelaw3_PrefixApart.walk (P : turnpikelaw3_PrefixApart.Pure) (a0 : Bool) (a1_0 : Int) (a1_1 : Int) (a2 : Int) (a3_0 : Int) (a3_1 : Int) (a4 : Int) (a5_0 : Int) (a5_1 : Int) (w : World) (hML : MLOk w) (wa1_0 : (Lit.int .u64 a1_0).wf = true) (wa1_1 : (Lit.int .u64 a1_1).wf = true) (wa2 : (Lit.int .i64 a2).wf = true) (wa3_0 : (Lit.int .u64 a3_0).wf = true) (wa3_1 : (Lit.int .u64 a3_1).wf = true) (wa4 : (Lit.int .i64 a4).wf = true) (wa5_0 : (Lit.int .u64 a5_0).wf = true) (wa5_1 : (Lit.int .u64 a5_1).wf = true) :
    Calls Tryd.prog 3 #[.bool a0, .agg #[.int .u64 a1_0, .int .u64 a1_1], .int .i64 a2, .agg #[.int .u64 a3_0, .int .u64 a3_1], .int .i64 a4, .agg #[.int .u64 a5_0, .int .u64 a5_1]] w fun e w' => e = .returned (.bool true) ∧ Below w.heap.size w w' := by
  obtain ⟨k, h⟩ := P a0 a1_0 a1_1 a2 a3_0 a3_1 a4 a5_0 a5_1 wa1_0 wa1_1 wa2 wa3_0 wa3_1 wa4 wa5_0 wa5_1
  refine (turnpikelaw3_PrefixApart.calls k a0 a1_0 a1_1 a2 a3_0 a3_1 a4 a5_0 a5_1 true w hML ⟨rfl⟩ h).mono ?_
  rintro e w' ⟨rfl, hd⟩
  exact ⟨rfl, hd⟩
end Go.Proofs.YtdjhmapmhajkcaaDoor.X
