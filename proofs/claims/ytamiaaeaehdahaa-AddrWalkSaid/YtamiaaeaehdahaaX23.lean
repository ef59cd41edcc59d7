-- Printed by a program of this session (xprint.py, over the kit's printer)
import Derived.Test.YtamiaaeaehdahaaX0
import Derived.Test.YtamiaaeaehdahaaX1
import Derived.Test.YtamiaaeaehdahaaX3
import Derived.Test.YtamiaaeaehdahaaX9
import Derived.Test.YtamiaaeaehdahaaX13
import Derived.Test.YtamiaaeaehdahaaX19
import Derived.Test.YtamiaaeaehdahaaX20
namespace Go.Proofs.Ytamiaaeaehdahaa.X
open Go.RowKit Go.Proofs.YtamiaaeaehdahaaW.PrintWords Go.Proofs.YtamiaaeaehdahaaW.PrintLast Go.Proofs.Ytamiaaeaehdahaa.Sm
set_option linter.unusedVariables false
set_option linter.unusedSimpArgs false

attribute [local go_sem high] eqA24
/-! ### turnpikelaw2_family: function 25 -/
def turnpikelaw2_family.f (a0 : Bool) : Option (Int) := if a0 = true then (some 128) else (some 32)
set_option maxHeartbeats 8000000 in
set_option maxRecDepth 100000 in
theorem turnpikelaw2_family.calls (a0 : Bool) (r : Int) (w : World) (h : turnpikelaw2_family.f a0 = some r) :
    Calls Try.prog 25 #[.bool a0] w fun e w' => e = .returned (.int .i64 r) ∧ Drawn0 w w' := by
  have H : (if a0 = true then (some 128) else (some 32)) = some r := h
  clear h
  by_cases c2 : a0 = true
  · subst c2
    have H1 : (some 128) = some r := by rw [if_pos rfl] at H; exact H
    clear H
    have H := H1
    clear H1
    obtain rfl := Option.some.inj H
    go_enter Try.func25, Try.ntmps25
    go_wp2
    go_ret
    exact ⟨by first | rfl | (simp; done) | (simp [*]; done), by repeat (first | exact Drawn0.refl _ | apply Drawn0.step)⟩
  · replace c2 := Bool.eq_false_iff.mpr c2
    subst c2
    have H1 : (some 32) = some r := by rw [if_neg (show ¬ (false = true) by decide)] at H; exact H
    clear H
    have H := H1
    clear H1
    obtain rfl := Option.some.inj H
    go_enter Try.func25, Try.ntmps25
    go_wp2
    go_ret
    exact ⟨by first | rfl | (simp; done) | (simp [*]; done), by repeat (first | exact Drawn0.refl _ | apply Drawn0.step)⟩

/-! ### turnpikelaw2_AddrWalk: function 8 -/
mutual
def turnpikelaw2_AddrWalk.j1 : Nat → Int → Int → Int → Int → Int → Int → Option (Bool)
  | 0, _, _, _, _, _, _ => none
  | k + 1, x7, x9, x472000, x472001, x480000, x480001 => turnpikelaw2_AddrWalk.l1 k x7 x9 0 x472000 x472001 x480000 x480001
def turnpikelaw2_AddrWalk.l1 : Nat → Int → Int → Int → Int → Int → Int → Int → Option (Bool)
  | 0, _, _, _, _, _, _, _ => none
  | k + 1, x7, x9, x14, x472000, x472001, x480000, x480001 => if x14 < x9 then ((addr_Prev.f k x7 x480000 x480001).bind fun bt493 => (if bt493.2.2 = true then (turnpikelaw2_AddrWalk.l1 k x7 x9 (wrap64 (x14 + 1)) x472000 x472001 bt493.1 bt493.2.1) else (some false))) else ((addr_Prev.f k x7 0 0).bind fun bt497 => ((addr_Last.f k x7).bind fun bt501 => (if (x480000 == x472000 && (x480001 == x472001)) = true then (if bt497.2.2 = true then (some false) else (if bt501.2.2 = 0 then ((turnpikeref1_Mask.f k x7).bind fun bt505 => (some (bt501.1 == bt505.1 && (bt501.2.1 == bt505.2)))) else (some false))) else (some false))))
def turnpikelaw2_AddrWalk.l0 : Nat → Int → Int → Int → Int → Int → Int → Int → Option (Bool)
  | 0, _, _, _, _, _, _, _ => none
  | k + 1, x2, x7, x9, x472000, x472001, x480000, x480001 => if x9 < x2 then ((addr_Next.f k x7 x480000 x480001).bind fun bt480 => (if bt480.2.2 = true then ((turnpikeref1_Sub.f k bt480.1 bt480.2.1 x480000 x480001).bind fun bt486 => ((turnpikeref1_Cmp.f k x480000 x480001 bt480.1 bt480.2.1).bind fun t490 => (if t490 ≥ 0 then (some false) else ((turnpikeref1_Put.f 0 0 (wrap64 (x7 - 1)) 1).bind fun bt491 => (if (!(bt486.1 == bt491.1) || (!(bt486.2.1 == bt491.2))) = true then (some false) else (turnpikelaw2_AddrWalk.l0 k x2 x7 (wrap64 (x9 + 1)) x472000 x472001 bt480.1 bt480.2.1)))))) else ((turnpikeref1_Mask.f k x7).bind fun bt484 => (if (!(x480000 == bt484.1) || (!(x480001 == bt484.2))) = true then (some false) else (turnpikelaw2_AddrWalk.j1 k x7 x9 x472000 x472001 x480000 x480001))))) else (turnpikelaw2_AddrWalk.j1 k x7 x9 x472000 x472001 x480000 x480001)
end
def turnpikelaw2_AddrWalk.f (k : Nat) (a0 : Bool) (a1_0 : Int) (a1_1 : Int) (a2 : Int) : Option (Bool) := (turnpikelaw2_known.f k).bind fun t472 => (if t472 = true then ((turnpikelaw2_family.f a0).bind fun t473 => ((turnpikeref1_Mask.f k t473).bind fun bt474 => ((turnpikeref1_And.f a1_0 a1_1 bt474.1 bt474.2).bind fun bt476 => ((turnpikelaw2_within.f a2 300).bind fun t478 => (turnpikelaw2_AddrWalk.l0 k t478 t473 0 bt476.1 bt476.2 bt476.1 bt476.2))))) else (some false))
theorem turnpikelaw2_AddrWalk.mono_l : ∀ k, (∀ y0 y1 y2 y3 y4 y5, LeO (turnpikelaw2_AddrWalk.j1 k y0 y1 y2 y3 y4 y5) (turnpikelaw2_AddrWalk.j1 (k + 1) y0 y1 y2 y3 y4 y5)) ∧ (∀ y0 y1 y2 y3 y4 y5 y6, LeO (turnpikelaw2_AddrWalk.l1 k y0 y1 y2 y3 y4 y5 y6) (turnpikelaw2_AddrWalk.l1 (k + 1) y0 y1 y2 y3 y4 y5 y6)) ∧ (∀ y0 y1 y2 y3 y4 y5 y6, LeO (turnpikelaw2_AddrWalk.l0 k y0 y1 y2 y3 y4 y5 y6) (turnpikelaw2_AddrWalk.l0 (k + 1) y0 y1 y2 y3 y4 y5 y6))
  | 0 => ⟨fun _ _ _ _ _ _ r h => by simp [turnpikelaw2_AddrWalk.j1] at h, fun _ _ _ _ _ _ _ r h => by simp [turnpikelaw2_AddrWalk.l1] at h, fun _ _ _ _ _ _ _ r h => by simp [turnpikelaw2_AddrWalk.l0] at h⟩
  | k + 1 => by
    obtain ⟨ih0, ih1, ih2⟩ := turnpikelaw2_AddrWalk.mono_l k
    refine ⟨?_, ?_, ?_⟩
    · intro y0 y1 y2 y3 y4 y5
      unfold turnpikelaw2_AddrWalk.j1
      repeat' first
      | (with_reducible exact ih0 _ _ _ _ _ _)
      | (with_reducible exact ih1 _ _ _ _ _ _ _)
      | (with_reducible exact ih2 _ _ _ _ _ _ _)
      | (with_reducible exact addr_Last.mono _ _)
      | (with_reducible exact addr_Next.mono _ _ _ _)
      | (with_reducible exact addr_Prev.mono _ _ _ _)
      | (with_reducible exact turnpikelaw2_known.mono _)
      | (with_reducible exact turnpikeref1_Cmp.mono _ _ _ _ _)
      | (with_reducible exact turnpikeref1_Mask.mono _ _)
      | (with_reducible exact turnpikeref1_Sub.mono _ _ _ _ _)
      | (with_reducible exact LeO.refl _)
      | (with_reducible exact LeO.none _)
      | (with_reducible refine LeO.ite ?_ ?_)
      | (with_reducible refine LeO.bind ?_ (fun _ => ?_))
      | exact ih0 _ _ _ _ _ _
      | exact ih1 _ _ _ _ _ _ _
      | exact ih2 _ _ _ _ _ _ _
      | exact addr_Last.mono _ _
      | exact addr_Next.mono _ _ _ _
      | exact addr_Prev.mono _ _ _ _
      | exact turnpikelaw2_known.mono _
      | exact turnpikeref1_Cmp.mono _ _ _ _ _
      | exact turnpikeref1_Mask.mono _ _
      | exact turnpikeref1_Sub.mono _ _ _ _ _
      | exact LeO.none _
      | refine LeO.ite ?_ ?_
      | refine LeO.bind ?_ (fun _ => ?_)
    · intro y0 y1 y2 y3 y4 y5 y6
      unfold turnpikelaw2_AddrWalk.l1
      repeat' first
      | (with_reducible exact ih0 _ _ _ _ _ _)
      | (with_reducible exact ih1 _ _ _ _ _ _ _)
      | (with_reducible exact ih2 _ _ _ _ _ _ _)
      | (with_reducible exact addr_Last.mono _ _)
      | (with_reducible exact addr_Next.mono _ _ _ _)
      | (with_reducible exact addr_Prev.mono _ _ _ _)
      | (with_reducible exact turnpikelaw2_known.mono _)
      | (with_reducible exact turnpikeref1_Cmp.mono _ _ _ _ _)
      | (with_reducible exact turnpikeref1_Mask.mono _ _)
      | (with_reducible exact turnpikeref1_Sub.mono _ _ _ _ _)
      | (with_reducible exact LeO.refl _)
      | (with_reducible exact LeO.none _)
      | (with_reducible refine LeO.ite ?_ ?_)
      | (with_reducible refine LeO.bind ?_ (fun _ => ?_))
      | exact ih0 _ _ _ _ _ _
      | exact ih1 _ _ _ _ _ _ _
      | exact ih2 _ _ _ _ _ _ _
      | exact addr_Last.mono _ _
      | exact addr_Next.mono _ _ _ _
      | exact addr_Prev.mono _ _ _ _
      | exact turnpikelaw2_known.mono _
      | exact turnpikeref1_Cmp.mono _ _ _ _ _
      | exact turnpikeref1_Mask.mono _ _
      | exact turnpikeref1_Sub.mono _ _ _ _ _
      | exact LeO.none _
      | refine LeO.ite ?_ ?_
      | refine LeO.bind ?_ (fun _ => ?_)
    · intro y0 y1 y2 y3 y4 y5 y6
      unfold turnpikelaw2_AddrWalk.l0
      repeat' first
      | (with_reducible exact ih0 _ _ _ _ _ _)
      | (with_reducible exact ih1 _ _ _ _ _ _ _)
      | (with_reducible exact ih2 _ _ _ _ _ _ _)
      | (with_reducible exact addr_Last.mono _ _)
      | (with_reducible exact addr_Next.mono _ _ _ _)
      | (with_reducible exact addr_Prev.mono _ _ _ _)
      | (with_reducible exact turnpikelaw2_known.mono _)
      | (with_reducible exact turnpikeref1_Cmp.mono _ _ _ _ _)
      | (with_reducible exact turnpikeref1_Mask.mono _ _)
      | (with_reducible exact turnpikeref1_Sub.mono _ _ _ _ _)
      | (with_reducible exact LeO.refl _)
      | (with_reducible exact LeO.none _)
      | (with_reducible refine LeO.ite ?_ ?_)
      | (with_reducible refine LeO.bind ?_ (fun _ => ?_))
      | exact ih0 _ _ _ _ _ _
      | exact ih1 _ _ _ _ _ _ _
      | exact ih2 _ _ _ _ _ _ _
      | exact addr_Last.mono _ _
      | exact addr_Next.mono _ _ _ _
      | exact addr_Prev.mono _ _ _ _
      | exact turnpikelaw2_known.mono _
      | exact turnpikeref1_Cmp.mono _ _ _ _ _
      | exact turnpikeref1_Mask.mono _ _
      | exact turnpikeref1_Sub.mono _ _ _ _ _
      | exact LeO.none _
      | refine LeO.ite ?_ ?_
      | refine LeO.bind ?_ (fun _ => ?_)
theorem turnpikelaw2_AddrWalk.mono : ∀ a0 a1 a2 a3 k, LeO (turnpikelaw2_AddrWalk.f k a0 a1 a2 a3) (turnpikelaw2_AddrWalk.f (k + 1) a0 a1 a2 a3) := by
  intro a0 a1 a2 a3 k
  obtain ⟨ih0, ih1, ih2⟩ := turnpikelaw2_AddrWalk.mono_l k
  unfold turnpikelaw2_AddrWalk.f
  repeat' first
      | (with_reducible exact ih0 _ _ _ _ _ _)
      | (with_reducible exact ih1 _ _ _ _ _ _ _)
      | (with_reducible exact ih2 _ _ _ _ _ _ _)
      | (with_reducible exact addr_Last.mono _ _)
      | (with_reducible exact addr_Next.mono _ _ _ _)
      | (with_reducible exact addr_Prev.mono _ _ _ _)
      | (with_reducible exact turnpikelaw2_known.mono _)
      | (with_reducible exact turnpikeref1_Cmp.mono _ _ _ _ _)
      | (with_reducible exact turnpikeref1_Mask.mono _ _)
      | (with_reducible exact turnpikeref1_Sub.mono _ _ _ _ _)
      | (with_reducible exact LeO.refl _)
      | (with_reducible exact LeO.none _)
      | (with_reducible refine LeO.ite ?_ ?_)
      | (with_reducible refine LeO.bind ?_ (fun _ => ?_))
      | exact ih0 _ _ _ _ _ _
      | exact ih1 _ _ _ _ _ _ _
      | exact ih2 _ _ _ _ _ _ _
      | exact addr_Last.mono _ _
      | exact addr_Next.mono _ _ _ _
      | exact addr_Prev.mono _ _ _ _
      | exact turnpikelaw2_known.mono _
      | exact turnpikeref1_Cmp.mono _ _ _ _ _
      | exact turnpikeref1_Mask.mono _ _
      | exact turnpikeref1_Sub.mono _ _ _ _ _
      | exact LeO.none _
      | refine LeO.ite ?_ ?_
      | refine LeO.bind ?_ (fun _ => ?_)
def turnpikelaw2_AddrWalk.T14 : Bool × List (List Nat × List Nat) := (true, [([], []), ([], []), ([0, 1], [0, 1]), ([2], [2]), ([3, 2], [3]), ([4], [4]), ([4], [4]), ([4], [4]), ([7, 4], [4, 7]), ([6, 8, 4, 4], [4, 6, 8]), ([5, 9, 4], [4, 5, 9]), ([4, 10], [4, 10])])
def turnpikelaw2_AddrWalk.B14 : List Nat := [0, 0, 3, 7, 15, 31, 31, 31, 159, 479, 1023, 2047]
theorem turnpikelaw2_AddrWalk.tab14 : rtab .any (opsOf Try.f8 14) = turnpikelaw2_AddrWalk.T14 := by kernel_rfl
theorem turnpikelaw2_AddrWalk.bits14 : waitsOk turnpikelaw2_AddrWalk.T14.2 turnpikelaw2_AddrWalk.B14 = true := by kernel_rfl
def turnpikelaw2_AddrWalk.T27 : Bool × List (List Nat × List Nat) := (true, [([], []), ([], []), ([0, 1], [0, 1]), ([2], [2]), ([3], [3]), ([4, 3], [3, 4]), ([3, 5], [3, 5]), ([6, 3], [6]), ([7], [7]), ([8, 7], [7, 8]), ([7, 9], [7, 9]), ([10, 7], [10]), ([11], [11]), ([11], [11]), ([13, 11, 11], [11, 13]), ([12, 14, 11], [11, 12, 14]), ([11, 15], [11, 15]), ([16, 14, 0, 1, 2, 3, 4, 5, 6, 7, 8, 9, 10, 11, 12, 13, 14, 15, 16], [16])])
def turnpikelaw2_AddrWalk.B27 : List Nat := [0, 0, 3, 7, 15, 31, 63, 127, 255, 511, 1023, 2047, 4095, 4095, 12287, 32767, 65535, 131071]
theorem turnpikelaw2_AddrWalk.tab27 : rtab .any (opsOf Try.f8 27) = turnpikelaw2_AddrWalk.T27 := by kernel_rfl
theorem turnpikelaw2_AddrWalk.bits27 : waitsOk turnpikelaw2_AddrWalk.T27.2 turnpikelaw2_AddrWalk.B27 = true := by kernel_rfl
set_option maxHeartbeats 8000000 in
set_option maxRecDepth 100000 in
theorem turnpikelaw2_AddrWalk.calls (k : Nat) (a0 : Bool) (a1_0 : Int) (a1_1 : Int) (a2 : Int) (r : Bool) (w : World) (hML : MLOk w) (hr_ : Aside0 (r = true)) (h : turnpikelaw2_AddrWalk.f k a0 a1_0 a1_1 a2 = some r) :
    Calls Try.prog 8 #[.bool a0, .agg #[.int .u64 a1_0, .int .u64 a1_1], .int .i64 a2] w fun e w' => e = .returned (.bool r) ∧ Below w.heap.size w w' := by
  have hu24 := Try.underlying24
  have HML := Aside0.mk hML
  clear hML
  have HB := Aside0.mk (Below.refl w.heap.size w)
  have H : ((turnpikelaw2_known.f k).bind fun t472 => (if t472 = true then ((turnpikelaw2_family.f a0).bind fun t473 => ((turnpikeref1_Mask.f k t473).bind fun bt474 => ((turnpikeref1_And.f a1_0 a1_1 bt474.1 bt474.2).bind fun bt476 => ((turnpikelaw2_within.f a2 300).bind fun t478 => (turnpikelaw2_AddrWalk.l0 k t478 t473 0 bt476.1 bt476.2 bt476.1 bt476.2))))) else (some false))) = some r := h
  clear h
  replace H := Option.bind_eq_some_iff.mp H
  obtain ⟨t472, A40, H⟩ := H
  replace H : (if t472 = true then ((turnpikelaw2_family.f a0).bind fun t473 => ((turnpikeref1_Mask.f k t473).bind fun bt474 => ((turnpikeref1_And.f a1_0 a1_1 bt474.1 bt474.2).bind fun bt476 => ((turnpikelaw2_within.f a2 300).bind fun t478 => (turnpikelaw2_AddrWalk.l0 k t478 t473 0 bt476.1 bt476.2 bt476.1 bt476.2))))) else (some false)) = some r := H
  have A4 := Aside0.mk A40
  clear A40
  by_cases c5 : t472 = true
  · subst c5
    have H1 : ((turnpikelaw2_family.f a0).bind fun t473 => ((turnpikeref1_Mask.f k t473).bind fun bt474 => ((turnpikeref1_And.f a1_0 a1_1 bt474.1 bt474.2).bind fun bt476 => ((turnpikelaw2_within.f a2 300).bind fun t478 => (turnpikelaw2_AddrWalk.l0 k t478 t473 0 bt476.1 bt476.2 bt476.1 bt476.2))))) = some r := by rw [if_pos rfl] at H; exact H
    clear H
    have H := H1
    clear H1
    replace H := Option.bind_eq_some_iff.mp H
    obtain ⟨t473, A60, H⟩ := H
    replace H : ((turnpikeref1_Mask.f k t473).bind fun bt474 => ((turnpikeref1_And.f a1_0 a1_1 bt474.1 bt474.2).bind fun bt476 => ((turnpikelaw2_within.f a2 300).bind fun t478 => (turnpikelaw2_AddrWalk.l0 k t478 t473 0 bt476.1 bt476.2 bt476.1 bt476.2)))) = some r := H
    have A6 := Aside0.mk A60
    clear A60
    replace H := Option.bind_eq_some_iff.mp H
    obtain ⟨⟨t474, t475⟩, A70, H⟩ := H
    replace H : ((turnpikeref1_And.f a1_0 a1_1 t474 t475).bind fun bt476 => ((turnpikelaw2_within.f a2 300).bind fun t478 => (turnpikelaw2_AddrWalk.l0 k t478 t473 0 bt476.1 bt476.2 bt476.1 bt476.2))) = some r := H
    have A7 := Aside0.mk A70
    clear A70
    replace H := Option.bind_eq_some_iff.mp H
    obtain ⟨⟨t476, t477⟩, A80, H⟩ := H
    replace H : ((turnpikelaw2_within.f a2 300).bind fun t478 => (turnpikelaw2_AddrWalk.l0 k t478 t473 0 t476 t477 t476 t477)) = some r := H
    have A8 := Aside0.mk A80
    clear A80
    replace H := Option.bind_eq_some_iff.mp H
    obtain ⟨t478, A90, H⟩ := H
    replace H : (turnpikelaw2_AddrWalk.l0 k t478 t473 0 t476 t477 t476 t477) = some r := H
    have A9 := Aside0.mk A90
    clear A90
    have HC10 := Aside0.mk H
    clear H
    go_enter Try.func8, Try.ntmps8
    try go_wp2_with (first | ((with_reducible refine gate_dst (N := 4) rfl ?_); refine box_event ?hg (N := 4) ?hd (cs := #[.int .u64 a1_0, .int .u64 a1_1]) (t := 24) ?hr ?_; (case hd => rfl); (case hg => rfl); (case hr => first | (go_simp; done) | (go_simp; rfl)); intro gb471 hg w11 hbox hb; have n0_ := Aside0.mk (below_step (by repeat (first | (with_reducible first | exact HB.out | apply below_alloc | apply pw_below_drewN | apply below_drew1) | exact HB.out)) hb); have n1_ := Aside0.mk (hbox); have n2_ := Aside0.mk ((by rw [hg]; exact (below_size (by repeat (first | (with_reducible first | exact HB.out | apply below_alloc | apply pw_below_drewN | apply below_drew1) | exact HB.out))) : w.heap.size ≤ gb471)); have n3_ := Aside0.mk ((by rw [hg]; exact (below_size (by repeat (first | (with_reducible first | exact HB.out | apply below_alloc | apply pw_below_drewN | apply below_drew1) | exact HB.out))) : w.heap.size ≤ gb471)); clear HB; have HB := n0_; have BK471 := n1_; have GW471 := n2_; have GE471 := n3_; clear n0_ n1_ n2_ n3_; clear hb hbox hg) | ((with_reducible refine gate_callee (f := 11) rfl ?_); refine goesL_ (some 21) rfl rfl Try.func11 (by kernel_rfl) rfl #[] rfl (by (try simp only [List.map_toArray, List.map_cons, List.map_nil]); first | done | rfl | (simp only [List.length_drop, List.length_take]; rfl)) ?_; (with_reducible refine (turnpikelaw2_known.calls k  true _ ?side1 A4.out).mono ?_); (case side1 => first | exact MLOk.below HML.out (by repeat (first | (with_reducible first | exact HB.out | apply below_alloc | apply pw_below_drewN | apply below_drew1 | refine below_set ?_ GE471.out) | exact HB.out)) | (repeat (first | exact HML.out | (with_reducible refine MLOk.alloc ?_ _) | (with_reducible refine MLOk.drewN ?_ _) | (with_reducible refine MLOk.drew ?_)))); rintro e w12 ⟨rfl, hb⟩; refine ⟨_, rfl, ?_⟩; have n0_ := Aside0.mk (blk_below (g := gb471) (o := .cells #[.int .u64 a1_0, .int .u64 a1_1] 24 (0, 0)) (by (with_reducible repeat (first | refine blk_drewN ?_ _ | refine blk_drew ?_ | refine blk_alloc ?_ _)); exact BK471.out) hb); have n1_ := Aside0.mk (below_step (by repeat (first | (with_reducible first | exact HB.out | apply below_alloc | apply pw_below_drewN | apply below_drew1 | refine below_set ?_ GE471.out) | exact HB.out)) hb); clear BK471; clear HB; have BK471 := n0_; have HB := n1_; clear n0_ n1_; (try clear hb); (try clear hb2); (try clear hk); (try clear hi)) | ((with_reducible refine gate_callee (f := 25) rfl ?_); refine goesL_ (some 24) rfl rfl Try.func25 (by kernel_rfl) rfl #[.bool a0] rfl (by (try simp only [List.map_toArray, List.map_cons, List.map_nil]); first | done | rfl | (simp only [List.length_drop, List.length_take]; rfl)) ?_; (with_reducible refine (turnpikelaw2_family.calls a0 t473 _ A6.out).mono ?_); rintro e w' ⟨rfl, ⟨nd, rfl⟩⟩; refine ⟨_, rfl, ?_⟩; (try (rw [drewN_self w12]; generalize hq_ : World.drewN w12 _ = w12; have n0_ : Aside0 (w12.heap[gb471]? = some (.cells #[.int .u64 a1_0, .int .u64 a1_1] 24 (0, 0))) := ⟨by rw [← hq_]; exact (by (with_reducible repeat (first | refine blk_drewN ?_ _ | refine blk_drew ?_ | refine blk_alloc ?_ _)); exact BK471.out)⟩; have n1_ : Aside0 (Below w.heap.size w w12) := ⟨by rw [← hq_]; exact (by repeat (first | (with_reducible first | exact HB.out | apply below_alloc | apply pw_below_drewN | apply below_drew1 | refine below_set ?_ GE471.out) | exact HB.out))⟩; clear BK471 HB hq_; have BK471 := n0_; have HB := n1_; clear n0_ n1_))))
    have n0_ := Aside0.mk (blk_drew BK471.out)
    have n1_ := Aside0.mk (below_drew1 HB.out)
    clear BK471
    clear HB
    have BK471 := n0_
    have HB := n1_
    clear n0_ n1_
    refine start_ (n := 5) (S := fun w' => w'.cell? ⟨gb471, 0, none⟩ = some (.int .u64 a1_0) ∧ w'.cell? ⟨gb471, 1, none⟩ = some (.int .u64 a1_1)) (ds := [4]) #[false, false, false, false, false] (by kernel_rfl) rfl rfl ⟨(blk_cell BK471.out 0).trans rfl, (blk_cell BK471.out 1).trans rfl⟩ (fun hHeld => ?_)
    generalize w12.drew = w13 at BK471 HB hHeld ⊢
    refine pure_ (i := 1) (N := some 26) (v := ?_) (a' := ?_) #[false, true, false, false, false] rfl rfl (by kernel_rfl) (fun _ _ _ h => h) (Or.inl ⟨by rfl, ?_⟩) ?_ ?_
    rotate_left
    · intro w'
      go_simp
      with_reducible rfl
    rotate_left
    · simp only [Act.put, List.setIfInBounds_toArray, List.set_cons_zero, List.set_cons_succ, i64_w, i32_w]
      rfl
    refine take_ (i := 0) (N := some 25) (v := ?_) (a' := ?_) #[true, true, false, false, false] rfl rfl (by kernel_rfl) (fun _ _ _ h => h) (Or.inl ⟨by rfl, ?_⟩) hHeld ?_ ?_
    rotate_left
    · rintro w' ⟨s0, s1⟩
      go_simp
      with_reducible rfl
    rotate_left
    · simp only [Act.put, List.setIfInBounds_toArray, List.set_cons_zero, List.set_cons_succ, i64_w, i32_w]
      rfl
    refine one_ (i := 2) (N := some 27) #[true, true, true, false, false] rfl rfl (by kernel_rfl) (by decide) (fun K hK => ?_)
    refine goes_ Try.func27 (by kernel_rfl) rfl #[.int .i64 t473] (by rfl) rfl rfl (by (try simp only [List.map_toArray, List.map_cons, List.map_nil]); first | done | rfl | (simp only [List.length_drop, List.length_take]; rfl)) ?_
    with_reducible refine (turnpikeref1_Mask.calls k t473 t474 t475 _ A7.out).mono ?_
    rintro e w14 ⟨rfl, hb⟩
    refine ⟨_, rfl, ?_⟩
    have n0_ := Aside0.mk (blk_below (g := gb471) (o := .cells #[.int .u64 a1_0, .int .u64 a1_1] 24 (0, 0)) (by (with_reducible repeat (first | refine blk_drewN ?_ _ | refine blk_drew ?_ | refine blk_alloc ?_ _)); exact BK471.out) hb)
    have n1_ := Aside0.mk (below_step (by repeat (first | (with_reducible first | exact HB.out | apply below_alloc | apply pw_below_drewN | apply below_drew1 | refine below_set ?_ GE471.out) | exact HB.out)) hb)
    clear BK471
    clear HB
    have BK471 := n0_
    have HB := n1_
    clear n0_ n1_
    (try clear hb)
    (try clear hb2)
    (try clear hk)
    (try clear hi)
    refine hK.out _ _ ⟨(blk_cell BK471.out 0).trans rfl, (blk_cell BK471.out 1).trans rfl⟩ (fun hHeld => ?_)
    clear hK K
    refine norm_ (a' := ?_) ?_ ?_
    rotate_left
    · show Act.put _ (some 27) _ = _
      simp only [Act.put, List.setIfInBounds_toArray, List.set_cons_zero, List.set_cons_succ, i64_w, i32_w]
      rfl
    refine one_ (i := 3) (N := some 28) #[true, true, true, true, false] rfl rfl (by kernel_rfl) (by decide) (fun K hK => ?_)
    refine goes_ Try.func26 (by kernel_rfl) rfl #[.agg #[.int .u64 a1_0, .int .u64 a1_1], .agg #[.int .u64 t474, .int .u64 t475]] (by rfl) rfl rfl (by (try simp only [List.map_toArray, List.map_cons, List.map_nil]); first | done | rfl | (simp only [List.length_drop, List.length_take]; rfl)) ?_
    with_reducible refine (turnpikeref1_And.calls a1_0 a1_1 t474 t475 t476 t477 _ A8.out).mono ?_
    rintro e w15 ⟨rfl, hb⟩
    refine ⟨_, rfl, ?_⟩
    have n0_ := Aside0.mk (blk_below (g := gb471) (o := .cells #[.int .u64 a1_0, .int .u64 a1_1] 24 (0, 0)) (by (with_reducible repeat (first | refine blk_drewN ?_ _ | refine blk_drew ?_ | refine blk_alloc ?_ _)); exact BK471.out) hb)
    have n1_ := Aside0.mk (below_step (by repeat (first | (with_reducible first | exact HB.out | apply below_alloc | apply pw_below_drewN | apply below_drew1 | refine below_set ?_ GE471.out) | exact HB.out)) hb)
    clear BK471
    clear HB
    have BK471 := n0_
    have HB := n1_
    clear n0_ n1_
    (try clear hb)
    (try clear hb2)
    (try clear hk)
    (try clear hi)
    refine hK.out _ _ ⟨(blk_cell BK471.out 0).trans rfl, (blk_cell BK471.out 1).trans rfl⟩ (fun hHeld => ?_)
    clear hK K
    refine norm_ (a' := ?_) ?_ ?_
    rotate_left
    · show Act.put _ (some 28) _ = _
      simp only [Act.put, List.setIfInBounds_toArray, List.set_cons_zero, List.set_cons_succ, i64_w, i32_w]
      rfl
    refine last_ (i := 4) (N := none) #[true, true, true, true, true] rfl rfl (by kernel_rfl) (by decide) (fun K hK => ?_)
    have hs16 : w15.cell? ⟨gb471, 0, none⟩ = some (.int .u64 a1_0) := (blk_cell BK471.out 0).trans rfl
    have hfs16 := blk_frozen BK471.out 0
    have hs17 : w15.cell? ⟨gb471, 1, none⟩ = some (.int .u64 a1_1) := (blk_cell BK471.out 1).trans rfl
    have hfs17 := blk_frozen BK471.out 1
    refine skip_ (w1 := ?_) (by rfl) rfl ?_ ?_
    rotate_left
    · go_simp
      rfl
    refine hK.out _ _ ?_
    clear hK K
    refine done_ (by kernel_rfl) ?_
    go_upto_block 0 with (first | ((with_reducible refine gate_callee (f := 13) rfl ?_); refine goesL_ (some 30) rfl rfl Try.func13 (by kernel_rfl) rfl #[.int .i64 a2, .int .i64 300] rfl (by (try simp only [List.map_toArray, List.map_cons, List.map_nil]); first | done | rfl | (simp only [List.length_drop, List.length_take]; rfl)) ?_; (with_reducible refine (turnpikelaw2_within.calls a2 300 t478 _ A9.out).mono ?_); rintro e w' ⟨rfl, ⟨nd, rfl⟩⟩; refine ⟨_, rfl, ?_⟩; have hcz18_0 : w15.cell? ⟨gb471, 0, none⟩ = some (.int .u64 a1_0) := (blk_cell BK471.out 0).trans rfl; have hcz18_1 : w15.cell? ⟨gb471, 1, none⟩ = some (.int .u64 a1_1) := (blk_cell BK471.out 1).trans rfl; have hfz18_0 := blk_frozen BK471.out 0; have hfz18_1 := blk_frozen BK471.out 1) | ((with_reducible refine gate_dst (N := 8) rfl ?_); refine box_event ?hg (N := 8) ?hd (cs := #[.int .u64 0, .int .u64 0]) (t := 24) ?hr ?_; (case hd => rfl); (case hg => rfl); (case hr => first | (go_simp; done) | (go_simp; rfl)); intro gb479 hg w19 hbox hb; have n0_ := Aside0.mk (blk_below (g := gb471) (o := .cells #[.int .u64 t476, .int .u64 t477] 24 (0, 0)) (by (with_reducible repeat (first | refine blk_drewN ?_ _ | refine blk_drew ?_ | refine blk_alloc ?_ _)); refine blk_put (cs := #[.int .u64 t476, .int .u64 a1_1]) ?_ 1 _ rfl; (with_reducible repeat (first | refine blk_drewN ?_ _ | refine blk_drew ?_ | refine blk_alloc ?_ _)); refine blk_put (cs := #[.int .u64 a1_0, .int .u64 a1_1]) ?_ 0 _ rfl; (with_reducible repeat (first | refine blk_drewN ?_ _ | refine blk_drew ?_ | refine blk_alloc ?_ _)); exact BK471.out) hb); have n1_ := Aside0.mk (below_step (by repeat (first | (with_reducible first | exact HB.out | apply below_alloc | apply pw_below_drewN | apply below_drew1 | refine below_set ?_ GE471.out) | exact HB.out)) hb); have n2_ := Aside0.mk (hbox); have n3_ := Aside0.mk ((by rw [hg]; exact (below_size (by repeat (first | (with_reducible first | exact HB.out | apply below_alloc | apply pw_below_drewN | apply below_drew1 | refine below_set ?_ GE471.out) | exact HB.out))) : w.heap.size ≤ gb479)); have n4_ := Aside0.mk ((by rw [hg]; exact (below_size (by repeat (first | (with_reducible first | exact HB.out | apply below_alloc | apply pw_below_drewN | apply below_drew1 | refine below_set ?_ GE471.out) | exact HB.out))) : w.heap.size ≤ gb479)); have n5_ := Aside0.mk ((by rw [hg]; exact Nat.ne_of_lt (blk_lt (g := gb471) (o := .cells #[.int .u64 t476, .int .u64 t477] 24 (0, 0)) (by (with_reducible repeat (first | refine blk_drewN ?_ _ | refine blk_drew ?_ | refine blk_alloc ?_ _)); refine blk_put (cs := #[.int .u64 t476, .int .u64 a1_1]) ?_ 1 _ rfl; (with_reducible repeat (first | refine blk_drewN ?_ _ | refine blk_drew ?_ | refine blk_alloc ?_ _)); refine blk_put (cs := #[.int .u64 a1_0, .int .u64 a1_1]) ?_ 0 _ rfl; (with_reducible repeat (first | refine blk_drewN ?_ _ | refine blk_drew ?_ | refine blk_alloc ?_ _)); exact BK471.out)) : gb471 ≠ gb479)); have n6_ := Aside0.mk ((by rw [hg]; exact Nat.ne_of_gt (blk_lt (g := gb471) (o := .cells #[.int .u64 t476, .int .u64 t477] 24 (0, 0)) (by (with_reducible repeat (first | refine blk_drewN ?_ _ | refine blk_drew ?_ | refine blk_alloc ?_ _)); refine blk_put (cs := #[.int .u64 t476, .int .u64 a1_1]) ?_ 1 _ rfl; (with_reducible repeat (first | refine blk_drewN ?_ _ | refine blk_drew ?_ | refine blk_alloc ?_ _)); refine blk_put (cs := #[.int .u64 a1_0, .int .u64 a1_1]) ?_ 0 _ rfl; (with_reducible repeat (first | refine blk_drewN ?_ _ | refine blk_drew ?_ | refine blk_alloc ?_ _)); exact BK471.out)) : gb479 ≠ gb471)); clear BK471; clear HB; have BK471 := n0_; have HB := n1_; have BK479 := n2_; have GW479 := n3_; have GE479 := n4_; have NB471_479 := n5_; have NB479_471 := n6_; clear n0_ n1_ n2_ n3_ n4_ n5_ n6_; clear hb hbox hg; have hnb20 := NB479_471.out; have hnc20 := NB471_479.out; have hcz21_0 : w19.cell? ⟨gb479, 0, none⟩ = some (.int .u64 0) := (blk_cell BK479.out 0).trans rfl; have hcz21_1 : w19.cell? ⟨gb479, 1, none⟩ = some (.int .u64 0) := (blk_cell BK479.out 1).trans rfl; have hfz21_0 := blk_frozen BK479.out 0; have hfz21_1 := blk_frozen BK479.out 1))
    (try simp only [Act.put, List.setIfInBounds_toArray, List.set_cons_zero, List.set_cons_succ])
    go_cut [9] (fun v9 wc => ∃ (kq : Nat) (x9_9 : Int) (x480000_9 : Int) (x480001_9 : Int), v9 = .int .i64 x9_9 ∧ Aside0 (turnpikelaw2_AddrWalk.j1 kq t473 x9_9 t476 t477 x480000_9 x480001_9 = some r) ∧ Aside0 (kq ≤ k) ∧ Aside0 (wc.heap[gb471]? = some (.cells #[.int .u64 t476, .int .u64 t477] 24 (0, 0))) ∧ Aside0 (wc.heap[gb479]? = some (.cells #[.int .u64 x480000_9, .int .u64 x480001_9] 24 (0, 0))) ∧ Aside0 (Below w.heap.size w wc))
    case first =>
      have H := HC10.out
      clear HC10
      have H' := Aside0.mk H
      clear H
      go_wp2
      go_loopg [9] k (fun kq v9 w' => ∃ (x9_1 : Int) (x480000_1 : Int) (x480001_1 : Int), v9 = .int .i64 x9_1 ∧ Aside0 (turnpikelaw2_AddrWalk.l0 kq t478 t473 x9_1 t476 t477 x480000_1 x480001_1 = some r) ∧ Aside0 (kq ≤ k) ∧ Aside0 (w'.heap[gb471]? = some (.cells #[.int .u64 t476, .int .u64 t477] 24 (0, 0))) ∧ Aside0 (w'.heap[gb479]? = some (.cells #[.int .u64 x480000_1, .int .u64 x480001_1] 24 (0, 0))) ∧ Aside0 (Below w.heap.size w w'))
      case atStart => exact ⟨(0), (t476), (t477), (by first | rfl | (simp; done) | (simp [*]; done) | exact congrArg Value.bool (isEmpty_bne _)), H', ⟨Nat.le_refl _⟩, ⟨by (with_reducible repeat (first | refine blk_drewN ?_ _ | refine blk_drew ?_ | refine blk_alloc ?_ _)); refine blk_far ?_ NB471_479.out _; (with_reducible repeat (first | refine blk_drewN ?_ _ | refine blk_drew ?_ | refine blk_alloc ?_ _)); refine blk_far ?_ NB471_479.out _; (with_reducible repeat (first | refine blk_drewN ?_ _ | refine blk_drew ?_ | refine blk_alloc ?_ _)); exact BK471.out⟩, ⟨by (with_reducible repeat (first | refine blk_drewN ?_ _ | refine blk_drew ?_ | refine blk_alloc ?_ _)); refine blk_put (cs := #[.int .u64 t476, .int .u64 0]) ?_ 1 _ rfl; (with_reducible repeat (first | refine blk_drewN ?_ _ | refine blk_drew ?_ | refine blk_alloc ?_ _)); refine blk_put (cs := #[.int .u64 0, .int .u64 0]) ?_ 0 _ rfl; (with_reducible repeat (first | refine blk_drewN ?_ _ | refine blk_drew ?_ | refine blk_alloc ?_ _)); exact BK479.out⟩, ⟨by repeat (first | (with_reducible first | exact HB.out | apply below_alloc | apply pw_below_drewN | apply below_drew1 | refine below_set ?_ GE471.out | refine below_set ?_ GE479.out) | exact HB.out)⟩⟩
      case round =>
        clear H'
        try clear c1
        try clear c2
        try clear p2
        try clear c5
        try clear c8
        try clear c11
        try clear c13
        try clear c20
        try clear hcz18_0
        try clear hcz18_1
        try clear hcz21_0
        try clear hcz21_1
        try clear hfz18_0
        try clear hfz18_1
        try clear hfz21_0
        try clear hfz21_1
        obtain ⟨x9_1, x480000_1, x480001_1, rfl, HA, HK1, BK471, BK479, HB⟩ := hrel
        cases gk with
        | zero => exact absurd HA.out (by simp [turnpikelaw2_AddrWalk.l0])
        | succ k1 =>
          have H := HA.out
          clear HA
          simp only [turnpikelaw2_AddrWalk.l0] at H
          by_cases c22 : x9_1 < t478
          · rw [if_pos c22] at H
            have c22b0 : decide (x9_1 < t478) = true := decide_eq_true c22
            clear c22
            (first | rw [c22b0] | (simp only [i64_w, i32_w]; rw [c22b0]) | skip)
            replace H := Option.bind_eq_some_iff.mp H
            obtain ⟨⟨t480, t481, t482⟩, A230, H⟩ := H
            replace H : (if t482 = true then ((turnpikeref1_Sub.f k1 t480 t481 x480000_1 x480001_1).bind fun bt486 => ((turnpikeref1_Cmp.f k1 x480000_1 x480001_1 t480 t481).bind fun t490 => (if t490 ≥ 0 then (some false) else ((turnpikeref1_Put.f 0 0 (wrap64 (t473 - 1)) 1).bind fun bt491 => (if (!(bt486.1 == bt491.1) || (!(bt486.2.1 == bt491.2))) = true then (some false) else (turnpikelaw2_AddrWalk.l0 k1 t478 t473 (wrap64 (x9_1 + 1)) t476 t477 t480 t481)))))) else ((turnpikeref1_Mask.f k1 t473).bind fun bt484 => (if (!(x480000_1 == bt484.1) || (!(x480001_1 == bt484.2))) = true then (some false) else (turnpikelaw2_AddrWalk.j1 k1 t473 x9_1 t476 t477 x480000_1 x480001_1)))) = some r := H
            have A23 := Aside0.mk A230
            clear A230
            by_cases c24 : t482 = true
            · subst c24
              have H1 : ((turnpikeref1_Sub.f k1 t480 t481 x480000_1 x480001_1).bind fun bt486 => ((turnpikeref1_Cmp.f k1 x480000_1 x480001_1 t480 t481).bind fun t490 => (if t490 ≥ 0 then (some false) else ((turnpikeref1_Put.f 0 0 (wrap64 (t473 - 1)) 1).bind fun bt491 => (if (!(bt486.1 == bt491.1) || (!(bt486.2.1 == bt491.2))) = true then (some false) else (turnpikelaw2_AddrWalk.l0 k1 t478 t473 (wrap64 (x9_1 + 1)) t476 t477 t480 t481)))))) = some r := by rw [if_pos rfl] at H; exact H
              clear H
              have H := H1
              clear H1
              replace H := Option.bind_eq_some_iff.mp H
              obtain ⟨⟨t486, t487, t488⟩, A250, H⟩ := H
              replace H : ((turnpikeref1_Cmp.f k1 x480000_1 x480001_1 t480 t481).bind fun t490 => (if t490 ≥ 0 then (some false) else ((turnpikeref1_Put.f 0 0 (wrap64 (t473 - 1)) 1).bind fun bt491 => (if (!(t486 == bt491.1) || (!(t487 == bt491.2))) = true then (some false) else (turnpikelaw2_AddrWalk.l0 k1 t478 t473 (wrap64 (x9_1 + 1)) t476 t477 t480 t481))))) = some r := H
              have A25 := Aside0.mk A250
              clear A250
              replace H := Option.bind_eq_some_iff.mp H
              obtain ⟨t490, A260, H⟩ := H
              replace H : (if t490 ≥ 0 then (some false) else ((turnpikeref1_Put.f 0 0 (wrap64 (t473 - 1)) 1).bind fun bt491 => (if (!(t486 == bt491.1) || (!(t487 == bt491.2))) = true then (some false) else (turnpikelaw2_AddrWalk.l0 k1 t478 t473 (wrap64 (x9_1 + 1)) t476 t477 t480 t481)))) = some r := H
              have A26 := Aside0.mk A260
              clear A260
              by_cases c27 : t490 ≥ 0
              · rw [if_pos c27] at H
                have c27b0 : decide (0 ≤ t490) = true := decide_eq_true c27
                clear c27
                obtain rfl := Option.some.inj H
                exact absurd hr_.out (by decide)
              · rw [if_neg c27] at H
                have c27b0 : decide (0 ≤ t490) = false := decide_eq_false c27
                clear c27
                replace H := Option.bind_eq_some_iff.mp H
                obtain ⟨⟨t491, t492⟩, A280, H⟩ := H
                replace H : (if (!(t486 == t491) || (!(t487 == t492))) = true then (some false) else (turnpikelaw2_AddrWalk.l0 k1 t478 t473 (wrap64 (x9_1 + 1)) t476 t477 t480 t481)) = some r := H
                have A28 := Aside0.mk A280
                clear A280
                by_cases c29 : (!(t486 == t491) || (!(t487 == t492))) = true
                · rw [if_pos c29] at H
                  have c29b0 : (!(t486 == t491) || (!(t487 == t492))) = true := c29
                  clear c29
                  obtain rfl := Option.some.inj H
                  exact absurd hr_.out (by decide)
                · rw [if_neg c29] at H
                  have c29b0 : (!(t486 == t491) || (!(t487 == t492))) = false := by simpa using c29
                  clear c29
                  have H' := Aside0.mk H
                  clear H
                  have hnb30 := NB479_471.out
                  have hnc30 := NB471_479.out
                  have hcz31_0 : wr.cell? ⟨gb479, 0, none⟩ = some (.int .u64 x480000_1) := (blk_cell BK479.out 0).trans rfl
                  have hcz31_1 : wr.cell? ⟨gb479, 1, none⟩ = some (.int .u64 x480001_1) := (blk_cell BK479.out 1).trans rfl
                  have hfz31_0 := blk_frozen BK479.out 0
                  have hfz31_1 := blk_frozen BK479.out 1
                  try go_wp2_with (first | ((with_reducible refine gate_callee (f := 19) rfl ?_); refine goesL_ (some 38) rfl rfl Try.func19 (by kernel_rfl) rfl #[.int .i64 t473, .agg #[.int .u64 x480000_1, .int .u64 x480001_1]] rfl (by (try simp only [List.map_toArray, List.map_cons, List.map_nil]); first | done | rfl | (simp only [List.length_drop, List.length_take]; rfl)) ?_; (with_reducible refine (addr_Next.calls k1 t473 x480000_1 x480001_1 t480 t481 true _ A23.out).mono ?_); rintro e w32 ⟨rfl, hb⟩; refine ⟨_, rfl, ?_⟩; have n0_ := Aside0.mk (blk_below (g := gb471) (o := .cells #[.int .u64 t476, .int .u64 t477] 24 (0, 0)) (by (with_reducible repeat (first | refine blk_drewN ?_ _ | refine blk_drew ?_ | refine blk_alloc ?_ _)); exact BK471.out) hb); have n1_ := Aside0.mk (blk_below (g := gb479) (o := .cells #[.int .u64 x480000_1, .int .u64 x480001_1] 24 (0, 0)) (by (with_reducible repeat (first | refine blk_drewN ?_ _ | refine blk_drew ?_ | refine blk_alloc ?_ _)); exact BK479.out) hb); have n2_ := Aside0.mk (below_step (by repeat (first | (with_reducible first | exact HB.out | apply below_alloc | apply pw_below_drewN | apply below_drew1 | refine below_set ?_ GE471.out | refine below_set ?_ GE479.out) | exact HB.out)) hb); clear BK471; clear BK479; clear HB; have BK471 := n0_; have BK479 := n1_; have HB := n2_; clear n0_ n1_ n2_; (try clear hb); (try clear hb2); (try clear hk); (try clear hi)) | ((with_reducible refine gate_dst (N := 10) rfl ?_); refine box_event ?hg (N := 10) ?hd (cs := #[.int .u64 0, .int .u64 0]) (t := 24) ?hr ?_; (case hd => rfl); (case hg => rfl); (case hr => first | (go_simp; done) | (go_simp; rfl)); intro gb483 hg w33 hbox hb; have n0_ := Aside0.mk (blk_below (g := gb471) (o := .cells #[.int .u64 t476, .int .u64 t477] 24 (0, 0)) (by (with_reducible repeat (first | refine blk_drewN ?_ _ | refine blk_drew ?_ | refine blk_alloc ?_ _)); exact BK471.out) hb); have n1_ := Aside0.mk (blk_below (g := gb479) (o := .cells #[.int .u64 x480000_1, .int .u64 x480001_1] 24 (0, 0)) (by (with_reducible repeat (first | refine blk_drewN ?_ _ | refine blk_drew ?_ | refine blk_alloc ?_ _)); exact BK479.out) hb); have n2_ := Aside0.mk (below_step (by repeat (first | (with_reducible first | exact HB.out | apply below_alloc | apply pw_below_drewN | apply below_drew1 | refine below_set ?_ GE471.out | refine below_set ?_ GE479.out) | exact HB.out)) hb); have n3_ := Aside0.mk (hbox); have n4_ := Aside0.mk ((by rw [hg]; exact (below_size (by repeat (first | (with_reducible first | exact HB.out | apply below_alloc | apply pw_below_drewN | apply below_drew1 | refine below_set ?_ GE471.out | refine below_set ?_ GE479.out) | exact HB.out))) : w.heap.size ≤ gb483)); have n5_ := Aside0.mk ((by rw [hg]; exact (below_size (by repeat (first | (with_reducible first | exact HB.out | apply below_alloc | apply pw_below_drewN | apply below_drew1 | refine below_set ?_ GE471.out | refine below_set ?_ GE479.out) | exact HB.out))) : w.heap.size ≤ gb483)); have n6_ := Aside0.mk ((by rw [hg]; exact Nat.ne_of_lt (blk_lt (g := gb471) (o := .cells #[.int .u64 t476, .int .u64 t477] 24 (0, 0)) (by (with_reducible repeat (first | refine blk_drewN ?_ _ | refine blk_drew ?_ | refine blk_alloc ?_ _)); exact BK471.out)) : gb471 ≠ gb483)); have n7_ := Aside0.mk ((by rw [hg]; exact Nat.ne_of_gt (blk_lt (g := gb471) (o := .cells #[.int .u64 t476, .int .u64 t477] 24 (0, 0)) (by (with_reducible repeat (first | refine blk_drewN ?_ _ | refine blk_drew ?_ | refine blk_alloc ?_ _)); exact BK471.out)) : gb483 ≠ gb471)); have n8_ := Aside0.mk ((by rw [hg]; exact Nat.ne_of_lt (blk_lt (g := gb479) (o := .cells #[.int .u64 x480000_1, .int .u64 x480001_1] 24 (0, 0)) (by (with_reducible repeat (first | refine blk_drewN ?_ _ | refine blk_drew ?_ | refine blk_alloc ?_ _)); exact BK479.out)) : gb479 ≠ gb483)); have n9_ := Aside0.mk ((by rw [hg]; exact Nat.ne_of_gt (blk_lt (g := gb479) (o := .cells #[.int .u64 x480000_1, .int .u64 x480001_1] 24 (0, 0)) (by (with_reducible repeat (first | refine blk_drewN ?_ _ | refine blk_drew ?_ | refine blk_alloc ?_ _)); exact BK479.out)) : gb483 ≠ gb479)); clear BK471; clear BK479; clear HB; have BK471 := n0_; have BK479 := n1_; have HB := n2_; have BK483 := n3_; have GW483 := n4_; have GE483 := n5_; have NB471_483 := n6_; have NB483_471 := n7_; have NB479_483 := n8_; have NB483_479 := n9_; clear n0_ n1_ n2_ n3_ n4_ n5_ n6_ n7_ n8_ n9_; clear hb hbox hg; have hnb34 := NB483_471.out; have hnc34 := NB471_483.out; have hnb35 := NB483_479.out; have hnc35 := NB479_483.out; have hcz36_0 : w33.cell? ⟨gb483, 0, none⟩ = some (.int .u64 0) := (blk_cell BK483.out 0).trans rfl; have hcz36_1 : w33.cell? ⟨gb483, 1, none⟩ = some (.int .u64 0) := (blk_cell BK483.out 1).trans rfl; have hfz36_0 := blk_frozen BK483.out 0; have hfz36_1 := blk_frozen BK483.out 1; have hcz37_0 : w33.cell? ⟨gb479, 0, none⟩ = some (.int .u64 x480000_1) := (blk_cell BK479.out 0).trans rfl; have hcz37_1 : w33.cell? ⟨gb479, 1, none⟩ = some (.int .u64 x480001_1) := (blk_cell BK479.out 1).trans rfl; have hfz37_0 := blk_frozen BK479.out 0; have hfz37_1 := blk_frozen BK479.out 1) | ((with_reducible refine gate_callee (f := 28) rfl ?_); refine goesL_ (some 50) rfl rfl Try.func28 (by kernel_rfl) rfl #[.agg #[.int .u64 t480, .int .u64 t481], .agg #[.int .u64 x480000_1, .int .u64 x480001_1]] rfl (by (try simp only [List.map_toArray, List.map_cons, List.map_nil]); first | done | rfl | (simp only [List.length_drop, List.length_take]; rfl)) ?_; (with_reducible refine (turnpikeref1_Sub.calls k1 t480 t481 x480000_1 x480001_1 t486 t487 t488 _ A25.out).mono ?_); rintro e w38 ⟨rfl, hb⟩; refine ⟨_, rfl, ?_⟩; have n0_ := Aside0.mk (blk_below (g := gb471) (o := .cells #[.int .u64 t476, .int .u64 t477] 24 (0, 0)) (by (with_reducible repeat (first | refine blk_drewN ?_ _ | refine blk_drew ?_ | refine blk_alloc ?_ _)); refine blk_far ?_ NB471_483.out _; (with_reducible repeat (first | refine blk_drewN ?_ _ | refine blk_drew ?_ | refine blk_alloc ?_ _)); refine blk_far ?_ NB471_483.out _; (with_reducible repeat (first | refine blk_drewN ?_ _ | refine blk_drew ?_ | refine blk_alloc ?_ _)); exact BK471.out) hb); have n1_ := Aside0.mk (blk_below (g := gb479) (o := .cells #[.int .u64 x480000_1, .int .u64 x480001_1] 24 (0, 0)) (by (with_reducible repeat (first | refine blk_drewN ?_ _ | refine blk_drew ?_ | refine blk_alloc ?_ _)); refine blk_far ?_ NB479_483.out _; (with_reducible repeat (first | refine blk_drewN ?_ _ | refine blk_drew ?_ | refine blk_alloc ?_ _)); refine blk_far ?_ NB479_483.out _; (with_reducible repeat (first | refine blk_drewN ?_ _ | refine blk_drew ?_ | refine blk_alloc ?_ _)); exact BK479.out) hb); have n2_ := Aside0.mk (blk_below (g := gb483) (o := .cells #[.int .u64 t480, .int .u64 t481] 24 (0, 0)) (by (with_reducible repeat (first | refine blk_drewN ?_ _ | refine blk_drew ?_ | refine blk_alloc ?_ _)); refine blk_put (cs := #[.int .u64 t480, .int .u64 0]) ?_ 1 _ rfl; (with_reducible repeat (first | refine blk_drewN ?_ _ | refine blk_drew ?_ | refine blk_alloc ?_ _)); refine blk_put (cs := #[.int .u64 0, .int .u64 0]) ?_ 0 _ rfl; (with_reducible repeat (first | refine blk_drewN ?_ _ | refine blk_drew ?_ | refine blk_alloc ?_ _)); exact BK483.out) hb); have n3_ := Aside0.mk (below_step (by repeat (first | (with_reducible first | exact HB.out | apply below_alloc | apply pw_below_drewN | apply below_drew1 | refine below_set ?_ GE471.out | refine below_set ?_ GE479.out | refine below_set ?_ GE483.out) | exact HB.out)) hb); clear BK471; clear BK479; clear BK483; clear HB; have BK471 := n0_; have BK479 := n1_; have BK483 := n2_; have HB := n3_; clear n0_ n1_ n2_ n3_; (try clear hb); (try clear hb2); (try clear hk); (try clear hi)) | ((with_reducible refine gate_dst (N := 12) rfl ?_); refine box_event ?hg (N := 12) ?hd (cs := #[.int .u64 0, .int .u64 0]) (t := 24) ?hr ?_; (case hd => rfl); (case hg => rfl); (case hr => first | (go_simp; done) | (go_simp; rfl)); intro gb489 hg w39 hbox hb; have n0_ := Aside0.mk (blk_below (g := gb471) (o := .cells #[.int .u64 t476, .int .u64 t477] 24 (0, 0)) (by (with_reducible repeat (first | refine blk_drewN ?_ _ | refine blk_drew ?_ | refine blk_alloc ?_ _)); exact BK471.out) hb); have n1_ := Aside0.mk (blk_below (g := gb479) (o := .cells #[.int .u64 x480000_1, .int .u64 x480001_1] 24 (0, 0)) (by (with_reducible repeat (first | refine blk_drewN ?_ _ | refine blk_drew ?_ | refine blk_alloc ?_ _)); exact BK479.out) hb); have n2_ := Aside0.mk (blk_below (g := gb483) (o := .cells #[.int .u64 t480, .int .u64 t481] 24 (0, 0)) (by (with_reducible repeat (first | refine blk_drewN ?_ _ | refine blk_drew ?_ | refine blk_alloc ?_ _)); exact BK483.out) hb); have n3_ := Aside0.mk (below_step (by repeat (first | (with_reducible first | exact HB.out | apply below_alloc | apply pw_below_drewN | apply below_drew1 | refine below_set ?_ GE471.out | refine below_set ?_ GE479.out | refine below_set ?_ GE483.out) | exact HB.out)) hb); have n4_ := Aside0.mk (hbox); have n5_ := Aside0.mk ((by rw [hg]; exact (below_size (by repeat (first | (with_reducible first | exact HB.out | apply below_alloc | apply pw_below_drewN | apply below_drew1 | refine below_set ?_ GE471.out | refine below_set ?_ GE479.out | refine below_set ?_ GE483.out) | exact HB.out))) : w.heap.size ≤ gb489)); have n6_ := Aside0.mk ((by rw [hg]; exact (below_size (by repeat (first | (with_reducible first | exact HB.out | apply below_alloc | apply pw_below_drewN | apply below_drew1 | refine below_set ?_ GE471.out | refine below_set ?_ GE479.out | refine below_set ?_ GE483.out) | exact HB.out))) : w.heap.size ≤ gb489)); have n7_ := Aside0.mk ((by rw [hg]; exact Nat.ne_of_lt (blk_lt (g := gb471) (o := .cells #[.int .u64 t476, .int .u64 t477] 24 (0, 0)) (by (with_reducible repeat (first | refine blk_drewN ?_ _ | refine blk_drew ?_ | refine blk_alloc ?_ _)); exact BK471.out)) : gb471 ≠ gb489)); have n8_ := Aside0.mk ((by rw [hg]; exact Nat.ne_of_gt (blk_lt (g := gb471) (o := .cells #[.int .u64 t476, .int .u64 t477] 24 (0, 0)) (by (with_reducible repeat (first | refine blk_drewN ?_ _ | refine blk_drew ?_ | refine blk_alloc ?_ _)); exact BK471.out)) : gb489 ≠ gb471)); have n9_ := Aside0.mk ((by rw [hg]; exact Nat.ne_of_lt (blk_lt (g := gb479) (o := .cells #[.int .u64 x480000_1, .int .u64 x480001_1] 24 (0, 0)) (by (with_reducible repeat (first | refine blk_drewN ?_ _ | refine blk_drew ?_ | refine blk_alloc ?_ _)); exact BK479.out)) : gb479 ≠ gb489)); have n10_ := Aside0.mk ((by rw [hg]; exact Nat.ne_of_gt (blk_lt (g := gb479) (o := .cells #[.int .u64 x480000_1, .int .u64 x480001_1] 24 (0, 0)) (by (with_reducible repeat (first | refine blk_drewN ?_ _ | refine blk_drew ?_ | refine blk_alloc ?_ _)); exact BK479.out)) : gb489 ≠ gb479)); have n11_ := Aside0.mk ((by rw [hg]; exact Nat.ne_of_lt (blk_lt (g := gb483) (o := .cells #[.int .u64 t480, .int .u64 t481] 24 (0, 0)) (by (with_reducible repeat (first | refine blk_drewN ?_ _ | refine blk_drew ?_ | refine blk_alloc ?_ _)); exact BK483.out)) : gb483 ≠ gb489)); have n12_ := Aside0.mk ((by rw [hg]; exact Nat.ne_of_gt (blk_lt (g := gb483) (o := .cells #[.int .u64 t480, .int .u64 t481] 24 (0, 0)) (by (with_reducible repeat (first | refine blk_drewN ?_ _ | refine blk_drew ?_ | refine blk_alloc ?_ _)); exact BK483.out)) : gb489 ≠ gb483)); clear BK471; clear BK479; clear BK483; clear HB; have BK471 := n0_; have BK479 := n1_; have BK483 := n2_; have HB := n3_; have BK489 := n4_; have GW489 := n5_; have GE489 := n6_; have NB471_489 := n7_; have NB489_471 := n8_; have NB479_489 := n9_; have NB489_479 := n10_; have NB483_489 := n11_; have NB489_483 := n12_; clear n0_ n1_ n2_ n3_ n4_ n5_ n6_ n7_ n8_ n9_ n10_ n11_ n12_; clear hb hbox hg; have hnb40 := NB489_471.out; have hnc40 := NB471_489.out; have hnb41 := NB489_479.out; have hnc41 := NB479_489.out; have hnb42 := NB489_483.out; have hnc42 := NB483_489.out; have hcz43_0 : w39.cell? ⟨gb489, 0, none⟩ = some (.int .u64 0) := (blk_cell BK489.out 0).trans rfl; have hcz43_1 : w39.cell? ⟨gb489, 1, none⟩ = some (.int .u64 0) := (blk_cell BK489.out 1).trans rfl; have hfz43_0 := blk_frozen BK489.out 0; have hfz43_1 := blk_frozen BK489.out 1))
                  have n0_ : Aside0 (((w39.setCell ⟨gb489, 0, none⟩ (.int .u64 t486)).setCell ⟨gb489, 1, none⟩ (.int .u64 t487)).heap[gb471]? = some (.cells #[.int .u64 t476, .int .u64 t477] 24 (0, 0))) := ⟨by (with_reducible repeat (first | refine blk_drewN ?_ _ | refine blk_drew ?_ | refine blk_alloc ?_ _)); refine blk_far ?_ NB471_489.out _; (with_reducible repeat (first | refine blk_drewN ?_ _ | refine blk_drew ?_ | refine blk_alloc ?_ _)); refine blk_far ?_ NB471_489.out _; (with_reducible repeat (first | refine blk_drewN ?_ _ | refine blk_drew ?_ | refine blk_alloc ?_ _)); exact BK471.out⟩
                  have n1_ : Aside0 (((w39.setCell ⟨gb489, 0, none⟩ (.int .u64 t486)).setCell ⟨gb489, 1, none⟩ (.int .u64 t487)).heap[gb479]? = some (.cells #[.int .u64 x480000_1, .int .u64 x480001_1] 24 (0, 0))) := ⟨by (with_reducible repeat (first | refine blk_drewN ?_ _ | refine blk_drew ?_ | refine blk_alloc ?_ _)); refine blk_far ?_ NB479_489.out _; (with_reducible repeat (first | refine blk_drewN ?_ _ | refine blk_drew ?_ | refine blk_alloc ?_ _)); refine blk_far ?_ NB479_489.out _; (with_reducible repeat (first | refine blk_drewN ?_ _ | refine blk_drew ?_ | refine blk_alloc ?_ _)); exact BK479.out⟩
                  have n2_ : Aside0 (((w39.setCell ⟨gb489, 0, none⟩ (.int .u64 t486)).setCell ⟨gb489, 1, none⟩ (.int .u64 t487)).heap[gb483]? = some (.cells #[.int .u64 t480, .int .u64 t481] 24 (0, 0))) := ⟨by (with_reducible repeat (first | refine blk_drewN ?_ _ | refine blk_drew ?_ | refine blk_alloc ?_ _)); refine blk_far ?_ NB483_489.out _; (with_reducible repeat (first | refine blk_drewN ?_ _ | refine blk_drew ?_ | refine blk_alloc ?_ _)); refine blk_far ?_ NB483_489.out _; (with_reducible repeat (first | refine blk_drewN ?_ _ | refine blk_drew ?_ | refine blk_alloc ?_ _)); exact BK483.out⟩
                  have n3_ : Aside0 (((w39.setCell ⟨gb489, 0, none⟩ (.int .u64 t486)).setCell ⟨gb489, 1, none⟩ (.int .u64 t487)).heap[gb489]? = some (.cells #[.int .u64 t486, .int .u64 t487] 24 (0, 0))) := ⟨by (with_reducible repeat (first | refine blk_drewN ?_ _ | refine blk_drew ?_ | refine blk_alloc ?_ _)); refine blk_put (cs := #[.int .u64 t486, .int .u64 0]) ?_ 1 _ rfl; (with_reducible repeat (first | refine blk_drewN ?_ _ | refine blk_drew ?_ | refine blk_alloc ?_ _)); refine blk_put (cs := #[.int .u64 0, .int .u64 0]) ?_ 0 _ rfl; (with_reducible repeat (first | refine blk_drewN ?_ _ | refine blk_drew ?_ | refine blk_alloc ?_ _)); exact BK489.out⟩
                  have n4_ : Aside0 (Below w.heap.size w ((w39.setCell ⟨gb489, 0, none⟩ (.int .u64 t486)).setCell ⟨gb489, 1, none⟩ (.int .u64 t487))) := ⟨by repeat (first | (with_reducible first | exact HB.out | apply below_alloc | apply pw_below_drewN | apply below_drew1 | refine below_set ?_ GE471.out | refine below_set ?_ GE479.out | refine below_set ?_ GE483.out | refine below_set ?_ GE489.out) | exact HB.out)⟩
                  (try clear BK471)
                  (try clear BK479)
                  (try clear BK483)
                  (try clear BK489)
                  (try clear HB)
                  generalize ((w39.setCell ⟨gb489, 0, none⟩ (.int .u64 t486)).setCell ⟨gb489, 1, none⟩ (.int .u64 t487)) = w44 at n0_ n1_ n2_ n3_ n4_ ⊢
                  have BK471 := n0_
                  have BK479 := n1_
                  have BK483 := n2_
                  have BK489 := n3_
                  have HB := n4_
                  clear n0_ n1_ n2_ n3_ n4_
                  have n0_ := Aside0.mk (blk_drew BK471.out)
                  have n1_ := Aside0.mk (blk_drew BK479.out)
                  have n2_ := Aside0.mk (blk_drew BK483.out)
                  have n3_ := Aside0.mk (blk_drew BK489.out)
                  have n4_ := Aside0.mk (below_drew1 HB.out)
                  clear BK471
                  clear BK479
                  clear BK483
                  clear BK489
                  clear HB
                  have BK471 := n0_
                  have BK479 := n1_
                  have BK483 := n2_
                  have BK489 := n3_
                  have HB := n4_
                  clear n0_ n1_ n2_ n3_ n4_
                  refine start_ (n := 12) (S := fun w' => w'.cell? ⟨gb479, 0, none⟩ = some (.int .u64 x480000_1) ∧ w'.cell? ⟨gb479, 1, none⟩ = some (.int .u64 x480001_1) ∧ w'.cell? ⟨gb483, 0, none⟩ = some (.int .u64 t480) ∧ w'.cell? ⟨gb483, 1, none⟩ = some (.int .u64 t481) ∧ w'.cell? ⟨gb489, 0, none⟩ = some (.int .u64 t486) ∧ w'.cell? ⟨gb489, 1, none⟩ = some (.int .u64 t487)) (ds := []) #[false, false, false, false, false, false, false, false, false, false, false, false] (by kernel_rfl) rfl rfl ⟨(blk_cell BK479.out 0).trans rfl, (blk_cell BK479.out 1).trans rfl, (blk_cell BK483.out 0).trans rfl, (blk_cell BK483.out 1).trans rfl, (blk_cell BK489.out 0).trans rfl, (blk_cell BK489.out 1).trans rfl⟩ (fun hHeld => ?_); refine with_tabW turnpikelaw2_AddrWalk.tab14 turnpikelaw2_AddrWalk.bits14 (fun HT_ HW_ => ?_)
                  generalize w44.drew = w45 at BK471 BK479 BK483 BK489 HB hHeld ⊢
                  refine take_ (i := 0) (N := some 53) (v := ?_) (a' := ?_) #[true, false, false, false, false, false, false, false, false, false, false, false] rfl rfl (take_ofW HT_.out HW_.out (by kernel_rfl)) (fun _ _ _ h => h) (Or.inl ⟨by rfl, ?_⟩) hHeld ?_ ?_
                  rotate_left
                  · rintro w' ⟨s0, s1, s2, s3, s4, s5⟩
                    go_simp
                    with_reducible rfl
                  rotate_left
                  · simp only [Act.put, List.setIfInBounds_toArray, List.set_cons_zero, List.set_cons_succ, i64_w, i32_w]
                    rfl
                  refine take_ (i := 1) (N := some 54) (v := ?_) (a' := ?_) #[true, true, false, false, false, false, false, false, false, false, false, false] rfl rfl (take_ofW HT_.out HW_.out (by kernel_rfl)) (fun _ _ _ h => h) (Or.inl ⟨by rfl, ?_⟩) hHeld ?_ ?_
                  rotate_left
                  · rintro w' ⟨s0, s1, s2, s3, s4, s5⟩
                    go_simp
                    with_reducible rfl
                  rotate_left
                  · simp only [Act.put, List.setIfInBounds_toArray, List.set_cons_zero, List.set_cons_succ, i64_w, i32_w]
                    rfl
                  refine one_ (i := 2) (N := some 55) #[true, true, true, false, false, false, false, false, false, false, false, false] rfl rfl (one_of HT_.out (by kernel_rfl)) (by decide) (fun K hK => ?_)
                  refine goes_ Try.func29 (by kernel_rfl) rfl #[.agg #[.int .u64 x480000_1, .int .u64 x480001_1], .agg #[.int .u64 t480, .int .u64 t481]] (by rfl) rfl rfl (by (try simp only [List.map_toArray, List.map_cons, List.map_nil]); first | done | rfl | (simp only [List.length_drop, List.length_take]; rfl)) ?_
                  with_reducible refine (turnpikeref1_Cmp.calls k1 x480000_1 x480001_1 t480 t481 t490 _ A26.out).mono ?_
                  rintro e w46 ⟨rfl, hb⟩
                  refine ⟨_, rfl, ?_⟩
                  have n0_ := Aside0.mk (blk_below (g := gb471) (o := .cells #[.int .u64 t476, .int .u64 t477] 24 (0, 0)) (by (with_reducible repeat (first | refine blk_drewN ?_ _ | refine blk_drew ?_ | refine blk_alloc ?_ _)); exact BK471.out) hb)
                  have n1_ := Aside0.mk (blk_below (g := gb479) (o := .cells #[.int .u64 x480000_1, .int .u64 x480001_1] 24 (0, 0)) (by (with_reducible repeat (first | refine blk_drewN ?_ _ | refine blk_drew ?_ | refine blk_alloc ?_ _)); exact BK479.out) hb)
                  have n2_ := Aside0.mk (blk_below (g := gb483) (o := .cells #[.int .u64 t480, .int .u64 t481] 24 (0, 0)) (by (with_reducible repeat (first | refine blk_drewN ?_ _ | refine blk_drew ?_ | refine blk_alloc ?_ _)); exact BK483.out) hb)
                  have n3_ := Aside0.mk (blk_below (g := gb489) (o := .cells #[.int .u64 t486, .int .u64 t487] 24 (0, 0)) (by (with_reducible repeat (first | refine blk_drewN ?_ _ | refine blk_drew ?_ | refine blk_alloc ?_ _)); exact BK489.out) hb)
                  have n4_ := Aside0.mk (below_step (by repeat (first | (with_reducible first | exact HB.out | apply below_alloc | apply pw_below_drewN | apply below_drew1 | refine below_set ?_ GE471.out | refine below_set ?_ GE479.out | refine below_set ?_ GE483.out | refine below_set ?_ GE489.out) | exact HB.out)) hb)
                  clear BK471
                  clear BK479
                  clear BK483
                  clear BK489
                  clear HB
                  have BK471 := n0_
                  have BK479 := n1_
                  have BK483 := n2_
                  have BK489 := n3_
                  have HB := n4_
                  clear n0_ n1_ n2_ n3_ n4_
                  (try clear hb)
                  (try clear hb2)
                  (try clear hk)
                  (try clear hi)
                  refine hK.out _ _ ⟨(blk_cell BK479.out 0).trans rfl, (blk_cell BK479.out 1).trans rfl, (blk_cell BK483.out 0).trans rfl, (blk_cell BK483.out 1).trans rfl, (blk_cell BK489.out 0).trans rfl, (blk_cell BK489.out 1).trans rfl⟩ (fun hHeld => ?_)
                  clear hK K
                  refine norm_ (a' := ?_) ?_ ?_
                  rotate_left
                  · show Act.put _ (some 55) _ = _
                    simp only [Act.put, List.setIfInBounds_toArray, List.set_cons_zero, List.set_cons_succ, i64_w, i32_w]
                    rfl
                  refine pure_ (i := 3) (N := some 56) (v := ?_) (a' := ?_) #[true, true, true, true, false, false, false, false, false, false, false, false] rfl rfl (any_of HT_.out (by kernel_rfl)) (fun _ _ _ h => h) (Or.inl ⟨by rfl, ?_⟩) ?_ ?_
                  rotate_left
                  · intro w'
                    go_simp
                    with_reducible rfl
                  rotate_left
                  · simp only [Act.put, List.setIfInBounds_toArray, List.set_cons_zero, List.set_cons_succ, i64_w, i32_w]
                    rfl
                  refine pure_ (i := 4) (N := some 57) (v := ?_) (a' := ?_) #[true, true, true, true, true, false, false, false, false, false, false, false] rfl rfl (any_of HT_.out (by kernel_rfl)) (fun _ _ _ h => h) (Or.inl ⟨by rfl, ?_⟩) ?_ ?_
                  rotate_left
                  · intro w'
                    go_simp
                    with_reducible rfl
                  rotate_left
                  · simp only [Act.put, List.setIfInBounds_toArray, List.set_cons_zero, List.set_cons_succ, i64_w, i32_w]
                    rfl
                  refine pure_ (i := 6) (N := some 59) (v := ?_) (a' := ?_) #[true, true, true, true, true, false, true, false, false, false, false, false] rfl rfl (any_of HT_.out (by kernel_rfl)) (fun _ _ _ h => h) (Or.inl ⟨by rfl, ?_⟩) ?_ ?_
                  rotate_left
                  · intro w'
                    go_simp
                    with_reducible rfl
                  rotate_left
                  · simp only [Act.put, List.setIfInBounds_toArray, List.set_cons_zero, List.set_cons_succ, i64_w, i32_w]
                    rfl
                  refine pure_ (i := 7) (N := some 60) (v := ?_) (a' := ?_) #[true, true, true, true, true, false, true, true, false, false, false, false] rfl rfl (any_of HT_.out (by kernel_rfl)) (fun _ _ _ h => h) (Or.inl ⟨by rfl, ?_⟩) ?_ ?_
                  rotate_left
                  · intro w'
                    go_simp
                    with_reducible rfl
                  rotate_left
                  · simp only [Act.put, List.setIfInBounds_toArray, List.set_cons_zero, List.set_cons_succ, i64_w, i32_w]
                    rfl
                  refine pure_ (i := 8) (N := some 61) (v := ?_) (a' := ?_) #[true, true, true, true, true, false, true, true, true, false, false, false] rfl rfl (any_of HT_.out (by kernel_rfl)) (fun _ _ _ h => h) (Or.inl ⟨by rfl, ?_⟩) ?_ ?_
                  rotate_left
                  · intro w'
                    go_simp
                    with_reducible rfl
                  rotate_left
                  · simp only [Act.put, List.setIfInBounds_toArray, List.set_cons_zero, List.set_cons_succ, i64_w, i32_w]
                    rfl
                  refine take_ (i := 5) (N := some 58) (v := ?_) (a' := ?_) #[true, true, true, true, true, true, true, true, true, false, false, false] rfl rfl (take_ofW HT_.out HW_.out (by kernel_rfl)) (fun _ _ _ h => h) (Or.inl ⟨by rfl, ?_⟩) hHeld ?_ ?_
                  rotate_left
                  · rintro w' ⟨s0, s1, s2, s3, s4, s5⟩
                    go_simp
                    with_reducible rfl
                  rotate_left
                  · simp only [Act.put, List.setIfInBounds_toArray, List.set_cons_zero, List.set_cons_succ, i64_w, i32_w]
                    rfl
                  refine one_ (i := 9) (N := some 62) #[true, true, true, true, true, true, true, true, true, true, false, false] rfl rfl (one_of HT_.out (by kernel_rfl)) (by decide) (fun K hK => ?_)
                  refine goes_ Try.func30 (by kernel_rfl) rfl #[.agg #[.int .u64 0, .int .u64 0], .int .i64 (wrap64 (t473 - 1)), .int .i64 1] (by rfl) rfl rfl (by (try simp only [List.map_toArray, List.map_cons, List.map_nil]); first | done | rfl | (simp only [List.length_drop, List.length_take]; rfl)) ?_
                  with_reducible refine (turnpikeref1_Put.calls 0 0 (wrap64 (t473 - 1)) 1 t491 t492 _ A28.out).mono ?_
                  rintro e w47 ⟨rfl, hb⟩
                  refine ⟨_, rfl, ?_⟩
                  have n0_ := Aside0.mk (blk_below (g := gb471) (o := .cells #[.int .u64 t476, .int .u64 t477] 24 (0, 0)) (by (with_reducible repeat (first | refine blk_drewN ?_ _ | refine blk_drew ?_ | refine blk_alloc ?_ _)); exact BK471.out) hb)
                  have n1_ := Aside0.mk (blk_below (g := gb479) (o := .cells #[.int .u64 x480000_1, .int .u64 x480001_1] 24 (0, 0)) (by (with_reducible repeat (first | refine blk_drewN ?_ _ | refine blk_drew ?_ | refine blk_alloc ?_ _)); exact BK479.out) hb)
                  have n2_ := Aside0.mk (blk_below (g := gb483) (o := .cells #[.int .u64 t480, .int .u64 t481] 24 (0, 0)) (by (with_reducible repeat (first | refine blk_drewN ?_ _ | refine blk_drew ?_ | refine blk_alloc ?_ _)); exact BK483.out) hb)
                  have n3_ := Aside0.mk (blk_below (g := gb489) (o := .cells #[.int .u64 t486, .int .u64 t487] 24 (0, 0)) (by (with_reducible repeat (first | refine blk_drewN ?_ _ | refine blk_drew ?_ | refine blk_alloc ?_ _)); exact BK489.out) hb)
                  have n4_ := Aside0.mk (below_step (by repeat (first | (with_reducible first | exact HB.out | apply below_alloc | apply pw_below_drewN | apply below_drew1 | refine below_set ?_ GE471.out | refine below_set ?_ GE479.out | refine below_set ?_ GE483.out | refine below_set ?_ GE489.out) | exact HB.out)) hb)
                  clear BK471
                  clear BK479
                  clear BK483
                  clear BK489
                  clear HB
                  have BK471 := n0_
                  have BK479 := n1_
                  have BK483 := n2_
                  have BK489 := n3_
                  have HB := n4_
                  clear n0_ n1_ n2_ n3_ n4_
                  (try clear hb)
                  (try clear hb2)
                  (try clear hk)
                  (try clear hi)
                  refine hK.out _ _ ⟨(blk_cell BK479.out 0).trans rfl, (blk_cell BK479.out 1).trans rfl, (blk_cell BK483.out 0).trans rfl, (blk_cell BK483.out 1).trans rfl, (blk_cell BK489.out 0).trans rfl, (blk_cell BK489.out 1).trans rfl⟩ (fun hHeld => ?_)
                  clear hK K
                  refine norm_ (a' := ?_) ?_ ?_
                  rotate_left
                  · show Act.put _ (some 62) _ = _
                    simp only [Act.put, List.setIfInBounds_toArray, List.set_cons_zero, List.set_cons_succ, i64_w, i32_w]
                    rfl
                  refine pure_ (i := 10) (N := some 63) (v := ?_) (a' := ?_) #[true, true, true, true, true, true, true, true, true, true, true, false] rfl rfl (any_of HT_.out (by kernel_rfl)) (fun _ _ _ h => h) (Or.inl ⟨by rfl, ?_⟩) ?_ ?_
                  rotate_left
                  · intro w'
                    go_simp
                    with_reducible rfl
                  rotate_left
                  · simp only [Act.put, List.setIfInBounds_toArray, List.set_cons_zero, List.set_cons_succ, i64_w, i32_w]
                    rfl
                  refine pure_ (i := 11) (N := some 64) (v := ?_) (a' := ?_) #[true, true, true, true, true, true, true, true, true, true, true, true] rfl rfl (any_of HT_.out (by kernel_rfl)) (fun _ _ _ h => h) (Or.inl ⟨by rfl, ?_⟩) ?_ ?_
                  rotate_left
                  · intro w'
                    go_simp
                    with_reducible rfl
                  rotate_left
                  · simp only [Act.put, List.setIfInBounds_toArray, List.set_cons_zero, List.set_cons_succ, i64_w, i32_w]
                    rfl
                  refine done_ (done_of HT_.out (by kernel_rfl)) ?_
                  have hcz48_0 : w47.cell? ⟨gb483, 0, none⟩ = some (.int .u64 t480) := (blk_cell BK483.out 0).trans rfl
                  have hcz48_1 : w47.cell? ⟨gb483, 1, none⟩ = some (.int .u64 t481) := (blk_cell BK483.out 1).trans rfl
                  have hfz48_0 := blk_frozen BK483.out 0
                  have hfz48_1 := blk_frozen BK483.out 1
                  have hcz49_0 : w47.cell? ⟨gb479, 0, none⟩ = some (.int .u64 x480000_1) := (blk_cell BK479.out 0).trans rfl
                  have hcz49_1 : w47.cell? ⟨gb479, 1, none⟩ = some (.int .u64 x480001_1) := (blk_cell BK479.out 1).trans rfl
                  have hfz49_0 := blk_frozen BK479.out 0
                  have hfz49_1 := blk_frozen BK479.out 1
                  try go_wp2
                  go_roundg k1
                  case measure => have := HK1.out; omega
                  case rel => exact ⟨(wrap64 (x9_1 + 1)), (t480), (t481), (by first | rfl | (simp; done) | (simp [*]; done) | exact congrArg Value.bool (isEmpty_bne _)), H', ⟨by have := HK1.out; omega⟩, ⟨by (with_reducible repeat (first | refine blk_drewN ?_ _ | refine blk_drew ?_ | refine blk_alloc ?_ _)); refine blk_far ?_ NB471_479.out _; (with_reducible repeat (first | refine blk_drewN ?_ _ | refine blk_drew ?_ | refine blk_alloc ?_ _)); refine blk_far ?_ NB471_479.out _; (with_reducible repeat (first | refine blk_drewN ?_ _ | refine blk_drew ?_ | refine blk_alloc ?_ _)); exact BK471.out⟩, ⟨by (with_reducible repeat (first | refine blk_drewN ?_ _ | refine blk_drew ?_ | refine blk_alloc ?_ _)); refine blk_put (cs := #[.int .u64 t480, .int .u64 x480001_1]) ?_ 1 _ rfl; (with_reducible repeat (first | refine blk_drewN ?_ _ | refine blk_drew ?_ | refine blk_alloc ?_ _)); refine blk_put (cs := #[.int .u64 x480000_1, .int .u64 x480001_1]) ?_ 0 _ rfl; (with_reducible repeat (first | refine blk_drewN ?_ _ | refine blk_drew ?_ | refine blk_alloc ?_ _)); exact BK479.out⟩, ⟨by repeat (first | (with_reducible first | exact HB.out | apply below_alloc | apply pw_below_drewN | apply below_drew1 | refine below_set ?_ GE471.out | refine below_set ?_ GE479.out | refine below_set ?_ GE483.out | refine below_set ?_ GE489.out) | exact HB.out)⟩⟩
            · replace c24 := Bool.eq_false_iff.mpr c24
              subst c24
              have H1 : ((turnpikeref1_Mask.f k1 t473).bind fun bt484 => (if (!(x480000_1 == bt484.1) || (!(x480001_1 == bt484.2))) = true then (some false) else (turnpikelaw2_AddrWalk.j1 k1 t473 x9_1 t476 t477 x480000_1 x480001_1))) = some r := by rw [if_neg (show ¬ (false = true) by decide)] at H; exact H
              clear H
              have H := H1
              clear H1
              replace H := Option.bind_eq_some_iff.mp H
              obtain ⟨⟨t484, t485⟩, A500, H⟩ := H
              replace H : (if (!(x480000_1 == t484) || (!(x480001_1 == t485))) = true then (some false) else (turnpikelaw2_AddrWalk.j1 k1 t473 x9_1 t476 t477 x480000_1 x480001_1)) = some r := H
              have A50 := Aside0.mk A500
              clear A500
              by_cases c51 : (!(x480000_1 == t484) || (!(x480001_1 == t485))) = true
              · rw [if_pos c51] at H
                have c51b0 : (!(x480000_1 == t484) || (!(x480001_1 == t485))) = true := c51
                clear c51
                obtain rfl := Option.some.inj H
                exact absurd hr_.out (by decide)
              · rw [if_neg c51] at H
                have c51b0 : (!(x480000_1 == t484) || (!(x480001_1 == t485))) = false := by simpa using c51
                clear c51
                have H' := Aside0.mk H
                clear H
                have hnb52 := NB479_471.out
                have hnc52 := NB471_479.out
                have hcz53_0 : wr.cell? ⟨gb479, 0, none⟩ = some (.int .u64 x480000_1) := (blk_cell BK479.out 0).trans rfl
                have hcz53_1 : wr.cell? ⟨gb479, 1, none⟩ = some (.int .u64 x480001_1) := (blk_cell BK479.out 1).trans rfl
                have hfz53_0 := blk_frozen BK479.out 0
                have hfz53_1 := blk_frozen BK479.out 1
                try go_wp2_with (first | ((with_reducible refine gate_callee (f := 19) rfl ?_); refine goesL_ (some 38) rfl rfl Try.func19 (by kernel_rfl) rfl #[.int .i64 t473, .agg #[.int .u64 x480000_1, .int .u64 x480001_1]] rfl (by (try simp only [List.map_toArray, List.map_cons, List.map_nil]); first | done | rfl | (simp only [List.length_drop, List.length_take]; rfl)) ?_; (with_reducible refine (addr_Next.calls k1 t473 x480000_1 x480001_1 t480 t481 false _ A23.out).mono ?_); rintro e w54 ⟨rfl, hb⟩; refine ⟨_, rfl, ?_⟩; have n0_ := Aside0.mk (blk_below (g := gb471) (o := .cells #[.int .u64 t476, .int .u64 t477] 24 (0, 0)) (by (with_reducible repeat (first | refine blk_drewN ?_ _ | refine blk_drew ?_ | refine blk_alloc ?_ _)); exact BK471.out) hb); have n1_ := Aside0.mk (blk_below (g := gb479) (o := .cells #[.int .u64 x480000_1, .int .u64 x480001_1] 24 (0, 0)) (by (with_reducible repeat (first | refine blk_drewN ?_ _ | refine blk_drew ?_ | refine blk_alloc ?_ _)); exact BK479.out) hb); have n2_ := Aside0.mk (below_step (by repeat (first | (with_reducible first | exact HB.out | apply below_alloc | apply pw_below_drewN | apply below_drew1 | refine below_set ?_ GE471.out | refine below_set ?_ GE479.out) | exact HB.out)) hb); clear BK471; clear BK479; clear HB; have BK471 := n0_; have BK479 := n1_; have HB := n2_; clear n0_ n1_ n2_; (try clear hb); (try clear hb2); (try clear hk); (try clear hi)) | ((with_reducible refine gate_dst (N := 10) rfl ?_); refine box_event ?hg (N := 10) ?hd (cs := #[.int .u64 0, .int .u64 0]) (t := 24) ?hr ?_; (case hd => rfl); (case hg => rfl); (case hr => first | (go_simp; done) | (go_simp; rfl)); intro gb483 hg w55 hbox hb; have n0_ := Aside0.mk (blk_below (g := gb471) (o := .cells #[.int .u64 t476, .int .u64 t477] 24 (0, 0)) (by (with_reducible repeat (first | refine blk_drewN ?_ _ | refine blk_drew ?_ | refine blk_alloc ?_ _)); exact BK471.out) hb); have n1_ := Aside0.mk (blk_below (g := gb479) (o := .cells #[.int .u64 x480000_1, .int .u64 x480001_1] 24 (0, 0)) (by (with_reducible repeat (first | refine blk_drewN ?_ _ | refine blk_drew ?_ | refine blk_alloc ?_ _)); exact BK479.out) hb); have n2_ := Aside0.mk (below_step (by repeat (first | (with_reducible first | exact HB.out | apply below_alloc | apply pw_below_drewN | apply below_drew1 | refine below_set ?_ GE471.out | refine below_set ?_ GE479.out) | exact HB.out)) hb); have n3_ := Aside0.mk (hbox); have n4_ := Aside0.mk ((by rw [hg]; exact (below_size (by repeat (first | (with_reducible first | exact HB.out | apply below_alloc | apply pw_below_drewN | apply below_drew1 | refine below_set ?_ GE471.out | refine below_set ?_ GE479.out) | exact HB.out))) : w.heap.size ≤ gb483)); have n5_ := Aside0.mk ((by rw [hg]; exact (below_size (by repeat (first | (with_reducible first | exact HB.out | apply below_alloc | apply pw_below_drewN | apply below_drew1 | refine below_set ?_ GE471.out | refine below_set ?_ GE479.out) | exact HB.out))) : w.heap.size ≤ gb483)); have n6_ := Aside0.mk ((by rw [hg]; exact Nat.ne_of_lt (blk_lt (g := gb471) (o := .cells #[.int .u64 t476, .int .u64 t477] 24 (0, 0)) (by (with_reducible repeat (first | refine blk_drewN ?_ _ | refine blk_drew ?_ | refine blk_alloc ?_ _)); exact BK471.out)) : gb471 ≠ gb483)); have n7_ := Aside0.mk ((by rw [hg]; exact Nat.ne_of_gt (blk_lt (g := gb471) (o := .cells #[.int .u64 t476, .int .u64 t477] 24 (0, 0)) (by (with_reducible repeat (first | refine blk_drewN ?_ _ | refine blk_drew ?_ | refine blk_alloc ?_ _)); exact BK471.out)) : gb483 ≠ gb471)); have n8_ := Aside0.mk ((by rw [hg]; exact Nat.ne_of_lt (blk_lt (g := gb479) (o := .cells #[.int .u64 x480000_1, .int .u64 x480001_1] 24 (0, 0)) (by (with_reducible repeat (first | refine blk_drewN ?_ _ | refine blk_drew ?_ | refine blk_alloc ?_ _)); exact BK479.out)) : gb479 ≠ gb483)); have n9_ := Aside0.mk ((by rw [hg]; exact Nat.ne_of_gt (blk_lt (g := gb479) (o := .cells #[.int .u64 x480000_1, .int .u64 x480001_1] 24 (0, 0)) (by (with_reducible repeat (first | refine blk_drewN ?_ _ | refine blk_drew ?_ | refine blk_alloc ?_ _)); exact BK479.out)) : gb483 ≠ gb479)); clear BK471; clear BK479; clear HB; have BK471 := n0_; have BK479 := n1_; have HB := n2_; have BK483 := n3_; have GW483 := n4_; have GE483 := n5_; have NB471_483 := n6_; have NB483_471 := n7_; have NB479_483 := n8_; have NB483_479 := n9_; clear n0_ n1_ n2_ n3_ n4_ n5_ n6_ n7_ n8_ n9_; clear hb hbox hg; have hnb56 := NB483_471.out; have hnc56 := NB471_483.out; have hnb57 := NB483_479.out; have hnc57 := NB479_483.out; have hcz58_0 : w55.cell? ⟨gb483, 0, none⟩ = some (.int .u64 0) := (blk_cell BK483.out 0).trans rfl; have hcz58_1 : w55.cell? ⟨gb483, 1, none⟩ = some (.int .u64 0) := (blk_cell BK483.out 1).trans rfl; have hfz58_0 := blk_frozen BK483.out 0; have hfz58_1 := blk_frozen BK483.out 1))
                have n0_ : Aside0 (((w55.setCell ⟨gb483, 0, none⟩ (.int .u64 t480)).setCell ⟨gb483, 1, none⟩ (.int .u64 t481)).heap[gb471]? = some (.cells #[.int .u64 t476, .int .u64 t477] 24 (0, 0))) := ⟨by (with_reducible repeat (first | refine blk_drewN ?_ _ | refine blk_drew ?_ | refine blk_alloc ?_ _)); refine blk_far ?_ NB471_483.out _; (with_reducible repeat (first | refine blk_drewN ?_ _ | refine blk_drew ?_ | refine blk_alloc ?_ _)); refine blk_far ?_ NB471_483.out _; (with_reducible repeat (first | refine blk_drewN ?_ _ | refine blk_drew ?_ | refine blk_alloc ?_ _)); exact BK471.out⟩
                have n1_ : Aside0 (((w55.setCell ⟨gb483, 0, none⟩ (.int .u64 t480)).setCell ⟨gb483, 1, none⟩ (.int .u64 t481)).heap[gb479]? = some (.cells #[.int .u64 x480000_1, .int .u64 x480001_1] 24 (0, 0))) := ⟨by (with_reducible repeat (first | refine blk_drewN ?_ _ | refine blk_drew ?_ | refine blk_alloc ?_ _)); refine blk_far ?_ NB479_483.out _; (with_reducible repeat (first | refine blk_drewN ?_ _ | refine blk_drew ?_ | refine blk_alloc ?_ _)); refine blk_far ?_ NB479_483.out _; (with_reducible repeat (first | refine blk_drewN ?_ _ | refine blk_drew ?_ | refine blk_alloc ?_ _)); exact BK479.out⟩
                have n2_ : Aside0 (((w55.setCell ⟨gb483, 0, none⟩ (.int .u64 t480)).setCell ⟨gb483, 1, none⟩ (.int .u64 t481)).heap[gb483]? = some (.cells #[.int .u64 t480, .int .u64 t481] 24 (0, 0))) := ⟨by (with_reducible repeat (first | refine blk_drewN ?_ _ | refine blk_drew ?_ | refine blk_alloc ?_ _)); refine blk_put (cs := #[.int .u64 t480, .int .u64 0]) ?_ 1 _ rfl; (with_reducible repeat (first | refine blk_drewN ?_ _ | refine blk_drew ?_ | refine blk_alloc ?_ _)); refine blk_put (cs := #[.int .u64 0, .int .u64 0]) ?_ 0 _ rfl; (with_reducible repeat (first | refine blk_drewN ?_ _ | refine blk_drew ?_ | refine blk_alloc ?_ _)); exact BK483.out⟩
                have n3_ : Aside0 (Below w.heap.size w ((w55.setCell ⟨gb483, 0, none⟩ (.int .u64 t480)).setCell ⟨gb483, 1, none⟩ (.int .u64 t481))) := ⟨by repeat (first | (with_reducible first | exact HB.out | apply below_alloc | apply pw_below_drewN | apply below_drew1 | refine below_set ?_ GE471.out | refine below_set ?_ GE479.out | refine below_set ?_ GE483.out) | exact HB.out)⟩
                (try clear BK471)
                (try clear BK479)
                (try clear BK483)
                (try clear HB)
                generalize ((w55.setCell ⟨gb483, 0, none⟩ (.int .u64 t480)).setCell ⟨gb483, 1, none⟩ (.int .u64 t481)) = w59 at n0_ n1_ n2_ n3_ ⊢
                have BK471 := n0_
                have BK479 := n1_
                have BK483 := n2_
                have HB := n3_
                clear n0_ n1_ n2_ n3_
                have n0_ := Aside0.mk (blk_drew BK471.out)
                have n1_ := Aside0.mk (blk_drew BK479.out)
                have n2_ := Aside0.mk (blk_drew BK483.out)
                have n3_ := Aside0.mk (below_drew1 HB.out)
                clear BK471
                clear BK479
                clear BK483
                clear HB
                have BK471 := n0_
                have BK479 := n1_
                have BK483 := n2_
                have HB := n3_
                clear n0_ n1_ n2_ n3_
                refine start_ (n := 4) (S := fun w' => w'.cell? ⟨gb479, 0, none⟩ = some (.int .u64 x480000_1) ∧ w'.cell? ⟨gb479, 1, none⟩ = some (.int .u64 x480001_1)) (ds := []) #[false, false, false, false] (by kernel_rfl) rfl rfl ⟨(blk_cell BK479.out 0).trans rfl, (blk_cell BK479.out 1).trans rfl⟩ (fun hHeld => ?_)
                generalize w59.drew = w60 at BK471 BK479 BK483 HB hHeld ⊢
                refine pure_ (i := 1) (N := some 44) (v := ?_) (a' := ?_) #[false, true, false, false] rfl rfl (by kernel_rfl) (fun _ _ _ h => h) (Or.inl ⟨by rfl, ?_⟩) ?_ ?_
                rotate_left
                · intro w'
                  go_simp
                  with_reducible rfl
                rotate_left
                · simp only [Act.put, List.setIfInBounds_toArray, List.set_cons_zero, List.set_cons_succ, i64_w, i32_w]
                  rfl
                refine take_ (i := 0) (N := some 43) (v := ?_) (a' := ?_) #[true, true, false, false] rfl rfl (by kernel_rfl) (fun _ _ _ h => h) (Or.inl ⟨by rfl, ?_⟩) hHeld ?_ ?_
                rotate_left
                · rintro w' ⟨s0, s1⟩
                  go_simp
                  with_reducible rfl
                rotate_left
                · simp only [Act.put, List.setIfInBounds_toArray, List.set_cons_zero, List.set_cons_succ, i64_w, i32_w]
                  rfl
                refine one_ (i := 2) (N := some 45) #[true, true, true, false] rfl rfl (by kernel_rfl) (by decide) (fun K hK => ?_)
                refine goes_ Try.func27 (by kernel_rfl) rfl #[.int .i64 t473] (by rfl) rfl rfl (by (try simp only [List.map_toArray, List.map_cons, List.map_nil]); first | done | rfl | (simp only [List.length_drop, List.length_take]; rfl)) ?_
                with_reducible refine (turnpikeref1_Mask.calls k1 t473 t484 t485 _ A50.out).mono ?_
                rintro e w61 ⟨rfl, hb⟩
                refine ⟨_, rfl, ?_⟩
                have n0_ := Aside0.mk (blk_below (g := gb471) (o := .cells #[.int .u64 t476, .int .u64 t477] 24 (0, 0)) (by (with_reducible repeat (first | refine blk_drewN ?_ _ | refine blk_drew ?_ | refine blk_alloc ?_ _)); exact BK471.out) hb)
                have n1_ := Aside0.mk (blk_below (g := gb479) (o := .cells #[.int .u64 x480000_1, .int .u64 x480001_1] 24 (0, 0)) (by (with_reducible repeat (first | refine blk_drewN ?_ _ | refine blk_drew ?_ | refine blk_alloc ?_ _)); exact BK479.out) hb)
                have n2_ := Aside0.mk (blk_below (g := gb483) (o := .cells #[.int .u64 t480, .int .u64 t481] 24 (0, 0)) (by (with_reducible repeat (first | refine blk_drewN ?_ _ | refine blk_drew ?_ | refine blk_alloc ?_ _)); exact BK483.out) hb)
                have n3_ := Aside0.mk (below_step (by repeat (first | (with_reducible first | exact HB.out | apply below_alloc | apply pw_below_drewN | apply below_drew1 | refine below_set ?_ GE471.out | refine below_set ?_ GE479.out | refine below_set ?_ GE483.out) | exact HB.out)) hb)
                clear BK471
                clear BK479
                clear BK483
                clear HB
                have BK471 := n0_
                have BK479 := n1_
                have BK483 := n2_
                have HB := n3_
                clear n0_ n1_ n2_ n3_
                (try clear hb)
                (try clear hb2)
                (try clear hk)
                (try clear hi)
                refine hK.out _ _ ⟨(blk_cell BK479.out 0).trans rfl, (blk_cell BK479.out 1).trans rfl⟩ (fun hHeld => ?_)
                clear hK K
                refine norm_ (a' := ?_) ?_ ?_
                rotate_left
                · show Act.put _ (some 45) _ = _
                  simp only [Act.put, List.setIfInBounds_toArray, List.set_cons_zero, List.set_cons_succ, i64_w, i32_w]
                  rfl
                refine pure_ (i := 3) (N := some 46) (v := ?_) (a' := ?_) #[true, true, true, true] rfl rfl (by kernel_rfl) (fun _ _ _ h => h) (Or.inl ⟨by rfl, ?_⟩) ?_ ?_
                rotate_left
                · intro w'
                  go_simp
                  with_reducible rfl
                rotate_left
                · simp only [Act.put, List.setIfInBounds_toArray, List.set_cons_zero, List.set_cons_succ, i64_w, i32_w]
                  rfl
                refine done_ (by kernel_rfl) ?_
                try go_wp2
                go_meet
                case rel => exact ⟨_, (x9_1), (x480000_1), (x480001_1), (by first | rfl | (simp; done) | (simp [*]; done) | exact congrArg Value.bool (isEmpty_bne _)), H', ⟨by have := HK1.out; first | omega | exact Nat.le_refl _⟩, ⟨by (with_reducible repeat (first | refine blk_drewN ?_ _ | refine blk_drew ?_ | refine blk_alloc ?_ _)); exact BK471.out⟩, ⟨by (with_reducible repeat (first | refine blk_drewN ?_ _ | refine blk_drew ?_ | refine blk_alloc ?_ _)); exact BK479.out⟩, ⟨by repeat (first | (with_reducible first | exact HB.out | apply below_alloc | apply pw_below_drewN | apply below_drew1 | refine below_set ?_ GE471.out | refine below_set ?_ GE479.out | refine below_set ?_ GE483.out) | exact HB.out)⟩⟩
          · rw [if_neg c22] at H
            have c22b0 : decide (x9_1 < t478) = false := decide_eq_false c22
            clear c22
            (first | rw [c22b0] | (simp only [i64_w, i32_w]; rw [c22b0]) | skip)
            have H' := Aside0.mk H
            clear H
            go_wp2
            go_meet
            case rel => exact ⟨_, (x9_1), (x480000_1), (x480001_1), (by first | rfl | (simp; done) | (simp [*]; done) | exact congrArg Value.bool (isEmpty_bne _)), H', ⟨by have := HK1.out; first | omega | exact Nat.le_refl _⟩, ⟨by (with_reducible repeat (first | refine blk_drewN ?_ _ | refine blk_drew ?_ | refine blk_alloc ?_ _)); exact BK471.out⟩, ⟨by (with_reducible repeat (first | refine blk_drewN ?_ _ | refine blk_drew ?_ | refine blk_alloc ?_ _)); exact BK479.out⟩, ⟨by repeat (first | (with_reducible first | exact HB.out | apply below_alloc | apply pw_below_drewN | apply below_drew1 | refine below_set ?_ GE471.out | refine below_set ?_ GE479.out) | exact HB.out)⟩⟩
    case rest =>
      clear HC10
      try clear c1
      try clear c2
      try clear p2
      try clear c3
      try clear c4
      try clear c5
      try clear p6
      try clear c8
      try clear c11
      try clear c13
      try clear c19
      try clear c20
      try clear c22
      try clear c22b0
      try clear c24
      try clear c25
      try clear c26
      try clear c27
      try clear c27b0
      try clear c28
      try clear c29
      try clear c29b0
      try clear c30
      try clear c34
      try clear c35
      try clear c40
      try clear c41
      try clear c42
      try clear c51
      try clear c51b0
      try clear c52
      try clear c56
      try clear c57
      try clear hcz18_0
      try clear hcz18_1
      try clear hcz21_0
      try clear hcz21_1
      try clear hcz31_0
      try clear hcz31_1
      try clear hcz36_0
      try clear hcz36_1
      try clear hcz37_0
      try clear hcz37_1
      try clear hcz43_0
      try clear hcz43_1
      try clear hcz48_0
      try clear hcz48_1
      try clear hcz49_0
      try clear hcz49_1
      try clear hcz53_0
      try clear hcz53_1
      try clear hcz58_0
      try clear hcz58_1
      try clear hfz18_0
      try clear hfz18_1
      try clear hfz21_0
      try clear hfz21_1
      try clear hfz31_0
      try clear hfz31_1
      try clear hfz36_0
      try clear hfz36_1
      try clear hfz37_0
      try clear hfz37_1
      try clear hfz43_0
      try clear hfz43_1
      try clear hfz48_0
      try clear hfz48_1
      try clear hfz49_0
      try clear hfz49_1
      try clear hfz53_0
      try clear hfz53_1
      try clear hfz58_0
      try clear hfz58_1
      try clear p2
      obtain ⟨kq, x9_9, x480000_9, x480001_9, rfl, HA, HJ9, BK471, BK479, HB⟩ := hcut
      cases kq with
      | zero => exact absurd HA.out (by simp [turnpikelaw2_AddrWalk.j1])
      | succ kj9 =>
        have H := HA.out
        clear HA
        simp only [turnpikelaw2_AddrWalk.j1] at H
        have H' := Aside0.mk H
        clear H
        go_wp2
        go_loopg [14] kj9 (fun kq v14 w' => ∃ (x14_2 : Int) (x480000_2 : Int) (x480001_2 : Int), v14 = .int .i64 x14_2 ∧ Aside0 (turnpikelaw2_AddrWalk.l1 kq t473 x9_9 x14_2 t476 t477 x480000_2 x480001_2 = some r) ∧ Aside0 (kq ≤ kj9) ∧ Aside0 (w'.heap[gb471]? = some (.cells #[.int .u64 t476, .int .u64 t477] 24 (0, 0))) ∧ Aside0 (w'.heap[gb479]? = some (.cells #[.int .u64 x480000_2, .int .u64 x480001_2] 24 (0, 0))) ∧ Aside0 (Below w.heap.size w w'))
        case atStart => exact ⟨(0), (x480000_9), (x480001_9), (by first | rfl | (simp; done) | (simp [*]; done) | exact congrArg Value.bool (isEmpty_bne _)), H', ⟨Nat.le_refl _⟩, ⟨by (with_reducible repeat (first | refine blk_drewN ?_ _ | refine blk_drew ?_ | refine blk_alloc ?_ _)); exact BK471.out⟩, ⟨by (with_reducible repeat (first | refine blk_drewN ?_ _ | refine blk_drew ?_ | refine blk_alloc ?_ _)); exact BK479.out⟩, ⟨by repeat (first | (with_reducible first | exact HB.out | apply below_alloc | apply pw_below_drewN | apply below_drew1 | refine below_set ?_ GE471.out | refine below_set ?_ GE479.out) | exact HB.out)⟩⟩
        case round =>
          clear H'
          try clear c1
          try clear c2
          try clear p2
          try clear c3
          try clear c4
          try clear c5
          try clear p6
          try clear c8
          try clear c11
          try clear c13
          try clear c19
          try clear c20
          try clear c22
          try clear c22b0
          try clear c24
          try clear c25
          try clear c26
          try clear c27
          try clear c27b0
          try clear c28
          try clear c29
          try clear c29b0
          try clear c30
          try clear c34
          try clear c35
          try clear c40
          try clear c41
          try clear c42
          try clear c51
          try clear c51b0
          try clear c52
          try clear c56
          try clear c57
          try clear hcz18_0
          try clear hcz18_1
          try clear hcz21_0
          try clear hcz21_1
          try clear hcz31_0
          try clear hcz31_1
          try clear hcz36_0
          try clear hcz36_1
          try clear hcz37_0
          try clear hcz37_1
          try clear hcz43_0
          try clear hcz43_1
          try clear hcz48_0
          try clear hcz48_1
          try clear hcz49_0
          try clear hcz49_1
          try clear hcz53_0
          try clear hcz53_1
          try clear hcz58_0
          try clear hcz58_1
          try clear hfz18_0
          try clear hfz18_1
          try clear hfz21_0
          try clear hfz21_1
          try clear hfz31_0
          try clear hfz31_1
          try clear hfz36_0
          try clear hfz36_1
          try clear hfz37_0
          try clear hfz37_1
          try clear hfz43_0
          try clear hfz43_1
          try clear hfz48_0
          try clear hfz48_1
          try clear hfz49_0
          try clear hfz49_1
          try clear hfz53_0
          try clear hfz53_1
          try clear hfz58_0
          try clear hfz58_1
          try clear p2
          try clear p6
          obtain ⟨x14_2, x480000_2, x480001_2, rfl, HA, HK2, BK471, BK479, HB⟩ := hrel
          cases gk with
          | zero => exact absurd HA.out (by simp [turnpikelaw2_AddrWalk.l1])
          | succ k2 =>
            have H := HA.out
            clear HA
            simp only [turnpikelaw2_AddrWalk.l1] at H
            by_cases c62 : x14_2 < x9_9
            · rw [if_pos c62] at H
              have c62b0 : decide (x14_2 < x9_9) = true := decide_eq_true c62
              clear c62
              replace H := Option.bind_eq_some_iff.mp H
              obtain ⟨⟨t493, t494, t495⟩, A630, H⟩ := H
              replace H : (if t495 = true then (turnpikelaw2_AddrWalk.l1 k2 t473 x9_9 (wrap64 (x14_2 + 1)) t476 t477 t493 t494) else (some false)) = some r := H
              have A63 := Aside0.mk A630
              clear A630
              by_cases c64 : t495 = true
              · subst c64
                have H1 : (turnpikelaw2_AddrWalk.l1 k2 t473 x9_9 (wrap64 (x14_2 + 1)) t476 t477 t493 t494) = some r := by rw [if_pos rfl] at H; exact H
                clear H
                have H := H1
                clear H1
                have H' := Aside0.mk H
                clear H
                have hnb65 := NB479_471.out
                have hnc65 := NB471_479.out
                have hcz66_0 : wr.cell? ⟨gb479, 0, none⟩ = some (.int .u64 x480000_2) := (blk_cell BK479.out 0).trans rfl
                have hcz66_1 : wr.cell? ⟨gb479, 1, none⟩ = some (.int .u64 x480001_2) := (blk_cell BK479.out 1).trans rfl
                have hfz66_0 := blk_frozen BK479.out 0
                have hfz66_1 := blk_frozen BK479.out 1
                go_wp2_with (first | ((with_reducible refine gate_callee (f := 20) rfl ?_); refine goesL_ (some 76) rfl rfl Try.func20 (by kernel_rfl) rfl #[.int .i64 t473, .agg #[.int .u64 x480000_2, .int .u64 x480001_2]] rfl (by (try simp only [List.map_toArray, List.map_cons, List.map_nil]); first | done | rfl | (simp only [List.length_drop, List.length_take]; rfl)) ?_; (with_reducible refine (addr_Prev.calls k2 t473 x480000_2 x480001_2 t493 t494 true _ A63.out).mono ?_); rintro e w67 ⟨rfl, hb⟩; refine ⟨_, rfl, ?_⟩; have n0_ := Aside0.mk (blk_below (g := gb471) (o := .cells #[.int .u64 t476, .int .u64 t477] 24 (0, 0)) (by (with_reducible repeat (first | refine blk_drewN ?_ _ | refine blk_drew ?_ | refine blk_alloc ?_ _)); exact BK471.out) hb); have n1_ := Aside0.mk (blk_below (g := gb479) (o := .cells #[.int .u64 x480000_2, .int .u64 x480001_2] 24 (0, 0)) (by (with_reducible repeat (first | refine blk_drewN ?_ _ | refine blk_drew ?_ | refine blk_alloc ?_ _)); exact BK479.out) hb); have n2_ := Aside0.mk (below_step (by repeat (first | (with_reducible first | exact HB.out | apply below_alloc | apply pw_below_drewN | apply below_drew1 | refine below_set ?_ GE471.out | refine below_set ?_ GE479.out) | exact HB.out)) hb); clear BK471; clear BK479; clear HB; have BK471 := n0_; have BK479 := n1_; have HB := n2_; clear n0_ n1_ n2_; (try clear hb); (try clear hb2); (try clear hk); (try clear hi)) | ((with_reducible refine gate_dst (N := 15) rfl ?_); refine box_event ?hg (N := 15) ?hd (cs := #[.int .u64 0, .int .u64 0]) (t := 24) ?hr ?_; (case hd => rfl); (case hg => rfl); (case hr => first | (go_simp; done) | (go_simp; rfl)); intro gb496 hg w68 hbox hb; have n0_ := Aside0.mk (blk_below (g := gb471) (o := .cells #[.int .u64 t476, .int .u64 t477] 24 (0, 0)) (by (with_reducible repeat (first | refine blk_drewN ?_ _ | refine blk_drew ?_ | refine blk_alloc ?_ _)); exact BK471.out) hb); have n1_ := Aside0.mk (blk_below (g := gb479) (o := .cells #[.int .u64 x480000_2, .int .u64 x480001_2] 24 (0, 0)) (by (with_reducible repeat (first | refine blk_drewN ?_ _ | refine blk_drew ?_ | refine blk_alloc ?_ _)); exact BK479.out) hb); have n2_ := Aside0.mk (below_step (by repeat (first | (with_reducible first | exact HB.out | apply below_alloc | apply pw_below_drewN | apply below_drew1 | refine below_set ?_ GE471.out | refine below_set ?_ GE479.out) | exact HB.out)) hb); have n3_ := Aside0.mk (hbox); have n4_ := Aside0.mk ((by rw [hg]; exact (below_size (by repeat (first | (with_reducible first | exact HB.out | apply below_alloc | apply pw_below_drewN | apply below_drew1 | refine below_set ?_ GE471.out | refine below_set ?_ GE479.out) | exact HB.out))) : w.heap.size ≤ gb496)); have n5_ := Aside0.mk ((by rw [hg]; exact (below_size (by repeat (first | (with_reducible first | exact HB.out | apply below_alloc | apply pw_below_drewN | apply below_drew1 | refine below_set ?_ GE471.out | refine below_set ?_ GE479.out) | exact HB.out))) : w.heap.size ≤ gb496)); have n6_ := Aside0.mk ((by rw [hg]; exact Nat.ne_of_lt (blk_lt (g := gb471) (o := .cells #[.int .u64 t476, .int .u64 t477] 24 (0, 0)) (by (with_reducible repeat (first | refine blk_drewN ?_ _ | refine blk_drew ?_ | refine blk_alloc ?_ _)); exact BK471.out)) : gb471 ≠ gb496)); have n7_ := Aside0.mk ((by rw [hg]; exact Nat.ne_of_gt (blk_lt (g := gb471) (o := .cells #[.int .u64 t476, .int .u64 t477] 24 (0, 0)) (by (with_reducible repeat (first | refine blk_drewN ?_ _ | refine blk_drew ?_ | refine blk_alloc ?_ _)); exact BK471.out)) : gb496 ≠ gb471)); have n8_ := Aside0.mk ((by rw [hg]; exact Nat.ne_of_lt (blk_lt (g := gb479) (o := .cells #[.int .u64 x480000_2, .int .u64 x480001_2] 24 (0, 0)) (by (with_reducible repeat (first | refine blk_drewN ?_ _ | refine blk_drew ?_ | refine blk_alloc ?_ _)); exact BK479.out)) : gb479 ≠ gb496)); have n9_ := Aside0.mk ((by rw [hg]; exact Nat.ne_of_gt (blk_lt (g := gb479) (o := .cells #[.int .u64 x480000_2, .int .u64 x480001_2] 24 (0, 0)) (by (with_reducible repeat (first | refine blk_drewN ?_ _ | refine blk_drew ?_ | refine blk_alloc ?_ _)); exact BK479.out)) : gb496 ≠ gb479)); clear BK471; clear BK479; clear HB; have BK471 := n0_; have BK479 := n1_; have HB := n2_; have BK496 := n3_; have GW496 := n4_; have GE496 := n5_; have NB471_496 := n6_; have NB496_471 := n7_; have NB479_496 := n8_; have NB496_479 := n9_; clear n0_ n1_ n2_ n3_ n4_ n5_ n6_ n7_ n8_ n9_; clear hb hbox hg; have hnb69 := NB496_471.out; have hnc69 := NB471_496.out; have hnb70 := NB496_479.out; have hnc70 := NB479_496.out; have hcz71_0 : w68.cell? ⟨gb496, 0, none⟩ = some (.int .u64 0) := (blk_cell BK496.out 0).trans rfl; have hcz71_1 : w68.cell? ⟨gb496, 1, none⟩ = some (.int .u64 0) := (blk_cell BK496.out 1).trans rfl; have hfz71_0 := blk_frozen BK496.out 0; have hfz71_1 := blk_frozen BK496.out 1; have hcz72_0 : w68.cell? ⟨gb479, 0, none⟩ = some (.int .u64 x480000_2) := (blk_cell BK479.out 0).trans rfl; have hcz72_1 : w68.cell? ⟨gb479, 1, none⟩ = some (.int .u64 x480001_2) := (blk_cell BK479.out 1).trans rfl; have hfz72_0 := blk_frozen BK479.out 0; have hfz72_1 := blk_frozen BK479.out 1))
                go_roundg k2
                case measure => have := HJ9.out; have := HK2.out; omega
                case rel => exact ⟨(wrap64 (x14_2 + 1)), (t493), (t494), (by first | rfl | (simp; done) | (simp [*]; done) | exact congrArg Value.bool (isEmpty_bne _)), H', ⟨by have := HJ9.out; have := HK2.out; omega⟩, ⟨by (with_reducible repeat (first | refine blk_drewN ?_ _ | refine blk_drew ?_ | refine blk_alloc ?_ _)); refine blk_far ?_ NB471_479.out _; (with_reducible repeat (first | refine blk_drewN ?_ _ | refine blk_drew ?_ | refine blk_alloc ?_ _)); refine blk_far ?_ NB471_479.out _; (with_reducible repeat (first | refine blk_drewN ?_ _ | refine blk_drew ?_ | refine blk_alloc ?_ _)); refine blk_far ?_ NB471_496.out _; (with_reducible repeat (first | refine blk_drewN ?_ _ | refine blk_drew ?_ | refine blk_alloc ?_ _)); refine blk_far ?_ NB471_496.out _; (with_reducible repeat (first | refine blk_drewN ?_ _ | refine blk_drew ?_ | refine blk_alloc ?_ _)); exact BK471.out⟩, ⟨by (with_reducible repeat (first | refine blk_drewN ?_ _ | refine blk_drew ?_ | refine blk_alloc ?_ _)); refine blk_put (cs := #[.int .u64 t493, .int .u64 x480001_2]) ?_ 1 _ rfl; (with_reducible repeat (first | refine blk_drewN ?_ _ | refine blk_drew ?_ | refine blk_alloc ?_ _)); refine blk_put (cs := #[.int .u64 x480000_2, .int .u64 x480001_2]) ?_ 0 _ rfl; (with_reducible repeat (first | refine blk_drewN ?_ _ | refine blk_drew ?_ | refine blk_alloc ?_ _)); refine blk_far ?_ NB479_496.out _; (with_reducible repeat (first | refine blk_drewN ?_ _ | refine blk_drew ?_ | refine blk_alloc ?_ _)); refine blk_far ?_ NB479_496.out _; (with_reducible repeat (first | refine blk_drewN ?_ _ | refine blk_drew ?_ | refine blk_alloc ?_ _)); exact BK479.out⟩, ⟨by repeat (first | (with_reducible first | exact HB.out | apply below_alloc | apply pw_below_drewN | apply below_drew1 | refine below_set ?_ GE471.out | refine below_set ?_ GE479.out | refine below_set ?_ GE496.out) | exact HB.out)⟩⟩
              · replace c64 := Bool.eq_false_iff.mpr c64
                subst c64
                have H1 : (some false) = some r := by rw [if_neg (show ¬ (false = true) by decide)] at H; exact H
                clear H
                have H := H1
                clear H1
                obtain rfl := Option.some.inj H
                exact absurd hr_.out (by decide)
            · rw [if_neg c62] at H
              have c62b0 : decide (x14_2 < x9_9) = false := decide_eq_false c62
              clear c62
              replace H := Option.bind_eq_some_iff.mp H
              obtain ⟨⟨t497, t498, t499⟩, A730, H⟩ := H
              replace H : ((addr_Last.f k2 t473).bind fun bt501 => (if (x480000_2 == t476 && (x480001_2 == t477)) = true then (if t499 = true then (some false) else (if bt501.2.2 = 0 then ((turnpikeref1_Mask.f k2 t473).bind fun bt505 => (some (bt501.1 == bt505.1 && (bt501.2.1 == bt505.2)))) else (some false))) else (some false))) = some r := H
              have A73 := Aside0.mk A730
              clear A730
              replace H := Option.bind_eq_some_iff.mp H
              obtain ⟨⟨t501, t502, t503⟩, A740, H⟩ := H
              replace H : (if (x480000_2 == t476 && (x480001_2 == t477)) = true then (if t499 = true then (some false) else (if t503 = 0 then ((turnpikeref1_Mask.f k2 t473).bind fun bt505 => (some (t501 == bt505.1 && (t502 == bt505.2)))) else (some false))) else (some false)) = some r := H
              have A74 := Aside0.mk A740
              clear A740
              by_cases c75 : (x480000_2 == t476 && (x480001_2 == t477)) = true
              · rw [if_pos c75] at H
                have c75b0 : (x480000_2 == t476 && (x480001_2 == t477)) = true := c75
                (try (have c75b1 : decide (x480000_2 = t476 && (x480001_2 == t477)) = true := by simpa using c75))
                (try (have c75b2 : (x480000_2 == t476 && (x480001_2 == t477)) = true := by simpa using c75))
                clear c75
                by_cases c76 : t499 = true
                · subst c76
                  have H1 : (some false) = some r := by rw [if_pos rfl] at H; exact H
                  clear H
                  have H := H1
                  clear H1
                  obtain rfl := Option.some.inj H
                  exact absurd hr_.out (by decide)
                · replace c76 := Bool.eq_false_iff.mpr c76
                  subst c76
                  have H1 : (if t503 = 0 then ((turnpikeref1_Mask.f k2 t473).bind fun bt505 => (some (t501 == bt505.1 && (t502 == bt505.2)))) else (some false)) = some r := by rw [if_neg (show ¬ (false = true) by decide)] at H; exact H
                  clear H
                  have H := H1
                  clear H1
                  by_cases c77 : t503 = 0
                  · rw [if_pos c77] at H
                    have c77b0 : (t503 == 0) = true := beq_iff_eq.mpr c77
                    have c77b1 : (t503 != 0) = false := bne_eq_false_iff_eq.mpr c77
                    clear c77
                    replace H := Option.bind_eq_some_iff.mp H
                    obtain ⟨⟨t505, t506⟩, A780, H⟩ := H
                    replace H : (some (t501 == t505 && (t502 == t506))) = some r := H
                    have A78 := Aside0.mk A780
                    clear A780
                    obtain rfl := Option.some.inj H
                    try go_wp2_with (first | ((with_reducible refine gate_callee (f := 20) rfl ?_); refine goesL_ (some 85) rfl rfl Try.func20 (by kernel_rfl) rfl #[.int .i64 t473, .agg #[.int .u64 0, .int .u64 0]] rfl (by (try simp only [List.map_toArray, List.map_cons, List.map_nil]); first | done | rfl | (simp only [List.length_drop, List.length_take]; rfl)) ?_; (with_reducible refine (addr_Prev.calls k2 t473 0 0 t497 t498 false _ A73.out).mono ?_); rintro e w79 ⟨rfl, hb⟩; refine ⟨_, rfl, ?_⟩; have n0_ := Aside0.mk (blk_below (g := gb471) (o := .cells #[.int .u64 t476, .int .u64 t477] 24 (0, 0)) (by (with_reducible repeat (first | refine blk_drewN ?_ _ | refine blk_drew ?_ | refine blk_alloc ?_ _)); exact BK471.out) hb); have n1_ := Aside0.mk (blk_below (g := gb479) (o := .cells #[.int .u64 x480000_2, .int .u64 x480001_2] 24 (0, 0)) (by (with_reducible repeat (first | refine blk_drewN ?_ _ | refine blk_drew ?_ | refine blk_alloc ?_ _)); exact BK479.out) hb); have n2_ := Aside0.mk (below_step (by repeat (first | (with_reducible first | exact HB.out | apply below_alloc | apply pw_below_drewN | apply below_drew1 | refine below_set ?_ GE471.out | refine below_set ?_ GE479.out) | exact HB.out)) hb); clear BK471; clear BK479; clear HB; have BK471 := n0_; have BK479 := n1_; have HB := n2_; clear n0_ n1_ n2_; (try clear hb); (try clear hb2); (try clear hk); (try clear hi)) | ((with_reducible refine gate_dst (N := 17) rfl ?_); refine box_event ?hg (N := 17) ?hd (cs := #[.int .u64 0, .int .u64 0]) (t := 24) ?hr ?_; (case hd => rfl); (case hg => rfl); (case hr => first | (go_simp; done) | (go_simp; rfl)); intro gb500 hg w80 hbox hb; have n0_ := Aside0.mk (blk_below (g := gb471) (o := .cells #[.int .u64 t476, .int .u64 t477] 24 (0, 0)) (by (with_reducible repeat (first | refine blk_drewN ?_ _ | refine blk_drew ?_ | refine blk_alloc ?_ _)); exact BK471.out) hb); have n1_ := Aside0.mk (blk_below (g := gb479) (o := .cells #[.int .u64 x480000_2, .int .u64 x480001_2] 24 (0, 0)) (by (with_reducible repeat (first | refine blk_drewN ?_ _ | refine blk_drew ?_ | refine blk_alloc ?_ _)); exact BK479.out) hb); have n2_ := Aside0.mk (below_step (by repeat (first | (with_reducible first | exact HB.out | apply below_alloc | apply pw_below_drewN | apply below_drew1 | refine below_set ?_ GE471.out | refine below_set ?_ GE479.out) | exact HB.out)) hb); have n3_ := Aside0.mk (hbox); have n4_ := Aside0.mk ((by rw [hg]; exact (below_size (by repeat (first | (with_reducible first | exact HB.out | apply below_alloc | apply pw_below_drewN | apply below_drew1 | refine below_set ?_ GE471.out | refine below_set ?_ GE479.out) | exact HB.out))) : w.heap.size ≤ gb500)); have n5_ := Aside0.mk ((by rw [hg]; exact (below_size (by repeat (first | (with_reducible first | exact HB.out | apply below_alloc | apply pw_below_drewN | apply below_drew1 | refine below_set ?_ GE471.out | refine below_set ?_ GE479.out) | exact HB.out))) : w.heap.size ≤ gb500)); have n6_ := Aside0.mk ((by rw [hg]; exact Nat.ne_of_lt (blk_lt (g := gb471) (o := .cells #[.int .u64 t476, .int .u64 t477] 24 (0, 0)) (by (with_reducible repeat (first | refine blk_drewN ?_ _ | refine blk_drew ?_ | refine blk_alloc ?_ _)); exact BK471.out)) : gb471 ≠ gb500)); have n7_ := Aside0.mk ((by rw [hg]; exact Nat.ne_of_gt (blk_lt (g := gb471) (o := .cells #[.int .u64 t476, .int .u64 t477] 24 (0, 0)) (by (with_reducible repeat (first | refine blk_drewN ?_ _ | refine blk_drew ?_ | refine blk_alloc ?_ _)); exact BK471.out)) : gb500 ≠ gb471)); have n8_ := Aside0.mk ((by rw [hg]; exact Nat.ne_of_lt (blk_lt (g := gb479) (o := .cells #[.int .u64 x480000_2, .int .u64 x480001_2] 24 (0, 0)) (by (with_reducible repeat (first | refine blk_drewN ?_ _ | refine blk_drew ?_ | refine blk_alloc ?_ _)); exact BK479.out)) : gb479 ≠ gb500)); have n9_ := Aside0.mk ((by rw [hg]; exact Nat.ne_of_gt (blk_lt (g := gb479) (o := .cells #[.int .u64 x480000_2, .int .u64 x480001_2] 24 (0, 0)) (by (with_reducible repeat (first | refine blk_drewN ?_ _ | refine blk_drew ?_ | refine blk_alloc ?_ _)); exact BK479.out)) : gb500 ≠ gb479)); clear BK471; clear BK479; clear HB; have BK471 := n0_; have BK479 := n1_; have HB := n2_; have BK500 := n3_; have GW500 := n4_; have GE500 := n5_; have NB471_500 := n6_; have NB500_471 := n7_; have NB479_500 := n8_; have NB500_479 := n9_; clear n0_ n1_ n2_ n3_ n4_ n5_ n6_ n7_ n8_ n9_; clear hb hbox hg; have hnb81 := NB500_471.out; have hnc81 := NB471_500.out; have hnb82 := NB500_479.out; have hnc82 := NB479_500.out; have hcz83_0 : w80.cell? ⟨gb500, 0, none⟩ = some (.int .u64 0) := (blk_cell BK500.out 0).trans rfl; have hcz83_1 : w80.cell? ⟨gb500, 1, none⟩ = some (.int .u64 0) := (blk_cell BK500.out 1).trans rfl; have hfz83_0 := blk_frozen BK500.out 0; have hfz83_1 := blk_frozen BK500.out 1) | ((with_reducible refine gate_callee (f := 21) rfl ?_); refine goesL_ (some 90) rfl rfl Try.func21 (by kernel_rfl) rfl #[.int .i64 t473] rfl (by (try simp only [List.map_toArray, List.map_cons, List.map_nil]); first | done | rfl | (simp only [List.length_drop, List.length_take]; rfl)) ?_; (with_reducible refine (addr_Last.calls k2 t473 t501 t502 t503 _ A74.out).mono ?_); rintro e w84 ⟨rfl, hb⟩; refine ⟨_, rfl, ?_⟩; have n0_ := Aside0.mk (blk_below (g := gb471) (o := .cells #[.int .u64 t476, .int .u64 t477] 24 (0, 0)) (by (with_reducible repeat (first | refine blk_drewN ?_ _ | refine blk_drew ?_ | refine blk_alloc ?_ _)); refine blk_far ?_ NB471_500.out _; (with_reducible repeat (first | refine blk_drewN ?_ _ | refine blk_drew ?_ | refine blk_alloc ?_ _)); refine blk_far ?_ NB471_500.out _; (with_reducible repeat (first | refine blk_drewN ?_ _ | refine blk_drew ?_ | refine blk_alloc ?_ _)); exact BK471.out) hb); have n1_ := Aside0.mk (blk_below (g := gb479) (o := .cells #[.int .u64 x480000_2, .int .u64 x480001_2] 24 (0, 0)) (by (with_reducible repeat (first | refine blk_drewN ?_ _ | refine blk_drew ?_ | refine blk_alloc ?_ _)); refine blk_far ?_ NB479_500.out _; (with_reducible repeat (first | refine blk_drewN ?_ _ | refine blk_drew ?_ | refine blk_alloc ?_ _)); refine blk_far ?_ NB479_500.out _; (with_reducible repeat (first | refine blk_drewN ?_ _ | refine blk_drew ?_ | refine blk_alloc ?_ _)); exact BK479.out) hb); have n2_ := Aside0.mk (blk_below (g := gb500) (o := .cells #[.int .u64 t497, .int .u64 t498] 24 (0, 0)) (by (with_reducible repeat (first | refine blk_drewN ?_ _ | refine blk_drew ?_ | refine blk_alloc ?_ _)); refine blk_put (cs := #[.int .u64 t497, .int .u64 0]) ?_ 1 _ rfl; (with_reducible repeat (first | refine blk_drewN ?_ _ | refine blk_drew ?_ | refine blk_alloc ?_ _)); refine blk_put (cs := #[.int .u64 0, .int .u64 0]) ?_ 0 _ rfl; (with_reducible repeat (first | refine blk_drewN ?_ _ | refine blk_drew ?_ | refine blk_alloc ?_ _)); exact BK500.out) hb); have n3_ := Aside0.mk (below_step (by repeat (first | (with_reducible first | exact HB.out | apply below_alloc | apply pw_below_drewN | apply below_drew1 | refine below_set ?_ GE471.out | refine below_set ?_ GE479.out | refine below_set ?_ GE500.out) | exact HB.out)) hb); clear BK471; clear BK479; clear BK500; clear HB; have BK471 := n0_; have BK479 := n1_; have BK500 := n2_; have HB := n3_; clear n0_ n1_ n2_ n3_; (try clear hb); (try clear hb2); (try clear hk); (try clear hi)) | ((with_reducible refine gate_dst (N := 19) rfl ?_); refine box_event ?hg (N := 19) ?hd (cs := #[.int .u64 0, .int .u64 0]) (t := 24) ?hr ?_; (case hd => rfl); (case hg => rfl); (case hr => first | (go_simp; done) | (go_simp; rfl)); intro gb504 hg w85 hbox hb; have n0_ := Aside0.mk (blk_below (g := gb471) (o := .cells #[.int .u64 t476, .int .u64 t477] 24 (0, 0)) (by (with_reducible repeat (first | refine blk_drewN ?_ _ | refine blk_drew ?_ | refine blk_alloc ?_ _)); exact BK471.out) hb); have n1_ := Aside0.mk (blk_below (g := gb479) (o := .cells #[.int .u64 x480000_2, .int .u64 x480001_2] 24 (0, 0)) (by (with_reducible repeat (first | refine blk_drewN ?_ _ | refine blk_drew ?_ | refine blk_alloc ?_ _)); exact BK479.out) hb); have n2_ := Aside0.mk (blk_below (g := gb500) (o := .cells #[.int .u64 t497, .int .u64 t498] 24 (0, 0)) (by (with_reducible repeat (first | refine blk_drewN ?_ _ | refine blk_drew ?_ | refine blk_alloc ?_ _)); exact BK500.out) hb); have n3_ := Aside0.mk (below_step (by repeat (first | (with_reducible first | exact HB.out | apply below_alloc | apply pw_below_drewN | apply below_drew1 | refine below_set ?_ GE471.out | refine below_set ?_ GE479.out | refine below_set ?_ GE500.out) | exact HB.out)) hb); have n4_ := Aside0.mk (hbox); have n5_ := Aside0.mk ((by rw [hg]; exact (below_size (by repeat (first | (with_reducible first | exact HB.out | apply below_alloc | apply pw_below_drewN | apply below_drew1 | refine below_set ?_ GE471.out | refine below_set ?_ GE479.out | refine below_set ?_ GE500.out) | exact HB.out))) : w.heap.size ≤ gb504)); have n6_ := Aside0.mk ((by rw [hg]; exact (below_size (by repeat (first | (with_reducible first | exact HB.out | apply below_alloc | apply pw_below_drewN | apply below_drew1 | refine below_set ?_ GE471.out | refine below_set ?_ GE479.out | refine below_set ?_ GE500.out) | exact HB.out))) : w.heap.size ≤ gb504)); have n7_ := Aside0.mk ((by rw [hg]; exact Nat.ne_of_lt (blk_lt (g := gb471) (o := .cells #[.int .u64 t476, .int .u64 t477] 24 (0, 0)) (by (with_reducible repeat (first | refine blk_drewN ?_ _ | refine blk_drew ?_ | refine blk_alloc ?_ _)); exact BK471.out)) : gb471 ≠ gb504)); have n8_ := Aside0.mk ((by rw [hg]; exact Nat.ne_of_gt (blk_lt (g := gb471) (o := .cells #[.int .u64 t476, .int .u64 t477] 24 (0, 0)) (by (with_reducible repeat (first | refine blk_drewN ?_ _ | refine blk_drew ?_ | refine blk_alloc ?_ _)); exact BK471.out)) : gb504 ≠ gb471)); have n9_ := Aside0.mk ((by rw [hg]; exact Nat.ne_of_lt (blk_lt (g := gb479) (o := .cells #[.int .u64 x480000_2, .int .u64 x480001_2] 24 (0, 0)) (by (with_reducible repeat (first | refine blk_drewN ?_ _ | refine blk_drew ?_ | refine blk_alloc ?_ _)); exact BK479.out)) : gb479 ≠ gb504)); have n10_ := Aside0.mk ((by rw [hg]; exact Nat.ne_of_gt (blk_lt (g := gb479) (o := .cells #[.int .u64 x480000_2, .int .u64 x480001_2] 24 (0, 0)) (by (with_reducible repeat (first | refine blk_drewN ?_ _ | refine blk_drew ?_ | refine blk_alloc ?_ _)); exact BK479.out)) : gb504 ≠ gb479)); have n11_ := Aside0.mk ((by rw [hg]; exact Nat.ne_of_lt (blk_lt (g := gb500) (o := .cells #[.int .u64 t497, .int .u64 t498] 24 (0, 0)) (by (with_reducible repeat (first | refine blk_drewN ?_ _ | refine blk_drew ?_ | refine blk_alloc ?_ _)); exact BK500.out)) : gb500 ≠ gb504)); have n12_ := Aside0.mk ((by rw [hg]; exact Nat.ne_of_gt (blk_lt (g := gb500) (o := .cells #[.int .u64 t497, .int .u64 t498] 24 (0, 0)) (by (with_reducible repeat (first | refine blk_drewN ?_ _ | refine blk_drew ?_ | refine blk_alloc ?_ _)); exact BK500.out)) : gb504 ≠ gb500)); clear BK471; clear BK479; clear BK500; clear HB; have BK471 := n0_; have BK479 := n1_; have BK500 := n2_; have HB := n3_; have BK504 := n4_; have GW504 := n5_; have GE504 := n6_; have NB471_504 := n7_; have NB504_471 := n8_; have NB479_504 := n9_; have NB504_479 := n10_; have NB500_504 := n11_; have NB504_500 := n12_; clear n0_ n1_ n2_ n3_ n4_ n5_ n6_ n7_ n8_ n9_ n10_ n11_ n12_; clear hb hbox hg; have hnb86 := NB504_471.out; have hnc86 := NB471_504.out; have hnb87 := NB504_479.out; have hnc87 := NB479_504.out; have hnb88 := NB504_500.out; have hnc88 := NB500_504.out; have hcz89_0 : w85.cell? ⟨gb504, 0, none⟩ = some (.int .u64 0) := (blk_cell BK504.out 0).trans rfl; have hcz89_1 : w85.cell? ⟨gb504, 1, none⟩ = some (.int .u64 0) := (blk_cell BK504.out 1).trans rfl; have hfz89_0 := blk_frozen BK504.out 0; have hfz89_1 := blk_frozen BK504.out 1))
                    have n0_ : Aside0 (((w85.setCell ⟨gb504, 0, none⟩ (.int .u64 t501)).setCell ⟨gb504, 1, none⟩ (.int .u64 t502)).heap[gb471]? = some (.cells #[.int .u64 t476, .int .u64 t477] 24 (0, 0))) := ⟨by (with_reducible repeat (first | refine blk_drewN ?_ _ | refine blk_drew ?_ | refine blk_alloc ?_ _)); refine blk_far ?_ NB471_504.out _; (with_reducible repeat (first | refine blk_drewN ?_ _ | refine blk_drew ?_ | refine blk_alloc ?_ _)); refine blk_far ?_ NB471_504.out _; (with_reducible repeat (first | refine blk_drewN ?_ _ | refine blk_drew ?_ | refine blk_alloc ?_ _)); exact BK471.out⟩
                    have n1_ : Aside0 (((w85.setCell ⟨gb504, 0, none⟩ (.int .u64 t501)).setCell ⟨gb504, 1, none⟩ (.int .u64 t502)).heap[gb479]? = some (.cells #[.int .u64 x480000_2, .int .u64 x480001_2] 24 (0, 0))) := ⟨by (with_reducible repeat (first | refine blk_drewN ?_ _ | refine blk_drew ?_ | refine blk_alloc ?_ _)); refine blk_far ?_ NB479_504.out _; (with_reducible repeat (first | refine blk_drewN ?_ _ | refine blk_drew ?_ | refine blk_alloc ?_ _)); refine blk_far ?_ NB479_504.out _; (with_reducible repeat (first | refine blk_drewN ?_ _ | refine blk_drew ?_ | refine blk_alloc ?_ _)); exact BK479.out⟩
                    have n2_ : Aside0 (((w85.setCell ⟨gb504, 0, none⟩ (.int .u64 t501)).setCell ⟨gb504, 1, none⟩ (.int .u64 t502)).heap[gb500]? = some (.cells #[.int .u64 t497, .int .u64 t498] 24 (0, 0))) := ⟨by (with_reducible repeat (first | refine blk_drewN ?_ _ | refine blk_drew ?_ | refine blk_alloc ?_ _)); refine blk_far ?_ NB500_504.out _; (with_reducible repeat (first | refine blk_drewN ?_ _ | refine blk_drew ?_ | refine blk_alloc ?_ _)); refine blk_far ?_ NB500_504.out _; (with_reducible repeat (first | refine blk_drewN ?_ _ | refine blk_drew ?_ | refine blk_alloc ?_ _)); exact BK500.out⟩
                    have n3_ : Aside0 (((w85.setCell ⟨gb504, 0, none⟩ (.int .u64 t501)).setCell ⟨gb504, 1, none⟩ (.int .u64 t502)).heap[gb504]? = some (.cells #[.int .u64 t501, .int .u64 t502] 24 (0, 0))) := ⟨by (with_reducible repeat (first | refine blk_drewN ?_ _ | refine blk_drew ?_ | refine blk_alloc ?_ _)); refine blk_put (cs := #[.int .u64 t501, .int .u64 0]) ?_ 1 _ rfl; (with_reducible repeat (first | refine blk_drewN ?_ _ | refine blk_drew ?_ | refine blk_alloc ?_ _)); refine blk_put (cs := #[.int .u64 0, .int .u64 0]) ?_ 0 _ rfl; (with_reducible repeat (first | refine blk_drewN ?_ _ | refine blk_drew ?_ | refine blk_alloc ?_ _)); exact BK504.out⟩
                    have n4_ : Aside0 (Below w.heap.size w ((w85.setCell ⟨gb504, 0, none⟩ (.int .u64 t501)).setCell ⟨gb504, 1, none⟩ (.int .u64 t502))) := ⟨by repeat (first | (with_reducible first | exact HB.out | apply below_alloc | apply pw_below_drewN | apply below_drew1 | refine below_set ?_ GE471.out | refine below_set ?_ GE479.out | refine below_set ?_ GE500.out | refine below_set ?_ GE504.out) | exact HB.out)⟩
                    (try clear BK471)
                    (try clear BK479)
                    (try clear BK500)
                    (try clear BK504)
                    (try clear HB)
                    generalize ((w85.setCell ⟨gb504, 0, none⟩ (.int .u64 t501)).setCell ⟨gb504, 1, none⟩ (.int .u64 t502)) = w90 at n0_ n1_ n2_ n3_ n4_ ⊢
                    have BK471 := n0_
                    have BK479 := n1_
                    have BK500 := n2_
                    have BK504 := n3_
                    have HB := n4_
                    clear n0_ n1_ n2_ n3_ n4_
                    have n0_ := Aside0.mk (blk_drew BK471.out)
                    have n1_ := Aside0.mk (blk_drew BK479.out)
                    have n2_ := Aside0.mk (blk_drew BK500.out)
                    have n3_ := Aside0.mk (blk_drew BK504.out)
                    have n4_ := Aside0.mk (below_drew1 HB.out)
                    clear BK471
                    clear BK479
                    clear BK500
                    clear BK504
                    clear HB
                    have BK471 := n0_
                    have BK479 := n1_
                    have BK500 := n2_
                    have BK504 := n3_
                    have HB := n4_
                    clear n0_ n1_ n2_ n3_ n4_
                    refine start_ (n := 18) (S := fun w' => w'.cell? ⟨gb479, 0, none⟩ = some (.int .u64 x480000_2) ∧ w'.cell? ⟨gb479, 1, none⟩ = some (.int .u64 x480001_2) ∧ w'.cell? ⟨gb471, 0, none⟩ = some (.int .u64 t476) ∧ w'.cell? ⟨gb471, 1, none⟩ = some (.int .u64 t477) ∧ w'.cell? ⟨gb504, 0, none⟩ = some (.int .u64 t501) ∧ w'.cell? ⟨gb504, 1, none⟩ = some (.int .u64 t502)) (ds := []) #[false, false, false, false, false, false, false, false, false, false, false, false, false, false, false, false, false, false] (by kernel_rfl) rfl rfl ⟨(blk_cell BK479.out 0).trans rfl, (blk_cell BK479.out 1).trans rfl, (blk_cell BK471.out 0).trans rfl, (blk_cell BK471.out 1).trans rfl, (blk_cell BK504.out 0).trans rfl, (blk_cell BK504.out 1).trans rfl⟩ (fun hHeld => ?_); refine with_tabW turnpikelaw2_AddrWalk.tab27 turnpikelaw2_AddrWalk.bits27 (fun HT_ HW_ => ?_)
                    generalize w90.drew = w91 at BK471 BK479 BK500 BK504 HB hHeld ⊢
                    refine take_ (i := 0) (N := some 93) (v := ?_) (a' := ?_) #[true, false, false, false, false, false, false, false, false, false, false, false, false, false, false, false, false, false] rfl rfl (take_ofW HT_.out HW_.out (by kernel_rfl)) (fun _ _ _ h => h) (Or.inl ⟨by rfl, ?_⟩) hHeld ?_ ?_
                    rotate_left
                    · rintro w' ⟨s0, s1, s2, s3, s4, s5⟩
                      go_simp
                      with_reducible rfl
                    rotate_left
                    · simp only [Act.put, List.setIfInBounds_toArray, List.set_cons_zero, List.set_cons_succ, i64_w, i32_w]
                      rfl
                    refine take_ (i := 1) (N := some 94) (v := ?_) (a' := ?_) #[true, true, false, false, false, false, false, false, false, false, false, false, false, false, false, false, false, false] rfl rfl (take_ofW HT_.out HW_.out (by kernel_rfl)) (fun _ _ _ h => h) (Or.inl ⟨by rfl, ?_⟩) hHeld ?_ ?_
                    rotate_left
                    · rintro w' ⟨s0, s1, s2, s3, s4, s5⟩
                      go_simp
                      with_reducible rfl
                    rotate_left
                    · simp only [Act.put, List.setIfInBounds_toArray, List.set_cons_zero, List.set_cons_succ, i64_w, i32_w]
                      rfl
                    refine pure_ (i := 2) (N := some 95) (v := ?_) (a' := ?_) #[true, true, true, false, false, false, false, false, false, false, false, false, false, false, false, false, false, false] rfl rfl (any_of HT_.out (by kernel_rfl)) (fun _ _ _ h => h) (Or.inl ⟨by rfl, ?_⟩) ?_ ?_
                    rotate_left
                    · intro w'
                      go_simp
                      with_reducible rfl
                    rotate_left
                    · simp only [Act.put, List.setIfInBounds_toArray, List.set_cons_zero, List.set_cons_succ, i64_w, i32_w]
                      rfl
                    refine pure_ (i := 3) (N := some 96) (v := ?_) (a' := ?_) #[true, true, true, true, false, false, false, false, false, false, false, false, false, false, false, false, false, false] rfl rfl (any_of HT_.out (by kernel_rfl)) (fun _ _ _ h => h) (Or.inl ⟨by rfl, ?_⟩) ?_ ?_
                    rotate_left
                    · intro w'
                      go_simp
                      with_reducible rfl
                    rotate_left
                    · simp only [Act.put, List.setIfInBounds_toArray, List.set_cons_zero, List.set_cons_succ, i64_w, i32_w]
                      rfl
                    refine pure_ (i := 4) (N := some 97) (v := ?_) (a' := ?_) #[true, true, true, true, true, false, false, false, false, false, false, false, false, false, false, false, false, false] rfl rfl (any_of HT_.out (by kernel_rfl)) (fun _ _ _ h => h) (Or.inl ⟨by rfl, ?_⟩) ?_ ?_
                    rotate_left
                    · intro w'
                      go_simp
                      with_reducible rfl
                    rotate_left
                    · simp only [Act.put, List.setIfInBounds_toArray, List.set_cons_zero, List.set_cons_succ, i64_w, i32_w]
                      rfl
                    refine pure_ (i := 5) (N := some 98) (v := ?_) (a' := ?_) #[true, true, true, true, true, true, false, false, false, false, false, false, false, false, false, false, false, false] rfl rfl (any_of HT_.out (by kernel_rfl)) (fun _ _ _ h => h) (Or.inl ⟨by rfl, ?_⟩) ?_ ?_
                    rotate_left
                    · intro w'
                      go_simp
                      with_reducible rfl
                    rotate_left
                    · simp only [Act.put, List.setIfInBounds_toArray, List.set_cons_zero, List.set_cons_succ, i64_w, i32_w]
                      rfl
                    refine pure_ (i := 6) (N := some 99) (v := ?_) (a' := ?_) #[true, true, true, true, true, true, true, false, false, false, false, false, false, false, false, false, false, false] rfl rfl (any_of HT_.out (by kernel_rfl)) (fun _ _ _ h => h) (Or.inl ⟨by rfl, ?_⟩) ?_ ?_
                    rotate_left
                    · intro w'
                      go_simp
                      with_reducible rfl
                    rotate_left
                    · simp only [Act.put, List.setIfInBounds_toArray, List.set_cons_zero, List.set_cons_succ, i64_w, i32_w]
                      rfl
                    refine pure_ (i := 7) (N := some 100) (v := ?_) (a' := ?_) #[true, true, true, true, true, true, true, true, false, false, false, false, false, false, false, false, false, false] rfl rfl (any_of HT_.out (by kernel_rfl)) (fun _ _ _ h => h) (Or.inl ⟨by rfl, ?_⟩) ?_ ?_
                    rotate_left
                    · intro w'
                      go_simp
                      with_reducible rfl
                    rotate_left
                    · simp only [Act.put, List.setIfInBounds_toArray, List.set_cons_zero, List.set_cons_succ, i64_w, i32_w]
                      rfl
                    refine pure_ (i := 8) (N := some 101) (v := ?_) (a' := ?_) #[true, true, true, true, true, true, true, true, true, false, false, false, false, false, false, false, false, false] rfl rfl (any_of HT_.out (by kernel_rfl)) (fun _ _ _ h => h) (Or.inl ⟨by rfl, ?_⟩) ?_ ?_
                    rotate_left
                    · intro w'
                      go_simp
                      with_reducible rfl
                    rotate_left
                    · simp only [Act.put, List.setIfInBounds_toArray, List.set_cons_zero, List.set_cons_succ, i64_w, i32_w]
                      rfl
                    refine pure_ (i := 9) (N := some 102) (v := ?_) (a' := ?_) #[true, true, true, true, true, true, true, true, true, true, false, false, false, false, false, false, false, false] rfl rfl (any_of HT_.out (by kernel_rfl)) (fun _ _ _ h => h) (Or.inl ⟨by rfl, ?_⟩) ?_ ?_
                    rotate_left
                    · intro w'
                      go_simp
                      with_reducible rfl
                    rotate_left
                    · simp only [Act.put, List.setIfInBounds_toArray, List.set_cons_zero, List.set_cons_succ, i64_w, i32_w]
                      rfl
                    refine pure_ (i := 10) (N := some 103) (v := ?_) (a' := ?_) #[true, true, true, true, true, true, true, true, true, true, true, false, false, false, false, false, false, false] rfl rfl (any_of HT_.out (by kernel_rfl)) (fun _ _ _ h => h) (Or.inl ⟨by rfl, ?_⟩) ?_ ?_
                    rotate_left
                    · intro w'
                      go_simp
                      with_reducible rfl
                    rotate_left
                    · simp only [Act.put, List.setIfInBounds_toArray, List.set_cons_zero, List.set_cons_succ, i64_w, i32_w]
                      rfl
                    refine pure_ (i := 11) (N := some 104) (v := ?_) (a' := ?_) #[true, true, true, true, true, true, true, true, true, true, true, true, false, false, false, false, false, false] rfl rfl (any_of HT_.out (by kernel_rfl)) (fun _ _ _ h => h) (Or.inl ⟨by rfl, ?_⟩) ?_ ?_
                    rotate_left
                    · intro w'
                      go_simp
                      with_reducible rfl
                    rotate_left
                    · simp only [Act.put, List.setIfInBounds_toArray, List.set_cons_zero, List.set_cons_succ, i64_w, i32_w]
                      rfl
                    refine pure_ (i := 13) (N := some 106) (v := ?_) (a' := ?_) #[true, true, true, true, true, true, true, true, true, true, true, true, false, true, false, false, false, false] rfl rfl (any_of HT_.out (by kernel_rfl)) (fun _ _ _ h => h) (Or.inl ⟨by rfl, ?_⟩) ?_ ?_
                    rotate_left
                    · intro w'
                      go_simp
                      with_reducible rfl
                    rotate_left
                    · simp only [Act.put, List.setIfInBounds_toArray, List.set_cons_zero, List.set_cons_succ, i64_w, i32_w]
                      rfl
                    refine take_ (i := 12) (N := some 105) (v := ?_) (a' := ?_) #[true, true, true, true, true, true, true, true, true, true, true, true, true, true, false, false, false, false] rfl rfl (take_ofW HT_.out HW_.out (by kernel_rfl)) (fun _ _ _ h => h) (Or.inl ⟨by rfl, ?_⟩) hHeld ?_ ?_
                    rotate_left
                    · rintro w' ⟨s0, s1, s2, s3, s4, s5⟩
                      go_simp
                      with_reducible rfl
                    rotate_left
                    · simp only [Act.put, List.setIfInBounds_toArray, List.set_cons_zero, List.set_cons_succ, i64_w, i32_w]
                      rfl
                    refine one_ (i := 14) (N := some 107) #[true, true, true, true, true, true, true, true, true, true, true, true, true, true, true, false, false, false] rfl rfl (one_of HT_.out (by kernel_rfl)) (by decide) (fun K hK => ?_)
                    refine goes_ Try.func27 (by kernel_rfl) rfl #[.int .i64 t473] (by rfl) rfl rfl (by (try simp only [List.map_toArray, List.map_cons, List.map_nil]); first | done | rfl | (simp only [List.length_drop, List.length_take]; rfl)) ?_
                    with_reducible refine (turnpikeref1_Mask.calls k2 t473 t505 t506 _ A78.out).mono ?_
                    rintro e w92 ⟨rfl, hb⟩
                    refine ⟨_, rfl, ?_⟩
                    have n0_ := Aside0.mk (blk_below (g := gb471) (o := .cells #[.int .u64 t476, .int .u64 t477] 24 (0, 0)) (by (with_reducible repeat (first | refine blk_drewN ?_ _ | refine blk_drew ?_ | refine blk_alloc ?_ _)); exact BK471.out) hb)
                    have n1_ := Aside0.mk (blk_below (g := gb479) (o := .cells #[.int .u64 x480000_2, .int .u64 x480001_2] 24 (0, 0)) (by (with_reducible repeat (first | refine blk_drewN ?_ _ | refine blk_drew ?_ | refine blk_alloc ?_ _)); exact BK479.out) hb)
                    have n2_ := Aside0.mk (blk_below (g := gb500) (o := .cells #[.int .u64 t497, .int .u64 t498] 24 (0, 0)) (by (with_reducible repeat (first | refine blk_drewN ?_ _ | refine blk_drew ?_ | refine blk_alloc ?_ _)); exact BK500.out) hb)
                    have n3_ := Aside0.mk (blk_below (g := gb504) (o := .cells #[.int .u64 t501, .int .u64 t502] 24 (0, 0)) (by (with_reducible repeat (first | refine blk_drewN ?_ _ | refine blk_drew ?_ | refine blk_alloc ?_ _)); exact BK504.out) hb)
                    have n4_ := Aside0.mk (below_step (by repeat (first | (with_reducible first | exact HB.out | apply below_alloc | apply pw_below_drewN | apply below_drew1 | refine below_set ?_ GE471.out | refine below_set ?_ GE479.out | refine below_set ?_ GE500.out | refine below_set ?_ GE504.out) | exact HB.out)) hb)
                    clear BK471
                    clear BK479
                    clear BK500
                    clear BK504
                    clear HB
                    have BK471 := n0_
                    have BK479 := n1_
                    have BK500 := n2_
                    have BK504 := n3_
                    have HB := n4_
                    clear n0_ n1_ n2_ n3_ n4_
                    (try clear hb)
                    (try clear hb2)
                    (try clear hk)
                    (try clear hi)
                    refine hK.out _ _ ⟨(blk_cell BK479.out 0).trans rfl, (blk_cell BK479.out 1).trans rfl, (blk_cell BK471.out 0).trans rfl, (blk_cell BK471.out 1).trans rfl, (blk_cell BK504.out 0).trans rfl, (blk_cell BK504.out 1).trans rfl⟩ (fun hHeld => ?_)
                    clear hK K
                    refine norm_ (a' := ?_) ?_ ?_
                    rotate_left
                    · show Act.put _ (some 107) _ = _
                      simp only [Act.put, List.setIfInBounds_toArray, List.set_cons_zero, List.set_cons_succ, i64_w, i32_w]
                      rfl
                    refine pure_ (i := 15) (N := some 108) (v := ?_) (a' := ?_) #[true, true, true, true, true, true, true, true, true, true, true, true, true, true, true, true, false, false] rfl rfl (any_of HT_.out (by kernel_rfl)) (fun _ _ _ h => h) (Or.inl ⟨by rfl, ?_⟩) ?_ ?_
                    rotate_left
                    · intro w'
                      go_simp
                      with_reducible rfl
                    rotate_left
                    · simp only [Act.put, List.setIfInBounds_toArray, List.set_cons_zero, List.set_cons_succ, i64_w, i32_w]
                      rfl
                    refine pure_ (i := 16) (N := some 109) (v := ?_) (a' := ?_) #[true, true, true, true, true, true, true, true, true, true, true, true, true, true, true, true, true, false] rfl rfl (any_of HT_.out (by kernel_rfl)) (fun _ _ _ h => h) (Or.inl ⟨by rfl, ?_⟩) ?_ ?_
                    rotate_left
                    · intro w'
                      go_simp
                      with_reducible rfl
                    rotate_left
                    · simp only [Act.put, List.setIfInBounds_toArray, List.set_cons_zero, List.set_cons_succ, i64_w, i32_w]
                      rfl
                    refine pure_ (i := 17) (N := some 6) (v := ?_) (a' := ?_) #[true, true, true, true, true, true, true, true, true, true, true, true, true, true, true, true, true, true] rfl rfl (any_of HT_.out (by kernel_rfl)) (fun _ _ _ h => h) (Or.inl ⟨by rfl, ?_⟩) ?_ ?_
                    rotate_left
                    · intro w'
                      go_simp
                      with_reducible rfl
                    rotate_left
                    · simp only [Act.put, List.setIfInBounds_toArray, List.set_cons_zero, List.set_cons_succ, i64_w, i32_w]
                      rfl
                    refine done_ (done_of HT_.out (by kernel_rfl)) ?_
                    try go_wp2
                    go_ret
                    exact ⟨by first | rfl | (simp [errW_none, errW_some] <;> rfl) | (simp [*, errW_none, errW_some] <;> rfl), by repeat (first | (with_reducible first | exact HB.out | apply below_alloc | apply pw_below_drewN | apply below_drew1 | refine below_set ?_ GE471.out | refine below_set ?_ GE479.out | refine below_set ?_ GE500.out | refine below_set ?_ GE504.out) | exact HB.out)⟩
                  · rw [if_neg c77] at H
                    have c77b0 : (t503 == 0) = false := beq_eq_false_iff_ne.mpr c77
                    have c77b1 : (t503 != 0) = true := bne_iff_ne.mpr c77
                    obtain rfl := Option.some.inj H
                    exact absurd hr_.out (by decide)
              · rw [if_neg c75] at H
                have c75b0 : (x480000_2 == t476 && (x480001_2 == t477)) = false := by simpa using c75
                (try (have c75b1 : decide (x480000_2 = t476 && (x480001_2 == t477)) = false := by simpa using c75))
                (try (have c75b2 : (x480000_2 == t476 && (x480001_2 == t477)) = false := by simpa using c75))
                (try (have c75b3 : ¬ (x480000_2 = t476 && (x480001_2 == t477)) := by simpa using c75))
                clear c75
                obtain rfl := Option.some.inj H
                exact absurd hr_.out (by decide)
  · replace c5 := Bool.eq_false_iff.mpr c5
    subst c5
    have H1 : (some false) = some r := by rw [if_neg (show ¬ (false = true) by decide)] at H; exact H
    clear H
    have H := H1
    clear H1
    obtain rfl := Option.some.inj H
    exact absurd hr_.out (by decide)

/-- THE ONE PURE STATEMENT of turnpikelaw2_AddrWalk: yours. -/
def turnpikelaw2_AddrWalk.Pure : Prop := ∀ (a0 : Bool) (a1_0 : Int) (a1_1 : Int) (a2 : Int), (Lit.int .u64 a1_0).wf = true → (Lit.int .u64 a1_1).wf = true → (Lit.int .i64 a2).wf = true → ∃ k, turnpikelaw2_AddrWalk.f k a0 a1_0 a1_1 a2 = some true
theorem turnpikelaw2_AddrWalk.walk (P : turnpikelaw2_AddrWalk.Pure) (a0 : Bool) (a1_0 : Int) (a1_1 : Int) (a2 : Int) (w : World) (hML : MLOk w) (wa1_0 : (Lit.int .u64 a1_0).wf = true) (wa1_1 : (Lit.int .u64 a1_1).wf = true) (wa2 : (Lit.int .i64 a2).wf = true) :
    Calls Try.prog 8 #[.bool a0, .agg #[.int .u64 a1_0, .int .u64 a1_1], .int .i64 a2] w fun e w' => e = .returned (.bool true) ∧ Below w.heap.size w w' := by
  obtain ⟨k, h⟩ := P a0 a1_0 a1_1 a2 wa1_0 wa1_1 wa2
  refine (turnpikelaw2_AddrWalk.calls k a0 a1_0 a1_1 a2 true w hML ⟨rfl⟩ h).mono ?_
  rintro e w' ⟨rfl, hd⟩
  exact ⟨rfl, hd⟩

end Go.Proofs.Ytamiaaeaehdahaa.X
