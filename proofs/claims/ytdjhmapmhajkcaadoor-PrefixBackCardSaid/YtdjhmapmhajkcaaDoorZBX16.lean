-- Printed by a program of this session (xprint.py, over the kit's printer)
import Derived.Test.YtdjhmapmhajkcaaDoorX0
import Derived.Test.YtdjhmapmhajkcaaDoorZBX2
import Derived.Test.YtdjhmapmhajkcaaDoorZBX3
import Derived.Test.YtdjhmapmhajkcaaDoorZBX4
import Derived.Test.YtdjhmapmhajkcaaDoorZBX6
import Derived.Test.YtdjhmapmhajkcaaDoorZBX8
import Derived.Test.YtdjhmapmhajkcaaDoorSh
namespace Go.Proofs.YtdjhmapmhajkcaaDoor.X
open Go.RowKit Go.Proofs.YtdjhmapmhajkcaaDoorW.PrintWords Go.Proofs.YtdjhmapmhajkcaaDoorW.PrintLast Go.Proofs.YtdjhmapmhajkcaaDoor.Sm Go.Proofs.YtdjhmapmhajkcaaDoor.Sh
set_option linter.unusedVariables false
set_option linter.unusedSimpArgs false
attribute [local go_sem high] eqA28
def turnpikelaw3_PrefixBack.f (k : Nat) (a0 : Bool) (a1_0 : Int) (a1_1 : Int) (a2 : Int) : Option (Bool) := (turnpikelaw3_known.f k).bind fun t343 => (if t343 = true then ((turnpikelaw3_Family.f a0).bind fun t344 => ((turnpikelaw3_Some.f k t344 a1_0 a1_1 a2).bind fun bt345 => ((prefix_Text.f k t344 bt345.1 bt345.2.1 bt345.2.2).bind fun bt349 => ((prefix_Parse.f k t344 bt349.1).bind fun bt351 => (if bt349.2 = 0 then (if bt351.2.2.2 = 0 then (if ((bt345.1 == bt351.1 && (bt345.2.1 == bt351.2.1)) && (bt345.2.2 == bt351.2.2.1)) = true then ((prefix_Check.f k t344 bt345.1 bt345.2.1 bt345.2.2).bind fun t356 => (some (t356 == 0))) else (some false)) else (some false)) else (some false)))))) else (some false))
theorem turnpikelaw3_PrefixBack.mono : ∀ a0 a1 a2 a3 k, LeO (turnpikelaw3_PrefixBack.f k a0 a1 a2 a3) (turnpikelaw3_PrefixBack.f (k + 1) a0 a1 a2 a3) := by
  intro a0 a1 a2 a3 k
  unfold turnpikelaw3_PrefixBack.f
  have m0 := @prefix_Check.mono
  have m1 := @prefix_Parse.mono
  have m2 := @prefix_Text.mono
  have m3 := @turnpikelaw3_Some.mono
  have m4 := @turnpikelaw3_known.mono
  exact xO
set_option maxHeartbeats 8000000 in
set_option maxRecDepth 100000 in
theorem turnpikelaw3_PrefixBack.calls (k : Nat) (a0 : Bool) (a1_0 : Int) (a1_1 : Int) (a2 : Int) (r : Bool) (w : World) (hML : MLOk w) (hr_ : Aside0 (r = true)) (h : turnpikelaw3_PrefixBack.f k a0 a1_0 a1_1 a2 = some r) :
    Calls Tryd.prog 4 #[.bool a0, .agg #[.int .u64 a1_0, .int .u64 a1_1], .int .i64 a2] w fun e w' => e = .returned (.bool r) ∧ Below w.heap.size w w' := by
  have hu24 := Tryd.underlying24
  have hu28 := Tryd.underlying28
  have HML := Aside0.mk hML
  clear hML
  have HB := Aside0.mk (Below.refl w.heap.size w)
  have H : ((turnpikelaw3_known.f k).bind fun t343 => (if t343 = true then ((turnpikelaw3_Family.f a0).bind fun t344 => ((turnpikelaw3_Some.f k t344 a1_0 a1_1 a2).bind fun bt345 => ((prefix_Text.f k t344 bt345.1 bt345.2.1 bt345.2.2).bind fun bt349 => ((prefix_Parse.f k t344 bt349.1).bind fun bt351 => (if bt349.2 = 0 then (if bt351.2.2.2 = 0 then (if ((bt345.1 == bt351.1 && (bt345.2.1 == bt351.2.1)) && (bt345.2.2 == bt351.2.2.1)) = true then ((prefix_Check.f k t344 bt345.1 bt345.2.1 bt345.2.2).bind fun t356 => (some (t356 == 0))) else (some false)) else (some false)) else (some false)))))) else (some false))) = some r := h
  clear h
  replace H := Option.bind_eq_some_iff.mp H
  obtain ⟨t343, A40, H⟩ := H
  replace H : (if t343 = true then ((turnpikelaw3_Family.f a0).bind fun t344 => ((turnpikelaw3_Some.f k t344 a1_0 a1_1 a2).bind fun bt345 => ((prefix_Text.f k t344 bt345.1 bt345.2.1 bt345.2.2).bind fun bt349 => ((prefix_Parse.f k t344 bt349.1).bind fun bt351 => (if bt349.2 = 0 then (if bt351.2.2.2 = 0 then (if ((bt345.1 == bt351.1 && (bt345.2.1 == bt351.2.1)) && (bt345.2.2 == bt351.2.2.1)) = true then ((prefix_Check.f k t344 bt345.1 bt345.2.1 bt345.2.2).bind fun t356 => (some (t356 == 0))) else (some false)) else (some false)) else (some false)))))) else (some false)) = some r := H
  have A4 := Aside0.mk A40
  clear A40
  by_cases c5 : t343 = true
  · subst c5
    have H1 : ((turnpikelaw3_Family.f a0).bind fun t344 => ((turnpikelaw3_Some.f k t344 a1_0 a1_1 a2).bind fun bt345 => ((prefix_Text.f k t344 bt345.1 bt345.2.1 bt345.2.2).bind fun bt349 => ((prefix_Parse.f k t344 bt349.1).bind fun bt351 => (if bt349.2 = 0 then (if bt351.2.2.2 = 0 then (if ((bt345.1 == bt351.1 && (bt345.2.1 == bt351.2.1)) && (bt345.2.2 == bt351.2.2.1)) = true then ((prefix_Check.f k t344 bt345.1 bt345.2.1 bt345.2.2).bind fun t356 => (some (t356 == 0))) else (some false)) else (some false)) else (some false)))))) = some r := by rw [if_pos rfl] at H; exact H
    clear H
    have H := H1
    clear H1
    replace H := Option.bind_eq_some_iff.mp H
    obtain ⟨t344, A60, H⟩ := H
    replace H : ((turnpikelaw3_Some.f k t344 a1_0 a1_1 a2).bind fun bt345 => ((prefix_Text.f k t344 bt345.1 bt345.2.1 bt345.2.2).bind fun bt349 => ((prefix_Parse.f k t344 bt349.1).bind fun bt351 => (if bt349.2 = 0 then (if bt351.2.2.2 = 0 then (if ((bt345.1 == bt351.1 && (bt345.2.1 == bt351.2.1)) && (bt345.2.2 == bt351.2.2.1)) = true then ((prefix_Check.f k t344 bt345.1 bt345.2.1 bt345.2.2).bind fun t356 => (some (t356 == 0))) else (some false)) else (some false)) else (some false))))) = some r := H
    have A6 := Aside0.mk A60
    clear A60
    replace H := Option.bind_eq_some_iff.mp H
    obtain ⟨⟨t345, t346, t347⟩, A70, H⟩ := H
    replace H : ((prefix_Text.f k t344 t345 t346 t347).bind fun bt349 => ((prefix_Parse.f k t344 bt349.1).bind fun bt351 => (if bt349.2 = 0 then (if bt351.2.2.2 = 0 then (if ((t345 == bt351.1 && (t346 == bt351.2.1)) && (t347 == bt351.2.2.1)) = true then ((prefix_Check.f k t344 t345 t346 t347).bind fun t356 => (some (t356 == 0))) else (some false)) else (some false)) else (some false)))) = some r := H
    have A7 := Aside0.mk A70
    clear A70
    replace H := Option.bind_eq_some_iff.mp H
    obtain ⟨⟨t349, t350⟩, A80, H⟩ := H
    replace H : ((prefix_Parse.f k t344 t349).bind fun bt351 => (if t350 = 0 then (if bt351.2.2.2 = 0 then (if ((t345 == bt351.1 && (t346 == bt351.2.1)) && (t347 == bt351.2.2.1)) = true then ((prefix_Check.f k t344 t345 t346 t347).bind fun t356 => (some (t356 == 0))) else (some false)) else (some false)) else (some false))) = some r := H
    have A8 := Aside0.mk A80
    clear A80
    replace H := Option.bind_eq_some_iff.mp H
    obtain ⟨⟨t351, t352, t353, t354⟩, A90, H⟩ := H
    replace H : (if t350 = 0 then (if t354 = 0 then (if ((t345 == t351 && (t346 == t352)) && (t347 == t353)) = true then ((prefix_Check.f k t344 t345 t346 t347).bind fun t356 => (some (t356 == 0))) else (some false)) else (some false)) else (some false)) = some r := H
    have A9 := Aside0.mk A90
    clear A90
    by_cases c10 : t350 = 0
    · rw [if_pos c10] at H
      have c10b0 : (t350 == 0) = true := beq_iff_eq.mpr c10
      have c10b1 : (t350 != 0) = false := bne_eq_false_iff_eq.mpr c10
      clear c10
      by_cases c11 : t354 = 0
      · rw [if_pos c11] at H
        have c11b0 : (t354 == 0) = true := beq_iff_eq.mpr c11
        have c11b1 : (t354 != 0) = false := bne_eq_false_iff_eq.mpr c11
        clear c11
        by_cases c12 : ((t345 == t351 && (t346 == t352)) && (t347 == t353)) = true
        · rw [if_pos c12] at H
          have c12b0 : ((t345 == t351 && (t346 == t352)) && (t347 == t353)) = true := c12
          clear c12
          replace H := Option.bind_eq_some_iff.mp H
          obtain ⟨t356, A130, H⟩ := H
          replace H : (some (t356 == 0)) = some r := H
          have A13 := Aside0.mk A130
          clear A130
          obtain rfl := Option.some.inj H
          go_enter Tryd.func4, Tryd.ntmps4
          go_wp2_with (first | ((with_reducible refine gate_dst (N := 4) rfl ?_); refine box_event ?hg (N := 4) ?hd (cs := #[.int .u64 a1_0, .int .u64 a1_1]) (t := 24) ?hr ?_; (case hd => rfl); (case hg => rfl); (case hr => first | (go_simp; done) | (go_simp; rfl)); intro gb342 hg w14 hbox hb; have n0_ := Aside0.mk (below_step xB hb); have n1_ := Aside0.mk (hbox); have n2_ := Aside0.mk ((by rw [hg]; exact (below_size xB) : w.heap.size ≤ gb342)); have n3_ := Aside0.mk ((by rw [hg]; exact (below_size xB) : w.heap.size ≤ gb342)); clear HB; have HB := n0_; have BK342 := n1_; have GW342 := n2_; have GE342 := n3_; clear n0_ n1_ n2_ n3_; clear hb hbox hg) | ((with_reducible refine gate_callee (f := 14) rfl ?_); refine goesL_ (some 13) rfl rfl Tryd.func14 (by kernel_rfl) rfl #[] rfl xM ?_; (with_reducible refine (turnpikelaw3_known.calls k  true _ ?side1 A4.out).mono ?_); (case side1 => first | exact MLOk.below HML.out xG | (repeat (first | exact HML.out | (with_reducible refine MLOk.alloc ?_ _) | (with_reducible refine MLOk.drewN ?_ _) | (with_reducible refine MLOk.drew ?_)))); rintro e w15 ⟨rfl, hb⟩; refine ⟨_, rfl, ?_⟩; have n0_ := Aside0.mk (blk_below (g := gb342) (o := .cells #[.int .u64 a1_0, .int .u64 a1_1] 24 (0, 0)) (xK BK342.out) hb); have n1_ := Aside0.mk (below_step xG hb); clear BK342; clear HB; have BK342 := n0_; have HB := n1_; clear n0_ n1_; (try clear hb); (try clear hb2); (try clear hk); (try clear hi)) | ((with_reducible refine gate_callee (f := 15) rfl ?_); refine goesL_ (some 16) rfl rfl Tryd.func15 (by kernel_rfl) rfl #[.bool a0] rfl xM ?_; (with_reducible refine (turnpikelaw3_Family.calls a0 t344 _ A6.out).mono ?_); rintro e w' ⟨rfl, ⟨nd, rfl⟩⟩; refine ⟨_, rfl, ?_⟩; (try (rw [drewN_self w15]; generalize hq_ : World.drewN w15 _ = w15; have n0_ : Aside0 (w15.heap[gb342]? = some (.cells #[.int .u64 a1_0, .int .u64 a1_1] 24 (0, 0))) := ⟨by rw [← hq_]; exact (xK BK342.out)⟩; have n1_ : Aside0 (Below w.heap.size w w15) := ⟨by rw [← hq_]; exact xG⟩; clear BK342 HB hq_; have BK342 := n0_; have HB := n1_; clear n0_ n1_)); have hcz16_0 : w15.cell? ⟨gb342, 0, none⟩ = some (.int .u64 a1_0) := (blk_cell BK342.out 0).trans rfl; have hcz16_1 : w15.cell? ⟨gb342, 1, none⟩ = some (.int .u64 a1_1) := (blk_cell BK342.out 1).trans rfl; have hfz16_0 := blk_frozen BK342.out 0; have hfz16_1 := blk_frozen BK342.out 1) | ((with_reducible refine gate_callee (f := 16) rfl ?_); refine goesL_ (some 20) rfl rfl Tryd.func16 (by kernel_rfl) rfl #[.int .i64 t344, .agg #[.int .u64 a1_0, .int .u64 a1_1], .int .i64 a2] rfl xM ?_; (with_reducible refine (turnpikelaw3_Some.calls k t344 a1_0 a1_1 a2 t345 t346 t347 _ A7.out).mono ?_); rintro e w17 ⟨rfl, hb⟩; refine ⟨_, rfl, ?_⟩; have n0_ := Aside0.mk (blk_below (g := gb342) (o := .cells #[.int .u64 a1_0, .int .u64 a1_1] 24 (0, 0)) (xK BK342.out) hb); have n1_ := Aside0.mk (below_step xG hb); clear BK342; clear HB; have BK342 := n0_; have HB := n1_; clear n0_ n1_; (try clear hb); (try clear hb2); (try clear hk); (try clear hi)) | ((with_reducible refine gate_dst (N := 8) rfl ?_); refine box_event ?hg (N := 8) ?hd (cs := #[.int .u64 0, .int .u64 0, .int .i64 0]) (t := 28) ?hr ?_; (case hd => rfl); (case hg => rfl); (case hr => first | (go_simp; done) | (go_simp; rfl)); intro gb348 hg w18 hbox hb; have n0_ := Aside0.mk (blk_below (g := gb342) (o := .cells #[.int .u64 a1_0, .int .u64 a1_1] 24 (0, 0)) (xK BK342.out) hb); have n1_ := Aside0.mk (below_step xG hb); have n2_ := Aside0.mk (hbox); have n3_ := Aside0.mk ((by rw [hg]; exact (below_size xG) : w.heap.size ≤ gb348)); have n4_ := Aside0.mk ((by rw [hg]; exact (below_size xG) : w.heap.size ≤ gb348)); have n5_ := Aside0.mk ((xN BK342.out : gb342 ≠ gb348)); have n6_ := Aside0.mk ((xN BK342.out : gb348 ≠ gb342)); clear BK342; clear HB; have BK342 := n0_; have HB := n1_; have BK348 := n2_; have GW348 := n3_; have GE348 := n4_; have NB342_348 := n5_; have NB348_342 := n6_; clear n0_ n1_ n2_ n3_ n4_ n5_ n6_; clear hb hbox hg; have hnb19 := NB348_342.out; have hnc19 := NB342_348.out; have hcz20_0 : w18.cell? ⟨gb348, 0, none⟩ = some (.int .u64 0) := (blk_cell BK348.out 0).trans rfl; have hcz20_1 : w18.cell? ⟨gb348, 1, none⟩ = some (.int .u64 0) := (blk_cell BK348.out 1).trans rfl; have hcz20_2 : w18.cell? ⟨gb348, 2, none⟩ = some (.int .i64 0) := (blk_cell BK348.out 2).trans rfl; have hfz20_0 := blk_frozen BK348.out 0; have hfz20_1 := blk_frozen BK348.out 1; have hfz20_2 := blk_frozen BK348.out 2) | ((with_reducible refine gate_callee (f := 23) rfl ?_); refine goesL_ (some 24) rfl rfl Tryd.func23 (by kernel_rfl) rfl #[.int .i64 t344, .agg #[.int .u64 t345, .int .u64 t346, .int .i64 t347]] rfl xM ?_; (with_reducible refine (prefix_Text.calls k t344 t345 t346 t347 t349 t350 _ ?side1 A8.out).mono ?_); (case side1 => first | exact MLOk.below HML.out xG | (repeat (first | exact HML.out | (with_reducible refine MLOk.alloc ?_ _) | (with_reducible refine MLOk.drewN ?_ _) | (with_reducible refine MLOk.drew ?_)))); rintro e w21 ⟨rfl, hb⟩; refine ⟨_, rfl, ?_⟩; have n0_ := Aside0.mk (blk_below (g := gb342) (o := .cells #[.int .u64 a1_0, .int .u64 a1_1] 24 (0, 0)) (by (with_reducible repeat (first | refine blk_drewN ?_ _ | refine blk_drew ?_ | refine blk_alloc ?_ _)); refine blk_far ?_ NB342_348.out _; (with_reducible repeat (first | refine blk_drewN ?_ _ | refine blk_drew ?_ | refine blk_alloc ?_ _)); refine blk_far ?_ NB342_348.out _; (with_reducible repeat (first | refine blk_drewN ?_ _ | refine blk_drew ?_ | refine blk_alloc ?_ _)); refine blk_far ?_ NB342_348.out _; (with_reducible repeat (first | refine blk_drewN ?_ _ | refine blk_drew ?_ | refine blk_alloc ?_ _)); exact BK342.out) hb); have n1_ := Aside0.mk (blk_below (g := gb348) (o := .cells #[.int .u64 t345, .int .u64 t346, .int .i64 t347] 28 (0, 0)) (by (with_reducible repeat (first | refine blk_drewN ?_ _ | refine blk_drew ?_ | refine blk_alloc ?_ _)); refine blk_put (cs := #[.int .u64 t345, .int .u64 t346, .int .i64 0]) ?_ 2 _ rfl; (with_reducible repeat (first | refine blk_drewN ?_ _ | refine blk_drew ?_ | refine blk_alloc ?_ _)); refine blk_put (cs := #[.int .u64 t345, .int .u64 0, .int .i64 0]) ?_ 1 _ rfl; (with_reducible repeat (first | refine blk_drewN ?_ _ | refine blk_drew ?_ | refine blk_alloc ?_ _)); refine blk_put (cs := #[.int .u64 0, .int .u64 0, .int .i64 0]) ?_ 0 _ rfl; (with_reducible repeat (first | refine blk_drewN ?_ _ | refine blk_drew ?_ | refine blk_alloc ?_ _)); exact BK348.out) hb); have n2_ := Aside0.mk (below_step xG hb); clear BK342; clear BK348; clear HB; have BK342 := n0_; have BK348 := n1_; have HB := n2_; clear n0_ n1_ n2_; (try clear hb); (try clear hb2); (try clear hk); (try clear hi)) | ((with_reducible refine gate_callee (f := 24) rfl ?_); refine goesL_ (some 30) rfl rfl Tryd.func24 (by kernel_rfl) rfl #[.int .i64 t344, .string t349] rfl xM ?_; (with_reducible refine (prefix_Parse.calls k t344 t349 t351 t352 t353 t354 _ ?side1 A9.out).mono ?_); (case side1 => first | exact MLOk.below HML.out xG | (repeat (first | exact HML.out | (with_reducible refine MLOk.alloc ?_ _) | (with_reducible refine MLOk.drewN ?_ _) | (with_reducible refine MLOk.drew ?_)))); rintro e w22 ⟨rfl, hb⟩; refine ⟨_, rfl, ?_⟩; have n0_ := Aside0.mk (blk_below (g := gb342) (o := .cells #[.int .u64 a1_0, .int .u64 a1_1] 24 (0, 0)) (xK BK342.out) hb); have n1_ := Aside0.mk (blk_below (g := gb348) (o := .cells #[.int .u64 t345, .int .u64 t346, .int .i64 t347] 28 (0, 0)) (xK BK348.out) hb); have n2_ := Aside0.mk (below_step xG hb); clear BK342; clear BK348; clear HB; have BK342 := n0_; have BK348 := n1_; have HB := n2_; clear n0_ n1_ n2_; (try clear hb); (try clear hb2); (try clear hk); (try clear hi)) | ((with_reducible refine gate_dst (N := 11) rfl ?_); refine box_event ?hg (N := 11) ?hd (cs := #[.int .u64 0, .int .u64 0, .int .i64 0]) (t := 28) ?hr ?_; (case hd => rfl); (case hg => rfl); (case hr => first | (go_simp; done) | (go_simp; rfl)); intro gb355 hg w23 hbox hb; have n0_ := Aside0.mk (blk_below (g := gb342) (o := .cells #[.int .u64 a1_0, .int .u64 a1_1] 24 (0, 0)) (xK BK342.out) hb); have n1_ := Aside0.mk (blk_below (g := gb348) (o := .cells #[.int .u64 t345, .int .u64 t346, .int .i64 t347] 28 (0, 0)) (xK BK348.out) hb); have n2_ := Aside0.mk (below_step xG hb); have n3_ := Aside0.mk (hbox); have n4_ := Aside0.mk ((by rw [hg]; exact (below_size xG) : w.heap.size ≤ gb355)); have n5_ := Aside0.mk ((by rw [hg]; exact (below_size xG) : w.heap.size ≤ gb355)); have n6_ := Aside0.mk ((xN BK342.out : gb342 ≠ gb355)); have n7_ := Aside0.mk ((xN BK342.out : gb355 ≠ gb342)); have n8_ := Aside0.mk ((xN BK348.out : gb348 ≠ gb355)); have n9_ := Aside0.mk ((xN BK348.out : gb355 ≠ gb348)); clear BK342; clear BK348; clear HB; have BK342 := n0_; have BK348 := n1_; have HB := n2_; have BK355 := n3_; have GW355 := n4_; have GE355 := n5_; have NB342_355 := n6_; have NB355_342 := n7_; have NB348_355 := n8_; have NB355_348 := n9_; clear n0_ n1_ n2_ n3_ n4_ n5_ n6_ n7_ n8_ n9_; clear hb hbox hg; have hnb24 := NB355_342.out; have hnc24 := NB342_355.out; have hnb25 := NB355_348.out; have hnc25 := NB348_355.out; have hcz26_0 : w23.cell? ⟨gb355, 0, none⟩ = some (.int .u64 0) := (blk_cell BK355.out 0).trans rfl; have hcz26_1 : w23.cell? ⟨gb355, 1, none⟩ = some (.int .u64 0) := (blk_cell BK355.out 1).trans rfl; have hcz26_2 : w23.cell? ⟨gb355, 2, none⟩ = some (.int .i64 0) := (blk_cell BK355.out 2).trans rfl; have hfz26_0 := blk_frozen BK355.out 0; have hfz26_1 := blk_frozen BK355.out 1; have hfz26_2 := blk_frozen BK355.out 2; have hcz27_0 : w23.cell? ⟨gb348, 0, none⟩ = some (.int .u64 t345) := (blk_cell BK348.out 0).trans rfl; have hcz27_1 : w23.cell? ⟨gb348, 1, none⟩ = some (.int .u64 t346) := (blk_cell BK348.out 1).trans rfl; have hcz27_2 : w23.cell? ⟨gb348, 2, none⟩ = some (.int .i64 t347) := (blk_cell BK348.out 2).trans rfl; have hfz27_0 := blk_frozen BK348.out 0; have hfz27_1 := blk_frozen BK348.out 1; have hfz27_2 := blk_frozen BK348.out 2) | (go_at_call 25; (with_reducible refine (prefix_Check.calls k t344 t345 t346 t347 t356 _ A13.out).mono ?_); rintro e w28 ⟨rfl, hb⟩; have n0_ := Aside0.mk (blk_below (g := gb342) (o := .cells #[.int .u64 a1_0, .int .u64 a1_1] 24 (0, 0)) (by (with_reducible repeat (first | refine blk_drewN ?_ _ | refine blk_drew ?_ | refine blk_alloc ?_ _)); refine blk_far ?_ NB342_355.out _; (with_reducible repeat (first | refine blk_drewN ?_ _ | refine blk_drew ?_ | refine blk_alloc ?_ _)); refine blk_far ?_ NB342_355.out _; (with_reducible repeat (first | refine blk_drewN ?_ _ | refine blk_drew ?_ | refine blk_alloc ?_ _)); refine blk_far ?_ NB342_355.out _; (with_reducible repeat (first | refine blk_drewN ?_ _ | refine blk_drew ?_ | refine blk_alloc ?_ _)); exact BK342.out) hb); have n1_ := Aside0.mk (blk_below (g := gb348) (o := .cells #[.int .u64 t345, .int .u64 t346, .int .i64 t347] 28 (0, 0)) (by (with_reducible repeat (first | refine blk_drewN ?_ _ | refine blk_drew ?_ | refine blk_alloc ?_ _)); refine blk_far ?_ NB348_355.out _; (with_reducible repeat (first | refine blk_drewN ?_ _ | refine blk_drew ?_ | refine blk_alloc ?_ _)); refine blk_far ?_ NB348_355.out _; (with_reducible repeat (first | refine blk_drewN ?_ _ | refine blk_drew ?_ | refine blk_alloc ?_ _)); refine blk_far ?_ NB348_355.out _; (with_reducible repeat (first | refine blk_drewN ?_ _ | refine blk_drew ?_ | refine blk_alloc ?_ _)); exact BK348.out) hb); have n2_ := Aside0.mk (blk_below (g := gb355) (o := .cells #[.int .u64 t351, .int .u64 t352, .int .i64 t353] 28 (0, 0)) (by (with_reducible repeat (first | refine blk_drewN ?_ _ | refine blk_drew ?_ | refine blk_alloc ?_ _)); refine blk_put (cs := #[.int .u64 t351, .int .u64 t352, .int .i64 0]) ?_ 2 _ rfl; (with_reducible repeat (first | refine blk_drewN ?_ _ | refine blk_drew ?_ | refine blk_alloc ?_ _)); refine blk_put (cs := #[.int .u64 t351, .int .u64 0, .int .i64 0]) ?_ 1 _ rfl; (with_reducible repeat (first | refine blk_drewN ?_ _ | refine blk_drew ?_ | refine blk_alloc ?_ _)); refine blk_put (cs := #[.int .u64 0, .int .u64 0, .int .i64 0]) ?_ 0 _ rfl; (with_reducible repeat (first | refine blk_drewN ?_ _ | refine blk_drew ?_ | refine blk_alloc ?_ _)); exact BK355.out) hb); have n3_ := Aside0.mk (below_step xG hb); clear BK342; clear BK348; clear BK355; clear HB; have BK342 := n0_; have BK348 := n1_; have BK355 := n2_; have HB := n3_; clear n0_ n1_ n2_ n3_; (try clear hb); (try clear hb2); (try clear hk); (try clear hi)))
          go_ret
          exact ⟨xE, xG⟩
        · rw [if_neg c12] at H
          have c12b0 : ((t345 == t351 && (t346 == t352)) && (t347 == t353)) = false := by simpa using c12
          clear c12
          obtain rfl := Option.some.inj H
          exact absurd hr_.out (by decide)
      · rw [if_neg c11] at H
        have c11b0 : (t354 == 0) = false := beq_eq_false_iff_ne.mpr c11
        have c11b1 : (t354 != 0) = true := bne_iff_ne.mpr c11
        obtain rfl := Option.some.inj H
        exact absurd hr_.out (by decide)
    · rw [if_neg c10] at H
      have c10b0 : (t350 == 0) = false := beq_eq_false_iff_ne.mpr c10
      have c10b1 : (t350 != 0) = true := bne_iff_ne.mpr c10
      obtain rfl := Option.some.inj H
      exact absurd hr_.out (by decide)
  · replace c5 := Bool.eq_false_iff.mpr c5
    subst c5
    have H1 : (some false) = some r := by rw [if_neg (show ¬ (false = true) by decide)] at H; exact H
    clear H
    have H := H1
    clear H1
    obtain rfl := Option.some.inj H
    exact absurd hr_.out (by decide)
def turnpikelaw3_PrefixBack.Pure : Prop := ∀ (a0 : Bool) (a1_0 : Int) (a1_1 : Int) (a2 : Int), (Lit.int .u64 a1_0).wf = true → (Lit.int .u64 a1_1).wf = true → (Lit.int .i64 a2).wf = true → ∃ k, turnpikelaw3_PrefixBack.f k a0 a1_0 a1_1 a2 = some true
theorem turnpikelaw3_PrefixBack.walk (P : turnpikelaw3_PrefixBack.Pure) (a0 : Bool) (a1_0 : Int) (a1_1 : Int) (a2 : Int) (w : World) (hML : MLOk w) (wa1_0 : (Lit.int .u64 a1_0).wf = true) (wa1_1 : (Lit.int .u64 a1_1).wf = true) (wa2 : (Lit.int .i64 a2).wf = true) :
    Calls Tryd.prog 4 #[.bool a0, .agg #[.int .u64 a1_0, .int .u64 a1_1], .int .i64 a2] w fun e w' => e = .returned (.bool true) ∧ Below w.heap.size w w' := by
  obtain ⟨k, h⟩ := P a0 a1_0 a1_1 a2 wa1_0 wa1_1 wa2
  refine (turnpikelaw3_PrefixBack.calls k a0 a1_0 a1_1 a2 true w hML ⟨rfl⟩ h).mono ?_
  rintro e w' ⟨rfl, hd⟩
  exact ⟨rfl, hd⟩
end Go.Proofs.YtdjhmapmhajkcaaDoor.X
