-- Printed by a program of this session (xprint.py, over the kit's printer)
import Derived.Test.YtdjhmapmhajkcaaDoorZLX0
import Derived.Test.YtdjhmapmhajkcaaDoorZLX3
import Derived.Test.YtdjhmapmhajkcaaDoorZLX4
import Derived.Test.YtdjhmapmhajkcaaDoorZLX10
import Derived.Test.YtdjhmapmhajkcaaDoorZLX17
import Derived.Test.YtdjhmapmhajkcaaDoorZLSh
namespace Go.Proofs.YtdjhmapmhajkcaaDoor.X
open Go.RowKit Go.Proofs.YtdjhmapmhajkcaaDoorW.PrintWords Go.Proofs.YtdjhmapmhajkcaaDoorW.PrintLast Go.Proofs.YtdjhmapmhajkcaaDoor.Sm Go.Proofs.YtdjhmapmhajkcaaDoor.Sh
set_option linter.unusedVariables false
set_option linter.unusedSimpArgs false
def prefix_one.f (a0 : Int) : Option (Int × Int) := (word_Mask.f 1).bind fun bt397 => ((word_Shr.f bt397.1 bt397.2 a0).bind fun bt399 => (some (bt399.1, bt399.2)))
set_option maxHeartbeats 8000000 in
set_option maxRecDepth 100000 in
theorem prefix_one.calls (a0 : Int) (r1 : Int) (r2 : Int) (w : World) (h : prefix_one.f a0 = some (r1, r2)) :
  Calls Tryd.prog 66 #[.int .i64 a0] w fun e w' => e = .returned (.agg #[.int .u64 r1, .int .u64 r2]) ∧ Below w.heap.size w w' := by
 have hu24 := Tryd.underlying24
 have HB := Aside0.mk (Below.refl w.heap.size w)
 have H : ((word_Mask.f 1).bind fun bt397 => ((word_Shr.f bt397.1 bt397.2 a0).bind fun bt399 => (some (bt399.1, bt399.2)))) = some (r1, r2) := h
 clear h
 replace H := Option.bind_eq_some_iff.mp H
 obtain ⟨⟨t397, t398⟩, A20, H⟩ := H
 replace H : ((word_Shr.f t397 t398 a0).bind fun bt399 => (some (bt399.1, bt399.2))) = some (r1, r2) := H
 have A2 := Aside0.mk A20
 clear A20
 replace H := Option.bind_eq_some_iff.mp H
 obtain ⟨⟨t399, t400⟩, A30, H⟩ := H
 replace H : (some (t399, t400)) = some (r1, r2) := H
 have A3 := Aside0.mk A30
 clear A30
 simp only [Option.some.injEq, Prod.mk.injEq] at H
 obtain ⟨rfl, rfl⟩ := H
 go_enter Tryd.func66, Tryd.ntmps66
 go_wp2_with (first | ((with_reducible refine gate_dst (N := 2) rfl ?_); refine box_event ?hg (N := 2) ?hd (cs := #[.int .u64 0, .int .u64 0]) (t := 24) ?hr ?_; (case hd => rfl); (case hg => rfl); (case hr => first | (go_simp; done) | (go_simp; rfl)); intro gb396 hg w4 hbox hb; have n0_ := Aside0.mk (below_step xB hb); have n1_ := Aside0.mk (hbox); have n2_ := xS w hg; have n3_ := xS w hg; clear HB; have HB := n0_; have BK396 := n1_; have GW396 := n2_; have GE396 := n3_; clear n0_ n1_ n2_ n3_; clear hb hbox hg) | ((with_reducible refine gate_callee (f := 54) rfl ?_); refine goesL_ (some 3) rfl rfl Tryd.func54 (by kernel_rfl) rfl #[.int .i64 1] rfl xM ?_; (with_reducible refine (word_Mask.calls 1 t397 t398 _ A2.out).mono ?_); rintro e w5 ⟨rfl, hb⟩; refine ⟨_, rfl, ?_⟩; have n0_ := xP BK396.out hb; have n1_ := Aside0.mk (below_step xG hb); clear BK396; clear HB; have BK396 := n0_; have HB := n1_; clear n0_ n1_; (try clear hb); (try clear hb2); (try clear hk); (try clear hi)) | ((with_reducible refine gate_callee (f := 81) rfl ?_); refine goesL_ (some 5) rfl rfl Tryd.func81 (by kernel_rfl) rfl #[.agg #[.int .u64 t397, .int .u64 t398], .int .i64 a0] rfl xM ?_; (with_reducible refine (word_Shr.calls t397 t398 a0 t399 t400 _ A3.out).mono ?_); rintro e w6 ⟨rfl, hb⟩; refine ⟨_, rfl, ?_⟩; have n0_ := xP BK396.out hb; have n1_ := Aside0.mk (below_step xG hb); clear BK396; clear HB; have BK396 := n0_; have HB := n1_; clear n0_ n1_; (try clear hb); (try clear hb2); (try clear hk); (try clear hi); have hcz7_0 : w6.cell? ⟨gb396, 0, none⟩ = some (.int .u64 0) := (blk_cell BK396.out 0).trans rfl; have hcz7_1 : w6.cell? ⟨gb396, 1, none⟩ = some (.int .u64 0) := (blk_cell BK396.out 1).trans rfl; have hfz7_0 := blk_frozen BK396.out 0; have hfz7_1 := blk_frozen BK396.out 1))
 refine bodyPost_ret (results_cell_row rfl _ _ gb396 24 #[.int .u64 t399, .int .u64 t400] (0, 0) _ rfl (by (with_reducible repeat (first | refine blk_drewN ?_ _ | refine blk_drew ?_ | refine blk_alloc ?_ _)); refine blk_put (cs := #[.int .u64 t399, .int .u64 0]) ?_ 1 _ rfl; (with_reducible repeat (first | refine blk_drewN ?_ _ | refine blk_drew ?_ | refine blk_alloc ?_ _)); refine blk_put (cs := #[.int .u64 0, .int .u64 0]) ?_ 0 _ rfl; (with_reducible repeat (first | refine blk_drewN ?_ _ | refine blk_drew ?_ | refine blk_alloc ?_ _)); exact BK396.out) Tryd.underlying24 rfl (by kernel_rfl)) rfl ?_
 exact ⟨xE, xG⟩
def prefix_Kids.f (a0 : Int) (a1_0 : Int) (a1_1 : Int) (a1_2 : Int) : Option (Int × Int × Int × Int × Int × Int × Bool) := if a1_2 ≥ a0 then (some (0, 0, 0, 0, 0, 0, false)) else ((prefix_one.f a1_2).bind fun bt405 => ((word_Or.f a1_0 a1_1 bt405.1 bt405.2).bind fun bt407 => (some (a1_0, a1_1, wrap64 (a1_2 + 1), bt407.1, bt407.2, wrap64 (a1_2 + 1), true))))
def prefix_Kids.T4 : Bool × List (List Nat × List Nat) := (true, [([], []), ([0], [0]), ([], []), ([2], [2]), ([3], [3]), ([1, 4, 4], [1, 4]), ([], []), ([6], [6]), ([7], [7]), ([5, 8], [5, 8]), ([], []), ([10, 9, 5, 0, 1, 2, 3, 4, 5, 6, 7, 8, 9, 10], [9, 10])])
def prefix_Kids.B4 : List Nat := [0, 1, 0, 4, 12, 31, 0, 64, 192, 511, 0, 2047]
theorem prefix_Kids.tab4 : rtab .any (opsOf Tryd.f29 4) = prefix_Kids.T4 := by kernel_rfl
theorem prefix_Kids.bits4 : waitsOk prefix_Kids.T4.2 prefix_Kids.B4 = true := by kernel_rfl
set_option maxHeartbeats 8000000 in
set_option maxRecDepth 100000 in
theorem prefix_Kids.calls (a0 : Int) (a1_0 : Int) (a1_1 : Int) (a1_2 : Int) (r1 : Int) (r2 : Int) (r3 : Int) (r4 : Int) (r5 : Int) (r6 : Int) (r7 : Bool) (w : World) (h : prefix_Kids.f a0 a1_0 a1_1 a1_2 = some (r1, r2, r3, r4, r5, r6, r7)) :
  Calls Tryd.prog 29 #[.int .i64 a0, .agg #[.int .u64 a1_0, .int .u64 a1_1, .int .i64 a1_2]] w fun e w' => e = .returned (.tuple #[.agg #[.int .u64 r1, .int .u64 r2, .int .i64 r3], .agg #[.int .u64 r4, .int .u64 r5, .int .i64 r6], .bool r7]) ∧ Below w.heap.size w w' := by
 have hu28 := Tryd.underlying28
 have hu24 := Tryd.underlying24
 have HB := Aside0.mk (Below.refl w.heap.size w)
 have H : (if a1_2 ≥ a0 then (some (0, 0, 0, 0, 0, 0, false)) else ((prefix_one.f a1_2).bind fun bt405 => ((word_Or.f a1_0 a1_1 bt405.1 bt405.2).bind fun bt407 => (some (a1_0, a1_1, wrap64 (a1_2 + 1), bt407.1, bt407.2, wrap64 (a1_2 + 1), true))))) = some (r1, r2, r3, r4, r5, r6, r7) := h
 clear h
 by_cases c3 : a1_2 ≥ a0
 ·rw [if_pos c3] at H
  have c3b0 : decide (a0 ≤ a1_2) = true := decide_eq_true c3
  clear c3
  simp only [Option.some.injEq, Prod.mk.injEq] at H
  obtain ⟨rfl, rfl, rfl, rfl, rfl, rfl, rfl⟩ := H
  go_enter Tryd.func29, Tryd.ntmps29
  go_wp2_with (first | ((with_reducible refine gate_dst (N := 3) rfl ?_); refine box_event ?hg (N := 3) ?hd (cs := #[.int .u64 a1_0, .int .u64 a1_1, .int .i64 a1_2]) (t := 28) ?hr ?_; (case hd => rfl); (case hg => rfl); (case hr => first | (go_simp; done) | (go_simp; rfl)); intro gb401 hg w4 hbox hb; have n0_ := Aside0.mk (below_step xB hb); have n1_ := Aside0.mk (hbox); have n2_ := xS w hg; have n3_ := xS w hg; clear HB; have HB := n0_; have BK401 := n1_; have GW401 := n2_; have GE401 := n3_; clear n0_ n1_ n2_ n3_; clear hb hbox hg) | ((with_reducible refine gate_dst (N := 4) rfl ?_); refine box_event ?hg (N := 4) ?hd (cs := #[.int .u64 0, .int .u64 0, .int .i64 0]) (t := 28) ?hr ?_; (case hd => rfl); (case hg => rfl); (case hr => first | (go_simp; done) | (go_simp; rfl)); intro gb402 hg w5 hbox hb; have n0_ := xP BK401.out hb; have n1_ := Aside0.mk (below_step xG hb); have n2_ := Aside0.mk (hbox); have n3_ := xT w hg; have n4_ := xT w hg; have n5_ := Aside0.mk ((xNl BK401.out hg : gb401 ≠ gb402)); have n6_ := Aside0.mk ((xNr BK401.out hg : gb402 ≠ gb401)); clear BK401; clear HB; have BK401 := n0_; have HB := n1_; have BK402 := n2_; have GW402 := n3_; have GE402 := n4_; have NB401_402 := n5_; have NB402_401 := n6_; clear n0_ n1_ n2_ n3_ n4_ n5_ n6_; clear hb hbox hg) | ((with_reducible refine gate_dst (N := 5) rfl ?_); refine box_event ?hg (N := 5) ?hd (cs := #[.int .u64 0, .int .u64 0, .int .i64 0]) (t := 28) ?hr ?_; (case hd => rfl); (case hg => rfl); (case hr => first | (go_simp; done) | (go_simp; rfl)); intro gb403 hg w6 hbox hb; have n0_ := xP BK401.out hb; have n1_ := xP BK402.out hb; have n2_ := Aside0.mk (below_step xG hb); have n3_ := Aside0.mk (hbox); have n4_ := xT w hg; have n5_ := xT w hg; have n6_ := Aside0.mk ((xNl BK401.out hg : gb401 ≠ gb403)); have n7_ := Aside0.mk ((xNr BK401.out hg : gb403 ≠ gb401)); have n8_ := Aside0.mk ((xNl BK402.out hg : gb402 ≠ gb403)); have n9_ := Aside0.mk ((xNr BK402.out hg : gb403 ≠ gb402)); clear BK401; clear BK402; clear HB; have BK401 := n0_; have BK402 := n1_; have HB := n2_; have BK403 := n3_; have GW403 := n4_; have GE403 := n5_; have NB401_403 := n6_; have NB403_401 := n7_; have NB402_403 := n8_; have NB403_402 := n9_; clear n0_ n1_ n2_ n3_ n4_ n5_ n6_ n7_ n8_ n9_; clear hb hbox hg; have hnb7 := NB401_402.out; have hnc7 := NB402_401.out; have hnb8 := NB401_403.out; have hnc8 := NB403_401.out; have hcz9_0 : w6.cell? ⟨gb401, 0, none⟩ = some (.int .u64 a1_0) := (blk_cell BK401.out 0).trans rfl; have hcz9_1 : w6.cell? ⟨gb401, 1, none⟩ = some (.int .u64 a1_1) := (blk_cell BK401.out 1).trans rfl; have hcz9_2 : w6.cell? ⟨gb401, 2, none⟩ = some (.int .i64 a1_2) := (blk_cell BK401.out 2).trans rfl; have hfz9_0 := blk_frozen BK401.out 0; have hfz9_1 := blk_frozen BK401.out 1; have hfz9_2 := blk_frozen BK401.out 2; have hnb10 := NB402_403.out; have hnc10 := NB403_402.out; have hcz11_0 : w6.cell? ⟨gb402, 0, none⟩ = some (.int .u64 0) := (blk_cell BK402.out 0).trans rfl; have hcz11_1 : w6.cell? ⟨gb402, 1, none⟩ = some (.int .u64 0) := (blk_cell BK402.out 1).trans rfl; have hcz11_2 : w6.cell? ⟨gb402, 2, none⟩ = some (.int .i64 0) := (blk_cell BK402.out 2).trans rfl; have hfz11_0 := blk_frozen BK402.out 0; have hfz11_1 := blk_frozen BK402.out 1; have hfz11_2 := blk_frozen BK402.out 2; have hcz12_0 : w6.cell? ⟨gb403, 0, none⟩ = some (.int .u64 0) := (blk_cell BK403.out 0).trans rfl; have hcz12_1 : w6.cell? ⟨gb403, 1, none⟩ = some (.int .u64 0) := (blk_cell BK403.out 1).trans rfl; have hcz12_2 : w6.cell? ⟨gb403, 2, none⟩ = some (.int .i64 0) := (blk_cell BK403.out 2).trans rfl; have hfz12_0 := blk_frozen BK403.out 0; have hfz12_1 := blk_frozen BK403.out 1; have hfz12_2 := blk_frozen BK403.out 2))
  refine bodyPost_ret (results_list (rs := [.cell 4 28, .cell 5 28, .tmp 6]) rfl (by simp) (.cell gb402 28 #[.int .u64 0, .int .u64 0, .int .i64 0] (0, 0) _ rfl (by (with_reducible repeat (first | refine blk_drewN ?_ _ | refine blk_drew ?_ | refine blk_alloc ?_ _)); refine blk_far ?_ NB402_403.out _; (with_reducible repeat (first | refine blk_drewN ?_ _ | refine blk_drew ?_ | refine blk_alloc ?_ _)); refine blk_far ?_ NB402_403.out _; (with_reducible repeat (first | refine blk_drewN ?_ _ | refine blk_drew ?_ | refine blk_alloc ?_ _)); refine blk_far ?_ NB402_403.out _; (with_reducible repeat (first | refine blk_drewN ?_ _ | refine blk_drew ?_ | refine blk_alloc ?_ _)); refine blk_put (cs := #[.int .u64 0, .int .u64 0, .int .i64 0]) ?_ 2 _ rfl; (with_reducible repeat (first | refine blk_drewN ?_ _ | refine blk_drew ?_ | refine blk_alloc ?_ _)); refine blk_put (cs := #[.int .u64 0, .int .u64 0, .int .i64 0]) ?_ 1 _ rfl; (with_reducible repeat (first | refine blk_drewN ?_ _ | refine blk_drew ?_ | refine blk_alloc ?_ _)); refine blk_put (cs := #[.int .u64 0, .int .u64 0, .int .i64 0]) ?_ 0 _ rfl; (with_reducible repeat (first | refine blk_drewN ?_ _ | refine blk_drew ?_ | refine blk_alloc ?_ _)); exact BK402.out) Tryd.underlying28 rfl (by kernel_rfl) (.cell gb403 28 #[.int .u64 0, .int .u64 0, .int .i64 0] (0, 0) _ rfl (by (with_reducible repeat (first | refine blk_drewN ?_ _ | refine blk_drew ?_ | refine blk_alloc ?_ _)); refine blk_put (cs := #[.int .u64 0, .int .u64 0, .int .i64 0]) ?_ 2 _ rfl; (with_reducible repeat (first | refine blk_drewN ?_ _ | refine blk_drew ?_ | refine blk_alloc ?_ _)); refine blk_put (cs := #[.int .u64 0, .int .u64 0, .int .i64 0]) ?_ 1 _ rfl; (with_reducible repeat (first | refine blk_drewN ?_ _ | refine blk_drew ?_ | refine blk_alloc ?_ _)); refine blk_put (cs := #[.int .u64 0, .int .u64 0, .int .i64 0]) ?_ 0 _ rfl; (with_reducible repeat (first | refine blk_drewN ?_ _ | refine blk_drew ?_ | refine blk_alloc ?_ _)); refine blk_far ?_ NB403_402.out _; (with_reducible repeat (first | refine blk_drewN ?_ _ | refine blk_drew ?_ | refine blk_alloc ?_ _)); refine blk_far ?_ NB403_402.out _; (with_reducible repeat (first | refine blk_drewN ?_ _ | refine blk_drew ?_ | refine blk_alloc ?_ _)); refine blk_far ?_ NB403_402.out _; (with_reducible repeat (first | refine blk_drewN ?_ _ | refine blk_drew ?_ | refine blk_alloc ?_ _)); exact BK403.out) Tryd.underlying28 rfl (by kernel_rfl) (.tmp .nil)))) rfl ?_
  exact ⟨xE, xG⟩
 ·rw [if_neg c3] at H
  have c3b0 : decide (a0 ≤ a1_2) = false := decide_eq_false c3
  clear c3
  replace H := Option.bind_eq_some_iff.mp H
  obtain ⟨⟨t405, t406⟩, A130, H⟩ := H
  replace H : ((word_Or.f a1_0 a1_1 t405 t406).bind fun bt407 => (some (a1_0, a1_1, wrap64 (a1_2 + 1), bt407.1, bt407.2, wrap64 (a1_2 + 1), true))) = some (r1, r2, r3, r4, r5, r6, r7) := H
  have A13 := Aside0.mk A130
  clear A130
  replace H := Option.bind_eq_some_iff.mp H
  obtain ⟨⟨t407, t408⟩, A140, H⟩ := H
  replace H : (some (a1_0, a1_1, wrap64 (a1_2 + 1), t407, t408, wrap64 (a1_2 + 1), true)) = some (r1, r2, r3, r4, r5, r6, r7) := H
  have A14 := Aside0.mk A140
  clear A140
  simp only [Option.some.injEq, Prod.mk.injEq] at H
  obtain ⟨rfl, rfl, rfl, rfl, rfl, rfl, rfl⟩ := H
  go_enter Tryd.func29, Tryd.ntmps29
  try go_wp2_with (first | ((with_reducible refine gate_dst (N := 3) rfl ?_); refine box_event ?hg (N := 3) ?hd (cs := #[.int .u64 a1_0, .int .u64 a1_1, .int .i64 a1_2]) (t := 28) ?hr ?_; (case hd => rfl); (case hg => rfl); (case hr => first | (go_simp; done) | (go_simp; rfl)); intro gb401 hg w15 hbox hb; have n0_ := Aside0.mk (below_step xB hb); have n1_ := Aside0.mk (hbox); have n2_ := xS w hg; have n3_ := xS w hg; clear HB; have HB := n0_; have BK401 := n1_; have GW401 := n2_; have GE401 := n3_; clear n0_ n1_ n2_ n3_; clear hb hbox hg) | ((with_reducible refine gate_dst (N := 4) rfl ?_); refine box_event ?hg (N := 4) ?hd (cs := #[.int .u64 0, .int .u64 0, .int .i64 0]) (t := 28) ?hr ?_; (case hd => rfl); (case hg => rfl); (case hr => first | (go_simp; done) | (go_simp; rfl)); intro gb402 hg w16 hbox hb; have n0_ := xP BK401.out hb; have n1_ := Aside0.mk (below_step xG hb); have n2_ := Aside0.mk (hbox); have n3_ := xT w hg; have n4_ := xT w hg; have n5_ := Aside0.mk ((xNl BK401.out hg : gb401 ≠ gb402)); have n6_ := Aside0.mk ((xNr BK401.out hg : gb402 ≠ gb401)); clear BK401; clear HB; have BK401 := n0_; have HB := n1_; have BK402 := n2_; have GW402 := n3_; have GE402 := n4_; have NB401_402 := n5_; have NB402_401 := n6_; clear n0_ n1_ n2_ n3_ n4_ n5_ n6_; clear hb hbox hg) | ((with_reducible refine gate_dst (N := 5) rfl ?_); refine box_event ?hg (N := 5) ?hd (cs := #[.int .u64 0, .int .u64 0, .int .i64 0]) (t := 28) ?hr ?_; (case hd => rfl); (case hg => rfl); (case hr => first | (go_simp; done) | (go_simp; rfl)); intro gb403 hg w17 hbox hb; have n0_ := xP BK401.out hb; have n1_ := xP BK402.out hb; have n2_ := Aside0.mk (below_step xG hb); have n3_ := Aside0.mk (hbox); have n4_ := xT w hg; have n5_ := xT w hg; have n6_ := Aside0.mk ((xNl BK401.out hg : gb401 ≠ gb403)); have n7_ := Aside0.mk ((xNr BK401.out hg : gb403 ≠ gb401)); have n8_ := Aside0.mk ((xNl BK402.out hg : gb402 ≠ gb403)); have n9_ := Aside0.mk ((xNr BK402.out hg : gb403 ≠ gb402)); clear BK401; clear BK402; clear HB; have BK401 := n0_; have BK402 := n1_; have HB := n2_; have BK403 := n3_; have GW403 := n4_; have GE403 := n5_; have NB401_403 := n6_; have NB403_401 := n7_; have NB402_403 := n8_; have NB403_402 := n9_; clear n0_ n1_ n2_ n3_ n4_ n5_ n6_ n7_ n8_ n9_; clear hb hbox hg; have hnb18 := NB401_402.out; have hnc18 := NB402_401.out; have hnb19 := NB401_403.out; have hnc19 := NB403_401.out; have hcz20_0 : w17.cell? ⟨gb401, 0, none⟩ = some (.int .u64 a1_0) := (blk_cell BK401.out 0).trans rfl; have hcz20_1 : w17.cell? ⟨gb401, 1, none⟩ = some (.int .u64 a1_1) := (blk_cell BK401.out 1).trans rfl; have hcz20_2 : w17.cell? ⟨gb401, 2, none⟩ = some (.int .i64 a1_2) := (blk_cell BK401.out 2).trans rfl; have hfz20_0 := blk_frozen BK401.out 0; have hfz20_1 := blk_frozen BK401.out 1; have hfz20_2 := blk_frozen BK401.out 2) | ((with_reducible refine gate_dst (N := 7) rfl ?_); refine box_event ?hg (N := 7) ?hd (cs := #[.int .u64 0, .int .u64 0, .int .i64 0]) (t := 28) ?hr ?_; (case hd => rfl); (case hg => rfl); (case hr => first | (go_simp; done) | (go_simp; rfl)); intro gb404 hg w21 hbox hb; have n0_ := xP BK401.out hb; have n1_ := xP BK402.out hb; have n2_ := xP BK403.out hb; have n3_ := Aside0.mk (below_step xG hb); have n4_ := Aside0.mk (hbox); have n5_ := xT w hg; have n6_ := xT w hg; have n7_ := Aside0.mk ((xNl BK401.out hg : gb401 ≠ gb404)); have n8_ := Aside0.mk ((xNr BK401.out hg : gb404 ≠ gb401)); have n9_ := Aside0.mk ((xNl BK402.out hg : gb402 ≠ gb404)); have n10_ := Aside0.mk ((xNr BK402.out hg : gb404 ≠ gb402)); have n11_ := Aside0.mk ((xNl BK403.out hg : gb403 ≠ gb404)); have n12_ := Aside0.mk ((xNr BK403.out hg : gb404 ≠ gb403)); clear BK401; clear BK402; clear BK403; clear HB; have BK401 := n0_; have BK402 := n1_; have BK403 := n2_; have HB := n3_; have BK404 := n4_; have GW404 := n5_; have GE404 := n6_; have NB401_404 := n7_; have NB404_401 := n8_; have NB402_404 := n9_; have NB404_402 := n10_; have NB403_404 := n11_; have NB404_403 := n12_; clear n0_ n1_ n2_ n3_ n4_ n5_ n6_ n7_ n8_ n9_ n10_ n11_ n12_; clear hb hbox hg; have hnb22 := NB404_401.out; have hnc22 := NB401_404.out; have hnb23 := NB404_402.out; have hnc23 := NB402_404.out; have hnb24 := NB404_403.out; have hnc24 := NB403_404.out; have hcz25_0 : w21.cell? ⟨gb404, 0, none⟩ = some (.int .u64 0) := (blk_cell BK404.out 0).trans rfl; have hcz25_1 : w21.cell? ⟨gb404, 1, none⟩ = some (.int .u64 0) := (blk_cell BK404.out 1).trans rfl; have hcz25_2 : w21.cell? ⟨gb404, 2, none⟩ = some (.int .i64 0) := (blk_cell BK404.out 2).trans rfl; have hfz25_0 := blk_frozen BK404.out 0; have hfz25_1 := blk_frozen BK404.out 1; have hfz25_2 := blk_frozen BK404.out 2))
  have n0_ : Aside0 ((((w21.setCell ⟨gb404, 0, none⟩ (.int .u64 a1_0)).setCell ⟨gb404, 1, none⟩ (.int .u64 a1_1)).setCell ⟨gb404, 2, none⟩ (.int .i64 (wrap64 (a1_2 + 1)))).heap[gb401]? = some (.cells #[.int .u64 a1_0, .int .u64 a1_1, .int .i64 a1_2] 28 (0, 0))) := ⟨by (with_reducible repeat (first | refine blk_drewN ?_ _ | refine blk_drew ?_ | refine blk_alloc ?_ _)); refine blk_far ?_ NB401_404.out _; (with_reducible repeat (first | refine blk_drewN ?_ _ | refine blk_drew ?_ | refine blk_alloc ?_ _)); refine blk_far ?_ NB401_404.out _; (with_reducible repeat (first | refine blk_drewN ?_ _ | refine blk_drew ?_ | refine blk_alloc ?_ _)); refine blk_far ?_ NB401_404.out _; (with_reducible repeat (first | refine blk_drewN ?_ _ | refine blk_drew ?_ | refine blk_alloc ?_ _)); exact BK401.out⟩
  have n1_ : Aside0 ((((w21.setCell ⟨gb404, 0, none⟩ (.int .u64 a1_0)).setCell ⟨gb404, 1, none⟩ (.int .u64 a1_1)).setCell ⟨gb404, 2, none⟩ (.int .i64 (wrap64 (a1_2 + 1)))).heap[gb402]? = some (.cells #[.int .u64 0, .int .u64 0, .int .i64 0] 28 (0, 0))) := ⟨by (with_reducible repeat (first | refine blk_drewN ?_ _ | refine blk_drew ?_ | refine blk_alloc ?_ _)); refine blk_far ?_ NB402_404.out _; (with_reducible repeat (first | refine blk_drewN ?_ _ | refine blk_drew ?_ | refine blk_alloc ?_ _)); refine blk_far ?_ NB402_404.out _; (with_reducible repeat (first | refine blk_drewN ?_ _ | refine blk_drew ?_ | refine blk_alloc ?_ _)); refine blk_far ?_ NB402_404.out _; (with_reducible repeat (first | refine blk_drewN ?_ _ | refine blk_drew ?_ | refine blk_alloc ?_ _)); exact BK402.out⟩
  have n2_ : Aside0 ((((w21.setCell ⟨gb404, 0, none⟩ (.int .u64 a1_0)).setCell ⟨gb404, 1, none⟩ (.int .u64 a1_1)).setCell ⟨gb404, 2, none⟩ (.int .i64 (wrap64 (a1_2 + 1)))).heap[gb403]? = some (.cells #[.int .u64 0, .int .u64 0, .int .i64 0] 28 (0, 0))) := ⟨by (with_reducible repeat (first | refine blk_drewN ?_ _ | refine blk_drew ?_ | refine blk_alloc ?_ _)); refine blk_far ?_ NB403_404.out _; (with_reducible repeat (first | refine blk_drewN ?_ _ | refine blk_drew ?_ | refine blk_alloc ?_ _)); refine blk_far ?_ NB403_404.out _; (with_reducible repeat (first | refine blk_drewN ?_ _ | refine blk_drew ?_ | refine blk_alloc ?_ _)); refine blk_far ?_ NB403_404.out _; (with_reducible repeat (first | refine blk_drewN ?_ _ | refine blk_drew ?_ | refine blk_alloc ?_ _)); exact BK403.out⟩
  have n3_ : Aside0 ((((w21.setCell ⟨gb404, 0, none⟩ (.int .u64 a1_0)).setCell ⟨gb404, 1, none⟩ (.int .u64 a1_1)).setCell ⟨gb404, 2, none⟩ (.int .i64 (wrap64 (a1_2 + 1)))).heap[gb404]? = some (.cells #[.int .u64 a1_0, .int .u64 a1_1, .int .i64 (wrap64 (a1_2 + 1))] 28 (0, 0))) := ⟨by (with_reducible repeat (first | refine blk_drewN ?_ _ | refine blk_drew ?_ | refine blk_alloc ?_ _)); refine blk_put (cs := #[.int .u64 a1_0, .int .u64 a1_1, .int .i64 0]) ?_ 2 _ rfl; (with_reducible repeat (first | refine blk_drewN ?_ _ | refine blk_drew ?_ | refine blk_alloc ?_ _)); refine blk_put (cs := #[.int .u64 a1_0, .int .u64 0, .int .i64 0]) ?_ 1 _ rfl; (with_reducible repeat (first | refine blk_drewN ?_ _ | refine blk_drew ?_ | refine blk_alloc ?_ _)); refine blk_put (cs := #[.int .u64 0, .int .u64 0, .int .i64 0]) ?_ 0 _ rfl; (with_reducible repeat (first | refine blk_drewN ?_ _ | refine blk_drew ?_ | refine blk_alloc ?_ _)); exact BK404.out⟩
  have n4_ : Aside0 (Below w.heap.size w (((w21.setCell ⟨gb404, 0, none⟩ (.int .u64 a1_0)).setCell ⟨gb404, 1, none⟩ (.int .u64 a1_1)).setCell ⟨gb404, 2, none⟩ (.int .i64 (wrap64 (a1_2 + 1))))) := ⟨xG⟩
  (try clear BK401)
  (try clear BK402)
  (try clear BK403)
  (try clear BK404)
  (try clear HB)
  generalize (((w21.setCell ⟨gb404, 0, none⟩ (.int .u64 a1_0)).setCell ⟨gb404, 1, none⟩ (.int .u64 a1_1)).setCell ⟨gb404, 2, none⟩ (.int .i64 (wrap64 (a1_2 + 1)))) = w26 at n0_ n1_ n2_ n3_ n4_ ⊢
  have BK401 := n0_
  have BK402 := n1_
  have BK403 := n2_
  have BK404 := n3_
  have HB := n4_
  clear n0_ n1_ n2_ n3_ n4_
  have n0_ := Aside0.mk (blk_drew BK401.out)
  have n1_ := Aside0.mk (blk_drew BK402.out)
  have n2_ := Aside0.mk (blk_drew BK403.out)
  have n3_ := Aside0.mk (blk_drew BK404.out)
  have n4_ := Aside0.mk (below_drew1 HB.out)
  clear BK401
  clear BK402
  clear BK403
  clear BK404
  clear HB
  have BK401 := n0_
  have BK402 := n1_
  have BK403 := n2_
  have BK404 := n3_
  have HB := n4_
  clear n0_ n1_ n2_ n3_ n4_
  refine start_ (n := 12) (S := fun w' => w'.cell? ⟨gb401, 0, none⟩ = some (.int .u64 a1_0) ∧ w'.cell? ⟨gb401, 1, none⟩ = some (.int .u64 a1_1) ∧ w'.cell? ⟨gb401, 2, none⟩ = some (.int .i64 a1_2)) (ds := []) #[false, false, false, false, false, false, false, false, false, false, false, false] (by kernel_rfl) rfl rfl ⟨(blk_cell BK401.out 0).trans rfl, (blk_cell BK401.out 1).trans rfl, (blk_cell BK401.out 2).trans rfl⟩ (fun hHeld => ?_); refine with_tabW prefix_Kids.tab4 prefix_Kids.bits4 (fun HT_ HW_ => ?_)
  generalize w26.drew = w27 at BK401 BK402 BK403 BK404 HB hHeld ⊢
  refine pure_ (i := 0) (N := some 21) (v := ?_) (a' := ?_) #[true, false, false, false, false, false, false, false, false, false, false, false] rfl rfl (any_of HT_.out (by kernel_rfl)) (fun _ _ _ h => h) (Or.inl ⟨by rfl, ?_⟩) ?_ ?_
  rotate_left
  ·intro w'
   go_simp
   with_reducible rfl
  rotate_left
  ·simp only [Act.put, List.setIfInBounds_toArray, List.set_cons_zero, List.set_cons_succ, i64_w, i32_w]
   rfl
  refine pure_ (i := 2) (N := some 23) (v := ?_) (a' := ?_) #[true, false, true, false, false, false, false, false, false, false, false, false] rfl rfl (any_of HT_.out (by kernel_rfl)) (fun _ _ _ h => h) (Or.inl ⟨by rfl, ?_⟩) ?_ ?_
  rotate_left
  ·intro w'
   go_simp
   with_reducible rfl
  rotate_left
  ·simp only [Act.put, List.setIfInBounds_toArray, List.set_cons_zero, List.set_cons_succ, i64_w, i32_w]
   rfl
  refine pure_ (i := 6) (N := some 27) (v := ?_) (a' := ?_) #[true, false, true, false, false, false, true, false, false, false, false, false] rfl rfl (any_of HT_.out (by kernel_rfl)) (fun _ _ _ h => h) (Or.inl ⟨by rfl, ?_⟩) ?_ ?_
  rotate_left
  ·intro w'
   go_simp
   with_reducible rfl
  rotate_left
  ·simp only [Act.put, List.setIfInBounds_toArray, List.set_cons_zero, List.set_cons_succ, i64_w, i32_w]
   rfl
  refine take_ (i := 1) (N := some 22) (v := ?_) (a' := ?_) #[true, true, true, false, false, false, true, false, false, false, false, false] rfl rfl (take_ofW HT_.out HW_.out (by kernel_rfl)) (fun _ _ _ h => h) (Or.inl ⟨by rfl, ?_⟩) hHeld ?_ ?_
  rotate_left
  ·rintro w' ⟨s0, s1, s2⟩
   go_simp
   with_reducible rfl
  rotate_left
  ·simp only [Act.put, List.setIfInBounds_toArray, List.set_cons_zero, List.set_cons_succ, i64_w, i32_w]
   rfl
  refine take_ (i := 3) (N := some 24) (v := ?_) (a' := ?_) #[true, true, true, true, false, false, true, false, false, false, false, false] rfl rfl (take_ofW HT_.out HW_.out (by kernel_rfl)) (fun _ _ _ h => h) (Or.inl ⟨by rfl, ?_⟩) hHeld ?_ ?_
  rotate_left
  ·rintro w' ⟨s0, s1, s2⟩
   go_simp
   with_reducible rfl
  rotate_left
  ·simp only [Act.put, List.setIfInBounds_toArray, List.set_cons_zero, List.set_cons_succ, i64_w, i32_w]
   rfl
  refine take_ (i := 7) (N := some 28) (v := ?_) (a' := ?_) #[true, true, true, true, false, false, true, true, false, false, false, false] rfl rfl (take_ofW HT_.out HW_.out (by kernel_rfl)) (fun _ _ _ h => h) (Or.inl ⟨by rfl, ?_⟩) hHeld ?_ ?_
  rotate_left
  ·rintro w' ⟨s0, s1, s2⟩
   go_simp
   with_reducible rfl
  rotate_left
  ·simp only [Act.put, List.setIfInBounds_toArray, List.set_cons_zero, List.set_cons_succ, i64_w, i32_w]
   rfl
  refine pure_ (i := 8) (N := some 29) (v := ?_) (a' := ?_) #[true, true, true, true, false, false, true, true, true, false, false, false] rfl rfl (any_of HT_.out (by kernel_rfl)) (fun _ _ _ h => h) (Or.inl ⟨by rfl, ?_⟩) ?_ ?_
  rotate_left
  ·intro w'
   go_simp
   with_reducible rfl
  rotate_left
  ·simp only [Act.put, List.setIfInBounds_toArray, List.set_cons_zero, List.set_cons_succ, i64_w, i32_w]
   rfl
  refine join_ (σ := Nat) 1 #[true, true, true, true, true, true, true, true, true, true, true, false] (fun s_ => [(25, .agg #[.int .u64 t405, .int .u64 t406]), (26, .agg #[.int .u64 t407, .int .u64 t408]), (8, .pointer (some ⟨s_, 0, none⟩)), (30, .agg #[.int .u64 t407, .int .u64 t408, .int .i64 (wrap64 (a1_2 + 1))])]) (fun s_ w' => (w'.cell? ⟨gb401, 0, none⟩ = some (.int .u64 a1_0) ∧ w'.cell? ⟨gb401, 1, none⟩ = some (.int .u64 a1_1) ∧ w'.cell? ⟨gb401, 2, none⟩ = some (.int .i64 a1_2)) ∧ (w'.heap[gb401]? = some (.cells #[.int .u64 a1_0, .int .u64 a1_1, .int .i64 a1_2] 28 (0, 0))) ∧ (w'.heap[gb402]? = some (.cells #[.int .u64 0, .int .u64 0, .int .i64 0] 28 (0, 0))) ∧ (w'.heap[gb403]? = some (.cells #[.int .u64 0, .int .u64 0, .int .i64 0] 28 (0, 0))) ∧ (w'.heap[gb404]? = some (.cells #[.int .u64 a1_0, .int .u64 a1_1, .int .i64 (wrap64 (a1_2 + 1))] 28 (0, 0))) ∧ (w'.heap[s_]? = some (.cells #[.int .u64 0, .int .u64 0, .int .i64 0] 28 (0, 0))) ∧ (w.heap.size ≤ s_) ∧ (w.heap.size ≤ s_) ∧ (gb401 ≠ s_) ∧ (s_ ≠ gb401) ∧ (gb402 ≠ s_) ∧ (s_ ≠ gb402) ∧ (gb403 ≠ s_) ∧ (s_ ≠ gb403) ∧ (gb404 ≠ s_) ∧ (s_ ≠ gb404) ∧ (Below w.heap.size w w')) ?_ ?_
  rotate_left
  ·intro hCont
   refine two_ (i := 4) (j := 10) (Ni := some 25) (Nj := some 8) #[true, true, true, true, true, false, true, true, true, false, false, false] #[true, true, true, true, false, false, true, true, true, false, true, false] rfl rfl rfl rfl (two_of HT_.out (by kernel_rfl)) (by decide) (by decide) (fun K hK => ?_) (fun K hK => ?_)
   ·skip
    refine goes_ Tryd.func66 (by kernel_rfl) rfl #[.int .i64 a1_2] (by rfl) rfl rfl xM ?_
    with_reducible refine (prefix_one.calls a1_2 t405 t406 _ A13.out).mono ?_
    rintro e w28 ⟨rfl, hb⟩
    refine ⟨_, rfl, ?_⟩
    have n0_ := xP BK401.out hb
    have n1_ := xP BK402.out hb
    have n2_ := xP BK403.out hb
    have n3_ := xP BK404.out hb
    have n4_ := Aside0.mk (below_step xG hb)
    clear BK401
    clear BK402
    clear BK403
    clear BK404
    clear HB
    have BK401 := n0_
    have BK402 := n1_
    have BK403 := n2_
    have BK404 := n3_
    have HB := n4_
    clear n0_ n1_ n2_ n3_ n4_
    (try clear hb)
    (try clear hb2)
    (try clear hk)
    (try clear hi)
    refine hK.out _ _ ⟨(blk_cell BK401.out 0).trans rfl, (blk_cell BK401.out 1).trans rfl, (blk_cell BK401.out 2).trans rfl⟩ (fun hHeld => ?_)
    clear hK K
    refine norm_ (a' := ?_) ?_ ?_
    rotate_left
    ·show Act.put _ (some 25) _ = _
     simp only [Act.put, List.setIfInBounds_toArray, List.set_cons_zero, List.set_cons_succ, i64_w, i32_w]
     rfl
    refine two_ (i := 5) (j := 10) (Ni := some 26) (Nj := some 8) #[true, true, true, true, true, true, true, true, true, false, false, false] #[true, true, true, true, true, false, true, true, true, false, true, false] rfl rfl rfl rfl (two_of HT_.out (by kernel_rfl)) (by decide) (by decide) (fun K hK => ?_) (fun K hK => ?_)
    ·skip
     refine goes_ Tryd.func52 (by kernel_rfl) rfl #[.agg #[.int .u64 a1_0, .int .u64 a1_1], .agg #[.int .u64 t405, .int .u64 t406]] (by rfl) rfl rfl xM ?_
     with_reducible refine (word_Or.calls a1_0 a1_1 t405 t406 t407 t408 _ A14.out).mono ?_
     rintro e w29 ⟨rfl, hb⟩
     refine ⟨_, rfl, ?_⟩
     have n0_ := xP BK401.out hb
     have n1_ := xP BK402.out hb
     have n2_ := xP BK403.out hb
     have n3_ := xP BK404.out hb
     have n4_ := Aside0.mk (below_step xG hb)
     clear BK401
     clear BK402
     clear BK403
     clear BK404
     clear HB
     have BK401 := n0_
     have BK402 := n1_
     have BK403 := n2_
     have BK404 := n3_
     have HB := n4_
     clear n0_ n1_ n2_ n3_ n4_
     (try clear hb)
     (try clear hb2)
     (try clear hk)
     (try clear hi)
     refine hK.out _ _ ⟨(blk_cell BK401.out 0).trans rfl, (blk_cell BK401.out 1).trans rfl, (blk_cell BK401.out 2).trans rfl⟩ (fun hHeld => ?_)
     clear hK K
     refine norm_ (a' := ?_) ?_ ?_
     rotate_left
     ·show Act.put _ (some 26) _ = _
      simp only [Act.put, List.setIfInBounds_toArray, List.set_cons_zero, List.set_cons_succ, i64_w, i32_w]
      rfl
     refine pure_ (i := 9) (N := some 30) (v := ?_) (a' := ?_) #[true, true, true, true, true, true, true, true, true, true, false, false] rfl rfl (any_of HT_.out (by kernel_rfl)) (fun _ _ _ h => h) (Or.inl ⟨by rfl, ?_⟩) ?_ ?_
     rotate_left
     ·intro w'
      go_simp
      with_reducible rfl
     rotate_left
     ·simp only [Act.put, List.setIfInBounds_toArray, List.set_cons_zero, List.set_cons_succ, i64_w, i32_w]
      rfl
     refine one_ (i := 10) (N := some 8) #[true, true, true, true, true, true, true, true, true, true, true, false] rfl rfl (one_of HT_.out (by kernel_rfl)) (by decide) (fun K hK => ?_)
     refine box_step ?hg (N := 8) ?hd (cs := #[.int .u64 0, .int .u64 0, .int .i64 0]) (t := 28) ?hr ?_; (case hd => rfl); (case hg => rfl); (case hr => first | (go_simp; done) | (go_simp; rfl))
     intro gb409 hg w30 hbox hb
     have n0_ := xP BK401.out hb
     have n1_ := xP BK402.out hb
     have n2_ := xP BK403.out hb
     have n3_ := xP BK404.out hb
     have n4_ := Aside0.mk (below_step xG hb)
     have n5_ := Aside0.mk (hbox)
     have n6_ := xT w hg
     have n7_ := xT w hg
     have n8_ := Aside0.mk ((xNl BK401.out hg : gb401 ≠ gb409))
     have n9_ := Aside0.mk ((xNr BK401.out hg : gb409 ≠ gb401))
     have n10_ := Aside0.mk ((xNl BK402.out hg : gb402 ≠ gb409))
     have n11_ := Aside0.mk ((xNr BK402.out hg : gb409 ≠ gb402))
     have n12_ := Aside0.mk ((xNl BK403.out hg : gb403 ≠ gb409))
     have n13_ := Aside0.mk ((xNr BK403.out hg : gb409 ≠ gb403))
     have n14_ := Aside0.mk ((xNl BK404.out hg : gb404 ≠ gb409))
     have n15_ := Aside0.mk ((xNr BK404.out hg : gb409 ≠ gb404))
     clear BK401
     clear BK402
     clear BK403
     clear BK404
     clear HB
     have BK401 := n0_
     have BK402 := n1_
     have BK403 := n2_
     have BK404 := n3_
     have HB := n4_
     have BK409 := n5_
     have GW409 := n6_
     have GE409 := n7_
     have NB401_409 := n8_
     have NB409_401 := n9_
     have NB402_409 := n10_
     have NB409_402 := n11_
     have NB403_409 := n12_
     have NB409_403 := n13_
     have NB404_409 := n14_
     have NB409_404 := n15_
     clear n0_ n1_ n2_ n3_ n4_ n5_ n6_ n7_ n8_ n9_ n10_ n11_ n12_ n13_ n14_ n15_
     clear hb hbox hg
     refine hK.out _ _ ⟨(blk_cell BK401.out 0).trans rfl, (blk_cell BK401.out 1).trans rfl, (blk_cell BK401.out 2).trans rfl⟩ (fun hHeld => ?_)
     clear hK K
     refine norm_ (a' := ?_) ?_ ?_
     rotate_left
     ·show Act.put _ (some 8) _ = _
      simp only [Act.put, List.setIfInBounds_toArray, List.set_cons_zero, List.set_cons_succ, i64_w, i32_w]
      rfl
     exact norm_ (by simp only [putAll, Act.put, List.setIfInBounds_toArray, List.set_cons_zero, List.set_cons_succ]) (hCont (gb409) _ ⟨hHeld, (xK BK401.out), (xK BK402.out), (xK BK403.out), (xK BK404.out), (xK BK409.out), GW409.out, GE409.out, NB401_409.out, NB409_401.out, NB402_409.out, NB409_402.out, NB403_409.out, NB409_403.out, NB404_409.out, NB409_404.out, xG⟩)
    ·skip
     refine box_step ?hg (N := 8) ?hd (cs := #[.int .u64 0, .int .u64 0, .int .i64 0]) (t := 28) ?hr ?_; (case hd => rfl); (case hg => rfl); (case hr => first | (go_simp; done) | (go_simp; rfl))
     intro gb409 hg w29 hbox hb
     have n0_ := xP BK401.out hb
     have n1_ := xP BK402.out hb
     have n2_ := xP BK403.out hb
     have n3_ := xP BK404.out hb
     have n4_ := Aside0.mk (below_step xG hb)
     have n5_ := Aside0.mk (hbox)
     have n6_ := xT w hg
     have n7_ := xT w hg
     have n8_ := Aside0.mk ((xNl BK401.out hg : gb401 ≠ gb409))
     have n9_ := Aside0.mk ((xNr BK401.out hg : gb409 ≠ gb401))
     have n10_ := Aside0.mk ((xNl BK402.out hg : gb402 ≠ gb409))
     have n11_ := Aside0.mk ((xNr BK402.out hg : gb409 ≠ gb402))
     have n12_ := Aside0.mk ((xNl BK403.out hg : gb403 ≠ gb409))
     have n13_ := Aside0.mk ((xNr BK403.out hg : gb409 ≠ gb403))
     have n14_ := Aside0.mk ((xNl BK404.out hg : gb404 ≠ gb409))
     have n15_ := Aside0.mk ((xNr BK404.out hg : gb409 ≠ gb404))
     clear BK401
     clear BK402
     clear BK403
     clear BK404
     clear HB
     have BK401 := n0_
     have BK402 := n1_
     have BK403 := n2_
     have BK404 := n3_
     have HB := n4_
     have BK409 := n5_
     have GW409 := n6_
     have GE409 := n7_
     have NB401_409 := n8_
     have NB409_401 := n9_
     have NB402_409 := n10_
     have NB409_402 := n11_
     have NB403_409 := n12_
     have NB409_403 := n13_
     have NB404_409 := n14_
     have NB409_404 := n15_
     clear n0_ n1_ n2_ n3_ n4_ n5_ n6_ n7_ n8_ n9_ n10_ n11_ n12_ n13_ n14_ n15_
     clear hb hbox hg
     refine hK.out _ _ ⟨(blk_cell BK401.out 0).trans rfl, (blk_cell BK401.out 1).trans rfl, (blk_cell BK401.out 2).trans rfl⟩ (fun hHeld => ?_)
     clear hK K
     refine norm_ (a' := ?_) ?_ ?_
     rotate_left
     ·show Act.put _ (some 8) _ = _
      simp only [Act.put, List.setIfInBounds_toArray, List.set_cons_zero, List.set_cons_succ, i64_w, i32_w]
      rfl
     refine one_ (i := 5) (N := some 26) #[true, true, true, true, true, true, true, true, true, false, true, false] rfl rfl (one_of HT_.out (by kernel_rfl)) (by decide) (fun K hK => ?_)
     refine goes_ Tryd.func52 (by kernel_rfl) rfl #[.agg #[.int .u64 a1_0, .int .u64 a1_1], .agg #[.int .u64 t405, .int .u64 t406]] (by rfl) rfl rfl xM ?_
     with_reducible refine (word_Or.calls a1_0 a1_1 t405 t406 t407 t408 _ A14.out).mono ?_
     rintro e w30 ⟨rfl, hb⟩
     refine ⟨_, rfl, ?_⟩
     have n0_ := xP BK401.out hb
     have n1_ := xP BK402.out hb
     have n2_ := xP BK403.out hb
     have n3_ := xP BK404.out hb
     have n4_ := xP BK409.out hb
     have n5_ := Aside0.mk (below_step xG hb)
     clear BK401
     clear BK402
     clear BK403
     clear BK404
     clear BK409
     clear HB
     have BK401 := n0_
     have BK402 := n1_
     have BK403 := n2_
     have BK404 := n3_
     have BK409 := n4_
     have HB := n5_
     clear n0_ n1_ n2_ n3_ n4_ n5_
     (try clear hb)
     (try clear hb2)
     (try clear hk)
     (try clear hi)
     refine hK.out _ _ ⟨(blk_cell BK401.out 0).trans rfl, (blk_cell BK401.out 1).trans rfl, (blk_cell BK401.out 2).trans rfl⟩ (fun hHeld => ?_)
     clear hK K
     refine norm_ (a' := ?_) ?_ ?_
     rotate_left
     ·show Act.put _ (some 26) _ = _
      simp only [Act.put, List.setIfInBounds_toArray, List.set_cons_zero, List.set_cons_succ, i64_w, i32_w]
      rfl
     refine pure_ (i := 9) (N := some 30) (v := ?_) (a' := ?_) #[true, true, true, true, true, true, true, true, true, true, true, false] rfl rfl (any_of HT_.out (by kernel_rfl)) (fun _ _ _ h => h) (Or.inl ⟨by rfl, ?_⟩) ?_ ?_
     rotate_left
     ·intro w'
      go_simp
      with_reducible rfl
     rotate_left
     ·simp only [Act.put, List.setIfInBounds_toArray, List.set_cons_zero, List.set_cons_succ, i64_w, i32_w]
      rfl
     exact norm_ (by simp only [putAll, Act.put, List.setIfInBounds_toArray, List.set_cons_zero, List.set_cons_succ]) (hCont (gb409) _ ⟨hHeld, (xK BK401.out), (xK BK402.out), (xK BK403.out), (xK BK404.out), (xK BK409.out), GW409.out, GE409.out, NB401_409.out, NB409_401.out, NB402_409.out, NB409_402.out, NB403_409.out, NB409_403.out, NB404_409.out, NB409_404.out, xG⟩)
   ·skip
    refine box_step ?hg (N := 8) ?hd (cs := #[.int .u64 0, .int .u64 0, .int .i64 0]) (t := 28) ?hr ?_; (case hd => rfl); (case hg => rfl); (case hr => first | (go_simp; done) | (go_simp; rfl))
    intro gb409 hg w28 hbox hb
    have n0_ := xP BK401.out hb
    have n1_ := xP BK402.out hb
    have n2_ := xP BK403.out hb
    have n3_ := xP BK404.out hb
    have n4_ := Aside0.mk (below_step xG hb)
    have n5_ := Aside0.mk (hbox)
    have n6_ := xT w hg
    have n7_ := xT w hg
    have n8_ := Aside0.mk ((xNl BK401.out hg : gb401 ≠ gb409))
    have n9_ := Aside0.mk ((xNr BK401.out hg : gb409 ≠ gb401))
    have n10_ := Aside0.mk ((xNl BK402.out hg : gb402 ≠ gb409))
    have n11_ := Aside0.mk ((xNr BK402.out hg : gb409 ≠ gb402))
    have n12_ := Aside0.mk ((xNl BK403.out hg : gb403 ≠ gb409))
    have n13_ := Aside0.mk ((xNr BK403.out hg : gb409 ≠ gb403))
    have n14_ := Aside0.mk ((xNl BK404.out hg : gb404 ≠ gb409))
    have n15_ := Aside0.mk ((xNr BK404.out hg : gb409 ≠ gb404))
    clear BK401
    clear BK402
    clear BK403
    clear BK404
    clear HB
    have BK401 := n0_
    have BK402 := n1_
    have BK403 := n2_
    have BK404 := n3_
    have HB := n4_
    have BK409 := n5_
    have GW409 := n6_
    have GE409 := n7_
    have NB401_409 := n8_
    have NB409_401 := n9_
    have NB402_409 := n10_
    have NB409_402 := n11_
    have NB403_409 := n12_
    have NB409_403 := n13_
    have NB404_409 := n14_
    have NB409_404 := n15_
    clear n0_ n1_ n2_ n3_ n4_ n5_ n6_ n7_ n8_ n9_ n10_ n11_ n12_ n13_ n14_ n15_
    clear hb hbox hg
    refine hK.out _ _ ⟨(blk_cell BK401.out 0).trans rfl, (blk_cell BK401.out 1).trans rfl, (blk_cell BK401.out 2).trans rfl⟩ (fun hHeld => ?_)
    clear hK K
    refine norm_ (a' := ?_) ?_ ?_
    rotate_left
    ·show Act.put _ (some 8) _ = _
     simp only [Act.put, List.setIfInBounds_toArray, List.set_cons_zero, List.set_cons_succ, i64_w, i32_w]
     rfl
    refine one_ (i := 4) (N := some 25) #[true, true, true, true, true, false, true, true, true, false, true, false] rfl rfl (one_of HT_.out (by kernel_rfl)) (by decide) (fun K hK => ?_)
    refine goes_ Tryd.func66 (by kernel_rfl) rfl #[.int .i64 a1_2] (by rfl) rfl rfl xM ?_
    with_reducible refine (prefix_one.calls a1_2 t405 t406 _ A13.out).mono ?_
    rintro e w29 ⟨rfl, hb⟩
    refine ⟨_, rfl, ?_⟩
    have n0_ := xP BK401.out hb
    have n1_ := xP BK402.out hb
    have n2_ := xP BK403.out hb
    have n3_ := xP BK404.out hb
    have n4_ := xP BK409.out hb
    have n5_ := Aside0.mk (below_step xG hb)
    clear BK401
    clear BK402
    clear BK403
    clear BK404
    clear BK409
    clear HB
    have BK401 := n0_
    have BK402 := n1_
    have BK403 := n2_
    have BK404 := n3_
    have BK409 := n4_
    have HB := n5_
    clear n0_ n1_ n2_ n3_ n4_ n5_
    (try clear hb)
    (try clear hb2)
    (try clear hk)
    (try clear hi)
    refine hK.out _ _ ⟨(blk_cell BK401.out 0).trans rfl, (blk_cell BK401.out 1).trans rfl, (blk_cell BK401.out 2).trans rfl⟩ (fun hHeld => ?_)
    clear hK K
    refine norm_ (a' := ?_) ?_ ?_
    rotate_left
    ·show Act.put _ (some 25) _ = _
     simp only [Act.put, List.setIfInBounds_toArray, List.set_cons_zero, List.set_cons_succ, i64_w, i32_w]
     rfl
    refine one_ (i := 5) (N := some 26) #[true, true, true, true, true, true, true, true, true, false, true, false] rfl rfl (one_of HT_.out (by kernel_rfl)) (by decide) (fun K hK => ?_)
    refine goes_ Tryd.func52 (by kernel_rfl) rfl #[.agg #[.int .u64 a1_0, .int .u64 a1_1], .agg #[.int .u64 t405, .int .u64 t406]] (by rfl) rfl rfl xM ?_
    with_reducible refine (word_Or.calls a1_0 a1_1 t405 t406 t407 t408 _ A14.out).mono ?_
    rintro e w30 ⟨rfl, hb⟩
    refine ⟨_, rfl, ?_⟩
    have n0_ := xP BK401.out hb
    have n1_ := xP BK402.out hb
    have n2_ := xP BK403.out hb
    have n3_ := xP BK404.out hb
    have n4_ := xP BK409.out hb
    have n5_ := Aside0.mk (below_step xG hb)
    clear BK401
    clear BK402
    clear BK403
    clear BK404
    clear BK409
    clear HB
    have BK401 := n0_
    have BK402 := n1_
    have BK403 := n2_
    have BK404 := n3_
    have BK409 := n4_
    have HB := n5_
    clear n0_ n1_ n2_ n3_ n4_ n5_
    (try clear hb)
    (try clear hb2)
    (try clear hk)
    (try clear hi)
    refine hK.out _ _ ⟨(blk_cell BK401.out 0).trans rfl, (blk_cell BK401.out 1).trans rfl, (blk_cell BK401.out 2).trans rfl⟩ (fun hHeld => ?_)
    clear hK K
    refine norm_ (a' := ?_) ?_ ?_
    rotate_left
    ·show Act.put _ (some 26) _ = _
     simp only [Act.put, List.setIfInBounds_toArray, List.set_cons_zero, List.set_cons_succ, i64_w, i32_w]
     rfl
    refine pure_ (i := 9) (N := some 30) (v := ?_) (a' := ?_) #[true, true, true, true, true, true, true, true, true, true, true, false] rfl rfl (any_of HT_.out (by kernel_rfl)) (fun _ _ _ h => h) (Or.inl ⟨by rfl, ?_⟩) ?_ ?_
    rotate_left
    ·intro w'
     go_simp
     with_reducible rfl
    rotate_left
    ·simp only [Act.put, List.setIfInBounds_toArray, List.set_cons_zero, List.set_cons_succ, i64_w, i32_w]
     rfl
    exact norm_ (by simp only [putAll, Act.put, List.setIfInBounds_toArray, List.set_cons_zero, List.set_cons_succ]) (hCont (gb409) _ ⟨hHeld, (xK BK401.out), (xK BK402.out), (xK BK403.out), (xK BK404.out), (xK BK409.out), GW409.out, GE409.out, NB401_409.out, NB409_401.out, NB402_409.out, NB409_402.out, NB403_409.out, NB409_403.out, NB404_409.out, NB409_404.out, xG⟩)
  rintro gb409 w31 ⟨hS_, h0_, h1_, h2_, h3_, h4_, h5_, h6_, h7_, h8_, h9_, h10_, h11_, h12_, h13_, h14_, h15_⟩
  have n0_ : Aside0 (w31.heap[gb401]? = some (.cells #[.int .u64 a1_0, .int .u64 a1_1, .int .i64 a1_2] 28 (0, 0))) := ⟨h0_⟩
  have n1_ : Aside0 (w31.heap[gb402]? = some (.cells #[.int .u64 0, .int .u64 0, .int .i64 0] 28 (0, 0))) := ⟨h1_⟩
  have n2_ : Aside0 (w31.heap[gb403]? = some (.cells #[.int .u64 0, .int .u64 0, .int .i64 0] 28 (0, 0))) := ⟨h2_⟩
  have n3_ : Aside0 (w31.heap[gb404]? = some (.cells #[.int .u64 a1_0, .int .u64 a1_1, .int .i64 (wrap64 (a1_2 + 1))] 28 (0, 0))) := ⟨h3_⟩
  have n4_ : Aside0 (w31.heap[gb409]? = some (.cells #[.int .u64 0, .int .u64 0, .int .i64 0] 28 (0, 0))) := ⟨h4_⟩
  have n5_ : Aside0 (w.heap.size ≤ gb409) := ⟨h5_⟩
  have n6_ : Aside0 (w.heap.size ≤ gb409) := ⟨h6_⟩
  have n7_ : Aside0 (gb401 ≠ gb409) := ⟨h7_⟩
  have n8_ : Aside0 (gb409 ≠ gb401) := ⟨h8_⟩
  have n9_ : Aside0 (gb402 ≠ gb409) := ⟨h9_⟩
  have n10_ : Aside0 (gb409 ≠ gb402) := ⟨h10_⟩
  have n11_ : Aside0 (gb403 ≠ gb409) := ⟨h11_⟩
  have n12_ : Aside0 (gb409 ≠ gb403) := ⟨h12_⟩
  have n13_ : Aside0 (gb404 ≠ gb409) := ⟨h13_⟩
  have n14_ : Aside0 (gb409 ≠ gb404) := ⟨h14_⟩
  have n15_ : Aside0 (Below w.heap.size w w31) := ⟨h15_⟩
  clear BK401
  clear BK402
  clear BK403
  clear BK404
  clear HB
  clear h0_ h1_ h2_ h3_ h4_ h5_ h6_ h7_ h8_ h9_ h10_ h11_ h12_ h13_ h14_ h15_
  have BK401 := n0_
  have BK402 := n1_
  have BK403 := n2_
  have BK404 := n3_
  have BK409 := n4_
  have GW409 := n5_
  have GE409 := n6_
  have NB401_409 := n7_
  have NB409_401 := n8_
  have NB402_409 := n9_
  have NB409_402 := n10_
  have NB403_409 := n11_
  have NB409_403 := n12_
  have NB404_409 := n13_
  have NB409_404 := n14_
  have HB := n15_
  clear n0_ n1_ n2_ n3_ n4_ n5_ n6_ n7_ n8_ n9_ n10_ n11_ n12_ n13_ n14_ n15_
  have hHeld : w31.cell? ⟨gb401, 0, none⟩ = some (.int .u64 a1_0) ∧ w31.cell? ⟨gb401, 1, none⟩ = some (.int .u64 a1_1) ∧ w31.cell? ⟨gb401, 2, none⟩ = some (.int .i64 a1_2) := hS_
  refine norm_ (a' := ?_) ?_ ?_
  rotate_left
  ·simp only [putAll, Act.put, List.setIfInBounds_toArray, List.set_cons_zero, List.set_cons_succ]
   rfl
  refine one_ (i := 11) (N := none) #[true, true, true, true, true, true, true, true, true, true, true, true] rfl rfl (one_of HT_.out (by kernel_rfl)) (by decide) (fun K hK => ?_)
  have hs32 : w31.cell? ⟨gb409, 0, none⟩ = some (.int .u64 0) := (blk_cell BK409.out 0).trans rfl
  have hfs32 := blk_frozen BK409.out 0
  have hns32_0 := NB401_409.out
  have hns32_1 := NB402_409.out
  have hns32_2 := NB403_409.out
  have hns32_3 := NB404_409.out
  have hms32_0 := NB409_401.out
  have hms32_1 := NB409_402.out
  have hms32_2 := NB409_403.out
  have hms32_3 := NB409_404.out
  have hs33 : w31.cell? ⟨gb409, 1, none⟩ = some (.int .u64 0) := (blk_cell BK409.out 1).trans rfl
  have hfs33 := blk_frozen BK409.out 1
  have hns33_0 := NB401_409.out
  have hns33_1 := NB402_409.out
  have hns33_2 := NB403_409.out
  have hns33_3 := NB404_409.out
  have hms33_0 := NB409_401.out
  have hms33_1 := NB409_402.out
  have hms33_2 := NB409_403.out
  have hms33_3 := NB409_404.out
  have hs34 : w31.cell? ⟨gb409, 2, none⟩ = some (.int .i64 0) := (blk_cell BK409.out 2).trans rfl
  have hfs34 := blk_frozen BK409.out 2
  have hns34_0 := NB401_409.out
  have hns34_1 := NB402_409.out
  have hns34_2 := NB403_409.out
  have hns34_3 := NB404_409.out
  have hms34_0 := NB409_401.out
  have hms34_1 := NB409_402.out
  have hms34_2 := NB409_403.out
  have hms34_3 := NB409_404.out
  refine skip_ (w1 := ?_) (by rfl) rfl ?_ ?_
  rotate_left
  ·go_simp
   rfl
  refine hK.out _ _ ⟨((cell_far (p := ⟨gb409, _, none⟩) NB401_409.out _).trans (((cell_far (p := ⟨gb409, _, none⟩) NB401_409.out _).trans (((cell_far (p := ⟨gb409, _, none⟩) NB401_409.out _).trans (hHeld.1)))))), ((cell_far (p := ⟨gb409, _, none⟩) NB401_409.out _).trans (((cell_far (p := ⟨gb409, _, none⟩) NB401_409.out _).trans (((cell_far (p := ⟨gb409, _, none⟩) NB401_409.out _).trans (hHeld.2.1)))))), ((cell_far (p := ⟨gb409, _, none⟩) NB401_409.out _).trans (((cell_far (p := ⟨gb409, _, none⟩) NB401_409.out _).trans (((cell_far (p := ⟨gb409, _, none⟩) NB401_409.out _).trans (hHeld.2.2))))))⟩ (fun hHeld => ?_)
  clear hK K
  refine done_ (done_of HT_.out (by kernel_rfl)) ?_
  try go_wp2
  have n0_ : Aside0 ((((w31.setCell ⟨gb409, 0, none⟩ (.int .u64 t407)).setCell ⟨gb409, 1, none⟩ (.int .u64 t408)).setCell ⟨gb409, 2, none⟩ (.int .i64 (wrap64 (a1_2 + 1)))).heap[gb401]? = some (.cells #[.int .u64 a1_0, .int .u64 a1_1, .int .i64 a1_2] 28 (0, 0))) := ⟨by (with_reducible repeat (first | refine blk_drewN ?_ _ | refine blk_drew ?_ | refine blk_alloc ?_ _)); refine blk_far ?_ NB401_409.out _; (with_reducible repeat (first | refine blk_drewN ?_ _ | refine blk_drew ?_ | refine blk_alloc ?_ _)); refine blk_far ?_ NB401_409.out _; (with_reducible repeat (first | refine blk_drewN ?_ _ | refine blk_drew ?_ | refine blk_alloc ?_ _)); refine blk_far ?_ NB401_409.out _; (with_reducible repeat (first | refine blk_drewN ?_ _ | refine blk_drew ?_ | refine blk_alloc ?_ _)); exact BK401.out⟩
  have n1_ : Aside0 ((((w31.setCell ⟨gb409, 0, none⟩ (.int .u64 t407)).setCell ⟨gb409, 1, none⟩ (.int .u64 t408)).setCell ⟨gb409, 2, none⟩ (.int .i64 (wrap64 (a1_2 + 1)))).heap[gb402]? = some (.cells #[.int .u64 0, .int .u64 0, .int .i64 0] 28 (0, 0))) := ⟨by (with_reducible repeat (first | refine blk_drewN ?_ _ | refine blk_drew ?_ | refine blk_alloc ?_ _)); refine blk_far ?_ NB402_409.out _; (with_reducible repeat (first | refine blk_drewN ?_ _ | refine blk_drew ?_ | refine blk_alloc ?_ _)); refine blk_far ?_ NB402_409.out _; (with_reducible repeat (first | refine blk_drewN ?_ _ | refine blk_drew ?_ | refine blk_alloc ?_ _)); refine blk_far ?_ NB402_409.out _; (with_reducible repeat (first | refine blk_drewN ?_ _ | refine blk_drew ?_ | refine blk_alloc ?_ _)); exact BK402.out⟩
  have n2_ : Aside0 ((((w31.setCell ⟨gb409, 0, none⟩ (.int .u64 t407)).setCell ⟨gb409, 1, none⟩ (.int .u64 t408)).setCell ⟨gb409, 2, none⟩ (.int .i64 (wrap64 (a1_2 + 1)))).heap[gb403]? = some (.cells #[.int .u64 0, .int .u64 0, .int .i64 0] 28 (0, 0))) := ⟨by (with_reducible repeat (first | refine blk_drewN ?_ _ | refine blk_drew ?_ | refine blk_alloc ?_ _)); refine blk_far ?_ NB403_409.out _; (with_reducible repeat (first | refine blk_drewN ?_ _ | refine blk_drew ?_ | refine blk_alloc ?_ _)); refine blk_far ?_ NB403_409.out _; (with_reducible repeat (first | refine blk_drewN ?_ _ | refine blk_drew ?_ | refine blk_alloc ?_ _)); refine blk_far ?_ NB403_409.out _; (with_reducible repeat (first | refine blk_drewN ?_ _ | refine blk_drew ?_ | refine blk_alloc ?_ _)); exact BK403.out⟩
  have n3_ : Aside0 ((((w31.setCell ⟨gb409, 0, none⟩ (.int .u64 t407)).setCell ⟨gb409, 1, none⟩ (.int .u64 t408)).setCell ⟨gb409, 2, none⟩ (.int .i64 (wrap64 (a1_2 + 1)))).heap[gb404]? = some (.cells #[.int .u64 a1_0, .int .u64 a1_1, .int .i64 (wrap64 (a1_2 + 1))] 28 (0, 0))) := ⟨by (with_reducible repeat (first | refine blk_drewN ?_ _ | refine blk_drew ?_ | refine blk_alloc ?_ _)); refine blk_far ?_ NB404_409.out _; (with_reducible repeat (first | refine blk_drewN ?_ _ | refine blk_drew ?_ | refine blk_alloc ?_ _)); refine blk_far ?_ NB404_409.out _; (with_reducible repeat (first | refine blk_drewN ?_ _ | refine blk_drew ?_ | refine blk_alloc ?_ _)); refine blk_far ?_ NB404_409.out _; (with_reducible repeat (first | refine blk_drewN ?_ _ | refine blk_drew ?_ | refine blk_alloc ?_ _)); exact BK404.out⟩
  have n4_ : Aside0 ((((w31.setCell ⟨gb409, 0, none⟩ (.int .u64 t407)).setCell ⟨gb409, 1, none⟩ (.int .u64 t408)).setCell ⟨gb409, 2, none⟩ (.int .i64 (wrap64 (a1_2 + 1)))).heap[gb409]? = some (.cells #[.int .u64 t407, .int .u64 t408, .int .i64 (wrap64 (a1_2 + 1))] 28 (0, 0))) := ⟨by (with_reducible repeat (first | refine blk_drewN ?_ _ | refine blk_drew ?_ | refine blk_alloc ?_ _)); refine blk_put (cs := #[.int .u64 t407, .int .u64 t408, .int .i64 0]) ?_ 2 _ rfl; (with_reducible repeat (first | refine blk_drewN ?_ _ | refine blk_drew ?_ | refine blk_alloc ?_ _)); refine blk_put (cs := #[.int .u64 t407, .int .u64 0, .int .i64 0]) ?_ 1 _ rfl; (with_reducible repeat (first | refine blk_drewN ?_ _ | refine blk_drew ?_ | refine blk_alloc ?_ _)); refine blk_put (cs := #[.int .u64 0, .int .u64 0, .int .i64 0]) ?_ 0 _ rfl; (with_reducible repeat (first | refine blk_drewN ?_ _ | refine blk_drew ?_ | refine blk_alloc ?_ _)); exact BK409.out⟩
  have n5_ : Aside0 (Below w.heap.size w (((w31.setCell ⟨gb409, 0, none⟩ (.int .u64 t407)).setCell ⟨gb409, 1, none⟩ (.int .u64 t408)).setCell ⟨gb409, 2, none⟩ (.int .i64 (wrap64 (a1_2 + 1))))) := ⟨xG⟩
  (try clear BK401)
  (try clear BK402)
  (try clear BK403)
  (try clear BK404)
  (try clear BK409)
  (try clear HB)
  generalize (((w31.setCell ⟨gb409, 0, none⟩ (.int .u64 t407)).setCell ⟨gb409, 1, none⟩ (.int .u64 t408)).setCell ⟨gb409, 2, none⟩ (.int .i64 (wrap64 (a1_2 + 1)))) = w35 at n0_ n1_ n2_ n3_ n4_ n5_ ⊢
  have BK401 := n0_
  have BK402 := n1_
  have BK403 := n2_
  have BK404 := n3_
  have BK409 := n4_
  have HB := n5_
  clear n0_ n1_ n2_ n3_ n4_ n5_
  have n0_ := Aside0.mk (blk_drew BK401.out)
  have n1_ := Aside0.mk (blk_drew BK402.out)
  have n2_ := Aside0.mk (blk_drew BK403.out)
  have n3_ := Aside0.mk (blk_drew BK404.out)
  have n4_ := Aside0.mk (blk_drew BK409.out)
  have n5_ := Aside0.mk (below_drew1 HB.out)
  clear BK401
  clear BK402
  clear BK403
  clear BK404
  clear BK409
  clear HB
  have BK401 := n0_
  have BK402 := n1_
  have BK403 := n2_
  have BK404 := n3_
  have BK409 := n4_
  have HB := n5_
  clear n0_ n1_ n2_ n3_ n4_ n5_
  refine start_ (n := 5) (S := fun w' => w'.cell? ⟨gb404, 0, none⟩ = some (.int .u64 a1_0) ∧ w'.cell? ⟨gb404, 1, none⟩ = some (.int .u64 a1_1) ∧ w'.cell? ⟨gb404, 2, none⟩ = some (.int .i64 (wrap64 (a1_2 + 1))) ∧ w'.cell? ⟨gb409, 0, none⟩ = some (.int .u64 t407) ∧ w'.cell? ⟨gb409, 1, none⟩ = some (.int .u64 t408) ∧ w'.cell? ⟨gb409, 2, none⟩ = some (.int .i64 (wrap64 (a1_2 + 1)))) (ds := []) #[false, false, false, false, false] (by kernel_rfl) rfl rfl ⟨(blk_cell BK404.out 0).trans rfl, (blk_cell BK404.out 1).trans rfl, (blk_cell BK404.out 2).trans rfl, (blk_cell BK409.out 0).trans rfl, (blk_cell BK409.out 1).trans rfl, (blk_cell BK409.out 2).trans rfl⟩ (fun hHeld => ?_)
  generalize w35.drew = w36 at BK401 BK402 BK403 BK404 BK409 HB hHeld ⊢
  refine take_ (i := 0) (N := some 31) (v := ?_) (a' := ?_) #[true, false, false, false, false] rfl rfl (by kernel_rfl) (fun _ _ _ h => h) (Or.inl ⟨by rfl, ?_⟩) hHeld ?_ ?_
  rotate_left
  ·rintro w' ⟨s0, s1, s2, s3, s4, s5⟩
   go_simp
   with_reducible rfl
  rotate_left
  ·simp only [Act.put, List.setIfInBounds_toArray, List.set_cons_zero, List.set_cons_succ, i64_w, i32_w]
   rfl
  refine take_ (i := 1) (N := some 32) (v := ?_) (a' := ?_) #[true, true, false, false, false] rfl rfl (by kernel_rfl) (fun _ _ _ h => h) (Or.inl ⟨by rfl, ?_⟩) hHeld ?_ ?_
  rotate_left
  ·rintro w' ⟨s0, s1, s2, s3, s4, s5⟩
   go_simp
   with_reducible rfl
  rotate_left
  ·simp only [Act.put, List.setIfInBounds_toArray, List.set_cons_zero, List.set_cons_succ, i64_w, i32_w]
   rfl
  refine one_ (i := 2) (N := none) #[true, true, true, false, false] rfl rfl (by kernel_rfl) (by decide) (fun K hK => ?_)
  have hs37 : w36.cell? ⟨gb402, 0, none⟩ = some (.int .u64 0) := (blk_cell BK402.out 0).trans rfl
  have hfs37 := blk_frozen BK402.out 0
  have hns37_0 := NB401_402.out
  have hns37_2 := NB403_402.out
  have hns37_3 := NB404_402.out
  have hns37_4 := NB409_402.out
  have hms37_0 := NB402_401.out
  have hms37_2 := NB402_403.out
  have hms37_3 := NB402_404.out
  have hms37_4 := NB402_409.out
  have hs38 : w36.cell? ⟨gb402, 1, none⟩ = some (.int .u64 0) := (blk_cell BK402.out 1).trans rfl
  have hfs38 := blk_frozen BK402.out 1
  have hns38_0 := NB401_402.out
  have hns38_2 := NB403_402.out
  have hns38_3 := NB404_402.out
  have hns38_4 := NB409_402.out
  have hms38_0 := NB402_401.out
  have hms38_2 := NB402_403.out
  have hms38_3 := NB402_404.out
  have hms38_4 := NB402_409.out
  have hs39 : w36.cell? ⟨gb402, 2, none⟩ = some (.int .i64 0) := (blk_cell BK402.out 2).trans rfl
  have hfs39 := blk_frozen BK402.out 2
  have hns39_0 := NB401_402.out
  have hns39_2 := NB403_402.out
  have hns39_3 := NB404_402.out
  have hns39_4 := NB409_402.out
  have hms39_0 := NB402_401.out
  have hms39_2 := NB402_403.out
  have hms39_3 := NB402_404.out
  have hms39_4 := NB402_409.out
  refine skip_ (w1 := ?_) (by rfl) rfl ?_ ?_
  rotate_left
  ·go_simp
   rfl
  refine hK.out _ _ ⟨((cell_far (p := ⟨gb402, _, none⟩) NB404_402.out _).trans (((cell_far (p := ⟨gb402, _, none⟩) NB404_402.out _).trans (((cell_far (p := ⟨gb402, _, none⟩) NB404_402.out _).trans (hHeld.1)))))), ((cell_far (p := ⟨gb402, _, none⟩) NB404_402.out _).trans (((cell_far (p := ⟨gb402, _, none⟩) NB404_402.out _).trans (((cell_far (p := ⟨gb402, _, none⟩) NB404_402.out _).trans (hHeld.2.1)))))), ((cell_far (p := ⟨gb402, _, none⟩) NB404_402.out _).trans (((cell_far (p := ⟨gb402, _, none⟩) NB404_402.out _).trans (((cell_far (p := ⟨gb402, _, none⟩) NB404_402.out _).trans (hHeld.2.2.1)))))), ((cell_far (p := ⟨gb402, _, none⟩) NB409_402.out _).trans (((cell_far (p := ⟨gb402, _, none⟩) NB409_402.out _).trans (((cell_far (p := ⟨gb402, _, none⟩) NB409_402.out _).trans (hHeld.2.2.2.1)))))), ((cell_far (p := ⟨gb402, _, none⟩) NB409_402.out _).trans (((cell_far (p := ⟨gb402, _, none⟩) NB409_402.out _).trans (((cell_far (p := ⟨gb402, _, none⟩) NB409_402.out _).trans (hHeld.2.2.2.2.1)))))), ((cell_far (p := ⟨gb402, _, none⟩) NB409_402.out _).trans (((cell_far (p := ⟨gb402, _, none⟩) NB409_402.out _).trans (((cell_far (p := ⟨gb402, _, none⟩) NB409_402.out _).trans (hHeld.2.2.2.2.2))))))⟩ (fun hHeld => ?_)
  clear hK K
  refine one_ (i := 3) (N := none) #[true, true, true, true, false] rfl rfl (by kernel_rfl) (by decide) (fun K hK => ?_)
  have hs40 : w36.cell? ⟨gb403, 0, none⟩ = some (.int .u64 0) := (blk_cell BK403.out 0).trans rfl
  have hfs40 := blk_frozen BK403.out 0
  have hns40_0 := NB401_403.out
  have hns40_1 := NB402_403.out
  have hns40_3 := NB404_403.out
  have hns40_4 := NB409_403.out
  have hms40_0 := NB403_401.out
  have hms40_1 := NB403_402.out
  have hms40_3 := NB403_404.out
  have hms40_4 := NB403_409.out
  have hs41 : w36.cell? ⟨gb403, 1, none⟩ = some (.int .u64 0) := (blk_cell BK403.out 1).trans rfl
  have hfs41 := blk_frozen BK403.out 1
  have hns41_0 := NB401_403.out
  have hns41_1 := NB402_403.out
  have hns41_3 := NB404_403.out
  have hns41_4 := NB409_403.out
  have hms41_0 := NB403_401.out
  have hms41_1 := NB403_402.out
  have hms41_3 := NB403_404.out
  have hms41_4 := NB403_409.out
  have hs42 : w36.cell? ⟨gb403, 2, none⟩ = some (.int .i64 0) := (blk_cell BK403.out 2).trans rfl
  have hfs42 := blk_frozen BK403.out 2
  have hns42_0 := NB401_403.out
  have hns42_1 := NB402_403.out
  have hns42_3 := NB404_403.out
  have hns42_4 := NB409_403.out
  have hms42_0 := NB403_401.out
  have hms42_1 := NB403_402.out
  have hms42_3 := NB403_404.out
  have hms42_4 := NB403_409.out
  refine skip_ (w1 := ?_) (by rfl) rfl ?_ ?_
  rotate_left
  ·go_simp
   rfl
  refine hK.out _ _ ⟨((cell_far (p := ⟨gb403, _, none⟩) NB404_403.out _).trans (((cell_far (p := ⟨gb403, _, none⟩) NB404_403.out _).trans (((cell_far (p := ⟨gb403, _, none⟩) NB404_403.out _).trans (hHeld.1)))))), ((cell_far (p := ⟨gb403, _, none⟩) NB404_403.out _).trans (((cell_far (p := ⟨gb403, _, none⟩) NB404_403.out _).trans (((cell_far (p := ⟨gb403, _, none⟩) NB404_403.out _).trans (hHeld.2.1)))))), ((cell_far (p := ⟨gb403, _, none⟩) NB404_403.out _).trans (((cell_far (p := ⟨gb403, _, none⟩) NB404_403.out _).trans (((cell_far (p := ⟨gb403, _, none⟩) NB404_403.out _).trans (hHeld.2.2.1)))))), ((cell_far (p := ⟨gb403, _, none⟩) NB409_403.out _).trans (((cell_far (p := ⟨gb403, _, none⟩) NB409_403.out _).trans (((cell_far (p := ⟨gb403, _, none⟩) NB409_403.out _).trans (hHeld.2.2.2.1)))))), ((cell_far (p := ⟨gb403, _, none⟩) NB409_403.out _).trans (((cell_far (p := ⟨gb403, _, none⟩) NB409_403.out _).trans (((cell_far (p := ⟨gb403, _, none⟩) NB409_403.out _).trans (hHeld.2.2.2.2.1)))))), ((cell_far (p := ⟨gb403, _, none⟩) NB409_403.out _).trans (((cell_far (p := ⟨gb403, _, none⟩) NB409_403.out _).trans (((cell_far (p := ⟨gb403, _, none⟩) NB409_403.out _).trans (hHeld.2.2.2.2.2))))))⟩ (fun hHeld => ?_)
  clear hK K
  refine pure_ (i := 4) (N := some 6) (v := ?_) (a' := ?_) #[true, true, true, true, true] rfl rfl (by kernel_rfl) (fun _ _ _ h => h) (Or.inl ⟨by rfl, ?_⟩) ?_ ?_
  rotate_left
  ·intro w'
   go_simp
   with_reducible rfl
  rotate_left
  ·simp only [Act.put, List.setIfInBounds_toArray, List.set_cons_zero, List.set_cons_succ, i64_w, i32_w]
   rfl
  refine done_ (by kernel_rfl) ?_
  try go_wp2
  refine bodyPost_ret (results_list (rs := [.cell 4 28, .cell 5 28, .tmp 6]) rfl (by simp) (.cell gb402 28 #[.int .u64 a1_0, .int .u64 a1_1, .int .i64 (wrap64 (a1_2 + 1))] (0, 0) _ rfl (by (with_reducible repeat (first | refine blk_drewN ?_ _ | refine blk_drew ?_ | refine blk_alloc ?_ _)); refine blk_far ?_ NB402_403.out _; (with_reducible repeat (first | refine blk_drewN ?_ _ | refine blk_drew ?_ | refine blk_alloc ?_ _)); refine blk_far ?_ NB402_403.out _; (with_reducible repeat (first | refine blk_drewN ?_ _ | refine blk_drew ?_ | refine blk_alloc ?_ _)); refine blk_far ?_ NB402_403.out _; (with_reducible repeat (first | refine blk_drewN ?_ _ | refine blk_drew ?_ | refine blk_alloc ?_ _)); refine blk_put (cs := #[.int .u64 a1_0, .int .u64 a1_1, .int .i64 0]) ?_ 2 _ rfl; (with_reducible repeat (first | refine blk_drewN ?_ _ | refine blk_drew ?_ | refine blk_alloc ?_ _)); refine blk_put (cs := #[.int .u64 a1_0, .int .u64 0, .int .i64 0]) ?_ 1 _ rfl; (with_reducible repeat (first | refine blk_drewN ?_ _ | refine blk_drew ?_ | refine blk_alloc ?_ _)); refine blk_put (cs := #[.int .u64 0, .int .u64 0, .int .i64 0]) ?_ 0 _ rfl; (with_reducible repeat (first | refine blk_drewN ?_ _ | refine blk_drew ?_ | refine blk_alloc ?_ _)); exact BK402.out) Tryd.underlying28 rfl (by kernel_rfl) (.cell gb403 28 #[.int .u64 t407, .int .u64 t408, .int .i64 (wrap64 (a1_2 + 1))] (0, 0) _ rfl (by (with_reducible repeat (first | refine blk_drewN ?_ _ | refine blk_drew ?_ | refine blk_alloc ?_ _)); refine blk_put (cs := #[.int .u64 t407, .int .u64 t408, .int .i64 0]) ?_ 2 _ rfl; (with_reducible repeat (first | refine blk_drewN ?_ _ | refine blk_drew ?_ | refine blk_alloc ?_ _)); refine blk_put (cs := #[.int .u64 t407, .int .u64 0, .int .i64 0]) ?_ 1 _ rfl; (with_reducible repeat (first | refine blk_drewN ?_ _ | refine blk_drew ?_ | refine blk_alloc ?_ _)); refine blk_put (cs := #[.int .u64 0, .int .u64 0, .int .i64 0]) ?_ 0 _ rfl; (with_reducible repeat (first | refine blk_drewN ?_ _ | refine blk_drew ?_ | refine blk_alloc ?_ _)); refine blk_far ?_ NB403_402.out _; (with_reducible repeat (first | refine blk_drewN ?_ _ | refine blk_drew ?_ | refine blk_alloc ?_ _)); refine blk_far ?_ NB403_402.out _; (with_reducible repeat (first | refine blk_drewN ?_ _ | refine blk_drew ?_ | refine blk_alloc ?_ _)); refine blk_far ?_ NB403_402.out _; (with_reducible repeat (first | refine blk_drewN ?_ _ | refine blk_drew ?_ | refine blk_alloc ?_ _)); exact BK403.out) Tryd.underlying28 rfl (by kernel_rfl) (.tmp .nil)))) rfl ?_
  exact ⟨xE, xG⟩
def prefix_Parent.f (a0_0 : Int) (a0_1 : Int) (a0_2 : Int) : Option (Int × Int × Int × Bool) := if a0_2 ≤ 0 then (some (0, 0, 0, false)) else ((prefix_cut.f a0_0 a0_1 (wrap64 (a0_2 - 1))).bind fun bt415 => (some (bt415.1, bt415.2.1, bt415.2.2, true)))
set_option maxHeartbeats 8000000 in
set_option maxRecDepth 100000 in
theorem prefix_Parent.calls (a0_0 : Int) (a0_1 : Int) (a0_2 : Int) (r1 : Int) (r2 : Int) (r3 : Int) (r4 : Bool) (w : World) (h : prefix_Parent.f a0_0 a0_1 a0_2 = some (r1, r2, r3, r4)) :
  Calls Tryd.prog 32 #[.agg #[.int .u64 a0_0, .int .u64 a0_1, .int .i64 a0_2]] w fun e w' => e = .returned (.tuple #[.agg #[.int .u64 r1, .int .u64 r2, .int .i64 r3], .bool r4]) ∧ Below w.heap.size w w' := by
 have hu28 := Tryd.underlying28
 have hu24 := Tryd.underlying24
 have HB := Aside0.mk (Below.refl w.heap.size w)
 have H : (if a0_2 ≤ 0 then (some (0, 0, 0, false)) else ((prefix_cut.f a0_0 a0_1 (wrap64 (a0_2 - 1))).bind fun bt415 => (some (bt415.1, bt415.2.1, bt415.2.2, true)))) = some (r1, r2, r3, r4) := h
 clear h
 by_cases c2 : a0_2 ≤ 0
 ·rw [if_pos c2] at H
  have c2b0 : decide (a0_2 ≤ 0) = true := decide_eq_true c2
  clear c2
  simp only [Option.some.injEq, Prod.mk.injEq] at H
  obtain ⟨rfl, rfl, rfl, rfl⟩ := H
  go_enter Tryd.func32, Tryd.ntmps32
  go_wp2_with (first | ((with_reducible refine gate_dst (N := 1) rfl ?_); refine box_event ?hg (N := 1) ?hd (cs := #[.int .u64 a0_0, .int .u64 a0_1, .int .i64 a0_2]) (t := 28) ?hr ?_; (case hd => rfl); (case hg => rfl); (case hr => first | (go_simp; done) | (go_simp; rfl)); intro gb413 hg w3 hbox hb; have n0_ := Aside0.mk (below_step xB hb); have n1_ := Aside0.mk (hbox); have n2_ := xS w hg; have n3_ := xS w hg; clear HB; have HB := n0_; have BK413 := n1_; have GW413 := n2_; have GE413 := n3_; clear n0_ n1_ n2_ n3_; clear hb hbox hg) | ((with_reducible refine gate_dst (N := 2) rfl ?_); refine box_event ?hg (N := 2) ?hd (cs := #[.int .u64 0, .int .u64 0, .int .i64 0]) (t := 28) ?hr ?_; (case hd => rfl); (case hg => rfl); (case hr => first | (go_simp; done) | (go_simp; rfl)); intro gb414 hg w4 hbox hb; have n0_ := xP BK413.out hb; have n1_ := Aside0.mk (below_step xG hb); have n2_ := Aside0.mk (hbox); have n3_ := xT w hg; have n4_ := xT w hg; have n5_ := Aside0.mk ((xNl BK413.out hg : gb413 ≠ gb414)); have n6_ := Aside0.mk ((xNr BK413.out hg : gb414 ≠ gb413)); clear BK413; clear HB; have BK413 := n0_; have HB := n1_; have BK414 := n2_; have GW414 := n3_; have GE414 := n4_; have NB413_414 := n5_; have NB414_413 := n6_; clear n0_ n1_ n2_ n3_ n4_ n5_ n6_; clear hb hbox hg; have hnb5 := NB413_414.out; have hnc5 := NB414_413.out; have hcz6_0 : w4.cell? ⟨gb413, 0, none⟩ = some (.int .u64 a0_0) := (blk_cell BK413.out 0).trans rfl; have hcz6_1 : w4.cell? ⟨gb413, 1, none⟩ = some (.int .u64 a0_1) := (blk_cell BK413.out 1).trans rfl; have hcz6_2 : w4.cell? ⟨gb413, 2, none⟩ = some (.int .i64 a0_2) := (blk_cell BK413.out 2).trans rfl; have hfz6_0 := blk_frozen BK413.out 0; have hfz6_1 := blk_frozen BK413.out 1; have hfz6_2 := blk_frozen BK413.out 2; have hcz7_0 : w4.cell? ⟨gb414, 0, none⟩ = some (.int .u64 0) := (blk_cell BK414.out 0).trans rfl; have hcz7_1 : w4.cell? ⟨gb414, 1, none⟩ = some (.int .u64 0) := (blk_cell BK414.out 1).trans rfl; have hcz7_2 : w4.cell? ⟨gb414, 2, none⟩ = some (.int .i64 0) := (blk_cell BK414.out 2).trans rfl; have hfz7_0 := blk_frozen BK414.out 0; have hfz7_1 := blk_frozen BK414.out 1; have hfz7_2 := blk_frozen BK414.out 2))
  refine bodyPost_ret (results_ct rfl _ _ gb414 28 #[.int .u64 0, .int .u64 0, .int .i64 0] (0, 0) _ rfl (by (with_reducible repeat (first | refine blk_drewN ?_ _ | refine blk_drew ?_ | refine blk_alloc ?_ _)); refine blk_put (cs := #[.int .u64 0, .int .u64 0, .int .i64 0]) ?_ 2 _ rfl; (with_reducible repeat (first | refine blk_drewN ?_ _ | refine blk_drew ?_ | refine blk_alloc ?_ _)); refine blk_put (cs := #[.int .u64 0, .int .u64 0, .int .i64 0]) ?_ 1 _ rfl; (with_reducible repeat (first | refine blk_drewN ?_ _ | refine blk_drew ?_ | refine blk_alloc ?_ _)); refine blk_put (cs := #[.int .u64 0, .int .u64 0, .int .i64 0]) ?_ 0 _ rfl; (with_reducible repeat (first | refine blk_drewN ?_ _ | refine blk_drew ?_ | refine blk_alloc ?_ _)); exact BK414.out) Tryd.underlying28 rfl (by kernel_rfl)) rfl ?_
  exact ⟨xE, xG⟩
 ·rw [if_neg c2] at H
  have c2b0 : decide (a0_2 ≤ 0) = false := decide_eq_false c2
  clear c2
  replace H := Option.bind_eq_some_iff.mp H
  obtain ⟨⟨t415, t416, t417⟩, A80, H⟩ := H
  replace H : (some (t415, t416, t417, true)) = some (r1, r2, r3, r4) := H
  have A8 := Aside0.mk A80
  clear A80
  simp only [Option.some.injEq, Prod.mk.injEq] at H
  obtain ⟨rfl, rfl, rfl, rfl⟩ := H
  go_enter Tryd.func32, Tryd.ntmps32
  go_wp2_with (first | ((with_reducible refine gate_dst (N := 1) rfl ?_); refine box_event ?hg (N := 1) ?hd (cs := #[.int .u64 a0_0, .int .u64 a0_1, .int .i64 a0_2]) (t := 28) ?hr ?_; (case hd => rfl); (case hg => rfl); (case hr => first | (go_simp; done) | (go_simp; rfl)); intro gb413 hg w9 hbox hb; have n0_ := Aside0.mk (below_step xB hb); have n1_ := Aside0.mk (hbox); have n2_ := xS w hg; have n3_ := xS w hg; clear HB; have HB := n0_; have BK413 := n1_; have GW413 := n2_; have GE413 := n3_; clear n0_ n1_ n2_ n3_; clear hb hbox hg) | ((with_reducible refine gate_dst (N := 2) rfl ?_); refine box_event ?hg (N := 2) ?hd (cs := #[.int .u64 0, .int .u64 0, .int .i64 0]) (t := 28) ?hr ?_; (case hd => rfl); (case hg => rfl); (case hr => first | (go_simp; done) | (go_simp; rfl)); intro gb414 hg w10 hbox hb; have n0_ := xP BK413.out hb; have n1_ := Aside0.mk (below_step xG hb); have n2_ := Aside0.mk (hbox); have n3_ := xT w hg; have n4_ := xT w hg; have n5_ := Aside0.mk ((xNl BK413.out hg : gb413 ≠ gb414)); have n6_ := Aside0.mk ((xNr BK413.out hg : gb414 ≠ gb413)); clear BK413; clear HB; have BK413 := n0_; have HB := n1_; have BK414 := n2_; have GW414 := n3_; have GE414 := n4_; have NB413_414 := n5_; have NB414_413 := n6_; clear n0_ n1_ n2_ n3_ n4_ n5_ n6_; clear hb hbox hg; have hnb11 := NB413_414.out; have hnc11 := NB414_413.out; have hcz12_0 : w10.cell? ⟨gb413, 0, none⟩ = some (.int .u64 a0_0) := (blk_cell BK413.out 0).trans rfl; have hcz12_1 : w10.cell? ⟨gb413, 1, none⟩ = some (.int .u64 a0_1) := (blk_cell BK413.out 1).trans rfl; have hcz12_2 : w10.cell? ⟨gb413, 2, none⟩ = some (.int .i64 a0_2) := (blk_cell BK413.out 2).trans rfl; have hfz12_0 := blk_frozen BK413.out 0; have hfz12_1 := blk_frozen BK413.out 1; have hfz12_2 := blk_frozen BK413.out 2) | ((with_reducible refine gate_callee (f := 62) rfl ?_); refine goesL_ (some 13) rfl rfl Tryd.func62 (by kernel_rfl) rfl #[.agg #[.int .u64 a0_0, .int .u64 a0_1], .int .i64 (wrap64 (a0_2 - 1))] rfl xM ?_; (with_reducible refine (prefix_cut.calls a0_0 a0_1 (wrap64 (a0_2 - 1)) t415 t416 t417 _ A8.out).mono ?_); rintro e w13 ⟨rfl, hb⟩; refine ⟨_, rfl, ?_⟩; have n0_ := xP BK413.out hb; have n1_ := xP BK414.out hb; have n2_ := Aside0.mk (below_step xG hb); clear BK413; clear BK414; clear HB; have BK413 := n0_; have BK414 := n1_; have HB := n2_; clear n0_ n1_ n2_; (try clear hb); (try clear hb2); (try clear hk); (try clear hi); have hcz14_0 : w13.cell? ⟨gb414, 0, none⟩ = some (.int .u64 0) := (blk_cell BK414.out 0).trans rfl; have hcz14_1 : w13.cell? ⟨gb414, 1, none⟩ = some (.int .u64 0) := (blk_cell BK414.out 1).trans rfl; have hcz14_2 : w13.cell? ⟨gb414, 2, none⟩ = some (.int .i64 0) := (blk_cell BK414.out 2).trans rfl; have hfz14_0 := blk_frozen BK414.out 0; have hfz14_1 := blk_frozen BK414.out 1; have hfz14_2 := blk_frozen BK414.out 2))
  refine bodyPost_ret (results_ct rfl _ _ gb414 28 #[.int .u64 t415, .int .u64 t416, .int .i64 t417] (0, 0) _ rfl (by (with_reducible repeat (first | refine blk_drewN ?_ _ | refine blk_drew ?_ | refine blk_alloc ?_ _)); refine blk_put (cs := #[.int .u64 t415, .int .u64 t416, .int .i64 0]) ?_ 2 _ rfl; (with_reducible repeat (first | refine blk_drewN ?_ _ | refine blk_drew ?_ | refine blk_alloc ?_ _)); refine blk_put (cs := #[.int .u64 t415, .int .u64 0, .int .i64 0]) ?_ 1 _ rfl; (with_reducible repeat (first | refine blk_drewN ?_ _ | refine blk_drew ?_ | refine blk_alloc ?_ _)); refine blk_put (cs := #[.int .u64 0, .int .u64 0, .int .i64 0]) ?_ 0 _ rfl; (with_reducible repeat (first | refine blk_drewN ?_ _ | refine blk_drew ?_ | refine blk_alloc ?_ _)); exact BK414.out) Tryd.underlying28 rfl (by kernel_rfl)) rfl ?_
  exact ⟨xE, xG⟩
def prefix_Sibling.f (a0_0 : Int) (a0_1 : Int) (a0_2 : Int) : Option (Int × Int × Int × Bool) := if a0_2 ≤ 0 then (some (0, 0, 0, false)) else ((prefix_one.f (wrap64 (a0_2 - 1))).bind fun bt420 => ((word_Xor.f a0_0 a0_1 bt420.1 bt420.2).bind fun bt422 => (some (bt422.1, bt422.2, a0_2, true))))
def prefix_Sibling.T3 : Bool × List (List Nat × List Nat) := (true, [([], []), ([0], [0]), ([], []), ([2], [2]), ([3], [3]), ([4], [4]), ([1, 5, 5], [1, 5]), ([], []), ([7], [7]), ([6, 8], [6, 8]), ([9, 6, 0, 1, 2, 3, 4, 5, 6, 7, 8, 9], [9]), ([10, 0, 1, 2, 3, 4, 5, 6, 7, 8, 9, 10], [])])
def prefix_Sibling.B3 : List Nat := [0, 1, 0, 4, 12, 28, 63, 0, 128, 511, 1023, 2047]
theorem prefix_Sibling.tab3 : rtab .any (opsOf Tryd.f33 3) = prefix_Sibling.T3 := by kernel_rfl
theorem prefix_Sibling.bits3 : waitsOk prefix_Sibling.T3.2 prefix_Sibling.B3 = true := by kernel_rfl
set_option maxHeartbeats 8000000 in
set_option maxRecDepth 100000 in
theorem prefix_Sibling.calls (a0_0 : Int) (a0_1 : Int) (a0_2 : Int) (r1 : Int) (r2 : Int) (r3 : Int) (r4 : Bool) (w : World) (h : prefix_Sibling.f a0_0 a0_1 a0_2 = some (r1, r2, r3, r4)) :
  Calls Tryd.prog 33 #[.agg #[.int .u64 a0_0, .int .u64 a0_1, .int .i64 a0_2]] w fun e w' => e = .returned (.tuple #[.agg #[.int .u64 r1, .int .u64 r2, .int .i64 r3], .bool r4]) ∧ Below w.heap.size w w' := by
 have hu28 := Tryd.underlying28
 have hu24 := Tryd.underlying24
 have HB := Aside0.mk (Below.refl w.heap.size w)
 have H : (if a0_2 ≤ 0 then (some (0, 0, 0, false)) else ((prefix_one.f (wrap64 (a0_2 - 1))).bind fun bt420 => ((word_Xor.f a0_0 a0_1 bt420.1 bt420.2).bind fun bt422 => (some (bt422.1, bt422.2, a0_2, true))))) = some (r1, r2, r3, r4) := h
 clear h
 by_cases c2 : a0_2 ≤ 0
 ·rw [if_pos c2] at H
  have c2b0 : decide (a0_2 ≤ 0) = true := decide_eq_true c2
  clear c2
  simp only [Option.some.injEq, Prod.mk.injEq] at H
  obtain ⟨rfl, rfl, rfl, rfl⟩ := H
  go_enter Tryd.func33, Tryd.ntmps33
  go_wp2_with (first | ((with_reducible refine gate_dst (N := 1) rfl ?_); refine box_event ?hg (N := 1) ?hd (cs := #[.int .u64 a0_0, .int .u64 a0_1, .int .i64 a0_2]) (t := 28) ?hr ?_; (case hd => rfl); (case hg => rfl); (case hr => first | (go_simp; done) | (go_simp; rfl)); intro gb418 hg w3 hbox hb; have n0_ := Aside0.mk (below_step xB hb); have n1_ := Aside0.mk (hbox); have n2_ := xS w hg; have n3_ := xS w hg; clear HB; have HB := n0_; have BK418 := n1_; have GW418 := n2_; have GE418 := n3_; clear n0_ n1_ n2_ n3_; clear hb hbox hg) | ((with_reducible refine gate_dst (N := 2) rfl ?_); refine box_event ?hg (N := 2) ?hd (cs := #[.int .u64 0, .int .u64 0, .int .i64 0]) (t := 28) ?hr ?_; (case hd => rfl); (case hg => rfl); (case hr => first | (go_simp; done) | (go_simp; rfl)); intro gb419 hg w4 hbox hb; have n0_ := xP BK418.out hb; have n1_ := Aside0.mk (below_step xG hb); have n2_ := Aside0.mk (hbox); have n3_ := xT w hg; have n4_ := xT w hg; have n5_ := Aside0.mk ((xNl BK418.out hg : gb418 ≠ gb419)); have n6_ := Aside0.mk ((xNr BK418.out hg : gb419 ≠ gb418)); clear BK418; clear HB; have BK418 := n0_; have HB := n1_; have BK419 := n2_; have GW419 := n3_; have GE419 := n4_; have NB418_419 := n5_; have NB419_418 := n6_; clear n0_ n1_ n2_ n3_ n4_ n5_ n6_; clear hb hbox hg; have hnb5 := NB418_419.out; have hnc5 := NB419_418.out; have hcz6_0 : w4.cell? ⟨gb418, 0, none⟩ = some (.int .u64 a0_0) := (blk_cell BK418.out 0).trans rfl; have hcz6_1 : w4.cell? ⟨gb418, 1, none⟩ = some (.int .u64 a0_1) := (blk_cell BK418.out 1).trans rfl; have hcz6_2 : w4.cell? ⟨gb418, 2, none⟩ = some (.int .i64 a0_2) := (blk_cell BK418.out 2).trans rfl; have hfz6_0 := blk_frozen BK418.out 0; have hfz6_1 := blk_frozen BK418.out 1; have hfz6_2 := blk_frozen BK418.out 2; have hcz7_0 : w4.cell? ⟨gb419, 0, none⟩ = some (.int .u64 0) := (blk_cell BK419.out 0).trans rfl; have hcz7_1 : w4.cell? ⟨gb419, 1, none⟩ = some (.int .u64 0) := (blk_cell BK419.out 1).trans rfl; have hcz7_2 : w4.cell? ⟨gb419, 2, none⟩ = some (.int .i64 0) := (blk_cell BK419.out 2).trans rfl; have hfz7_0 := blk_frozen BK419.out 0; have hfz7_1 := blk_frozen BK419.out 1; have hfz7_2 := blk_frozen BK419.out 2))
  refine bodyPost_ret (results_ct rfl _ _ gb419 28 #[.int .u64 0, .int .u64 0, .int .i64 0] (0, 0) _ rfl (by (with_reducible repeat (first | refine blk_drewN ?_ _ | refine blk_drew ?_ | refine blk_alloc ?_ _)); refine blk_put (cs := #[.int .u64 0, .int .u64 0, .int .i64 0]) ?_ 2 _ rfl; (with_reducible repeat (first | refine blk_drewN ?_ _ | refine blk_drew ?_ | refine blk_alloc ?_ _)); refine blk_put (cs := #[.int .u64 0, .int .u64 0, .int .i64 0]) ?_ 1 _ rfl; (with_reducible repeat (first | refine blk_drewN ?_ _ | refine blk_drew ?_ | refine blk_alloc ?_ _)); refine blk_put (cs := #[.int .u64 0, .int .u64 0, .int .i64 0]) ?_ 0 _ rfl; (with_reducible repeat (first | refine blk_drewN ?_ _ | refine blk_drew ?_ | refine blk_alloc ?_ _)); exact BK419.out) Tryd.underlying28 rfl (by kernel_rfl)) rfl ?_
  exact ⟨xE, xG⟩
 ·rw [if_neg c2] at H
  have c2b0 : decide (a0_2 ≤ 0) = false := decide_eq_false c2
  clear c2
  replace H := Option.bind_eq_some_iff.mp H
  obtain ⟨⟨t420, t421⟩, A80, H⟩ := H
  replace H : ((word_Xor.f a0_0 a0_1 t420 t421).bind fun bt422 => (some (bt422.1, bt422.2, a0_2, true))) = some (r1, r2, r3, r4) := H
  have A8 := Aside0.mk A80
  clear A80
  replace H := Option.bind_eq_some_iff.mp H
  obtain ⟨⟨t422, t423⟩, A90, H⟩ := H
  replace H : (some (t422, t423, a0_2, true)) = some (r1, r2, r3, r4) := H
  have A9 := Aside0.mk A90
  clear A90
  simp only [Option.some.injEq, Prod.mk.injEq] at H
  obtain ⟨rfl, rfl, rfl, rfl⟩ := H
  go_enter Tryd.func33, Tryd.ntmps33
  try go_wp2_with (first | ((with_reducible refine gate_dst (N := 1) rfl ?_); refine box_event ?hg (N := 1) ?hd (cs := #[.int .u64 a0_0, .int .u64 a0_1, .int .i64 a0_2]) (t := 28) ?hr ?_; (case hd => rfl); (case hg => rfl); (case hr => first | (go_simp; done) | (go_simp; rfl)); intro gb418 hg w10 hbox hb; have n0_ := Aside0.mk (below_step xB hb); have n1_ := Aside0.mk (hbox); have n2_ := xS w hg; have n3_ := xS w hg; clear HB; have HB := n0_; have BK418 := n1_; have GW418 := n2_; have GE418 := n3_; clear n0_ n1_ n2_ n3_; clear hb hbox hg) | ((with_reducible refine gate_dst (N := 2) rfl ?_); refine box_event ?hg (N := 2) ?hd (cs := #[.int .u64 0, .int .u64 0, .int .i64 0]) (t := 28) ?hr ?_; (case hd => rfl); (case hg => rfl); (case hr => first | (go_simp; done) | (go_simp; rfl)); intro gb419 hg w11 hbox hb; have n0_ := xP BK418.out hb; have n1_ := Aside0.mk (below_step xG hb); have n2_ := Aside0.mk (hbox); have n3_ := xT w hg; have n4_ := xT w hg; have n5_ := Aside0.mk ((xNl BK418.out hg : gb418 ≠ gb419)); have n6_ := Aside0.mk ((xNr BK418.out hg : gb419 ≠ gb418)); clear BK418; clear HB; have BK418 := n0_; have HB := n1_; have BK419 := n2_; have GW419 := n3_; have GE419 := n4_; have NB418_419 := n5_; have NB419_418 := n6_; clear n0_ n1_ n2_ n3_ n4_ n5_ n6_; clear hb hbox hg; have hnb12 := NB418_419.out; have hnc12 := NB419_418.out; have hcz13_0 : w11.cell? ⟨gb418, 0, none⟩ = some (.int .u64 a0_0) := (blk_cell BK418.out 0).trans rfl; have hcz13_1 : w11.cell? ⟨gb418, 1, none⟩ = some (.int .u64 a0_1) := (blk_cell BK418.out 1).trans rfl; have hcz13_2 : w11.cell? ⟨gb418, 2, none⟩ = some (.int .i64 a0_2) := (blk_cell BK418.out 2).trans rfl; have hfz13_0 := blk_frozen BK418.out 0; have hfz13_1 := blk_frozen BK418.out 1; have hfz13_2 := blk_frozen BK418.out 2))
  have n0_ := Aside0.mk (blk_drew BK418.out)
  have n1_ := Aside0.mk (blk_drew BK419.out)
  have n2_ := Aside0.mk (below_drew1 HB.out)
  clear BK418
  clear BK419
  clear HB
  have BK418 := n0_
  have BK419 := n1_
  have HB := n2_
  clear n0_ n1_ n2_
  refine start_ (n := 12) (S := fun w' => w'.cell? ⟨gb418, 0, none⟩ = some (.int .u64 a0_0) ∧ w'.cell? ⟨gb418, 1, none⟩ = some (.int .u64 a0_1) ∧ w'.cell? ⟨gb418, 2, none⟩ = some (.int .i64 a0_2)) (ds := []) #[false, false, false, false, false, false, false, false, false, false, false, false] (by kernel_rfl) rfl rfl ⟨(blk_cell BK418.out 0).trans rfl, (blk_cell BK418.out 1).trans rfl, (blk_cell BK418.out 2).trans rfl⟩ (fun hHeld => ?_); refine with_tabW prefix_Sibling.tab3 prefix_Sibling.bits3 (fun HT_ HW_ => ?_)
  generalize w11.drew = w14 at BK418 BK419 HB hHeld ⊢
  refine pure_ (i := 0) (N := some 8) (v := ?_) (a' := ?_) #[true, false, false, false, false, false, false, false, false, false, false, false] rfl rfl (any_of HT_.out (by kernel_rfl)) (fun _ _ _ h => h) (Or.inl ⟨by rfl, ?_⟩) ?_ ?_
  rotate_left
  ·intro w'
   go_simp
   with_reducible rfl
  rotate_left
  ·simp only [Act.put, List.setIfInBounds_toArray, List.set_cons_zero, List.set_cons_succ, i64_w, i32_w]
   rfl
  refine pure_ (i := 2) (N := some 10) (v := ?_) (a' := ?_) #[true, false, true, false, false, false, false, false, false, false, false, false] rfl rfl (any_of HT_.out (by kernel_rfl)) (fun _ _ _ h => h) (Or.inl ⟨by rfl, ?_⟩) ?_ ?_
  rotate_left
  ·intro w'
   go_simp
   with_reducible rfl
  rotate_left
  ·simp only [Act.put, List.setIfInBounds_toArray, List.set_cons_zero, List.set_cons_succ, i64_w, i32_w]
   rfl
  refine pure_ (i := 7) (N := some 15) (v := ?_) (a' := ?_) #[true, false, true, false, false, false, false, true, false, false, false, false] rfl rfl (any_of HT_.out (by kernel_rfl)) (fun _ _ _ h => h) (Or.inl ⟨by rfl, ?_⟩) ?_ ?_
  rotate_left
  ·intro w'
   go_simp
   with_reducible rfl
  rotate_left
  ·simp only [Act.put, List.setIfInBounds_toArray, List.set_cons_zero, List.set_cons_succ, i64_w, i32_w]
   rfl
  refine take_ (i := 1) (N := some 9) (v := ?_) (a' := ?_) #[true, true, true, false, false, false, false, true, false, false, false, false] rfl rfl (take_ofW HT_.out HW_.out (by kernel_rfl)) (fun _ _ _ h => h) (Or.inl ⟨by rfl, ?_⟩) hHeld ?_ ?_
  rotate_left
  ·rintro w' ⟨s0, s1, s2⟩
   go_simp
   with_reducible rfl
  rotate_left
  ·simp only [Act.put, List.setIfInBounds_toArray, List.set_cons_zero, List.set_cons_succ, i64_w, i32_w]
   rfl
  refine take_ (i := 3) (N := some 11) (v := ?_) (a' := ?_) #[true, true, true, true, false, false, false, true, false, false, false, false] rfl rfl (take_ofW HT_.out HW_.out (by kernel_rfl)) (fun _ _ _ h => h) (Or.inl ⟨by rfl, ?_⟩) hHeld ?_ ?_
  rotate_left
  ·rintro w' ⟨s0, s1, s2⟩
   go_simp
   with_reducible rfl
  rotate_left
  ·simp only [Act.put, List.setIfInBounds_toArray, List.set_cons_zero, List.set_cons_succ, i64_w, i32_w]
   rfl
  refine pure_ (i := 4) (N := some 12) (v := ?_) (a' := ?_) #[true, true, true, true, true, false, false, true, false, false, false, false] rfl rfl (any_of HT_.out (by kernel_rfl)) (fun _ _ _ h => h) (Or.inl ⟨by rfl, ?_⟩) ?_ ?_
  rotate_left
  ·intro w'
   go_simp
   with_reducible rfl
  rotate_left
  ·simp only [Act.put, List.setIfInBounds_toArray, List.set_cons_zero, List.set_cons_succ, i64_w, i32_w]
   rfl
  refine take_ (i := 8) (N := some 16) (v := ?_) (a' := ?_) #[true, true, true, true, true, false, false, true, true, false, false, false] rfl rfl (take_ofW HT_.out HW_.out (by kernel_rfl)) (fun _ _ _ h => h) (Or.inl ⟨by rfl, ?_⟩) hHeld ?_ ?_
  rotate_left
  ·rintro w' ⟨s0, s1, s2⟩
   go_simp
   with_reducible rfl
  rotate_left
  ·simp only [Act.put, List.setIfInBounds_toArray, List.set_cons_zero, List.set_cons_succ, i64_w, i32_w]
   rfl
  refine one_ (i := 5) (N := some 13) #[true, true, true, true, true, true, false, true, true, false, false, false] rfl rfl (one_of HT_.out (by kernel_rfl)) (by decide) (fun K hK => ?_)
  refine goes_ Tryd.func66 (by kernel_rfl) rfl #[.int .i64 (wrap64 (a0_2 - 1))] (by rfl) rfl rfl xM ?_
  with_reducible refine (prefix_one.calls (wrap64 (a0_2 - 1)) t420 t421 _ A8.out).mono ?_
  rintro e w15 ⟨rfl, hb⟩
  refine ⟨_, rfl, ?_⟩
  have n0_ := xP BK418.out hb
  have n1_ := xP BK419.out hb
  have n2_ := Aside0.mk (below_step xG hb)
  clear BK418
  clear BK419
  clear HB
  have BK418 := n0_
  have BK419 := n1_
  have HB := n2_
  clear n0_ n1_ n2_
  (try clear hb)
  (try clear hb2)
  (try clear hk)
  (try clear hi)
  refine hK.out _ _ ⟨(blk_cell BK418.out 0).trans rfl, (blk_cell BK418.out 1).trans rfl, (blk_cell BK418.out 2).trans rfl⟩ (fun hHeld => ?_)
  clear hK K
  refine norm_ (a' := ?_) ?_ ?_
  rotate_left
  ·show Act.put _ (some 13) _ = _
   simp only [Act.put, List.setIfInBounds_toArray, List.set_cons_zero, List.set_cons_succ, i64_w, i32_w]
   rfl
  refine one_ (i := 6) (N := some 14) #[true, true, true, true, true, true, true, true, true, false, false, false] rfl rfl (one_of HT_.out (by kernel_rfl)) (by decide) (fun K hK => ?_)
  refine goes_ Tryd.func67 (by kernel_rfl) rfl #[.agg #[.int .u64 a0_0, .int .u64 a0_1], .agg #[.int .u64 t420, .int .u64 t421]] (by rfl) rfl rfl xM ?_
  with_reducible refine (word_Xor.calls a0_0 a0_1 t420 t421 t422 t423 _ A9.out).mono ?_
  rintro e w16 ⟨rfl, hb⟩
  refine ⟨_, rfl, ?_⟩
  have n0_ := xP BK418.out hb
  have n1_ := xP BK419.out hb
  have n2_ := Aside0.mk (below_step xG hb)
  clear BK418
  clear BK419
  clear HB
  have BK418 := n0_
  have BK419 := n1_
  have HB := n2_
  clear n0_ n1_ n2_
  (try clear hb)
  (try clear hb2)
  (try clear hk)
  (try clear hi)
  refine hK.out _ _ ⟨(blk_cell BK418.out 0).trans rfl, (blk_cell BK418.out 1).trans rfl, (blk_cell BK418.out 2).trans rfl⟩ (fun hHeld => ?_)
  clear hK K
  refine norm_ (a' := ?_) ?_ ?_
  rotate_left
  ·show Act.put _ (some 14) _ = _
   simp only [Act.put, List.setIfInBounds_toArray, List.set_cons_zero, List.set_cons_succ, i64_w, i32_w]
   rfl
  refine pure_ (i := 9) (N := some 17) (v := ?_) (a' := ?_) #[true, true, true, true, true, true, true, true, true, true, false, false] rfl rfl (any_of HT_.out (by kernel_rfl)) (fun _ _ _ h => h) (Or.inl ⟨by rfl, ?_⟩) ?_ ?_
  rotate_left
  ·intro w'
   go_simp
   with_reducible rfl
  rotate_left
  ·simp only [Act.put, List.setIfInBounds_toArray, List.set_cons_zero, List.set_cons_succ, i64_w, i32_w]
   rfl
  refine one_ (i := 10) (N := none) #[true, true, true, true, true, true, true, true, true, true, true, false] rfl rfl (one_of HT_.out (by kernel_rfl)) (by decide) (fun K hK => ?_)
  have hs17 : w16.cell? ⟨gb419, 0, none⟩ = some (.int .u64 0) := (blk_cell BK419.out 0).trans rfl
  have hfs17 := blk_frozen BK419.out 0
  have hns17_0 := NB418_419.out
  have hms17_0 := NB419_418.out
  have hs18 : w16.cell? ⟨gb419, 1, none⟩ = some (.int .u64 0) := (blk_cell BK419.out 1).trans rfl
  have hfs18 := blk_frozen BK419.out 1
  have hns18_0 := NB418_419.out
  have hms18_0 := NB419_418.out
  have hs19 : w16.cell? ⟨gb419, 2, none⟩ = some (.int .i64 0) := (blk_cell BK419.out 2).trans rfl
  have hfs19 := blk_frozen BK419.out 2
  have hns19_0 := NB418_419.out
  have hms19_0 := NB419_418.out
  refine skip_ (w1 := ?_) (by rfl) rfl ?_ ?_
  rotate_left
  ·go_simp
   rfl
  refine hK.out _ _ ⟨((cell_far (p := ⟨gb419, _, none⟩) NB418_419.out _).trans (((cell_far (p := ⟨gb419, _, none⟩) NB418_419.out _).trans (((cell_far (p := ⟨gb419, _, none⟩) NB418_419.out _).trans (hHeld.1)))))), ((cell_far (p := ⟨gb419, _, none⟩) NB418_419.out _).trans (((cell_far (p := ⟨gb419, _, none⟩) NB418_419.out _).trans (((cell_far (p := ⟨gb419, _, none⟩) NB418_419.out _).trans (hHeld.2.1)))))), ((cell_far (p := ⟨gb419, _, none⟩) NB418_419.out _).trans (((cell_far (p := ⟨gb419, _, none⟩) NB418_419.out _).trans (((cell_far (p := ⟨gb419, _, none⟩) NB418_419.out _).trans (hHeld.2.2))))))⟩ (fun hHeld => ?_)
  clear hK K
  refine pure_ (i := 11) (N := some 3) (v := ?_) (a' := ?_) #[true, true, true, true, true, true, true, true, true, true, true, true] rfl rfl (any_of HT_.out (by kernel_rfl)) (fun _ _ _ h => h) (Or.inl ⟨by rfl, ?_⟩) ?_ ?_
  rotate_left
  ·intro w'
   go_simp
   with_reducible rfl
  rotate_left
  ·simp only [Act.put, List.setIfInBounds_toArray, List.set_cons_zero, List.set_cons_succ, i64_w, i32_w]
   rfl
  refine done_ (done_of HT_.out (by kernel_rfl)) ?_
  try go_wp2
  refine bodyPost_ret (results_ct rfl _ _ gb419 28 #[.int .u64 t422, .int .u64 t423, .int .i64 a0_2] (0, 0) _ rfl (by (with_reducible repeat (first | refine blk_drewN ?_ _ | refine blk_drew ?_ | refine blk_alloc ?_ _)); refine blk_put (cs := #[.int .u64 t422, .int .u64 t423, .int .i64 0]) ?_ 2 _ rfl; (with_reducible repeat (first | refine blk_drewN ?_ _ | refine blk_drew ?_ | refine blk_alloc ?_ _)); refine blk_put (cs := #[.int .u64 t422, .int .u64 0, .int .i64 0]) ?_ 1 _ rfl; (with_reducible repeat (first | refine blk_drewN ?_ _ | refine blk_drew ?_ | refine blk_alloc ?_ _)); refine blk_put (cs := #[.int .u64 0, .int .u64 0, .int .i64 0]) ?_ 0 _ rfl; (with_reducible repeat (first | refine blk_drewN ?_ _ | refine blk_drew ?_ | refine blk_alloc ?_ _)); exact BK419.out) Tryd.underlying28 rfl (by kernel_rfl)) rfl ?_
  exact ⟨xE, xG⟩
end Go.Proofs.YtdjhmapmhajkcaaDoor.X
