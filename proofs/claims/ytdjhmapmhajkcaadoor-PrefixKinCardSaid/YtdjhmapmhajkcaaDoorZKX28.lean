-- Printed by a program of this session (xprint.py, over the kit's printer)
import Derived.Test.YtdjhmapmhajkcaaDoorZKX0
import Derived.Test.YtdjhmapmhajkcaaDoorZKX6
import Derived.Test.YtdjhmapmhajkcaaDoorZKX9
import Derived.Test.YtdjhmapmhajkcaaDoorZKX24
import Derived.Test.YtdjhmapmhajkcaaDoorZKSh
namespace Go.Proofs.YtdjhmapmhajkcaaDoor.X
open Go.RowKit Go.Proofs.YtdjhmapmhajkcaaDoorW.PrintWords Go.Proofs.YtdjhmapmhajkcaaDoorW.PrintLast Go.Proofs.YtdjhmapmhajkcaaDoor.Sm Go.Proofs.YtdjhmapmhajkcaaDoor.Sh
set_option linter.unusedVariables false
set_option linter.unusedSimpArgs false
def turnpikeref3_Parent.f (k : Nat) (a0_0 : Int) (a0_1 : Int) (a0_2 : Int) : Option (Int × Int × Int × Bool) := if a0_2 = 0 then (some (0, 0, 0, false)) else ((turnpikeref3_Cut.f k a0_0 a0_1 (wrap64 (a0_2 - 1))).bind fun bt537 => (some (bt537.1, bt537.2.1, bt537.2.2, true)))
theorem turnpikeref3_Parent.mono : ∀ a0 a1 a2 k, LeO (turnpikeref3_Parent.f k a0 a1 a2) (turnpikeref3_Parent.f (k + 1) a0 a1 a2) := by
  intro a0 a1 a2 k
  unfold turnpikeref3_Parent.f
  have m0 := @turnpikeref3_Cut.mono
  exact xO
set_option maxHeartbeats 8000000 in
set_option maxRecDepth 100000 in
theorem turnpikeref3_Parent.calls (k : Nat) (a0_0 : Int) (a0_1 : Int) (a0_2 : Int) (r1 : Int) (r2 : Int) (r3 : Int) (r4 : Bool) (w : World) (h : turnpikeref3_Parent.f k a0_0 a0_1 a0_2 = some (r1, r2, r3, r4)) :
    Calls Tryd.prog 38 #[.agg #[.int .u64 a0_0, .int .u64 a0_1, .int .i64 a0_2]] w fun e w' => e = .returned (.tuple #[.agg #[.int .u64 r1, .int .u64 r2, .int .i64 r3], .bool r4]) ∧ Below w.heap.size w w' := by
  have hu28 := Tryd.underlying28
  have hu24 := Tryd.underlying24
  have HB := Aside0.mk (Below.refl w.heap.size w)
  have H : (if a0_2 = 0 then (some (0, 0, 0, false)) else ((turnpikeref3_Cut.f k a0_0 a0_1 (wrap64 (a0_2 - 1))).bind fun bt537 => (some (bt537.1, bt537.2.1, bt537.2.2, true)))) = some (r1, r2, r3, r4) := h
  clear h
  by_cases c2 : a0_2 = 0
  · rw [if_pos c2] at H
    have c2b0 : (a0_2 == 0) = true := beq_iff_eq.mpr c2
    have c2b1 : (a0_2 != 0) = false := bne_eq_false_iff_eq.mpr c2
    clear c2
    simp only [Option.some.injEq, Prod.mk.injEq] at H
    obtain ⟨rfl, rfl, rfl, rfl⟩ := H
    go_enter Tryd.func38, Tryd.ntmps38
    go_wp2_with (first | ((with_reducible refine gate_dst (N := 1) rfl ?_); refine box_event ?hg (N := 1) ?hd (cs := #[.int .u64 a0_0, .int .u64 a0_1, .int .i64 a0_2]) (t := 28) ?hr ?_; (case hd => rfl); (case hg => rfl); (case hr => first | (go_simp; done) | (go_simp; rfl)); intro gb535 hg w3 hbox hb; have n0_ := Aside0.mk (below_step xB hb); have n1_ := Aside0.mk (hbox); have n2_ := Aside0.mk ((by rw [hg]; exact (below_size xB) : w.heap.size ≤ gb535)); have n3_ := Aside0.mk ((by rw [hg]; exact (below_size xB) : w.heap.size ≤ gb535)); clear HB; have HB := n0_; have BK535 := n1_; have GW535 := n2_; have GE535 := n3_; clear n0_ n1_ n2_ n3_; clear hb hbox hg) | ((with_reducible refine gate_dst (N := 2) rfl ?_); refine box_event ?hg (N := 2) ?hd (cs := #[.int .u64 0, .int .u64 0, .int .i64 0]) (t := 28) ?hr ?_; (case hd => rfl); (case hg => rfl); (case hr => first | (go_simp; done) | (go_simp; rfl)); intro gb536 hg w4 hbox hb; have n0_ := Aside0.mk (blk_below (g := gb535) (o := .cells #[.int .u64 a0_0, .int .u64 a0_1, .int .i64 a0_2] 28 (0, 0)) (xK BK535.out) hb); have n1_ := Aside0.mk (below_step xG hb); have n2_ := Aside0.mk (hbox); have n3_ := Aside0.mk ((by rw [hg]; exact (below_size xG) : w.heap.size ≤ gb536)); have n4_ := Aside0.mk ((by rw [hg]; exact (below_size xG) : w.heap.size ≤ gb536)); have n5_ := Aside0.mk ((xNl BK535.out hg : gb535 ≠ gb536)); have n6_ := Aside0.mk ((xNr BK535.out hg : gb536 ≠ gb535)); clear BK535; clear HB; have BK535 := n0_; have HB := n1_; have BK536 := n2_; have GW536 := n3_; have GE536 := n4_; have NB535_536 := n5_; have NB536_535 := n6_; clear n0_ n1_ n2_ n3_ n4_ n5_ n6_; clear hb hbox hg; have hnb5 := NB535_536.out; have hnc5 := NB536_535.out; have hcz6_0 : w4.cell? ⟨gb535, 0, none⟩ = some (.int .u64 a0_0) := (blk_cell BK535.out 0).trans rfl; have hcz6_1 : w4.cell? ⟨gb535, 1, none⟩ = some (.int .u64 a0_1) := (blk_cell BK535.out 1).trans rfl; have hcz6_2 : w4.cell? ⟨gb535, 2, none⟩ = some (.int .i64 a0_2) := (blk_cell BK535.out 2).trans rfl; have hfz6_0 := blk_frozen BK535.out 0; have hfz6_1 := blk_frozen BK535.out 1; have hfz6_2 := blk_frozen BK535.out 2; have hcz7_0 : w4.cell? ⟨gb536, 0, none⟩ = some (.int .u64 0) := (blk_cell BK536.out 0).trans rfl; have hcz7_1 : w4.cell? ⟨gb536, 1, none⟩ = some (.int .u64 0) := (blk_cell BK536.out 1).trans rfl; have hcz7_2 : w4.cell? ⟨gb536, 2, none⟩ = some (.int .i64 0) := (blk_cell BK536.out 2).trans rfl; have hfz7_0 := blk_frozen BK536.out 0; have hfz7_1 := blk_frozen BK536.out 1; have hfz7_2 := blk_frozen BK536.out 2))
    refine bodyPost_ret (results_ct rfl _ _ gb536 28 #[.int .u64 0, .int .u64 0, .int .i64 0] (0, 0) _ rfl (by (with_reducible repeat (first | refine blk_drewN ?_ _ | refine blk_drew ?_ | refine blk_alloc ?_ _)); refine blk_put (cs := #[.int .u64 0, .int .u64 0, .int .i64 0]) ?_ 2 _ rfl; (with_reducible repeat (first | refine blk_drewN ?_ _ | refine blk_drew ?_ | refine blk_alloc ?_ _)); refine blk_put (cs := #[.int .u64 0, .int .u64 0, .int .i64 0]) ?_ 1 _ rfl; (with_reducible repeat (first | refine blk_drewN ?_ _ | refine blk_drew ?_ | refine blk_alloc ?_ _)); refine blk_put (cs := #[.int .u64 0, .int .u64 0, .int .i64 0]) ?_ 0 _ rfl; (with_reducible repeat (first | refine blk_drewN ?_ _ | refine blk_drew ?_ | refine blk_alloc ?_ _)); exact BK536.out) Tryd.underlying28 rfl (by kernel_rfl)) rfl ?_
    exact ⟨xE, xG⟩
  · rw [if_neg c2] at H
    have c2b0 : (a0_2 == 0) = false := beq_eq_false_iff_ne.mpr c2
    have c2b1 : (a0_2 != 0) = true := bne_iff_ne.mpr c2
    replace H := Option.bind_eq_some_iff.mp H
    obtain ⟨⟨t537, t538, t539⟩, A80, H⟩ := H
    replace H : (some (t537, t538, t539, true)) = some (r1, r2, r3, r4) := H
    have A8 := Aside0.mk A80
    clear A80
    simp only [Option.some.injEq, Prod.mk.injEq] at H
    obtain ⟨rfl, rfl, rfl, rfl⟩ := H
    go_enter Tryd.func38, Tryd.ntmps38
    go_wp2_with (first | ((with_reducible refine gate_dst (N := 1) rfl ?_); refine box_event ?hg (N := 1) ?hd (cs := #[.int .u64 a0_0, .int .u64 a0_1, .int .i64 a0_2]) (t := 28) ?hr ?_; (case hd => rfl); (case hg => rfl); (case hr => first | (go_simp; done) | (go_simp; rfl)); intro gb535 hg w9 hbox hb; have n0_ := Aside0.mk (below_step xB hb); have n1_ := Aside0.mk (hbox); have n2_ := Aside0.mk ((by rw [hg]; exact (below_size xB) : w.heap.size ≤ gb535)); have n3_ := Aside0.mk ((by rw [hg]; exact (below_size xB) : w.heap.size ≤ gb535)); clear HB; have HB := n0_; have BK535 := n1_; have GW535 := n2_; have GE535 := n3_; clear n0_ n1_ n2_ n3_; clear hb hbox hg) | ((with_reducible refine gate_dst (N := 2) rfl ?_); refine box_event ?hg (N := 2) ?hd (cs := #[.int .u64 0, .int .u64 0, .int .i64 0]) (t := 28) ?hr ?_; (case hd => rfl); (case hg => rfl); (case hr => first | (go_simp; done) | (go_simp; rfl)); intro gb536 hg w10 hbox hb; have n0_ := Aside0.mk (blk_below (g := gb535) (o := .cells #[.int .u64 a0_0, .int .u64 a0_1, .int .i64 a0_2] 28 (0, 0)) (xK BK535.out) hb); have n1_ := Aside0.mk (below_step xG hb); have n2_ := Aside0.mk (hbox); have n3_ := Aside0.mk ((by rw [hg]; exact (below_size xG) : w.heap.size ≤ gb536)); have n4_ := Aside0.mk ((by rw [hg]; exact (below_size xG) : w.heap.size ≤ gb536)); have n5_ := Aside0.mk ((xNl BK535.out hg : gb535 ≠ gb536)); have n6_ := Aside0.mk ((xNr BK535.out hg : gb536 ≠ gb535)); clear BK535; clear HB; have BK535 := n0_; have HB := n1_; have BK536 := n2_; have GW536 := n3_; have GE536 := n4_; have NB535_536 := n5_; have NB536_535 := n6_; clear n0_ n1_ n2_ n3_ n4_ n5_ n6_; clear hb hbox hg; have hnb11 := NB535_536.out; have hnc11 := NB536_535.out; have hcz12_0 : w10.cell? ⟨gb535, 0, none⟩ = some (.int .u64 a0_0) := (blk_cell BK535.out 0).trans rfl; have hcz12_1 : w10.cell? ⟨gb535, 1, none⟩ = some (.int .u64 a0_1) := (blk_cell BK535.out 1).trans rfl; have hcz12_2 : w10.cell? ⟨gb535, 2, none⟩ = some (.int .i64 a0_2) := (blk_cell BK535.out 2).trans rfl; have hfz12_0 := blk_frozen BK535.out 0; have hfz12_1 := blk_frozen BK535.out 1; have hfz12_2 := blk_frozen BK535.out 2) | ((with_reducible refine gate_callee (f := 49) rfl ?_); refine goesL_ (some 13) rfl rfl Tryd.func49 (by kernel_rfl) rfl #[.agg #[.int .u64 a0_0, .int .u64 a0_1], .int .i64 (wrap64 (a0_2 - 1))] rfl xM ?_; (with_reducible refine (turnpikeref3_Cut.calls k a0_0 a0_1 (wrap64 (a0_2 - 1)) t537 t538 t539 _ A8.out).mono ?_); rintro e w13 ⟨rfl, hb⟩; refine ⟨_, rfl, ?_⟩; have n0_ := Aside0.mk (blk_below (g := gb535) (o := .cells #[.int .u64 a0_0, .int .u64 a0_1, .int .i64 a0_2] 28 (0, 0)) (xK BK535.out) hb); have n1_ := Aside0.mk (blk_below (g := gb536) (o := .cells #[.int .u64 0, .int .u64 0, .int .i64 0] 28 (0, 0)) (xK BK536.out) hb); have n2_ := Aside0.mk (below_step xG hb); clear BK535; clear BK536; clear HB; have BK535 := n0_; have BK536 := n1_; have HB := n2_; clear n0_ n1_ n2_; (try clear hb); (try clear hb2); (try clear hk); (try clear hi); have hcz14_0 : w13.cell? ⟨gb536, 0, none⟩ = some (.int .u64 0) := (blk_cell BK536.out 0).trans rfl; have hcz14_1 : w13.cell? ⟨gb536, 1, none⟩ = some (.int .u64 0) := (blk_cell BK536.out 1).trans rfl; have hcz14_2 : w13.cell? ⟨gb536, 2, none⟩ = some (.int .i64 0) := (blk_cell BK536.out 2).trans rfl; have hfz14_0 := blk_frozen BK536.out 0; have hfz14_1 := blk_frozen BK536.out 1; have hfz14_2 := blk_frozen BK536.out 2))
    refine bodyPost_ret (results_ct rfl _ _ gb536 28 #[.int .u64 t537, .int .u64 t538, .int .i64 t539] (0, 0) _ rfl (by (with_reducible repeat (first | refine blk_drewN ?_ _ | refine blk_drew ?_ | refine blk_alloc ?_ _)); refine blk_put (cs := #[.int .u64 t537, .int .u64 t538, .int .i64 0]) ?_ 2 _ rfl; (with_reducible repeat (first | refine blk_drewN ?_ _ | refine blk_drew ?_ | refine blk_alloc ?_ _)); refine blk_put (cs := #[.int .u64 t537, .int .u64 0, .int .i64 0]) ?_ 1 _ rfl; (with_reducible repeat (first | refine blk_drewN ?_ _ | refine blk_drew ?_ | refine blk_alloc ?_ _)); refine blk_put (cs := #[.int .u64 0, .int .u64 0, .int .i64 0]) ?_ 0 _ rfl; (with_reducible repeat (first | refine blk_drewN ?_ _ | refine blk_drew ?_ | refine blk_alloc ?_ _)); exact BK536.out) Tryd.underlying28 rfl (by kernel_rfl)) rfl ?_
    exact ⟨xE, xG⟩
def turnpikeref3_Kids.f (a0 : Int) (a1_0 : Int) (a1_1 : Int) (a1_2 : Int) : Option (Int × Int × Int × Int × Int × Int × Bool) := if a1_2 ≥ a0 then (some (0, 0, 0, 0, 0, 0, false)) else ((turnpikeref1_Put.f a1_0 a1_1 a1_2 1).bind fun bt543 => (some (a1_0, a1_1, wrap64 (a1_2 + 1), bt543.1, bt543.2, wrap64 (a1_2 + 1), true)))
def turnpikeref3_Kids.T3 : Bool × List (List Nat × List Nat) := (true, [([], []), ([0], [0]), ([], []), ([2], [2]), ([3], [3]), ([1, 4], [1, 4]), ([], []), ([6], [6]), ([], []), ([8], [8]), ([7, 9], [7, 9]), ([], []), ([11], [11]), ([12], [12]), ([10, 13], [10, 13]), ([5, 10, 0, 1, 2, 3, 4, 5], [5]), ([14, 15, 0, 1, 2, 3, 4, 5, 6, 7, 8, 9, 10, 11, 12, 13, 14, 15], [14]), ([16, 0, 1, 2, 3, 4, 5, 6, 7, 8, 9, 10, 11, 12, 13, 14, 15, 16], [])])
def turnpikeref3_Kids.B3 : List Nat := [0, 1, 0, 4, 12, 31, 0, 64, 0, 256, 960, 0, 2048, 6144, 16320, 2047, 65535, 131071]
theorem turnpikeref3_Kids.tab3 : rtab .any (opsOf Tryd.f39 3) = turnpikeref3_Kids.T3 := by kernel_rfl
theorem turnpikeref3_Kids.bits3 : waitsOk turnpikeref3_Kids.T3.2 turnpikeref3_Kids.B3 = true := by kernel_rfl
set_option maxHeartbeats 8000000 in
set_option maxRecDepth 100000 in
theorem turnpikeref3_Kids.calls (a0 : Int) (a1_0 : Int) (a1_1 : Int) (a1_2 : Int) (r1 : Int) (r2 : Int) (r3 : Int) (r4 : Int) (r5 : Int) (r6 : Int) (r7 : Bool) (w : World) (h : turnpikeref3_Kids.f a0 a1_0 a1_1 a1_2 = some (r1, r2, r3, r4, r5, r6, r7)) :
    Calls Tryd.prog 39 #[.int .i64 a0, .agg #[.int .u64 a1_0, .int .u64 a1_1, .int .i64 a1_2]] w fun e w' => e = .returned (.tuple #[.agg #[.int .u64 r1, .int .u64 r2, .int .i64 r3], .agg #[.int .u64 r4, .int .u64 r5, .int .i64 r6], .bool r7]) ∧ Below w.heap.size w w' := by
  have hu28 := Tryd.underlying28
  have hu24 := Tryd.underlying24
  have HB := Aside0.mk (Below.refl w.heap.size w)
  have H : (if a1_2 ≥ a0 then (some (0, 0, 0, 0, 0, 0, false)) else ((turnpikeref1_Put.f a1_0 a1_1 a1_2 1).bind fun bt543 => (some (a1_0, a1_1, wrap64 (a1_2 + 1), bt543.1, bt543.2, wrap64 (a1_2 + 1), true)))) = some (r1, r2, r3, r4, r5, r6, r7) := h
  clear h
  by_cases c3 : a1_2 ≥ a0
  · rw [if_pos c3] at H
    have c3b0 : decide (a0 ≤ a1_2) = true := decide_eq_true c3
    clear c3
    simp only [Option.some.injEq, Prod.mk.injEq] at H
    obtain ⟨rfl, rfl, rfl, rfl, rfl, rfl, rfl⟩ := H
    go_enter Tryd.func39, Tryd.ntmps39
    go_wp2_with (first | ((with_reducible refine gate_dst (N := 3) rfl ?_); refine box_event ?hg (N := 3) ?hd (cs := #[.int .u64 a1_0, .int .u64 a1_1, .int .i64 a1_2]) (t := 28) ?hr ?_; (case hd => rfl); (case hg => rfl); (case hr => first | (go_simp; done) | (go_simp; rfl)); intro gb540 hg w4 hbox hb; have n0_ := Aside0.mk (below_step xB hb); have n1_ := Aside0.mk (hbox); have n2_ := Aside0.mk ((by rw [hg]; exact (below_size xB) : w.heap.size ≤ gb540)); have n3_ := Aside0.mk ((by rw [hg]; exact (below_size xB) : w.heap.size ≤ gb540)); clear HB; have HB := n0_; have BK540 := n1_; have GW540 := n2_; have GE540 := n3_; clear n0_ n1_ n2_ n3_; clear hb hbox hg) | ((with_reducible refine gate_dst (N := 4) rfl ?_); refine box_event ?hg (N := 4) ?hd (cs := #[.int .u64 0, .int .u64 0, .int .i64 0]) (t := 28) ?hr ?_; (case hd => rfl); (case hg => rfl); (case hr => first | (go_simp; done) | (go_simp; rfl)); intro gb541 hg w5 hbox hb; have n0_ := Aside0.mk (blk_below (g := gb540) (o := .cells #[.int .u64 a1_0, .int .u64 a1_1, .int .i64 a1_2] 28 (0, 0)) (xK BK540.out) hb); have n1_ := Aside0.mk (below_step xG hb); have n2_ := Aside0.mk (hbox); have n3_ := Aside0.mk ((by rw [hg]; exact (below_size xG) : w.heap.size ≤ gb541)); have n4_ := Aside0.mk ((by rw [hg]; exact (below_size xG) : w.heap.size ≤ gb541)); have n5_ := Aside0.mk ((xNl BK540.out hg : gb540 ≠ gb541)); have n6_ := Aside0.mk ((xNr BK540.out hg : gb541 ≠ gb540)); clear BK540; clear HB; have BK540 := n0_; have HB := n1_; have BK541 := n2_; have GW541 := n3_; have GE541 := n4_; have NB540_541 := n5_; have NB541_540 := n6_; clear n0_ n1_ n2_ n3_ n4_ n5_ n6_; clear hb hbox hg) | ((with_reducible refine gate_dst (N := 5) rfl ?_); refine box_event ?hg (N := 5) ?hd (cs := #[.int .u64 0, .int .u64 0, .int .i64 0]) (t := 28) ?hr ?_; (case hd => rfl); (case hg => rfl); (case hr => first | (go_simp; done) | (go_simp; rfl)); intro gb542 hg w6 hbox hb; have n0_ := Aside0.mk (blk_below (g := gb540) (o := .cells #[.int .u64 a1_0, .int .u64 a1_1, .int .i64 a1_2] 28 (0, 0)) (xK BK540.out) hb); have n1_ := Aside0.mk (blk_below (g := gb541) (o := .cells #[.int .u64 0, .int .u64 0, .int .i64 0] 28 (0, 0)) (xK BK541.out) hb); have n2_ := Aside0.mk (below_step xG hb); have n3_ := Aside0.mk (hbox); have n4_ := Aside0.mk ((by rw [hg]; exact (below_size xG) : w.heap.size ≤ gb542)); have n5_ := Aside0.mk ((by rw [hg]; exact (below_size xG) : w.heap.size ≤ gb542)); have n6_ := Aside0.mk ((xNl BK540.out hg : gb540 ≠ gb542)); have n7_ := Aside0.mk ((xNr BK540.out hg : gb542 ≠ gb540)); have n8_ := Aside0.mk ((xNl BK541.out hg : gb541 ≠ gb542)); have n9_ := Aside0.mk ((xNr BK541.out hg : gb542 ≠ gb541)); clear BK540; clear BK541; clear HB; have BK540 := n0_; have BK541 := n1_; have HB := n2_; have BK542 := n3_; have GW542 := n4_; have GE542 := n5_; have NB540_542 := n6_; have NB542_540 := n7_; have NB541_542 := n8_; have NB542_541 := n9_; clear n0_ n1_ n2_ n3_ n4_ n5_ n6_ n7_ n8_ n9_; clear hb hbox hg; have hnb7 := NB540_541.out; have hnc7 := NB541_540.out; have hnb8 := NB540_542.out; have hnc8 := NB542_540.out; have hcz9_0 : w6.cell? ⟨gb540, 0, none⟩ = some (.int .u64 a1_0) := (blk_cell BK540.out 0).trans rfl; have hcz9_1 : w6.cell? ⟨gb540, 1, none⟩ = some (.int .u64 a1_1) := (blk_cell BK540.out 1).trans rfl; have hcz9_2 : w6.cell? ⟨gb540, 2, none⟩ = some (.int .i64 a1_2) := (blk_cell BK540.out 2).trans rfl; have hfz9_0 := blk_frozen BK540.out 0; have hfz9_1 := blk_frozen BK540.out 1; have hfz9_2 := blk_frozen BK540.out 2; have hnb10 := NB541_542.out; have hnc10 := NB542_541.out; have hcz11_0 : w6.cell? ⟨gb541, 0, none⟩ = some (.int .u64 0) := (blk_cell BK541.out 0).trans rfl; have hcz11_1 : w6.cell? ⟨gb541, 1, none⟩ = some (.int .u64 0) := (blk_cell BK541.out 1).trans rfl; have hcz11_2 : w6.cell? ⟨gb541, 2, none⟩ = some (.int .i64 0) := (blk_cell BK541.out 2).trans rfl; have hfz11_0 := blk_frozen BK541.out 0; have hfz11_1 := blk_frozen BK541.out 1; have hfz11_2 := blk_frozen BK541.out 2; have hcz12_0 : w6.cell? ⟨gb542, 0, none⟩ = some (.int .u64 0) := (blk_cell BK542.out 0).trans rfl; have hcz12_1 : w6.cell? ⟨gb542, 1, none⟩ = some (.int .u64 0) := (blk_cell BK542.out 1).trans rfl; have hcz12_2 : w6.cell? ⟨gb542, 2, none⟩ = some (.int .i64 0) := (blk_cell BK542.out 2).trans rfl; have hfz12_0 := blk_frozen BK542.out 0; have hfz12_1 := blk_frozen BK542.out 1; have hfz12_2 := blk_frozen BK542.out 2))
    refine bodyPost_ret (results_list (rs := [.cell 4 28, .cell 5 28, .tmp 6]) rfl (by simp) (.cell gb541 28 #[.int .u64 0, .int .u64 0, .int .i64 0] (0, 0) _ rfl (by (with_reducible repeat (first | refine blk_drewN ?_ _ | refine blk_drew ?_ | refine blk_alloc ?_ _)); refine blk_far ?_ NB541_542.out _; (with_reducible repeat (first | refine blk_drewN ?_ _ | refine blk_drew ?_ | refine blk_alloc ?_ _)); refine blk_far ?_ NB541_542.out _; (with_reducible repeat (first | refine blk_drewN ?_ _ | refine blk_drew ?_ | refine blk_alloc ?_ _)); refine blk_far ?_ NB541_542.out _; (with_reducible repeat (first | refine blk_drewN ?_ _ | refine blk_drew ?_ | refine blk_alloc ?_ _)); refine blk_put (cs := #[.int .u64 0, .int .u64 0, .int .i64 0]) ?_ 2 _ rfl; (with_reducible repeat (first | refine blk_drewN ?_ _ | refine blk_drew ?_ | refine blk_alloc ?_ _)); refine blk_put (cs := #[.int .u64 0, .int .u64 0, .int .i64 0]) ?_ 1 _ rfl; (with_reducible repeat (first | refine blk_drewN ?_ _ | refine blk_drew ?_ | refine blk_alloc ?_ _)); refine blk_put (cs := #[.int .u64 0, .int .u64 0, .int .i64 0]) ?_ 0 _ rfl; (with_reducible repeat (first | refine blk_drewN ?_ _ | refine blk_drew ?_ | refine blk_alloc ?_ _)); exact BK541.out) Tryd.underlying28 rfl (by kernel_rfl) (.cell gb542 28 #[.int .u64 0, .int .u64 0, .int .i64 0] (0, 0) _ rfl (by (with_reducible repeat (first | refine blk_drewN ?_ _ | refine blk_drew ?_ | refine blk_alloc ?_ _)); refine blk_put (cs := #[.int .u64 0, .int .u64 0, .int .i64 0]) ?_ 2 _ rfl; (with_reducible repeat (first | refine blk_drewN ?_ _ | refine blk_drew ?_ | refine blk_alloc ?_ _)); refine blk_put (cs := #[.int .u64 0, .int .u64 0, .int .i64 0]) ?_ 1 _ rfl; (with_reducible repeat (first | refine blk_drewN ?_ _ | refine blk_drew ?_ | refine blk_alloc ?_ _)); refine blk_put (cs := #[.int .u64 0, .int .u64 0, .int .i64 0]) ?_ 0 _ rfl; (with_reducible repeat (first | refine blk_drewN ?_ _ | refine blk_drew ?_ | refine blk_alloc ?_ _)); refine blk_far ?_ NB542_541.out _; (with_reducible repeat (first | refine blk_drewN ?_ _ | refine blk_drew ?_ | refine blk_alloc ?_ _)); refine blk_far ?_ NB542_541.out _; (with_reducible repeat (first | refine blk_drewN ?_ _ | refine blk_drew ?_ | refine blk_alloc ?_ _)); refine blk_far ?_ NB542_541.out _; (with_reducible repeat (first | refine blk_drewN ?_ _ | refine blk_drew ?_ | refine blk_alloc ?_ _)); exact BK542.out) Tryd.underlying28 rfl (by kernel_rfl) (.tmp .nil)))) rfl ?_
    exact ⟨xE, xG⟩
  · rw [if_neg c3] at H
    have c3b0 : decide (a0 ≤ a1_2) = false := decide_eq_false c3
    clear c3
    replace H := Option.bind_eq_some_iff.mp H
    obtain ⟨⟨t543, t544⟩, A130, H⟩ := H
    replace H : (some (a1_0, a1_1, wrap64 (a1_2 + 1), t543, t544, wrap64 (a1_2 + 1), true)) = some (r1, r2, r3, r4, r5, r6, r7) := H
    have A13 := Aside0.mk A130
    clear A130
    simp only [Option.some.injEq, Prod.mk.injEq] at H
    obtain ⟨rfl, rfl, rfl, rfl, rfl, rfl, rfl⟩ := H
    go_enter Tryd.func39, Tryd.ntmps39
    try go_wp2_with (first | ((with_reducible refine gate_dst (N := 3) rfl ?_); refine box_event ?hg (N := 3) ?hd (cs := #[.int .u64 a1_0, .int .u64 a1_1, .int .i64 a1_2]) (t := 28) ?hr ?_; (case hd => rfl); (case hg => rfl); (case hr => first | (go_simp; done) | (go_simp; rfl)); intro gb540 hg w14 hbox hb; have n0_ := Aside0.mk (below_step xB hb); have n1_ := Aside0.mk (hbox); have n2_ := Aside0.mk ((by rw [hg]; exact (below_size xB) : w.heap.size ≤ gb540)); have n3_ := Aside0.mk ((by rw [hg]; exact (below_size xB) : w.heap.size ≤ gb540)); clear HB; have HB := n0_; have BK540 := n1_; have GW540 := n2_; have GE540 := n3_; clear n0_ n1_ n2_ n3_; clear hb hbox hg) | ((with_reducible refine gate_dst (N := 4) rfl ?_); refine box_event ?hg (N := 4) ?hd (cs := #[.int .u64 0, .int .u64 0, .int .i64 0]) (t := 28) ?hr ?_; (case hd => rfl); (case hg => rfl); (case hr => first | (go_simp; done) | (go_simp; rfl)); intro gb541 hg w15 hbox hb; have n0_ := Aside0.mk (blk_below (g := gb540) (o := .cells #[.int .u64 a1_0, .int .u64 a1_1, .int .i64 a1_2] 28 (0, 0)) (xK BK540.out) hb); have n1_ := Aside0.mk (below_step xG hb); have n2_ := Aside0.mk (hbox); have n3_ := Aside0.mk ((by rw [hg]; exact (below_size xG) : w.heap.size ≤ gb541)); have n4_ := Aside0.mk ((by rw [hg]; exact (below_size xG) : w.heap.size ≤ gb541)); have n5_ := Aside0.mk ((xNl BK540.out hg : gb540 ≠ gb541)); have n6_ := Aside0.mk ((xNr BK540.out hg : gb541 ≠ gb540)); clear BK540; clear HB; have BK540 := n0_; have HB := n1_; have BK541 := n2_; have GW541 := n3_; have GE541 := n4_; have NB540_541 := n5_; have NB541_540 := n6_; clear n0_ n1_ n2_ n3_ n4_ n5_ n6_; clear hb hbox hg) | ((with_reducible refine gate_dst (N := 5) rfl ?_); refine box_event ?hg (N := 5) ?hd (cs := #[.int .u64 0, .int .u64 0, .int .i64 0]) (t := 28) ?hr ?_; (case hd => rfl); (case hg => rfl); (case hr => first | (go_simp; done) | (go_simp; rfl)); intro gb542 hg w16 hbox hb; have n0_ := Aside0.mk (blk_below (g := gb540) (o := .cells #[.int .u64 a1_0, .int .u64 a1_1, .int .i64 a1_2] 28 (0, 0)) (xK BK540.out) hb); have n1_ := Aside0.mk (blk_below (g := gb541) (o := .cells #[.int .u64 0, .int .u64 0, .int .i64 0] 28 (0, 0)) (xK BK541.out) hb); have n2_ := Aside0.mk (below_step xG hb); have n3_ := Aside0.mk (hbox); have n4_ := Aside0.mk ((by rw [hg]; exact (below_size xG) : w.heap.size ≤ gb542)); have n5_ := Aside0.mk ((by rw [hg]; exact (below_size xG) : w.heap.size ≤ gb542)); have n6_ := Aside0.mk ((xNl BK540.out hg : gb540 ≠ gb542)); have n7_ := Aside0.mk ((xNr BK540.out hg : gb542 ≠ gb540)); have n8_ := Aside0.mk ((xNl BK541.out hg : gb541 ≠ gb542)); have n9_ := Aside0.mk ((xNr BK541.out hg : gb542 ≠ gb541)); clear BK540; clear BK541; clear HB; have BK540 := n0_; have BK541 := n1_; have HB := n2_; have BK542 := n3_; have GW542 := n4_; have GE542 := n5_; have NB540_542 := n6_; have NB542_540 := n7_; have NB541_542 := n8_; have NB542_541 := n9_; clear n0_ n1_ n2_ n3_ n4_ n5_ n6_ n7_ n8_ n9_; clear hb hbox hg; have hnb17 := NB540_541.out; have hnc17 := NB541_540.out; have hnb18 := NB540_542.out; have hnc18 := NB542_540.out; have hcz19_0 : w16.cell? ⟨gb540, 0, none⟩ = some (.int .u64 a1_0) := (blk_cell BK540.out 0).trans rfl; have hcz19_1 : w16.cell? ⟨gb540, 1, none⟩ = some (.int .u64 a1_1) := (blk_cell BK540.out 1).trans rfl; have hcz19_2 : w16.cell? ⟨gb540, 2, none⟩ = some (.int .i64 a1_2) := (blk_cell BK540.out 2).trans rfl; have hfz19_0 := blk_frozen BK540.out 0; have hfz19_1 := blk_frozen BK540.out 1; have hfz19_2 := blk_frozen BK540.out 2))
    have n0_ := Aside0.mk (blk_drew BK540.out)
    have n1_ := Aside0.mk (blk_drew BK541.out)
    have n2_ := Aside0.mk (blk_drew BK542.out)
    have n3_ := Aside0.mk (below_drew1 HB.out)
    clear BK540
    clear BK541
    clear BK542
    clear HB
    have BK540 := n0_
    have BK541 := n1_
    have BK542 := n2_
    have HB := n3_
    clear n0_ n1_ n2_ n3_
    refine start_ (n := 18) (S := fun w' => w'.cell? ⟨gb540, 0, none⟩ = some (.int .u64 a1_0) ∧ w'.cell? ⟨gb540, 1, none⟩ = some (.int .u64 a1_1) ∧ w'.cell? ⟨gb540, 2, none⟩ = some (.int .i64 a1_2)) (ds := []) #[false, false, false, false, false, false, false, false, false, false, false, false, false, false, false, false, false, false] (by kernel_rfl) rfl rfl ⟨(blk_cell BK540.out 0).trans rfl, (blk_cell BK540.out 1).trans rfl, (blk_cell BK540.out 2).trans rfl⟩ (fun hHeld => ?_); refine with_tabW turnpikeref3_Kids.tab3 turnpikeref3_Kids.bits3 (fun HT_ HW_ => ?_)
    generalize w16.drew = w20 at BK540 BK541 BK542 HB hHeld ⊢
    refine pure_ (i := 0) (N := some 13) (v := ?_) (a' := ?_) #[true, false, false, false, false, false, false, false, false, false, false, false, false, false, false, false, false, false] rfl rfl (any_of HT_.out (by kernel_rfl)) (fun _ _ _ h => h) (Or.inl ⟨by rfl, ?_⟩) ?_ ?_
    rotate_left
    · intro w'
      go_simp
      with_reducible rfl
    rotate_left
    · simp only [Act.put, List.setIfInBounds_toArray, List.set_cons_zero, List.set_cons_succ, i64_w, i32_w]
      rfl
    refine pure_ (i := 2) (N := some 15) (v := ?_) (a' := ?_) #[true, false, true, false, false, false, false, false, false, false, false, false, false, false, false, false, false, false] rfl rfl (any_of HT_.out (by kernel_rfl)) (fun _ _ _ h => h) (Or.inl ⟨by rfl, ?_⟩) ?_ ?_
    rotate_left
    · intro w'
      go_simp
      with_reducible rfl
    rotate_left
    · simp only [Act.put, List.setIfInBounds_toArray, List.set_cons_zero, List.set_cons_succ, i64_w, i32_w]
      rfl
    refine pure_ (i := 6) (N := some 19) (v := ?_) (a' := ?_) #[true, false, true, false, false, false, true, false, false, false, false, false, false, false, false, false, false, false] rfl rfl (any_of HT_.out (by kernel_rfl)) (fun _ _ _ h => h) (Or.inl ⟨by rfl, ?_⟩) ?_ ?_
    rotate_left
    · intro w'
      go_simp
      with_reducible rfl
    rotate_left
    · simp only [Act.put, List.setIfInBounds_toArray, List.set_cons_zero, List.set_cons_succ, i64_w, i32_w]
      rfl
    refine pure_ (i := 8) (N := some 21) (v := ?_) (a' := ?_) #[true, false, true, false, false, false, true, false, true, false, false, false, false, false, false, false, false, false] rfl rfl (any_of HT_.out (by kernel_rfl)) (fun _ _ _ h => h) (Or.inl ⟨by rfl, ?_⟩) ?_ ?_
    rotate_left
    · intro w'
      go_simp
      with_reducible rfl
    rotate_left
    · simp only [Act.put, List.setIfInBounds_toArray, List.set_cons_zero, List.set_cons_succ, i64_w, i32_w]
      rfl
    refine pure_ (i := 11) (N := some 24) (v := ?_) (a' := ?_) #[true, false, true, false, false, false, true, false, true, false, false, true, false, false, false, false, false, false] rfl rfl (any_of HT_.out (by kernel_rfl)) (fun _ _ _ h => h) (Or.inl ⟨by rfl, ?_⟩) ?_ ?_
    rotate_left
    · intro w'
      go_simp
      with_reducible rfl
    rotate_left
    · simp only [Act.put, List.setIfInBounds_toArray, List.set_cons_zero, List.set_cons_succ, i64_w, i32_w]
      rfl
    refine take_ (i := 1) (N := some 14) (v := ?_) (a' := ?_) #[true, true, true, false, false, false, true, false, true, false, false, true, false, false, false, false, false, false] rfl rfl (take_ofW HT_.out HW_.out (by kernel_rfl)) (fun _ _ _ h => h) (Or.inl ⟨by rfl, ?_⟩) hHeld ?_ ?_
    rotate_left
    · rintro w' ⟨s0, s1, s2⟩
      go_simp
      with_reducible rfl
    rotate_left
    · simp only [Act.put, List.setIfInBounds_toArray, List.set_cons_zero, List.set_cons_succ, i64_w, i32_w]
      rfl
    refine take_ (i := 3) (N := some 16) (v := ?_) (a' := ?_) #[true, true, true, true, false, false, true, false, true, false, false, true, false, false, false, false, false, false] rfl rfl (take_ofW HT_.out HW_.out (by kernel_rfl)) (fun _ _ _ h => h) (Or.inl ⟨by rfl, ?_⟩) hHeld ?_ ?_
    rotate_left
    · rintro w' ⟨s0, s1, s2⟩
      go_simp
      with_reducible rfl
    rotate_left
    · simp only [Act.put, List.setIfInBounds_toArray, List.set_cons_zero, List.set_cons_succ, i64_w, i32_w]
      rfl
    refine pure_ (i := 4) (N := some 17) (v := ?_) (a' := ?_) #[true, true, true, true, true, false, true, false, true, false, false, true, false, false, false, false, false, false] rfl rfl (any_of HT_.out (by kernel_rfl)) (fun _ _ _ h => h) (Or.inl ⟨by rfl, ?_⟩) ?_ ?_
    rotate_left
    · intro w'
      go_simp
      with_reducible rfl
    rotate_left
    · simp only [Act.put, List.setIfInBounds_toArray, List.set_cons_zero, List.set_cons_succ, i64_w, i32_w]
      rfl
    refine pure_ (i := 5) (N := some 18) (v := ?_) (a' := ?_) #[true, true, true, true, true, true, true, false, true, false, false, true, false, false, false, false, false, false] rfl rfl (any_of HT_.out (by kernel_rfl)) (fun _ _ _ h => h) (Or.inl ⟨by rfl, ?_⟩) ?_ ?_
    rotate_left
    · intro w'
      go_simp
      with_reducible rfl
    rotate_left
    · simp only [Act.put, List.setIfInBounds_toArray, List.set_cons_zero, List.set_cons_succ, i64_w, i32_w]
      rfl
    refine take_ (i := 7) (N := some 20) (v := ?_) (a' := ?_) #[true, true, true, true, true, true, true, true, true, false, false, true, false, false, false, false, false, false] rfl rfl (take_ofW HT_.out HW_.out (by kernel_rfl)) (fun _ _ _ h => h) (Or.inl ⟨by rfl, ?_⟩) hHeld ?_ ?_
    rotate_left
    · rintro w' ⟨s0, s1, s2⟩
      go_simp
      with_reducible rfl
    rotate_left
    · simp only [Act.put, List.setIfInBounds_toArray, List.set_cons_zero, List.set_cons_succ, i64_w, i32_w]
      rfl
    refine take_ (i := 9) (N := some 22) (v := ?_) (a' := ?_) #[true, true, true, true, true, true, true, true, true, true, false, true, false, false, false, false, false, false] rfl rfl (take_ofW HT_.out HW_.out (by kernel_rfl)) (fun _ _ _ h => h) (Or.inl ⟨by rfl, ?_⟩) hHeld ?_ ?_
    rotate_left
    · rintro w' ⟨s0, s1, s2⟩
      go_simp
      with_reducible rfl
    rotate_left
    · simp only [Act.put, List.setIfInBounds_toArray, List.set_cons_zero, List.set_cons_succ, i64_w, i32_w]
      rfl
    refine take_ (i := 12) (N := some 25) (v := ?_) (a' := ?_) #[true, true, true, true, true, true, true, true, true, true, false, true, true, false, false, false, false, false] rfl rfl (take_ofW HT_.out HW_.out (by kernel_rfl)) (fun _ _ _ h => h) (Or.inl ⟨by rfl, ?_⟩) hHeld ?_ ?_
    rotate_left
    · rintro w' ⟨s0, s1, s2⟩
      go_simp
      with_reducible rfl
    rotate_left
    · simp only [Act.put, List.setIfInBounds_toArray, List.set_cons_zero, List.set_cons_succ, i64_w, i32_w]
      rfl
    refine pure_ (i := 13) (N := some 26) (v := ?_) (a' := ?_) #[true, true, true, true, true, true, true, true, true, true, false, true, true, true, false, false, false, false] rfl rfl (any_of HT_.out (by kernel_rfl)) (fun _ _ _ h => h) (Or.inl ⟨by rfl, ?_⟩) ?_ ?_
    rotate_left
    · intro w'
      go_simp
      with_reducible rfl
    rotate_left
    · simp only [Act.put, List.setIfInBounds_toArray, List.set_cons_zero, List.set_cons_succ, i64_w, i32_w]
      rfl
    refine one_ (i := 10) (N := some 23) #[true, true, true, true, true, true, true, true, true, true, true, true, true, true, false, false, false, false] rfl rfl (one_of HT_.out (by kernel_rfl)) (by decide) (fun K hK => ?_)
    refine goes_ Tryd.func31 (by kernel_rfl) rfl #[.agg #[.int .u64 a1_0, .int .u64 a1_1], .int .i64 a1_2, .int .i64 1] (by rfl) rfl rfl xM ?_
    with_reducible refine (turnpikeref1_Put.calls a1_0 a1_1 a1_2 1 t543 t544 _ A13.out).mono ?_
    rintro e w21 ⟨rfl, hb⟩
    refine ⟨_, rfl, ?_⟩
    have n0_ := Aside0.mk (blk_below (g := gb540) (o := .cells #[.int .u64 a1_0, .int .u64 a1_1, .int .i64 a1_2] 28 (0, 0)) (xK BK540.out) hb)
    have n1_ := Aside0.mk (blk_below (g := gb541) (o := .cells #[.int .u64 0, .int .u64 0, .int .i64 0] 28 (0, 0)) (xK BK541.out) hb)
    have n2_ := Aside0.mk (blk_below (g := gb542) (o := .cells #[.int .u64 0, .int .u64 0, .int .i64 0] 28 (0, 0)) (xK BK542.out) hb)
    have n3_ := Aside0.mk (below_step xG hb)
    clear BK540
    clear BK541
    clear BK542
    clear HB
    have BK540 := n0_
    have BK541 := n1_
    have BK542 := n2_
    have HB := n3_
    clear n0_ n1_ n2_ n3_
    (try clear hb)
    (try clear hb2)
    (try clear hk)
    (try clear hi)
    refine hK.out _ _ ⟨(blk_cell BK540.out 0).trans rfl, (blk_cell BK540.out 1).trans rfl, (blk_cell BK540.out 2).trans rfl⟩ (fun hHeld => ?_)
    clear hK K
    refine norm_ (a' := ?_) ?_ ?_
    rotate_left
    · show Act.put _ (some 23) _ = _
      simp only [Act.put, List.setIfInBounds_toArray, List.set_cons_zero, List.set_cons_succ, i64_w, i32_w]
      rfl
    refine pure_ (i := 14) (N := some 27) (v := ?_) (a' := ?_) #[true, true, true, true, true, true, true, true, true, true, true, true, true, true, true, false, false, false] rfl rfl (any_of HT_.out (by kernel_rfl)) (fun _ _ _ h => h) (Or.inl ⟨by rfl, ?_⟩) ?_ ?_
    rotate_left
    · intro w'
      go_simp
      with_reducible rfl
    rotate_left
    · simp only [Act.put, List.setIfInBounds_toArray, List.set_cons_zero, List.set_cons_succ, i64_w, i32_w]
      rfl
    refine one_ (i := 15) (N := none) #[true, true, true, true, true, true, true, true, true, true, true, true, true, true, true, true, false, false] rfl rfl (one_of HT_.out (by kernel_rfl)) (by decide) (fun K hK => ?_)
    have hs22 : w21.cell? ⟨gb541, 0, none⟩ = some (.int .u64 0) := (blk_cell BK541.out 0).trans rfl
    have hfs22 := blk_frozen BK541.out 0
    have hns22_0 := NB540_541.out
    have hns22_2 := NB542_541.out
    have hms22_0 := NB541_540.out
    have hms22_2 := NB541_542.out
    have hs23 : w21.cell? ⟨gb541, 1, none⟩ = some (.int .u64 0) := (blk_cell BK541.out 1).trans rfl
    have hfs23 := blk_frozen BK541.out 1
    have hns23_0 := NB540_541.out
    have hns23_2 := NB542_541.out
    have hms23_0 := NB541_540.out
    have hms23_2 := NB541_542.out
    have hs24 : w21.cell? ⟨gb541, 2, none⟩ = some (.int .i64 0) := (blk_cell BK541.out 2).trans rfl
    have hfs24 := blk_frozen BK541.out 2
    have hns24_0 := NB540_541.out
    have hns24_2 := NB542_541.out
    have hms24_0 := NB541_540.out
    have hms24_2 := NB541_542.out
    refine skip_ (w1 := ?_) (by rfl) rfl ?_ ?_
    rotate_left
    · go_simp
      rfl
    refine hK.out _ _ ⟨((cell_far (p := ⟨gb541, _, none⟩) NB540_541.out _).trans (((cell_far (p := ⟨gb541, _, none⟩) NB540_541.out _).trans (((cell_far (p := ⟨gb541, _, none⟩) NB540_541.out _).trans (hHeld.1)))))), ((cell_far (p := ⟨gb541, _, none⟩) NB540_541.out _).trans (((cell_far (p := ⟨gb541, _, none⟩) NB540_541.out _).trans (((cell_far (p := ⟨gb541, _, none⟩) NB540_541.out _).trans (hHeld.2.1)))))), ((cell_far (p := ⟨gb541, _, none⟩) NB540_541.out _).trans (((cell_far (p := ⟨gb541, _, none⟩) NB540_541.out _).trans (((cell_far (p := ⟨gb541, _, none⟩) NB540_541.out _).trans (hHeld.2.2))))))⟩ (fun hHeld => ?_)
    clear hK K
    refine one_ (i := 16) (N := none) #[true, true, true, true, true, true, true, true, true, true, true, true, true, true, true, true, true, false] rfl rfl (one_of HT_.out (by kernel_rfl)) (by decide) (fun K hK => ?_)
    have hs25 : w21.cell? ⟨gb542, 0, none⟩ = some (.int .u64 0) := (blk_cell BK542.out 0).trans rfl
    have hfs25 := blk_frozen BK542.out 0
    have hns25_0 := NB540_542.out
    have hns25_1 := NB541_542.out
    have hms25_0 := NB542_540.out
    have hms25_1 := NB542_541.out
    have hs26 : w21.cell? ⟨gb542, 1, none⟩ = some (.int .u64 0) := (blk_cell BK542.out 1).trans rfl
    have hfs26 := blk_frozen BK542.out 1
    have hns26_0 := NB540_542.out
    have hns26_1 := NB541_542.out
    have hms26_0 := NB542_540.out
    have hms26_1 := NB542_541.out
    have hs27 : w21.cell? ⟨gb542, 2, none⟩ = some (.int .i64 0) := (blk_cell BK542.out 2).trans rfl
    have hfs27 := blk_frozen BK542.out 2
    have hns27_0 := NB540_542.out
    have hns27_1 := NB541_542.out
    have hms27_0 := NB542_540.out
    have hms27_1 := NB542_541.out
    refine skip_ (w1 := ?_) (by rfl) rfl ?_ ?_
    rotate_left
    · go_simp
      rfl
    refine hK.out _ _ ⟨((cell_far (p := ⟨gb542, _, none⟩) NB540_542.out _).trans (((cell_far (p := ⟨gb542, _, none⟩) NB540_542.out _).trans (((cell_far (p := ⟨gb542, _, none⟩) NB540_542.out _).trans (hHeld.1)))))), ((cell_far (p := ⟨gb542, _, none⟩) NB540_542.out _).trans (((cell_far (p := ⟨gb542, _, none⟩) NB540_542.out _).trans (((cell_far (p := ⟨gb542, _, none⟩) NB540_542.out _).trans (hHeld.2.1)))))), ((cell_far (p := ⟨gb542, _, none⟩) NB540_542.out _).trans (((cell_far (p := ⟨gb542, _, none⟩) NB540_542.out _).trans (((cell_far (p := ⟨gb542, _, none⟩) NB540_542.out _).trans (hHeld.2.2))))))⟩ (fun hHeld => ?_)
    clear hK K
    refine pure_ (i := 17) (N := some 6) (v := ?_) (a' := ?_) #[true, true, true, true, true, true, true, true, true, true, true, true, true, true, true, true, true, true] rfl rfl (any_of HT_.out (by kernel_rfl)) (fun _ _ _ h => h) (Or.inl ⟨by rfl, ?_⟩) ?_ ?_
    rotate_left
    · intro w'
      go_simp
      with_reducible rfl
    rotate_left
    · simp only [Act.put, List.setIfInBounds_toArray, List.set_cons_zero, List.set_cons_succ, i64_w, i32_w]
      rfl
    refine done_ (done_of HT_.out (by kernel_rfl)) ?_
    try go_wp2
    refine bodyPost_ret (results_list (rs := [.cell 4 28, .cell 5 28, .tmp 6]) rfl (by simp) (.cell gb541 28 #[.int .u64 a1_0, .int .u64 a1_1, .int .i64 (wrap64 (a1_2 + 1))] (0, 0) _ rfl (by (with_reducible repeat (first | refine blk_drewN ?_ _ | refine blk_drew ?_ | refine blk_alloc ?_ _)); refine blk_far ?_ NB541_542.out _; (with_reducible repeat (first | refine blk_drewN ?_ _ | refine blk_drew ?_ | refine blk_alloc ?_ _)); refine blk_far ?_ NB541_542.out _; (with_reducible repeat (first | refine blk_drewN ?_ _ | refine blk_drew ?_ | refine blk_alloc ?_ _)); refine blk_far ?_ NB541_542.out _; (with_reducible repeat (first | refine blk_drewN ?_ _ | refine blk_drew ?_ | refine blk_alloc ?_ _)); refine blk_put (cs := #[.int .u64 a1_0, .int .u64 a1_1, .int .i64 0]) ?_ 2 _ rfl; (with_reducible repeat (first | refine blk_drewN ?_ _ | refine blk_drew ?_ | refine blk_alloc ?_ _)); refine blk_put (cs := #[.int .u64 a1_0, .int .u64 0, .int .i64 0]) ?_ 1 _ rfl; (with_reducible repeat (first | refine blk_drewN ?_ _ | refine blk_drew ?_ | refine blk_alloc ?_ _)); refine blk_put (cs := #[.int .u64 0, .int .u64 0, .int .i64 0]) ?_ 0 _ rfl; (with_reducible repeat (first | refine blk_drewN ?_ _ | refine blk_drew ?_ | refine blk_alloc ?_ _)); exact BK541.out) Tryd.underlying28 rfl (by kernel_rfl) (.cell gb542 28 #[.int .u64 t543, .int .u64 t544, .int .i64 (wrap64 (a1_2 + 1))] (0, 0) _ rfl (by (with_reducible repeat (first | refine blk_drewN ?_ _ | refine blk_drew ?_ | refine blk_alloc ?_ _)); refine blk_put (cs := #[.int .u64 t543, .int .u64 t544, .int .i64 0]) ?_ 2 _ rfl; (with_reducible repeat (first | refine blk_drewN ?_ _ | refine blk_drew ?_ | refine blk_alloc ?_ _)); refine blk_put (cs := #[.int .u64 t543, .int .u64 0, .int .i64 0]) ?_ 1 _ rfl; (with_reducible repeat (first | refine blk_drewN ?_ _ | refine blk_drew ?_ | refine blk_alloc ?_ _)); refine blk_put (cs := #[.int .u64 0, .int .u64 0, .int .i64 0]) ?_ 0 _ rfl; (with_reducible repeat (first | refine blk_drewN ?_ _ | refine blk_drew ?_ | refine blk_alloc ?_ _)); refine blk_far ?_ NB542_541.out _; (with_reducible repeat (first | refine blk_drewN ?_ _ | refine blk_drew ?_ | refine blk_alloc ?_ _)); refine blk_far ?_ NB542_541.out _; (with_reducible repeat (first | refine blk_drewN ?_ _ | refine blk_drew ?_ | refine blk_alloc ?_ _)); refine blk_far ?_ NB542_541.out _; (with_reducible repeat (first | refine blk_drewN ?_ _ | refine blk_drew ?_ | refine blk_alloc ?_ _)); exact BK542.out) Tryd.underlying28 rfl (by kernel_rfl) (.tmp .nil)))) rfl ?_
    exact ⟨xE, xG⟩
def turnpikeref3_Sibling.f (k : Nat) (a0_0 : Int) (a0_1 : Int) (a0_2 : Int) : Option (Int × Int × Int × Bool) := if a0_2 = 0 then (some (0, 0, 0, false)) else ((turnpikeref1_Bit.f k a0_0 a0_1 (wrap64 (a0_2 - 1))).bind fun t547 => ((turnpikeref1_Put.f a0_0 a0_1 (wrap64 (a0_2 - 1)) (wrap64 (1 - t547))).bind fun bt548 => (some (bt548.1, bt548.2, a0_2, true))))
theorem turnpikeref3_Sibling.mono : ∀ a0 a1 a2 k, LeO (turnpikeref3_Sibling.f k a0 a1 a2) (turnpikeref3_Sibling.f (k + 1) a0 a1 a2) := by
  intro a0 a1 a2 k
  unfold turnpikeref3_Sibling.f
  have m0 := @turnpikeref1_Bit.mono
  exact xO
def turnpikeref3_Sibling.T3 : Bool × List (List Nat × List Nat) := (true, [([], []), ([0], [0]), ([], []), ([2], [2]), ([3], [3]), ([], []), ([5], [5]), ([], []), ([7], [7]), ([8], [8]), ([6, 9], [6, 9]), ([10], [10]), ([1, 4, 11, 10], [1, 4, 11]), ([], []), ([13], [13]), ([12, 14], [12, 14]), ([15, 12, 0, 1, 2, 3, 4, 5, 6, 7, 8, 9, 10, 11, 12, 13, 14, 15], [15]), ([16, 0, 1, 2, 3, 4, 5, 6, 7, 8, 9, 10, 11, 12, 13, 14, 15, 16], [])])
def turnpikeref3_Sibling.B3 : List Nat := [0, 1, 0, 4, 12, 0, 32, 0, 128, 384, 992, 2016, 4095, 0, 8192, 32767, 65535, 131071]
theorem turnpikeref3_Sibling.tab3 : rtab .any (opsOf Tryd.f40 3) = turnpikeref3_Sibling.T3 := by kernel_rfl
theorem turnpikeref3_Sibling.bits3 : waitsOk turnpikeref3_Sibling.T3.2 turnpikeref3_Sibling.B3 = true := by kernel_rfl
set_option maxHeartbeats 8000000 in
set_option maxRecDepth 100000 in
theorem turnpikeref3_Sibling.calls (k : Nat) (a0_0 : Int) (a0_1 : Int) (a0_2 : Int) (r1 : Int) (r2 : Int) (r3 : Int) (r4 : Bool) (w : World) (h : turnpikeref3_Sibling.f k a0_0 a0_1 a0_2 = some (r1, r2, r3, r4)) :
    Calls Tryd.prog 40 #[.agg #[.int .u64 a0_0, .int .u64 a0_1, .int .i64 a0_2]] w fun e w' => e = .returned (.tuple #[.agg #[.int .u64 r1, .int .u64 r2, .int .i64 r3], .bool r4]) ∧ Below w.heap.size w w' := by
  have hu28 := Tryd.underlying28
  have hu24 := Tryd.underlying24
  have HB := Aside0.mk (Below.refl w.heap.size w)
  have H : (if a0_2 = 0 then (some (0, 0, 0, false)) else ((turnpikeref1_Bit.f k a0_0 a0_1 (wrap64 (a0_2 - 1))).bind fun t547 => ((turnpikeref1_Put.f a0_0 a0_1 (wrap64 (a0_2 - 1)) (wrap64 (1 - t547))).bind fun bt548 => (some (bt548.1, bt548.2, a0_2, true))))) = some (r1, r2, r3, r4) := h
  clear h
  by_cases c2 : a0_2 = 0
  · rw [if_pos c2] at H
    have c2b0 : (a0_2 == 0) = true := beq_iff_eq.mpr c2
    have c2b1 : (a0_2 != 0) = false := bne_eq_false_iff_eq.mpr c2
    clear c2
    simp only [Option.some.injEq, Prod.mk.injEq] at H
    obtain ⟨rfl, rfl, rfl, rfl⟩ := H
    go_enter Tryd.func40, Tryd.ntmps40
    go_wp2_with (first | ((with_reducible refine gate_dst (N := 1) rfl ?_); refine box_event ?hg (N := 1) ?hd (cs := #[.int .u64 a0_0, .int .u64 a0_1, .int .i64 a0_2]) (t := 28) ?hr ?_; (case hd => rfl); (case hg => rfl); (case hr => first | (go_simp; done) | (go_simp; rfl)); intro gb545 hg w3 hbox hb; have n0_ := Aside0.mk (below_step xB hb); have n1_ := Aside0.mk (hbox); have n2_ := Aside0.mk ((by rw [hg]; exact (below_size xB) : w.heap.size ≤ gb545)); have n3_ := Aside0.mk ((by rw [hg]; exact (below_size xB) : w.heap.size ≤ gb545)); clear HB; have HB := n0_; have BK545 := n1_; have GW545 := n2_; have GE545 := n3_; clear n0_ n1_ n2_ n3_; clear hb hbox hg) | ((with_reducible refine gate_dst (N := 2) rfl ?_); refine box_event ?hg (N := 2) ?hd (cs := #[.int .u64 0, .int .u64 0, .int .i64 0]) (t := 28) ?hr ?_; (case hd => rfl); (case hg => rfl); (case hr => first | (go_simp; done) | (go_simp; rfl)); intro gb546 hg w4 hbox hb; have n0_ := Aside0.mk (blk_below (g := gb545) (o := .cells #[.int .u64 a0_0, .int .u64 a0_1, .int .i64 a0_2] 28 (0, 0)) (xK BK545.out) hb); have n1_ := Aside0.mk (below_step xG hb); have n2_ := Aside0.mk (hbox); have n3_ := Aside0.mk ((by rw [hg]; exact (below_size xG) : w.heap.size ≤ gb546)); have n4_ := Aside0.mk ((by rw [hg]; exact (below_size xG) : w.heap.size ≤ gb546)); have n5_ := Aside0.mk ((xNl BK545.out hg : gb545 ≠ gb546)); have n6_ := Aside0.mk ((xNr BK545.out hg : gb546 ≠ gb545)); clear BK545; clear HB; have BK545 := n0_; have HB := n1_; have BK546 := n2_; have GW546 := n3_; have GE546 := n4_; have NB545_546 := n5_; have NB546_545 := n6_; clear n0_ n1_ n2_ n3_ n4_ n5_ n6_; clear hb hbox hg; have hnb5 := NB545_546.out; have hnc5 := NB546_545.out; have hcz6_0 : w4.cell? ⟨gb545, 0, none⟩ = some (.int .u64 a0_0) := (blk_cell BK545.out 0).trans rfl; have hcz6_1 : w4.cell? ⟨gb545, 1, none⟩ = some (.int .u64 a0_1) := (blk_cell BK545.out 1).trans rfl; have hcz6_2 : w4.cell? ⟨gb545, 2, none⟩ = some (.int .i64 a0_2) := (blk_cell BK545.out 2).trans rfl; have hfz6_0 := blk_frozen BK545.out 0; have hfz6_1 := blk_frozen BK545.out 1; have hfz6_2 := blk_frozen BK545.out 2; have hcz7_0 : w4.cell? ⟨gb546, 0, none⟩ = some (.int .u64 0) := (blk_cell BK546.out 0).trans rfl; have hcz7_1 : w4.cell? ⟨gb546, 1, none⟩ = some (.int .u64 0) := (blk_cell BK546.out 1).trans rfl; have hcz7_2 : w4.cell? ⟨gb546, 2, none⟩ = some (.int .i64 0) := (blk_cell BK546.out 2).trans rfl; have hfz7_0 := blk_frozen BK546.out 0; have hfz7_1 := blk_frozen BK546.out 1; have hfz7_2 := blk_frozen BK546.out 2))
    refine bodyPost_ret (results_ct rfl _ _ gb546 28 #[.int .u64 0, .int .u64 0, .int .i64 0] (0, 0) _ rfl (by (with_reducible repeat (first | refine blk_drewN ?_ _ | refine blk_drew ?_ | refine blk_alloc ?_ _)); refine blk_put (cs := #[.int .u64 0, .int .u64 0, .int .i64 0]) ?_ 2 _ rfl; (with_reducible repeat (first | refine blk_drewN ?_ _ | refine blk_drew ?_ | refine blk_alloc ?_ _)); refine blk_put (cs := #[.int .u64 0, .int .u64 0, .int .i64 0]) ?_ 1 _ rfl; (with_reducible repeat (first | refine blk_drewN ?_ _ | refine blk_drew ?_ | refine blk_alloc ?_ _)); refine blk_put (cs := #[.int .u64 0, .int .u64 0, .int .i64 0]) ?_ 0 _ rfl; (with_reducible repeat (first | refine blk_drewN ?_ _ | refine blk_drew ?_ | refine blk_alloc ?_ _)); exact BK546.out) Tryd.underlying28 rfl (by kernel_rfl)) rfl ?_
    exact ⟨xE, xG⟩
  · rw [if_neg c2] at H
    have c2b0 : (a0_2 == 0) = false := beq_eq_false_iff_ne.mpr c2
    have c2b1 : (a0_2 != 0) = true := bne_iff_ne.mpr c2
    replace H := Option.bind_eq_some_iff.mp H
    obtain ⟨t547, A80, H⟩ := H
    replace H : ((turnpikeref1_Put.f a0_0 a0_1 (wrap64 (a0_2 - 1)) (wrap64 (1 - t547))).bind fun bt548 => (some (bt548.1, bt548.2, a0_2, true))) = some (r1, r2, r3, r4) := H
    have A8 := Aside0.mk A80
    clear A80
    replace H := Option.bind_eq_some_iff.mp H
    obtain ⟨⟨t548, t549⟩, A90, H⟩ := H
    replace H : (some (t548, t549, a0_2, true)) = some (r1, r2, r3, r4) := H
    have A9 := Aside0.mk A90
    clear A90
    simp only [Option.some.injEq, Prod.mk.injEq] at H
    obtain ⟨rfl, rfl, rfl, rfl⟩ := H
    go_enter Tryd.func40, Tryd.ntmps40
    try go_wp2_with (first | ((with_reducible refine gate_dst (N := 1) rfl ?_); refine box_event ?hg (N := 1) ?hd (cs := #[.int .u64 a0_0, .int .u64 a0_1, .int .i64 a0_2]) (t := 28) ?hr ?_; (case hd => rfl); (case hg => rfl); (case hr => first | (go_simp; done) | (go_simp; rfl)); intro gb545 hg w10 hbox hb; have n0_ := Aside0.mk (below_step xB hb); have n1_ := Aside0.mk (hbox); have n2_ := Aside0.mk ((by rw [hg]; exact (below_size xB) : w.heap.size ≤ gb545)); have n3_ := Aside0.mk ((by rw [hg]; exact (below_size xB) : w.heap.size ≤ gb545)); clear HB; have HB := n0_; have BK545 := n1_; have GW545 := n2_; have GE545 := n3_; clear n0_ n1_ n2_ n3_; clear hb hbox hg) | ((with_reducible refine gate_dst (N := 2) rfl ?_); refine box_event ?hg (N := 2) ?hd (cs := #[.int .u64 0, .int .u64 0, .int .i64 0]) (t := 28) ?hr ?_; (case hd => rfl); (case hg => rfl); (case hr => first | (go_simp; done) | (go_simp; rfl)); intro gb546 hg w11 hbox hb; have n0_ := Aside0.mk (blk_below (g := gb545) (o := .cells #[.int .u64 a0_0, .int .u64 a0_1, .int .i64 a0_2] 28 (0, 0)) (xK BK545.out) hb); have n1_ := Aside0.mk (below_step xG hb); have n2_ := Aside0.mk (hbox); have n3_ := Aside0.mk ((by rw [hg]; exact (below_size xG) : w.heap.size ≤ gb546)); have n4_ := Aside0.mk ((by rw [hg]; exact (below_size xG) : w.heap.size ≤ gb546)); have n5_ := Aside0.mk ((xNl BK545.out hg : gb545 ≠ gb546)); have n6_ := Aside0.mk ((xNr BK545.out hg : gb546 ≠ gb545)); clear BK545; clear HB; have BK545 := n0_; have HB := n1_; have BK546 := n2_; have GW546 := n3_; have GE546 := n4_; have NB545_546 := n5_; have NB546_545 := n6_; clear n0_ n1_ n2_ n3_ n4_ n5_ n6_; clear hb hbox hg; have hnb12 := NB545_546.out; have hnc12 := NB546_545.out; have hcz13_0 : w11.cell? ⟨gb545, 0, none⟩ = some (.int .u64 a0_0) := (blk_cell BK545.out 0).trans rfl; have hcz13_1 : w11.cell? ⟨gb545, 1, none⟩ = some (.int .u64 a0_1) := (blk_cell BK545.out 1).trans rfl; have hcz13_2 : w11.cell? ⟨gb545, 2, none⟩ = some (.int .i64 a0_2) := (blk_cell BK545.out 2).trans rfl; have hfz13_0 := blk_frozen BK545.out 0; have hfz13_1 := blk_frozen BK545.out 1; have hfz13_2 := blk_frozen BK545.out 2))
    have n0_ := Aside0.mk (blk_drew BK545.out)
    have n1_ := Aside0.mk (blk_drew BK546.out)
    have n2_ := Aside0.mk (below_drew1 HB.out)
    clear BK545
    clear BK546
    clear HB
    have BK545 := n0_
    have BK546 := n1_
    have HB := n2_
    clear n0_ n1_ n2_
    refine start_ (n := 18) (S := fun w' => w'.cell? ⟨gb545, 0, none⟩ = some (.int .u64 a0_0) ∧ w'.cell? ⟨gb545, 1, none⟩ = some (.int .u64 a0_1) ∧ w'.cell? ⟨gb545, 2, none⟩ = some (.int .i64 a0_2)) (ds := []) #[false, false, false, false, false, false, false, false, false, false, false, false, false, false, false, false, false, false] (by kernel_rfl) rfl rfl ⟨(blk_cell BK545.out 0).trans rfl, (blk_cell BK545.out 1).trans rfl, (blk_cell BK545.out 2).trans rfl⟩ (fun hHeld => ?_); refine with_tabW turnpikeref3_Sibling.tab3 turnpikeref3_Sibling.bits3 (fun HT_ HW_ => ?_)
    generalize w11.drew = w14 at BK545 BK546 HB hHeld ⊢
    refine pure_ (i := 0) (N := some 8) (v := ?_) (a' := ?_) #[true, false, false, false, false, false, false, false, false, false, false, false, false, false, false, false, false, false] rfl rfl (any_of HT_.out (by kernel_rfl)) (fun _ _ _ h => h) (Or.inl ⟨by rfl, ?_⟩) ?_ ?_
    rotate_left
    · intro w'
      go_simp
      with_reducible rfl
    rotate_left
    · simp only [Act.put, List.setIfInBounds_toArray, List.set_cons_zero, List.set_cons_succ, i64_w, i32_w]
      rfl
    refine pure_ (i := 2) (N := some 10) (v := ?_) (a' := ?_) #[true, false, true, false, false, false, false, false, false, false, false, false, false, false, false, false, false, false] rfl rfl (any_of HT_.out (by kernel_rfl)) (fun _ _ _ h => h) (Or.inl ⟨by rfl, ?_⟩) ?_ ?_
    rotate_left
    · intro w'
      go_simp
      with_reducible rfl
    rotate_left
    · simp only [Act.put, List.setIfInBounds_toArray, List.set_cons_zero, List.set_cons_succ, i64_w, i32_w]
      rfl
    refine pure_ (i := 5) (N := some 13) (v := ?_) (a' := ?_) #[true, false, true, false, false, true, false, false, false, false, false, false, false, false, false, false, false, false] rfl rfl (any_of HT_.out (by kernel_rfl)) (fun _ _ _ h => h) (Or.inl ⟨by rfl, ?_⟩) ?_ ?_
    rotate_left
    · intro w'
      go_simp
      with_reducible rfl
    rotate_left
    · simp only [Act.put, List.setIfInBounds_toArray, List.set_cons_zero, List.set_cons_succ, i64_w, i32_w]
      rfl
    refine pure_ (i := 7) (N := some 15) (v := ?_) (a' := ?_) #[true, false, true, false, false, true, false, true, false, false, false, false, false, false, false, false, false, false] rfl rfl (any_of HT_.out (by kernel_rfl)) (fun _ _ _ h => h) (Or.inl ⟨by rfl, ?_⟩) ?_ ?_
    rotate_left
    · intro w'
      go_simp
      with_reducible rfl
    rotate_left
    · simp only [Act.put, List.setIfInBounds_toArray, List.set_cons_zero, List.set_cons_succ, i64_w, i32_w]
      rfl
    refine pure_ (i := 13) (N := some 21) (v := ?_) (a' := ?_) #[true, false, true, false, false, true, false, true, false, false, false, false, false, true, false, false, false, false] rfl rfl (any_of HT_.out (by kernel_rfl)) (fun _ _ _ h => h) (Or.inl ⟨by rfl, ?_⟩) ?_ ?_
    rotate_left
    · intro w'
      go_simp
      with_reducible rfl
    rotate_left
    · simp only [Act.put, List.setIfInBounds_toArray, List.set_cons_zero, List.set_cons_succ, i64_w, i32_w]
      rfl
    refine take_ (i := 1) (N := some 9) (v := ?_) (a' := ?_) #[true, true, true, false, false, true, false, true, false, false, false, false, false, true, false, false, false, false] rfl rfl (take_ofW HT_.out HW_.out (by kernel_rfl)) (fun _ _ _ h => h) (Or.inl ⟨by rfl, ?_⟩) hHeld ?_ ?_
    rotate_left
    · rintro w' ⟨s0, s1, s2⟩
      go_simp
      with_reducible rfl
    rotate_left
    · simp only [Act.put, List.setIfInBounds_toArray, List.set_cons_zero, List.set_cons_succ, i64_w, i32_w]
      rfl
    refine take_ (i := 3) (N := some 11) (v := ?_) (a' := ?_) #[true, true, true, true, false, true, false, true, false, false, false, false, false, true, false, false, false, false] rfl rfl (take_ofW HT_.out HW_.out (by kernel_rfl)) (fun _ _ _ h => h) (Or.inl ⟨by rfl, ?_⟩) hHeld ?_ ?_
    rotate_left
    · rintro w' ⟨s0, s1, s2⟩
      go_simp
      with_reducible rfl
    rotate_left
    · simp only [Act.put, List.setIfInBounds_toArray, List.set_cons_zero, List.set_cons_succ, i64_w, i32_w]
      rfl
    refine pure_ (i := 4) (N := some 12) (v := ?_) (a' := ?_) #[true, true, true, true, true, true, false, true, false, false, false, false, false, true, false, false, false, false] rfl rfl (any_of HT_.out (by kernel_rfl)) (fun _ _ _ h => h) (Or.inl ⟨by rfl, ?_⟩) ?_ ?_
    rotate_left
    · intro w'
      go_simp
      with_reducible rfl
    rotate_left
    · simp only [Act.put, List.setIfInBounds_toArray, List.set_cons_zero, List.set_cons_succ, i64_w, i32_w]
      rfl
    refine take_ (i := 6) (N := some 14) (v := ?_) (a' := ?_) #[true, true, true, true, true, true, true, true, false, false, false, false, false, true, false, false, false, false] rfl rfl (take_ofW HT_.out HW_.out (by kernel_rfl)) (fun _ _ _ h => h) (Or.inl ⟨by rfl, ?_⟩) hHeld ?_ ?_
    rotate_left
    · rintro w' ⟨s0, s1, s2⟩
      go_simp
      with_reducible rfl
    rotate_left
    · simp only [Act.put, List.setIfInBounds_toArray, List.set_cons_zero, List.set_cons_succ, i64_w, i32_w]
      rfl
    refine take_ (i := 8) (N := some 16) (v := ?_) (a' := ?_) #[true, true, true, true, true, true, true, true, true, false, false, false, false, true, false, false, false, false] rfl rfl (take_ofW HT_.out HW_.out (by kernel_rfl)) (fun _ _ _ h => h) (Or.inl ⟨by rfl, ?_⟩) hHeld ?_ ?_
    rotate_left
    · rintro w' ⟨s0, s1, s2⟩
      go_simp
      with_reducible rfl
    rotate_left
    · simp only [Act.put, List.setIfInBounds_toArray, List.set_cons_zero, List.set_cons_succ, i64_w, i32_w]
      rfl
    refine pure_ (i := 9) (N := some 17) (v := ?_) (a' := ?_) #[true, true, true, true, true, true, true, true, true, true, false, false, false, true, false, false, false, false] rfl rfl (any_of HT_.out (by kernel_rfl)) (fun _ _ _ h => h) (Or.inl ⟨by rfl, ?_⟩) ?_ ?_
    rotate_left
    · intro w'
      go_simp
      with_reducible rfl
    rotate_left
    · simp only [Act.put, List.setIfInBounds_toArray, List.set_cons_zero, List.set_cons_succ, i64_w, i32_w]
      rfl
    refine take_ (i := 14) (N := some 22) (v := ?_) (a' := ?_) #[true, true, true, true, true, true, true, true, true, true, false, false, false, true, true, false, false, false] rfl rfl (take_ofW HT_.out HW_.out (by kernel_rfl)) (fun _ _ _ h => h) (Or.inl ⟨by rfl, ?_⟩) hHeld ?_ ?_
    rotate_left
    · rintro w' ⟨s0, s1, s2⟩
      go_simp
      with_reducible rfl
    rotate_left
    · simp only [Act.put, List.setIfInBounds_toArray, List.set_cons_zero, List.set_cons_succ, i64_w, i32_w]
      rfl
    refine one_ (i := 10) (N := some 18) #[true, true, true, true, true, true, true, true, true, true, true, false, false, true, true, false, false, false] rfl rfl (one_of HT_.out (by kernel_rfl)) (by decide) (fun K hK => ?_)
    refine goes_ Tryd.func72 (by kernel_rfl) rfl #[.agg #[.int .u64 a0_0, .int .u64 a0_1], .int .i64 (wrap64 (a0_2 - 1))] (by rfl) rfl rfl xM ?_
    with_reducible refine (turnpikeref1_Bit.calls k a0_0 a0_1 (wrap64 (a0_2 - 1)) t547 _ A8.out).mono ?_
    rintro e w15 ⟨rfl, hb⟩
    refine ⟨_, rfl, ?_⟩
    have n0_ := Aside0.mk (blk_below (g := gb545) (o := .cells #[.int .u64 a0_0, .int .u64 a0_1, .int .i64 a0_2] 28 (0, 0)) (xK BK545.out) hb)
    have n1_ := Aside0.mk (blk_below (g := gb546) (o := .cells #[.int .u64 0, .int .u64 0, .int .i64 0] 28 (0, 0)) (xK BK546.out) hb)
    have n2_ := Aside0.mk (below_step xG hb)
    clear BK545
    clear BK546
    clear HB
    have BK545 := n0_
    have BK546 := n1_
    have HB := n2_
    clear n0_ n1_ n2_
    (try clear hb)
    (try clear hb2)
    (try clear hk)
    (try clear hi)
    refine hK.out _ _ ⟨(blk_cell BK545.out 0).trans rfl, (blk_cell BK545.out 1).trans rfl, (blk_cell BK545.out 2).trans rfl⟩ (fun hHeld => ?_)
    clear hK K
    refine norm_ (a' := ?_) ?_ ?_
    rotate_left
    · show Act.put _ (some 18) _ = _
      simp only [Act.put, List.setIfInBounds_toArray, List.set_cons_zero, List.set_cons_succ, i64_w, i32_w]
      rfl
    refine pure_ (i := 11) (N := some 19) (v := ?_) (a' := ?_) #[true, true, true, true, true, true, true, true, true, true, true, true, false, true, true, false, false, false] rfl rfl (any_of HT_.out (by kernel_rfl)) (fun _ _ _ h => h) (Or.inl ⟨by rfl, ?_⟩) ?_ ?_
    rotate_left
    · intro w'
      go_simp
      with_reducible rfl
    rotate_left
    · simp only [Act.put, List.setIfInBounds_toArray, List.set_cons_zero, List.set_cons_succ, i64_w, i32_w]
      rfl
    refine one_ (i := 12) (N := some 20) #[true, true, true, true, true, true, true, true, true, true, true, true, true, true, true, false, false, false] rfl rfl (one_of HT_.out (by kernel_rfl)) (by decide) (fun K hK => ?_)
    refine goes_ Tryd.func31 (by kernel_rfl) rfl #[.agg #[.int .u64 a0_0, .int .u64 a0_1], .int .i64 (wrap64 (a0_2 - 1)), .int .i64 (wrap64 (1 - t547))] (by rfl) rfl rfl xM ?_
    with_reducible refine (turnpikeref1_Put.calls a0_0 a0_1 (wrap64 (a0_2 - 1)) (wrap64 (1 - t547)) t548 t549 _ A9.out).mono ?_
    rintro e w16 ⟨rfl, hb⟩
    refine ⟨_, rfl, ?_⟩
    have n0_ := Aside0.mk (blk_below (g := gb545) (o := .cells #[.int .u64 a0_0, .int .u64 a0_1, .int .i64 a0_2] 28 (0, 0)) (xK BK545.out) hb)
    have n1_ := Aside0.mk (blk_below (g := gb546) (o := .cells #[.int .u64 0, .int .u64 0, .int .i64 0] 28 (0, 0)) (xK BK546.out) hb)
    have n2_ := Aside0.mk (below_step xG hb)
    clear BK545
    clear BK546
    clear HB
    have BK545 := n0_
    have BK546 := n1_
    have HB := n2_
    clear n0_ n1_ n2_
    (try clear hb)
    (try clear hb2)
    (try clear hk)
    (try clear hi)
    refine hK.out _ _ ⟨(blk_cell BK545.out 0).trans rfl, (blk_cell BK545.out 1).trans rfl, (blk_cell BK545.out 2).trans rfl⟩ (fun hHeld => ?_)
    clear hK K
    refine norm_ (a' := ?_) ?_ ?_
    rotate_left
    · show Act.put _ (some 20) _ = _
      simp only [Act.put, List.setIfInBounds_toArray, List.set_cons_zero, List.set_cons_succ, i64_w, i32_w]
      rfl
    refine pure_ (i := 15) (N := some 23) (v := ?_) (a' := ?_) #[true, true, true, true, true, true, true, true, true, true, true, true, true, true, true, true, false, false] rfl rfl (any_of HT_.out (by kernel_rfl)) (fun _ _ _ h => h) (Or.inl ⟨by rfl, ?_⟩) ?_ ?_
    rotate_left
    · intro w'
      go_simp
      with_reducible rfl
    rotate_left
    · simp only [Act.put, List.setIfInBounds_toArray, List.set_cons_zero, List.set_cons_succ, i64_w, i32_w]
      rfl
    refine one_ (i := 16) (N := none) #[true, true, true, true, true, true, true, true, true, true, true, true, true, true, true, true, true, false] rfl rfl (one_of HT_.out (by kernel_rfl)) (by decide) (fun K hK => ?_)
    have hs17 : w16.cell? ⟨gb546, 0, none⟩ = some (.int .u64 0) := (blk_cell BK546.out 0).trans rfl
    have hfs17 := blk_frozen BK546.out 0
    have hns17_0 := NB545_546.out
    have hms17_0 := NB546_545.out
    have hs18 : w16.cell? ⟨gb546, 1, none⟩ = some (.int .u64 0) := (blk_cell BK546.out 1).trans rfl
    have hfs18 := blk_frozen BK546.out 1
    have hns18_0 := NB545_546.out
    have hms18_0 := NB546_545.out
    have hs19 : w16.cell? ⟨gb546, 2, none⟩ = some (.int .i64 0) := (blk_cell BK546.out 2).trans rfl
    have hfs19 := blk_frozen BK546.out 2
    have hns19_0 := NB545_546.out
    have hms19_0 := NB546_545.out
    refine skip_ (w1 := ?_) (by rfl) rfl ?_ ?_
    rotate_left
    · go_simp
      rfl
    refine hK.out _ _ ⟨((cell_far (p := ⟨gb546, _, none⟩) NB545_546.out _).trans (((cell_far (p := ⟨gb546, _, none⟩) NB545_546.out _).trans (((cell_far (p := ⟨gb546, _, none⟩) NB545_546.out _).trans (hHeld.1)))))), ((cell_far (p := ⟨gb546, _, none⟩) NB545_546.out _).trans (((cell_far (p := ⟨gb546, _, none⟩) NB545_546.out _).trans (((cell_far (p := ⟨gb546, _, none⟩) NB545_546.out _).trans (hHeld.2.1)))))), ((cell_far (p := ⟨gb546, _, none⟩) NB545_546.out _).trans (((cell_far (p := ⟨gb546, _, none⟩) NB545_546.out _).trans (((cell_far (p := ⟨gb546, _, none⟩) NB545_546.out _).trans (hHeld.2.2))))))⟩ (fun hHeld => ?_)
    clear hK K
    refine pure_ (i := 17) (N := some 3) (v := ?_) (a' := ?_) #[true, true, true, true, true, true, true, true, true, true, true, true, true, true, true, true, true, true] rfl rfl (any_of HT_.out (by kernel_rfl)) (fun _ _ _ h => h) (Or.inl ⟨by rfl, ?_⟩) ?_ ?_
    rotate_left
    · intro w'
      go_simp
      with_reducible rfl
    rotate_left
    · simp only [Act.put, List.setIfInBounds_toArray, List.set_cons_zero, List.set_cons_succ, i64_w, i32_w]
      rfl
    refine done_ (done_of HT_.out (by kernel_rfl)) ?_
    try go_wp2
    refine bodyPost_ret (results_ct rfl _ _ gb546 28 #[.int .u64 t548, .int .u64 t549, .int .i64 a0_2] (0, 0) _ rfl (by (with_reducible repeat (first | refine blk_drewN ?_ _ | refine blk_drew ?_ | refine blk_alloc ?_ _)); refine blk_put (cs := #[.int .u64 t548, .int .u64 t549, .int .i64 0]) ?_ 2 _ rfl; (with_reducible repeat (first | refine blk_drewN ?_ _ | refine blk_drew ?_ | refine blk_alloc ?_ _)); refine blk_put (cs := #[.int .u64 t548, .int .u64 0, .int .i64 0]) ?_ 1 _ rfl; (with_reducible repeat (first | refine blk_drewN ?_ _ | refine blk_drew ?_ | refine blk_alloc ?_ _)); refine blk_put (cs := #[.int .u64 0, .int .u64 0, .int .i64 0]) ?_ 0 _ rfl; (with_reducible repeat (first | refine blk_drewN ?_ _ | refine blk_drew ?_ | refine blk_alloc ?_ _)); exact BK546.out) Tryd.underlying28 rfl (by kernel_rfl)) rfl ?_
    exact ⟨xE, xG⟩
end Go.Proofs.YtdjhmapmhajkcaaDoor.X
