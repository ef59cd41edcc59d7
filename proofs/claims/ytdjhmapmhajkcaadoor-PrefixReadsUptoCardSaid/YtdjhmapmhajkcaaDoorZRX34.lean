-- Printed by a program of this session (xprint.py, over the kit's printer)
import Derived.Test.YtdjhmapmhajkcaaDoorZRX0
import Derived.Test.YtdjhmapmhajkcaaDoorZRX6
import Derived.Test.YtdjhmapmhajkcaaDoorZRX33
import Derived.Test.YtdjhmapmhajkcaaDoorZRSh
namespace Go.Proofs.YtdjhmapmhajkcaaDoor.X
open Go.RowKit Go.Proofs.YtdjhmapmhajkcaaDoorW.PrintWords Go.Proofs.YtdjhmapmhajkcaaDoorW.PrintLast Go.Proofs.YtdjhmapmhajkcaaDoor.Sm Go.Proofs.YtdjhmapmhajkcaaDoor.Sh
set_option linter.unusedVariables false
set_option linter.unusedSimpArgs false
def turnpikeref1_Shl.f (a0_0 : Int) (a0_1 : Int) (a1 : Int) : Option (Int × Int) := if a1 ≤ 0 then (some (a0_0, a0_1)) else (if a1 > 127 then (some (0, 0)) else (if a1 ≥ 64 then (if 0 ≤ (wrap64 (a1 - 64)) then (some (shl .u64 a0_1 (wrap64 (a1 - 64)), 0)) else (none)) else (if 0 ≤ a1 then (if 0 ≤ (wrap64 (64 - a1)) then (some (Go.bits .or .u64 (shl .u64 a0_0 a1) (shr .u64 a0_1 (wrap64 (64 - a1))), shl .u64 a0_1 a1)) else (none)) else (none))))
def turnpikeref1_Shl.T7 : Bool × List (List Nat × List Nat) := (true, [([], []), ([0], [0]), ([], []), ([1, 2], [1, 2]), ([], []), ([4], [4]), ([], []), ([6], [6]), ([5, 7], [5, 7]), ([3, 8], [3, 8]), ([], []), ([10], [10]), ([], []), ([11, 12], [11, 12]), ([9, 13], [9, 13]), ([14, 0, 1, 2, 3, 4, 5, 6, 7, 8, 9, 10, 11, 12, 13, 14], [14])])
def turnpikeref1_Shl.B7 : List Nat := [0, 1, 0, 7, 0, 16, 0, 64, 240, 511, 0, 1024, 0, 7168, 16383, 32767]
theorem turnpikeref1_Shl.tab7 : rtab .any (opsOf Tryd.f94 7) = turnpikeref1_Shl.T7 := by kernel_rfl
theorem turnpikeref1_Shl.bits7 : waitsOk turnpikeref1_Shl.T7.2 turnpikeref1_Shl.B7 = true := by kernel_rfl
set_option maxHeartbeats 8000000 in
set_option maxRecDepth 100000 in
theorem turnpikeref1_Shl.calls (a0_0 : Int) (a0_1 : Int) (a1 : Int) (r1 : Int) (r2 : Int) (w : World) (h : turnpikeref1_Shl.f a0_0 a0_1 a1 = some (r1, r2)) :
  Calls Tryd.prog 94 #[.agg #[.int .u64 a0_0, .int .u64 a0_1], .int .i64 a1] w fun e w' => e = .returned (.agg #[.int .u64 r1, .int .u64 r2]) ∧ Below w.heap.size w w' := by
 have hu24 := Tryd.underlying24
 have HB := Aside0.mk (Below.refl w.heap.size w)
 have H : (if a1 ≤ 0 then (some (a0_0, a0_1)) else (if a1 > 127 then (some (0, 0)) else (if a1 ≥ 64 then (if 0 ≤ (wrap64 (a1 - 64)) then (some (shl .u64 a0_1 (wrap64 (a1 - 64)), 0)) else (none)) else (if 0 ≤ a1 then (if 0 ≤ (wrap64 (64 - a1)) then (some (Go.bits .or .u64 (shl .u64 a0_0 a1) (shr .u64 a0_1 (wrap64 (64 - a1))), shl .u64 a0_1 a1)) else (none)) else (none))))) = some (r1, r2) := h
 clear h
 by_cases c3 : a1 ≤ 0
 ·rw [if_pos c3] at H
  have c3b0 : decide (a1 ≤ 0) = true := decide_eq_true c3
  clear c3
  simp only [Option.some.injEq, Prod.mk.injEq] at H
  obtain ⟨rfl, rfl⟩ := H
  go_enter Tryd.func94, Tryd.ntmps94
  go_wp2_with (first | ((with_reducible refine gate_dst (N := 2) rfl ?_); refine box_event ?hg (N := 2) ?hd (cs := #[.int .u64 a0_0, .int .u64 a0_1]) (t := 24) ?hr ?_; (case hd => rfl); (case hg => rfl); (case hr => first | (go_simp; done) | (go_simp; rfl)); intro gb705 hg w4 hbox hb; have n0_ := Aside0.mk (below_step xB hb); have n1_ := Aside0.mk (hbox); have n2_ := xS w hg; have n3_ := xS w hg; clear HB; have HB := n0_; have BK705 := n1_; have GW705 := n2_; have GE705 := n3_; clear n0_ n1_ n2_ n3_; clear hb hbox hg) | ((with_reducible refine gate_dst (N := 4) rfl ?_); refine box_event ?hg (N := 4) ?hd (cs := #[.int .u64 0, .int .u64 0]) (t := 24) ?hr ?_; (case hd => rfl); (case hg => rfl); (case hr => first | (go_simp; done) | (go_simp; rfl)); intro gb706 hg w5 hbox hb; have n0_ := xP BK705.out hb; have n1_ := Aside0.mk (below_step xG hb); have n2_ := Aside0.mk (hbox); have n3_ := xT w hg; have n4_ := xT w hg; have n5_ := Aside0.mk ((xNl BK705.out hg : gb705 ≠ gb706)); have n6_ := Aside0.mk ((xNr BK705.out hg : gb706 ≠ gb705)); clear BK705; clear HB; have BK705 := n0_; have HB := n1_; have BK706 := n2_; have GW706 := n3_; have GE706 := n4_; have NB705_706 := n5_; have NB706_705 := n6_; clear n0_ n1_ n2_ n3_ n4_ n5_ n6_; clear hb hbox hg; have hnb6 := NB705_706.out; have hnc6 := NB706_705.out; have hcz7_0 : w5.cell? ⟨gb705, 0, none⟩ = some (.int .u64 a0_0) := (blk_cell BK705.out 0).trans rfl; have hcz7_1 : w5.cell? ⟨gb705, 1, none⟩ = some (.int .u64 a0_1) := (blk_cell BK705.out 1).trans rfl; have hfz7_0 := blk_frozen BK705.out 0; have hfz7_1 := blk_frozen BK705.out 1; have hcz8_0 : w5.cell? ⟨gb706, 0, none⟩ = some (.int .u64 0) := (blk_cell BK706.out 0).trans rfl; have hcz8_1 : w5.cell? ⟨gb706, 1, none⟩ = some (.int .u64 0) := (blk_cell BK706.out 1).trans rfl; have hfz8_0 := blk_frozen BK706.out 0; have hfz8_1 := blk_frozen BK706.out 1))
  refine bodyPost_ret (results_cell_row rfl _ _ gb706 24 #[.int .u64 a0_0, .int .u64 a0_1] (0, 0) _ rfl (by (with_reducible repeat (first | refine blk_drewN ?_ _ | refine blk_drew ?_ | refine blk_alloc ?_ _)); refine blk_put (cs := #[.int .u64 a0_0, .int .u64 0]) ?_ 1 _ rfl; (with_reducible repeat (first | refine blk_drewN ?_ _ | refine blk_drew ?_ | refine blk_alloc ?_ _)); refine blk_put (cs := #[.int .u64 0, .int .u64 0]) ?_ 0 _ rfl; (with_reducible repeat (first | refine blk_drewN ?_ _ | refine blk_drew ?_ | refine blk_alloc ?_ _)); exact BK706.out) Tryd.underlying24 rfl (by kernel_rfl)) rfl ?_
  exact ⟨xE, xG⟩
 ·rw [if_neg c3] at H
  have c3b0 : decide (a1 ≤ 0) = false := decide_eq_false c3
  clear c3
  by_cases c9 : a1 > 127
  ·rw [if_pos c9] at H
   have c9b0 : decide (127 < a1) = true := decide_eq_true c9
   clear c9
   simp only [Option.some.injEq, Prod.mk.injEq] at H
   obtain ⟨rfl, rfl⟩ := H
   go_enter Tryd.func94, Tryd.ntmps94
   go_wp2_with (first | ((with_reducible refine gate_dst (N := 2) rfl ?_); refine box_event ?hg (N := 2) ?hd (cs := #[.int .u64 a0_0, .int .u64 a0_1]) (t := 24) ?hr ?_; (case hd => rfl); (case hg => rfl); (case hr => first | (go_simp; done) | (go_simp; rfl)); intro gb705 hg w10 hbox hb; have n0_ := Aside0.mk (below_step xB hb); have n1_ := Aside0.mk (hbox); have n2_ := xS w hg; have n3_ := xS w hg; clear HB; have HB := n0_; have BK705 := n1_; have GW705 := n2_; have GE705 := n3_; clear n0_ n1_ n2_ n3_; clear hb hbox hg) | ((with_reducible refine gate_dst (N := 4) rfl ?_); refine box_event ?hg (N := 4) ?hd (cs := #[.int .u64 0, .int .u64 0]) (t := 24) ?hr ?_; (case hd => rfl); (case hg => rfl); (case hr => first | (go_simp; done) | (go_simp; rfl)); intro gb706 hg w11 hbox hb; have n0_ := xP BK705.out hb; have n1_ := Aside0.mk (below_step xG hb); have n2_ := Aside0.mk (hbox); have n3_ := xT w hg; have n4_ := xT w hg; have n5_ := Aside0.mk ((xNl BK705.out hg : gb705 ≠ gb706)); have n6_ := Aside0.mk ((xNr BK705.out hg : gb706 ≠ gb705)); clear BK705; clear HB; have BK705 := n0_; have HB := n1_; have BK706 := n2_; have GW706 := n3_; have GE706 := n4_; have NB705_706 := n5_; have NB706_705 := n6_; clear n0_ n1_ n2_ n3_ n4_ n5_ n6_; clear hb hbox hg; have hnb12 := NB706_705.out; have hnc12 := NB705_706.out; have hcz13_0 : w11.cell? ⟨gb706, 0, none⟩ = some (.int .u64 0) := (blk_cell BK706.out 0).trans rfl; have hcz13_1 : w11.cell? ⟨gb706, 1, none⟩ = some (.int .u64 0) := (blk_cell BK706.out 1).trans rfl; have hfz13_0 := blk_frozen BK706.out 0; have hfz13_1 := blk_frozen BK706.out 1))
   refine bodyPost_ret (results_cell_row rfl _ _ gb706 24 #[.int .u64 0, .int .u64 0] (0, 0) _ rfl (by (with_reducible repeat (first | refine blk_drewN ?_ _ | refine blk_drew ?_ | refine blk_alloc ?_ _)); refine blk_put (cs := #[.int .u64 0, .int .u64 0]) ?_ 1 _ rfl; (with_reducible repeat (first | refine blk_drewN ?_ _ | refine blk_drew ?_ | refine blk_alloc ?_ _)); refine blk_put (cs := #[.int .u64 0, .int .u64 0]) ?_ 0 _ rfl; (with_reducible repeat (first | refine blk_drewN ?_ _ | refine blk_drew ?_ | refine blk_alloc ?_ _)); exact BK706.out) Tryd.underlying24 rfl (by kernel_rfl)) rfl ?_
   exact ⟨xE, xG⟩
  ·rw [if_neg c9] at H
   have c9b0 : decide (127 < a1) = false := decide_eq_false c9
   clear c9
   by_cases c14 : a1 ≥ 64
   ·rw [if_pos c14] at H
    have c14b0 : decide (64 ≤ a1) = true := decide_eq_true c14
    clear c14
    obtain ⟨ji15, hji15⟩ : ∃ j_ : Int, (wrap64 (a1 - 64)) = j_ := ⟨_, rfl⟩
    replace H : (if 0 ≤ (ji15) then (some (shl .u64 a0_1 (ji15), 0)) else (none)) = some (r1, r2) := by first | (rw [hji15] at H; exact H) | (simp only [hji15] at H ⊢; exact H)
    have hji15w : (IntKind.i64.wrap (a1 - 64)) = ji15 := (i64_w _).trans hji15
    by_cases c16 : 0 ≤ (ji15)
    ·rw [if_pos c16] at H
     have c16b0 := eq_true c16
     have c16b1 : decide (0 ≤ (ji15)) = true := decide_eq_true c16
     clear c16
     obtain ⟨ji17, hji17⟩ : ∃ j_ : Int, (shl .u64 a0_1 (ji15)) = j_ := ⟨_, rfl⟩
     replace H : (some (ji17, 0)) = some (r1, r2) := by first | (rw [hji17] at H; exact H) | (simp only [hji17] at H ⊢; exact H)
     have hji17_ : (IntKind.u64.wrap (a0_1 * 2 ^ min (ji15).toNat 64)) = ji17 := hji17
     have hji17z : (ji15) ≤ 64 → (IntKind.u64.wrap (a0_1 * 2 ^ (ji15).toNat)) = ji17 := shl_small hji17
     simp only [Option.some.injEq, Prod.mk.injEq] at H
     obtain ⟨rfl, rfl⟩ := H
     go_enter Tryd.func94, Tryd.ntmps94
     go_wp2_with (first | ((with_reducible refine gate_dst (N := 2) rfl ?_); refine box_event ?hg (N := 2) ?hd (cs := #[.int .u64 a0_0, .int .u64 a0_1]) (t := 24) ?hr ?_; (case hd => rfl); (case hg => rfl); (case hr => first | (go_simp; done) | (go_simp; rfl)); intro gb705 hg w18 hbox hb; have n0_ := Aside0.mk (below_step xB hb); have n1_ := Aside0.mk (hbox); have n2_ := xS w hg; have n3_ := xS w hg; clear HB; have HB := n0_; have BK705 := n1_; have GW705 := n2_; have GE705 := n3_; clear n0_ n1_ n2_ n3_; clear hb hbox hg) | ((with_reducible refine gate_dst (N := 4) rfl ?_); refine box_event ?hg (N := 4) ?hd (cs := #[.int .u64 0, .int .u64 0]) (t := 24) ?hr ?_; (case hd => rfl); (case hg => rfl); (case hr => first | (go_simp; done) | (go_simp; rfl)); intro gb706 hg w19 hbox hb; have n0_ := xP BK705.out hb; have n1_ := Aside0.mk (below_step xG hb); have n2_ := Aside0.mk (hbox); have n3_ := xT w hg; have n4_ := xT w hg; have n5_ := Aside0.mk ((xNl BK705.out hg : gb705 ≠ gb706)); have n6_ := Aside0.mk ((xNr BK705.out hg : gb706 ≠ gb705)); clear BK705; clear HB; have BK705 := n0_; have HB := n1_; have BK706 := n2_; have GW706 := n3_; have GE706 := n4_; have NB705_706 := n5_; have NB706_705 := n6_; clear n0_ n1_ n2_ n3_ n4_ n5_ n6_; clear hb hbox hg; have hnb20 := NB705_706.out; have hnc20 := NB706_705.out; have hcz21_0 : w19.cell? ⟨gb705, 0, none⟩ = some (.int .u64 a0_0) := (blk_cell BK705.out 0).trans rfl; have hcz21_1 : w19.cell? ⟨gb705, 1, none⟩ = some (.int .u64 a0_1) := (blk_cell BK705.out 1).trans rfl; have hfz21_0 := blk_frozen BK705.out 0; have hfz21_1 := blk_frozen BK705.out 1; have hcz22_0 : w19.cell? ⟨gb706, 0, none⟩ = some (.int .u64 0) := (blk_cell BK706.out 0).trans rfl; have hcz22_1 : w19.cell? ⟨gb706, 1, none⟩ = some (.int .u64 0) := (blk_cell BK706.out 1).trans rfl; have hfz22_0 := blk_frozen BK706.out 0; have hfz22_1 := blk_frozen BK706.out 1))
     refine bodyPost_ret (results_cell_row rfl _ _ gb706 24 #[.int .u64 ji17, .int .u64 0] (0, 0) _ rfl (by (with_reducible repeat (first | refine blk_drewN ?_ _ | refine blk_drew ?_ | refine blk_alloc ?_ _)); refine blk_put (cs := #[.int .u64 ji17, .int .u64 0]) ?_ 1 _ rfl; (with_reducible repeat (first | refine blk_drewN ?_ _ | refine blk_drew ?_ | refine blk_alloc ?_ _)); refine blk_put (cs := #[.int .u64 0, .int .u64 0]) ?_ 0 _ rfl; (with_reducible repeat (first | refine blk_drewN ?_ _ | refine blk_drew ?_ | refine blk_alloc ?_ _)); exact BK706.out) Tryd.underlying24 rfl (by kernel_rfl)) rfl ?_
     exact ⟨by first | rfl | (simp [errW_none, errW_some] <;> rfl) | (simp only [← hji15, ← hji17]; first | rfl | (simp [errW_none, errW_some] <;> rfl)) | (simp [*, errW_none, errW_some] <;> rfl), xG⟩
    ·rw [if_neg c16] at H
     exact absurd H (by simp)
   ·rw [if_neg c14] at H
    have c14b0 : decide (64 ≤ a1) = false := decide_eq_false c14
    clear c14
    by_cases c23 : 0 ≤ a1
    ·rw [if_pos c23] at H
     have c23b0 := eq_true c23
     have c23b1 : decide (0 ≤ a1) = true := decide_eq_true c23
     clear c23
     obtain ⟨ji24, hji24⟩ : ∃ j_ : Int, (shl .u64 a0_0 a1) = j_ := ⟨_, rfl⟩
     replace H : (if 0 ≤ (wrap64 (64 - a1)) then (some (Go.bits .or .u64 (ji24) (shr .u64 a0_1 (wrap64 (64 - a1))), shl .u64 a0_1 a1)) else (none)) = some (r1, r2) := by first | (rw [hji24] at H; exact H) | (simp only [hji24] at H ⊢; exact H)
     have hji24_ : (IntKind.u64.wrap (a0_0 * 2 ^ min a1.toNat 64)) = ji24 := hji24
     have hji24z : a1 ≤ 64 → (IntKind.u64.wrap (a0_0 * 2 ^ a1.toNat)) = ji24 := shl_small hji24
     obtain ⟨ji25, hji25⟩ : ∃ j_ : Int, (wrap64 (64 - a1)) = j_ := ⟨_, rfl⟩
     replace H : (if 0 ≤ (ji25) then (some (Go.bits .or .u64 (ji24) (shr .u64 a0_1 (ji25)), shl .u64 a0_1 a1)) else (none)) = some (r1, r2) := by first | (rw [hji25] at H; exact H) | (simp only [hji25] at H ⊢; exact H)
     have hji25w : (IntKind.i64.wrap (64 - a1)) = ji25 := (i64_w _).trans hji25
     by_cases c26 : 0 ≤ (ji25)
     ·rw [if_pos c26] at H
      have c26b0 := eq_true c26
      have c26b1 : decide (0 ≤ (ji25)) = true := decide_eq_true c26
      clear c26
      obtain ⟨ji27, hji27⟩ : ∃ j_ : Int, (shr .u64 a0_1 (ji25)) = j_ := ⟨_, rfl⟩
      replace H : (some (Go.bits .or .u64 (ji24) (ji27), shl .u64 a0_1 a1)) = some (r1, r2) := by first | (rw [hji27] at H; exact H) | (simp only [hji27] at H ⊢; exact H)
      have hji27_ : (a0_1 / 2 ^ min (ji25).toNat 64) = ji27 := hji27
      have hji27z : (ji25) ≤ 64 → (a0_1 / 2 ^ (ji25).toNat) = ji27 := shr_small hji27
      have c28b0 := eq_true (of_decide_eq_true xA : 0 ≤ a1)
      obtain ⟨ji29, hji29⟩ : ∃ j_ : Int, (shl .u64 a0_1 a1) = j_ := ⟨_, rfl⟩
      replace H : (some (Go.bits .or .u64 (ji24) (ji27), ji29)) = some (r1, r2) := by first | (rw [hji29] at H; exact H) | (simp only [hji29] at H ⊢; exact H)
      have hji29_ : (IntKind.u64.wrap (a0_1 * 2 ^ min a1.toNat 64)) = ji29 := hji29
      have hji29z : a1 ≤ 64 → (IntKind.u64.wrap (a0_1 * 2 ^ a1.toNat)) = ji29 := shl_small hji29
      simp only [Option.some.injEq, Prod.mk.injEq] at H
      obtain ⟨rfl, rfl⟩ := H
      go_enter Tryd.func94, Tryd.ntmps94
      try go_wp2_with (first | ((with_reducible refine gate_dst (N := 2) rfl ?_); refine box_event ?hg (N := 2) ?hd (cs := #[.int .u64 a0_0, .int .u64 a0_1]) (t := 24) ?hr ?_; (case hd => rfl); (case hg => rfl); (case hr => first | (go_simp; done) | (go_simp; rfl)); intro gb705 hg w30 hbox hb; have n0_ := Aside0.mk (below_step xB hb); have n1_ := Aside0.mk (hbox); have n2_ := xS w hg; have n3_ := xS w hg; clear HB; have HB := n0_; have BK705 := n1_; have GW705 := n2_; have GE705 := n3_; clear n0_ n1_ n2_ n3_; clear hb hbox hg) | ((with_reducible refine gate_dst (N := 4) rfl ?_); refine box_event ?hg (N := 4) ?hd (cs := #[.int .u64 0, .int .u64 0]) (t := 24) ?hr ?_; (case hd => rfl); (case hg => rfl); (case hr => first | (go_simp; done) | (go_simp; rfl)); intro gb706 hg w31 hbox hb; have n0_ := xP BK705.out hb; have n1_ := Aside0.mk (below_step xG hb); have n2_ := Aside0.mk (hbox); have n3_ := xT w hg; have n4_ := xT w hg; have n5_ := Aside0.mk ((xNl BK705.out hg : gb705 ≠ gb706)); have n6_ := Aside0.mk ((xNr BK705.out hg : gb706 ≠ gb705)); clear BK705; clear HB; have BK705 := n0_; have HB := n1_; have BK706 := n2_; have GW706 := n3_; have GE706 := n4_; have NB705_706 := n5_; have NB706_705 := n6_; clear n0_ n1_ n2_ n3_ n4_ n5_ n6_; clear hb hbox hg))
      have n0_ := Aside0.mk (blk_drew BK705.out)
      have n1_ := Aside0.mk (blk_drew BK706.out)
      have n2_ := Aside0.mk (below_drew1 HB.out)
      clear BK705
      clear BK706
      clear HB
      have BK705 := n0_
      have BK706 := n1_
      have HB := n2_
      clear n0_ n1_ n2_
      refine start_ (n := 16) (S := fun w' => w'.cell? ⟨gb705, 0, none⟩ = some (.int .u64 a0_0) ∧ w'.cell? ⟨gb705, 1, none⟩ = some (.int .u64 a0_1)) (ds := []) #[false, false, false, false, false, false, false, false, false, false, false, false, false, false, false, false] (by kernel_rfl) rfl rfl ⟨(blk_cell BK705.out 0).trans rfl, (blk_cell BK705.out 1).trans rfl⟩ (fun hHeld => ?_); refine with_tabW turnpikeref1_Shl.tab7 turnpikeref1_Shl.bits7 (fun HT_ HW_ => ?_)
      generalize w31.drew = w32 at BK705 BK706 HB hHeld ⊢
      refine pure_ (i := 0) (N := some 19) (v := ?_) (a' := ?_) #[true, false, false, false, false, false, false, false, false, false, false, false, false, false, false, false] rfl rfl (any_of HT_.out (by kernel_rfl)) (fun _ _ _ h => h) (Or.inl ⟨by rfl, ?_⟩) ?_ ?_
      rotate_left
      ·intro w'
       go_simp
       with_reducible rfl
      rotate_left
      ·simp only [Act.put, List.setIfInBounds_toArray, List.set_cons_zero, List.set_cons_succ, i64_w, i32_w]
       rfl
      refine pure_ (i := 2) (N := some 21) (v := ?_) (a' := ?_) #[true, false, true, false, false, false, false, false, false, false, false, false, false, false, false, false] rfl rfl (any_of HT_.out (by kernel_rfl)) (fun _ _ _ h => h) (Or.inl ⟨by rfl, ?_⟩) ?_ ?_
      rotate_left
      ·intro w'
       go_simp
       with_reducible rfl
      rotate_left
      ·simp only [Act.put, List.setIfInBounds_toArray, List.set_cons_zero, List.set_cons_succ, i64_w, i32_w]
       rfl
      refine pure_ (i := 4) (N := some 23) (v := ?_) (a' := ?_) #[true, false, true, false, true, false, false, false, false, false, false, false, false, false, false, false] rfl rfl (any_of HT_.out (by kernel_rfl)) (fun _ _ _ h => h) (Or.inl ⟨by rfl, ?_⟩) ?_ ?_
      rotate_left
      ·intro w'
       go_simp
       with_reducible rfl
      rotate_left
      ·simp only [Act.put, List.setIfInBounds_toArray, List.set_cons_zero, List.set_cons_succ, i64_w, i32_w]
       rfl
      refine pure_ (i := 6) (N := some 25) (v := ?_) (a' := ?_) #[true, false, true, false, true, false, true, false, false, false, false, false, false, false, false, false] rfl rfl (any_of HT_.out (by kernel_rfl)) (fun _ _ _ h => h) (Or.inl ⟨by rfl, ?_⟩) ?_ ?_
      rotate_left
      ·intro w'
       go_simp
       with_reducible rfl
      rotate_left
      ·simp only [Act.put, List.setIfInBounds_toArray, List.set_cons_zero, List.set_cons_succ, i64_w, i32_w]
       rfl
      refine pure_ (i := 7) (N := some 26) (v := ?_) (a' := ?_) #[true, false, true, false, true, false, true, true, false, false, false, false, false, false, false, false] rfl rfl (any_of HT_.out (by kernel_rfl)) (fun _ _ _ h => h) (Or.inl ⟨by rfl, ?_⟩) ?_ ?_
      rotate_left
      ·intro w'
       go_simp
       with_reducible rfl
      rotate_left
      ·simp only [Act.put, List.setIfInBounds_toArray, List.set_cons_zero, List.set_cons_succ, i64_w, i32_w]
       rfl
      refine pure_ (i := 10) (N := some 29) (v := ?_) (a' := ?_) #[true, false, true, false, true, false, true, true, false, false, true, false, false, false, false, false] rfl rfl (any_of HT_.out (by kernel_rfl)) (fun _ _ _ h => h) (Or.inl ⟨by rfl, ?_⟩) ?_ ?_
      rotate_left
      ·intro w'
       go_simp
       with_reducible rfl
      rotate_left
      ·simp only [Act.put, List.setIfInBounds_toArray, List.set_cons_zero, List.set_cons_succ, i64_w, i32_w]
       rfl
      refine pure_ (i := 12) (N := some 31) (v := ?_) (a' := ?_) #[true, false, true, false, true, false, true, true, false, false, true, false, true, false, false, false] rfl rfl (any_of HT_.out (by kernel_rfl)) (fun _ _ _ h => h) (Or.inl ⟨by rfl, ?_⟩) ?_ ?_
      rotate_left
      ·intro w'
       go_simp
       with_reducible rfl
      rotate_left
      ·simp only [Act.put, List.setIfInBounds_toArray, List.set_cons_zero, List.set_cons_succ, i64_w, i32_w]
       rfl
      refine take_ (i := 1) (N := some 20) (v := ?_) (a' := ?_) #[true, true, true, false, true, false, true, true, false, false, true, false, true, false, false, false] rfl rfl (take_ofW HT_.out HW_.out (by kernel_rfl)) (fun _ _ _ h => h) (Or.inl ⟨by rfl, ?_⟩) hHeld ?_ ?_
      rotate_left
      ·rintro w' ⟨s0, s1⟩
       go_simp
       with_reducible rfl
      rotate_left
      ·simp only [Act.put, List.setIfInBounds_toArray, List.set_cons_zero, List.set_cons_succ, i64_w, i32_w]
       rfl
      refine pure_ (i := 3) (N := some 22) (v := ?_) (a' := ?_) #[true, true, true, true, true, false, true, true, false, false, true, false, true, false, false, false] rfl rfl (any_of HT_.out (by kernel_rfl)) (fun _ _ _ h => h) (Or.inl ⟨by rfl, ?_⟩) ?_ ?_
      rotate_left
      ·intro w'
       go_simp
       with_reducible rfl
      rotate_left
      ·simp only [Act.put, List.setIfInBounds_toArray, List.set_cons_zero, List.set_cons_succ, i64_w, i32_w]
       rfl
      refine take_ (i := 5) (N := some 24) (v := ?_) (a' := ?_) #[true, true, true, true, true, true, true, true, false, false, true, false, true, false, false, false] rfl rfl (take_ofW HT_.out HW_.out (by kernel_rfl)) (fun _ _ _ h => h) (Or.inl ⟨by rfl, ?_⟩) hHeld ?_ ?_
      rotate_left
      ·rintro w' ⟨s0, s1⟩
       go_simp
       with_reducible rfl
      rotate_left
      ·simp only [Act.put, List.setIfInBounds_toArray, List.set_cons_zero, List.set_cons_succ, i64_w, i32_w]
       rfl
      refine pure_ (i := 8) (N := some 27) (v := ?_) (a' := ?_) #[true, true, true, true, true, true, true, true, true, false, true, false, true, false, false, false] rfl rfl (any_of HT_.out (by kernel_rfl)) (fun _ _ _ h => h) (Or.inl ⟨by rfl, ?_⟩) ?_ ?_
      rotate_left
      ·intro w'
       go_simp
       with_reducible rfl
      rotate_left
      ·simp only [Act.put, List.setIfInBounds_toArray, List.set_cons_zero, List.set_cons_succ, i64_w, i32_w]
       rfl
      refine pure_ (i := 9) (N := some 28) (v := ?_) (a' := ?_) #[true, true, true, true, true, true, true, true, true, true, true, false, true, false, false, false] rfl rfl (any_of HT_.out (by kernel_rfl)) (fun _ _ _ h => h) (Or.inl ⟨by rfl, ?_⟩) ?_ ?_
      rotate_left
      ·intro w'
       go_simp
       with_reducible rfl
      rotate_left
      ·simp only [Act.put, List.setIfInBounds_toArray, List.set_cons_zero, List.set_cons_succ, i64_w, i32_w]
       rfl
      refine take_ (i := 11) (N := some 30) (v := ?_) (a' := ?_) #[true, true, true, true, true, true, true, true, true, true, true, true, true, false, false, false] rfl rfl (take_ofW HT_.out HW_.out (by kernel_rfl)) (fun _ _ _ h => h) (Or.inl ⟨by rfl, ?_⟩) hHeld ?_ ?_
      rotate_left
      ·rintro w' ⟨s0, s1⟩
       go_simp
       with_reducible rfl
      rotate_left
      ·simp only [Act.put, List.setIfInBounds_toArray, List.set_cons_zero, List.set_cons_succ, i64_w, i32_w]
       rfl
      refine pure_ (i := 13) (N := some 32) (v := ?_) (a' := ?_) #[true, true, true, true, true, true, true, true, true, true, true, true, true, true, false, false] rfl rfl (any_of HT_.out (by kernel_rfl)) (fun _ _ _ h => h) (Or.inl ⟨by rfl, ?_⟩) ?_ ?_
      rotate_left
      ·intro w'
       go_simp
       with_reducible rfl
      rotate_left
      ·simp only [Act.put, List.setIfInBounds_toArray, List.set_cons_zero, List.set_cons_succ, i64_w, i32_w]
       rfl
      refine pure_ (i := 14) (N := some 33) (v := ?_) (a' := ?_) #[true, true, true, true, true, true, true, true, true, true, true, true, true, true, true, false] rfl rfl (any_of HT_.out (by kernel_rfl)) (fun _ _ _ h => h) (Or.inl ⟨by rfl, ?_⟩) ?_ ?_
      rotate_left
      ·intro w'
       go_simp
       with_reducible rfl
      rotate_left
      ·simp only [Act.put, List.setIfInBounds_toArray, List.set_cons_zero, List.set_cons_succ, i64_w, i32_w]
       rfl
      refine one_ (i := 15) (N := none) #[true, true, true, true, true, true, true, true, true, true, true, true, true, true, true, true] rfl rfl (one_of HT_.out (by kernel_rfl)) (by decide) (fun K hK => ?_)
      have hs33 : w32.cell? ⟨gb706, 0, none⟩ = some (.int .u64 0) := (blk_cell BK706.out 0).trans rfl
      have hfs33 := blk_frozen BK706.out 0
      have hns33_0 := NB705_706.out
      have hms33_0 := NB706_705.out
      have hs34 : w32.cell? ⟨gb706, 1, none⟩ = some (.int .u64 0) := (blk_cell BK706.out 1).trans rfl
      have hfs34 := blk_frozen BK706.out 1
      have hns34_0 := NB705_706.out
      have hms34_0 := NB706_705.out
      refine skip_ (w1 := ?_) (by rfl) rfl ?_ ?_
      rotate_left
      ·go_simp
       rfl
      refine hK.out _ _ ⟨((cell_far (p := ⟨gb706, _, none⟩) NB705_706.out _).trans (((cell_far (p := ⟨gb706, _, none⟩) NB705_706.out _).trans (hHeld.1)))), ((cell_far (p := ⟨gb706, _, none⟩) NB705_706.out _).trans (((cell_far (p := ⟨gb706, _, none⟩) NB705_706.out _).trans (hHeld.2))))⟩ (fun hHeld => ?_)
      clear hK K
      refine done_ (done_of HT_.out (by kernel_rfl)) ?_
      try go_wp2
      refine bodyPost_ret (results_cell_row rfl _ _ gb706 24 #[.int .u64 (Go.bits .or .u64 (ji24) (ji27)), .int .u64 ji29] (0, 0) _ rfl (by (with_reducible repeat (first | refine blk_drewN ?_ _ | refine blk_drew ?_ | refine blk_alloc ?_ _)); refine blk_put (cs := #[.int .u64 (Go.bits .or .u64 (ji24) (ji27)), .int .u64 0]) ?_ 1 _ rfl; (with_reducible repeat (first | refine blk_drewN ?_ _ | refine blk_drew ?_ | refine blk_alloc ?_ _)); refine blk_put (cs := #[.int .u64 0, .int .u64 0]) ?_ 0 _ rfl; (with_reducible repeat (first | refine blk_drewN ?_ _ | refine blk_drew ?_ | refine blk_alloc ?_ _)); exact BK706.out) Tryd.underlying24 rfl (by kernel_rfl)) rfl ?_
      exact ⟨by first | rfl | (simp [errW_none, errW_some] <;> rfl) | (simp only [← hji24, ← hji25, ← hji27, ← hji29]; first | rfl | (simp [errW_none, errW_some] <;> rfl)) | (simp [*, errW_none, errW_some] <;> rfl), xG⟩
     ·rw [if_neg c26] at H
      exact absurd H (by simp)
    ·rw [if_neg c23] at H
     exact absurd H (by simp)
mutual
def turnpikeref2_Parse.j2 : Nat → List Int → Option (Int × Int × Int)
 | 0, _ => none
 | k + 1, x8 => turnpikeref2_Parse.l1 k x8 0 0 0
def turnpikeref2_Parse.l1 : Nat → List Int → Int → Int → Int → Option (Int × Int × Int)
 | 0, _, _, _, _ => none
 | k + 1, x8, x17, x734000, x734001 => if x17 < 8 then ((turnpikeref1_Shl.f x734000 x734001 16).bind fun bt734 => (if 0 ≤ x17 then (if x17 < (x8.length : Int) then (turnpikeref2_Parse.l1 k x8 (wrap64 (x17 + 1)) bt734.1 (Go.bits .or .u64 bt734.2 (IntKind.u64.wrap (rd x8 x17)))) else (none)) else (none))) else (some (x734000, x734001, 0))
def turnpikeref2_Parse.j0 : Nat → List Int → List Int → List Int → Bool → Option (Int × Int × Int)
 | 0, _, _, _, _ => none
 | k + 1, x8, x12, x14, x85 => if x85 = true then (some (0, 0, 12)) else (if x8.length + x12.length < 17592186044416 then (turnpikeref2_Parse.l0 k (x8 ++ x12) x14) else (none))
def turnpikeref2_Parse.l0 : Nat → List Int → List Int → Option (Int × Int × Int)
 | 0, _, _ => none
 | k + 1, x8, x14 => if (wrap64 ((x8.length : Int) + (x14.length : Int))) < 8 then (if x8.length < 17592186044416 then (turnpikeref2_Parse.l0 k (x8 ++ [0]) x14) else (none)) else (if x8.length + x14.length < 17592186044416 then (turnpikeref2_Parse.j2 k (x8 ++ x14)) else (none))
end
def turnpikeref2_Parse.f (k : Nat) (a0 : Int) (a1 : ByteArray) : Option (Int × Int × Int) := (turnpikeref2_IsFamily.f a0).bind fun t708 => (if t708 = true then (if (a1.size : Int) > 60 then (some (0, 0, 12)) else (if a0 = 32 then ((turnpikeref2_dotted.f k a1).bind fun bt709 => (if bt709.2 = true then (some (IntKind.u64.wrap (bt709.1 * 4294967296), 0, 0)) else (some (0, 0, 12)))) else ((turnpikeref2_gap.f k a1).bind fun t711 => (if t711 < 0 then ((turnpikeref2_groups.f k a1 true).bind fun bt712 => (if bt712.2 = true then (if (bt712.1.length : Int) = 8 then (turnpikeref2_Parse.j2 k bt712.1) else (some (0, 0, 12))) else (some (0, 0, 12)))) else (if 0 ≤ t711 then (if t711 ≤ (a1.size : Int) then ((turnpikeref2_groups.f k (a1.extract 0 (t711 : Int).toNat) false).bind fun bt716 => (if 0 ≤ (wrap64 (t711 + 2)) then (if (wrap64 (t711 + 2)) ≤ (a1.size : Int) then ((turnpikeref2_groups.f k (a1.extract ((wrap64 (t711 + 2)) : Int).toNat a1.size) true).bind fun bt720 => (if bt716.2 = true then (if bt720.2 = true then (turnpikeref2_Parse.j0 k ([] : List Int) bt716.1 bt720.1 (decide ((wrap64 ((bt716.1.length : Int) + (bt720.1.length : Int))) > 7))) else (turnpikeref2_Parse.j0 k ([] : List Int) bt716.1 bt720.1 true)) else (turnpikeref2_Parse.j0 k ([] : List Int) bt716.1 bt720.1 true))) else (none)) else (none))) else (none)) else (none)))))) else (some (0, 0, 11)))
theorem turnpikeref2_Parse.mono_l : ∀ k, (∀ y0, LeO (turnpikeref2_Parse.j2 k y0) (turnpikeref2_Parse.j2 (k + 1) y0)) ∧ (∀ y0 y1 y2 y3, LeO (turnpikeref2_Parse.l1 k y0 y1 y2 y3) (turnpikeref2_Parse.l1 (k + 1) y0 y1 y2 y3)) ∧ (∀ y0 y1 y2 y3, LeO (turnpikeref2_Parse.j0 k y0 y1 y2 y3) (turnpikeref2_Parse.j0 (k + 1) y0 y1 y2 y3)) ∧ (∀ y0 y1, LeO (turnpikeref2_Parse.l0 k y0 y1) (turnpikeref2_Parse.l0 (k + 1) y0 y1))
 | 0 => ⟨fun _ r h => by simp [turnpikeref2_Parse.j2] at h, fun _ _ _ _ r h => by simp [turnpikeref2_Parse.l1] at h, fun _ _ _ _ r h => by simp [turnpikeref2_Parse.j0] at h, fun _ _ r h => by simp [turnpikeref2_Parse.l0] at h⟩
 | k + 1 => by
  obtain ⟨ih0, ih1, ih2, ih3⟩ := turnpikeref2_Parse.mono_l k
  refine ⟨?_, ?_, ?_, ?_⟩
  ·intro y0
   unfold turnpikeref2_Parse.j2
   have m0 := @turnpikeref2_dotted.mono
   have m1 := @turnpikeref2_gap.mono
   have m2 := @turnpikeref2_groups.mono
   exact xO
  ·intro y0 y1 y2 y3
   unfold turnpikeref2_Parse.l1
   have m0 := @turnpikeref2_dotted.mono
   have m1 := @turnpikeref2_gap.mono
   have m2 := @turnpikeref2_groups.mono
   exact xO
  ·intro y0 y1 y2 y3
   unfold turnpikeref2_Parse.j0
   have m0 := @turnpikeref2_dotted.mono
   have m1 := @turnpikeref2_gap.mono
   have m2 := @turnpikeref2_groups.mono
   exact xO
  ·intro y0 y1
   unfold turnpikeref2_Parse.l0
   have m0 := @turnpikeref2_dotted.mono
   have m1 := @turnpikeref2_gap.mono
   have m2 := @turnpikeref2_groups.mono
   exact xO
theorem turnpikeref2_Parse.mono : ∀ a0 a1 k, LeO (turnpikeref2_Parse.f k a0 a1) (turnpikeref2_Parse.f (k + 1) a0 a1) := by
 intro a0 a1 k
 obtain ⟨ih0, ih1, ih2, ih3⟩ := turnpikeref2_Parse.mono_l k
 unfold turnpikeref2_Parse.f
 have m0 := @turnpikeref2_dotted.mono
 have m1 := @turnpikeref2_gap.mono
 have m2 := @turnpikeref2_groups.mono
 exact xO
def turnpikeref2_Parse.T30 : Bool × List (List Nat × List Nat) := (true, [([], []), ([0], [0]), ([], []), ([], []), ([2, 3], [2, 3]), ([4], [4]), ([5], [5]), ([1, 6], [1, 6]), ([0, 1, 2, 3, 4, 5, 6, 7], []), ([8, 7, 0, 1, 2, 3, 4, 5, 6, 7], [7, 8])])
def turnpikeref2_Parse.B30 : List Nat := [0, 1, 0, 0, 12, 28, 60, 127, 255, 511]
theorem turnpikeref2_Parse.tab30 : rtab .any (opsOf Tryd.f76 30) = turnpikeref2_Parse.T30 := by kernel_rfl
theorem turnpikeref2_Parse.bits30 : waitsOk turnpikeref2_Parse.T30.2 turnpikeref2_Parse.B30 = true := by kernel_rfl
set_option maxHeartbeats 8000000 in
set_option maxRecDepth 100000 in
theorem turnpikeref2_Parse.calls (k : Nat) (a0 : Int) (a1 : ByteArray) (r1 : Int) (r2 : Int) (r3 : Int) (w : World) (h : turnpikeref2_Parse.f k a0 a1 = some (r1, r2, r3)) :
  Calls Tryd.prog 76 #[.int .i64 a0, .string a1] w fun e w' => e = .returned (.tuple #[.agg #[.int .u64 r1, .int .u64 r2], .int .i64 r3]) ∧ Below w.heap.size w w' := by
 have hu24 := Tryd.underlying24
 have HB := Aside0.mk (Below.refl w.heap.size w)
 have H : ((turnpikeref2_IsFamily.f a0).bind fun t708 => (if t708 = true then (if (a1.size : Int) > 60 then (some (0, 0, 12)) else (if a0 = 32 then ((turnpikeref2_dotted.f k a1).bind fun bt709 => (if bt709.2 = true then (some (IntKind.u64.wrap (bt709.1 * 4294967296), 0, 0)) else (some (0, 0, 12)))) else ((turnpikeref2_gap.f k a1).bind fun t711 => (if t711 < 0 then ((turnpikeref2_groups.f k a1 true).bind fun bt712 => (if bt712.2 = true then (if (bt712.1.length : Int) = 8 then (turnpikeref2_Parse.j2 k bt712.1) else (some (0, 0, 12))) else (some (0, 0, 12)))) else (if 0 ≤ t711 then (if t711 ≤ (a1.size : Int) then ((turnpikeref2_groups.f k (a1.extract 0 (t711 : Int).toNat) false).bind fun bt716 => (if 0 ≤ (wrap64 (t711 + 2)) then (if (wrap64 (t711 + 2)) ≤ (a1.size : Int) then ((turnpikeref2_groups.f k (a1.extract ((wrap64 (t711 + 2)) : Int).toNat a1.size) true).bind fun bt720 => (if bt716.2 = true then (if bt720.2 = true then (turnpikeref2_Parse.j0 k ([] : List Int) bt716.1 bt720.1 (decide ((wrap64 ((bt716.1.length : Int) + (bt720.1.length : Int))) > 7))) else (turnpikeref2_Parse.j0 k ([] : List Int) bt716.1 bt720.1 true)) else (turnpikeref2_Parse.j0 k ([] : List Int) bt716.1 bt720.1 true))) else (none)) else (none))) else (none)) else (none)))))) else (some (0, 0, 11)))) = some (r1, r2, r3) := h
 clear h
 replace H := Option.bind_eq_some_iff.mp H
 obtain ⟨t708, A30, H⟩ := H
 replace H : (if t708 = true then (if (a1.size : Int) > 60 then (some (0, 0, 12)) else (if a0 = 32 then ((turnpikeref2_dotted.f k a1).bind fun bt709 => (if bt709.2 = true then (some (IntKind.u64.wrap (bt709.1 * 4294967296), 0, 0)) else (some (0, 0, 12)))) else ((turnpikeref2_gap.f k a1).bind fun t711 => (if t711 < 0 then ((turnpikeref2_groups.f k a1 true).bind fun bt712 => (if bt712.2 = true then (if (bt712.1.length : Int) = 8 then (turnpikeref2_Parse.j2 k bt712.1) else (some (0, 0, 12))) else (some (0, 0, 12)))) else (if 0 ≤ t711 then (if t711 ≤ (a1.size : Int) then ((turnpikeref2_groups.f k (a1.extract 0 (t711 : Int).toNat) false).bind fun bt716 => (if 0 ≤ (wrap64 (t711 + 2)) then (if (wrap64 (t711 + 2)) ≤ (a1.size : Int) then ((turnpikeref2_groups.f k (a1.extract ((wrap64 (t711 + 2)) : Int).toNat a1.size) true).bind fun bt720 => (if bt716.2 = true then (if bt720.2 = true then (turnpikeref2_Parse.j0 k ([] : List Int) bt716.1 bt720.1 (decide ((wrap64 ((bt716.1.length : Int) + (bt720.1.length : Int))) > 7))) else (turnpikeref2_Parse.j0 k ([] : List Int) bt716.1 bt720.1 true)) else (turnpikeref2_Parse.j0 k ([] : List Int) bt716.1 bt720.1 true))) else (none)) else (none))) else (none)) else (none)))))) else (some (0, 0, 11))) = some (r1, r2, r3) := H
 have A3 := Aside0.mk A30
 clear A30
 by_cases c4 : t708 = true
 ·subst c4
  have H1 : (if (a1.size : Int) > 60 then (some (0, 0, 12)) else (if a0 = 32 then ((turnpikeref2_dotted.f k a1).bind fun bt709 => (if bt709.2 = true then (some (IntKind.u64.wrap (bt709.1 * 4294967296), 0, 0)) else (some (0, 0, 12)))) else ((turnpikeref2_gap.f k a1).bind fun t711 => (if t711 < 0 then ((turnpikeref2_groups.f k a1 true).bind fun bt712 => (if bt712.2 = true then (if (bt712.1.length : Int) = 8 then (turnpikeref2_Parse.j2 k bt712.1) else (some (0, 0, 12))) else (some (0, 0, 12)))) else (if 0 ≤ t711 then (if t711 ≤ (a1.size : Int) then ((turnpikeref2_groups.f k (a1.extract 0 (t711 : Int).toNat) false).bind fun bt716 => (if 0 ≤ (wrap64 (t711 + 2)) then (if (wrap64 (t711 + 2)) ≤ (a1.size : Int) then ((turnpikeref2_groups.f k (a1.extract ((wrap64 (t711 + 2)) : Int).toNat a1.size) true).bind fun bt720 => (if bt716.2 = true then (if bt720.2 = true then (turnpikeref2_Parse.j0 k ([] : List Int) bt716.1 bt720.1 (decide ((wrap64 ((bt716.1.length : Int) + (bt720.1.length : Int))) > 7))) else (turnpikeref2_Parse.j0 k ([] : List Int) bt716.1 bt720.1 true)) else (turnpikeref2_Parse.j0 k ([] : List Int) bt716.1 bt720.1 true))) else (none)) else (none))) else (none)) else (none)))))) = some (r1, r2, r3) := by rw [if_pos rfl] at H; exact H
  clear H
  have H := H1
  clear H1
  by_cases c5 : (a1.size : Int) > 60
  ·rw [if_pos c5] at H
   have c5b0 : decide (60 < (a1.size : Int)) = true := decide_eq_true c5
   have c5b1 : decide (60 < a1.size) = true := decide_eq_true (by omega)
   clear c5
   simp only [Option.some.injEq, Prod.mk.injEq] at H
   obtain ⟨rfl, rfl, rfl⟩ := H
   go_enter Tryd.func76, Tryd.ntmps76
   go_wp2_with (first | ((with_reducible refine gate_dst (N := 4) rfl ?_); (try (refine gate_guard (by rfl) ?_; dsimp only)); refine box_event ?hg (N := 4) ?hd (cs := #[.int .u64 0, .int .u64 0]) (t := 24) ?hr ?_; (case hd => rfl); (case hg => rfl); (case hr => first | (go_simp; done) | (go_simp; rfl)); intro gb707 hg w6 hbox hb; have n0_ := Aside0.mk (below_step xB hb); have n1_ := Aside0.mk (hbox); have n2_ := xS w hg; have n3_ := xS w hg; clear HB; have HB := n0_; have BK707 := n1_; have GW707 := n2_; have GE707 := n3_; clear n0_ n1_ n2_ n3_; clear hb hbox hg) | ((with_reducible refine gate_callee (f := 63) rfl ?_); refine goesL_ (some 19) rfl rfl Tryd.func63 (by kernel_rfl) rfl #[.int .i64 a0] rfl xM ?_; (with_reducible refine (turnpikeref2_IsFamily.calls a0 true _ A3.out).mono ?_); rintro e w' ⟨rfl, ⟨nd, rfl⟩⟩; refine ⟨_, rfl, ?_⟩; (try (rw [drewN_self w6]; generalize hq_ : World.drewN w6 _ = w6; have n0_ : Aside0 (w6.heap[gb707]? = some (.cells #[.int .u64 0, .int .u64 0] 24 (0, 0))) := ⟨by rw [← hq_]; exact (xK BK707.out)⟩; have n1_ : Aside0 (Below w.heap.size w w6) := ⟨by rw [← hq_]; exact xG⟩; clear BK707 HB hq_; have BK707 := n0_; have HB := n1_; clear n0_ n1_)); have hcz7_0 : w6.cell? ⟨gb707, 0, none⟩ = some (.int .u64 0) := (blk_cell BK707.out 0).trans rfl; have hcz7_1 : w6.cell? ⟨gb707, 1, none⟩ = some (.int .u64 0) := (blk_cell BK707.out 1).trans rfl; have hfz7_0 := blk_frozen BK707.out 0; have hfz7_1 := blk_frozen BK707.out 1))
   refine bodyPost_ret (results_ct rfl _ _ gb707 24 #[.int .u64 0, .int .u64 0] (0, 0) _ rfl (by (with_reducible repeat (first | refine blk_drewN ?_ _ | refine blk_drew ?_ | refine blk_alloc ?_ _)); refine blk_put (cs := #[.int .u64 0, .int .u64 0]) ?_ 1 _ rfl; (with_reducible repeat (first | refine blk_drewN ?_ _ | refine blk_drew ?_ | refine blk_alloc ?_ _)); refine blk_put (cs := #[.int .u64 0, .int .u64 0]) ?_ 0 _ rfl; (with_reducible repeat (first | refine blk_drewN ?_ _ | refine blk_drew ?_ | refine blk_alloc ?_ _)); exact BK707.out) Tryd.underlying24 rfl (by kernel_rfl)) rfl ?_
   exact ⟨xE, xG⟩
  ·rw [if_neg c5] at H
   have c5b0 : decide (60 < (a1.size : Int)) = false := decide_eq_false c5
   have c5b1 : decide (60 < a1.size) = false := decide_eq_false (by omega)
   clear c5
   by_cases c8 : a0 = 32
   ·rw [if_pos c8] at H
    have c8b0 : (a0 == 32) = true := beq_iff_eq.mpr c8
    have c8b1 : (a0 != 32) = false := bne_eq_false_iff_eq.mpr c8
    clear c8
    replace H := Option.bind_eq_some_iff.mp H
    obtain ⟨⟨t709, t710⟩, A90, H⟩ := H
    replace H : (if t710 = true then (some (IntKind.u64.wrap (t709 * 4294967296), 0, 0)) else (some (0, 0, 12))) = some (r1, r2, r3) := H
    have A9 := Aside0.mk A90
    clear A90
    by_cases c10 : t710 = true
    ·subst c10
     have H1 : (some (IntKind.u64.wrap (t709 * 4294967296), 0, 0)) = some (r1, r2, r3) := by rw [if_pos rfl] at H; exact H
     clear H
     have H := H1
     clear H1
     simp only [Option.some.injEq, Prod.mk.injEq] at H
     obtain ⟨rfl, rfl, rfl⟩ := H
     go_enter Tryd.func76, Tryd.ntmps76
     go_wp2_with (first | ((with_reducible refine gate_dst (N := 4) rfl ?_); (try (refine gate_guard (by rfl) ?_; dsimp only)); refine box_event ?hg (N := 4) ?hd (cs := #[.int .u64 0, .int .u64 0]) (t := 24) ?hr ?_; (case hd => rfl); (case hg => rfl); (case hr => first | (go_simp; done) | (go_simp; rfl)); intro gb707 hg w11 hbox hb; have n0_ := Aside0.mk (below_step xB hb); have n1_ := Aside0.mk (hbox); have n2_ := xS w hg; have n3_ := xS w hg; clear HB; have HB := n0_; have BK707 := n1_; have GW707 := n2_; have GE707 := n3_; clear n0_ n1_ n2_ n3_; clear hb hbox hg) | ((with_reducible refine gate_callee (f := 63) rfl ?_); refine goesL_ (some 19) rfl rfl Tryd.func63 (by kernel_rfl) rfl #[.int .i64 a0] rfl xM ?_; (with_reducible refine (turnpikeref2_IsFamily.calls a0 true _ A3.out).mono ?_); rintro e w' ⟨rfl, ⟨nd, rfl⟩⟩; refine ⟨_, rfl, ?_⟩; (try (rw [drewN_self w11]; generalize hq_ : World.drewN w11 _ = w11; have n0_ : Aside0 (w11.heap[gb707]? = some (.cells #[.int .u64 0, .int .u64 0] 24 (0, 0))) := ⟨by rw [← hq_]; exact (xK BK707.out)⟩; have n1_ : Aside0 (Below w.heap.size w w11) := ⟨by rw [← hq_]; exact xG⟩; clear BK707 HB hq_; have BK707 := n0_; have HB := n1_; clear n0_ n1_))) | ((with_reducible refine gate_callee (f := 91) rfl ?_); refine goesL_ (some 30) rfl rfl Tryd.func91 (by kernel_rfl) rfl #[.string a1] rfl xM ?_; (with_reducible refine (turnpikeref2_dotted.calls k a1 t709 true _ A9.out).mono ?_); rintro e w12 ⟨rfl, hb⟩; refine ⟨_, rfl, ?_⟩; have n0_ := xP BK707.out hb; have n1_ := Aside0.mk (below_step xG hb); clear BK707; clear HB; have BK707 := n0_; have HB := n1_; clear n0_ n1_; (try clear hb); (try clear hb2); (try clear hk); (try clear hi); have hcz13_0 : w12.cell? ⟨gb707, 0, none⟩ = some (.int .u64 0) := (blk_cell BK707.out 0).trans rfl; have hcz13_1 : w12.cell? ⟨gb707, 1, none⟩ = some (.int .u64 0) := (blk_cell BK707.out 1).trans rfl; have hfz13_0 := blk_frozen BK707.out 0; have hfz13_1 := blk_frozen BK707.out 1))
     refine bodyPost_ret (results_ct rfl _ _ gb707 24 #[.int .u64 (IntKind.u64.wrap (t709 * 4294967296)), .int .u64 0] (0, 0) _ rfl (by (with_reducible repeat (first | refine blk_drewN ?_ _ | refine blk_drew ?_ | refine blk_alloc ?_ _)); refine blk_put (cs := #[.int .u64 (IntKind.u64.wrap (t709 * 4294967296)), .int .u64 0]) ?_ 1 _ rfl; (with_reducible repeat (first | refine blk_drewN ?_ _ | refine blk_drew ?_ | refine blk_alloc ?_ _)); refine blk_put (cs := #[.int .u64 0, .int .u64 0]) ?_ 0 _ rfl; (with_reducible repeat (first | refine blk_drewN ?_ _ | refine blk_drew ?_ | refine blk_alloc ?_ _)); exact BK707.out) Tryd.underlying24 rfl (by kernel_rfl)) rfl ?_
     exact ⟨xE, xG⟩
    ·replace c10 := Bool.eq_false_iff.mpr c10
     subst c10
     have H1 : (some (0, 0, 12)) = some (r1, r2, r3) := by rw [if_neg (show ¬ (false = true) by decide)] at H; exact H
     clear H
     have H := H1
     clear H1
     simp only [Option.some.injEq, Prod.mk.injEq] at H
     obtain ⟨rfl, rfl, rfl⟩ := H
     go_enter Tryd.func76, Tryd.ntmps76
     go_wp2_with (first | ((with_reducible refine gate_dst (N := 4) rfl ?_); (try (refine gate_guard (by rfl) ?_; dsimp only)); refine box_event ?hg (N := 4) ?hd (cs := #[.int .u64 0, .int .u64 0]) (t := 24) ?hr ?_; (case hd => rfl); (case hg => rfl); (case hr => first | (go_simp; done) | (go_simp; rfl)); intro gb707 hg w14 hbox hb; have n0_ := Aside0.mk (below_step xB hb); have n1_ := Aside0.mk (hbox); have n2_ := xS w hg; have n3_ := xS w hg; clear HB; have HB := n0_; have BK707 := n1_; have GW707 := n2_; have GE707 := n3_; clear n0_ n1_ n2_ n3_; clear hb hbox hg) | ((with_reducible refine gate_callee (f := 63) rfl ?_); refine goesL_ (some 19) rfl rfl Tryd.func63 (by kernel_rfl) rfl #[.int .i64 a0] rfl xM ?_; (with_reducible refine (turnpikeref2_IsFamily.calls a0 true _ A3.out).mono ?_); rintro e w' ⟨rfl, ⟨nd, rfl⟩⟩; refine ⟨_, rfl, ?_⟩; (try (rw [drewN_self w14]; generalize hq_ : World.drewN w14 _ = w14; have n0_ : Aside0 (w14.heap[gb707]? = some (.cells #[.int .u64 0, .int .u64 0] 24 (0, 0))) := ⟨by rw [← hq_]; exact (xK BK707.out)⟩; have n1_ : Aside0 (Below w.heap.size w w14) := ⟨by rw [← hq_]; exact xG⟩; clear BK707 HB hq_; have BK707 := n0_; have HB := n1_; clear n0_ n1_))) | ((with_reducible refine gate_callee (f := 91) rfl ?_); refine goesL_ (some 30) rfl rfl Tryd.func91 (by kernel_rfl) rfl #[.string a1] rfl xM ?_; (with_reducible refine (turnpikeref2_dotted.calls k a1 t709 false _ A9.out).mono ?_); rintro e w15 ⟨rfl, hb⟩; refine ⟨_, rfl, ?_⟩; have n0_ := xP BK707.out hb; have n1_ := Aside0.mk (below_step xG hb); clear BK707; clear HB; have BK707 := n0_; have HB := n1_; clear n0_ n1_; (try clear hb); (try clear hb2); (try clear hk); (try clear hi); have hcz16_0 : w15.cell? ⟨gb707, 0, none⟩ = some (.int .u64 0) := (blk_cell BK707.out 0).trans rfl; have hcz16_1 : w15.cell? ⟨gb707, 1, none⟩ = some (.int .u64 0) := (blk_cell BK707.out 1).trans rfl; have hfz16_0 := blk_frozen BK707.out 0; have hfz16_1 := blk_frozen BK707.out 1))
     refine bodyPost_ret (results_ct rfl _ _ gb707 24 #[.int .u64 0, .int .u64 0] (0, 0) _ rfl (by (with_reducible repeat (first | refine blk_drewN ?_ _ | refine blk_drew ?_ | refine blk_alloc ?_ _)); refine blk_put (cs := #[.int .u64 0, .int .u64 0]) ?_ 1 _ rfl; (with_reducible repeat (first | refine blk_drewN ?_ _ | refine blk_drew ?_ | refine blk_alloc ?_ _)); refine blk_put (cs := #[.int .u64 0, .int .u64 0]) ?_ 0 _ rfl; (with_reducible repeat (first | refine blk_drewN ?_ _ | refine blk_drew ?_ | refine blk_alloc ?_ _)); exact BK707.out) Tryd.underlying24 rfl (by kernel_rfl)) rfl ?_
     exact ⟨xE, xG⟩
   ·rw [if_neg c8] at H
    have c8b0 : (a0 == 32) = false := beq_eq_false_iff_ne.mpr c8
    have c8b1 : (a0 != 32) = true := bne_iff_ne.mpr c8
    replace H := Option.bind_eq_some_iff.mp H
    obtain ⟨t711, A170, H⟩ := H
    replace H : (if t711 < 0 then ((turnpikeref2_groups.f k a1 true).bind fun bt712 => (if bt712.2 = true then (if (bt712.1.length : Int) = 8 then (turnpikeref2_Parse.j2 k bt712.1) else (some (0, 0, 12))) else (some (0, 0, 12)))) else (if 0 ≤ t711 then (if t711 ≤ (a1.size : Int) then ((turnpikeref2_groups.f k (a1.extract 0 (t711 : Int).toNat) false).bind fun bt716 => (if 0 ≤ (wrap64 (t711 + 2)) then (if (wrap64 (t711 + 2)) ≤ (a1.size : Int) then ((turnpikeref2_groups.f k (a1.extract ((wrap64 (t711 + 2)) : Int).toNat a1.size) true).bind fun bt720 => (if bt716.2 = true then (if bt720.2 = true then (turnpikeref2_Parse.j0 k ([] : List Int) bt716.1 bt720.1 (decide ((wrap64 ((bt716.1.length : Int) + (bt720.1.length : Int))) > 7))) else (turnpikeref2_Parse.j0 k ([] : List Int) bt716.1 bt720.1 true)) else (turnpikeref2_Parse.j0 k ([] : List Int) bt716.1 bt720.1 true))) else (none)) else (none))) else (none)) else (none))) = some (r1, r2, r3) := H
    have A17 := Aside0.mk A170
    clear A170
    have HC18 := Aside0.mk H
    clear H
    go_enter Tryd.func76, Tryd.ntmps76
    go_upto_if 42 with (first | ((with_reducible refine gate_dst (N := 4) rfl ?_); (try (refine gate_guard (by rfl) ?_; dsimp only)); refine box_event ?hg (N := 4) ?hd (cs := #[.int .u64 0, .int .u64 0]) (t := 24) ?hr ?_; (case hd => rfl); (case hg => rfl); (case hr => first | (go_simp; done) | (go_simp; rfl)); intro gb707 hg w19 hbox hb; have n0_ := Aside0.mk (below_step xB hb); have n1_ := Aside0.mk (hbox); have n2_ := xS w hg; have n3_ := xS w hg; clear HB; have HB := n0_; have BK707 := n1_; have GW707 := n2_; have GE707 := n3_; clear n0_ n1_ n2_ n3_; clear hb hbox hg) | ((with_reducible refine gate_callee (f := 63) rfl ?_); refine goesL_ (some 19) rfl rfl Tryd.func63 (by kernel_rfl) rfl #[.int .i64 a0] rfl xM ?_; (with_reducible refine (turnpikeref2_IsFamily.calls a0 true _ A3.out).mono ?_); rintro e w' ⟨rfl, ⟨nd, rfl⟩⟩; refine ⟨_, rfl, ?_⟩) | ((with_reducible refine gate_callee (f := 92) rfl ?_); refine goesL_ (some 40) rfl rfl Tryd.func92 (by kernel_rfl) rfl #[.string a1] rfl xM ?_; (with_reducible refine (turnpikeref2_gap.calls k a1 t711 _ A17.out).mono ?_); rintro e w' ⟨rfl, ⟨nd, rfl⟩⟩; refine ⟨_, rfl, ?_⟩))
    (try simp only [Act.put, List.setIfInBounds_toArray, List.set_cons_zero, List.set_cons_succ])
    go_cut [8] (fun v8 wc => ∃ (kq : Nat) (x8_17 : List Int) (x708000_17 : Int) (x708001_17 : Int), Aside0 (turnpikeref2_Parse.j2 kq x8_17 = some (r1, r2, r3)) ∧ Aside0 (kq ≤ k) ∧ Aside0 (Kd.R (Kd.int .i64) 3 wc w.heap.size (fun _ => True) v8 x8_17) ∧ Aside0 (wc.heap[gb707]? = some (.cells #[.int .u64 x708000_17, .int .u64 x708001_17] 24 (0, 0))) ∧ Aside0 (Below w.heap.size w wc))
    case first =>
     have H := HC18.out
     clear HC18
     by_cases c20 : t711 < 0
     ·rw [if_pos c20] at H
      have c20b0 : decide (t711 < 0) = true := decide_eq_true c20
      clear c20
      (first | rw [c20b0] | (simp only [i64_w, i32_w]; rw [c20b0]) | skip)
      replace H := Option.bind_eq_some_iff.mp H
      obtain ⟨⟨t712, t713⟩, A210, H⟩ := H
      replace H : (if t713 = true then (if (t712.length : Int) = 8 then (turnpikeref2_Parse.j2 k t712) else (some (0, 0, 12))) else (some (0, 0, 12))) = some (r1, r2, r3) := H
      have A21 := Aside0.mk A210
      clear A210
      by_cases c22 : t713 = true
      ·subst c22
       have H1 : (if (t712.length : Int) = 8 then (turnpikeref2_Parse.j2 k t712) else (some (0, 0, 12))) = some (r1, r2, r3) := by rw [if_pos rfl] at H; exact H
       clear H
       have H := H1
       clear H1
       by_cases c23 : (t712.length : Int) = 8
       ·rw [if_pos c23] at H
        have c23b0 : ((t712.length : Int) == 8) = true := beq_iff_eq.mpr c23
        have c23b1 : ((t712.length : Int) != 8) = false := bne_eq_false_iff_eq.mpr c23
        clear c23
        have H' := Aside0.mk H
        clear H
        go_wp2_with (first | ((with_reducible refine gate_callee (f := 93) rfl ?_); refine goesL_ (some 45) rfl rfl Tryd.func93 (by kernel_rfl) rfl #[.string a1, .bool true] rfl xM ?_; (with_reducible refine (turnpikeref2_groups.calls k a1 true t712 true _ A21.out).mono ?_); rintro e w24 ⟨v714, rfl, ho0, hb⟩; refine ⟨_, rfl, ?_⟩; have n0_ := Aside0.mk (Kd.R_lower ho0 (below_size xG)); have n1_ := xP BK707.out hb; have n2_ := Aside0.mk (below_step xG hb); clear BK707; clear HB; have HO715 := n0_; have BK707 := n1_; have HB := n2_; clear n0_ n1_ n2_; (try clear hb); (try clear hb2); (try clear hk); (try clear hi); (try clear ho0); obtain ⟨Ao25, co25, eo25⟩ := Kd.R_slice HO715.out; subst eo25))
        go_meet
        case rel => exact ⟨_, (t712), (0), (0), H', ⟨by first | omega | exact Nat.le_refl _⟩, ⟨xR HO715.out⟩, ⟨xK BK707.out⟩, ⟨xG⟩⟩
       ·rw [if_neg c23] at H
        have c23b0 : ((t712.length : Int) == 8) = false := beq_eq_false_iff_ne.mpr c23
        have c23b1 : ((t712.length : Int) != 8) = true := bne_iff_ne.mpr c23
        simp only [Option.some.injEq, Prod.mk.injEq] at H
        obtain ⟨rfl, rfl, rfl⟩ := H
        go_wp2_with (first | ((with_reducible refine gate_callee (f := 93) rfl ?_); refine goesL_ (some 45) rfl rfl Tryd.func93 (by kernel_rfl) rfl #[.string a1, .bool true] rfl xM ?_; (with_reducible refine (turnpikeref2_groups.calls k a1 true t712 true _ A21.out).mono ?_); rintro e w26 ⟨v714, rfl, ho0, hb⟩; refine ⟨_, rfl, ?_⟩; have n0_ := Aside0.mk (Kd.R_lower ho0 (below_size xG)); have n1_ := xP BK707.out hb; have n2_ := Aside0.mk (below_step xG hb); clear BK707; clear HB; have HO715 := n0_; have BK707 := n1_; have HB := n2_; clear n0_ n1_ n2_; (try clear hb); (try clear hb2); (try clear hk); (try clear hi); (try clear ho0); obtain ⟨Ao27, co27, eo27⟩ := Kd.R_slice HO715.out; subst eo27; have hcz28_0 : w26.cell? ⟨gb707, 0, none⟩ = some (.int .u64 0) := (blk_cell BK707.out 0).trans rfl; have hcz28_1 : w26.cell? ⟨gb707, 1, none⟩ = some (.int .u64 0) := (blk_cell BK707.out 1).trans rfl; have hfz28_0 := blk_frozen BK707.out 0; have hfz28_1 := blk_frozen BK707.out 1))
        refine bodyPost_ret (results_ct rfl _ _ gb707 24 #[.int .u64 0, .int .u64 0] (0, 0) _ rfl (by (with_reducible repeat (first | refine blk_drewN ?_ _ | refine blk_drew ?_ | refine blk_alloc ?_ _)); refine blk_put (cs := #[.int .u64 0, .int .u64 0]) ?_ 1 _ rfl; (with_reducible repeat (first | refine blk_drewN ?_ _ | refine blk_drew ?_ | refine blk_alloc ?_ _)); refine blk_put (cs := #[.int .u64 0, .int .u64 0]) ?_ 0 _ rfl; (with_reducible repeat (first | refine blk_drewN ?_ _ | refine blk_drew ?_ | refine blk_alloc ?_ _)); exact BK707.out) Tryd.underlying24 rfl (by kernel_rfl)) rfl ?_
        exact ⟨xE, xG⟩
      ·replace c22 := Bool.eq_false_iff.mpr c22
       subst c22
       have H1 : (some (0, 0, 12)) = some (r1, r2, r3) := by rw [if_neg (show ¬ (false = true) by decide)] at H; exact H
       clear H
       have H := H1
       clear H1
       simp only [Option.some.injEq, Prod.mk.injEq] at H
       obtain ⟨rfl, rfl, rfl⟩ := H
       go_wp2_with (first | ((with_reducible refine gate_callee (f := 93) rfl ?_); refine goesL_ (some 45) rfl rfl Tryd.func93 (by kernel_rfl) rfl #[.string a1, .bool true] rfl xM ?_; (with_reducible refine (turnpikeref2_groups.calls k a1 true t712 false _ A21.out).mono ?_); rintro e w29 ⟨v714, rfl, ho0, hb⟩; refine ⟨_, rfl, ?_⟩; have n0_ := Aside0.mk (Kd.R_lower ho0 (below_size xG)); have n1_ := xP BK707.out hb; have n2_ := Aside0.mk (below_step xG hb); clear BK707; clear HB; have HO715 := n0_; have BK707 := n1_; have HB := n2_; clear n0_ n1_ n2_; (try clear hb); (try clear hb2); (try clear hk); (try clear hi); (try clear ho0); have hcz30_0 : w29.cell? ⟨gb707, 0, none⟩ = some (.int .u64 0) := (blk_cell BK707.out 0).trans rfl; have hcz30_1 : w29.cell? ⟨gb707, 1, none⟩ = some (.int .u64 0) := (blk_cell BK707.out 1).trans rfl; have hfz30_0 := blk_frozen BK707.out 0; have hfz30_1 := blk_frozen BK707.out 1))
       refine bodyPost_ret (results_ct rfl _ _ gb707 24 #[.int .u64 0, .int .u64 0] (0, 0) _ rfl (by (with_reducible repeat (first | refine blk_drewN ?_ _ | refine blk_drew ?_ | refine blk_alloc ?_ _)); refine blk_put (cs := #[.int .u64 0, .int .u64 0]) ?_ 1 _ rfl; (with_reducible repeat (first | refine blk_drewN ?_ _ | refine blk_drew ?_ | refine blk_alloc ?_ _)); refine blk_put (cs := #[.int .u64 0, .int .u64 0]) ?_ 0 _ rfl; (with_reducible repeat (first | refine blk_drewN ?_ _ | refine blk_drew ?_ | refine blk_alloc ?_ _)); exact BK707.out) Tryd.underlying24 rfl (by kernel_rfl)) rfl ?_
       exact ⟨xE, xG⟩
     ·rw [if_neg c20] at H
      have c20b0 : decide (t711 < 0) = false := decide_eq_false c20
      clear c20
      (first | rw [c20b0] | (simp only [i64_w, i32_w]; rw [c20b0]) | skip)
      by_cases c31 : 0 ≤ t711
      ·rw [if_pos c31] at H
       have c31b0 := eq_true c31
       have c31b1 : decide (0 ≤ t711) = true := decide_eq_true c31
       clear c31
       by_cases c32 : t711 ≤ (a1.size : Int)
       ·rw [if_pos c32] at H
        have c32b0 := eq_true c32
        have c32b1 : decide (t711 ≤ (a1.size : Int)) = true := decide_eq_true c32
        clear c32
        replace H := Option.bind_eq_some_iff.mp H
        obtain ⟨⟨t716, t717⟩, A330, H⟩ := H
        replace H : (if 0 ≤ (wrap64 (t711 + 2)) then (if (wrap64 (t711 + 2)) ≤ (a1.size : Int) then ((turnpikeref2_groups.f k (a1.extract ((wrap64 (t711 + 2)) : Int).toNat a1.size) true).bind fun bt720 => (if t717 = true then (if bt720.2 = true then (turnpikeref2_Parse.j0 k ([] : List Int) t716 bt720.1 (decide ((wrap64 ((t716.length : Int) + (bt720.1.length : Int))) > 7))) else (turnpikeref2_Parse.j0 k ([] : List Int) t716 bt720.1 true)) else (turnpikeref2_Parse.j0 k ([] : List Int) t716 bt720.1 true))) else (none)) else (none)) = some (r1, r2, r3) := H
        have A33 := Aside0.mk A330
        clear A330
        obtain ⟨ji34, hji34⟩ : ∃ j_ : Int, (wrap64 (t711 + 2)) = j_ := ⟨_, rfl⟩
        replace H : (if 0 ≤ (ji34) then (if (ji34) ≤ (a1.size : Int) then ((turnpikeref2_groups.f k (a1.extract ((ji34) : Int).toNat a1.size) true).bind fun bt720 => (if t717 = true then (if bt720.2 = true then (turnpikeref2_Parse.j0 k ([] : List Int) t716 bt720.1 (decide ((wrap64 ((t716.length : Int) + (bt720.1.length : Int))) > 7))) else (turnpikeref2_Parse.j0 k ([] : List Int) t716 bt720.1 true)) else (turnpikeref2_Parse.j0 k ([] : List Int) t716 bt720.1 true))) else (none)) else (none)) = some (r1, r2, r3) := by first | (rw [hji34] at H; exact H) | (simp only [hji34] at H ⊢; exact H)
        (try rw [hji34] at A33)
        have hji34w : (IntKind.i64.wrap (t711 + 2)) = ji34 := (i64_w _).trans hji34
        by_cases c35 : 0 ≤ (ji34)
        ·rw [if_pos c35] at H
         have c35b0 := eq_true c35
         have c35b1 : decide (0 ≤ (ji34)) = true := decide_eq_true c35
         clear c35
         by_cases c36 : (ji34) ≤ (a1.size : Int)
         ·rw [if_pos c36] at H
          have c36b0 := eq_true c36
          have c36b1 : decide ((ji34) ≤ (a1.size : Int)) = true := decide_eq_true c36
          clear c36
          replace H := Option.bind_eq_some_iff.mp H
          obtain ⟨⟨t720, t721⟩, A370, H⟩ := H
          replace H : (if t717 = true then (if t721 = true then (turnpikeref2_Parse.j0 k ([] : List Int) t716 t720 (decide ((wrap64 ((t716.length : Int) + (t720.length : Int))) > 7))) else (turnpikeref2_Parse.j0 k ([] : List Int) t716 t720 true)) else (turnpikeref2_Parse.j0 k ([] : List Int) t716 t720 true)) = some (r1, r2, r3) := H
          have A37 := Aside0.mk A370
          clear A370
          have HC38 := Aside0.mk H
          clear H
          go_upto_region 19 with (first | ((with_reducible refine gate_callee (f := 93) rfl ?_); refine goesL_ (some 61) rfl rfl Tryd.func93 (by kernel_rfl) rfl #[.string (a1.extract 0 (t711 : Int).toNat), .bool false] rfl xM ?_; (with_reducible refine (turnpikeref2_groups.calls k (a1.extract 0 (t711 : Int).toNat) false t716 t717 _ A33.out).mono ?_); rintro e w39 ⟨v718, rfl, ho0, hb⟩; refine ⟨_, rfl, ?_⟩; have n0_ := Aside0.mk (Kd.R_lower ho0 (below_size xG)); have n1_ := xP BK707.out hb; have n2_ := Aside0.mk (below_step xG hb); clear BK707; clear HB; have HO719 := n0_; have BK707 := n1_; have HB := n2_; clear n0_ n1_ n2_; (try clear hb); (try clear hb2); (try clear hk); (try clear hi); (try clear ho0)) | ((with_reducible refine gate_callee (f := 93) rfl ?_); refine goesL_ (some 69) rfl rfl Tryd.func93 (by kernel_rfl) rfl #[.string (a1.extract ((ji34) : Int).toNat a1.size), .bool true] rfl (by (try simp only [List.map_toArray, List.map_cons, List.map_nil]); first | done | (simp only [hji34]; rfl) | rfl | (simp only [List.length_drop, List.length_take]; rfl)) ?_; (with_reducible refine (turnpikeref2_groups.calls k (a1.extract ((ji34) : Int).toNat a1.size) true t720 t721 _ A37.out).mono ?_); rintro e w40 ⟨v722, rfl, ho0, hb⟩; refine ⟨_, rfl, ?_⟩; have n0_ := Aside0.mk (Kd.R_elder' (xR HO719.out) (Kd.R_base ho0) hb); have n1_ := Aside0.mk (Kd.R_lower (Kd.R_new' ho0 (Kd.R_lt (xR HO719.out))) (below_size xG)); have n2_ := xP BK707.out hb; have n3_ := Aside0.mk (below_step xG hb); clear HO719; clear BK707; clear HB; have HO719 := n0_; have HO723 := n1_; have BK707 := n2_; have HB := n3_; clear n0_ n1_ n2_ n3_; (try clear hb); (try clear hb2); (try clear hk); (try clear hi); (try clear ho0)))
          (try simp only [Act.put, List.setIfInBounds_toArray, List.set_cons_zero, List.set_cons_succ])
          go_cut [85] (fun v85 wc => ∃ (kq : Nat) (x85_37 : Bool), v85 = .bool x85_37 ∧ Aside0 (turnpikeref2_Parse.j0 kq ([] : List Int) t716 t720 x85_37 = some (r1, r2, r3)) ∧ Aside0 (kq ≤ k) ∧ Aside0 (Kd.R (Kd.int .i64) 3 wc w.heap.size (fun k_ => some k_ ≠ (v718 : Value).ownBlock ∧ some k_ ≠ (v722 : Value).ownBlock) (.slice none 0 0) ([] : List Int)) ∧ Aside0 (Kd.R (Kd.int .i64) 3 wc w.heap.size (fun k_ => some k_ ≠ ((.slice none 0 0) : Value).ownBlock ∧ some k_ ≠ (v722 : Value).ownBlock) v718 t716) ∧ Aside0 (Kd.R (Kd.int .i64) 3 wc w.heap.size (fun k_ => some k_ ≠ ((.slice none 0 0) : Value).ownBlock ∧ some k_ ≠ (v718 : Value).ownBlock) v722 t720) ∧ Aside0 (wc.heap[gb707]? = some (.cells #[.int .u64 0, .int .u64 0] 24 (0, 0))) ∧ Aside0 (Below w.heap.size w wc))
          case first =>
           have H := HC38.out
           clear HC38
           by_cases c41 : t717 = true
           ·subst c41
            have H1 : (if t721 = true then (turnpikeref2_Parse.j0 k ([] : List Int) t716 t720 (decide ((wrap64 ((t716.length : Int) + (t720.length : Int))) > 7))) else (turnpikeref2_Parse.j0 k ([] : List Int) t716 t720 true)) = some (r1, r2, r3) := by rw [if_pos rfl] at H; exact H
            clear H
            have H := H1
            clear H1
            by_cases c42 : t721 = true
            ·subst c42
             have H1 : (turnpikeref2_Parse.j0 k ([] : List Int) t716 t720 (decide ((wrap64 ((t716.length : Int) + (t720.length : Int))) > 7))) = some (r1, r2, r3) := by rw [if_pos rfl] at H; exact H
             clear H
             have H := H1
             clear H1
             have H' := Aside0.mk H
             clear H
             obtain ⟨Ao43, co43, eo43⟩ := Kd.R_slice HO719.out
             subst eo43
             obtain ⟨Ao44, co44, eo44⟩ := Kd.R_slice HO723.out
             subst eo44
             go_wp2
             go_meet
             case rel => exact ⟨_, (decide ((wrap64 ((t716.length : Int) + (t720.length : Int))) > 7)), xV, H', ⟨by first | omega | exact Nat.le_refl _⟩, ⟨by first | exact Kd.R_nil _ _ _ _ _ | exact Kd.N_nil _ _ _ _ _ | exact Kd.V_nil _ _ _ _ _ | exact Kd.Q_nil _ _ _ _ _ | exact Kd.S_nil _ _ _ _ _⟩, ⟨by (with_reducible repeat (first | apply Kd.R_alloc | apply Kd.R_drewN | apply Kd.R_drew)); exact Kd.R_mono HO719.out (fun _ hk => ⟨(by simp [Value.ownBlock]), hk.2⟩)⟩, ⟨by (with_reducible repeat (first | apply Kd.R_alloc | apply Kd.R_drewN | apply Kd.R_drew)); exact Kd.R_mono HO723.out (fun _ hk => ⟨(by simp [Value.ownBlock]), hk.2⟩)⟩, ⟨xK BK707.out⟩, ⟨xG⟩⟩
            ·replace c42 := Bool.eq_false_iff.mpr c42
             subst c42
             have H1 : (turnpikeref2_Parse.j0 k ([] : List Int) t716 t720 true) = some (r1, r2, r3) := by rw [if_neg (show ¬ (false = true) by decide)] at H; exact H
             clear H
             have H := H1
             clear H1
             have H' := Aside0.mk H
             clear H
             go_wp2
             go_meet
             case rel => exact ⟨_, (true), xV, H', ⟨by first | omega | exact Nat.le_refl _⟩, ⟨by first | exact Kd.R_nil _ _ _ _ _ | exact Kd.N_nil _ _ _ _ _ | exact Kd.V_nil _ _ _ _ _ | exact Kd.Q_nil _ _ _ _ _ | exact Kd.S_nil _ _ _ _ _⟩, ⟨by (with_reducible repeat (first | apply Kd.R_alloc | apply Kd.R_drewN | apply Kd.R_drew)); exact Kd.R_mono HO719.out (fun _ hk => ⟨(by simp [Value.ownBlock]), hk.2⟩)⟩, ⟨by (with_reducible repeat (first | apply Kd.R_alloc | apply Kd.R_drewN | apply Kd.R_drew)); exact Kd.R_mono HO723.out (fun _ hk => ⟨(by simp [Value.ownBlock]), hk.2⟩)⟩, ⟨xK BK707.out⟩, ⟨xG⟩⟩
           ·replace c41 := Bool.eq_false_iff.mpr c41
            subst c41
            have H1 : (turnpikeref2_Parse.j0 k ([] : List Int) t716 t720 true) = some (r1, r2, r3) := by rw [if_neg (show ¬ (false = true) by decide)] at H; exact H
            clear H
            have H := H1
            clear H1
            have H' := Aside0.mk H
            clear H
            go_wp2
            go_meet
            case rel => exact ⟨_, (true), xV, H', ⟨by first | omega | exact Nat.le_refl _⟩, ⟨by first | exact Kd.R_nil _ _ _ _ _ | exact Kd.N_nil _ _ _ _ _ | exact Kd.V_nil _ _ _ _ _ | exact Kd.Q_nil _ _ _ _ _ | exact Kd.S_nil _ _ _ _ _⟩, ⟨by (with_reducible repeat (first | apply Kd.R_alloc | apply Kd.R_drewN | apply Kd.R_drew)); exact Kd.R_mono HO719.out (fun _ hk => ⟨(by simp [Value.ownBlock]), hk.2⟩)⟩, ⟨by (with_reducible repeat (first | apply Kd.R_alloc | apply Kd.R_drewN | apply Kd.R_drew)); exact Kd.R_mono HO723.out (fun _ hk => ⟨(by simp [Value.ownBlock]), hk.2⟩)⟩, ⟨xK BK707.out⟩, ⟨xG⟩⟩
          case rest =>
           clear HC38
           try clear c1
           try clear c2
           try clear p2
           try clear c3
           try clear c4
           try clear c5
           try clear c5b0
           try clear c5b1
           try clear c6
           try clear p6
           try clear c7
           try clear c8
           try clear c8b0
           try clear c8b1
           try clear c9
           try clear c10
           try clear c20
           try clear c20b0
           try clear c22
           try clear c23
           try clear c23b0
           try clear c23b1
           try clear c31
           try clear c31b0
           try clear c31b1
           try clear c32
           try clear c32b0
           try clear c32b1
           try clear c35
           try clear c35b0
           try clear c35b1
           try clear c36
           try clear c36b0
           try clear c36b1
           try clear c41
           try clear c42
           try clear hcz13_0
           try clear hcz13_1
           try clear hcz16_0
           try clear hcz16_1
           try clear hcz28_0
           try clear hcz28_1
           try clear hcz30_0
           try clear hcz30_1
           try clear hcz7_0
           try clear hcz7_1
           try clear hfz13_0
           try clear hfz13_1
           try clear hfz16_0
           try clear hfz16_1
           try clear hfz28_0
           try clear hfz28_1
           try clear hfz30_0
           try clear hfz30_1
           try clear hfz7_0
           try clear hfz7_1
           obtain ⟨kq, x85_37, rfl, HA, HJ37, HO_8, HO_12, HO_14, BK707, HB⟩ := hcut
           cases kq with
           | zero => exact absurd HA.out (by simp [turnpikeref2_Parse.j0])
           | succ kj37 =>
            have H := HA.out
            clear HA
            simp only [turnpikeref2_Parse.j0] at H
            by_cases c45 : x85_37 = true
            ·subst c45
             have H1 : (some (0, 0, 12)) = some (r1, r2, r3) := by rw [if_pos rfl] at H; exact H
             clear H
             have H := H1
             clear H1
             simp only [Option.some.injEq, Prod.mk.injEq] at H
             obtain ⟨rfl, rfl, rfl⟩ := H
             have hcz46_0 : wc.cell? ⟨gb707, 0, none⟩ = some (.int .u64 0) := (blk_cell BK707.out 0).trans rfl
             have hcz46_1 : wc.cell? ⟨gb707, 1, none⟩ = some (.int .u64 0) := (blk_cell BK707.out 1).trans rfl
             have hfz46_0 := blk_frozen BK707.out 0
             have hfz46_1 := blk_frozen BK707.out 1
             go_wp2
             refine bodyPost_ret (results_ct rfl _ _ gb707 24 #[.int .u64 0, .int .u64 0] (0, 0) _ rfl (by (with_reducible repeat (first | refine blk_drewN ?_ _ | refine blk_drew ?_ | refine blk_alloc ?_ _)); refine blk_put (cs := #[.int .u64 0, .int .u64 0]) ?_ 1 _ rfl; (with_reducible repeat (first | refine blk_drewN ?_ _ | refine blk_drew ?_ | refine blk_alloc ?_ _)); refine blk_put (cs := #[.int .u64 0, .int .u64 0]) ?_ 0 _ rfl; (with_reducible repeat (first | refine blk_drewN ?_ _ | refine blk_drew ?_ | refine blk_alloc ?_ _)); exact BK707.out) Tryd.underlying24 rfl (by kernel_rfl)) rfl ?_
             exact ⟨by first | rfl | (simp [errW_none, errW_some] <;> rfl) | (simp only [← hji34]; first | rfl | (simp [errW_none, errW_some] <;> rfl)) | (simp [*, errW_none, errW_some] <;> rfl), xG⟩
            ·replace c45 := Bool.eq_false_iff.mpr c45
             subst c45
             have H1 : (if ([] : List Int).length + t716.length < 17592186044416 then (turnpikeref2_Parse.l0 kj37 (([] : List Int) ++ t716) t720) else (none)) = some (r1, r2, r3) := by rw [if_neg (show ¬ (false = true) by decide)] at H; exact H
             clear H
             have H := H1
             clear H1
             by_cases c47 : ([] : List Int).length + t716.length < 17592186044416
             ·rw [if_pos c47] at H
              have LMc47 := Aside0.mk c47
              clear c47
              obtain ⟨y724, hy724⟩ : ∃ y_ : List Int, y_ = (([] : List Int) ++ t716) := ⟨_, rfl⟩
              replace H : (turnpikeref2_Parse.l0 kj37 y724 t720) = some (r1, r2, r3) := by first | (rw [hy724]; with_reducible exact H) | (have H2_ := (Option.bind_some _ _).symm.trans H; rw [hy724]; with_reducible exact H2_) | (have H2_ := (Option.bind_some _ _).symm.trans H; with_reducible exact H2_) | with_reducible exact H | (rw [hy724]; exact H) | exact H
              have Ny724 := Aside0.mk hy724
              clear hy724
              have H' := Aside0.mk H
              clear H
              obtain ⟨Ao49, co49, eo49⟩ := Kd.R_slice HO_12.out
              subst eo49
              go_wp2_with (first | ((with_reducible refine gate_builtin (b := .append) (xs := #[.tmp 87, .tmp 88]) rfl ?_); (try (refine gate_guard (by rfl) ?_; dsimp only)); at_builtin; refine Kd.R_append_rows (Kd.int .i64) (w0 := w) w.heap.size rfl (.tmp 87) (.tmp 88) 107 3 (.int .i64 0) 8 rfl Tryd.underlying107 info3 rfl (by decide) (by omega) (.slice none 0 0) ([] : List Int) t716 _ _ _ (fun k_ => some k_ ≠ (.slice Ao49 t716.length co49 : Value).ownBlock ∧ some k_ ≠ (v722 : Value).ownBlock) (fun _ => False) rfl rfl ?aO ?aR (fun _ _ h => h) (fun _ h => h.elim) ?aF ?aB ?aS ?aL ?_; (case aR => repeat (first | exact (Kd.R_reads' HO_12.out).2.2 | (with_reducible refine Kd.C_alloc ?_ _) | (with_reducible refine Kd.C_drewN ?_ _) | (with_reducible refine Kd.C_drew ?_))); (case aB => exact xG); (case aF => exact (fun k_ hk => ⟨Kd.fresh' (Kd.R_lt (xR HO_12.out)) k_ hk, Kd.fresh' (Kd.R_lt (xR HO_14.out)) k_ hk⟩)); (case aO => exact (xR HO_8.out)); (case aS => exact (below_size xG)); (case aL => have := LMc47.out; omega); intro v725 w48 ho hb hg hat; rw [← Ny724.out] at ho; have n0_ := Aside0.mk (Kd.R_after (ok := (fun k_ => some k_ ≠ (v722 : Value).ownBlock)) (by (with_reducible repeat (first | apply Kd.R_alloc | apply Kd.R_drewN | apply Kd.R_drew)); exact Kd.R_mono HO_12.out (fun _ hk => ⟨hk.2, hk.1⟩)) hg hat); have n1_ := Aside0.mk (Kd.R_after (ok := (fun k_ => some k_ ≠ (.slice Ao49 t716.length co49 : Value).ownBlock)) (by (with_reducible repeat (first | apply Kd.R_alloc | apply Kd.R_drewN | apply Kd.R_drew)); exact Kd.R_mono HO_14.out (fun _ hk => ⟨hk.2, hk.1⟩)) hg hat); have n2_ := Aside0.mk (blk_grown (g := gb707) (o := .cells #[.int .u64 0, .int .u64 0] 24 (0, 0)) (xK BK707.out) hg (Kd.R_ne HO_8.out BK707.out (by decide))); have n3_ := Aside0.mk (hb); have n4_ := Aside0.mk (ho); clear HO_12; clear HO_14; clear BK707; clear HB; clear HO_8; have HO_12 := n0_; have HO_14 := n1_; have BK707 := n2_; have HB := n3_; have HO726 := n4_; clear n0_ n1_ n2_ n3_ n4_; clear ho hb hg hat))
              go_loopg [8] kj37 (fun kq v8 w' => ∃ (x8_2 : List Int), Aside0 (turnpikeref2_Parse.l0 kq x8_2 t720 = some (r1, r2, r3)) ∧ Aside0 (kq ≤ kj37) ∧ Aside0 (Kd.R (Kd.int .i64) 3 w' w.heap.size (fun k_ => some k_ ≠ (v722 : Value).ownBlock) v8 x8_2) ∧ Aside0 (Kd.R (Kd.int .i64) 3 w' w.heap.size (fun k_ => some k_ ≠ (v8 : Value).ownBlock) v722 t720) ∧ Aside0 (w'.heap[gb707]? = some (.cells #[.int .u64 0, .int .u64 0] 24 (0, 0))) ∧ Aside0 (Below w.heap.size w w'))
              case atStart => exact ⟨(y724), H', ⟨Nat.le_refl _⟩, ⟨by (with_reducible repeat (first | apply Kd.R_alloc | apply Kd.R_drewN | apply Kd.R_drew)); exact Kd.R_mono HO726.out (fun _ hk => hk.2)⟩, ⟨by (with_reducible repeat (first | apply Kd.R_alloc | apply Kd.R_drewN | apply Kd.R_drew)); exact Kd.R_mono HO_14.out (fun _ hk => hk.2)⟩, ⟨xK BK707.out⟩, ⟨xG⟩⟩
              case round =>
               clear H'
               try clear c1
               try clear c2
               try clear p2
               try clear c3
               try clear c4
               try clear c5
               try clear c5b0
               try clear c5b1
               try clear c6
               try clear p6
               try clear c7
               try clear c8
               try clear c8b0
               try clear c8b1
               try clear c9
               try clear c10
               try clear c20
               try clear c20b0
               try clear c22
               try clear c23
               try clear c23b0
               try clear c23b1
               try clear c31
               try clear c31b0
               try clear c31b1
               try clear c32
               try clear c32b0
               try clear c32b1
               try clear c35
               try clear c35b0
               try clear c35b1
               try clear c36
               try clear c36b0
               try clear c36b1
               try clear c41
               try clear c42
               try clear c45
               try clear c47
               try clear hcz13_0
               try clear hcz13_1
               try clear hcz16_0
               try clear hcz16_1
               try clear hcz28_0
               try clear hcz28_1
               try clear hcz30_0
               try clear hcz30_1
               try clear hcz46_0
               try clear hcz46_1
               try clear hcz7_0
               try clear hcz7_1
               try clear hfz13_0
               try clear hfz13_1
               try clear hfz16_0
               try clear hfz16_1
               try clear hfz28_0
               try clear hfz28_1
               try clear hfz30_0
               try clear hfz30_1
               try clear hfz46_0
               try clear hfz46_1
               try clear hfz7_0
               try clear hfz7_1
               try clear p2
               try clear p6
               obtain ⟨x8_2, HA, HK2, HO_8, HO_14, BK707, HB⟩ := hrel
               cases gk with
               | zero => exact absurd HA.out (by simp [turnpikeref2_Parse.l0])
               | succ k2 =>
                have H := HA.out
                clear HA
                simp only [turnpikeref2_Parse.l0] at H
                by_cases c50 : (wrap64 ((x8_2.length : Int) + (t720.length : Int))) < 8
                ·rw [if_pos c50] at H
                 have c50b0 : decide ((wrap64 ((x8_2.length : Int) + (t720.length : Int))) < 8) = true := decide_eq_true c50
                 clear c50
                 by_cases c51 : x8_2.length < 17592186044416
                 ·rw [if_pos c51] at H
                  have LMc51 := Aside0.mk c51
                  clear c51
                  obtain ⟨y727, hy727⟩ : ∃ y_ : List Int, y_ = (x8_2 ++ [0]) := ⟨_, rfl⟩
                  replace H : (turnpikeref2_Parse.l0 k2 y727 t720) = some (r1, r2, r3) := by first | (rw [hy727]; with_reducible exact H) | (have H2_ := (Option.bind_some _ _).symm.trans H; rw [hy727]; with_reducible exact H2_) | (have H2_ := (Option.bind_some _ _).symm.trans H; with_reducible exact H2_) | with_reducible exact H | (rw [hy727]; exact H) | exact H
                  have Ny727 := Aside0.mk hy727
                  clear hy727
                  have H' := Aside0.mk H
                  clear H
                  obtain ⟨Ao52, co52, eo52⟩ := Kd.R_slice HO_8.out
                  subst eo52
                  obtain ⟨Ao53, co53, eo53⟩ := Kd.R_slice HO_14.out
                  subst eo53
                  go_wp2_with (first | ((with_reducible refine gate_builtin (b := .append) (xs := #[.tmp 96, .tmp 97]) rfl ?_); (try (refine gate_guard (by rfl) ?_; dsimp only)); at_builtin; refine Kd.R_append (Kd.int .i64) (w0 := w) w.heap.size rfl (.tmp 96) (.tmp 97) 107 3 (.int .i64 0) 8 rfl Tryd.underlying107 info3 rfl (by decide) (by omega) (.slice Ao52 x8_2.length co52) x8_2 0 [.int .i64 0] (fun k_ => some k_ ≠ (.slice Ao53 t720.length co53 : Value).ownBlock) (fun _ => False) rfl rfl ?aP (fun _ hk => hk.elim) ?aF ?aO ?aB ?aS ?aL ?_; (case aP => exact rfl); (case aB => exact xG); (case aF => exact (fun k_ hk => Kd.fresh' (Kd.R_lt (xR HO_14.out)) k_ hk)); (case aO => exact (xR HO_8.out)); (case aS => exact (below_size xG)); (case aL => have := LMc51.out; omega); intro v728 w54 ho hb hg hat; rw [← Ny727.out] at ho; have n0_ := Aside0.mk (Kd.R_after (ok := (fun _ => True)) (by (with_reducible repeat (first | apply Kd.R_alloc | apply Kd.R_drewN | apply Kd.R_drew)); exact Kd.R_mono HO_14.out (fun _ hk => ⟨trivial, hk⟩)) hg hat); have n1_ := Aside0.mk (blk_grown (g := gb707) (o := .cells #[.int .u64 0, .int .u64 0] 24 (0, 0)) (xK BK707.out) hg (Kd.R_ne HO_8.out BK707.out (by decide))); have n2_ := Aside0.mk (hb); have n3_ := Aside0.mk (ho); clear HO_14; clear BK707; clear HB; clear HO_8; have HO_14 := n0_; have BK707 := n1_; have HB := n2_; have HO729 := n3_; clear n0_ n1_ n2_ n3_; clear ho hb hg hat))
                  go_roundg k2
                  case measure => have := HJ37.out; have := HK2.out; omega
                  case rel => exact ⟨(y727), H', ⟨by have := HJ37.out; have := HK2.out; omega⟩, ⟨xR HO729.out⟩, ⟨by (with_reducible repeat (first | apply Kd.R_alloc | apply Kd.R_drewN | apply Kd.R_drew)); exact Kd.R_mono HO_14.out (fun _ hk => hk.2)⟩, ⟨xK BK707.out⟩, ⟨xG⟩⟩
                 ·rw [if_neg c51] at H
                  exact absurd H (by simp)
                ·rw [if_neg c50] at H
                 have c50b0 : decide ((wrap64 ((x8_2.length : Int) + (t720.length : Int))) < 8) = false := decide_eq_false c50
                 clear c50
                 by_cases c55 : x8_2.length + t720.length < 17592186044416
                 ·rw [if_pos c55] at H
                  have LMc55 := Aside0.mk c55
                  clear c55
                  obtain ⟨y730, hy730⟩ : ∃ y_ : List Int, y_ = (x8_2 ++ t720) := ⟨_, rfl⟩
                  replace H : (turnpikeref2_Parse.j2 k2 y730) = some (r1, r2, r3) := by first | (rw [hy730]; with_reducible exact H) | (have H2_ := (Option.bind_some _ _).symm.trans H; rw [hy730]; with_reducible exact H2_) | (have H2_ := (Option.bind_some _ _).symm.trans H; with_reducible exact H2_) | with_reducible exact H | (rw [hy730]; exact H) | exact H
                  have Ny730 := Aside0.mk hy730
                  clear hy730
                  have H' := Aside0.mk H
                  clear H
                  obtain ⟨Ao56, co56, eo56⟩ := Kd.R_slice HO_8.out
                  subst eo56
                  obtain ⟨Ao57, co57, eo57⟩ := Kd.R_slice HO_14.out
                  subst eo57
                  go_wp2_with (first | ((with_reducible refine gate_builtin (b := .append) (xs := #[.tmp 99, .tmp 100]) rfl ?_); (try (refine gate_guard (by rfl) ?_; dsimp only)); at_builtin; refine Kd.R_append_rows (Kd.int .i64) (w0 := w) w.heap.size rfl (.tmp 99) (.tmp 100) 107 3 (.int .i64 0) 8 rfl Tryd.underlying107 info3 rfl (by decide) (by omega) (.slice Ao56 x8_2.length co56) x8_2 t720 _ _ _ (fun k_ => some k_ ≠ (.slice Ao57 t720.length co57 : Value).ownBlock) (fun _ => False) rfl rfl ?aO ?aR (fun _ _ h => h) (fun _ h => h.elim) ?aF ?aB ?aS ?aL ?_; (case aR => repeat (first | exact (Kd.R_reads' HO_14.out).2.2 | (with_reducible refine Kd.C_alloc ?_ _) | (with_reducible refine Kd.C_drewN ?_ _) | (with_reducible refine Kd.C_drew ?_))); (case aB => exact xG); (case aF => exact (fun k_ hk => Kd.fresh' (Kd.R_lt (xR HO_14.out)) k_ hk)); (case aO => exact (xR HO_8.out)); (case aS => exact (below_size xG)); (case aL => have := LMc55.out; omega); intro v731 w58 ho hb hg hat; rw [← Ny730.out] at ho; have n0_ := Aside0.mk (Kd.R_after (ok := (fun _ => True)) (by (with_reducible repeat (first | apply Kd.R_alloc | apply Kd.R_drewN | apply Kd.R_drew)); exact Kd.R_mono HO_14.out (fun _ hk => ⟨trivial, hk⟩)) hg hat); have n1_ := Aside0.mk (blk_grown (g := gb707) (o := .cells #[.int .u64 0, .int .u64 0] 24 (0, 0)) (xK BK707.out) hg (Kd.R_ne HO_8.out BK707.out (by decide))); have n2_ := Aside0.mk (hb); have n3_ := Aside0.mk (ho); clear HO_14; clear BK707; clear HB; clear HO_8; have HO_14 := n0_; have BK707 := n1_; have HB := n2_; have HO732 := n3_; clear n0_ n1_ n2_ n3_; clear ho hb hg hat))
                  go_meet
                  case rel => exact ⟨_, (y730), (0), (0), H', ⟨by have := HJ37.out; have := HK2.out; first | omega | exact Nat.le_refl _⟩, ⟨by (with_reducible repeat (first | apply Kd.R_alloc | apply Kd.R_drewN | apply Kd.R_drew)); exact Kd.R_mono HO732.out (fun _ hk => trivial)⟩, ⟨xK BK707.out⟩, ⟨xG⟩⟩
                 ·rw [if_neg c55] at H
                  exact absurd H (by simp)
             ·rw [if_neg c47] at H
              exact absurd H (by simp)
         ·rw [if_neg c36] at H
          exact absurd H (by simp)
        ·rw [if_neg c35] at H
         exact absurd H (by simp)
       ·rw [if_neg c32] at H
        exact absurd H (by simp)
      ·rw [if_neg c31] at H
       exact absurd H (by simp)
    case rest =>
     clear HC18
     try clear c1
     try clear c2
     try clear p2
     try clear c3
     try clear c4
     try clear c5
     try clear c5b0
     try clear c5b1
     try clear c6
     try clear p6
     try clear c7
     try clear c8
     try clear c8b0
     try clear c8b1
     try clear c9
     try clear c10
     try clear c20
     try clear c20b0
     try clear c22
     try clear c23
     try clear c23b0
     try clear c23b1
     try clear c31
     try clear c31b0
     try clear c31b1
     try clear c32
     try clear c32b0
     try clear c32b1
     try clear c35
     try clear c35b0
     try clear c35b1
     try clear c36
     try clear c36b0
     try clear c36b1
     try clear c41
     try clear c42
     try clear c45
     try clear c47
     try clear c50
     try clear c50b0
     try clear c51
     try clear c55
     try clear hcz13_0
     try clear hcz13_1
     try clear hcz16_0
     try clear hcz16_1
     try clear hcz28_0
     try clear hcz28_1
     try clear hcz30_0
     try clear hcz30_1
     try clear hcz46_0
     try clear hcz46_1
     try clear hcz7_0
     try clear hcz7_1
     try clear hfz13_0
     try clear hfz13_1
     try clear hfz16_0
     try clear hfz16_1
     try clear hfz28_0
     try clear hfz28_1
     try clear hfz30_0
     try clear hfz30_1
     try clear hfz46_0
     try clear hfz46_1
     try clear hfz7_0
     try clear hfz7_1
     try clear p2
     try clear p6
     obtain ⟨kq, x8_17, x708000_17, x708001_17, HA, HJ17, HO_8, BK707, HB⟩ := hcut
     cases kq with
     | zero => exact absurd HA.out (by simp [turnpikeref2_Parse.j2])
     | succ kj17 =>
      have H := HA.out
      clear HA
      simp only [turnpikeref2_Parse.j2] at H
      have H' := Aside0.mk H
      clear H
      go_wp2_with (first | ((with_reducible refine gate_dst (N := 16) rfl ?_); (try (refine gate_guard (by rfl) ?_; dsimp only)); refine box_event ?hg (N := 16) ?hd (cs := #[.int .u64 0, .int .u64 0]) (t := 24) ?hr ?_; (case hd => rfl); (case hg => rfl); (case hr => first | (go_simp; done) | (go_simp; rfl)); intro gb733 hg w59 hbox hb; have n0_ := Aside0.mk (Kd.R_below (xR HO_8.out) hb); have n1_ := xP BK707.out hb; have n2_ := Aside0.mk (below_step xG hb); have n3_ := Aside0.mk (hbox); have n4_ := xT w hg; have n5_ := xT w hg; have n6_ := Aside0.mk ((xNl BK707.out hg : gb707 ≠ gb733)); have n7_ := Aside0.mk ((xNr BK707.out hg : gb733 ≠ gb707)); clear HO_8; clear BK707; clear HB; have HO_8 := n0_; have BK707 := n1_; have HB := n2_; have BK733 := n3_; have GW733 := n4_; have GE733 := n5_; have NB707_733 := n6_; have NB733_707 := n7_; clear n0_ n1_ n2_ n3_ n4_ n5_ n6_ n7_; clear hb hbox hg))
      go_loopg [17] kj17 (fun kq v17 w' => ∃ (x17_2 : Int) (x734000_2 : Int) (x734001_2 : Int), v17 = .int .i64 x17_2 ∧ Aside0 (turnpikeref2_Parse.l1 kq x8_17 x17_2 x734000_2 x734001_2 = some (r1, r2, r3)) ∧ Aside0 (kq ≤ kj17) ∧ Aside0 (Kd.R (Kd.int .i64) 3 w' w.heap.size (fun _ => True) u8 x8_17) ∧ Aside0 (w'.heap[gb707]? = some (.cells #[.int .u64 x708000_17, .int .u64 x708001_17] 24 (0, 0))) ∧ Aside0 (w'.heap[gb733]? = some (.cells #[.int .u64 x734000_2, .int .u64 x734001_2] 24 (0, 0))) ∧ Aside0 (Below w.heap.size w w'))
      case atStart => exact ⟨(0), (0), (0), xV, H', ⟨Nat.le_refl _⟩, ⟨xR HO_8.out⟩, ⟨xK BK707.out⟩, ⟨xK BK733.out⟩, ⟨xG⟩⟩
      case round =>
       clear H'
       try clear c1
       try clear c2
       try clear p2
       try clear c3
       try clear c4
       try clear c5
       try clear c5b0
       try clear c5b1
       try clear c6
       try clear p6
       try clear c7
       try clear c8
       try clear c8b0
       try clear c8b1
       try clear c9
       try clear c10
       try clear c20
       try clear c20b0
       try clear c22
       try clear c23
       try clear c23b0
       try clear c23b1
       try clear c31
       try clear c31b0
       try clear c31b1
       try clear c32
       try clear c32b0
       try clear c32b1
       try clear c35
       try clear c35b0
       try clear c35b1
       try clear c36
       try clear c36b0
       try clear c36b1
       try clear c41
       try clear c42
       try clear c45
       try clear c47
       try clear c50
       try clear c50b0
       try clear c51
       try clear c55
       try clear hcz13_0
       try clear hcz13_1
       try clear hcz16_0
       try clear hcz16_1
       try clear hcz28_0
       try clear hcz28_1
       try clear hcz30_0
       try clear hcz30_1
       try clear hcz46_0
       try clear hcz46_1
       try clear hcz7_0
       try clear hcz7_1
       try clear hfz13_0
       try clear hfz13_1
       try clear hfz16_0
       try clear hfz16_1
       try clear hfz28_0
       try clear hfz28_1
       try clear hfz30_0
       try clear hfz30_1
       try clear hfz46_0
       try clear hfz46_1
       try clear hfz7_0
       try clear hfz7_1
       try clear p2
       try clear p6
       obtain ⟨x17_2, x734000_2, x734001_2, rfl, HA, HK2, HO_8, BK707, BK733, HB⟩ := hrel
       cases gk with
       | zero => exact absurd HA.out (by simp [turnpikeref2_Parse.l1])
       | succ k2 =>
        have H := HA.out
        clear HA
        simp only [turnpikeref2_Parse.l1] at H
        by_cases c60 : x17_2 < 8
        ·rw [if_pos c60] at H
         have c60b0 : decide (x17_2 < 8) = true := decide_eq_true c60
         clear c60
         replace H := Option.bind_eq_some_iff.mp H
         obtain ⟨⟨t734, t735⟩, A610, H⟩ := H
         replace H : (if 0 ≤ x17_2 then (if x17_2 < (x8_17.length : Int) then (turnpikeref2_Parse.l1 k2 x8_17 (wrap64 (x17_2 + 1)) t734 (Go.bits .or .u64 t735 (IntKind.u64.wrap (rd x8_17 x17_2)))) else (none)) else (none)) = some (r1, r2, r3) := H
         have A61 := Aside0.mk A610
         clear A610
         by_cases c62 : 0 ≤ x17_2
         ·rw [if_pos c62] at H
          have c62b0 : decide (0 ≤ x17_2) = true := decide_eq_true c62
          clear c62
          by_cases c63 : x17_2 < (x8_17.length : Int)
          ·rw [if_pos c63] at H
           have c63b0 : decide (x17_2 < (x8_17.length : Int)) = true := decide_eq_true c63
           clear c63
           have H' := Aside0.mk H
           clear H
           have hnb64 := NB733_707.out
           have hnc64 := NB707_733.out
           have hcz65_0 : wr.cell? ⟨gb733, 0, none⟩ = some (.int .u64 x734000_2) := (blk_cell BK733.out 0).trans rfl
           have hcz65_1 : wr.cell? ⟨gb733, 1, none⟩ = some (.int .u64 x734001_2) := (blk_cell BK733.out 1).trans rfl
           have hfz65_0 := blk_frozen BK733.out 0
           have hfz65_1 := blk_frozen BK733.out 1
           try go_wp2_with (first | ((with_reducible refine gate_callee (f := 94) rfl ?_); refine goesL_ (some 107) rfl rfl Tryd.func94 (by kernel_rfl) rfl #[.agg #[.int .u64 x734000_2, .int .u64 x734001_2], .int .i64 16] rfl xM ?_; (with_reducible refine (turnpikeref1_Shl.calls x734000_2 x734001_2 16 t734 t735 _ A61.out).mono ?_); rintro e w66 ⟨rfl, hb⟩; refine ⟨_, rfl, ?_⟩; have n0_ := Aside0.mk (Kd.R_below (xR HO_8.out) hb); have n1_ := xP BK707.out hb; have n2_ := xP BK733.out hb; have n3_ := Aside0.mk (below_step xG hb); clear HO_8; clear BK707; clear BK733; clear HB; have HO_8 := n0_; have BK707 := n1_; have BK733 := n2_; have HB := n3_; clear n0_ n1_ n2_ n3_; (try clear hb); (try clear hb2); (try clear hk); (try clear hi); have hcz67_0 : w66.cell? ⟨gb733, 0, none⟩ = some (.int .u64 x734000_2) := (blk_cell BK733.out 0).trans rfl; have hcz67_1 : w66.cell? ⟨gb733, 1, none⟩ = some (.int .u64 x734001_2) := (blk_cell BK733.out 1).trans rfl; have hfz67_0 := blk_frozen BK733.out 0; have hfz67_1 := blk_frozen BK733.out 1))
           have n0_ : Aside0 (Kd.R (Kd.int .i64) 3 ((w66.setCell ⟨gb733, 0, none⟩ (.int .u64 t734)).setCell ⟨gb733, 1, none⟩ (.int .u64 t735)) w.heap.size (fun _ => True) u8 x8_17) := ⟨by (with_reducible repeat (first | apply Kd.R_alloc | apply Kd.R_drewN | apply Kd.R_drew)); exact Kd.R_mono (Kd.R_far (p := ⟨gb733, 1, none⟩) (Kd.R_far (p := ⟨gb733, 0, none⟩) (Kd.R_types HO_8.out BK733.out (by decide)) (fun _ hk => hk.2) (.int .u64 t734)) (fun _ hk => hk.2) (.int .u64 t735)) (fun _ hk => trivial)⟩
           have n1_ : Aside0 (((w66.setCell ⟨gb733, 0, none⟩ (.int .u64 t734)).setCell ⟨gb733, 1, none⟩ (.int .u64 t735)).heap[gb707]? = some (.cells #[.int .u64 x708000_17, .int .u64 x708001_17] 24 (0, 0))) := ⟨by (with_reducible repeat (first | refine blk_drewN ?_ _ | refine blk_drew ?_ | refine blk_alloc ?_ _)); refine blk_far ?_ NB707_733.out _; (with_reducible repeat (first | refine blk_drewN ?_ _ | refine blk_drew ?_ | refine blk_alloc ?_ _)); refine blk_far ?_ NB707_733.out _; (with_reducible repeat (first | refine blk_drewN ?_ _ | refine blk_drew ?_ | refine blk_alloc ?_ _)); exact BK707.out⟩
           have n2_ : Aside0 (((w66.setCell ⟨gb733, 0, none⟩ (.int .u64 t734)).setCell ⟨gb733, 1, none⟩ (.int .u64 t735)).heap[gb733]? = some (.cells #[.int .u64 t734, .int .u64 t735] 24 (0, 0))) := ⟨by (with_reducible repeat (first | refine blk_drewN ?_ _ | refine blk_drew ?_ | refine blk_alloc ?_ _)); refine blk_put (cs := #[.int .u64 t734, .int .u64 x734001_2]) ?_ 1 _ rfl; (with_reducible repeat (first | refine blk_drewN ?_ _ | refine blk_drew ?_ | refine blk_alloc ?_ _)); refine blk_put (cs := #[.int .u64 x734000_2, .int .u64 x734001_2]) ?_ 0 _ rfl; (with_reducible repeat (first | refine blk_drewN ?_ _ | refine blk_drew ?_ | refine blk_alloc ?_ _)); exact BK733.out⟩
           have n3_ : Aside0 (Below w.heap.size w ((w66.setCell ⟨gb733, 0, none⟩ (.int .u64 t734)).setCell ⟨gb733, 1, none⟩ (.int .u64 t735))) := ⟨xG⟩
           (try clear HO_8)
           (try clear BK707)
           (try clear BK733)
           (try clear HB)
           generalize ((w66.setCell ⟨gb733, 0, none⟩ (.int .u64 t734)).setCell ⟨gb733, 1, none⟩ (.int .u64 t735)) = w68 at n0_ n1_ n2_ n3_ ⊢
           have HO_8 := n0_
           have BK707 := n1_
           have BK733 := n2_
           have HB := n3_
           clear n0_ n1_ n2_ n3_
           have n0_ := Aside0.mk (Kd.R_drew HO_8.out)
           have n1_ := Aside0.mk (blk_drew BK707.out)
           have n2_ := Aside0.mk (blk_drew BK733.out)
           have n3_ := Aside0.mk (below_drew1 HB.out)
           clear HO_8
           clear BK707
           clear BK733
           clear HB
           have HO_8 := n0_
           have BK707 := n1_
           have BK733 := n2_
           have HB := n3_
           clear n0_ n1_ n2_ n3_
           obtain ⟨Ao70, co70, eo70⟩ := Kd.R_slice HO_8.out
           (first | subst eo70 | (injection eo70 with f1_ f2_ f3_; have f4_ := f1_.symm; have f5_ := f3_.symm; clear f1_ f2_ f3_; subst f4_; subst f5_))
           have p736 : 0 ≤ (x17_2 : Int) := of_decide_eq_true xA
           have q736 : x17_2 < (x8_17.length : Int) := of_decide_eq_true xA
           obtain ⟨ad736, e736, hx736_0⟩ := Kd.at_int (Kd.R_reads' HO_8.out).2.2 x17_2 p736 q736
           cases e736
           replace p736 := eq_true p736
           replace q736 := eq_true q736
           refine start_ (n := 10) (S := fun w' => w'.cell? ⟨gb733, 0, none⟩ = some (.int .u64 t734) ∧ w'.cell? ⟨gb733, 1, none⟩ = some (.int .u64 t735) ∧ w'.cell? (ad736.add (x17_2).toNat) = some (.int .i64 (rd x8_17 x17_2))) (ds := [9]) #[false, false, false, false, false, false, false, false, false, false] (by kernel_rfl) rfl rfl ⟨(blk_cell BK733.out 0).trans rfl, (blk_cell BK733.out 1).trans rfl, hx736_0⟩ (fun hHeld => ?_); refine with_tabW turnpikeref2_Parse.tab30 turnpikeref2_Parse.bits30 (fun HT_ HW_ => ?_)
           generalize w68.drew = w69 at HO_8 BK707 BK733 HB hx736_0 hHeld ⊢
           refine pure_ (i := 0) (N := some 108) (v := ?_) (a' := ?_) #[true, false, false, false, false, false, false, false, false, false] rfl rfl (any_of HT_.out (by kernel_rfl)) (fun _ _ _ h => h) (Or.inl ⟨by rfl, ?_⟩) ?_ ?_
           rotate_left
           ·intro w'
            go_simp
            with_reducible rfl
           rotate_left
           ·simp only [Act.put, List.setIfInBounds_toArray, List.set_cons_zero, List.set_cons_succ, i64_w, i32_w]
            rfl
           refine pure_ (i := 2) (N := some 110) (v := ?_) (a' := ?_) #[true, false, true, false, false, false, false, false, false, false] rfl rfl (any_of HT_.out (by kernel_rfl)) (fun _ _ _ h => h) (Or.inl ⟨by rfl, ?_⟩) ?_ ?_
           rotate_left
           ·intro w'
            go_simp
            with_reducible rfl
           rotate_left
           ·simp only [Act.put, List.setIfInBounds_toArray, List.set_cons_zero, List.set_cons_succ, i64_w, i32_w]
            rfl
           refine pure_ (i := 3) (N := some 111) (v := ?_) (a' := ?_) #[true, false, true, true, false, false, false, false, false, false] rfl rfl (any_of HT_.out (by kernel_rfl)) (fun _ _ _ h => h) (Or.inl ⟨by rfl, ?_⟩) ?_ ?_
           rotate_left
           ·intro w'
            go_simp
            with_reducible rfl
           rotate_left
           ·simp only [Act.put, List.setIfInBounds_toArray, List.set_cons_zero, List.set_cons_succ, i64_w, i32_w]
            rfl
           refine pure_ (i := 4) (N := some 112) (v := ?_) (a' := ?_) #[true, false, true, true, true, false, false, false, false, false] rfl rfl (any_of HT_.out (by kernel_rfl)) (fun _ _ _ h => h) (Or.inl ⟨by rfl, ?_⟩) ?_ ?_
           rotate_left
           ·intro w'
            go_simp
            with_reducible rfl
           rotate_left
           ·simp only [Act.put, List.setIfInBounds_toArray, List.set_cons_zero, List.set_cons_succ, i64_w, i32_w]
            rfl
           refine take_ (i := 1) (N := some 109) (v := ?_) (a' := ?_) #[true, true, true, true, true, false, false, false, false, false] rfl rfl (take_ofW HT_.out HW_.out (by kernel_rfl)) (fun _ _ _ h => h) (Or.inl ⟨by rfl, ?_⟩) hHeld ?_ ?_
           rotate_left
           ·rintro w' ⟨s0, s1, s2⟩
            go_simp
            with_reducible rfl
           rotate_left
           ·simp only [Act.put, List.setIfInBounds_toArray, List.set_cons_zero, List.set_cons_succ, i64_w, i32_w]
            rfl
           refine take_ (i := 5) (N := some 113) (v := ?_) (a' := ?_) #[true, true, true, true, true, true, false, false, false, false] rfl rfl (take_ofW HT_.out HW_.out (by kernel_rfl)) (fun _ _ _ h => h) (Or.inl ⟨by rfl, ?_⟩) hHeld ?_ ?_
           rotate_left
           ·rintro w' ⟨s0, s1, s2⟩
            go_simp
            with_reducible rfl
           rotate_left
           ·simp only [Act.put, List.setIfInBounds_toArray, List.set_cons_zero, List.set_cons_succ, i64_w, i32_w]
            rfl
           refine pure_ (i := 6) (N := some 114) (v := ?_) (a' := ?_) #[true, true, true, true, true, true, true, false, false, false] rfl rfl (any_of HT_.out (by kernel_rfl)) (fun _ _ _ h => h) (Or.inl ⟨by rfl, ?_⟩) ?_ ?_
           rotate_left
           ·intro w'
            go_simp
            with_reducible rfl
           rotate_left
           ·simp only [Act.put, List.setIfInBounds_toArray, List.set_cons_zero, List.set_cons_succ, i64_w, i32_w]
            rfl
           refine pure_ (i := 7) (N := some 115) (v := ?_) (a' := ?_) #[true, true, true, true, true, true, true, true, false, false] rfl rfl (any_of HT_.out (by kernel_rfl)) (fun _ _ _ h => h) (Or.inl ⟨by rfl, ?_⟩) ?_ ?_
           rotate_left
           ·intro w'
            go_simp
            with_reducible rfl
           rotate_left
           ·simp only [Act.put, List.setIfInBounds_toArray, List.set_cons_zero, List.set_cons_succ, i64_w, i32_w]
            rfl
           refine pure_ (i := 8) (N := some 116) (v := ?_) (a' := ?_) #[true, true, true, true, true, true, true, true, true, false] rfl rfl (any_of HT_.out (by kernel_rfl)) (fun _ _ _ h => h) (Or.inl ⟨by rfl, ?_⟩) ?_ ?_
           rotate_left
           ·intro w'
            go_simp
            with_reducible rfl
           rotate_left
           ·simp only [Act.put, List.setIfInBounds_toArray, List.set_cons_zero, List.set_cons_succ, i64_w, i32_w]
            rfl
           refine last_ (i := 9) (N := none) #[true, true, true, true, true, true, true, true, true, true] rfl rfl (one_of HT_.out (by kernel_rfl)) (by decide) (fun K hK => ?_)
           have hs71 : w69.cell? ⟨gb733, 1, none⟩ = some (.int .u64 t735) := (blk_cell BK733.out 1).trans rfl
           have hfs71 := blk_frozen BK733.out 1
           have hns71_0 := NB707_733.out
           have hms71_0 := NB733_707.out
           refine skip_ (w1 := ?_) (by rfl) rfl ?_ ?_
           rotate_left
           ·go_simp
            rfl
           refine hK.out _ _ ?_
           clear hK K
           refine done_ (done_of HT_.out (by kernel_rfl)) ?_
           try go_wp2
           go_roundg k2
           case measure => have := HJ17.out; have := HK2.out; omega
           case rel => exact ⟨(wrap64 (x17_2 + 1)), (t734), (Go.bits .or .u64 t735 (IntKind.u64.wrap (rd x8_17 x17_2))), xV, H', ⟨by have := HJ17.out; have := HK2.out; omega⟩, ⟨by (with_reducible repeat (first | apply Kd.R_alloc | apply Kd.R_drewN | apply Kd.R_drew)); exact Kd.R_mono (Kd.R_far (p := ⟨gb733, 1, none⟩) (Kd.R_types HO_8.out BK733.out (by decide)) (fun _ hk => hk.2) (.int .u64 (Go.bits .or .u64 t735 (IntKind.u64.wrap (rd x8_17 x17_2))))) (fun _ hk => trivial)⟩, ⟨by (with_reducible repeat (first | refine blk_drewN ?_ _ | refine blk_drew ?_ | refine blk_alloc ?_ _)); refine blk_far ?_ NB707_733.out _; (with_reducible repeat (first | refine blk_drewN ?_ _ | refine blk_drew ?_ | refine blk_alloc ?_ _)); exact BK707.out⟩, ⟨by (with_reducible repeat (first | refine blk_drewN ?_ _ | refine blk_drew ?_ | refine blk_alloc ?_ _)); refine blk_put (cs := #[.int .u64 t734, .int .u64 t735]) ?_ 1 _ rfl; (with_reducible repeat (first | refine blk_drewN ?_ _ | refine blk_drew ?_ | refine blk_alloc ?_ _)); exact BK733.out⟩, ⟨xG⟩⟩
          ·rw [if_neg c63] at H
           exact absurd H (by simp)
         ·rw [if_neg c62] at H
          exact absurd H (by simp)
        ·rw [if_neg c60] at H
         have c60b0 : decide (x17_2 < 8) = false := decide_eq_false c60
         clear c60
         simp only [Option.some.injEq, Prod.mk.injEq] at H
         obtain ⟨rfl, rfl, rfl⟩ := H
         have hnb72 := NB733_707.out
         have hnc72 := NB707_733.out
         have hcz73_0 : wr.cell? ⟨gb733, 0, none⟩ = some (.int .u64 x734000_2) := (blk_cell BK733.out 0).trans rfl
         have hcz73_1 : wr.cell? ⟨gb733, 1, none⟩ = some (.int .u64 x734001_2) := (blk_cell BK733.out 1).trans rfl
         have hfz73_0 := blk_frozen BK733.out 0
         have hfz73_1 := blk_frozen BK733.out 1
         have hcz74_0 : wr.cell? ⟨gb707, 0, none⟩ = some (.int .u64 x708000_17) := (blk_cell BK707.out 0).trans rfl
         have hcz74_1 : wr.cell? ⟨gb707, 1, none⟩ = some (.int .u64 x708001_17) := (blk_cell BK707.out 1).trans rfl
         have hfz74_0 := blk_frozen BK707.out 0
         have hfz74_1 := blk_frozen BK707.out 1
         go_wp2
         refine bodyPost_ret (results_ct rfl _ _ gb707 24 #[.int .u64 x734000_2, .int .u64 x734001_2] (0, 0) _ rfl (by (with_reducible repeat (first | refine blk_drewN ?_ _ | refine blk_drew ?_ | refine blk_alloc ?_ _)); refine blk_put (cs := #[.int .u64 x734000_2, .int .u64 x708001_17]) ?_ 1 _ rfl; (with_reducible repeat (first | refine blk_drewN ?_ _ | refine blk_drew ?_ | refine blk_alloc ?_ _)); refine blk_put (cs := #[.int .u64 x708000_17, .int .u64 x708001_17]) ?_ 0 _ rfl; (with_reducible repeat (first | refine blk_drewN ?_ _ | refine blk_drew ?_ | refine blk_alloc ?_ _)); exact BK707.out) Tryd.underlying24 rfl (by kernel_rfl)) rfl ?_
         exact ⟨xE, xG⟩
 ·replace c4 := Bool.eq_false_iff.mpr c4
  subst c4
  have H1 : (some (0, 0, 11)) = some (r1, r2, r3) := by rw [if_neg (show ¬ (false = true) by decide)] at H; exact H
  clear H
  have H := H1
  clear H1
  simp only [Option.some.injEq, Prod.mk.injEq] at H
  obtain ⟨rfl, rfl, rfl⟩ := H
  go_enter Tryd.func76, Tryd.ntmps76
  go_wp2_with (first | ((with_reducible refine gate_dst (N := 4) rfl ?_); (try (refine gate_guard (by rfl) ?_; dsimp only)); refine box_event ?hg (N := 4) ?hd (cs := #[.int .u64 0, .int .u64 0]) (t := 24) ?hr ?_; (case hd => rfl); (case hg => rfl); (case hr => first | (go_simp; done) | (go_simp; rfl)); intro gb707 hg w75 hbox hb; have n0_ := Aside0.mk (below_step xB hb); have n1_ := Aside0.mk (hbox); have n2_ := xS w hg; have n3_ := xS w hg; clear HB; have HB := n0_; have BK707 := n1_; have GW707 := n2_; have GE707 := n3_; clear n0_ n1_ n2_ n3_; clear hb hbox hg) | ((with_reducible refine gate_callee (f := 63) rfl ?_); refine goesL_ (some 19) rfl rfl Tryd.func63 (by kernel_rfl) rfl #[.int .i64 a0] rfl xM ?_; (with_reducible refine (turnpikeref2_IsFamily.calls a0 false _ A3.out).mono ?_); rintro e w' ⟨rfl, ⟨nd, rfl⟩⟩; refine ⟨_, rfl, ?_⟩; (try (rw [drewN_self w75]; generalize hq_ : World.drewN w75 _ = w75; have n0_ : Aside0 (w75.heap[gb707]? = some (.cells #[.int .u64 0, .int .u64 0] 24 (0, 0))) := ⟨by rw [← hq_]; exact (xK BK707.out)⟩; have n1_ : Aside0 (Below w.heap.size w w75) := ⟨by rw [← hq_]; exact xG⟩; clear BK707 HB hq_; have BK707 := n0_; have HB := n1_; clear n0_ n1_)); have hcz76_0 : w75.cell? ⟨gb707, 0, none⟩ = some (.int .u64 0) := (blk_cell BK707.out 0).trans rfl; have hcz76_1 : w75.cell? ⟨gb707, 1, none⟩ = some (.int .u64 0) := (blk_cell BK707.out 1).trans rfl; have hfz76_0 := blk_frozen BK707.out 0; have hfz76_1 := blk_frozen BK707.out 1))
  refine bodyPost_ret (results_ct rfl _ _ gb707 24 #[.int .u64 0, .int .u64 0] (0, 0) _ rfl (by (with_reducible repeat (first | refine blk_drewN ?_ _ | refine blk_drew ?_ | refine blk_alloc ?_ _)); refine blk_put (cs := #[.int .u64 0, .int .u64 0]) ?_ 1 _ rfl; (with_reducible repeat (first | refine blk_drewN ?_ _ | refine blk_drew ?_ | refine blk_alloc ?_ _)); refine blk_put (cs := #[.int .u64 0, .int .u64 0]) ?_ 0 _ rfl; (with_reducible repeat (first | refine blk_drewN ?_ _ | refine blk_drew ?_ | refine blk_alloc ?_ _)); exact BK707.out) Tryd.underlying24 rfl (by kernel_rfl)) rfl ?_
  exact ⟨xE, xG⟩
end Go.Proofs.YtdjhmapmhajkcaaDoor.X
