-- Printed by a program of this session (xprint.py, over the kit's printer)
import Derived.Test.YtdjhmapmhajkcaaDoorX0
import Derived.Test.YtdjhmapmhajkcaaDoorZCX2
import Derived.Test.YtdjhmapmhajkcaaDoorZCX3
import Derived.Test.YtdjhmapmhajkcaaDoorZCX6
import Derived.Test.YtdjhmapmhajkcaaDoorZCX7
import Derived.Test.YtdjhmapmhajkcaaDoorZCX9
import Derived.Test.YtdjhmapmhajkcaaDoorZCX17
import Derived.Test.YtdjhmapmhajkcaaDoorZCX19
import Derived.Test.YtdjhmapmhajkcaaDoorSh
namespace Go.Proofs.YtdjhmapmhajkcaaDoor.X
open Go.RowKit Go.Proofs.YtdjhmapmhajkcaaDoorW.PrintWords Go.Proofs.YtdjhmapmhajkcaaDoorW.PrintLast Go.Proofs.YtdjhmapmhajkcaaDoor.Sm Go.Proofs.YtdjhmapmhajkcaaDoor.Sh
set_option linter.unusedVariables false
set_option linter.unusedSimpArgs false
attribute [local go_sem high] eqA28
def prefix_Of.f (k : Nat) (a0 : Int) (a1_0 : Int) (a1_1 : Int) (a2 : Int) : Option (Int × Int × Int × Int) := (addr_Right.f k a0 a1_0 a1_1).bind fun t365 => (if t365 = 0 then (if a2 < 0 then (some (0, 0, 0, 13)) else (if a2 > a0 then (some (0, 0, 0, 13)) else ((prefix_cut.f a1_0 a1_1 a2).bind fun bt366 => (some (bt366.1, bt366.2.1, bt366.2.2, 0))))) else (some (0, 0, 0, t365)))
theorem prefix_Of.mono : ∀ a0 a1 a2 a3 k, LeO (prefix_Of.f k a0 a1 a2 a3) (prefix_Of.f (k + 1) a0 a1 a2 a3) := by
  intro a0 a1 a2 a3 k
  unfold prefix_Of.f
  have m0 := @addr_Right.mono
  exact xO
set_option maxHeartbeats 8000000 in
set_option maxRecDepth 100000 in
theorem prefix_Of.calls (k : Nat) (a0 : Int) (a1_0 : Int) (a1_1 : Int) (a2 : Int) (r1 : Int) (r2 : Int) (r3 : Int) (r4 : Int) (w : World) (h : prefix_Of.f k a0 a1_0 a1_1 a2 = some (r1, r2, r3, r4)) :
    Calls Tryd.prog 26 #[.int .i64 a0, .agg #[.int .u64 a1_0, .int .u64 a1_1], .int .i64 a2] w fun e w' => e = .returned (.tuple #[.agg #[.int .u64 r1, .int .u64 r2, .int .i64 r3], .int .i64 r4]) ∧ Below w.heap.size w w' := by
  have hu24 := Tryd.underlying24
  have hu28 := Tryd.underlying28
  have HB := Aside0.mk (Below.refl w.heap.size w)
  have H : ((addr_Right.f k a0 a1_0 a1_1).bind fun t365 => (if t365 = 0 then (if a2 < 0 then (some (0, 0, 0, 13)) else (if a2 > a0 then (some (0, 0, 0, 13)) else ((prefix_cut.f a1_0 a1_1 a2).bind fun bt366 => (some (bt366.1, bt366.2.1, bt366.2.2, 0))))) else (some (0, 0, 0, t365)))) = some (r1, r2, r3, r4) := h
  clear h
  replace H := Option.bind_eq_some_iff.mp H
  obtain ⟨t365, A40, H⟩ := H
  replace H : (if t365 = 0 then (if a2 < 0 then (some (0, 0, 0, 13)) else (if a2 > a0 then (some (0, 0, 0, 13)) else ((prefix_cut.f a1_0 a1_1 a2).bind fun bt366 => (some (bt366.1, bt366.2.1, bt366.2.2, 0))))) else (some (0, 0, 0, t365))) = some (r1, r2, r3, r4) := H
  have A4 := Aside0.mk A40
  clear A40
  by_cases c5 : t365 = 0
  · rw [if_pos c5] at H
    have c5b0 : (t365 == 0) = true := beq_iff_eq.mpr c5
    have c5b1 : (t365 != 0) = false := bne_eq_false_iff_eq.mpr c5
    clear c5
    by_cases c6 : a2 < 0
    · rw [if_pos c6] at H
      have c6b0 : decide (a2 < 0) = true := decide_eq_true c6
      clear c6
      simp only [Option.some.injEq, Prod.mk.injEq] at H
      obtain ⟨rfl, rfl, rfl, rfl⟩ := H
      go_enter Tryd.func26, Tryd.ntmps26
      go_wp2_with (first | ((with_reducible refine gate_dst (N := 4) rfl ?_); refine box_event ?hg (N := 4) ?hd (cs := #[.int .u64 a1_0, .int .u64 a1_1]) (t := 24) ?hr ?_; (case hd => rfl); (case hg => rfl); (case hr => first | (go_simp; done) | (go_simp; rfl)); intro gb363 hg w7 hbox hb; have n0_ := Aside0.mk (below_step xB hb); have n1_ := Aside0.mk (hbox); have n2_ := Aside0.mk ((by rw [hg]; exact (below_size xB) : w.heap.size ≤ gb363)); have n3_ := Aside0.mk ((by rw [hg]; exact (below_size xB) : w.heap.size ≤ gb363)); clear HB; have HB := n0_; have BK363 := n1_; have GW363 := n2_; have GE363 := n3_; clear n0_ n1_ n2_ n3_; clear hb hbox hg) | ((with_reducible refine gate_dst (N := 6) rfl ?_); refine box_event ?hg (N := 6) ?hd (cs := #[.int .u64 0, .int .u64 0, .int .i64 0]) (t := 28) ?hr ?_; (case hd => rfl); (case hg => rfl); (case hr => first | (go_simp; done) | (go_simp; rfl)); intro gb364 hg w8 hbox hb; have n0_ := Aside0.mk (blk_below (g := gb363) (o := .cells #[.int .u64 a1_0, .int .u64 a1_1] 24 (0, 0)) (xK BK363.out) hb); have n1_ := Aside0.mk (below_step xG hb); have n2_ := Aside0.mk (hbox); have n3_ := Aside0.mk ((by rw [hg]; exact (below_size xG) : w.heap.size ≤ gb364)); have n4_ := Aside0.mk ((by rw [hg]; exact (below_size xG) : w.heap.size ≤ gb364)); have n5_ := Aside0.mk ((xN BK363.out : gb363 ≠ gb364)); have n6_ := Aside0.mk ((xN BK363.out : gb364 ≠ gb363)); clear BK363; clear HB; have BK363 := n0_; have HB := n1_; have BK364 := n2_; have GW364 := n3_; have GE364 := n4_; have NB363_364 := n5_; have NB364_363 := n6_; clear n0_ n1_ n2_ n3_ n4_ n5_ n6_; clear hb hbox hg; have hnb9 := NB363_364.out; have hnc9 := NB364_363.out; have hcz10_0 : w8.cell? ⟨gb363, 0, none⟩ = some (.int .u64 a1_0) := (blk_cell BK363.out 0).trans rfl; have hcz10_1 : w8.cell? ⟨gb363, 1, none⟩ = some (.int .u64 a1_1) := (blk_cell BK363.out 1).trans rfl; have hfz10_0 := blk_frozen BK363.out 0; have hfz10_1 := blk_frozen BK363.out 1) | ((with_reducible refine gate_callee (f := 58) rfl ?_); refine goesL_ (some 11) rfl rfl Tryd.func58 (by kernel_rfl) rfl #[.int .i64 a0, .agg #[.int .u64 a1_0, .int .u64 a1_1]] rfl xM ?_; (with_reducible refine (addr_Right.calls k a0 a1_0 a1_1 t365 _ A4.out).mono ?_); rintro e w11 ⟨rfl, hb⟩; refine ⟨_, rfl, ?_⟩; have n0_ := Aside0.mk (blk_below (g := gb363) (o := .cells #[.int .u64 a1_0, .int .u64 a1_1] 24 (0, 0)) (xK BK363.out) hb); have n1_ := Aside0.mk (blk_below (g := gb364) (o := .cells #[.int .u64 0, .int .u64 0, .int .i64 0] 28 (0, 0)) (xK BK364.out) hb); have n2_ := Aside0.mk (below_step xG hb); clear BK363; clear BK364; clear HB; have BK363 := n0_; have BK364 := n1_; have HB := n2_; clear n0_ n1_ n2_; (try clear hb); (try clear hb2); (try clear hk); (try clear hi); have hcz12_0 : w11.cell? ⟨gb364, 0, none⟩ = some (.int .u64 0) := (blk_cell BK364.out 0).trans rfl; have hcz12_1 : w11.cell? ⟨gb364, 1, none⟩ = some (.int .u64 0) := (blk_cell BK364.out 1).trans rfl; have hcz12_2 : w11.cell? ⟨gb364, 2, none⟩ = some (.int .i64 0) := (blk_cell BK364.out 2).trans rfl; have hfz12_0 := blk_frozen BK364.out 0; have hfz12_1 := blk_frozen BK364.out 1; have hfz12_2 := blk_frozen BK364.out 2))
      refine bodyPost_ret (results_ct rfl _ _ gb364 28 #[.int .u64 0, .int .u64 0, .int .i64 0] (0, 0) _ rfl (by (with_reducible repeat (first | refine blk_drewN ?_ _ | refine blk_drew ?_ | refine blk_alloc ?_ _)); refine blk_put (cs := #[.int .u64 0, .int .u64 0, .int .i64 0]) ?_ 2 _ rfl; (with_reducible repeat (first | refine blk_drewN ?_ _ | refine blk_drew ?_ | refine blk_alloc ?_ _)); refine blk_put (cs := #[.int .u64 0, .int .u64 0, .int .i64 0]) ?_ 1 _ rfl; (with_reducible repeat (first | refine blk_drewN ?_ _ | refine blk_drew ?_ | refine blk_alloc ?_ _)); refine blk_put (cs := #[.int .u64 0, .int .u64 0, .int .i64 0]) ?_ 0 _ rfl; (with_reducible repeat (first | refine blk_drewN ?_ _ | refine blk_drew ?_ | refine blk_alloc ?_ _)); exact BK364.out) Tryd.underlying28 rfl (by kernel_rfl)) rfl ?_
      exact ⟨xE, xG⟩
    · rw [if_neg c6] at H
      have c6b0 : decide (a2 < 0) = false := decide_eq_false c6
      clear c6
      by_cases c13 : a2 > a0
      · rw [if_pos c13] at H
        have c13b0 : decide (a0 < a2) = true := decide_eq_true c13
        clear c13
        simp only [Option.some.injEq, Prod.mk.injEq] at H
        obtain ⟨rfl, rfl, rfl, rfl⟩ := H
        go_enter Tryd.func26, Tryd.ntmps26
        go_wp2_with (first | ((with_reducible refine gate_dst (N := 4) rfl ?_); refine box_event ?hg (N := 4) ?hd (cs := #[.int .u64 a1_0, .int .u64 a1_1]) (t := 24) ?hr ?_; (case hd => rfl); (case hg => rfl); (case hr => first | (go_simp; done) | (go_simp; rfl)); intro gb363 hg w14 hbox hb; have n0_ := Aside0.mk (below_step xB hb); have n1_ := Aside0.mk (hbox); have n2_ := Aside0.mk ((by rw [hg]; exact (below_size xB) : w.heap.size ≤ gb363)); have n3_ := Aside0.mk ((by rw [hg]; exact (below_size xB) : w.heap.size ≤ gb363)); clear HB; have HB := n0_; have BK363 := n1_; have GW363 := n2_; have GE363 := n3_; clear n0_ n1_ n2_ n3_; clear hb hbox hg) | ((with_reducible refine gate_dst (N := 6) rfl ?_); refine box_event ?hg (N := 6) ?hd (cs := #[.int .u64 0, .int .u64 0, .int .i64 0]) (t := 28) ?hr ?_; (case hd => rfl); (case hg => rfl); (case hr => first | (go_simp; done) | (go_simp; rfl)); intro gb364 hg w15 hbox hb; have n0_ := Aside0.mk (blk_below (g := gb363) (o := .cells #[.int .u64 a1_0, .int .u64 a1_1] 24 (0, 0)) (xK BK363.out) hb); have n1_ := Aside0.mk (below_step xG hb); have n2_ := Aside0.mk (hbox); have n3_ := Aside0.mk ((by rw [hg]; exact (below_size xG) : w.heap.size ≤ gb364)); have n4_ := Aside0.mk ((by rw [hg]; exact (below_size xG) : w.heap.size ≤ gb364)); have n5_ := Aside0.mk ((xN BK363.out : gb363 ≠ gb364)); have n6_ := Aside0.mk ((xN BK363.out : gb364 ≠ gb363)); clear BK363; clear HB; have BK363 := n0_; have HB := n1_; have BK364 := n2_; have GW364 := n3_; have GE364 := n4_; have NB363_364 := n5_; have NB364_363 := n6_; clear n0_ n1_ n2_ n3_ n4_ n5_ n6_; clear hb hbox hg; have hnb16 := NB363_364.out; have hnc16 := NB364_363.out; have hcz17_0 : w15.cell? ⟨gb363, 0, none⟩ = some (.int .u64 a1_0) := (blk_cell BK363.out 0).trans rfl; have hcz17_1 : w15.cell? ⟨gb363, 1, none⟩ = some (.int .u64 a1_1) := (blk_cell BK363.out 1).trans rfl; have hfz17_0 := blk_frozen BK363.out 0; have hfz17_1 := blk_frozen BK363.out 1) | ((with_reducible refine gate_callee (f := 58) rfl ?_); refine goesL_ (some 11) rfl rfl Tryd.func58 (by kernel_rfl) rfl #[.int .i64 a0, .agg #[.int .u64 a1_0, .int .u64 a1_1]] rfl xM ?_; (with_reducible refine (addr_Right.calls k a0 a1_0 a1_1 t365 _ A4.out).mono ?_); rintro e w18 ⟨rfl, hb⟩; refine ⟨_, rfl, ?_⟩; have n0_ := Aside0.mk (blk_below (g := gb363) (o := .cells #[.int .u64 a1_0, .int .u64 a1_1] 24 (0, 0)) (xK BK363.out) hb); have n1_ := Aside0.mk (blk_below (g := gb364) (o := .cells #[.int .u64 0, .int .u64 0, .int .i64 0] 28 (0, 0)) (xK BK364.out) hb); have n2_ := Aside0.mk (below_step xG hb); clear BK363; clear BK364; clear HB; have BK363 := n0_; have BK364 := n1_; have HB := n2_; clear n0_ n1_ n2_; (try clear hb); (try clear hb2); (try clear hk); (try clear hi); have hcz19_0 : w18.cell? ⟨gb364, 0, none⟩ = some (.int .u64 0) := (blk_cell BK364.out 0).trans rfl; have hcz19_1 : w18.cell? ⟨gb364, 1, none⟩ = some (.int .u64 0) := (blk_cell BK364.out 1).trans rfl; have hcz19_2 : w18.cell? ⟨gb364, 2, none⟩ = some (.int .i64 0) := (blk_cell BK364.out 2).trans rfl; have hfz19_0 := blk_frozen BK364.out 0; have hfz19_1 := blk_frozen BK364.out 1; have hfz19_2 := blk_frozen BK364.out 2))
        refine bodyPost_ret (results_ct rfl _ _ gb364 28 #[.int .u64 0, .int .u64 0, .int .i64 0] (0, 0) _ rfl (by (with_reducible repeat (first | refine blk_drewN ?_ _ | refine blk_drew ?_ | refine blk_alloc ?_ _)); refine blk_put (cs := #[.int .u64 0, .int .u64 0, .int .i64 0]) ?_ 2 _ rfl; (with_reducible repeat (first | refine blk_drewN ?_ _ | refine blk_drew ?_ | refine blk_alloc ?_ _)); refine blk_put (cs := #[.int .u64 0, .int .u64 0, .int .i64 0]) ?_ 1 _ rfl; (with_reducible repeat (first | refine blk_drewN ?_ _ | refine blk_drew ?_ | refine blk_alloc ?_ _)); refine blk_put (cs := #[.int .u64 0, .int .u64 0, .int .i64 0]) ?_ 0 _ rfl; (with_reducible repeat (first | refine blk_drewN ?_ _ | refine blk_drew ?_ | refine blk_alloc ?_ _)); exact BK364.out) Tryd.underlying28 rfl (by kernel_rfl)) rfl ?_
        exact ⟨xE, xG⟩
      · rw [if_neg c13] at H
        have c13b0 : decide (a0 < a2) = false := decide_eq_false c13
        clear c13
        replace H := Option.bind_eq_some_iff.mp H
        obtain ⟨⟨t366, t367, t368⟩, A200, H⟩ := H
        replace H : (some (t366, t367, t368, 0)) = some (r1, r2, r3, r4) := H
        have A20 := Aside0.mk A200
        clear A200
        simp only [Option.some.injEq, Prod.mk.injEq] at H
        obtain ⟨rfl, rfl, rfl, rfl⟩ := H
        go_enter Tryd.func26, Tryd.ntmps26
        go_wp2_with (first | ((with_reducible refine gate_dst (N := 4) rfl ?_); refine box_event ?hg (N := 4) ?hd (cs := #[.int .u64 a1_0, .int .u64 a1_1]) (t := 24) ?hr ?_; (case hd => rfl); (case hg => rfl); (case hr => first | (go_simp; done) | (go_simp; rfl)); intro gb363 hg w21 hbox hb; have n0_ := Aside0.mk (below_step xB hb); have n1_ := Aside0.mk (hbox); have n2_ := Aside0.mk ((by rw [hg]; exact (below_size xB) : w.heap.size ≤ gb363)); have n3_ := Aside0.mk ((by rw [hg]; exact (below_size xB) : w.heap.size ≤ gb363)); clear HB; have HB := n0_; have BK363 := n1_; have GW363 := n2_; have GE363 := n3_; clear n0_ n1_ n2_ n3_; clear hb hbox hg) | ((with_reducible refine gate_dst (N := 6) rfl ?_); refine box_event ?hg (N := 6) ?hd (cs := #[.int .u64 0, .int .u64 0, .int .i64 0]) (t := 28) ?hr ?_; (case hd => rfl); (case hg => rfl); (case hr => first | (go_simp; done) | (go_simp; rfl)); intro gb364 hg w22 hbox hb; have n0_ := Aside0.mk (blk_below (g := gb363) (o := .cells #[.int .u64 a1_0, .int .u64 a1_1] 24 (0, 0)) (xK BK363.out) hb); have n1_ := Aside0.mk (below_step xG hb); have n2_ := Aside0.mk (hbox); have n3_ := Aside0.mk ((by rw [hg]; exact (below_size xG) : w.heap.size ≤ gb364)); have n4_ := Aside0.mk ((by rw [hg]; exact (below_size xG) : w.heap.size ≤ gb364)); have n5_ := Aside0.mk ((xN BK363.out : gb363 ≠ gb364)); have n6_ := Aside0.mk ((xN BK363.out : gb364 ≠ gb363)); clear BK363; clear HB; have BK363 := n0_; have HB := n1_; have BK364 := n2_; have GW364 := n3_; have GE364 := n4_; have NB363_364 := n5_; have NB364_363 := n6_; clear n0_ n1_ n2_ n3_ n4_ n5_ n6_; clear hb hbox hg; have hnb23 := NB363_364.out; have hnc23 := NB364_363.out; have hcz24_0 : w22.cell? ⟨gb363, 0, none⟩ = some (.int .u64 a1_0) := (blk_cell BK363.out 0).trans rfl; have hcz24_1 : w22.cell? ⟨gb363, 1, none⟩ = some (.int .u64 a1_1) := (blk_cell BK363.out 1).trans rfl; have hfz24_0 := blk_frozen BK363.out 0; have hfz24_1 := blk_frozen BK363.out 1) | ((with_reducible refine gate_callee (f := 58) rfl ?_); refine goesL_ (some 11) rfl rfl Tryd.func58 (by kernel_rfl) rfl #[.int .i64 a0, .agg #[.int .u64 a1_0, .int .u64 a1_1]] rfl xM ?_; (with_reducible refine (addr_Right.calls k a0 a1_0 a1_1 t365 _ A4.out).mono ?_); rintro e w25 ⟨rfl, hb⟩; refine ⟨_, rfl, ?_⟩; have n0_ := Aside0.mk (blk_below (g := gb363) (o := .cells #[.int .u64 a1_0, .int .u64 a1_1] 24 (0, 0)) (xK BK363.out) hb); have n1_ := Aside0.mk (blk_below (g := gb364) (o := .cells #[.int .u64 0, .int .u64 0, .int .i64 0] 28 (0, 0)) (xK BK364.out) hb); have n2_ := Aside0.mk (below_step xG hb); clear BK363; clear BK364; clear HB; have BK363 := n0_; have BK364 := n1_; have HB := n2_; clear n0_ n1_ n2_; (try clear hb); (try clear hb2); (try clear hk); (try clear hi); have hcz26_0 : w25.cell? ⟨gb363, 0, none⟩ = some (.int .u64 a1_0) := (blk_cell BK363.out 0).trans rfl; have hcz26_1 : w25.cell? ⟨gb363, 1, none⟩ = some (.int .u64 a1_1) := (blk_cell BK363.out 1).trans rfl; have hfz26_0 := blk_frozen BK363.out 0; have hfz26_1 := blk_frozen BK363.out 1) | ((with_reducible refine gate_callee (f := 62) rfl ?_); refine goesL_ (some 26) rfl rfl Tryd.func62 (by kernel_rfl) rfl #[.agg #[.int .u64 a1_0, .int .u64 a1_1], .int .i64 a2] rfl xM ?_; (with_reducible refine (prefix_cut.calls a1_0 a1_1 a2 t366 t367 t368 _ A20.out).mono ?_); rintro e w27 ⟨rfl, hb⟩; refine ⟨_, rfl, ?_⟩; have n0_ := Aside0.mk (blk_below (g := gb363) (o := .cells #[.int .u64 a1_0, .int .u64 a1_1] 24 (0, 0)) (xK BK363.out) hb); have n1_ := Aside0.mk (blk_below (g := gb364) (o := .cells #[.int .u64 0, .int .u64 0, .int .i64 0] 28 (0, 0)) (xK BK364.out) hb); have n2_ := Aside0.mk (below_step xG hb); clear BK363; clear BK364; clear HB; have BK363 := n0_; have BK364 := n1_; have HB := n2_; clear n0_ n1_ n2_; (try clear hb); (try clear hb2); (try clear hk); (try clear hi); have hcz28_0 : w27.cell? ⟨gb364, 0, none⟩ = some (.int .u64 0) := (blk_cell BK364.out 0).trans rfl; have hcz28_1 : w27.cell? ⟨gb364, 1, none⟩ = some (.int .u64 0) := (blk_cell BK364.out 1).trans rfl; have hcz28_2 : w27.cell? ⟨gb364, 2, none⟩ = some (.int .i64 0) := (blk_cell BK364.out 2).trans rfl; have hfz28_0 := blk_frozen BK364.out 0; have hfz28_1 := blk_frozen BK364.out 1; have hfz28_2 := blk_frozen BK364.out 2))
        refine bodyPost_ret (results_ct rfl _ _ gb364 28 #[.int .u64 t366, .int .u64 t367, .int .i64 t368] (0, 0) _ rfl (by (with_reducible repeat (first | refine blk_drewN ?_ _ | refine blk_drew ?_ | refine blk_alloc ?_ _)); refine blk_put (cs := #[.int .u64 t366, .int .u64 t367, .int .i64 0]) ?_ 2 _ rfl; (with_reducible repeat (first | refine blk_drewN ?_ _ | refine blk_drew ?_ | refine blk_alloc ?_ _)); refine blk_put (cs := #[.int .u64 t366, .int .u64 0, .int .i64 0]) ?_ 1 _ rfl; (with_reducible repeat (first | refine blk_drewN ?_ _ | refine blk_drew ?_ | refine blk_alloc ?_ _)); refine blk_put (cs := #[.int .u64 0, .int .u64 0, .int .i64 0]) ?_ 0 _ rfl; (with_reducible repeat (first | refine blk_drewN ?_ _ | refine blk_drew ?_ | refine blk_alloc ?_ _)); exact BK364.out) Tryd.underlying28 rfl (by kernel_rfl)) rfl ?_
        exact ⟨xE, xG⟩
  · rw [if_neg c5] at H
    have c5b0 : (t365 == 0) = false := beq_eq_false_iff_ne.mpr c5
    have c5b1 : (t365 != 0) = true := bne_iff_ne.mpr c5
    simp only [Option.some.injEq, Prod.mk.injEq] at H
    obtain ⟨rfl, rfl, rfl, rfl⟩ := H
    go_enter Tryd.func26, Tryd.ntmps26
    go_wp2_with (first | ((with_reducible refine gate_dst (N := 4) rfl ?_); refine box_event ?hg (N := 4) ?hd (cs := #[.int .u64 a1_0, .int .u64 a1_1]) (t := 24) ?hr ?_; (case hd => rfl); (case hg => rfl); (case hr => first | (go_simp; done) | (go_simp; rfl)); intro gb363 hg w29 hbox hb; have n0_ := Aside0.mk (below_step xB hb); have n1_ := Aside0.mk (hbox); have n2_ := Aside0.mk ((by rw [hg]; exact (below_size xB) : w.heap.size ≤ gb363)); have n3_ := Aside0.mk ((by rw [hg]; exact (below_size xB) : w.heap.size ≤ gb363)); clear HB; have HB := n0_; have BK363 := n1_; have GW363 := n2_; have GE363 := n3_; clear n0_ n1_ n2_ n3_; clear hb hbox hg) | ((with_reducible refine gate_dst (N := 6) rfl ?_); refine box_event ?hg (N := 6) ?hd (cs := #[.int .u64 0, .int .u64 0, .int .i64 0]) (t := 28) ?hr ?_; (case hd => rfl); (case hg => rfl); (case hr => first | (go_simp; done) | (go_simp; rfl)); intro gb364 hg w30 hbox hb; have n0_ := Aside0.mk (blk_below (g := gb363) (o := .cells #[.int .u64 a1_0, .int .u64 a1_1] 24 (0, 0)) (xK BK363.out) hb); have n1_ := Aside0.mk (below_step xG hb); have n2_ := Aside0.mk (hbox); have n3_ := Aside0.mk ((by rw [hg]; exact (below_size xG) : w.heap.size ≤ gb364)); have n4_ := Aside0.mk ((by rw [hg]; exact (below_size xG) : w.heap.size ≤ gb364)); have n5_ := Aside0.mk ((xN BK363.out : gb363 ≠ gb364)); have n6_ := Aside0.mk ((xN BK363.out : gb364 ≠ gb363)); clear BK363; clear HB; have BK363 := n0_; have HB := n1_; have BK364 := n2_; have GW364 := n3_; have GE364 := n4_; have NB363_364 := n5_; have NB364_363 := n6_; clear n0_ n1_ n2_ n3_ n4_ n5_ n6_; clear hb hbox hg; have hnb31 := NB363_364.out; have hnc31 := NB364_363.out; have hcz32_0 : w30.cell? ⟨gb363, 0, none⟩ = some (.int .u64 a1_0) := (blk_cell BK363.out 0).trans rfl; have hcz32_1 : w30.cell? ⟨gb363, 1, none⟩ = some (.int .u64 a1_1) := (blk_cell BK363.out 1).trans rfl; have hfz32_0 := blk_frozen BK363.out 0; have hfz32_1 := blk_frozen BK363.out 1) | ((with_reducible refine gate_callee (f := 58) rfl ?_); refine goesL_ (some 11) rfl rfl Tryd.func58 (by kernel_rfl) rfl #[.int .i64 a0, .agg #[.int .u64 a1_0, .int .u64 a1_1]] rfl xM ?_; (with_reducible refine (addr_Right.calls k a0 a1_0 a1_1 t365 _ A4.out).mono ?_); rintro e w33 ⟨rfl, hb⟩; refine ⟨_, rfl, ?_⟩; have n0_ := Aside0.mk (blk_below (g := gb363) (o := .cells #[.int .u64 a1_0, .int .u64 a1_1] 24 (0, 0)) (xK BK363.out) hb); have n1_ := Aside0.mk (blk_below (g := gb364) (o := .cells #[.int .u64 0, .int .u64 0, .int .i64 0] 28 (0, 0)) (xK BK364.out) hb); have n2_ := Aside0.mk (below_step xG hb); clear BK363; clear BK364; clear HB; have BK363 := n0_; have BK364 := n1_; have HB := n2_; clear n0_ n1_ n2_; (try clear hb); (try clear hb2); (try clear hk); (try clear hi); have hcz34_0 : w33.cell? ⟨gb364, 0, none⟩ = some (.int .u64 0) := (blk_cell BK364.out 0).trans rfl; have hcz34_1 : w33.cell? ⟨gb364, 1, none⟩ = some (.int .u64 0) := (blk_cell BK364.out 1).trans rfl; have hcz34_2 : w33.cell? ⟨gb364, 2, none⟩ = some (.int .i64 0) := (blk_cell BK364.out 2).trans rfl; have hfz34_0 := blk_frozen BK364.out 0; have hfz34_1 := blk_frozen BK364.out 1; have hfz34_2 := blk_frozen BK364.out 2))
    refine bodyPost_ret (results_ct rfl _ _ gb364 28 #[.int .u64 0, .int .u64 0, .int .i64 0] (0, 0) _ rfl (by (with_reducible repeat (first | refine blk_drewN ?_ _ | refine blk_drew ?_ | refine blk_alloc ?_ _)); refine blk_put (cs := #[.int .u64 0, .int .u64 0, .int .i64 0]) ?_ 2 _ rfl; (with_reducible repeat (first | refine blk_drewN ?_ _ | refine blk_drew ?_ | refine blk_alloc ?_ _)); refine blk_put (cs := #[.int .u64 0, .int .u64 0, .int .i64 0]) ?_ 1 _ rfl; (with_reducible repeat (first | refine blk_drewN ?_ _ | refine blk_drew ?_ | refine blk_alloc ?_ _)); refine blk_put (cs := #[.int .u64 0, .int .u64 0, .int .i64 0]) ?_ 0 _ rfl; (with_reducible repeat (first | refine blk_drewN ?_ _ | refine blk_drew ?_ | refine blk_alloc ?_ _)); exact BK364.out) Tryd.underlying28 rfl (by kernel_rfl)) rfl ?_
    exact ⟨xE, xG⟩
def turnpikeref3_Of.f (k : Nat) (a0 : Int) (a1_0 : Int) (a1_1 : Int) (a2 : Int) : Option (Int × Int × Int × Int) := (turnpikeref2_Right.f k a0 a1_0 a1_1).bind fun t371 => (if t371 = 0 then (if a2 < 0 then (some (0, 0, 0, 13)) else (if a2 > a0 then (some (0, 0, 0, 13)) else ((turnpikeref3_Cut.f k a1_0 a1_1 a2).bind fun bt372 => (some (bt372.1, bt372.2.1, bt372.2.2, 0))))) else (some (0, 0, 0, t371)))
theorem turnpikeref3_Of.mono : ∀ a0 a1 a2 a3 k, LeO (turnpikeref3_Of.f k a0 a1 a2 a3) (turnpikeref3_Of.f (k + 1) a0 a1 a2 a3) := by
  intro a0 a1 a2 a3 k
  unfold turnpikeref3_Of.f
  have m0 := @turnpikeref2_Right.mono
  have m1 := @turnpikeref3_Cut.mono
  exact xO
set_option maxHeartbeats 8000000 in
set_option maxRecDepth 100000 in
theorem turnpikeref3_Of.calls (k : Nat) (a0 : Int) (a1_0 : Int) (a1_1 : Int) (a2 : Int) (r1 : Int) (r2 : Int) (r3 : Int) (r4 : Int) (w : World) (h : turnpikeref3_Of.f k a0 a1_0 a1_1 a2 = some (r1, r2, r3, r4)) :
    Calls Tryd.prog 27 #[.int .i64 a0, .agg #[.int .u64 a1_0, .int .u64 a1_1], .int .i64 a2] w fun e w' => e = .returned (.tuple #[.agg #[.int .u64 r1, .int .u64 r2, .int .i64 r3], .int .i64 r4]) ∧ Below w.heap.size w w' := by
  have hu24 := Tryd.underlying24
  have hu28 := Tryd.underlying28
  have HB := Aside0.mk (Below.refl w.heap.size w)
  have H : ((turnpikeref2_Right.f k a0 a1_0 a1_1).bind fun t371 => (if t371 = 0 then (if a2 < 0 then (some (0, 0, 0, 13)) else (if a2 > a0 then (some (0, 0, 0, 13)) else ((turnpikeref3_Cut.f k a1_0 a1_1 a2).bind fun bt372 => (some (bt372.1, bt372.2.1, bt372.2.2, 0))))) else (some (0, 0, 0, t371)))) = some (r1, r2, r3, r4) := h
  clear h
  replace H := Option.bind_eq_some_iff.mp H
  obtain ⟨t371, A40, H⟩ := H
  replace H : (if t371 = 0 then (if a2 < 0 then (some (0, 0, 0, 13)) else (if a2 > a0 then (some (0, 0, 0, 13)) else ((turnpikeref3_Cut.f k a1_0 a1_1 a2).bind fun bt372 => (some (bt372.1, bt372.2.1, bt372.2.2, 0))))) else (some (0, 0, 0, t371))) = some (r1, r2, r3, r4) := H
  have A4 := Aside0.mk A40
  clear A40
  by_cases c5 : t371 = 0
  · rw [if_pos c5] at H
    have c5b0 : (t371 == 0) = true := beq_iff_eq.mpr c5
    have c5b1 : (t371 != 0) = false := bne_eq_false_iff_eq.mpr c5
    clear c5
    by_cases c6 : a2 < 0
    · rw [if_pos c6] at H
      have c6b0 : decide (a2 < 0) = true := decide_eq_true c6
      clear c6
      simp only [Option.some.injEq, Prod.mk.injEq] at H
      obtain ⟨rfl, rfl, rfl, rfl⟩ := H
      go_enter Tryd.func27, Tryd.ntmps27
      go_wp2_with (first | ((with_reducible refine gate_dst (N := 4) rfl ?_); refine box_event ?hg (N := 4) ?hd (cs := #[.int .u64 a1_0, .int .u64 a1_1]) (t := 24) ?hr ?_; (case hd => rfl); (case hg => rfl); (case hr => first | (go_simp; done) | (go_simp; rfl)); intro gb369 hg w7 hbox hb; have n0_ := Aside0.mk (below_step xB hb); have n1_ := Aside0.mk (hbox); have n2_ := Aside0.mk ((by rw [hg]; exact (below_size xB) : w.heap.size ≤ gb369)); have n3_ := Aside0.mk ((by rw [hg]; exact (below_size xB) : w.heap.size ≤ gb369)); clear HB; have HB := n0_; have BK369 := n1_; have GW369 := n2_; have GE369 := n3_; clear n0_ n1_ n2_ n3_; clear hb hbox hg) | ((with_reducible refine gate_dst (N := 6) rfl ?_); refine box_event ?hg (N := 6) ?hd (cs := #[.int .u64 0, .int .u64 0, .int .i64 0]) (t := 28) ?hr ?_; (case hd => rfl); (case hg => rfl); (case hr => first | (go_simp; done) | (go_simp; rfl)); intro gb370 hg w8 hbox hb; have n0_ := Aside0.mk (blk_below (g := gb369) (o := .cells #[.int .u64 a1_0, .int .u64 a1_1] 24 (0, 0)) (xK BK369.out) hb); have n1_ := Aside0.mk (below_step xG hb); have n2_ := Aside0.mk (hbox); have n3_ := Aside0.mk ((by rw [hg]; exact (below_size xG) : w.heap.size ≤ gb370)); have n4_ := Aside0.mk ((by rw [hg]; exact (below_size xG) : w.heap.size ≤ gb370)); have n5_ := Aside0.mk ((xN BK369.out : gb369 ≠ gb370)); have n6_ := Aside0.mk ((xN BK369.out : gb370 ≠ gb369)); clear BK369; clear HB; have BK369 := n0_; have HB := n1_; have BK370 := n2_; have GW370 := n3_; have GE370 := n4_; have NB369_370 := n5_; have NB370_369 := n6_; clear n0_ n1_ n2_ n3_ n4_ n5_ n6_; clear hb hbox hg; have hnb9 := NB369_370.out; have hnc9 := NB370_369.out; have hcz10_0 : w8.cell? ⟨gb369, 0, none⟩ = some (.int .u64 a1_0) := (blk_cell BK369.out 0).trans rfl; have hcz10_1 : w8.cell? ⟨gb369, 1, none⟩ = some (.int .u64 a1_1) := (blk_cell BK369.out 1).trans rfl; have hfz10_0 := blk_frozen BK369.out 0; have hfz10_1 := blk_frozen BK369.out 1) | ((with_reducible refine gate_callee (f := 50) rfl ?_); refine goesL_ (some 11) rfl rfl Tryd.func50 (by kernel_rfl) rfl #[.int .i64 a0, .agg #[.int .u64 a1_0, .int .u64 a1_1]] rfl xM ?_; (with_reducible refine (turnpikeref2_Right.calls k a0 a1_0 a1_1 t371 _ A4.out).mono ?_); rintro e w11 ⟨rfl, hb⟩; refine ⟨_, rfl, ?_⟩; have n0_ := Aside0.mk (blk_below (g := gb369) (o := .cells #[.int .u64 a1_0, .int .u64 a1_1] 24 (0, 0)) (xK BK369.out) hb); have n1_ := Aside0.mk (blk_below (g := gb370) (o := .cells #[.int .u64 0, .int .u64 0, .int .i64 0] 28 (0, 0)) (xK BK370.out) hb); have n2_ := Aside0.mk (below_step xG hb); clear BK369; clear BK370; clear HB; have BK369 := n0_; have BK370 := n1_; have HB := n2_; clear n0_ n1_ n2_; (try clear hb); (try clear hb2); (try clear hk); (try clear hi); have hcz12_0 : w11.cell? ⟨gb370, 0, none⟩ = some (.int .u64 0) := (blk_cell BK370.out 0).trans rfl; have hcz12_1 : w11.cell? ⟨gb370, 1, none⟩ = some (.int .u64 0) := (blk_cell BK370.out 1).trans rfl; have hcz12_2 : w11.cell? ⟨gb370, 2, none⟩ = some (.int .i64 0) := (blk_cell BK370.out 2).trans rfl; have hfz12_0 := blk_frozen BK370.out 0; have hfz12_1 := blk_frozen BK370.out 1; have hfz12_2 := blk_frozen BK370.out 2))
      refine bodyPost_ret (results_ct rfl _ _ gb370 28 #[.int .u64 0, .int .u64 0, .int .i64 0] (0, 0) _ rfl (by (with_reducible repeat (first | refine blk_drewN ?_ _ | refine blk_drew ?_ | refine blk_alloc ?_ _)); refine blk_put (cs := #[.int .u64 0, .int .u64 0, .int .i64 0]) ?_ 2 _ rfl; (with_reducible repeat (first | refine blk_drewN ?_ _ | refine blk_drew ?_ | refine blk_alloc ?_ _)); refine blk_put (cs := #[.int .u64 0, .int .u64 0, .int .i64 0]) ?_ 1 _ rfl; (with_reducible repeat (first | refine blk_drewN ?_ _ | refine blk_drew ?_ | refine blk_alloc ?_ _)); refine blk_put (cs := #[.int .u64 0, .int .u64 0, .int .i64 0]) ?_ 0 _ rfl; (with_reducible repeat (first | refine blk_drewN ?_ _ | refine blk_drew ?_ | refine blk_alloc ?_ _)); exact BK370.out) Tryd.underlying28 rfl (by kernel_rfl)) rfl ?_
      exact ⟨xE, xG⟩
    · rw [if_neg c6] at H
      have c6b0 : decide (a2 < 0) = false := decide_eq_false c6
      clear c6
      by_cases c13 : a2 > a0
      · rw [if_pos c13] at H
        have c13b0 : decide (a0 < a2) = true := decide_eq_true c13
        clear c13
        simp only [Option.some.injEq, Prod.mk.injEq] at H
        obtain ⟨rfl, rfl, rfl, rfl⟩ := H
        go_enter Tryd.func27, Tryd.ntmps27
        go_wp2_with (first | ((with_reducible refine gate_dst (N := 4) rfl ?_); refine box_event ?hg (N := 4) ?hd (cs := #[.int .u64 a1_0, .int .u64 a1_1]) (t := 24) ?hr ?_; (case hd => rfl); (case hg => rfl); (case hr => first | (go_simp; done) | (go_simp; rfl)); intro gb369 hg w14 hbox hb; have n0_ := Aside0.mk (below_step xB hb); have n1_ := Aside0.mk (hbox); have n2_ := Aside0.mk ((by rw [hg]; exact (below_size xB) : w.heap.size ≤ gb369)); have n3_ := Aside0.mk ((by rw [hg]; exact (below_size xB) : w.heap.size ≤ gb369)); clear HB; have HB := n0_; have BK369 := n1_; have GW369 := n2_; have GE369 := n3_; clear n0_ n1_ n2_ n3_; clear hb hbox hg) | ((with_reducible refine gate_dst (N := 6) rfl ?_); refine box_event ?hg (N := 6) ?hd (cs := #[.int .u64 0, .int .u64 0, .int .i64 0]) (t := 28) ?hr ?_; (case hd => rfl); (case hg => rfl); (case hr => first | (go_simp; done) | (go_simp; rfl)); intro gb370 hg w15 hbox hb; have n0_ := Aside0.mk (blk_below (g := gb369) (o := .cells #[.int .u64 a1_0, .int .u64 a1_1] 24 (0, 0)) (xK BK369.out) hb); have n1_ := Aside0.mk (below_step xG hb); have n2_ := Aside0.mk (hbox); have n3_ := Aside0.mk ((by rw [hg]; exact (below_size xG) : w.heap.size ≤ gb370)); have n4_ := Aside0.mk ((by rw [hg]; exact (below_size xG) : w.heap.size ≤ gb370)); have n5_ := Aside0.mk ((xN BK369.out : gb369 ≠ gb370)); have n6_ := Aside0.mk ((xN BK369.out : gb370 ≠ gb369)); clear BK369; clear HB; have BK369 := n0_; have HB := n1_; have BK370 := n2_; have GW370 := n3_; have GE370 := n4_; have NB369_370 := n5_; have NB370_369 := n6_; clear n0_ n1_ n2_ n3_ n4_ n5_ n6_; clear hb hbox hg; have hnb16 := NB369_370.out; have hnc16 := NB370_369.out; have hcz17_0 : w15.cell? ⟨gb369, 0, none⟩ = some (.int .u64 a1_0) := (blk_cell BK369.out 0).trans rfl; have hcz17_1 : w15.cell? ⟨gb369, 1, none⟩ = some (.int .u64 a1_1) := (blk_cell BK369.out 1).trans rfl; have hfz17_0 := blk_frozen BK369.out 0; have hfz17_1 := blk_frozen BK369.out 1) | ((with_reducible refine gate_callee (f := 50) rfl ?_); refine goesL_ (some 11) rfl rfl Tryd.func50 (by kernel_rfl) rfl #[.int .i64 a0, .agg #[.int .u64 a1_0, .int .u64 a1_1]] rfl xM ?_; (with_reducible refine (turnpikeref2_Right.calls k a0 a1_0 a1_1 t371 _ A4.out).mono ?_); rintro e w18 ⟨rfl, hb⟩; refine ⟨_, rfl, ?_⟩; have n0_ := Aside0.mk (blk_below (g := gb369) (o := .cells #[.int .u64 a1_0, .int .u64 a1_1] 24 (0, 0)) (xK BK369.out) hb); have n1_ := Aside0.mk (blk_below (g := gb370) (o := .cells #[.int .u64 0, .int .u64 0, .int .i64 0] 28 (0, 0)) (xK BK370.out) hb); have n2_ := Aside0.mk (below_step xG hb); clear BK369; clear BK370; clear HB; have BK369 := n0_; have BK370 := n1_; have HB := n2_; clear n0_ n1_ n2_; (try clear hb); (try clear hb2); (try clear hk); (try clear hi); have hcz19_0 : w18.cell? ⟨gb370, 0, none⟩ = some (.int .u64 0) := (blk_cell BK370.out 0).trans rfl; have hcz19_1 : w18.cell? ⟨gb370, 1, none⟩ = some (.int .u64 0) := (blk_cell BK370.out 1).trans rfl; have hcz19_2 : w18.cell? ⟨gb370, 2, none⟩ = some (.int .i64 0) := (blk_cell BK370.out 2).trans rfl; have hfz19_0 := blk_frozen BK370.out 0; have hfz19_1 := blk_frozen BK370.out 1; have hfz19_2 := blk_frozen BK370.out 2))
        refine bodyPost_ret (results_ct rfl _ _ gb370 28 #[.int .u64 0, .int .u64 0, .int .i64 0] (0, 0) _ rfl (by (with_reducible repeat (first | refine blk_drewN ?_ _ | refine blk_drew ?_ | refine blk_alloc ?_ _)); refine blk_put (cs := #[.int .u64 0, .int .u64 0, .int .i64 0]) ?_ 2 _ rfl; (with_reducible repeat (first | refine blk_drewN ?_ _ | refine blk_drew ?_ | refine blk_alloc ?_ _)); refine blk_put (cs := #[.int .u64 0, .int .u64 0, .int .i64 0]) ?_ 1 _ rfl; (with_reducible repeat (first | refine blk_drewN ?_ _ | refine blk_drew ?_ | refine blk_alloc ?_ _)); refine blk_put (cs := #[.int .u64 0, .int .u64 0, .int .i64 0]) ?_ 0 _ rfl; (with_reducible repeat (first | refine blk_drewN ?_ _ | refine blk_drew ?_ | refine blk_alloc ?_ _)); exact BK370.out) Tryd.underlying28 rfl (by kernel_rfl)) rfl ?_
        exact ⟨xE, xG⟩
      · rw [if_neg c13] at H
        have c13b0 : decide (a0 < a2) = false := decide_eq_false c13
        clear c13
        replace H := Option.bind_eq_some_iff.mp H
        obtain ⟨⟨t372, t373, t374⟩, A200, H⟩ := H
        replace H : (some (t372, t373, t374, 0)) = some (r1, r2, r3, r4) := H
        have A20 := Aside0.mk A200
        clear A200
        simp only [Option.some.injEq, Prod.mk.injEq] at H
        obtain ⟨rfl, rfl, rfl, rfl⟩ := H
        go_enter Tryd.func27, Tryd.ntmps27
        go_wp2_with (first | ((with_reducible refine gate_dst (N := 4) rfl ?_); refine box_event ?hg (N := 4) ?hd (cs := #[.int .u64 a1_0, .int .u64 a1_1]) (t := 24) ?hr ?_; (case hd => rfl); (case hg => rfl); (case hr => first | (go_simp; done) | (go_simp; rfl)); intro gb369 hg w21 hbox hb; have n0_ := Aside0.mk (below_step xB hb); have n1_ := Aside0.mk (hbox); have n2_ := Aside0.mk ((by rw [hg]; exact (below_size xB) : w.heap.size ≤ gb369)); have n3_ := Aside0.mk ((by rw [hg]; exact (below_size xB) : w.heap.size ≤ gb369)); clear HB; have HB := n0_; have BK369 := n1_; have GW369 := n2_; have GE369 := n3_; clear n0_ n1_ n2_ n3_; clear hb hbox hg) | ((with_reducible refine gate_dst (N := 6) rfl ?_); refine box_event ?hg (N := 6) ?hd (cs := #[.int .u64 0, .int .u64 0, .int .i64 0]) (t := 28) ?hr ?_; (case hd => rfl); (case hg => rfl); (case hr => first | (go_simp; done) | (go_simp; rfl)); intro gb370 hg w22 hbox hb; have n0_ := Aside0.mk (blk_below (g := gb369) (o := .cells #[.int .u64 a1_0, .int .u64 a1_1] 24 (0, 0)) (xK BK369.out) hb); have n1_ := Aside0.mk (below_step xG hb); have n2_ := Aside0.mk (hbox); have n3_ := Aside0.mk ((by rw [hg]; exact (below_size xG) : w.heap.size ≤ gb370)); have n4_ := Aside0.mk ((by rw [hg]; exact (below_size xG) : w.heap.size ≤ gb370)); have n5_ := Aside0.mk ((xN BK369.out : gb369 ≠ gb370)); have n6_ := Aside0.mk ((xN BK369.out : gb370 ≠ gb369)); clear BK369; clear HB; have BK369 := n0_; have HB := n1_; have BK370 := n2_; have GW370 := n3_; have GE370 := n4_; have NB369_370 := n5_; have NB370_369 := n6_; clear n0_ n1_ n2_ n3_ n4_ n5_ n6_; clear hb hbox hg; have hnb23 := NB369_370.out; have hnc23 := NB370_369.out; have hcz24_0 : w22.cell? ⟨gb369, 0, none⟩ = some (.int .u64 a1_0) := (blk_cell BK369.out 0).trans rfl; have hcz24_1 : w22.cell? ⟨gb369, 1, none⟩ = some (.int .u64 a1_1) := (blk_cell BK369.out 1).trans rfl; have hfz24_0 := blk_frozen BK369.out 0; have hfz24_1 := blk_frozen BK369.out 1) | ((with_reducible refine gate_callee (f := 50) rfl ?_); refine goesL_ (some 11) rfl rfl Tryd.func50 (by kernel_rfl) rfl #[.int .i64 a0, .agg #[.int .u64 a1_0, .int .u64 a1_1]] rfl xM ?_; (with_reducible refine (turnpikeref2_Right.calls k a0 a1_0 a1_1 t371 _ A4.out).mono ?_); rintro e w25 ⟨rfl, hb⟩; refine ⟨_, rfl, ?_⟩; have n0_ := Aside0.mk (blk_below (g := gb369) (o := .cells #[.int .u64 a1_0, .int .u64 a1_1] 24 (0, 0)) (xK BK369.out) hb); have n1_ := Aside0.mk (blk_below (g := gb370) (o := .cells #[.int .u64 0, .int .u64 0, .int .i64 0] 28 (0, 0)) (xK BK370.out) hb); have n2_ := Aside0.mk (below_step xG hb); clear BK369; clear BK370; clear HB; have BK369 := n0_; have BK370 := n1_; have HB := n2_; clear n0_ n1_ n2_; (try clear hb); (try clear hb2); (try clear hk); (try clear hi); have hcz26_0 : w25.cell? ⟨gb369, 0, none⟩ = some (.int .u64 a1_0) := (blk_cell BK369.out 0).trans rfl; have hcz26_1 : w25.cell? ⟨gb369, 1, none⟩ = some (.int .u64 a1_1) := (blk_cell BK369.out 1).trans rfl; have hfz26_0 := blk_frozen BK369.out 0; have hfz26_1 := blk_frozen BK369.out 1) | ((with_reducible refine gate_callee (f := 49) rfl ?_); refine goesL_ (some 26) rfl rfl Tryd.func49 (by kernel_rfl) rfl #[.agg #[.int .u64 a1_0, .int .u64 a1_1], .int .i64 a2] rfl xM ?_; (with_reducible refine (turnpikeref3_Cut.calls k a1_0 a1_1 a2 t372 t373 t374 _ A20.out).mono ?_); rintro e w27 ⟨rfl, hb⟩; refine ⟨_, rfl, ?_⟩; have n0_ := Aside0.mk (blk_below (g := gb369) (o := .cells #[.int .u64 a1_0, .int .u64 a1_1] 24 (0, 0)) (xK BK369.out) hb); have n1_ := Aside0.mk (blk_below (g := gb370) (o := .cells #[.int .u64 0, .int .u64 0, .int .i64 0] 28 (0, 0)) (xK BK370.out) hb); have n2_ := Aside0.mk (below_step xG hb); clear BK369; clear BK370; clear HB; have BK369 := n0_; have BK370 := n1_; have HB := n2_; clear n0_ n1_ n2_; (try clear hb); (try clear hb2); (try clear hk); (try clear hi); have hcz28_0 : w27.cell? ⟨gb370, 0, none⟩ = some (.int .u64 0) := (blk_cell BK370.out 0).trans rfl; have hcz28_1 : w27.cell? ⟨gb370, 1, none⟩ = some (.int .u64 0) := (blk_cell BK370.out 1).trans rfl; have hcz28_2 : w27.cell? ⟨gb370, 2, none⟩ = some (.int .i64 0) := (blk_cell BK370.out 2).trans rfl; have hfz28_0 := blk_frozen BK370.out 0; have hfz28_1 := blk_frozen BK370.out 1; have hfz28_2 := blk_frozen BK370.out 2))
        refine bodyPost_ret (results_ct rfl _ _ gb370 28 #[.int .u64 t372, .int .u64 t373, .int .i64 t374] (0, 0) _ rfl (by (with_reducible repeat (first | refine blk_drewN ?_ _ | refine blk_drew ?_ | refine blk_alloc ?_ _)); refine blk_put (cs := #[.int .u64 t372, .int .u64 t373, .int .i64 0]) ?_ 2 _ rfl; (with_reducible repeat (first | refine blk_drewN ?_ _ | refine blk_drew ?_ | refine blk_alloc ?_ _)); refine blk_put (cs := #[.int .u64 t372, .int .u64 0, .int .i64 0]) ?_ 1 _ rfl; (with_reducible repeat (first | refine blk_drewN ?_ _ | refine blk_drew ?_ | refine blk_alloc ?_ _)); refine blk_put (cs := #[.int .u64 0, .int .u64 0, .int .i64 0]) ?_ 0 _ rfl; (with_reducible repeat (first | refine blk_drewN ?_ _ | refine blk_drew ?_ | refine blk_alloc ?_ _)); exact BK370.out) Tryd.underlying28 rfl (by kernel_rfl)) rfl ?_
        exact ⟨xE, xG⟩
  · rw [if_neg c5] at H
    have c5b0 : (t371 == 0) = false := beq_eq_false_iff_ne.mpr c5
    have c5b1 : (t371 != 0) = true := bne_iff_ne.mpr c5
    simp only [Option.some.injEq, Prod.mk.injEq] at H
    obtain ⟨rfl, rfl, rfl, rfl⟩ := H
    go_enter Tryd.func27, Tryd.ntmps27
    go_wp2_with (first | ((with_reducible refine gate_dst (N := 4) rfl ?_); refine box_event ?hg (N := 4) ?hd (cs := #[.int .u64 a1_0, .int .u64 a1_1]) (t := 24) ?hr ?_; (case hd => rfl); (case hg => rfl); (case hr => first | (go_simp; done) | (go_simp; rfl)); intro gb369 hg w29 hbox hb; have n0_ := Aside0.mk (below_step xB hb); have n1_ := Aside0.mk (hbox); have n2_ := Aside0.mk ((by rw [hg]; exact (below_size xB) : w.heap.size ≤ gb369)); have n3_ := Aside0.mk ((by rw [hg]; exact (below_size xB) : w.heap.size ≤ gb369)); clear HB; have HB := n0_; have BK369 := n1_; have GW369 := n2_; have GE369 := n3_; clear n0_ n1_ n2_ n3_; clear hb hbox hg) | ((with_reducible refine gate_dst (N := 6) rfl ?_); refine box_event ?hg (N := 6) ?hd (cs := #[.int .u64 0, .int .u64 0, .int .i64 0]) (t := 28) ?hr ?_; (case hd => rfl); (case hg => rfl); (case hr => first | (go_simp; done) | (go_simp; rfl)); intro gb370 hg w30 hbox hb; have n0_ := Aside0.mk (blk_below (g := gb369) (o := .cells #[.int .u64 a1_0, .int .u64 a1_1] 24 (0, 0)) (xK BK369.out) hb); have n1_ := Aside0.mk (below_step xG hb); have n2_ := Aside0.mk (hbox); have n3_ := Aside0.mk ((by rw [hg]; exact (below_size xG) : w.heap.size ≤ gb370)); have n4_ := Aside0.mk ((by rw [hg]; exact (below_size xG) : w.heap.size ≤ gb370)); have n5_ := Aside0.mk ((xN BK369.out : gb369 ≠ gb370)); have n6_ := Aside0.mk ((xN BK369.out : gb370 ≠ gb369)); clear BK369; clear HB; have BK369 := n0_; have HB := n1_; have BK370 := n2_; have GW370 := n3_; have GE370 := n4_; have NB369_370 := n5_; have NB370_369 := n6_; clear n0_ n1_ n2_ n3_ n4_ n5_ n6_; clear hb hbox hg; have hnb31 := NB369_370.out; have hnc31 := NB370_369.out; have hcz32_0 : w30.cell? ⟨gb369, 0, none⟩ = some (.int .u64 a1_0) := (blk_cell BK369.out 0).trans rfl; have hcz32_1 : w30.cell? ⟨gb369, 1, none⟩ = some (.int .u64 a1_1) := (blk_cell BK369.out 1).trans rfl; have hfz32_0 := blk_frozen BK369.out 0; have hfz32_1 := blk_frozen BK369.out 1) | ((with_reducible refine gate_callee (f := 50) rfl ?_); refine goesL_ (some 11) rfl rfl Tryd.func50 (by kernel_rfl) rfl #[.int .i64 a0, .agg #[.int .u64 a1_0, .int .u64 a1_1]] rfl xM ?_; (with_reducible refine (turnpikeref2_Right.calls k a0 a1_0 a1_1 t371 _ A4.out).mono ?_); rintro e w33 ⟨rfl, hb⟩; refine ⟨_, rfl, ?_⟩; have n0_ := Aside0.mk (blk_below (g := gb369) (o := .cells #[.int .u64 a1_0, .int .u64 a1_1] 24 (0, 0)) (xK BK369.out) hb); have n1_ := Aside0.mk (blk_below (g := gb370) (o := .cells #[.int .u64 0, .int .u64 0, .int .i64 0] 28 (0, 0)) (xK BK370.out) hb); have n2_ := Aside0.mk (below_step xG hb); clear BK369; clear BK370; clear HB; have BK369 := n0_; have BK370 := n1_; have HB := n2_; clear n0_ n1_ n2_; (try clear hb); (try clear hb2); (try clear hk); (try clear hi); have hcz34_0 : w33.cell? ⟨gb370, 0, none⟩ = some (.int .u64 0) := (blk_cell BK370.out 0).trans rfl; have hcz34_1 : w33.cell? ⟨gb370, 1, none⟩ = some (.int .u64 0) := (blk_cell BK370.out 1).trans rfl; have hcz34_2 : w33.cell? ⟨gb370, 2, none⟩ = some (.int .i64 0) := (blk_cell BK370.out 2).trans rfl; have hfz34_0 := blk_frozen BK370.out 0; have hfz34_1 := blk_frozen BK370.out 1; have hfz34_2 := blk_frozen BK370.out 2))
    refine bodyPost_ret (results_ct rfl _ _ gb370 28 #[.int .u64 0, .int .u64 0, .int .i64 0] (0, 0) _ rfl (by (with_reducible repeat (first | refine blk_drewN ?_ _ | refine blk_drew ?_ | refine blk_alloc ?_ _)); refine blk_put (cs := #[.int .u64 0, .int .u64 0, .int .i64 0]) ?_ 2 _ rfl; (with_reducible repeat (first | refine blk_drewN ?_ _ | refine blk_drew ?_ | refine blk_alloc ?_ _)); refine blk_put (cs := #[.int .u64 0, .int .u64 0, .int .i64 0]) ?_ 1 _ rfl; (with_reducible repeat (first | refine blk_drewN ?_ _ | refine blk_drew ?_ | refine blk_alloc ?_ _)); refine blk_put (cs := #[.int .u64 0, .int .u64 0, .int .i64 0]) ?_ 0 _ rfl; (with_reducible repeat (first | refine blk_drewN ?_ _ | refine blk_drew ?_ | refine blk_alloc ?_ _)); exact BK370.out) Tryd.underlying28 rfl (by kernel_rfl)) rfl ?_
    exact ⟨xE, xG⟩
def turnpikelaw3_PrefixChecks.f (k : Nat) (a0 : Int) (a1_0 : Int) (a1_1 : Int) (a1_2 : Int) (a2_0 : Int) (a2_1 : Int) (a3 : Int) : Option (Bool) := (prefix_Of.f k a0 a2_0 a2_1 a3).bind fun bt383 => ((turnpikeref3_Of.f k a0 a2_0 a2_1 a3).bind fun bt388 => ((turnpikelaw3_known.f k).bind fun t393 => (if t393 = true then ((prefix_Check.f k a0 a1_0 a1_1 a1_2).bind fun t394 => ((turnpikeref3_Check.f k a0 a1_0 a1_1 a1_2).bind fun t395 => (if t394 = t395 then (if ((bt383.1 == bt388.1 && (bt383.2.1 == bt388.2.1)) && (bt383.2.2.1 == bt388.2.2.1)) = true then (some (bt383.2.2.2 == bt388.2.2.2)) else (some false)) else (some false)))) else (some false))))
theorem turnpikelaw3_PrefixChecks.mono : ∀ a0 a1 a2 a3 a4 a5 a6 k, LeO (turnpikelaw3_PrefixChecks.f k a0 a1 a2 a3 a4 a5 a6) (turnpikelaw3_PrefixChecks.f (k + 1) a0 a1 a2 a3 a4 a5 a6) := by
  intro a0 a1 a2 a3 a4 a5 a6 k
  unfold turnpikelaw3_PrefixChecks.f
  have m0 := @prefix_Check.mono
  have m1 := @prefix_Of.mono
  have m2 := @turnpikelaw3_known.mono
  have m3 := @turnpikeref3_Check.mono
  have m4 := @turnpikeref3_Of.mono
  exact xO
def turnpikelaw3_PrefixChecks.T3 : Bool × List (List Nat × List Nat) := (true, [([], []), ([0, 0], [0]), ([1], [1]), ([1], [1]), ([2, 3, 1, 1], [1, 2, 3]), ([1], [1]), ([1], [1]), ([5, 6, 4, 1], [1, 5, 6]), ([4, 7, 1], [1, 4, 7]), ([1, 8], [1, 8]), ([9, 7], [9]), ([10], [10]), ([10], [10]), ([11, 12, 10], [10, 11, 12]), ([10, 13], [10, 13]), ([14, 10], [14]), ([15], [15]), ([15], [15]), ([16, 17, 15], [15, 16, 17]), ([15, 18], [15, 18]), ([19, 15, 0, 1, 2, 3, 4, 5, 6, 7, 8, 9, 10, 11, 12, 13, 14, 15, 16, 17, 18, 19], [19])])
def turnpikelaw3_PrefixChecks.B3 : List Nat := [0, 1, 3, 3, 15, 3, 3, 127, 255, 511, 1023, 2047, 2047, 8191, 16383, 32767, 65535, 65535, 262143, 524287, 1048575]
theorem turnpikelaw3_PrefixChecks.tab3 : rtab .any (opsOf Tryd.f5 3) = turnpikelaw3_PrefixChecks.T3 := by kernel_rfl
theorem turnpikelaw3_PrefixChecks.bits3 : waitsOk turnpikelaw3_PrefixChecks.T3.2 turnpikelaw3_PrefixChecks.B3 = true := by kernel_rfl
set_option maxHeartbeats 8000000 in
set_option maxRecDepth 100000 in
theorem turnpikelaw3_PrefixChecks.calls (k : Nat) (a0 : Int) (a1_0 : Int) (a1_1 : Int) (a1_2 : Int) (a2_0 : Int) (a2_1 : Int) (a3 : Int) (r : Bool) (w : World) (hML : MLOk w) (hr_ : Aside0 (r = true)) (h : turnpikelaw3_PrefixChecks.f k a0 a1_0 a1_1 a1_2 a2_0 a2_1 a3 = some r) :
    Calls Tryd.prog 5 #[.int .i64 a0, .agg #[.int .u64 a1_0, .int .u64 a1_1, .int .i64 a1_2], .agg #[.int .u64 a2_0, .int .u64 a2_1], .int .i64 a3] w fun e w' => e = .returned (.bool r) ∧ Below w.heap.size w w' := by
  have hu28 := Tryd.underlying28
  have hu24 := Tryd.underlying24
  have HML := Aside0.mk hML
  clear hML
  have HB := Aside0.mk (Below.refl w.heap.size w)
  have H : ((prefix_Of.f k a0 a2_0 a2_1 a3).bind fun bt383 => ((turnpikeref3_Of.f k a0 a2_0 a2_1 a3).bind fun bt388 => ((turnpikelaw3_known.f k).bind fun t393 => (if t393 = true then ((prefix_Check.f k a0 a1_0 a1_1 a1_2).bind fun t394 => ((turnpikeref3_Check.f k a0 a1_0 a1_1 a1_2).bind fun t395 => (if t394 = t395 then (if ((bt383.1 == bt388.1 && (bt383.2.1 == bt388.2.1)) && (bt383.2.2.1 == bt388.2.2.1)) = true then (some (bt383.2.2.2 == bt388.2.2.2)) else (some false)) else (some false)))) else (some false))))) = some r := h
  clear h
  replace H := Option.bind_eq_some_iff.mp H
  obtain ⟨⟨t383, t384, t385, t386⟩, A50, H⟩ := H
  replace H : ((turnpikeref3_Of.f k a0 a2_0 a2_1 a3).bind fun bt388 => ((turnpikelaw3_known.f k).bind fun t393 => (if t393 = true then ((prefix_Check.f k a0 a1_0 a1_1 a1_2).bind fun t394 => ((turnpikeref3_Check.f k a0 a1_0 a1_1 a1_2).bind fun t395 => (if t394 = t395 then (if ((t383 == bt388.1 && (t384 == bt388.2.1)) && (t385 == bt388.2.2.1)) = true then (some (t386 == bt388.2.2.2)) else (some false)) else (some false)))) else (some false)))) = some r := H
  have A5 := Aside0.mk A50
  clear A50
  replace H := Option.bind_eq_some_iff.mp H
  obtain ⟨⟨t388, t389, t390, t391⟩, A60, H⟩ := H
  replace H : ((turnpikelaw3_known.f k).bind fun t393 => (if t393 = true then ((prefix_Check.f k a0 a1_0 a1_1 a1_2).bind fun t394 => ((turnpikeref3_Check.f k a0 a1_0 a1_1 a1_2).bind fun t395 => (if t394 = t395 then (if ((t383 == t388 && (t384 == t389)) && (t385 == t390)) = true then (some (t386 == t391)) else (some false)) else (some false)))) else (some false))) = some r := H
  have A6 := Aside0.mk A60
  clear A60
  replace H := Option.bind_eq_some_iff.mp H
  obtain ⟨t393, A70, H⟩ := H
  replace H : (if t393 = true then ((prefix_Check.f k a0 a1_0 a1_1 a1_2).bind fun t394 => ((turnpikeref3_Check.f k a0 a1_0 a1_1 a1_2).bind fun t395 => (if t394 = t395 then (if ((t383 == t388 && (t384 == t389)) && (t385 == t390)) = true then (some (t386 == t391)) else (some false)) else (some false)))) else (some false)) = some r := H
  have A7 := Aside0.mk A70
  clear A70
  by_cases c8 : t393 = true
  · subst c8
    have H1 : ((prefix_Check.f k a0 a1_0 a1_1 a1_2).bind fun t394 => ((turnpikeref3_Check.f k a0 a1_0 a1_1 a1_2).bind fun t395 => (if t394 = t395 then (if ((t383 == t388 && (t384 == t389)) && (t385 == t390)) = true then (some (t386 == t391)) else (some false)) else (some false)))) = some r := by rw [if_pos rfl] at H; exact H
    clear H
    have H := H1
    clear H1
    replace H := Option.bind_eq_some_iff.mp H
    obtain ⟨t394, A90, H⟩ := H
    replace H : ((turnpikeref3_Check.f k a0 a1_0 a1_1 a1_2).bind fun t395 => (if t394 = t395 then (if ((t383 == t388 && (t384 == t389)) && (t385 == t390)) = true then (some (t386 == t391)) else (some false)) else (some false))) = some r := H
    have A9 := Aside0.mk A90
    clear A90
    replace H := Option.bind_eq_some_iff.mp H
    obtain ⟨t395, A100, H⟩ := H
    replace H : (if t394 = t395 then (if ((t383 == t388 && (t384 == t389)) && (t385 == t390)) = true then (some (t386 == t391)) else (some false)) else (some false)) = some r := H
    have A10 := Aside0.mk A100
    clear A100
    by_cases c11 : t394 = t395
    · rw [if_pos c11] at H
      have c11b0 : (t394 == t395) = true := beq_iff_eq.mpr c11
      have c11b1 : (t394 != t395) = false := bne_eq_false_iff_eq.mpr c11
      clear c11
      by_cases c12 : ((t383 == t388 && (t384 == t389)) && (t385 == t390)) = true
      · rw [if_pos c12] at H
        have c12b0 : ((t383 == t388 && (t384 == t389)) && (t385 == t390)) = true := c12
        clear c12
        obtain rfl := Option.some.inj H
        go_enter Tryd.func5, Tryd.ntmps5
        try go_wp2_with (first | ((with_reducible refine gate_dst (N := 5) rfl ?_); refine box_event ?hg (N := 5) ?hd (cs := #[.int .u64 a1_0, .int .u64 a1_1, .int .i64 a1_2]) (t := 28) ?hr ?_; (case hd => rfl); (case hg => rfl); (case hr => first | (go_simp; done) | (go_simp; rfl)); intro gb381 hg w13 hbox hb; have n0_ := Aside0.mk (below_step xB hb); have n1_ := Aside0.mk (hbox); have n2_ := Aside0.mk ((by rw [hg]; exact (below_size xB) : w.heap.size ≤ gb381)); have n3_ := Aside0.mk ((by rw [hg]; exact (below_size xB) : w.heap.size ≤ gb381)); clear HB; have HB := n0_; have BK381 := n1_; have GW381 := n2_; have GE381 := n3_; clear n0_ n1_ n2_ n3_; clear hb hbox hg) | ((with_reducible refine gate_dst (N := 6) rfl ?_); refine box_event ?hg (N := 6) ?hd (cs := #[.int .u64 a2_0, .int .u64 a2_1]) (t := 24) ?hr ?_; (case hd => rfl); (case hg => rfl); (case hr => first | (go_simp; done) | (go_simp; rfl)); intro gb382 hg w14 hbox hb; have n0_ := Aside0.mk (blk_below (g := gb381) (o := .cells #[.int .u64 a1_0, .int .u64 a1_1, .int .i64 a1_2] 28 (0, 0)) (xK BK381.out) hb); have n1_ := Aside0.mk (below_step xG hb); have n2_ := Aside0.mk (hbox); have n3_ := Aside0.mk ((by rw [hg]; exact (below_size xG) : w.heap.size ≤ gb382)); have n4_ := Aside0.mk ((by rw [hg]; exact (below_size xG) : w.heap.size ≤ gb382)); have n5_ := Aside0.mk ((xN BK381.out : gb381 ≠ gb382)); have n6_ := Aside0.mk ((xN BK381.out : gb382 ≠ gb381)); clear BK381; clear HB; have BK381 := n0_; have HB := n1_; have BK382 := n2_; have GW382 := n3_; have GE382 := n4_; have NB381_382 := n5_; have NB382_381 := n6_; clear n0_ n1_ n2_ n3_ n4_ n5_ n6_; clear hb hbox hg; have hnb15 := NB382_381.out; have hnc15 := NB381_382.out; have hcz16_0 : w14.cell? ⟨gb382, 0, none⟩ = some (.int .u64 a2_0) := (blk_cell BK382.out 0).trans rfl; have hcz16_1 : w14.cell? ⟨gb382, 1, none⟩ = some (.int .u64 a2_1) := (blk_cell BK382.out 1).trans rfl; have hfz16_0 := blk_frozen BK382.out 0; have hfz16_1 := blk_frozen BK382.out 1) | ((with_reducible refine gate_callee (f := 26) rfl ?_); refine goesL_ (some 17) rfl rfl Tryd.func26 (by kernel_rfl) rfl #[.int .i64 a0, .agg #[.int .u64 a2_0, .int .u64 a2_1], .int .i64 a3] rfl xM ?_; (with_reducible refine (prefix_Of.calls k a0 a2_0 a2_1 a3 t383 t384 t385 t386 _ A5.out).mono ?_); rintro e w17 ⟨rfl, hb⟩; refine ⟨_, rfl, ?_⟩; have n0_ := Aside0.mk (blk_below (g := gb381) (o := .cells #[.int .u64 a1_0, .int .u64 a1_1, .int .i64 a1_2] 28 (0, 0)) (xK BK381.out) hb); have n1_ := Aside0.mk (blk_below (g := gb382) (o := .cells #[.int .u64 a2_0, .int .u64 a2_1] 24 (0, 0)) (xK BK382.out) hb); have n2_ := Aside0.mk (below_step xG hb); clear BK381; clear BK382; clear HB; have BK381 := n0_; have BK382 := n1_; have HB := n2_; clear n0_ n1_ n2_; (try clear hb); (try clear hb2); (try clear hk); (try clear hi)) | ((with_reducible refine gate_dst (N := 9) rfl ?_); refine box_event ?hg (N := 9) ?hd (cs := #[.int .u64 0, .int .u64 0, .int .i64 0]) (t := 28) ?hr ?_; (case hd => rfl); (case hg => rfl); (case hr => first | (go_simp; done) | (go_simp; rfl)); intro gb387 hg w18 hbox hb; have n0_ := Aside0.mk (blk_below (g := gb381) (o := .cells #[.int .u64 a1_0, .int .u64 a1_1, .int .i64 a1_2] 28 (0, 0)) (xK BK381.out) hb); have n1_ := Aside0.mk (blk_below (g := gb382) (o := .cells #[.int .u64 a2_0, .int .u64 a2_1] 24 (0, 0)) (xK BK382.out) hb); have n2_ := Aside0.mk (below_step xG hb); have n3_ := Aside0.mk (hbox); have n4_ := Aside0.mk ((by rw [hg]; exact (below_size xG) : w.heap.size ≤ gb387)); have n5_ := Aside0.mk ((by rw [hg]; exact (below_size xG) : w.heap.size ≤ gb387)); have n6_ := Aside0.mk ((xN BK381.out : gb381 ≠ gb387)); have n7_ := Aside0.mk ((xN BK381.out : gb387 ≠ gb381)); have n8_ := Aside0.mk ((xN BK382.out : gb382 ≠ gb387)); have n9_ := Aside0.mk ((xN BK382.out : gb387 ≠ gb382)); clear BK381; clear BK382; clear HB; have BK381 := n0_; have BK382 := n1_; have HB := n2_; have BK387 := n3_; have GW387 := n4_; have GE387 := n5_; have NB381_387 := n6_; have NB387_381 := n7_; have NB382_387 := n8_; have NB387_382 := n9_; clear n0_ n1_ n2_ n3_ n4_ n5_ n6_ n7_ n8_ n9_; clear hb hbox hg; have hnb19 := NB387_381.out; have hnc19 := NB381_387.out; have hnb20 := NB387_382.out; have hnc20 := NB382_387.out; have hcz21_0 : w18.cell? ⟨gb387, 0, none⟩ = some (.int .u64 0) := (blk_cell BK387.out 0).trans rfl; have hcz21_1 : w18.cell? ⟨gb387, 1, none⟩ = some (.int .u64 0) := (blk_cell BK387.out 1).trans rfl; have hcz21_2 : w18.cell? ⟨gb387, 2, none⟩ = some (.int .i64 0) := (blk_cell BK387.out 2).trans rfl; have hfz21_0 := blk_frozen BK387.out 0; have hfz21_1 := blk_frozen BK387.out 1; have hfz21_2 := blk_frozen BK387.out 2; have hcz22_0 : w18.cell? ⟨gb382, 0, none⟩ = some (.int .u64 a2_0) := (blk_cell BK382.out 0).trans rfl; have hcz22_1 : w18.cell? ⟨gb382, 1, none⟩ = some (.int .u64 a2_1) := (blk_cell BK382.out 1).trans rfl; have hfz22_0 := blk_frozen BK382.out 0; have hfz22_1 := blk_frozen BK382.out 1) | ((with_reducible refine gate_callee (f := 27) rfl ?_); refine goesL_ (some 24) rfl rfl Tryd.func27 (by kernel_rfl) rfl #[.int .i64 a0, .agg #[.int .u64 a2_0, .int .u64 a2_1], .int .i64 a3] rfl xM ?_; (with_reducible refine (turnpikeref3_Of.calls k a0 a2_0 a2_1 a3 t388 t389 t390 t391 _ A6.out).mono ?_); rintro e w23 ⟨rfl, hb⟩; refine ⟨_, rfl, ?_⟩; have n0_ := Aside0.mk (blk_below (g := gb381) (o := .cells #[.int .u64 a1_0, .int .u64 a1_1, .int .i64 a1_2] 28 (0, 0)) (by (with_reducible repeat (first | refine blk_drewN ?_ _ | refine blk_drew ?_ | refine blk_alloc ?_ _)); refine blk_far ?_ NB381_387.out _; (with_reducible repeat (first | refine blk_drewN ?_ _ | refine blk_drew ?_ | refine blk_alloc ?_ _)); refine blk_far ?_ NB381_387.out _; (with_reducible repeat (first | refine blk_drewN ?_ _ | refine blk_drew ?_ | refine blk_alloc ?_ _)); refine blk_far ?_ NB381_387.out _; (with_reducible repeat (first | refine blk_drewN ?_ _ | refine blk_drew ?_ | refine blk_alloc ?_ _)); exact BK381.out) hb); have n1_ := Aside0.mk (blk_below (g := gb382) (o := .cells #[.int .u64 a2_0, .int .u64 a2_1] 24 (0, 0)) (by (with_reducible repeat (first | refine blk_drewN ?_ _ | refine blk_drew ?_ | refine blk_alloc ?_ _)); refine blk_far ?_ NB382_387.out _; (with_reducible repeat (first | refine blk_drewN ?_ _ | refine blk_drew ?_ | refine blk_alloc ?_ _)); refine blk_far ?_ NB382_387.out _; (with_reducible repeat (first | refine blk_drewN ?_ _ | refine blk_drew ?_ | refine blk_alloc ?_ _)); refine blk_far ?_ NB382_387.out _; (with_reducible repeat (first | refine blk_drewN ?_ _ | refine blk_drew ?_ | refine blk_alloc ?_ _)); exact BK382.out) hb); have n2_ := Aside0.mk (blk_below (g := gb387) (o := .cells #[.int .u64 t383, .int .u64 t384, .int .i64 t385] 28 (0, 0)) (by (with_reducible repeat (first | refine blk_drewN ?_ _ | refine blk_drew ?_ | refine blk_alloc ?_ _)); refine blk_put (cs := #[.int .u64 t383, .int .u64 t384, .int .i64 0]) ?_ 2 _ rfl; (with_reducible repeat (first | refine blk_drewN ?_ _ | refine blk_drew ?_ | refine blk_alloc ?_ _)); refine blk_put (cs := #[.int .u64 t383, .int .u64 0, .int .i64 0]) ?_ 1 _ rfl; (with_reducible repeat (first | refine blk_drewN ?_ _ | refine blk_drew ?_ | refine blk_alloc ?_ _)); refine blk_put (cs := #[.int .u64 0, .int .u64 0, .int .i64 0]) ?_ 0 _ rfl; (with_reducible repeat (first | refine blk_drewN ?_ _ | refine blk_drew ?_ | refine blk_alloc ?_ _)); exact BK387.out) hb); have n3_ := Aside0.mk (below_step xG hb); clear BK381; clear BK382; clear BK387; clear HB; have BK381 := n0_; have BK382 := n1_; have BK387 := n2_; have HB := n3_; clear n0_ n1_ n2_ n3_; (try clear hb); (try clear hb2); (try clear hk); (try clear hi)) | ((with_reducible refine gate_dst (N := 11) rfl ?_); refine box_event ?hg (N := 11) ?hd (cs := #[.int .u64 0, .int .u64 0, .int .i64 0]) (t := 28) ?hr ?_; (case hd => rfl); (case hg => rfl); (case hr => first | (go_simp; done) | (go_simp; rfl)); intro gb392 hg w24 hbox hb; have n0_ := Aside0.mk (blk_below (g := gb381) (o := .cells #[.int .u64 a1_0, .int .u64 a1_1, .int .i64 a1_2] 28 (0, 0)) (xK BK381.out) hb); have n1_ := Aside0.mk (blk_below (g := gb382) (o := .cells #[.int .u64 a2_0, .int .u64 a2_1] 24 (0, 0)) (xK BK382.out) hb); have n2_ := Aside0.mk (blk_below (g := gb387) (o := .cells #[.int .u64 t383, .int .u64 t384, .int .i64 t385] 28 (0, 0)) (xK BK387.out) hb); have n3_ := Aside0.mk (below_step xG hb); have n4_ := Aside0.mk (hbox); have n5_ := Aside0.mk ((by rw [hg]; exact (below_size xG) : w.heap.size ≤ gb392)); have n6_ := Aside0.mk ((by rw [hg]; exact (below_size xG) : w.heap.size ≤ gb392)); have n7_ := Aside0.mk ((xN BK381.out : gb381 ≠ gb392)); have n8_ := Aside0.mk ((xN BK381.out : gb392 ≠ gb381)); have n9_ := Aside0.mk ((xN BK382.out : gb382 ≠ gb392)); have n10_ := Aside0.mk ((xN BK382.out : gb392 ≠ gb382)); have n11_ := Aside0.mk ((xN BK387.out : gb387 ≠ gb392)); have n12_ := Aside0.mk ((xN BK387.out : gb392 ≠ gb387)); clear BK381; clear BK382; clear BK387; clear HB; have BK381 := n0_; have BK382 := n1_; have BK387 := n2_; have HB := n3_; have BK392 := n4_; have GW392 := n5_; have GE392 := n6_; have NB381_392 := n7_; have NB392_381 := n8_; have NB382_392 := n9_; have NB392_382 := n10_; have NB387_392 := n11_; have NB392_387 := n12_; clear n0_ n1_ n2_ n3_ n4_ n5_ n6_ n7_ n8_ n9_ n10_ n11_ n12_; clear hb hbox hg; have hnb25 := NB392_381.out; have hnc25 := NB381_392.out; have hnb26 := NB392_382.out; have hnc26 := NB382_392.out; have hnb27 := NB392_387.out; have hnc27 := NB387_392.out; have hcz28_0 : w24.cell? ⟨gb392, 0, none⟩ = some (.int .u64 0) := (blk_cell BK392.out 0).trans rfl; have hcz28_1 : w24.cell? ⟨gb392, 1, none⟩ = some (.int .u64 0) := (blk_cell BK392.out 1).trans rfl; have hcz28_2 : w24.cell? ⟨gb392, 2, none⟩ = some (.int .i64 0) := (blk_cell BK392.out 2).trans rfl; have hfz28_0 := blk_frozen BK392.out 0; have hfz28_1 := blk_frozen BK392.out 1; have hfz28_2 := blk_frozen BK392.out 2))
        have n0_ : Aside0 ((((w24.setCell ⟨gb392, 0, none⟩ (.int .u64 t388)).setCell ⟨gb392, 1, none⟩ (.int .u64 t389)).setCell ⟨gb392, 2, none⟩ (.int .i64 t390)).heap[gb381]? = some (.cells #[.int .u64 a1_0, .int .u64 a1_1, .int .i64 a1_2] 28 (0, 0))) := ⟨by (with_reducible repeat (first | refine blk_drewN ?_ _ | refine blk_drew ?_ | refine blk_alloc ?_ _)); refine blk_far ?_ NB381_392.out _; (with_reducible repeat (first | refine blk_drewN ?_ _ | refine blk_drew ?_ | refine blk_alloc ?_ _)); refine blk_far ?_ NB381_392.out _; (with_reducible repeat (first | refine blk_drewN ?_ _ | refine blk_drew ?_ | refine blk_alloc ?_ _)); refine blk_far ?_ NB381_392.out _; (with_reducible repeat (first | refine blk_drewN ?_ _ | refine blk_drew ?_ | refine blk_alloc ?_ _)); exact BK381.out⟩
        have n1_ : Aside0 ((((w24.setCell ⟨gb392, 0, none⟩ (.int .u64 t388)).setCell ⟨gb392, 1, none⟩ (.int .u64 t389)).setCell ⟨gb392, 2, none⟩ (.int .i64 t390)).heap[gb382]? = some (.cells #[.int .u64 a2_0, .int .u64 a2_1] 24 (0, 0))) := ⟨by (with_reducible repeat (first | refine blk_drewN ?_ _ | refine blk_drew ?_ | refine blk_alloc ?_ _)); refine blk_far ?_ NB382_392.out _; (with_reducible repeat (first | refine blk_drewN ?_ _ | refine blk_drew ?_ | refine blk_alloc ?_ _)); refine blk_far ?_ NB382_392.out _; (with_reducible repeat (first | refine blk_drewN ?_ _ | refine blk_drew ?_ | refine blk_alloc ?_ _)); refine blk_far ?_ NB382_392.out _; (with_reducible repeat (first | refine blk_drewN ?_ _ | refine blk_drew ?_ | refine blk_alloc ?_ _)); exact BK382.out⟩
        have n2_ : Aside0 ((((w24.setCell ⟨gb392, 0, none⟩ (.int .u64 t388)).setCell ⟨gb392, 1, none⟩ (.int .u64 t389)).setCell ⟨gb392, 2, none⟩ (.int .i64 t390)).heap[gb387]? = some (.cells #[.int .u64 t383, .int .u64 t384, .int .i64 t385] 28 (0, 0))) := ⟨by (with_reducible repeat (first | refine blk_drewN ?_ _ | refine blk_drew ?_ | refine blk_alloc ?_ _)); refine blk_far ?_ NB387_392.out _; (with_reducible repeat (first | refine blk_drewN ?_ _ | refine blk_drew ?_ | refine blk_alloc ?_ _)); refine blk_far ?_ NB387_392.out _; (with_reducible repeat (first | refine blk_drewN ?_ _ | refine blk_drew ?_ | refine blk_alloc ?_ _)); refine blk_far ?_ NB387_392.out _; (with_reducible repeat (first | refine blk_drewN ?_ _ | refine blk_drew ?_ | refine blk_alloc ?_ _)); exact BK387.out⟩
        have n3_ : Aside0 ((((w24.setCell ⟨gb392, 0, none⟩ (.int .u64 t388)).setCell ⟨gb392, 1, none⟩ (.int .u64 t389)).setCell ⟨gb392, 2, none⟩ (.int .i64 t390)).heap[gb392]? = some (.cells #[.int .u64 t388, .int .u64 t389, .int .i64 t390] 28 (0, 0))) := ⟨by (with_reducible repeat (first | refine blk_drewN ?_ _ | refine blk_drew ?_ | refine blk_alloc ?_ _)); refine blk_put (cs := #[.int .u64 t388, .int .u64 t389, .int .i64 0]) ?_ 2 _ rfl; (with_reducible repeat (first | refine blk_drewN ?_ _ | refine blk_drew ?_ | refine blk_alloc ?_ _)); refine blk_put (cs := #[.int .u64 t388, .int .u64 0, .int .i64 0]) ?_ 1 _ rfl; (with_reducible repeat (first | refine blk_drewN ?_ _ | refine blk_drew ?_ | refine blk_alloc ?_ _)); refine blk_put (cs := #[.int .u64 0, .int .u64 0, .int .i64 0]) ?_ 0 _ rfl; (with_reducible repeat (first | refine blk_drewN ?_ _ | refine blk_drew ?_ | refine blk_alloc ?_ _)); exact BK392.out⟩
        have n4_ : Aside0 (Below w.heap.size w (((w24.setCell ⟨gb392, 0, none⟩ (.int .u64 t388)).setCell ⟨gb392, 1, none⟩ (.int .u64 t389)).setCell ⟨gb392, 2, none⟩ (.int .i64 t390))) := ⟨xG⟩
        (try clear BK381)
        (try clear BK382)
        (try clear BK387)
        (try clear BK392)
        (try clear HB)
        generalize (((w24.setCell ⟨gb392, 0, none⟩ (.int .u64 t388)).setCell ⟨gb392, 1, none⟩ (.int .u64 t389)).setCell ⟨gb392, 2, none⟩ (.int .i64 t390)) = w29 at n0_ n1_ n2_ n3_ n4_ ⊢
        have BK381 := n0_
        have BK382 := n1_
        have BK387 := n2_
        have BK392 := n3_
        have HB := n4_
        clear n0_ n1_ n2_ n3_ n4_
        have n0_ := Aside0.mk (blk_drew BK381.out)
        have n1_ := Aside0.mk (blk_drew BK382.out)
        have n2_ := Aside0.mk (blk_drew BK387.out)
        have n3_ := Aside0.mk (blk_drew BK392.out)
        have n4_ := Aside0.mk (below_drew1 HB.out)
        clear BK381
        clear BK382
        clear BK387
        clear BK392
        clear HB
        have BK381 := n0_
        have BK382 := n1_
        have BK387 := n2_
        have BK392 := n3_
        have HB := n4_
        clear n0_ n1_ n2_ n3_ n4_
        refine start_ (n := 21) (S := fun w' => w'.cell? ⟨gb381, 0, none⟩ = some (.int .u64 a1_0) ∧ w'.cell? ⟨gb381, 1, none⟩ = some (.int .u64 a1_1) ∧ w'.cell? ⟨gb381, 2, none⟩ = some (.int .i64 a1_2) ∧ w'.cell? ⟨gb387, 0, none⟩ = some (.int .u64 t383) ∧ w'.cell? ⟨gb387, 1, none⟩ = some (.int .u64 t384) ∧ w'.cell? ⟨gb387, 2, none⟩ = some (.int .i64 t385) ∧ w'.cell? ⟨gb392, 0, none⟩ = some (.int .u64 t388) ∧ w'.cell? ⟨gb392, 1, none⟩ = some (.int .u64 t389) ∧ w'.cell? ⟨gb392, 2, none⟩ = some (.int .i64 t390)) (ds := []) #[false, false, false, false, false, false, false, false, false, false, false, false, false, false, false, false, false, false, false, false, false] (by kernel_rfl) rfl rfl ⟨(blk_cell BK381.out 0).trans rfl, (blk_cell BK381.out 1).trans rfl, (blk_cell BK381.out 2).trans rfl, (blk_cell BK387.out 0).trans rfl, (blk_cell BK387.out 1).trans rfl, (blk_cell BK387.out 2).trans rfl, (blk_cell BK392.out 0).trans rfl, (blk_cell BK392.out 1).trans rfl, (blk_cell BK392.out 2).trans rfl⟩ (fun hHeld => ?_); refine with_tabW turnpikelaw3_PrefixChecks.tab3 turnpikelaw3_PrefixChecks.bits3 (fun HT_ HW_ => ?_)
        generalize w29.drew = w30 at BK381 BK382 BK387 BK392 HB hHeld ⊢
        refine one_ (i := 0) (N := some 27) #[true, false, false, false, false, false, false, false, false, false, false, false, false, false, false, false, false, false, false, false, false] rfl rfl (one_of HT_.out (by kernel_rfl)) (by decide) (fun K hK => ?_)
        refine goes_ Tryd.func14 (by kernel_rfl) rfl #[] (by rfl) rfl rfl xM ?_
        with_reducible refine (turnpikelaw3_known.calls k  true _ ?side1 A7.out).mono ?_
        (case side1 => first | exact MLOk.below HML.out xG | (repeat (first | exact HML.out | (with_reducible refine MLOk.alloc ?_ _) | (with_reducible refine MLOk.drewN ?_ _) | (with_reducible refine MLOk.drew ?_))))
        rintro e w31 ⟨rfl, hb⟩
        refine ⟨_, rfl, ?_⟩
        have n0_ := Aside0.mk (blk_below (g := gb381) (o := .cells #[.int .u64 a1_0, .int .u64 a1_1, .int .i64 a1_2] 28 (0, 0)) (xK BK381.out) hb)
        have n1_ := Aside0.mk (blk_below (g := gb382) (o := .cells #[.int .u64 a2_0, .int .u64 a2_1] 24 (0, 0)) (xK BK382.out) hb)
        have n2_ := Aside0.mk (blk_below (g := gb387) (o := .cells #[.int .u64 t383, .int .u64 t384, .int .i64 t385] 28 (0, 0)) (xK BK387.out) hb)
        have n3_ := Aside0.mk (blk_below (g := gb392) (o := .cells #[.int .u64 t388, .int .u64 t389, .int .i64 t390] 28 (0, 0)) (xK BK392.out) hb)
        have n4_ := Aside0.mk (below_step xG hb)
        clear BK381
        clear BK382
        clear BK387
        clear BK392
        clear HB
        have BK381 := n0_
        have BK382 := n1_
        have BK387 := n2_
        have BK392 := n3_
        have HB := n4_
        clear n0_ n1_ n2_ n3_ n4_
        (try clear hb)
        (try clear hb2)
        (try clear hk)
        (try clear hi)
        refine hK.out _ _ ⟨(blk_cell BK381.out 0).trans rfl, (blk_cell BK381.out 1).trans rfl, (blk_cell BK381.out 2).trans rfl, (blk_cell BK387.out 0).trans rfl, (blk_cell BK387.out 1).trans rfl, (blk_cell BK387.out 2).trans rfl, (blk_cell BK392.out 0).trans rfl, (blk_cell BK392.out 1).trans rfl, (blk_cell BK392.out 2).trans rfl⟩ (fun hHeld => ?_)
        clear hK K
        refine norm_ (a' := ?_) ?_ ?_
        rotate_left
        · show Act.put _ (some 27) _ = _
          simp only [Act.put, List.setIfInBounds_toArray, List.set_cons_zero, List.set_cons_succ, i64_w, i32_w]
          rfl
        refine pure_ (i := 1) (N := some 28) (v := ?_) (a' := ?_) #[true, true, false, false, false, false, false, false, false, false, false, false, false, false, false, false, false, false, false, false, false] rfl rfl (any_of HT_.out (by kernel_rfl)) (fun _ _ _ h => h) (Or.inl ⟨by rfl, ?_⟩) ?_ ?_
        rotate_left
        · intro w'
          go_simp
          with_reducible rfl
        rotate_left
        · simp only [Act.put, List.setIfInBounds_toArray, List.set_cons_zero, List.set_cons_succ, i64_w, i32_w]
          rfl
        refine pure_ (i := 2) (N := some 29) (v := ?_) (a' := ?_) #[true, true, true, false, false, false, false, false, false, false, false, false, false, false, false, false, false, false, false, false, false] rfl rfl (any_of HT_.out (by kernel_rfl)) (fun _ _ _ h => h) (Or.inl ⟨by rfl, ?_⟩) ?_ ?_
        rotate_left
        · intro w'
          go_simp
          with_reducible rfl
        rotate_left
        · simp only [Act.put, List.setIfInBounds_toArray, List.set_cons_zero, List.set_cons_succ, i64_w, i32_w]
          rfl
        refine pure_ (i := 5) (N := some 32) (v := ?_) (a' := ?_) #[true, true, true, false, false, true, false, false, false, false, false, false, false, false, false, false, false, false, false, false, false] rfl rfl (any_of HT_.out (by kernel_rfl)) (fun _ _ _ h => h) (Or.inl ⟨by rfl, ?_⟩) ?_ ?_
        rotate_left
        · intro w'
          go_simp
          with_reducible rfl
        rotate_left
        · simp only [Act.put, List.setIfInBounds_toArray, List.set_cons_zero, List.set_cons_succ, i64_w, i32_w]
          rfl
        refine take_ (i := 3) (N := some 30) (v := ?_) (a' := ?_) #[true, true, true, true, false, true, false, false, false, false, false, false, false, false, false, false, false, false, false, false, false] rfl rfl (take_ofW HT_.out HW_.out (by kernel_rfl)) (fun _ _ _ h => h) (Or.inl ⟨by rfl, ?_⟩) hHeld ?_ ?_
        rotate_left
        · rintro w' ⟨s0, s1, s2, s3, s4, s5, s6, s7, s8⟩
          go_simp
          with_reducible rfl
        rotate_left
        · simp only [Act.put, List.setIfInBounds_toArray, List.set_cons_zero, List.set_cons_succ, i64_w, i32_w]
          rfl
        refine take_ (i := 6) (N := some 33) (v := ?_) (a' := ?_) #[true, true, true, true, false, true, true, false, false, false, false, false, false, false, false, false, false, false, false, false, false] rfl rfl (take_ofW HT_.out HW_.out (by kernel_rfl)) (fun _ _ _ h => h) (Or.inl ⟨by rfl, ?_⟩) hHeld ?_ ?_
        rotate_left
        · rintro w' ⟨s0, s1, s2, s3, s4, s5, s6, s7, s8⟩
          go_simp
          with_reducible rfl
        rotate_left
        · simp only [Act.put, List.setIfInBounds_toArray, List.set_cons_zero, List.set_cons_succ, i64_w, i32_w]
          rfl
        refine one_ (i := 4) (N := some 31) #[true, true, true, true, true, true, true, false, false, false, false, false, false, false, false, false, false, false, false, false, false] rfl rfl (one_of HT_.out (by kernel_rfl)) (by decide) (fun K hK => ?_)
        refine goes_ Tryd.func25 (by kernel_rfl) rfl #[.int .i64 a0, .agg #[.int .u64 a1_0, .int .u64 a1_1, .int .i64 a1_2]] (by rfl) rfl rfl xM ?_
        with_reducible refine (prefix_Check.calls k a0 a1_0 a1_1 a1_2 t394 _ A9.out).mono ?_
        rintro e w32 ⟨rfl, hb⟩
        refine ⟨_, rfl, ?_⟩
        have n0_ := Aside0.mk (blk_below (g := gb381) (o := .cells #[.int .u64 a1_0, .int .u64 a1_1, .int .i64 a1_2] 28 (0, 0)) (xK BK381.out) hb)
        have n1_ := Aside0.mk (blk_below (g := gb382) (o := .cells #[.int .u64 a2_0, .int .u64 a2_1] 24 (0, 0)) (xK BK382.out) hb)
        have n2_ := Aside0.mk (blk_below (g := gb387) (o := .cells #[.int .u64 t383, .int .u64 t384, .int .i64 t385] 28 (0, 0)) (xK BK387.out) hb)
        have n3_ := Aside0.mk (blk_below (g := gb392) (o := .cells #[.int .u64 t388, .int .u64 t389, .int .i64 t390] 28 (0, 0)) (xK BK392.out) hb)
        have n4_ := Aside0.mk (below_step xG hb)
        clear BK381
        clear BK382
        clear BK387
        clear BK392
        clear HB
        have BK381 := n0_
        have BK382 := n1_
        have BK387 := n2_
        have BK392 := n3_
        have HB := n4_
        clear n0_ n1_ n2_ n3_ n4_
        (try clear hb)
        (try clear hb2)
        (try clear hk)
        (try clear hi)
        refine hK.out _ _ ⟨(blk_cell BK381.out 0).trans rfl, (blk_cell BK381.out 1).trans rfl, (blk_cell BK381.out 2).trans rfl, (blk_cell BK387.out 0).trans rfl, (blk_cell BK387.out 1).trans rfl, (blk_cell BK387.out 2).trans rfl, (blk_cell BK392.out 0).trans rfl, (blk_cell BK392.out 1).trans rfl, (blk_cell BK392.out 2).trans rfl⟩ (fun hHeld => ?_)
        clear hK K
        refine norm_ (a' := ?_) ?_ ?_
        rotate_left
        · show Act.put _ (some 31) _ = _
          simp only [Act.put, List.setIfInBounds_toArray, List.set_cons_zero, List.set_cons_succ, i64_w, i32_w]
          rfl
        refine one_ (i := 7) (N := some 34) #[true, true, true, true, true, true, true, true, false, false, false, false, false, false, false, false, false, false, false, false, false] rfl rfl (one_of HT_.out (by kernel_rfl)) (by decide) (fun K hK => ?_)
        refine goes_ Tryd.func28 (by kernel_rfl) rfl #[.int .i64 a0, .agg #[.int .u64 a1_0, .int .u64 a1_1, .int .i64 a1_2]] (by rfl) rfl rfl xM ?_
        with_reducible refine (turnpikeref3_Check.calls k a0 a1_0 a1_1 a1_2 t395 _ A10.out).mono ?_
        rintro e w33 ⟨rfl, hb⟩
        refine ⟨_, rfl, ?_⟩
        have n0_ := Aside0.mk (blk_below (g := gb381) (o := .cells #[.int .u64 a1_0, .int .u64 a1_1, .int .i64 a1_2] 28 (0, 0)) (xK BK381.out) hb)
        have n1_ := Aside0.mk (blk_below (g := gb382) (o := .cells #[.int .u64 a2_0, .int .u64 a2_1] 24 (0, 0)) (xK BK382.out) hb)
        have n2_ := Aside0.mk (blk_below (g := gb387) (o := .cells #[.int .u64 t383, .int .u64 t384, .int .i64 t385] 28 (0, 0)) (xK BK387.out) hb)
        have n3_ := Aside0.mk (blk_below (g := gb392) (o := .cells #[.int .u64 t388, .int .u64 t389, .int .i64 t390] 28 (0, 0)) (xK BK392.out) hb)
        have n4_ := Aside0.mk (below_step xG hb)
        clear BK381
        clear BK382
        clear BK387
        clear BK392
        clear HB
        have BK381 := n0_
        have BK382 := n1_
        have BK387 := n2_
        have BK392 := n3_
        have HB := n4_
        clear n0_ n1_ n2_ n3_ n4_
        (try clear hb)
        (try clear hb2)
        (try clear hk)
        (try clear hi)
        refine hK.out _ _ ⟨(blk_cell BK381.out 0).trans rfl, (blk_cell BK381.out 1).trans rfl, (blk_cell BK381.out 2).trans rfl, (blk_cell BK387.out 0).trans rfl, (blk_cell BK387.out 1).trans rfl, (blk_cell BK387.out 2).trans rfl, (blk_cell BK392.out 0).trans rfl, (blk_cell BK392.out 1).trans rfl, (blk_cell BK392.out 2).trans rfl⟩ (fun hHeld => ?_)
        clear hK K
        refine norm_ (a' := ?_) ?_ ?_
        rotate_left
        · show Act.put _ (some 34) _ = _
          simp only [Act.put, List.setIfInBounds_toArray, List.set_cons_zero, List.set_cons_succ, i64_w, i32_w]
          rfl
        refine pure_ (i := 8) (N := some 35) (v := ?_) (a' := ?_) #[true, true, true, true, true, true, true, true, true, false, false, false, false, false, false, false, false, false, false, false, false] rfl rfl (any_of HT_.out (by kernel_rfl)) (fun _ _ _ h => h) (Or.inl ⟨by rfl, ?_⟩) ?_ ?_
        rotate_left
        · intro w'
          go_simp
          with_reducible rfl
        rotate_left
        · simp only [Act.put, List.setIfInBounds_toArray, List.set_cons_zero, List.set_cons_succ, i64_w, i32_w]
          rfl
        refine pure_ (i := 9) (N := some 36) (v := ?_) (a' := ?_) #[true, true, true, true, true, true, true, true, true, true, false, false, false, false, false, false, false, false, false, false, false] rfl rfl (any_of HT_.out (by kernel_rfl)) (fun _ _ _ h => h) (Or.inl ⟨by rfl, ?_⟩) ?_ ?_
        rotate_left
        · intro w'
          go_simp
          with_reducible rfl
        rotate_left
        · simp only [Act.put, List.setIfInBounds_toArray, List.set_cons_zero, List.set_cons_succ, i64_w, i32_w]
          rfl
        refine pure_ (i := 10) (N := some 37) (v := ?_) (a' := ?_) #[true, true, true, true, true, true, true, true, true, true, true, false, false, false, false, false, false, false, false, false, false] rfl rfl (any_of HT_.out (by kernel_rfl)) (fun _ _ _ h => h) (Or.inl ⟨by rfl, ?_⟩) ?_ ?_
        rotate_left
        · intro w'
          go_simp
          with_reducible rfl
        rotate_left
        · simp only [Act.put, List.setIfInBounds_toArray, List.set_cons_zero, List.set_cons_succ, i64_w, i32_w]
          rfl
        refine take_ (i := 11) (N := some 38) (v := ?_) (a' := ?_) #[true, true, true, true, true, true, true, true, true, true, true, true, false, false, false, false, false, false, false, false, false] rfl rfl (take_ofW HT_.out HW_.out (by kernel_rfl)) (fun _ _ _ h => h) (Or.inl ⟨by rfl, ?_⟩) hHeld ?_ ?_
        rotate_left
        · rintro w' ⟨s0, s1, s2, s3, s4, s5, s6, s7, s8⟩
          go_simp
          with_reducible rfl
        rotate_left
        · simp only [Act.put, List.setIfInBounds_toArray, List.set_cons_zero, List.set_cons_succ, i64_w, i32_w]
          rfl
        refine take_ (i := 12) (N := some 39) (v := ?_) (a' := ?_) #[true, true, true, true, true, true, true, true, true, true, true, true, true, false, false, false, false, false, false, false, false] rfl rfl (take_ofW HT_.out HW_.out (by kernel_rfl)) (fun _ _ _ h => h) (Or.inl ⟨by rfl, ?_⟩) hHeld ?_ ?_
        rotate_left
        · rintro w' ⟨s0, s1, s2, s3, s4, s5, s6, s7, s8⟩
          go_simp
          with_reducible rfl
        rotate_left
        · simp only [Act.put, List.setIfInBounds_toArray, List.set_cons_zero, List.set_cons_succ, i64_w, i32_w]
          rfl
        refine pure_ (i := 13) (N := some 40) (v := ?_) (a' := ?_) #[true, true, true, true, true, true, true, true, true, true, true, true, true, true, false, false, false, false, false, false, false] rfl rfl (any_of HT_.out (by kernel_rfl)) (fun _ _ _ h => h) (Or.inl ⟨by rfl, ?_⟩) ?_ ?_
        rotate_left
        · intro w'
          go_simp
          with_reducible rfl
        rotate_left
        · simp only [Act.put, List.setIfInBounds_toArray, List.set_cons_zero, List.set_cons_succ, i64_w, i32_w]
          rfl
        refine pure_ (i := 14) (N := some 41) (v := ?_) (a' := ?_) #[true, true, true, true, true, true, true, true, true, true, true, true, true, true, true, false, false, false, false, false, false] rfl rfl (any_of HT_.out (by kernel_rfl)) (fun _ _ _ h => h) (Or.inl ⟨by rfl, ?_⟩) ?_ ?_
        rotate_left
        · intro w'
          go_simp
          with_reducible rfl
        rotate_left
        · simp only [Act.put, List.setIfInBounds_toArray, List.set_cons_zero, List.set_cons_succ, i64_w, i32_w]
          rfl
        refine pure_ (i := 15) (N := some 42) (v := ?_) (a' := ?_) #[true, true, true, true, true, true, true, true, true, true, true, true, true, true, true, true, false, false, false, false, false] rfl rfl (any_of HT_.out (by kernel_rfl)) (fun _ _ _ h => h) (Or.inl ⟨by rfl, ?_⟩) ?_ ?_
        rotate_left
        · intro w'
          go_simp
          with_reducible rfl
        rotate_left
        · simp only [Act.put, List.setIfInBounds_toArray, List.set_cons_zero, List.set_cons_succ, i64_w, i32_w]
          rfl
        refine pure_ (i := 16) (N := some 43) (v := ?_) (a' := ?_) #[true, true, true, true, true, true, true, true, true, true, true, true, true, true, true, true, true, false, false, false, false] rfl rfl (any_of HT_.out (by kernel_rfl)) (fun _ _ _ h => h) (Or.inl ⟨by rfl, ?_⟩) ?_ ?_
        rotate_left
        · intro w'
          go_simp
          with_reducible rfl
        rotate_left
        · simp only [Act.put, List.setIfInBounds_toArray, List.set_cons_zero, List.set_cons_succ, i64_w, i32_w]
          rfl
        refine pure_ (i := 17) (N := some 44) (v := ?_) (a' := ?_) #[true, true, true, true, true, true, true, true, true, true, true, true, true, true, true, true, true, true, false, false, false] rfl rfl (any_of HT_.out (by kernel_rfl)) (fun _ _ _ h => h) (Or.inl ⟨by rfl, ?_⟩) ?_ ?_
        rotate_left
        · intro w'
          go_simp
          with_reducible rfl
        rotate_left
        · simp only [Act.put, List.setIfInBounds_toArray, List.set_cons_zero, List.set_cons_succ, i64_w, i32_w]
          rfl
        refine pure_ (i := 18) (N := some 45) (v := ?_) (a' := ?_) #[true, true, true, true, true, true, true, true, true, true, true, true, true, true, true, true, true, true, true, false, false] rfl rfl (any_of HT_.out (by kernel_rfl)) (fun _ _ _ h => h) (Or.inl ⟨by rfl, ?_⟩) ?_ ?_
        rotate_left
        · intro w'
          go_simp
          with_reducible rfl
        rotate_left
        · simp only [Act.put, List.setIfInBounds_toArray, List.set_cons_zero, List.set_cons_succ, i64_w, i32_w]
          rfl
        refine pure_ (i := 19) (N := some 46) (v := ?_) (a' := ?_) #[true, true, true, true, true, true, true, true, true, true, true, true, true, true, true, true, true, true, true, true, false] rfl rfl (any_of HT_.out (by kernel_rfl)) (fun _ _ _ h => h) (Or.inl ⟨by rfl, ?_⟩) ?_ ?_
        rotate_left
        · intro w'
          go_simp
          with_reducible rfl
        rotate_left
        · simp only [Act.put, List.setIfInBounds_toArray, List.set_cons_zero, List.set_cons_succ, i64_w, i32_w]
          rfl
        refine pure_ (i := 20) (N := some 8) (v := ?_) (a' := ?_) #[true, true, true, true, true, true, true, true, true, true, true, true, true, true, true, true, true, true, true, true, true] rfl rfl (any_of HT_.out (by kernel_rfl)) (fun _ _ _ h => h) (Or.inl ⟨by rfl, ?_⟩) ?_ ?_
        rotate_left
        · intro w'
          go_simp
          with_reducible rfl
        rotate_left
        · simp only [Act.put, List.setIfInBounds_toArray, List.set_cons_zero, List.set_cons_succ, i64_w, i32_w]
          rfl
        refine done_ (done_of HT_.out (by kernel_rfl)) ?_
        try go_wp2
        go_ret
        exact ⟨xE, xG⟩
      · rw [if_neg c12] at H
        have c12b0 : ((t383 == t388 && (t384 == t389)) && (t385 == t390)) = false := by simpa using c12
        clear c12
        obtain rfl := Option.some.inj H
        exact absurd hr_.out (by decide)
    · rw [if_neg c11] at H
      have c11b0 : (t394 == t395) = false := beq_eq_false_iff_ne.mpr c11
      have c11b1 : (t394 != t395) = true := bne_iff_ne.mpr c11
      obtain rfl := Option.some.inj H
      exact absurd hr_.out (by decide)
  · replace c8 := Bool.eq_false_iff.mpr c8
    subst c8
    have H1 : (some false) = some r := by rw [if_neg (show ¬ (false = true) by decide)] at H; exact H
    clear H
    have H := H1
    clear H1
    obtain rfl := Option.some.inj H
    exact absurd hr_.out (by decide)
def turnpikelaw3_PrefixChecks.Pure : Prop := ∀ (a0 : Int) (a1_0 : Int) (a1_1 : Int) (a1_2 : Int) (a2_0 : Int) (a2_1 : Int) (a3 : Int), (Lit.int .i64 a0).wf = true → (Lit.int .u64 a1_0).wf = true → (Lit.int .u64 a1_1).wf = true → (Lit.int .i64 a1_2).wf = true → (Lit.int .u64 a2_0).wf = true → (Lit.int .u64 a2_1).wf = true → (Lit.int .i64 a3).wf = true → ∃ k, turnpikelaw3_PrefixChecks.f k a0 a1_0 a1_1 a1_2 a2_0 a2_1 a3 = some true
theorem turnpikelaw3_PrefixChecks.walk (P : turnpikelaw3_PrefixChecks.Pure) (a0 : Int) (a1_0 : Int) (a1_1 : Int) (a1_2 : Int) (a2_0 : Int) (a2_1 : Int) (a3 : Int) (w : World) (hML : MLOk w) (wa0 : (Lit.int .i64 a0).wf = true) (wa1_0 : (Lit.int .u64 a1_0).wf = true) (wa1_1 : (Lit.int .u64 a1_1).wf = true) (wa1_2 : (Lit.int .i64 a1_2).wf = true) (wa2_0 : (Lit.int .u64 a2_0).wf = true) (wa2_1 : (Lit.int .u64 a2_1).wf = true) (wa3 : (Lit.int .i64 a3).wf = true) :
    Calls Tryd.prog 5 #[.int .i64 a0, .agg #[.int .u64 a1_0, .int .u64 a1_1, .int .i64 a1_2], .agg #[.int .u64 a2_0, .int .u64 a2_1], .int .i64 a3] w fun e w' => e = .returned (.bool true) ∧ Below w.heap.size w w' := by
  obtain ⟨k, h⟩ := P a0 a1_0 a1_1 a1_2 a2_0 a2_1 a3 wa0 wa1_0 wa1_1 wa1_2 wa2_0 wa2_1 wa3
  refine (turnpikelaw3_PrefixChecks.calls k a0 a1_0 a1_1 a1_2 a2_0 a2_1 a3 true w hML ⟨rfl⟩ h).mono ?_
  rintro e w' ⟨rfl, hd⟩
  exact ⟨rfl, hd⟩
end Go.Proofs.YtdjhmapmhajkcaaDoor.X
