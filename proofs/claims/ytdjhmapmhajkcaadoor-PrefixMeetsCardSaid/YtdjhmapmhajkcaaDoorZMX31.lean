-- Printed by a program of this session (xprint.py, over the kit's printer)
import Derived.Test.YtdjhmapmhajkcaaDoorX0
import Derived.Test.YtdjhmapmhajkcaaDoorZMX2
import Derived.Test.YtdjhmapmhajkcaaDoorZMX6
import Derived.Test.YtdjhmapmhajkcaaDoorZMX8
import Derived.Test.YtdjhmapmhajkcaaDoorZMX9
import Derived.Test.YtdjhmapmhajkcaaDoorZMX13
import Derived.Test.YtdjhmapmhajkcaaDoorZMX23
import Derived.Test.YtdjhmapmhajkcaaDoorZMX25
import Derived.Test.YtdjhmapmhajkcaaDoorZMX30
import Derived.Test.YtdjhmapmhajkcaaDoorMm
import Derived.Test.YtdjhmapmhajkcaaDoorSh
namespace Go.Proofs.YtdjhmapmhajkcaaDoor.X
open Go.RowKit Go.Proofs.YtdjhmapmhajkcaaDoorW.PrintWords Go.Proofs.YtdjhmapmhajkcaaDoorW.PrintLast Go.Proofs.YtdjhmapmhajkcaaDoor.Sm Go.Proofs.YtdjhmapmhajkcaaDoor.Sh
set_option linter.unusedVariables false
set_option linter.unusedSimpArgs false
attribute [local go_sem high] eqA28
attribute [local go_sem] Go.Proofs.YtdjhmapmhajkcaaDoor.Mm.max2i Go.Proofs.YtdjhmapmhajkcaaDoor.Mm.min2i Go.Proofs.YtdjhmapmhajkcaaDoor.Mm.maxTwo Go.Proofs.YtdjhmapmhajkcaaDoor.Mm.minTwo Go.Proofs.YtdjhmapmhajkcaaDoor.Mm.maxThree Go.Proofs.YtdjhmapmhajkcaaDoor.Mm.minThree
def turnpikeref3_Meet.f (k : Nat) (a0_0 : Int) (a0_1 : Int) (a0_2 : Int) (a1_0 : Int) (a1_1 : Int) (a1_2 : Int) : Option (Int × Int × Int) := (turnpikeref1_Common.f k a0_0 a0_1 a1_0 a1_1).bind fun t605 => ((turnpikeref3_Cut.f k a0_0 a0_1 (mn (mn t605 a0_2) a1_2)).bind fun bt606 => (some (bt606.1, bt606.2.1, bt606.2.2)))
theorem turnpikeref3_Meet.mono : ∀ a0 a1 a2 a3 a4 a5 k, LeO (turnpikeref3_Meet.f k a0 a1 a2 a3 a4 a5) (turnpikeref3_Meet.f (k + 1) a0 a1 a2 a3 a4 a5) := by
  intro a0 a1 a2 a3 a4 a5 k
  unfold turnpikeref3_Meet.f
  have m0 := @turnpikeref1_Common.mono
  have m1 := @turnpikeref3_Cut.mono
  exact xO
set_option maxHeartbeats 8000000 in
set_option maxRecDepth 100000 in
theorem turnpikeref3_Meet.calls (k : Nat) (a0_0 : Int) (a0_1 : Int) (a0_2 : Int) (a1_0 : Int) (a1_1 : Int) (a1_2 : Int) (r1 : Int) (r2 : Int) (r3 : Int) (w : World) (h : turnpikeref3_Meet.f k a0_0 a0_1 a0_2 a1_0 a1_1 a1_2 = some (r1, r2, r3)) :
    Calls Tryd.prog 42 #[.agg #[.int .u64 a0_0, .int .u64 a0_1, .int .i64 a0_2], .agg #[.int .u64 a1_0, .int .u64 a1_1, .int .i64 a1_2]] w fun e w' => e = .returned (.agg #[.int .u64 r1, .int .u64 r2, .int .i64 r3]) ∧ Below w.heap.size w w' := by
  have hu28 := Tryd.underlying28
  have hu24 := Tryd.underlying24
  have HB := Aside0.mk (Below.refl w.heap.size w)
  have H : ((turnpikeref1_Common.f k a0_0 a0_1 a1_0 a1_1).bind fun t605 => ((turnpikeref3_Cut.f k a0_0 a0_1 (mn (mn t605 a0_2) a1_2)).bind fun bt606 => (some (bt606.1, bt606.2.1, bt606.2.2)))) = some (r1, r2, r3) := h
  clear h
  replace H := Option.bind_eq_some_iff.mp H
  obtain ⟨t605, A30, H⟩ := H
  replace H : ((turnpikeref3_Cut.f k a0_0 a0_1 (mn (mn t605 a0_2) a1_2)).bind fun bt606 => (some (bt606.1, bt606.2.1, bt606.2.2))) = some (r1, r2, r3) := H
  have A3 := Aside0.mk A30
  clear A30
  obtain ⟨ji4, hji4⟩ : ∃ j_ : Int, (mn t605 a0_2) = j_ := ⟨_, rfl⟩
  replace H : ((turnpikeref3_Cut.f k a0_0 a0_1 (mn (ji4) a1_2)).bind fun bt606 => (some (bt606.1, bt606.2.1, bt606.2.2))) = some (r1, r2, r3) := by first | (rw [hji4] at H; exact H) | (simp only [hji4] at H ⊢; exact H)
  (try rw [hji4] at A3)
  have hji4_ : (if a0_2 < t605 then a0_2 else t605) = ji4 := hji4
  obtain ⟨ji5, hji5⟩ : ∃ j_ : Int, (mn (ji4) a1_2) = j_ := ⟨_, rfl⟩
  replace H : ((turnpikeref3_Cut.f k a0_0 a0_1 (ji5)).bind fun bt606 => (some (bt606.1, bt606.2.1, bt606.2.2))) = some (r1, r2, r3) := by first | (rw [hji5] at H; exact H) | (simp only [hji5] at H ⊢; exact H)
  (try rw [hji5] at A3)
  have hji5_ : (if a1_2 < (ji4) then a1_2 else (ji4)) = ji5 := hji5
  replace H := Option.bind_eq_some_iff.mp H
  obtain ⟨⟨t606, t607, t608⟩, A60, H⟩ := H
  replace H : (some (t606, t607, t608)) = some (r1, r2, r3) := H
  have A6 := Aside0.mk A60
  clear A60
  simp only [Option.some.injEq, Prod.mk.injEq] at H
  obtain ⟨rfl, rfl, rfl⟩ := H
  go_enter Tryd.func42, Tryd.ntmps42
  go_wp2_with (first | ((with_reducible refine gate_dst (N := 2) rfl ?_); refine box_event ?hg (N := 2) ?hd (cs := #[.int .u64 a0_0, .int .u64 a0_1, .int .i64 a0_2]) (t := 28) ?hr ?_; (case hd => rfl); (case hg => rfl); (case hr => first | (go_simp; done) | (go_simp; rfl)); intro gb602 hg w7 hbox hb; have n0_ := Aside0.mk (below_step xB hb); have n1_ := Aside0.mk (hbox); have n2_ := Aside0.mk ((by rw [hg]; exact (below_size xB) : w.heap.size ≤ gb602)); have n3_ := Aside0.mk ((by rw [hg]; exact (below_size xB) : w.heap.size ≤ gb602)); clear HB; have HB := n0_; have BK602 := n1_; have GW602 := n2_; have GE602 := n3_; clear n0_ n1_ n2_ n3_; clear hb hbox hg) | ((with_reducible refine gate_dst (N := 3) rfl ?_); refine box_event ?hg (N := 3) ?hd (cs := #[.int .u64 a1_0, .int .u64 a1_1, .int .i64 a1_2]) (t := 28) ?hr ?_; (case hd => rfl); (case hg => rfl); (case hr => first | (go_simp; done) | (go_simp; rfl)); intro gb603 hg w8 hbox hb; have n0_ := Aside0.mk (blk_below (g := gb602) (o := .cells #[.int .u64 a0_0, .int .u64 a0_1, .int .i64 a0_2] 28 (0, 0)) (xK BK602.out) hb); have n1_ := Aside0.mk (below_step xG hb); have n2_ := Aside0.mk (hbox); have n3_ := Aside0.mk ((by rw [hg]; exact (below_size xG) : w.heap.size ≤ gb603)); have n4_ := Aside0.mk ((by rw [hg]; exact (below_size xG) : w.heap.size ≤ gb603)); have n5_ := Aside0.mk ((xN BK602.out : gb602 ≠ gb603)); have n6_ := Aside0.mk ((xN BK602.out : gb603 ≠ gb602)); clear BK602; clear HB; have BK602 := n0_; have HB := n1_; have BK603 := n2_; have GW603 := n3_; have GE603 := n4_; have NB602_603 := n5_; have NB603_602 := n6_; clear n0_ n1_ n2_ n3_ n4_ n5_ n6_; clear hb hbox hg) | ((with_reducible refine gate_dst (N := 4) rfl ?_); refine box_event ?hg (N := 4) ?hd (cs := #[.int .u64 0, .int .u64 0, .int .i64 0]) (t := 28) ?hr ?_; (case hd => rfl); (case hg => rfl); (case hr => first | (go_simp; done) | (go_simp; rfl)); intro gb604 hg w9 hbox hb; have n0_ := Aside0.mk (blk_below (g := gb602) (o := .cells #[.int .u64 a0_0, .int .u64 a0_1, .int .i64 a0_2] 28 (0, 0)) (xK BK602.out) hb); have n1_ := Aside0.mk (blk_below (g := gb603) (o := .cells #[.int .u64 a1_0, .int .u64 a1_1, .int .i64 a1_2] 28 (0, 0)) (xK BK603.out) hb); have n2_ := Aside0.mk (below_step xG hb); have n3_ := Aside0.mk (hbox); have n4_ := Aside0.mk ((by rw [hg]; exact (below_size xG) : w.heap.size ≤ gb604)); have n5_ := Aside0.mk ((by rw [hg]; exact (below_size xG) : w.heap.size ≤ gb604)); have n6_ := Aside0.mk ((xN BK602.out : gb602 ≠ gb604)); have n7_ := Aside0.mk ((xN BK602.out : gb604 ≠ gb602)); have n8_ := Aside0.mk ((xN BK603.out : gb603 ≠ gb604)); have n9_ := Aside0.mk ((xN BK603.out : gb604 ≠ gb603)); clear BK602; clear BK603; clear HB; have BK602 := n0_; have BK603 := n1_; have HB := n2_; have BK604 := n3_; have GW604 := n4_; have GE604 := n5_; have NB602_604 := n6_; have NB604_602 := n7_; have NB603_604 := n8_; have NB604_603 := n9_; clear n0_ n1_ n2_ n3_ n4_ n5_ n6_ n7_ n8_ n9_; clear hb hbox hg; have hnb10 := NB602_603.out; have hnc10 := NB603_602.out; have hnb11 := NB602_604.out; have hnc11 := NB604_602.out; have hcz12_0 : w9.cell? ⟨gb602, 0, none⟩ = some (.int .u64 a0_0) := (blk_cell BK602.out 0).trans rfl; have hcz12_1 : w9.cell? ⟨gb602, 1, none⟩ = some (.int .u64 a0_1) := (blk_cell BK602.out 1).trans rfl; have hcz12_2 : w9.cell? ⟨gb602, 2, none⟩ = some (.int .i64 a0_2) := (blk_cell BK602.out 2).trans rfl; have hfz12_0 := blk_frozen BK602.out 0; have hfz12_1 := blk_frozen BK602.out 1; have hfz12_2 := blk_frozen BK602.out 2; have hnb13 := NB603_604.out; have hnc13 := NB604_603.out; have hcz14_0 : w9.cell? ⟨gb603, 0, none⟩ = some (.int .u64 a1_0) := (blk_cell BK603.out 0).trans rfl; have hcz14_1 : w9.cell? ⟨gb603, 1, none⟩ = some (.int .u64 a1_1) := (blk_cell BK603.out 1).trans rfl; have hcz14_2 : w9.cell? ⟨gb603, 2, none⟩ = some (.int .i64 a1_2) := (blk_cell BK603.out 2).trans rfl; have hfz14_0 := blk_frozen BK603.out 0; have hfz14_1 := blk_frozen BK603.out 1; have hfz14_2 := blk_frozen BK603.out 2) | ((with_reducible refine gate_callee (f := 69) rfl ?_); refine goesL_ (some 10) rfl rfl Tryd.func69 (by kernel_rfl) rfl #[.agg #[.int .u64 a0_0, .int .u64 a0_1], .agg #[.int .u64 a1_0, .int .u64 a1_1]] rfl xM ?_; (with_reducible refine (turnpikeref1_Common.calls k a0_0 a0_1 a1_0 a1_1 t605 _ A3.out).mono ?_); rintro e w15 ⟨rfl, hb⟩; refine ⟨_, rfl, ?_⟩; have n0_ := Aside0.mk (blk_below (g := gb602) (o := .cells #[.int .u64 a0_0, .int .u64 a0_1, .int .i64 a0_2] 28 (0, 0)) (xK BK602.out) hb); have n1_ := Aside0.mk (blk_below (g := gb603) (o := .cells #[.int .u64 a1_0, .int .u64 a1_1, .int .i64 a1_2] 28 (0, 0)) (xK BK603.out) hb); have n2_ := Aside0.mk (blk_below (g := gb604) (o := .cells #[.int .u64 0, .int .u64 0, .int .i64 0] 28 (0, 0)) (xK BK604.out) hb); have n3_ := Aside0.mk (below_step xG hb); clear BK602; clear BK603; clear BK604; clear HB; have BK602 := n0_; have BK603 := n1_; have BK604 := n2_; have HB := n3_; clear n0_ n1_ n2_ n3_; (try clear hb); (try clear hb2); (try clear hk); (try clear hi); have hcz16_0 : w15.cell? ⟨gb602, 0, none⟩ = some (.int .u64 a0_0) := (blk_cell BK602.out 0).trans rfl; have hcz16_1 : w15.cell? ⟨gb602, 1, none⟩ = some (.int .u64 a0_1) := (blk_cell BK602.out 1).trans rfl; have hcz16_2 : w15.cell? ⟨gb602, 2, none⟩ = some (.int .i64 a0_2) := (blk_cell BK602.out 2).trans rfl; have hfz16_0 := blk_frozen BK602.out 0; have hfz16_1 := blk_frozen BK602.out 1; have hfz16_2 := blk_frozen BK602.out 2; have hcz17_0 : w15.cell? ⟨gb603, 0, none⟩ = some (.int .u64 a1_0) := (blk_cell BK603.out 0).trans rfl; have hcz17_1 : w15.cell? ⟨gb603, 1, none⟩ = some (.int .u64 a1_1) := (blk_cell BK603.out 1).trans rfl; have hcz17_2 : w15.cell? ⟨gb603, 2, none⟩ = some (.int .i64 a1_2) := (blk_cell BK603.out 2).trans rfl; have hfz17_0 := blk_frozen BK603.out 0; have hfz17_1 := blk_frozen BK603.out 1; have hfz17_2 := blk_frozen BK603.out 2) | ((with_reducible refine gate_callee (f := 49) rfl ?_); refine goesL_ (some 20) rfl rfl Tryd.func49 (by kernel_rfl) rfl #[.agg #[.int .u64 a0_0, .int .u64 a0_1], .int .i64 ji5] rfl (by (try simp only [List.map_toArray, List.map_cons, List.map_nil]); first | done | (simp only [hji5]; rfl) | rfl | (simp only [List.length_drop, List.length_take]; rfl)) ?_; (with_reducible refine (turnpikeref3_Cut.calls k a0_0 a0_1 ji5 t606 t607 t608 _ A6.out).mono ?_); rintro e w18 ⟨rfl, hb⟩; refine ⟨_, rfl, ?_⟩; have n0_ := Aside0.mk (blk_below (g := gb602) (o := .cells #[.int .u64 a0_0, .int .u64 a0_1, .int .i64 a0_2] 28 (0, 0)) (xK BK602.out) hb); have n1_ := Aside0.mk (blk_below (g := gb603) (o := .cells #[.int .u64 a1_0, .int .u64 a1_1, .int .i64 a1_2] 28 (0, 0)) (xK BK603.out) hb); have n2_ := Aside0.mk (blk_below (g := gb604) (o := .cells #[.int .u64 0, .int .u64 0, .int .i64 0] 28 (0, 0)) (xK BK604.out) hb); have n3_ := Aside0.mk (below_step xG hb); clear BK602; clear BK603; clear BK604; clear HB; have BK602 := n0_; have BK603 := n1_; have BK604 := n2_; have HB := n3_; clear n0_ n1_ n2_ n3_; (try clear hb); (try clear hb2); (try clear hk); (try clear hi); have hcz19_0 : w18.cell? ⟨gb604, 0, none⟩ = some (.int .u64 0) := (blk_cell BK604.out 0).trans rfl; have hcz19_1 : w18.cell? ⟨gb604, 1, none⟩ = some (.int .u64 0) := (blk_cell BK604.out 1).trans rfl; have hcz19_2 : w18.cell? ⟨gb604, 2, none⟩ = some (.int .i64 0) := (blk_cell BK604.out 2).trans rfl; have hfz19_0 := blk_frozen BK604.out 0; have hfz19_1 := blk_frozen BK604.out 1; have hfz19_2 := blk_frozen BK604.out 2))
  refine bodyPost_ret (results_cell_row rfl _ _ gb604 28 #[.int .u64 t606, .int .u64 t607, .int .i64 t608] (0, 0) _ rfl (by (with_reducible repeat (first | refine blk_drewN ?_ _ | refine blk_drew ?_ | refine blk_alloc ?_ _)); refine blk_put (cs := #[.int .u64 t606, .int .u64 t607, .int .i64 0]) ?_ 2 _ rfl; (with_reducible repeat (first | refine blk_drewN ?_ _ | refine blk_drew ?_ | refine blk_alloc ?_ _)); refine blk_put (cs := #[.int .u64 t606, .int .u64 0, .int .i64 0]) ?_ 1 _ rfl; (with_reducible repeat (first | refine blk_drewN ?_ _ | refine blk_drew ?_ | refine blk_alloc ?_ _)); refine blk_put (cs := #[.int .u64 0, .int .u64 0, .int .i64 0]) ?_ 0 _ rfl; (with_reducible repeat (first | refine blk_drewN ?_ _ | refine blk_drew ?_ | refine blk_alloc ?_ _)); exact BK604.out) Tryd.underlying28 rfl (by kernel_rfl)) rfl ?_
  exact ⟨by first | rfl | (simp [errW_none, errW_some] <;> rfl) | (simp only [← hji4, ← hji5]; first | rfl | (simp [errW_none, errW_some] <;> rfl)) | (simp [*, errW_none, errW_some] <;> rfl), xG⟩
def turnpikeref3_Cmp.f (k : Nat) (a0_0 : Int) (a0_1 : Int) (a0_2 : Int) (a1_0 : Int) (a1_1 : Int) (a1_2 : Int) : Option (Int) := (turnpikeref1_Cmp.f k a0_0 a0_1 a1_0 a1_1).bind fun t611 => (if t611 = 0 then (if a0_2 < a1_2 then (some (-1)) else (if a0_2 > a1_2 then (some 1) else (some 0))) else (some t611))
theorem turnpikeref3_Cmp.mono : ∀ a0 a1 a2 a3 a4 a5 k, LeO (turnpikeref3_Cmp.f k a0 a1 a2 a3 a4 a5) (turnpikeref3_Cmp.f (k + 1) a0 a1 a2 a3 a4 a5) := by
  intro a0 a1 a2 a3 a4 a5 k
  unfold turnpikeref3_Cmp.f
  have m0 := @turnpikeref1_Cmp.mono
  exact xO
set_option maxHeartbeats 8000000 in
set_option maxRecDepth 100000 in
theorem turnpikeref3_Cmp.calls (k : Nat) (a0_0 : Int) (a0_1 : Int) (a0_2 : Int) (a1_0 : Int) (a1_1 : Int) (a1_2 : Int) (r : Int) (w : World) (h : turnpikeref3_Cmp.f k a0_0 a0_1 a0_2 a1_0 a1_1 a1_2 = some r) :
    Calls Tryd.prog 43 #[.agg #[.int .u64 a0_0, .int .u64 a0_1, .int .i64 a0_2], .agg #[.int .u64 a1_0, .int .u64 a1_1, .int .i64 a1_2]] w fun e w' => e = .returned (.int .i64 r) ∧ Below w.heap.size w w' := by
  have hu28 := Tryd.underlying28
  have hu24 := Tryd.underlying24
  have HB := Aside0.mk (Below.refl w.heap.size w)
  have H : ((turnpikeref1_Cmp.f k a0_0 a0_1 a1_0 a1_1).bind fun t611 => (if t611 = 0 then (if a0_2 < a1_2 then (some (-1)) else (if a0_2 > a1_2 then (some 1) else (some 0))) else (some t611))) = some r := h
  clear h
  replace H := Option.bind_eq_some_iff.mp H
  obtain ⟨t611, A30, H⟩ := H
  replace H : (if t611 = 0 then (if a0_2 < a1_2 then (some (-1)) else (if a0_2 > a1_2 then (some 1) else (some 0))) else (some t611)) = some r := H
  have A3 := Aside0.mk A30
  clear A30
  by_cases c4 : t611 = 0
  · rw [if_pos c4] at H
    have c4b0 : (t611 == 0) = true := beq_iff_eq.mpr c4
    have c4b1 : (t611 != 0) = false := bne_eq_false_iff_eq.mpr c4
    clear c4
    by_cases c5 : a0_2 < a1_2
    · rw [if_pos c5] at H
      have c5b0 : decide (a0_2 < a1_2) = true := decide_eq_true c5
      clear c5
      obtain rfl := Option.some.inj H
      go_enter Tryd.func43, Tryd.ntmps43
      go_wp2_with (first | ((with_reducible refine gate_dst (N := 2) rfl ?_); refine box_event ?hg (N := 2) ?hd (cs := #[.int .u64 a0_0, .int .u64 a0_1, .int .i64 a0_2]) (t := 28) ?hr ?_; (case hd => rfl); (case hg => rfl); (case hr => first | (go_simp; done) | (go_simp; rfl)); intro gb609 hg w6 hbox hb; have n0_ := Aside0.mk (below_step xB hb); have n1_ := Aside0.mk (hbox); have n2_ := Aside0.mk ((by rw [hg]; exact (below_size xB) : w.heap.size ≤ gb609)); have n3_ := Aside0.mk ((by rw [hg]; exact (below_size xB) : w.heap.size ≤ gb609)); clear HB; have HB := n0_; have BK609 := n1_; have GW609 := n2_; have GE609 := n3_; clear n0_ n1_ n2_ n3_; clear hb hbox hg) | ((with_reducible refine gate_dst (N := 3) rfl ?_); refine box_event ?hg (N := 3) ?hd (cs := #[.int .u64 a1_0, .int .u64 a1_1, .int .i64 a1_2]) (t := 28) ?hr ?_; (case hd => rfl); (case hg => rfl); (case hr => first | (go_simp; done) | (go_simp; rfl)); intro gb610 hg w7 hbox hb; have n0_ := Aside0.mk (blk_below (g := gb609) (o := .cells #[.int .u64 a0_0, .int .u64 a0_1, .int .i64 a0_2] 28 (0, 0)) (xK BK609.out) hb); have n1_ := Aside0.mk (below_step xG hb); have n2_ := Aside0.mk (hbox); have n3_ := Aside0.mk ((by rw [hg]; exact (below_size xG) : w.heap.size ≤ gb610)); have n4_ := Aside0.mk ((by rw [hg]; exact (below_size xG) : w.heap.size ≤ gb610)); have n5_ := Aside0.mk ((xN BK609.out : gb609 ≠ gb610)); have n6_ := Aside0.mk ((xN BK609.out : gb610 ≠ gb609)); clear BK609; clear HB; have BK609 := n0_; have HB := n1_; have BK610 := n2_; have GW610 := n3_; have GE610 := n4_; have NB609_610 := n5_; have NB610_609 := n6_; clear n0_ n1_ n2_ n3_ n4_ n5_ n6_; clear hb hbox hg; have hnb8 := NB609_610.out; have hnc8 := NB610_609.out; have hcz9_0 : w7.cell? ⟨gb609, 0, none⟩ = some (.int .u64 a0_0) := (blk_cell BK609.out 0).trans rfl; have hcz9_1 : w7.cell? ⟨gb609, 1, none⟩ = some (.int .u64 a0_1) := (blk_cell BK609.out 1).trans rfl; have hcz9_2 : w7.cell? ⟨gb609, 2, none⟩ = some (.int .i64 a0_2) := (blk_cell BK609.out 2).trans rfl; have hfz9_0 := blk_frozen BK609.out 0; have hfz9_1 := blk_frozen BK609.out 1; have hfz9_2 := blk_frozen BK609.out 2; have hcz10_0 : w7.cell? ⟨gb610, 0, none⟩ = some (.int .u64 a1_0) := (blk_cell BK610.out 0).trans rfl; have hcz10_1 : w7.cell? ⟨gb610, 1, none⟩ = some (.int .u64 a1_1) := (blk_cell BK610.out 1).trans rfl; have hcz10_2 : w7.cell? ⟨gb610, 2, none⟩ = some (.int .i64 a1_2) := (blk_cell BK610.out 2).trans rfl; have hfz10_0 := blk_frozen BK610.out 0; have hfz10_1 := blk_frozen BK610.out 1; have hfz10_2 := blk_frozen BK610.out 2) | ((with_reducible refine gate_callee (f := 19) rfl ?_); refine goesL_ (some 10) rfl rfl Tryd.func19 (by kernel_rfl) rfl #[.agg #[.int .u64 a0_0, .int .u64 a0_1], .agg #[.int .u64 a1_0, .int .u64 a1_1]] rfl xM ?_; (with_reducible refine (turnpikeref1_Cmp.calls k a0_0 a0_1 a1_0 a1_1 t611 _ A3.out).mono ?_); rintro e w11 ⟨rfl, hb⟩; refine ⟨_, rfl, ?_⟩; have n0_ := Aside0.mk (blk_below (g := gb609) (o := .cells #[.int .u64 a0_0, .int .u64 a0_1, .int .i64 a0_2] 28 (0, 0)) (xK BK609.out) hb); have n1_ := Aside0.mk (blk_below (g := gb610) (o := .cells #[.int .u64 a1_0, .int .u64 a1_1, .int .i64 a1_2] 28 (0, 0)) (xK BK610.out) hb); have n2_ := Aside0.mk (below_step xG hb); clear BK609; clear BK610; clear HB; have BK609 := n0_; have BK610 := n1_; have HB := n2_; clear n0_ n1_ n2_; (try clear hb); (try clear hb2); (try clear hk); (try clear hi); have hcz12_0 : w11.cell? ⟨gb609, 0, none⟩ = some (.int .u64 a0_0) := (blk_cell BK609.out 0).trans rfl; have hcz12_1 : w11.cell? ⟨gb609, 1, none⟩ = some (.int .u64 a0_1) := (blk_cell BK609.out 1).trans rfl; have hcz12_2 : w11.cell? ⟨gb609, 2, none⟩ = some (.int .i64 a0_2) := (blk_cell BK609.out 2).trans rfl; have hfz12_0 := blk_frozen BK609.out 0; have hfz12_1 := blk_frozen BK609.out 1; have hfz12_2 := blk_frozen BK609.out 2; have hcz13_0 : w11.cell? ⟨gb610, 0, none⟩ = some (.int .u64 a1_0) := (blk_cell BK610.out 0).trans rfl; have hcz13_1 : w11.cell? ⟨gb610, 1, none⟩ = some (.int .u64 a1_1) := (blk_cell BK610.out 1).trans rfl; have hcz13_2 : w11.cell? ⟨gb610, 2, none⟩ = some (.int .i64 a1_2) := (blk_cell BK610.out 2).trans rfl; have hfz13_0 := blk_frozen BK610.out 0; have hfz13_1 := blk_frozen BK610.out 1; have hfz13_2 := blk_frozen BK610.out 2))
      go_ret
      exact ⟨xE, xG⟩
    · rw [if_neg c5] at H
      have c5b0 : decide (a0_2 < a1_2) = false := decide_eq_false c5
      clear c5
      by_cases c14 : a0_2 > a1_2
      · rw [if_pos c14] at H
        have c14b0 : decide (a1_2 < a0_2) = true := decide_eq_true c14
        clear c14
        obtain rfl := Option.some.inj H
        go_enter Tryd.func43, Tryd.ntmps43
        go_wp2_with (first | ((with_reducible refine gate_dst (N := 2) rfl ?_); refine box_event ?hg (N := 2) ?hd (cs := #[.int .u64 a0_0, .int .u64 a0_1, .int .i64 a0_2]) (t := 28) ?hr ?_; (case hd => rfl); (case hg => rfl); (case hr => first | (go_simp; done) | (go_simp; rfl)); intro gb609 hg w15 hbox hb; have n0_ := Aside0.mk (below_step xB hb); have n1_ := Aside0.mk (hbox); have n2_ := Aside0.mk ((by rw [hg]; exact (below_size xB) : w.heap.size ≤ gb609)); have n3_ := Aside0.mk ((by rw [hg]; exact (below_size xB) : w.heap.size ≤ gb609)); clear HB; have HB := n0_; have BK609 := n1_; have GW609 := n2_; have GE609 := n3_; clear n0_ n1_ n2_ n3_; clear hb hbox hg) | ((with_reducible refine gate_dst (N := 3) rfl ?_); refine box_event ?hg (N := 3) ?hd (cs := #[.int .u64 a1_0, .int .u64 a1_1, .int .i64 a1_2]) (t := 28) ?hr ?_; (case hd => rfl); (case hg => rfl); (case hr => first | (go_simp; done) | (go_simp; rfl)); intro gb610 hg w16 hbox hb; have n0_ := Aside0.mk (blk_below (g := gb609) (o := .cells #[.int .u64 a0_0, .int .u64 a0_1, .int .i64 a0_2] 28 (0, 0)) (xK BK609.out) hb); have n1_ := Aside0.mk (below_step xG hb); have n2_ := Aside0.mk (hbox); have n3_ := Aside0.mk ((by rw [hg]; exact (below_size xG) : w.heap.size ≤ gb610)); have n4_ := Aside0.mk ((by rw [hg]; exact (below_size xG) : w.heap.size ≤ gb610)); have n5_ := Aside0.mk ((xN BK609.out : gb609 ≠ gb610)); have n6_ := Aside0.mk ((xN BK609.out : gb610 ≠ gb609)); clear BK609; clear HB; have BK609 := n0_; have HB := n1_; have BK610 := n2_; have GW610 := n3_; have GE610 := n4_; have NB609_610 := n5_; have NB610_609 := n6_; clear n0_ n1_ n2_ n3_ n4_ n5_ n6_; clear hb hbox hg; have hnb17 := NB609_610.out; have hnc17 := NB610_609.out; have hcz18_0 : w16.cell? ⟨gb609, 0, none⟩ = some (.int .u64 a0_0) := (blk_cell BK609.out 0).trans rfl; have hcz18_1 : w16.cell? ⟨gb609, 1, none⟩ = some (.int .u64 a0_1) := (blk_cell BK609.out 1).trans rfl; have hcz18_2 : w16.cell? ⟨gb609, 2, none⟩ = some (.int .i64 a0_2) := (blk_cell BK609.out 2).trans rfl; have hfz18_0 := blk_frozen BK609.out 0; have hfz18_1 := blk_frozen BK609.out 1; have hfz18_2 := blk_frozen BK609.out 2; have hcz19_0 : w16.cell? ⟨gb610, 0, none⟩ = some (.int .u64 a1_0) := (blk_cell BK610.out 0).trans rfl; have hcz19_1 : w16.cell? ⟨gb610, 1, none⟩ = some (.int .u64 a1_1) := (blk_cell BK610.out 1).trans rfl; have hcz19_2 : w16.cell? ⟨gb610, 2, none⟩ = some (.int .i64 a1_2) := (blk_cell BK610.out 2).trans rfl; have hfz19_0 := blk_frozen BK610.out 0; have hfz19_1 := blk_frozen BK610.out 1; have hfz19_2 := blk_frozen BK610.out 2) | ((with_reducible refine gate_callee (f := 19) rfl ?_); refine goesL_ (some 10) rfl rfl Tryd.func19 (by kernel_rfl) rfl #[.agg #[.int .u64 a0_0, .int .u64 a0_1], .agg #[.int .u64 a1_0, .int .u64 a1_1]] rfl xM ?_; (with_reducible refine (turnpikeref1_Cmp.calls k a0_0 a0_1 a1_0 a1_1 t611 _ A3.out).mono ?_); rintro e w20 ⟨rfl, hb⟩; refine ⟨_, rfl, ?_⟩; have n0_ := Aside0.mk (blk_below (g := gb609) (o := .cells #[.int .u64 a0_0, .int .u64 a0_1, .int .i64 a0_2] 28 (0, 0)) (xK BK609.out) hb); have n1_ := Aside0.mk (blk_below (g := gb610) (o := .cells #[.int .u64 a1_0, .int .u64 a1_1, .int .i64 a1_2] 28 (0, 0)) (xK BK610.out) hb); have n2_ := Aside0.mk (below_step xG hb); clear BK609; clear BK610; clear HB; have BK609 := n0_; have BK610 := n1_; have HB := n2_; clear n0_ n1_ n2_; (try clear hb); (try clear hb2); (try clear hk); (try clear hi); have hcz21_0 : w20.cell? ⟨gb609, 0, none⟩ = some (.int .u64 a0_0) := (blk_cell BK609.out 0).trans rfl; have hcz21_1 : w20.cell? ⟨gb609, 1, none⟩ = some (.int .u64 a0_1) := (blk_cell BK609.out 1).trans rfl; have hcz21_2 : w20.cell? ⟨gb609, 2, none⟩ = some (.int .i64 a0_2) := (blk_cell BK609.out 2).trans rfl; have hfz21_0 := blk_frozen BK609.out 0; have hfz21_1 := blk_frozen BK609.out 1; have hfz21_2 := blk_frozen BK609.out 2; have hcz22_0 : w20.cell? ⟨gb610, 0, none⟩ = some (.int .u64 a1_0) := (blk_cell BK610.out 0).trans rfl; have hcz22_1 : w20.cell? ⟨gb610, 1, none⟩ = some (.int .u64 a1_1) := (blk_cell BK610.out 1).trans rfl; have hcz22_2 : w20.cell? ⟨gb610, 2, none⟩ = some (.int .i64 a1_2) := (blk_cell BK610.out 2).trans rfl; have hfz22_0 := blk_frozen BK610.out 0; have hfz22_1 := blk_frozen BK610.out 1; have hfz22_2 := blk_frozen BK610.out 2))
        go_ret
        exact ⟨xE, xG⟩
      · rw [if_neg c14] at H
        have c14b0 : decide (a1_2 < a0_2) = false := decide_eq_false c14
        clear c14
        obtain rfl := Option.some.inj H
        go_enter Tryd.func43, Tryd.ntmps43
        go_wp2_with (first | ((with_reducible refine gate_dst (N := 2) rfl ?_); refine box_event ?hg (N := 2) ?hd (cs := #[.int .u64 a0_0, .int .u64 a0_1, .int .i64 a0_2]) (t := 28) ?hr ?_; (case hd => rfl); (case hg => rfl); (case hr => first | (go_simp; done) | (go_simp; rfl)); intro gb609 hg w23 hbox hb; have n0_ := Aside0.mk (below_step xB hb); have n1_ := Aside0.mk (hbox); have n2_ := Aside0.mk ((by rw [hg]; exact (below_size xB) : w.heap.size ≤ gb609)); have n3_ := Aside0.mk ((by rw [hg]; exact (below_size xB) : w.heap.size ≤ gb609)); clear HB; have HB := n0_; have BK609 := n1_; have GW609 := n2_; have GE609 := n3_; clear n0_ n1_ n2_ n3_; clear hb hbox hg) | ((with_reducible refine gate_dst (N := 3) rfl ?_); refine box_event ?hg (N := 3) ?hd (cs := #[.int .u64 a1_0, .int .u64 a1_1, .int .i64 a1_2]) (t := 28) ?hr ?_; (case hd => rfl); (case hg => rfl); (case hr => first | (go_simp; done) | (go_simp; rfl)); intro gb610 hg w24 hbox hb; have n0_ := Aside0.mk (blk_below (g := gb609) (o := .cells #[.int .u64 a0_0, .int .u64 a0_1, .int .i64 a0_2] 28 (0, 0)) (xK BK609.out) hb); have n1_ := Aside0.mk (below_step xG hb); have n2_ := Aside0.mk (hbox); have n3_ := Aside0.mk ((by rw [hg]; exact (below_size xG) : w.heap.size ≤ gb610)); have n4_ := Aside0.mk ((by rw [hg]; exact (below_size xG) : w.heap.size ≤ gb610)); have n5_ := Aside0.mk ((xN BK609.out : gb609 ≠ gb610)); have n6_ := Aside0.mk ((xN BK609.out : gb610 ≠ gb609)); clear BK609; clear HB; have BK609 := n0_; have HB := n1_; have BK610 := n2_; have GW610 := n3_; have GE610 := n4_; have NB609_610 := n5_; have NB610_609 := n6_; clear n0_ n1_ n2_ n3_ n4_ n5_ n6_; clear hb hbox hg; have hnb25 := NB609_610.out; have hnc25 := NB610_609.out; have hcz26_0 : w24.cell? ⟨gb609, 0, none⟩ = some (.int .u64 a0_0) := (blk_cell BK609.out 0).trans rfl; have hcz26_1 : w24.cell? ⟨gb609, 1, none⟩ = some (.int .u64 a0_1) := (blk_cell BK609.out 1).trans rfl; have hcz26_2 : w24.cell? ⟨gb609, 2, none⟩ = some (.int .i64 a0_2) := (blk_cell BK609.out 2).trans rfl; have hfz26_0 := blk_frozen BK609.out 0; have hfz26_1 := blk_frozen BK609.out 1; have hfz26_2 := blk_frozen BK609.out 2; have hcz27_0 : w24.cell? ⟨gb610, 0, none⟩ = some (.int .u64 a1_0) := (blk_cell BK610.out 0).trans rfl; have hcz27_1 : w24.cell? ⟨gb610, 1, none⟩ = some (.int .u64 a1_1) := (blk_cell BK610.out 1).trans rfl; have hcz27_2 : w24.cell? ⟨gb610, 2, none⟩ = some (.int .i64 a1_2) := (blk_cell BK610.out 2).trans rfl; have hfz27_0 := blk_frozen BK610.out 0; have hfz27_1 := blk_frozen BK610.out 1; have hfz27_2 := blk_frozen BK610.out 2) | ((with_reducible refine gate_callee (f := 19) rfl ?_); refine goesL_ (some 10) rfl rfl Tryd.func19 (by kernel_rfl) rfl #[.agg #[.int .u64 a0_0, .int .u64 a0_1], .agg #[.int .u64 a1_0, .int .u64 a1_1]] rfl xM ?_; (with_reducible refine (turnpikeref1_Cmp.calls k a0_0 a0_1 a1_0 a1_1 t611 _ A3.out).mono ?_); rintro e w28 ⟨rfl, hb⟩; refine ⟨_, rfl, ?_⟩; have n0_ := Aside0.mk (blk_below (g := gb609) (o := .cells #[.int .u64 a0_0, .int .u64 a0_1, .int .i64 a0_2] 28 (0, 0)) (xK BK609.out) hb); have n1_ := Aside0.mk (blk_below (g := gb610) (o := .cells #[.int .u64 a1_0, .int .u64 a1_1, .int .i64 a1_2] 28 (0, 0)) (xK BK610.out) hb); have n2_ := Aside0.mk (below_step xG hb); clear BK609; clear BK610; clear HB; have BK609 := n0_; have BK610 := n1_; have HB := n2_; clear n0_ n1_ n2_; (try clear hb); (try clear hb2); (try clear hk); (try clear hi); have hcz29_0 : w28.cell? ⟨gb609, 0, none⟩ = some (.int .u64 a0_0) := (blk_cell BK609.out 0).trans rfl; have hcz29_1 : w28.cell? ⟨gb609, 1, none⟩ = some (.int .u64 a0_1) := (blk_cell BK609.out 1).trans rfl; have hcz29_2 : w28.cell? ⟨gb609, 2, none⟩ = some (.int .i64 a0_2) := (blk_cell BK609.out 2).trans rfl; have hfz29_0 := blk_frozen BK609.out 0; have hfz29_1 := blk_frozen BK609.out 1; have hfz29_2 := blk_frozen BK609.out 2; have hcz30_0 : w28.cell? ⟨gb610, 0, none⟩ = some (.int .u64 a1_0) := (blk_cell BK610.out 0).trans rfl; have hcz30_1 : w28.cell? ⟨gb610, 1, none⟩ = some (.int .u64 a1_1) := (blk_cell BK610.out 1).trans rfl; have hcz30_2 : w28.cell? ⟨gb610, 2, none⟩ = some (.int .i64 a1_2) := (blk_cell BK610.out 2).trans rfl; have hfz30_0 := blk_frozen BK610.out 0; have hfz30_1 := blk_frozen BK610.out 1; have hfz30_2 := blk_frozen BK610.out 2))
        go_ret
        exact ⟨xE, xG⟩
  · rw [if_neg c4] at H
    have c4b0 : (t611 == 0) = false := beq_eq_false_iff_ne.mpr c4
    have c4b1 : (t611 != 0) = true := bne_iff_ne.mpr c4
    obtain rfl := Option.some.inj H
    go_enter Tryd.func43, Tryd.ntmps43
    go_wp2_with (first | ((with_reducible refine gate_dst (N := 2) rfl ?_); refine box_event ?hg (N := 2) ?hd (cs := #[.int .u64 a0_0, .int .u64 a0_1, .int .i64 a0_2]) (t := 28) ?hr ?_; (case hd => rfl); (case hg => rfl); (case hr => first | (go_simp; done) | (go_simp; rfl)); intro gb609 hg w31 hbox hb; have n0_ := Aside0.mk (below_step xB hb); have n1_ := Aside0.mk (hbox); have n2_ := Aside0.mk ((by rw [hg]; exact (below_size xB) : w.heap.size ≤ gb609)); have n3_ := Aside0.mk ((by rw [hg]; exact (below_size xB) : w.heap.size ≤ gb609)); clear HB; have HB := n0_; have BK609 := n1_; have GW609 := n2_; have GE609 := n3_; clear n0_ n1_ n2_ n3_; clear hb hbox hg) | ((with_reducible refine gate_dst (N := 3) rfl ?_); refine box_event ?hg (N := 3) ?hd (cs := #[.int .u64 a1_0, .int .u64 a1_1, .int .i64 a1_2]) (t := 28) ?hr ?_; (case hd => rfl); (case hg => rfl); (case hr => first | (go_simp; done) | (go_simp; rfl)); intro gb610 hg w32 hbox hb; have n0_ := Aside0.mk (blk_below (g := gb609) (o := .cells #[.int .u64 a0_0, .int .u64 a0_1, .int .i64 a0_2] 28 (0, 0)) (xK BK609.out) hb); have n1_ := Aside0.mk (below_step xG hb); have n2_ := Aside0.mk (hbox); have n3_ := Aside0.mk ((by rw [hg]; exact (below_size xG) : w.heap.size ≤ gb610)); have n4_ := Aside0.mk ((by rw [hg]; exact (below_size xG) : w.heap.size ≤ gb610)); have n5_ := Aside0.mk ((xN BK609.out : gb609 ≠ gb610)); have n6_ := Aside0.mk ((xN BK609.out : gb610 ≠ gb609)); clear BK609; clear HB; have BK609 := n0_; have HB := n1_; have BK610 := n2_; have GW610 := n3_; have GE610 := n4_; have NB609_610 := n5_; have NB610_609 := n6_; clear n0_ n1_ n2_ n3_ n4_ n5_ n6_; clear hb hbox hg; have hnb33 := NB609_610.out; have hnc33 := NB610_609.out; have hcz34_0 : w32.cell? ⟨gb609, 0, none⟩ = some (.int .u64 a0_0) := (blk_cell BK609.out 0).trans rfl; have hcz34_1 : w32.cell? ⟨gb609, 1, none⟩ = some (.int .u64 a0_1) := (blk_cell BK609.out 1).trans rfl; have hcz34_2 : w32.cell? ⟨gb609, 2, none⟩ = some (.int .i64 a0_2) := (blk_cell BK609.out 2).trans rfl; have hfz34_0 := blk_frozen BK609.out 0; have hfz34_1 := blk_frozen BK609.out 1; have hfz34_2 := blk_frozen BK609.out 2; have hcz35_0 : w32.cell? ⟨gb610, 0, none⟩ = some (.int .u64 a1_0) := (blk_cell BK610.out 0).trans rfl; have hcz35_1 : w32.cell? ⟨gb610, 1, none⟩ = some (.int .u64 a1_1) := (blk_cell BK610.out 1).trans rfl; have hcz35_2 : w32.cell? ⟨gb610, 2, none⟩ = some (.int .i64 a1_2) := (blk_cell BK610.out 2).trans rfl; have hfz35_0 := blk_frozen BK610.out 0; have hfz35_1 := blk_frozen BK610.out 1; have hfz35_2 := blk_frozen BK610.out 2) | ((with_reducible refine gate_callee (f := 19) rfl ?_); refine goesL_ (some 10) rfl rfl Tryd.func19 (by kernel_rfl) rfl #[.agg #[.int .u64 a0_0, .int .u64 a0_1], .agg #[.int .u64 a1_0, .int .u64 a1_1]] rfl xM ?_; (with_reducible refine (turnpikeref1_Cmp.calls k a0_0 a0_1 a1_0 a1_1 t611 _ A3.out).mono ?_); rintro e w36 ⟨rfl, hb⟩; refine ⟨_, rfl, ?_⟩; have n0_ := Aside0.mk (blk_below (g := gb609) (o := .cells #[.int .u64 a0_0, .int .u64 a0_1, .int .i64 a0_2] 28 (0, 0)) (xK BK609.out) hb); have n1_ := Aside0.mk (blk_below (g := gb610) (o := .cells #[.int .u64 a1_0, .int .u64 a1_1, .int .i64 a1_2] 28 (0, 0)) (xK BK610.out) hb); have n2_ := Aside0.mk (below_step xG hb); clear BK609; clear BK610; clear HB; have BK609 := n0_; have BK610 := n1_; have HB := n2_; clear n0_ n1_ n2_; (try clear hb); (try clear hb2); (try clear hk); (try clear hi)))
    go_ret
    exact ⟨xE, xG⟩
def turnpikelaw3_PrefixMeets.f (k : Nat) (a0 : Bool) (a1_0 : Int) (a1_1 : Int) (a2 : Int) (a3_0 : Int) (a3_1 : Int) (a4 : Int) : Option (Bool) := (turnpikelaw3_Family.f a0).bind fun t614 => ((turnpikelaw3_Some.f k t614 a1_0 a1_1 a2).bind fun bt615 => ((turnpikelaw3_Some.f k t614 a3_0 a3_1 a4).bind fun bt619 => ((turnpikelaw3_known.f k).bind fun t623 => (if t623 = true then ((prefix_Meet.f bt615.1 bt615.2.1 bt615.2.2 bt619.1 bt619.2.1 bt619.2.2).bind fun bt624 => ((turnpikeref3_Meet.f k bt615.1 bt615.2.1 bt615.2.2 bt619.1 bt619.2.1 bt619.2.2).bind fun bt627 => (if ((bt624.1 == bt627.1 && (bt624.2.1 == bt627.2.1)) && (bt624.2.2 == bt627.2.2)) = true then ((prefix_Cmp.f bt615.1 bt615.2.1 bt615.2.2 bt619.1 bt619.2.1 bt619.2.2).bind fun t630 => ((turnpikeref3_Cmp.f k bt615.1 bt615.2.1 bt615.2.2 bt619.1 bt619.2.1 bt619.2.2).bind fun t631 => (some (t630 == t631)))) else (some false)))) else (some false)))))
theorem turnpikelaw3_PrefixMeets.mono : ∀ a0 a1 a2 a3 a4 a5 a6 k, LeO (turnpikelaw3_PrefixMeets.f k a0 a1 a2 a3 a4 a5 a6) (turnpikelaw3_PrefixMeets.f (k + 1) a0 a1 a2 a3 a4 a5 a6) := by
  intro a0 a1 a2 a3 a4 a5 a6 k
  unfold turnpikelaw3_PrefixMeets.f
  have m0 := @turnpikelaw3_Some.mono
  have m1 := @turnpikelaw3_known.mono
  have m2 := @turnpikeref3_Cmp.mono
  have m3 := @turnpikeref3_Meet.mono
  exact xO
def turnpikelaw3_PrefixMeets.T4 : Bool × List (List Nat × List Nat) := (true, [([], []), ([0, 0], [0]), ([1], [1]), ([1], [1]), ([2, 3, 1, 1], [1, 2, 3]), ([1], [1]), ([1], [1]), ([5, 6, 4, 1], [1, 5, 6]), ([4, 7, 1], [1, 4, 7]), ([1, 8], [1, 8]), ([9, 7], [9]), ([10], [10]), ([10], [10]), ([11, 12, 10, 10], [10, 11, 12]), ([10], [10]), ([10], [10]), ([14, 15, 13, 10], [10, 14, 15]), ([13, 16, 10], [10, 13, 16]), ([10, 17], [10, 17]), ([18, 16, 0, 1, 2, 3, 4, 5, 6, 7, 8, 9, 10, 11, 12, 13, 14, 15, 16, 17, 18], [18])])
def turnpikelaw3_PrefixMeets.B4 : List Nat := [0, 1, 3, 3, 15, 3, 3, 127, 255, 511, 1023, 2047, 2047, 8191, 2047, 2047, 65535, 131071, 262143, 524287]
theorem turnpikelaw3_PrefixMeets.tab4 : rtab .any (opsOf Tryd.f9 4) = turnpikelaw3_PrefixMeets.T4 := by kernel_rfl
theorem turnpikelaw3_PrefixMeets.bits4 : waitsOk turnpikelaw3_PrefixMeets.T4.2 turnpikelaw3_PrefixMeets.B4 = true := by kernel_rfl
set_option maxHeartbeats 8000000 in
set_option maxRecDepth 100000 in
theorem turnpikelaw3_PrefixMeets.calls (k : Nat) (a0 : Bool) (a1_0 : Int) (a1_1 : Int) (a2 : Int) (a3_0 : Int) (a3_1 : Int) (a4 : Int) (r : Bool) (w : World) (hML : MLOk w) (hr_ : Aside0 (r = true)) (h : turnpikelaw3_PrefixMeets.f k a0 a1_0 a1_1 a2 a3_0 a3_1 a4 = some r) :
    Calls Tryd.prog 9 #[.bool a0, .agg #[.int .u64 a1_0, .int .u64 a1_1], .int .i64 a2, .agg #[.int .u64 a3_0, .int .u64 a3_1], .int .i64 a4] w fun e w' => e = .returned (.bool r) ∧ Below w.heap.size w w' := by
  have hu24 := Tryd.underlying24
  have hu28 := Tryd.underlying28
  have HML := Aside0.mk hML
  clear hML
  have HB := Aside0.mk (Below.refl w.heap.size w)
  have H : ((turnpikelaw3_Family.f a0).bind fun t614 => ((turnpikelaw3_Some.f k t614 a1_0 a1_1 a2).bind fun bt615 => ((turnpikelaw3_Some.f k t614 a3_0 a3_1 a4).bind fun bt619 => ((turnpikelaw3_known.f k).bind fun t623 => (if t623 = true then ((prefix_Meet.f bt615.1 bt615.2.1 bt615.2.2 bt619.1 bt619.2.1 bt619.2.2).bind fun bt624 => ((turnpikeref3_Meet.f k bt615.1 bt615.2.1 bt615.2.2 bt619.1 bt619.2.1 bt619.2.2).bind fun bt627 => (if ((bt624.1 == bt627.1 && (bt624.2.1 == bt627.2.1)) && (bt624.2.2 == bt627.2.2)) = true then ((prefix_Cmp.f bt615.1 bt615.2.1 bt615.2.2 bt619.1 bt619.2.1 bt619.2.2).bind fun t630 => ((turnpikeref3_Cmp.f k bt615.1 bt615.2.1 bt615.2.2 bt619.1 bt619.2.1 bt619.2.2).bind fun t631 => (some (t630 == t631)))) else (some false)))) else (some false)))))) = some r := h
  clear h
  replace H := Option.bind_eq_some_iff.mp H
  obtain ⟨t614, A60, H⟩ := H
  replace H : ((turnpikelaw3_Some.f k t614 a1_0 a1_1 a2).bind fun bt615 => ((turnpikelaw3_Some.f k t614 a3_0 a3_1 a4).bind fun bt619 => ((turnpikelaw3_known.f k).bind fun t623 => (if t623 = true then ((prefix_Meet.f bt615.1 bt615.2.1 bt615.2.2 bt619.1 bt619.2.1 bt619.2.2).bind fun bt624 => ((turnpikeref3_Meet.f k bt615.1 bt615.2.1 bt615.2.2 bt619.1 bt619.2.1 bt619.2.2).bind fun bt627 => (if ((bt624.1 == bt627.1 && (bt624.2.1 == bt627.2.1)) && (bt624.2.2 == bt627.2.2)) = true then ((prefix_Cmp.f bt615.1 bt615.2.1 bt615.2.2 bt619.1 bt619.2.1 bt619.2.2).bind fun t630 => ((turnpikeref3_Cmp.f k bt615.1 bt615.2.1 bt615.2.2 bt619.1 bt619.2.1 bt619.2.2).bind fun t631 => (some (t630 == t631)))) else (some false)))) else (some false))))) = some r := H
  have A6 := Aside0.mk A60
  clear A60
  replace H := Option.bind_eq_some_iff.mp H
  obtain ⟨⟨t615, t616, t617⟩, A70, H⟩ := H
  replace H : ((turnpikelaw3_Some.f k t614 a3_0 a3_1 a4).bind fun bt619 => ((turnpikelaw3_known.f k).bind fun t623 => (if t623 = true then ((prefix_Meet.f t615 t616 t617 bt619.1 bt619.2.1 bt619.2.2).bind fun bt624 => ((turnpikeref3_Meet.f k t615 t616 t617 bt619.1 bt619.2.1 bt619.2.2).bind fun bt627 => (if ((bt624.1 == bt627.1 && (bt624.2.1 == bt627.2.1)) && (bt624.2.2 == bt627.2.2)) = true then ((prefix_Cmp.f t615 t616 t617 bt619.1 bt619.2.1 bt619.2.2).bind fun t630 => ((turnpikeref3_Cmp.f k t615 t616 t617 bt619.1 bt619.2.1 bt619.2.2).bind fun t631 => (some (t630 == t631)))) else (some false)))) else (some false)))) = some r := H
  have A7 := Aside0.mk A70
  clear A70
  replace H := Option.bind_eq_some_iff.mp H
  obtain ⟨⟨t619, t620, t621⟩, A80, H⟩ := H
  replace H : ((turnpikelaw3_known.f k).bind fun t623 => (if t623 = true then ((prefix_Meet.f t615 t616 t617 t619 t620 t621).bind fun bt624 => ((turnpikeref3_Meet.f k t615 t616 t617 t619 t620 t621).bind fun bt627 => (if ((bt624.1 == bt627.1 && (bt624.2.1 == bt627.2.1)) && (bt624.2.2 == bt627.2.2)) = true then ((prefix_Cmp.f t615 t616 t617 t619 t620 t621).bind fun t630 => ((turnpikeref3_Cmp.f k t615 t616 t617 t619 t620 t621).bind fun t631 => (some (t630 == t631)))) else (some false)))) else (some false))) = some r := H
  have A8 := Aside0.mk A80
  clear A80
  replace H := Option.bind_eq_some_iff.mp H
  obtain ⟨t623, A90, H⟩ := H
  replace H : (if t623 = true then ((prefix_Meet.f t615 t616 t617 t619 t620 t621).bind fun bt624 => ((turnpikeref3_Meet.f k t615 t616 t617 t619 t620 t621).bind fun bt627 => (if ((bt624.1 == bt627.1 && (bt624.2.1 == bt627.2.1)) && (bt624.2.2 == bt627.2.2)) = true then ((prefix_Cmp.f t615 t616 t617 t619 t620 t621).bind fun t630 => ((turnpikeref3_Cmp.f k t615 t616 t617 t619 t620 t621).bind fun t631 => (some (t630 == t631)))) else (some false)))) else (some false)) = some r := H
  have A9 := Aside0.mk A90
  clear A90
  by_cases c10 : t623 = true
  · subst c10
    have H1 : ((prefix_Meet.f t615 t616 t617 t619 t620 t621).bind fun bt624 => ((turnpikeref3_Meet.f k t615 t616 t617 t619 t620 t621).bind fun bt627 => (if ((bt624.1 == bt627.1 && (bt624.2.1 == bt627.2.1)) && (bt624.2.2 == bt627.2.2)) = true then ((prefix_Cmp.f t615 t616 t617 t619 t620 t621).bind fun t630 => ((turnpikeref3_Cmp.f k t615 t616 t617 t619 t620 t621).bind fun t631 => (some (t630 == t631)))) else (some false)))) = some r := by rw [if_pos rfl] at H; exact H
    clear H
    have H := H1
    clear H1
    replace H := Option.bind_eq_some_iff.mp H
    obtain ⟨⟨t624, t625, t626⟩, A110, H⟩ := H
    replace H : ((turnpikeref3_Meet.f k t615 t616 t617 t619 t620 t621).bind fun bt627 => (if ((t624 == bt627.1 && (t625 == bt627.2.1)) && (t626 == bt627.2.2)) = true then ((prefix_Cmp.f t615 t616 t617 t619 t620 t621).bind fun t630 => ((turnpikeref3_Cmp.f k t615 t616 t617 t619 t620 t621).bind fun t631 => (some (t630 == t631)))) else (some false))) = some r := H
    have A11 := Aside0.mk A110
    clear A110
    replace H := Option.bind_eq_some_iff.mp H
    obtain ⟨⟨t627, t628, t629⟩, A120, H⟩ := H
    replace H : (if ((t624 == t627 && (t625 == t628)) && (t626 == t629)) = true then ((prefix_Cmp.f t615 t616 t617 t619 t620 t621).bind fun t630 => ((turnpikeref3_Cmp.f k t615 t616 t617 t619 t620 t621).bind fun t631 => (some (t630 == t631)))) else (some false)) = some r := H
    have A12 := Aside0.mk A120
    clear A120
    by_cases c13 : ((t624 == t627 && (t625 == t628)) && (t626 == t629)) = true
    · rw [if_pos c13] at H
      have c13b0 : ((t624 == t627 && (t625 == t628)) && (t626 == t629)) = true := c13
      clear c13
      replace H := Option.bind_eq_some_iff.mp H
      obtain ⟨t630, A140, H⟩ := H
      replace H : ((turnpikeref3_Cmp.f k t615 t616 t617 t619 t620 t621).bind fun t631 => (some (t630 == t631))) = some r := H
      have A14 := Aside0.mk A140
      clear A140
      replace H := Option.bind_eq_some_iff.mp H
      obtain ⟨t631, A150, H⟩ := H
      replace H : (some (t630 == t631)) = some r := H
      have A15 := Aside0.mk A150
      clear A150
      obtain rfl := Option.some.inj H
      go_enter Tryd.func9, Tryd.ntmps9
      try go_wp2_with (first | ((with_reducible refine gate_dst (N := 6) rfl ?_); refine box_event ?hg (N := 6) ?hd (cs := #[.int .u64 a1_0, .int .u64 a1_1]) (t := 24) ?hr ?_; (case hd => rfl); (case hg => rfl); (case hr => first | (go_simp; done) | (go_simp; rfl)); intro gb612 hg w16 hbox hb; have n0_ := Aside0.mk (below_step xB hb); have n1_ := Aside0.mk (hbox); have n2_ := Aside0.mk ((by rw [hg]; exact (below_size xB) : w.heap.size ≤ gb612)); have n3_ := Aside0.mk ((by rw [hg]; exact (below_size xB) : w.heap.size ≤ gb612)); clear HB; have HB := n0_; have BK612 := n1_; have GW612 := n2_; have GE612 := n3_; clear n0_ n1_ n2_ n3_; clear hb hbox hg) | ((with_reducible refine gate_dst (N := 8) rfl ?_); refine box_event ?hg (N := 8) ?hd (cs := #[.int .u64 a3_0, .int .u64 a3_1]) (t := 24) ?hr ?_; (case hd => rfl); (case hg => rfl); (case hr => first | (go_simp; done) | (go_simp; rfl)); intro gb613 hg w17 hbox hb; have n0_ := Aside0.mk (blk_below (g := gb612) (o := .cells #[.int .u64 a1_0, .int .u64 a1_1] 24 (0, 0)) (xK BK612.out) hb); have n1_ := Aside0.mk (below_step xG hb); have n2_ := Aside0.mk (hbox); have n3_ := Aside0.mk ((by rw [hg]; exact (below_size xG) : w.heap.size ≤ gb613)); have n4_ := Aside0.mk ((by rw [hg]; exact (below_size xG) : w.heap.size ≤ gb613)); have n5_ := Aside0.mk ((xN BK612.out : gb612 ≠ gb613)); have n6_ := Aside0.mk ((xN BK612.out : gb613 ≠ gb612)); clear BK612; clear HB; have BK612 := n0_; have HB := n1_; have BK613 := n2_; have GW613 := n3_; have GE613 := n4_; have NB612_613 := n5_; have NB613_612 := n6_; clear n0_ n1_ n2_ n3_ n4_ n5_ n6_; clear hb hbox hg) | ((with_reducible refine gate_callee (f := 15) rfl ?_); refine goesL_ (some 15) rfl rfl Tryd.func15 (by kernel_rfl) rfl #[.bool a0] rfl xM ?_; (with_reducible refine (turnpikelaw3_Family.calls a0 t614 _ A6.out).mono ?_); rintro e w' ⟨rfl, ⟨nd, rfl⟩⟩; refine ⟨_, rfl, ?_⟩; (try (rw [drewN_self w17]; generalize hq_ : World.drewN w17 _ = w17; have n0_ : Aside0 (w17.heap[gb612]? = some (.cells #[.int .u64 a1_0, .int .u64 a1_1] 24 (0, 0))) := ⟨by rw [← hq_]; exact (xK BK612.out)⟩; have n1_ : Aside0 (w17.heap[gb613]? = some (.cells #[.int .u64 a3_0, .int .u64 a3_1] 24 (0, 0))) := ⟨by rw [← hq_]; exact (xK BK613.out)⟩; have n2_ : Aside0 (Below w.heap.size w w17) := ⟨by rw [← hq_]; exact xG⟩; clear BK612 BK613 HB hq_; have BK612 := n0_; have BK613 := n1_; have HB := n2_; clear n0_ n1_ n2_)); have hnb18 := NB612_613.out; have hnc18 := NB613_612.out; have hcz19_0 : w17.cell? ⟨gb612, 0, none⟩ = some (.int .u64 a1_0) := (blk_cell BK612.out 0).trans rfl; have hcz19_1 : w17.cell? ⟨gb612, 1, none⟩ = some (.int .u64 a1_1) := (blk_cell BK612.out 1).trans rfl; have hfz19_0 := blk_frozen BK612.out 0; have hfz19_1 := blk_frozen BK612.out 1) | ((with_reducible refine gate_callee (f := 16) rfl ?_); refine goesL_ (some 19) rfl rfl Tryd.func16 (by kernel_rfl) rfl #[.int .i64 t614, .agg #[.int .u64 a1_0, .int .u64 a1_1], .int .i64 a2] rfl xM ?_; (with_reducible refine (turnpikelaw3_Some.calls k t614 a1_0 a1_1 a2 t615 t616 t617 _ A7.out).mono ?_); rintro e w20 ⟨rfl, hb⟩; refine ⟨_, rfl, ?_⟩; have n0_ := Aside0.mk (blk_below (g := gb612) (o := .cells #[.int .u64 a1_0, .int .u64 a1_1] 24 (0, 0)) (xK BK612.out) hb); have n1_ := Aside0.mk (blk_below (g := gb613) (o := .cells #[.int .u64 a3_0, .int .u64 a3_1] 24 (0, 0)) (xK BK613.out) hb); have n2_ := Aside0.mk (below_step xG hb); clear BK612; clear BK613; clear HB; have BK612 := n0_; have BK613 := n1_; have HB := n2_; clear n0_ n1_ n2_; (try clear hb); (try clear hb2); (try clear hk); (try clear hi)) | ((with_reducible refine gate_dst (N := 12) rfl ?_); refine box_event ?hg (N := 12) ?hd (cs := #[.int .u64 0, .int .u64 0, .int .i64 0]) (t := 28) ?hr ?_; (case hd => rfl); (case hg => rfl); (case hr => first | (go_simp; done) | (go_simp; rfl)); intro gb618 hg w21 hbox hb; have n0_ := Aside0.mk (blk_below (g := gb612) (o := .cells #[.int .u64 a1_0, .int .u64 a1_1] 24 (0, 0)) (xK BK612.out) hb); have n1_ := Aside0.mk (blk_below (g := gb613) (o := .cells #[.int .u64 a3_0, .int .u64 a3_1] 24 (0, 0)) (xK BK613.out) hb); have n2_ := Aside0.mk (below_step xG hb); have n3_ := Aside0.mk (hbox); have n4_ := Aside0.mk ((by rw [hg]; exact (below_size xG) : w.heap.size ≤ gb618)); have n5_ := Aside0.mk ((by rw [hg]; exact (below_size xG) : w.heap.size ≤ gb618)); have n6_ := Aside0.mk ((xN BK612.out : gb612 ≠ gb618)); have n7_ := Aside0.mk ((xN BK612.out : gb618 ≠ gb612)); have n8_ := Aside0.mk ((xN BK613.out : gb613 ≠ gb618)); have n9_ := Aside0.mk ((xN BK613.out : gb618 ≠ gb613)); clear BK612; clear BK613; clear HB; have BK612 := n0_; have BK613 := n1_; have HB := n2_; have BK618 := n3_; have GW618 := n4_; have GE618 := n5_; have NB612_618 := n6_; have NB618_612 := n7_; have NB613_618 := n8_; have NB618_613 := n9_; clear n0_ n1_ n2_ n3_ n4_ n5_ n6_ n7_ n8_ n9_; clear hb hbox hg; have hnb22 := NB618_612.out; have hnc22 := NB612_618.out; have hnb23 := NB618_613.out; have hnc23 := NB613_618.out; have hcz24_0 : w21.cell? ⟨gb618, 0, none⟩ = some (.int .u64 0) := (blk_cell BK618.out 0).trans rfl; have hcz24_1 : w21.cell? ⟨gb618, 1, none⟩ = some (.int .u64 0) := (blk_cell BK618.out 1).trans rfl; have hcz24_2 : w21.cell? ⟨gb618, 2, none⟩ = some (.int .i64 0) := (blk_cell BK618.out 2).trans rfl; have hfz24_0 := blk_frozen BK618.out 0; have hfz24_1 := blk_frozen BK618.out 1; have hfz24_2 := blk_frozen BK618.out 2; have hcz25_0 : w21.cell? ⟨gb613, 0, none⟩ = some (.int .u64 a3_0) := (blk_cell BK613.out 0).trans rfl; have hcz25_1 : w21.cell? ⟨gb613, 1, none⟩ = some (.int .u64 a3_1) := (blk_cell BK613.out 1).trans rfl; have hfz25_0 := blk_frozen BK613.out 0; have hfz25_1 := blk_frozen BK613.out 1) | ((with_reducible refine gate_callee (f := 16) rfl ?_); refine goesL_ (some 23) rfl rfl Tryd.func16 (by kernel_rfl) rfl #[.int .i64 t614, .agg #[.int .u64 a3_0, .int .u64 a3_1], .int .i64 a4] rfl xM ?_; (with_reducible refine (turnpikelaw3_Some.calls k t614 a3_0 a3_1 a4 t619 t620 t621 _ A8.out).mono ?_); rintro e w26 ⟨rfl, hb⟩; refine ⟨_, rfl, ?_⟩; have n0_ := Aside0.mk (blk_below (g := gb612) (o := .cells #[.int .u64 a1_0, .int .u64 a1_1] 24 (0, 0)) (by (with_reducible repeat (first | refine blk_drewN ?_ _ | refine blk_drew ?_ | refine blk_alloc ?_ _)); refine blk_far ?_ NB612_618.out _; (with_reducible repeat (first | refine blk_drewN ?_ _ | refine blk_drew ?_ | refine blk_alloc ?_ _)); refine blk_far ?_ NB612_618.out _; (with_reducible repeat (first | refine blk_drewN ?_ _ | refine blk_drew ?_ | refine blk_alloc ?_ _)); refine blk_far ?_ NB612_618.out _; (with_reducible repeat (first | refine blk_drewN ?_ _ | refine blk_drew ?_ | refine blk_alloc ?_ _)); exact BK612.out) hb); have n1_ := Aside0.mk (blk_below (g := gb613) (o := .cells #[.int .u64 a3_0, .int .u64 a3_1] 24 (0, 0)) (by (with_reducible repeat (first | refine blk_drewN ?_ _ | refine blk_drew ?_ | refine blk_alloc ?_ _)); refine blk_far ?_ NB613_618.out _; (with_reducible repeat (first | refine blk_drewN ?_ _ | refine blk_drew ?_ | refine blk_alloc ?_ _)); refine blk_far ?_ NB613_618.out _; (with_reducible repeat (first | refine blk_drewN ?_ _ | refine blk_drew ?_ | refine blk_alloc ?_ _)); refine blk_far ?_ NB613_618.out _; (with_reducible repeat (first | refine blk_drewN ?_ _ | refine blk_drew ?_ | refine blk_alloc ?_ _)); exact BK613.out) hb); have n2_ := Aside0.mk (blk_below (g := gb618) (o := .cells #[.int .u64 t615, .int .u64 t616, .int .i64 t617] 28 (0, 0)) (by (with_reducible repeat (first | refine blk_drewN ?_ _ | refine blk_drew ?_ | refine blk_alloc ?_ _)); refine blk_put (cs := #[.int .u64 t615, .int .u64 t616, .int .i64 0]) ?_ 2 _ rfl; (with_reducible repeat (first | refine blk_drewN ?_ _ | refine blk_drew ?_ | refine blk_alloc ?_ _)); refine blk_put (cs := #[.int .u64 t615, .int .u64 0, .int .i64 0]) ?_ 1 _ rfl; (with_reducible repeat (first | refine blk_drewN ?_ _ | refine blk_drew ?_ | refine blk_alloc ?_ _)); refine blk_put (cs := #[.int .u64 0, .int .u64 0, .int .i64 0]) ?_ 0 _ rfl; (with_reducible repeat (first | refine blk_drewN ?_ _ | refine blk_drew ?_ | refine blk_alloc ?_ _)); exact BK618.out) hb); have n3_ := Aside0.mk (below_step xG hb); clear BK612; clear BK613; clear BK618; clear HB; have BK612 := n0_; have BK613 := n1_; have BK618 := n2_; have HB := n3_; clear n0_ n1_ n2_ n3_; (try clear hb); (try clear hb2); (try clear hk); (try clear hi)) | ((with_reducible refine gate_dst (N := 13) rfl ?_); refine box_event ?hg (N := 13) ?hd (cs := #[.int .u64 0, .int .u64 0, .int .i64 0]) (t := 28) ?hr ?_; (case hd => rfl); (case hg => rfl); (case hr => first | (go_simp; done) | (go_simp; rfl)); intro gb622 hg w27 hbox hb; have n0_ := Aside0.mk (blk_below (g := gb612) (o := .cells #[.int .u64 a1_0, .int .u64 a1_1] 24 (0, 0)) (xK BK612.out) hb); have n1_ := Aside0.mk (blk_below (g := gb613) (o := .cells #[.int .u64 a3_0, .int .u64 a3_1] 24 (0, 0)) (xK BK613.out) hb); have n2_ := Aside0.mk (blk_below (g := gb618) (o := .cells #[.int .u64 t615, .int .u64 t616, .int .i64 t617] 28 (0, 0)) (xK BK618.out) hb); have n3_ := Aside0.mk (below_step xG hb); have n4_ := Aside0.mk (hbox); have n5_ := Aside0.mk ((by rw [hg]; exact (below_size xG) : w.heap.size ≤ gb622)); have n6_ := Aside0.mk ((by rw [hg]; exact (below_size xG) : w.heap.size ≤ gb622)); have n7_ := Aside0.mk ((xN BK612.out : gb612 ≠ gb622)); have n8_ := Aside0.mk ((xN BK612.out : gb622 ≠ gb612)); have n9_ := Aside0.mk ((xN BK613.out : gb613 ≠ gb622)); have n10_ := Aside0.mk ((xN BK613.out : gb622 ≠ gb613)); have n11_ := Aside0.mk ((xN BK618.out : gb618 ≠ gb622)); have n12_ := Aside0.mk ((xN BK618.out : gb622 ≠ gb618)); clear BK612; clear BK613; clear BK618; clear HB; have BK612 := n0_; have BK613 := n1_; have BK618 := n2_; have HB := n3_; have BK622 := n4_; have GW622 := n5_; have GE622 := n6_; have NB612_622 := n7_; have NB622_612 := n8_; have NB613_622 := n9_; have NB622_613 := n10_; have NB618_622 := n11_; have NB622_618 := n12_; clear n0_ n1_ n2_ n3_ n4_ n5_ n6_ n7_ n8_ n9_ n10_ n11_ n12_; clear hb hbox hg; have hnb28 := NB622_612.out; have hnc28 := NB612_622.out; have hnb29 := NB622_613.out; have hnc29 := NB613_622.out; have hnb30 := NB622_618.out; have hnc30 := NB618_622.out; have hcz31_0 : w27.cell? ⟨gb622, 0, none⟩ = some (.int .u64 0) := (blk_cell BK622.out 0).trans rfl; have hcz31_1 : w27.cell? ⟨gb622, 1, none⟩ = some (.int .u64 0) := (blk_cell BK622.out 1).trans rfl; have hcz31_2 : w27.cell? ⟨gb622, 2, none⟩ = some (.int .i64 0) := (blk_cell BK622.out 2).trans rfl; have hfz31_0 := blk_frozen BK622.out 0; have hfz31_1 := blk_frozen BK622.out 1; have hfz31_2 := blk_frozen BK622.out 2))
      have n0_ : Aside0 ((((w27.setCell ⟨gb622, 0, none⟩ (.int .u64 t619)).setCell ⟨gb622, 1, none⟩ (.int .u64 t620)).setCell ⟨gb622, 2, none⟩ (.int .i64 t621)).heap[gb612]? = some (.cells #[.int .u64 a1_0, .int .u64 a1_1] 24 (0, 0))) := ⟨by (with_reducible repeat (first | refine blk_drewN ?_ _ | refine blk_drew ?_ | refine blk_alloc ?_ _)); refine blk_far ?_ NB612_622.out _; (with_reducible repeat (first | refine blk_drewN ?_ _ | refine blk_drew ?_ | refine blk_alloc ?_ _)); refine blk_far ?_ NB612_622.out _; (with_reducible repeat (first | refine blk_drewN ?_ _ | refine blk_drew ?_ | refine blk_alloc ?_ _)); refine blk_far ?_ NB612_622.out _; (with_reducible repeat (first | refine blk_drewN ?_ _ | refine blk_drew ?_ | refine blk_alloc ?_ _)); exact BK612.out⟩
      have n1_ : Aside0 ((((w27.setCell ⟨gb622, 0, none⟩ (.int .u64 t619)).setCell ⟨gb622, 1, none⟩ (.int .u64 t620)).setCell ⟨gb622, 2, none⟩ (.int .i64 t621)).heap[gb613]? = some (.cells #[.int .u64 a3_0, .int .u64 a3_1] 24 (0, 0))) := ⟨by (with_reducible repeat (first | refine blk_drewN ?_ _ | refine blk_drew ?_ | refine blk_alloc ?_ _)); refine blk_far ?_ NB613_622.out _; (with_reducible repeat (first | refine blk_drewN ?_ _ | refine blk_drew ?_ | refine blk_alloc ?_ _)); refine blk_far ?_ NB613_622.out _; (with_reducible repeat (first | refine blk_drewN ?_ _ | refine blk_drew ?_ | refine blk_alloc ?_ _)); refine blk_far ?_ NB613_622.out _; (with_reducible repeat (first | refine blk_drewN ?_ _ | refine blk_drew ?_ | refine blk_alloc ?_ _)); exact BK613.out⟩
      have n2_ : Aside0 ((((w27.setCell ⟨gb622, 0, none⟩ (.int .u64 t619)).setCell ⟨gb622, 1, none⟩ (.int .u64 t620)).setCell ⟨gb622, 2, none⟩ (.int .i64 t621)).heap[gb618]? = some (.cells #[.int .u64 t615, .int .u64 t616, .int .i64 t617] 28 (0, 0))) := ⟨by (with_reducible repeat (first | refine blk_drewN ?_ _ | refine blk_drew ?_ | refine blk_alloc ?_ _)); refine blk_far ?_ NB618_622.out _; (with_reducible repeat (first | refine blk_drewN ?_ _ | refine blk_drew ?_ | refine blk_alloc ?_ _)); refine blk_far ?_ NB618_622.out _; (with_reducible repeat (first | refine blk_drewN ?_ _ | refine blk_drew ?_ | refine blk_alloc ?_ _)); refine blk_far ?_ NB618_622.out _; (with_reducible repeat (first | refine blk_drewN ?_ _ | refine blk_drew ?_ | refine blk_alloc ?_ _)); exact BK618.out⟩
      have n3_ : Aside0 ((((w27.setCell ⟨gb622, 0, none⟩ (.int .u64 t619)).setCell ⟨gb622, 1, none⟩ (.int .u64 t620)).setCell ⟨gb622, 2, none⟩ (.int .i64 t621)).heap[gb622]? = some (.cells #[.int .u64 t619, .int .u64 t620, .int .i64 t621] 28 (0, 0))) := ⟨by (with_reducible repeat (first | refine blk_drewN ?_ _ | refine blk_drew ?_ | refine blk_alloc ?_ _)); refine blk_put (cs := #[.int .u64 t619, .int .u64 t620, .int .i64 0]) ?_ 2 _ rfl; (with_reducible repeat (first | refine blk_drewN ?_ _ | refine blk_drew ?_ | refine blk_alloc ?_ _)); refine blk_put (cs := #[.int .u64 t619, .int .u64 0, .int .i64 0]) ?_ 1 _ rfl; (with_reducible repeat (first | refine blk_drewN ?_ _ | refine blk_drew ?_ | refine blk_alloc ?_ _)); refine blk_put (cs := #[.int .u64 0, .int .u64 0, .int .i64 0]) ?_ 0 _ rfl; (with_reducible repeat (first | refine blk_drewN ?_ _ | refine blk_drew ?_ | refine blk_alloc ?_ _)); exact BK622.out⟩
      have n4_ : Aside0 (Below w.heap.size w (((w27.setCell ⟨gb622, 0, none⟩ (.int .u64 t619)).setCell ⟨gb622, 1, none⟩ (.int .u64 t620)).setCell ⟨gb622, 2, none⟩ (.int .i64 t621))) := ⟨xG⟩
      (try clear BK612)
      (try clear BK613)
      (try clear BK618)
      (try clear BK622)
      (try clear HB)
      generalize (((w27.setCell ⟨gb622, 0, none⟩ (.int .u64 t619)).setCell ⟨gb622, 1, none⟩ (.int .u64 t620)).setCell ⟨gb622, 2, none⟩ (.int .i64 t621)) = w32 at n0_ n1_ n2_ n3_ n4_ ⊢
      have BK612 := n0_
      have BK613 := n1_
      have BK618 := n2_
      have BK622 := n3_
      have HB := n4_
      clear n0_ n1_ n2_ n3_ n4_
      have n0_ := Aside0.mk (blk_drew BK612.out)
      have n1_ := Aside0.mk (blk_drew BK613.out)
      have n2_ := Aside0.mk (blk_drew BK618.out)
      have n3_ := Aside0.mk (blk_drew BK622.out)
      have n4_ := Aside0.mk (below_drew1 HB.out)
      clear BK612
      clear BK613
      clear BK618
      clear BK622
      clear HB
      have BK612 := n0_
      have BK613 := n1_
      have BK618 := n2_
      have BK622 := n3_
      have HB := n4_
      clear n0_ n1_ n2_ n3_ n4_
      refine start_ (n := 20) (S := fun w' => w'.cell? ⟨gb618, 0, none⟩ = some (.int .u64 t615) ∧ w'.cell? ⟨gb618, 1, none⟩ = some (.int .u64 t616) ∧ w'.cell? ⟨gb618, 2, none⟩ = some (.int .i64 t617) ∧ w'.cell? ⟨gb622, 0, none⟩ = some (.int .u64 t619) ∧ w'.cell? ⟨gb622, 1, none⟩ = some (.int .u64 t620) ∧ w'.cell? ⟨gb622, 2, none⟩ = some (.int .i64 t621)) (ds := []) #[false, false, false, false, false, false, false, false, false, false, false, false, false, false, false, false, false, false, false, false] (by kernel_rfl) rfl rfl ⟨(blk_cell BK618.out 0).trans rfl, (blk_cell BK618.out 1).trans rfl, (blk_cell BK618.out 2).trans rfl, (blk_cell BK622.out 0).trans rfl, (blk_cell BK622.out 1).trans rfl, (blk_cell BK622.out 2).trans rfl⟩ (fun hHeld => ?_); refine with_tabW turnpikelaw3_PrefixMeets.tab4 turnpikelaw3_PrefixMeets.bits4 (fun HT_ HW_ => ?_)
      generalize w32.drew = w33 at BK612 BK613 BK618 BK622 HB hHeld ⊢
      refine one_ (i := 0) (N := some 24) #[true, false, false, false, false, false, false, false, false, false, false, false, false, false, false, false, false, false, false, false] rfl rfl (one_of HT_.out (by kernel_rfl)) (by decide) (fun K hK => ?_)
      refine goes_ Tryd.func14 (by kernel_rfl) rfl #[] (by rfl) rfl rfl xM ?_
      with_reducible refine (turnpikelaw3_known.calls k  true _ ?side1 A9.out).mono ?_
      (case side1 => first | exact MLOk.below HML.out xG | (repeat (first | exact HML.out | (with_reducible refine MLOk.alloc ?_ _) | (with_reducible refine MLOk.drewN ?_ _) | (with_reducible refine MLOk.drew ?_))))
      rintro e w34 ⟨rfl, hb⟩
      refine ⟨_, rfl, ?_⟩
      have n0_ := Aside0.mk (blk_below (g := gb612) (o := .cells #[.int .u64 a1_0, .int .u64 a1_1] 24 (0, 0)) (xK BK612.out) hb)
      have n1_ := Aside0.mk (blk_below (g := gb613) (o := .cells #[.int .u64 a3_0, .int .u64 a3_1] 24 (0, 0)) (xK BK613.out) hb)
      have n2_ := Aside0.mk (blk_below (g := gb618) (o := .cells #[.int .u64 t615, .int .u64 t616, .int .i64 t617] 28 (0, 0)) (xK BK618.out) hb)
      have n3_ := Aside0.mk (blk_below (g := gb622) (o := .cells #[.int .u64 t619, .int .u64 t620, .int .i64 t621] 28 (0, 0)) (xK BK622.out) hb)
      have n4_ := Aside0.mk (below_step xG hb)
      clear BK612
      clear BK613
      clear BK618
      clear BK622
      clear HB
      have BK612 := n0_
      have BK613 := n1_
      have BK618 := n2_
      have BK622 := n3_
      have HB := n4_
      clear n0_ n1_ n2_ n3_ n4_
      (try clear hb)
      (try clear hb2)
      (try clear hk)
      (try clear hi)
      refine hK.out _ _ ⟨(blk_cell BK618.out 0).trans rfl, (blk_cell BK618.out 1).trans rfl, (blk_cell BK618.out 2).trans rfl, (blk_cell BK622.out 0).trans rfl, (blk_cell BK622.out 1).trans rfl, (blk_cell BK622.out 2).trans rfl⟩ (fun hHeld => ?_)
      clear hK K
      refine norm_ (a' := ?_) ?_ ?_
      rotate_left
      · show Act.put _ (some 24) _ = _
        simp only [Act.put, List.setIfInBounds_toArray, List.set_cons_zero, List.set_cons_succ, i64_w, i32_w]
        rfl
      refine pure_ (i := 1) (N := some 25) (v := ?_) (a' := ?_) #[true, true, false, false, false, false, false, false, false, false, false, false, false, false, false, false, false, false, false, false] rfl rfl (any_of HT_.out (by kernel_rfl)) (fun _ _ _ h => h) (Or.inl ⟨by rfl, ?_⟩) ?_ ?_
      rotate_left
      · intro w'
        go_simp
        with_reducible rfl
      rotate_left
      · simp only [Act.put, List.setIfInBounds_toArray, List.set_cons_zero, List.set_cons_succ, i64_w, i32_w]
        rfl
      refine take_ (i := 2) (N := some 26) (v := ?_) (a' := ?_) #[true, true, true, false, false, false, false, false, false, false, false, false, false, false, false, false, false, false, false, false] rfl rfl (take_ofW HT_.out HW_.out (by kernel_rfl)) (fun _ _ _ h => h) (Or.inl ⟨by rfl, ?_⟩) hHeld ?_ ?_
      rotate_left
      · rintro w' ⟨s0, s1, s2, s3, s4, s5⟩
        go_simp
        with_reducible rfl
      rotate_left
      · simp only [Act.put, List.setIfInBounds_toArray, List.set_cons_zero, List.set_cons_succ, i64_w, i32_w]
        rfl
      refine take_ (i := 3) (N := some 27) (v := ?_) (a' := ?_) #[true, true, true, true, false, false, false, false, false, false, false, false, false, false, false, false, false, false, false, false] rfl rfl (take_ofW HT_.out HW_.out (by kernel_rfl)) (fun _ _ _ h => h) (Or.inl ⟨by rfl, ?_⟩) hHeld ?_ ?_
      rotate_left
      · rintro w' ⟨s0, s1, s2, s3, s4, s5⟩
        go_simp
        with_reducible rfl
      rotate_left
      · simp only [Act.put, List.setIfInBounds_toArray, List.set_cons_zero, List.set_cons_succ, i64_w, i32_w]
        rfl
      refine take_ (i := 5) (N := some 29) (v := ?_) (a' := ?_) #[true, true, true, true, false, true, false, false, false, false, false, false, false, false, false, false, false, false, false, false] rfl rfl (take_ofW HT_.out HW_.out (by kernel_rfl)) (fun _ _ _ h => h) (Or.inl ⟨by rfl, ?_⟩) hHeld ?_ ?_
      rotate_left
      · rintro w' ⟨s0, s1, s2, s3, s4, s5⟩
        go_simp
        with_reducible rfl
      rotate_left
      · simp only [Act.put, List.setIfInBounds_toArray, List.set_cons_zero, List.set_cons_succ, i64_w, i32_w]
        rfl
      refine take_ (i := 6) (N := some 30) (v := ?_) (a' := ?_) #[true, true, true, true, false, true, true, false, false, false, false, false, false, false, false, false, false, false, false, false] rfl rfl (take_ofW HT_.out HW_.out (by kernel_rfl)) (fun _ _ _ h => h) (Or.inl ⟨by rfl, ?_⟩) hHeld ?_ ?_
      rotate_left
      · rintro w' ⟨s0, s1, s2, s3, s4, s5⟩
        go_simp
        with_reducible rfl
      rotate_left
      · simp only [Act.put, List.setIfInBounds_toArray, List.set_cons_zero, List.set_cons_succ, i64_w, i32_w]
        rfl
      refine one_ (i := 4) (N := some 28) #[true, true, true, true, true, true, true, false, false, false, false, false, false, false, false, false, false, false, false, false] rfl rfl (one_of HT_.out (by kernel_rfl)) (by decide) (fun K hK => ?_)
      refine goes_ Tryd.func41 (by kernel_rfl) rfl #[.agg #[.int .u64 t615, .int .u64 t616, .int .i64 t617], .agg #[.int .u64 t619, .int .u64 t620, .int .i64 t621]] (by rfl) rfl rfl xM ?_
      with_reducible refine (prefix_Meet.calls t615 t616 t617 t619 t620 t621 t624 t625 t626 _ A11.out).mono ?_
      rintro e w35 ⟨rfl, hb⟩
      refine ⟨_, rfl, ?_⟩
      have n0_ := Aside0.mk (blk_below (g := gb612) (o := .cells #[.int .u64 a1_0, .int .u64 a1_1] 24 (0, 0)) (xK BK612.out) hb)
      have n1_ := Aside0.mk (blk_below (g := gb613) (o := .cells #[.int .u64 a3_0, .int .u64 a3_1] 24 (0, 0)) (xK BK613.out) hb)
      have n2_ := Aside0.mk (blk_below (g := gb618) (o := .cells #[.int .u64 t615, .int .u64 t616, .int .i64 t617] 28 (0, 0)) (xK BK618.out) hb)
      have n3_ := Aside0.mk (blk_below (g := gb622) (o := .cells #[.int .u64 t619, .int .u64 t620, .int .i64 t621] 28 (0, 0)) (xK BK622.out) hb)
      have n4_ := Aside0.mk (below_step xG hb)
      clear BK612
      clear BK613
      clear BK618
      clear BK622
      clear HB
      have BK612 := n0_
      have BK613 := n1_
      have BK618 := n2_
      have BK622 := n3_
      have HB := n4_
      clear n0_ n1_ n2_ n3_ n4_
      (try clear hb)
      (try clear hb2)
      (try clear hk)
      (try clear hi)
      refine hK.out _ _ ⟨(blk_cell BK618.out 0).trans rfl, (blk_cell BK618.out 1).trans rfl, (blk_cell BK618.out 2).trans rfl, (blk_cell BK622.out 0).trans rfl, (blk_cell BK622.out 1).trans rfl, (blk_cell BK622.out 2).trans rfl⟩ (fun hHeld => ?_)
      clear hK K
      refine norm_ (a' := ?_) ?_ ?_
      rotate_left
      · show Act.put _ (some 28) _ = _
        simp only [Act.put, List.setIfInBounds_toArray, List.set_cons_zero, List.set_cons_succ, i64_w, i32_w]
        rfl
      refine one_ (i := 7) (N := some 31) #[true, true, true, true, true, true, true, true, false, false, false, false, false, false, false, false, false, false, false, false] rfl rfl (one_of HT_.out (by kernel_rfl)) (by decide) (fun K hK => ?_)
      refine goes_ Tryd.func42 (by kernel_rfl) rfl #[.agg #[.int .u64 t615, .int .u64 t616, .int .i64 t617], .agg #[.int .u64 t619, .int .u64 t620, .int .i64 t621]] (by rfl) rfl rfl xM ?_
      with_reducible refine (turnpikeref3_Meet.calls k t615 t616 t617 t619 t620 t621 t627 t628 t629 _ A12.out).mono ?_
      rintro e w36 ⟨rfl, hb⟩
      refine ⟨_, rfl, ?_⟩
      have n0_ := Aside0.mk (blk_below (g := gb612) (o := .cells #[.int .u64 a1_0, .int .u64 a1_1] 24 (0, 0)) (xK BK612.out) hb)
      have n1_ := Aside0.mk (blk_below (g := gb613) (o := .cells #[.int .u64 a3_0, .int .u64 a3_1] 24 (0, 0)) (xK BK613.out) hb)
      have n2_ := Aside0.mk (blk_below (g := gb618) (o := .cells #[.int .u64 t615, .int .u64 t616, .int .i64 t617] 28 (0, 0)) (xK BK618.out) hb)
      have n3_ := Aside0.mk (blk_below (g := gb622) (o := .cells #[.int .u64 t619, .int .u64 t620, .int .i64 t621] 28 (0, 0)) (xK BK622.out) hb)
      have n4_ := Aside0.mk (below_step xG hb)
      clear BK612
      clear BK613
      clear BK618
      clear BK622
      clear HB
      have BK612 := n0_
      have BK613 := n1_
      have BK618 := n2_
      have BK622 := n3_
      have HB := n4_
      clear n0_ n1_ n2_ n3_ n4_
      (try clear hb)
      (try clear hb2)
      (try clear hk)
      (try clear hi)
      refine hK.out _ _ ⟨(blk_cell BK618.out 0).trans rfl, (blk_cell BK618.out 1).trans rfl, (blk_cell BK618.out 2).trans rfl, (blk_cell BK622.out 0).trans rfl, (blk_cell BK622.out 1).trans rfl, (blk_cell BK622.out 2).trans rfl⟩ (fun hHeld => ?_)
      clear hK K
      refine norm_ (a' := ?_) ?_ ?_
      rotate_left
      · show Act.put _ (some 31) _ = _
        simp only [Act.put, List.setIfInBounds_toArray, List.set_cons_zero, List.set_cons_succ, i64_w, i32_w]
        rfl
      refine pure_ (i := 8) (N := some 32) (v := ?_) (a' := ?_) #[true, true, true, true, true, true, true, true, true, false, false, false, false, false, false, false, false, false, false, false] rfl rfl (any_of HT_.out (by kernel_rfl)) (fun _ _ _ h => h) (Or.inl ⟨by rfl, ?_⟩) ?_ ?_
      rotate_left
      · intro w'
        go_simp
        with_reducible rfl
      rotate_left
      · simp only [Act.put, List.setIfInBounds_toArray, List.set_cons_zero, List.set_cons_succ, i64_w, i32_w]
        rfl
      refine pure_ (i := 9) (N := some 33) (v := ?_) (a' := ?_) #[true, true, true, true, true, true, true, true, true, true, false, false, false, false, false, false, false, false, false, false] rfl rfl (any_of HT_.out (by kernel_rfl)) (fun _ _ _ h => h) (Or.inl ⟨by rfl, ?_⟩) ?_ ?_
      rotate_left
      · intro w'
        go_simp
        with_reducible rfl
      rotate_left
      · simp only [Act.put, List.setIfInBounds_toArray, List.set_cons_zero, List.set_cons_succ, i64_w, i32_w]
        rfl
      refine pure_ (i := 10) (N := some 34) (v := ?_) (a' := ?_) #[true, true, true, true, true, true, true, true, true, true, true, false, false, false, false, false, false, false, false, false] rfl rfl (any_of HT_.out (by kernel_rfl)) (fun _ _ _ h => h) (Or.inl ⟨by rfl, ?_⟩) ?_ ?_
      rotate_left
      · intro w'
        go_simp
        with_reducible rfl
      rotate_left
      · simp only [Act.put, List.setIfInBounds_toArray, List.set_cons_zero, List.set_cons_succ, i64_w, i32_w]
        rfl
      refine take_ (i := 11) (N := some 35) (v := ?_) (a' := ?_) #[true, true, true, true, true, true, true, true, true, true, true, true, false, false, false, false, false, false, false, false] rfl rfl (take_ofW HT_.out HW_.out (by kernel_rfl)) (fun _ _ _ h => h) (Or.inl ⟨by rfl, ?_⟩) hHeld ?_ ?_
      rotate_left
      · rintro w' ⟨s0, s1, s2, s3, s4, s5⟩
        go_simp
        with_reducible rfl
      rotate_left
      · simp only [Act.put, List.setIfInBounds_toArray, List.set_cons_zero, List.set_cons_succ, i64_w, i32_w]
        rfl
      refine take_ (i := 12) (N := some 36) (v := ?_) (a' := ?_) #[true, true, true, true, true, true, true, true, true, true, true, true, true, false, false, false, false, false, false, false] rfl rfl (take_ofW HT_.out HW_.out (by kernel_rfl)) (fun _ _ _ h => h) (Or.inl ⟨by rfl, ?_⟩) hHeld ?_ ?_
      rotate_left
      · rintro w' ⟨s0, s1, s2, s3, s4, s5⟩
        go_simp
        with_reducible rfl
      rotate_left
      · simp only [Act.put, List.setIfInBounds_toArray, List.set_cons_zero, List.set_cons_succ, i64_w, i32_w]
        rfl
      refine take_ (i := 14) (N := some 38) (v := ?_) (a' := ?_) #[true, true, true, true, true, true, true, true, true, true, true, true, true, false, true, false, false, false, false, false] rfl rfl (take_ofW HT_.out HW_.out (by kernel_rfl)) (fun _ _ _ h => h) (Or.inl ⟨by rfl, ?_⟩) hHeld ?_ ?_
      rotate_left
      · rintro w' ⟨s0, s1, s2, s3, s4, s5⟩
        go_simp
        with_reducible rfl
      rotate_left
      · simp only [Act.put, List.setIfInBounds_toArray, List.set_cons_zero, List.set_cons_succ, i64_w, i32_w]
        rfl
      refine take_ (i := 15) (N := some 39) (v := ?_) (a' := ?_) #[true, true, true, true, true, true, true, true, true, true, true, true, true, false, true, true, false, false, false, false] rfl rfl (take_ofW HT_.out HW_.out (by kernel_rfl)) (fun _ _ _ h => h) (Or.inl ⟨by rfl, ?_⟩) hHeld ?_ ?_
      rotate_left
      · rintro w' ⟨s0, s1, s2, s3, s4, s5⟩
        go_simp
        with_reducible rfl
      rotate_left
      · simp only [Act.put, List.setIfInBounds_toArray, List.set_cons_zero, List.set_cons_succ, i64_w, i32_w]
        rfl
      refine one_ (i := 13) (N := some 37) #[true, true, true, true, true, true, true, true, true, true, true, true, true, true, true, true, false, false, false, false] rfl rfl (one_of HT_.out (by kernel_rfl)) (by decide) (fun K hK => ?_)
      refine goes_ Tryd.func34 (by kernel_rfl) rfl #[.agg #[.int .u64 t615, .int .u64 t616, .int .i64 t617], .agg #[.int .u64 t619, .int .u64 t620, .int .i64 t621]] (by rfl) rfl rfl xM ?_
      with_reducible refine (prefix_Cmp.calls t615 t616 t617 t619 t620 t621 t630 _ A14.out).mono ?_
      rintro e w37 ⟨rfl, hb⟩
      refine ⟨_, rfl, ?_⟩
      have n0_ := Aside0.mk (blk_below (g := gb612) (o := .cells #[.int .u64 a1_0, .int .u64 a1_1] 24 (0, 0)) (xK BK612.out) hb)
      have n1_ := Aside0.mk (blk_below (g := gb613) (o := .cells #[.int .u64 a3_0, .int .u64 a3_1] 24 (0, 0)) (xK BK613.out) hb)
      have n2_ := Aside0.mk (blk_below (g := gb618) (o := .cells #[.int .u64 t615, .int .u64 t616, .int .i64 t617] 28 (0, 0)) (xK BK618.out) hb)
      have n3_ := Aside0.mk (blk_below (g := gb622) (o := .cells #[.int .u64 t619, .int .u64 t620, .int .i64 t621] 28 (0, 0)) (xK BK622.out) hb)
      have n4_ := Aside0.mk (below_step xG hb)
      clear BK612
      clear BK613
      clear BK618
      clear BK622
      clear HB
      have BK612 := n0_
      have BK613 := n1_
      have BK618 := n2_
      have BK622 := n3_
      have HB := n4_
      clear n0_ n1_ n2_ n3_ n4_
      (try clear hb)
      (try clear hb2)
      (try clear hk)
      (try clear hi)
      refine hK.out _ _ ⟨(blk_cell BK618.out 0).trans rfl, (blk_cell BK618.out 1).trans rfl, (blk_cell BK618.out 2).trans rfl, (blk_cell BK622.out 0).trans rfl, (blk_cell BK622.out 1).trans rfl, (blk_cell BK622.out 2).trans rfl⟩ (fun hHeld => ?_)
      clear hK K
      refine norm_ (a' := ?_) ?_ ?_
      rotate_left
      · show Act.put _ (some 37) _ = _
        simp only [Act.put, List.setIfInBounds_toArray, List.set_cons_zero, List.set_cons_succ, i64_w, i32_w]
        rfl
      refine one_ (i := 16) (N := some 40) #[true, true, true, true, true, true, true, true, true, true, true, true, true, true, true, true, true, false, false, false] rfl rfl (one_of HT_.out (by kernel_rfl)) (by decide) (fun K hK => ?_)
      refine goes_ Tryd.func43 (by kernel_rfl) rfl #[.agg #[.int .u64 t615, .int .u64 t616, .int .i64 t617], .agg #[.int .u64 t619, .int .u64 t620, .int .i64 t621]] (by rfl) rfl rfl xM ?_
      with_reducible refine (turnpikeref3_Cmp.calls k t615 t616 t617 t619 t620 t621 t631 _ A15.out).mono ?_
      rintro e w38 ⟨rfl, hb⟩
      refine ⟨_, rfl, ?_⟩
      have n0_ := Aside0.mk (blk_below (g := gb612) (o := .cells #[.int .u64 a1_0, .int .u64 a1_1] 24 (0, 0)) (xK BK612.out) hb)
      have n1_ := Aside0.mk (blk_below (g := gb613) (o := .cells #[.int .u64 a3_0, .int .u64 a3_1] 24 (0, 0)) (xK BK613.out) hb)
      have n2_ := Aside0.mk (blk_below (g := gb618) (o := .cells #[.int .u64 t615, .int .u64 t616, .int .i64 t617] 28 (0, 0)) (xK BK618.out) hb)
      have n3_ := Aside0.mk (blk_below (g := gb622) (o := .cells #[.int .u64 t619, .int .u64 t620, .int .i64 t621] 28 (0, 0)) (xK BK622.out) hb)
      have n4_ := Aside0.mk (below_step xG hb)
      clear BK612
      clear BK613
      clear BK618
      clear BK622
      clear HB
      have BK612 := n0_
      have BK613 := n1_
      have BK618 := n2_
      have BK622 := n3_
      have HB := n4_
      clear n0_ n1_ n2_ n3_ n4_
      (try clear hb)
      (try clear hb2)
      (try clear hk)
      (try clear hi)
      refine hK.out _ _ ⟨(blk_cell BK618.out 0).trans rfl, (blk_cell BK618.out 1).trans rfl, (blk_cell BK618.out 2).trans rfl, (blk_cell BK622.out 0).trans rfl, (blk_cell BK622.out 1).trans rfl, (blk_cell BK622.out 2).trans rfl⟩ (fun hHeld => ?_)
      clear hK K
      refine norm_ (a' := ?_) ?_ ?_
      rotate_left
      · show Act.put _ (some 40) _ = _
        simp only [Act.put, List.setIfInBounds_toArray, List.set_cons_zero, List.set_cons_succ, i64_w, i32_w]
        rfl
      refine pure_ (i := 17) (N := some 41) (v := ?_) (a' := ?_) #[true, true, true, true, true, true, true, true, true, true, true, true, true, true, true, true, true, true, false, false] rfl rfl (any_of HT_.out (by kernel_rfl)) (fun _ _ _ h => h) (Or.inl ⟨by rfl, ?_⟩) ?_ ?_
      rotate_left
      · intro w'
        go_simp
        with_reducible rfl
      rotate_left
      · simp only [Act.put, List.setIfInBounds_toArray, List.set_cons_zero, List.set_cons_succ, i64_w, i32_w]
        rfl
      refine pure_ (i := 18) (N := some 42) (v := ?_) (a' := ?_) #[true, true, true, true, true, true, true, true, true, true, true, true, true, true, true, true, true, true, true, false] rfl rfl (any_of HT_.out (by kernel_rfl)) (fun _ _ _ h => h) (Or.inl ⟨by rfl, ?_⟩) ?_ ?_
      rotate_left
      · intro w'
        go_simp
        with_reducible rfl
      rotate_left
      · simp only [Act.put, List.setIfInBounds_toArray, List.set_cons_zero, List.set_cons_succ, i64_w, i32_w]
        rfl
      refine pure_ (i := 19) (N := some 10) (v := ?_) (a' := ?_) #[true, true, true, true, true, true, true, true, true, true, true, true, true, true, true, true, true, true, true, true] rfl rfl (any_of HT_.out (by kernel_rfl)) (fun _ _ _ h => h) (Or.inl ⟨by rfl, ?_⟩) ?_ ?_
      rotate_left
      · intro w'
        go_simp
        with_reducible rfl
      rotate_left
      · simp only [Act.put, List.setIfInBounds_toArray, List.set_cons_zero, List.set_cons_succ, i64_w, i32_w]
        rfl
      refine done_ (done_of HT_.out (by kernel_rfl)) ?_
      try go_wp2
      go_ret
      exact ⟨xE, xG⟩
    · rw [if_neg c13] at H
      have c13b0 : ((t624 == t627 && (t625 == t628)) && (t626 == t629)) = false := by simpa using c13
      clear c13
      obtain rfl := Option.some.inj H
      exact absurd hr_.out (by decide)
  · replace c10 := Bool.eq_false_iff.mpr c10
    subst c10
    have H1 : (some false) = some r := by rw [if_neg (show ¬ (false = true) by decide)] at H; exact H
    clear H
    have H := H1
    clear H1
    obtain rfl := Option.some.inj H
    exact absurd hr_.out (by decide)
def turnpikelaw3_PrefixMeets.Pure : Prop := ∀ (a0 : Bool) (a1_0 : Int) (a1_1 : Int) (a2 : Int) (a3_0 : Int) (a3_1 : Int) (a4 : Int), (Lit.int .u64 a1_0).wf = true → (Lit.int .u64 a1_1).wf = true → (Lit.int .i64 a2).wf = true → (Lit.int .u64 a3_0).wf = true → (Lit.int .u64 a3_1).wf = true → (Lit.int .i64 a4).wf = true → ∃ k, turnpikelaw3_PrefixMeets.f k a0 a1_0 a1_1 a2 a3_0 a3_1 a4 = some true
theorem turnpikelaw3_PrefixMeets.walk (P : turnpikelaw3_PrefixMeets.Pure) (a0 : Bool) (a1_0 : Int) (a1_1 : Int) (a2 : Int) (a3_0 : Int) (a3_1 : Int) (a4 : Int) (w : World) (hML : MLOk w) (wa1_0 : (Lit.int .u64 a1_0).wf = true) (wa1_1 : (Lit.int .u64 a1_1).wf = true) (wa2 : (Lit.int .i64 a2).wf = true) (wa3_0 : (Lit.int .u64 a3_0).wf = true) (wa3_1 : (Lit.int .u64 a3_1).wf = true) (wa4 : (Lit.int .i64 a4).wf = true) :
    Calls Tryd.prog 9 #[.bool a0, .agg #[.int .u64 a1_0, .int .u64 a1_1], .int .i64 a2, .agg #[.int .u64 a3_0, .int .u64 a3_1], .int .i64 a4] w fun e w' => e = .returned (.bool true) ∧ Below w.heap.size w w' := by
  obtain ⟨k, h⟩ := P a0 a1_0 a1_1 a2 a3_0 a3_1 a4 wa1_0 wa1_1 wa2 wa3_0 wa3_1 wa4
  refine (turnpikelaw3_PrefixMeets.calls k a0 a1_0 a1_1 a2 a3_0 a3_1 a4 true w hML ⟨rfl⟩ h).mono ?_
  rintro e w' ⟨rfl, hd⟩
  exact ⟨rfl, hd⟩
end Go.Proofs.YtdjhmapmhajkcaaDoor.X
