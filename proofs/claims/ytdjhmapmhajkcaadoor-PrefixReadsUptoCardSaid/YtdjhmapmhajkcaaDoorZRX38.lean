-- Printed by a program of this session (xprint.py, over the kit's printer)
import Derived.Test.YtdjhmapmhajkcaaDoorZRX0
import Derived.Test.YtdjhmapmhajkcaaDoorZRX2
import Derived.Test.YtdjhmapmhajkcaaDoorZRX4
import Derived.Test.YtdjhmapmhajkcaaDoorZRX6
import Derived.Test.YtdjhmapmhajkcaaDoorZRX35
import Derived.Test.YtdjhmapmhajkcaaDoorZRX37
import Derived.Test.YtdjhmapmhajkcaaDoorZRSh
namespace Go.Proofs.YtdjhmapmhajkcaaDoor.X
open Go.RowKit Go.Proofs.YtdjhmapmhajkcaaDoorW.PrintWords Go.Proofs.YtdjhmapmhajkcaaDoorW.PrintLast Go.Proofs.YtdjhmapmhajkcaaDoor.Sm Go.Proofs.YtdjhmapmhajkcaaDoor.Sh
set_option linter.unusedVariables false
set_option linter.unusedSimpArgs false
attribute [local go_sem high] eqA28
def turnpikelaw3_PrefixReads.f (k : Nat) (a0 : Int) (a1 : ByteArray) (a2_0 : Int) (a2_1 : Int) (a2_2 : Int) : Option (Bool) := (prefix_Parse.f k a0 a1).bind fun bt787 => ((turnpikeref3_Parse.f k a0 a1).bind fun bt792 => ((prefix_Text.f k a0 a2_0 a2_1 a2_2).bind fun bt797 => ((turnpikeref3_Text.f k a0 a2_0 a2_1 a2_2).bind fun bt799 => ((turnpikelaw3_known.f k).bind fun t801 => (if t801 = true then (if ((bt787.1 == bt792.1 && (bt787.2.1 == bt792.2.1)) && (bt787.2.2.1 == bt792.2.2.1)) = true then (if bt787.2.2.2 = bt792.2.2.2 then (if bt797.1.toList = bt799.1.toList then (some (bt797.2 == bt799.2)) else (some false)) else (some false)) else (some false)) else (some false))))))
theorem turnpikelaw3_PrefixReads.mono : ∀ a0 a1 a2 a3 a4 k, LeO (turnpikelaw3_PrefixReads.f k a0 a1 a2 a3 a4) (turnpikelaw3_PrefixReads.f (k + 1) a0 a1 a2 a3 a4) := by
 intro a0 a1 a2 a3 a4 k
 unfold turnpikelaw3_PrefixReads.f
 have m0 := @prefix_Parse.mono
 have m1 := @prefix_Text.mono
 have m2 := @turnpikelaw3_known.mono
 have m3 := @turnpikeref3_Parse.mono
 have m4 := @turnpikeref3_Text.mono
 exact xO
set_option maxHeartbeats 8000000 in
set_option maxRecDepth 100000 in
theorem turnpikelaw3_PrefixReads.calls (k : Nat) (a0 : Int) (a1 : ByteArray) (a2_0 : Int) (a2_1 : Int) (a2_2 : Int) (r : Bool) (w : World) (hML : MLOk w) (hr_ : Aside0 (r = true)) (h : turnpikelaw3_PrefixReads.f k a0 a1 a2_0 a2_1 a2_2 = some r) :
  Calls Tryd.prog 12 #[.int .i64 a0, .string a1, .agg #[.int .u64 a2_0, .int .u64 a2_1, .int .i64 a2_2]] w fun e w' => e = .returned (.bool r) ∧ Below w.heap.size w w' := by
 have hu28 := Tryd.underlying28
 have HML := Aside0.mk hML
 clear hML
 have HB := Aside0.mk (Below.refl w.heap.size w)
 have H : ((prefix_Parse.f k a0 a1).bind fun bt787 => ((turnpikeref3_Parse.f k a0 a1).bind fun bt792 => ((prefix_Text.f k a0 a2_0 a2_1 a2_2).bind fun bt797 => ((turnpikeref3_Text.f k a0 a2_0 a2_1 a2_2).bind fun bt799 => ((turnpikelaw3_known.f k).bind fun t801 => (if t801 = true then (if ((bt787.1 == bt792.1 && (bt787.2.1 == bt792.2.1)) && (bt787.2.2.1 == bt792.2.2.1)) = true then (if bt787.2.2.2 = bt792.2.2.2 then (if bt797.1.toList = bt799.1.toList then (some (bt797.2 == bt799.2)) else (some false)) else (some false)) else (some false)) else (some false))))))) = some r := h
 clear h
 replace H := Option.bind_eq_some_iff.mp H
 obtain ⟨⟨t787, t788, t789, t790⟩, A40, H⟩ := H
 replace H : ((turnpikeref3_Parse.f k a0 a1).bind fun bt792 => ((prefix_Text.f k a0 a2_0 a2_1 a2_2).bind fun bt797 => ((turnpikeref3_Text.f k a0 a2_0 a2_1 a2_2).bind fun bt799 => ((turnpikelaw3_known.f k).bind fun t801 => (if t801 = true then (if ((t787 == bt792.1 && (t788 == bt792.2.1)) && (t789 == bt792.2.2.1)) = true then (if t790 = bt792.2.2.2 then (if bt797.1.toList = bt799.1.toList then (some (bt797.2 == bt799.2)) else (some false)) else (some false)) else (some false)) else (some false)))))) = some r := H
 have A4 := Aside0.mk A40
 clear A40
 replace H := Option.bind_eq_some_iff.mp H
 obtain ⟨⟨t792, t793, t794, t795⟩, A50, H⟩ := H
 replace H : ((prefix_Text.f k a0 a2_0 a2_1 a2_2).bind fun bt797 => ((turnpikeref3_Text.f k a0 a2_0 a2_1 a2_2).bind fun bt799 => ((turnpikelaw3_known.f k).bind fun t801 => (if t801 = true then (if ((t787 == t792 && (t788 == t793)) && (t789 == t794)) = true then (if t790 = t795 then (if bt797.1.toList = bt799.1.toList then (some (bt797.2 == bt799.2)) else (some false)) else (some false)) else (some false)) else (some false))))) = some r := H
 have A5 := Aside0.mk A50
 clear A50
 replace H := Option.bind_eq_some_iff.mp H
 obtain ⟨⟨t797, t798⟩, A60, H⟩ := H
 replace H : ((turnpikeref3_Text.f k a0 a2_0 a2_1 a2_2).bind fun bt799 => ((turnpikelaw3_known.f k).bind fun t801 => (if t801 = true then (if ((t787 == t792 && (t788 == t793)) && (t789 == t794)) = true then (if t790 = t795 then (if t797.toList = bt799.1.toList then (some (t798 == bt799.2)) else (some false)) else (some false)) else (some false)) else (some false)))) = some r := H
 have A6 := Aside0.mk A60
 clear A60
 replace H := Option.bind_eq_some_iff.mp H
 obtain ⟨⟨t799, t800⟩, A70, H⟩ := H
 replace H : ((turnpikelaw3_known.f k).bind fun t801 => (if t801 = true then (if ((t787 == t792 && (t788 == t793)) && (t789 == t794)) = true then (if t790 = t795 then (if t797.toList = t799.toList then (some (t798 == t800)) else (some false)) else (some false)) else (some false)) else (some false))) = some r := H
 have A7 := Aside0.mk A70
 clear A70
 replace H := Option.bind_eq_some_iff.mp H
 obtain ⟨t801, A80, H⟩ := H
 replace H : (if t801 = true then (if ((t787 == t792 && (t788 == t793)) && (t789 == t794)) = true then (if t790 = t795 then (if t797.toList = t799.toList then (some (t798 == t800)) else (some false)) else (some false)) else (some false)) else (some false)) = some r := H
 have A8 := Aside0.mk A80
 clear A80
 by_cases c9 : t801 = true
 ·subst c9
  have H1 : (if ((t787 == t792 && (t788 == t793)) && (t789 == t794)) = true then (if t790 = t795 then (if t797.toList = t799.toList then (some (t798 == t800)) else (some false)) else (some false)) else (some false)) = some r := by rw [if_pos rfl] at H; exact H
  clear H
  have H := H1
  clear H1
  by_cases c10 : ((t787 == t792 && (t788 == t793)) && (t789 == t794)) = true
  ·rw [if_pos c10] at H
   have c10b0 : ((t787 == t792 && (t788 == t793)) && (t789 == t794)) = true := c10
   clear c10
   by_cases c11 : t790 = t795
   ·rw [if_pos c11] at H
    have c11b0 : (t790 == t795) = true := beq_iff_eq.mpr c11
    have c11b1 : (t790 != t795) = false := bne_eq_false_iff_eq.mpr c11
    clear c11
    by_cases c12 : t797.toList = t799.toList
    ·rw [if_pos c12] at H
     have c12b0 : (t797.toList == t799.toList) = true := beq_iff_eq.mpr c12
     have c12b1 : (t797.toList != t799.toList) = false := bne_eq_false_iff_eq.mpr c12
     clear c12
     obtain rfl := Option.some.inj H
     go_enter Tryd.func12, Tryd.ntmps12
     go_wp2_with (first | ((with_reducible refine gate_dst (N := 5) rfl ?_); refine box_event ?hg (N := 5) ?hd (cs := #[.int .u64 a2_0, .int .u64 a2_1, .int .i64 a2_2]) (t := 28) ?hr ?_; (case hd => rfl); (case hg => rfl); (case hr => first | (go_simp; done) | (go_simp; rfl)); intro gb786 hg w13 hbox hb; have n0_ := Aside0.mk (below_step xB hb); have n1_ := Aside0.mk (hbox); have n2_ := xS w hg; have n3_ := xS w hg; clear HB; have HB := n0_; have BK786 := n1_; have GW786 := n2_; have GE786 := n3_; clear n0_ n1_ n2_ n3_; clear hb hbox hg) | ((with_reducible refine gate_callee (f := 24) rfl ?_); refine goesL_ (some 18) rfl rfl Tryd.func24 (by kernel_rfl) rfl #[.int .i64 a0, .string a1] rfl xM ?_; (with_reducible refine (prefix_Parse.calls k a0 a1 t787 t788 t789 t790 _ ?side1 A4.out).mono ?_); (case side1 => first | exact MLOk.below HML.out xG | (repeat (first | exact HML.out | (with_reducible refine MLOk.alloc ?_ _) | (with_reducible refine MLOk.drewN ?_ _) | (with_reducible refine MLOk.drew ?_)))); rintro e w14 ⟨rfl, hb⟩; refine ⟨_, rfl, ?_⟩; have n0_ := xP BK786.out hb; have n1_ := Aside0.mk (below_step xG hb); clear BK786; clear HB; have BK786 := n0_; have HB := n1_; clear n0_ n1_; (try clear hb); (try clear hb2); (try clear hk); (try clear hi)) | ((with_reducible refine gate_dst (N := 7) rfl ?_); refine box_event ?hg (N := 7) ?hd (cs := #[.int .u64 0, .int .u64 0, .int .i64 0]) (t := 28) ?hr ?_; (case hd => rfl); (case hg => rfl); (case hr => first | (go_simp; done) | (go_simp; rfl)); intro gb791 hg w15 hbox hb; have n0_ := xP BK786.out hb; have n1_ := Aside0.mk (below_step xG hb); have n2_ := Aside0.mk (hbox); have n3_ := xT w hg; have n4_ := xT w hg; have n5_ := Aside0.mk ((xNl BK786.out hg : gb786 ≠ gb791)); have n6_ := Aside0.mk ((xNr BK786.out hg : gb791 ≠ gb786)); clear BK786; clear HB; have BK786 := n0_; have HB := n1_; have BK791 := n2_; have GW791 := n3_; have GE791 := n4_; have NB786_791 := n5_; have NB791_786 := n6_; clear n0_ n1_ n2_ n3_ n4_ n5_ n6_; clear hb hbox hg; have hnb16 := NB791_786.out; have hnc16 := NB786_791.out; have hcz17_0 : w15.cell? ⟨gb791, 0, none⟩ = some (.int .u64 0) := (blk_cell BK791.out 0).trans rfl; have hcz17_1 : w15.cell? ⟨gb791, 1, none⟩ = some (.int .u64 0) := (blk_cell BK791.out 1).trans rfl; have hcz17_2 : w15.cell? ⟨gb791, 2, none⟩ = some (.int .i64 0) := (blk_cell BK791.out 2).trans rfl; have hfz17_0 := blk_frozen BK791.out 0; have hfz17_1 := blk_frozen BK791.out 1; have hfz17_2 := blk_frozen BK791.out 2) | ((with_reducible refine gate_callee (f := 46) rfl ?_); refine goesL_ (some 24) rfl rfl Tryd.func46 (by kernel_rfl) rfl #[.int .i64 a0, .string a1] rfl xM ?_; (with_reducible refine (turnpikeref3_Parse.calls k a0 a1 t792 t793 t794 t795 _ A5.out).mono ?_); rintro e w18 ⟨rfl, hb⟩; refine ⟨_, rfl, ?_⟩; have n0_ := Aside0.mk (blk_below (g := gb786) (o := .cells #[.int .u64 a2_0, .int .u64 a2_1, .int .i64 a2_2] 28 (0, 0)) (by (with_reducible repeat (first | refine blk_drewN ?_ _ | refine blk_drew ?_ | refine blk_alloc ?_ _)); refine blk_far ?_ NB786_791.out _; (with_reducible repeat (first | refine blk_drewN ?_ _ | refine blk_drew ?_ | refine blk_alloc ?_ _)); refine blk_far ?_ NB786_791.out _; (with_reducible repeat (first | refine blk_drewN ?_ _ | refine blk_drew ?_ | refine blk_alloc ?_ _)); refine blk_far ?_ NB786_791.out _; (with_reducible repeat (first | refine blk_drewN ?_ _ | refine blk_drew ?_ | refine blk_alloc ?_ _)); exact BK786.out) hb); have n1_ := Aside0.mk (blk_below (g := gb791) (o := .cells #[.int .u64 t787, .int .u64 t788, .int .i64 t789] 28 (0, 0)) (by (with_reducible repeat (first | refine blk_drewN ?_ _ | refine blk_drew ?_ | refine blk_alloc ?_ _)); refine blk_put (cs := #[.int .u64 t787, .int .u64 t788, .int .i64 0]) ?_ 2 _ rfl; (with_reducible repeat (first | refine blk_drewN ?_ _ | refine blk_drew ?_ | refine blk_alloc ?_ _)); refine blk_put (cs := #[.int .u64 t787, .int .u64 0, .int .i64 0]) ?_ 1 _ rfl; (with_reducible repeat (first | refine blk_drewN ?_ _ | refine blk_drew ?_ | refine blk_alloc ?_ _)); refine blk_put (cs := #[.int .u64 0, .int .u64 0, .int .i64 0]) ?_ 0 _ rfl; (with_reducible repeat (first | refine blk_drewN ?_ _ | refine blk_drew ?_ | refine blk_alloc ?_ _)); exact BK791.out) hb); have n2_ := Aside0.mk (below_step xG hb); clear BK786; clear BK791; clear HB; have BK786 := n0_; have BK791 := n1_; have HB := n2_; clear n0_ n1_ n2_; (try clear hb); (try clear hb2); (try clear hk); (try clear hi)) | ((with_reducible refine gate_dst (N := 9) rfl ?_); refine box_event ?hg (N := 9) ?hd (cs := #[.int .u64 0, .int .u64 0, .int .i64 0]) (t := 28) ?hr ?_; (case hd => rfl); (case hg => rfl); (case hr => first | (go_simp; done) | (go_simp; rfl)); intro gb796 hg w19 hbox hb; have n0_ := xP BK786.out hb; have n1_ := xP BK791.out hb; have n2_ := Aside0.mk (below_step xG hb); have n3_ := Aside0.mk (hbox); have n4_ := xT w hg; have n5_ := xT w hg; have n6_ := Aside0.mk ((xNl BK786.out hg : gb786 ≠ gb796)); have n7_ := Aside0.mk ((xNr BK786.out hg : gb796 ≠ gb786)); have n8_ := Aside0.mk ((xNl BK791.out hg : gb791 ≠ gb796)); have n9_ := Aside0.mk ((xNr BK791.out hg : gb796 ≠ gb791)); clear BK786; clear BK791; clear HB; have BK786 := n0_; have BK791 := n1_; have HB := n2_; have BK796 := n3_; have GW796 := n4_; have GE796 := n5_; have NB786_796 := n6_; have NB796_786 := n7_; have NB791_796 := n8_; have NB796_791 := n9_; clear n0_ n1_ n2_ n3_ n4_ n5_ n6_ n7_ n8_ n9_; clear hb hbox hg; have hnb20 := NB796_786.out; have hnc20 := NB786_796.out; have hnb21 := NB796_791.out; have hnc21 := NB791_796.out; have hcz22_0 : w19.cell? ⟨gb796, 0, none⟩ = some (.int .u64 0) := (blk_cell BK796.out 0).trans rfl; have hcz22_1 : w19.cell? ⟨gb796, 1, none⟩ = some (.int .u64 0) := (blk_cell BK796.out 1).trans rfl; have hcz22_2 : w19.cell? ⟨gb796, 2, none⟩ = some (.int .i64 0) := (blk_cell BK796.out 2).trans rfl; have hfz22_0 := blk_frozen BK796.out 0; have hfz22_1 := blk_frozen BK796.out 1; have hfz22_2 := blk_frozen BK796.out 2; have hcz23_0 : w19.cell? ⟨gb786, 0, none⟩ = some (.int .u64 a2_0) := (blk_cell BK786.out 0).trans rfl; have hcz23_1 : w19.cell? ⟨gb786, 1, none⟩ = some (.int .u64 a2_1) := (blk_cell BK786.out 1).trans rfl; have hcz23_2 : w19.cell? ⟨gb786, 2, none⟩ = some (.int .i64 a2_2) := (blk_cell BK786.out 2).trans rfl; have hfz23_0 := blk_frozen BK786.out 0; have hfz23_1 := blk_frozen BK786.out 1; have hfz23_2 := blk_frozen BK786.out 2) | ((with_reducible refine gate_callee (f := 23) rfl ?_); refine goesL_ (some 30) rfl rfl Tryd.func23 (by kernel_rfl) rfl #[.int .i64 a0, .agg #[.int .u64 a2_0, .int .u64 a2_1, .int .i64 a2_2]] rfl xM ?_; (with_reducible refine (prefix_Text.calls k a0 a2_0 a2_1 a2_2 t797 t798 _ ?side1 A6.out).mono ?_); (case side1 => first | exact MLOk.below HML.out xG | (repeat (first | exact HML.out | (with_reducible refine MLOk.alloc ?_ _) | (with_reducible refine MLOk.drewN ?_ _) | (with_reducible refine MLOk.drew ?_)))); rintro e w24 ⟨rfl, hb⟩; refine ⟨_, rfl, ?_⟩; have n0_ := Aside0.mk (blk_below (g := gb786) (o := .cells #[.int .u64 a2_0, .int .u64 a2_1, .int .i64 a2_2] 28 (0, 0)) (by (with_reducible repeat (first | refine blk_drewN ?_ _ | refine blk_drew ?_ | refine blk_alloc ?_ _)); refine blk_far ?_ NB786_796.out _; (with_reducible repeat (first | refine blk_drewN ?_ _ | refine blk_drew ?_ | refine blk_alloc ?_ _)); refine blk_far ?_ NB786_796.out _; (with_reducible repeat (first | refine blk_drewN ?_ _ | refine blk_drew ?_ | refine blk_alloc ?_ _)); refine blk_far ?_ NB786_796.out _; (with_reducible repeat (first | refine blk_drewN ?_ _ | refine blk_drew ?_ | refine blk_alloc ?_ _)); exact BK786.out) hb); have n1_ := Aside0.mk (blk_below (g := gb791) (o := .cells #[.int .u64 t787, .int .u64 t788, .int .i64 t789] 28 (0, 0)) (by (with_reducible repeat (first | refine blk_drewN ?_ _ | refine blk_drew ?_ | refine blk_alloc ?_ _)); refine blk_far ?_ NB791_796.out _; (with_reducible repeat (first | refine blk_drewN ?_ _ | refine blk_drew ?_ | refine blk_alloc ?_ _)); refine blk_far ?_ NB791_796.out _; (with_reducible repeat (first | refine blk_drewN ?_ _ | refine blk_drew ?_ | refine blk_alloc ?_ _)); refine blk_far ?_ NB791_796.out _; (with_reducible repeat (first | refine blk_drewN ?_ _ | refine blk_drew ?_ | refine blk_alloc ?_ _)); exact BK791.out) hb); have n2_ := Aside0.mk (blk_below (g := gb796) (o := .cells #[.int .u64 t792, .int .u64 t793, .int .i64 t794] 28 (0, 0)) (by (with_reducible repeat (first | refine blk_drewN ?_ _ | refine blk_drew ?_ | refine blk_alloc ?_ _)); refine blk_put (cs := #[.int .u64 t792, .int .u64 t793, .int .i64 0]) ?_ 2 _ rfl; (with_reducible repeat (first | refine blk_drewN ?_ _ | refine blk_drew ?_ | refine blk_alloc ?_ _)); refine blk_put (cs := #[.int .u64 t792, .int .u64 0, .int .i64 0]) ?_ 1 _ rfl; (with_reducible repeat (first | refine blk_drewN ?_ _ | refine blk_drew ?_ | refine blk_alloc ?_ _)); refine blk_put (cs := #[.int .u64 0, .int .u64 0, .int .i64 0]) ?_ 0 _ rfl; (with_reducible repeat (first | refine blk_drewN ?_ _ | refine blk_drew ?_ | refine blk_alloc ?_ _)); exact BK796.out) hb); have n3_ := Aside0.mk (below_step xG hb); clear BK786; clear BK791; clear BK796; clear HB; have BK786 := n0_; have BK791 := n1_; have BK796 := n2_; have HB := n3_; clear n0_ n1_ n2_ n3_; (try clear hb); (try clear hb2); (try clear hk); (try clear hi); have hcz25_0 : w24.cell? ⟨gb786, 0, none⟩ = some (.int .u64 a2_0) := (blk_cell BK786.out 0).trans rfl; have hcz25_1 : w24.cell? ⟨gb786, 1, none⟩ = some (.int .u64 a2_1) := (blk_cell BK786.out 1).trans rfl; have hcz25_2 : w24.cell? ⟨gb786, 2, none⟩ = some (.int .i64 a2_2) := (blk_cell BK786.out 2).trans rfl; have hfz25_0 := blk_frozen BK786.out 0; have hfz25_1 := blk_frozen BK786.out 1; have hfz25_2 := blk_frozen BK786.out 2) | ((with_reducible refine gate_callee (f := 47) rfl ?_); refine goesL_ (some 36) rfl rfl Tryd.func47 (by kernel_rfl) rfl #[.int .i64 a0, .agg #[.int .u64 a2_0, .int .u64 a2_1, .int .i64 a2_2]] rfl xM ?_; (with_reducible refine (turnpikeref3_Text.calls k a0 a2_0 a2_1 a2_2 t799 t800 _ A7.out).mono ?_); rintro e w26 ⟨rfl, hb⟩; refine ⟨_, rfl, ?_⟩; have n0_ := xP BK786.out hb; have n1_ := xP BK791.out hb; have n2_ := xP BK796.out hb; have n3_ := Aside0.mk (below_step xG hb); clear BK786; clear BK791; clear BK796; clear HB; have BK786 := n0_; have BK791 := n1_; have BK796 := n2_; have HB := n3_; clear n0_ n1_ n2_ n3_; (try clear hb); (try clear hb2); (try clear hk); (try clear hi)) | ((with_reducible refine gate_callee (f := 14) rfl ?_); refine goesL_ (some 39) rfl rfl Tryd.func14 (by kernel_rfl) rfl #[] rfl xM ?_; (with_reducible refine (turnpikelaw3_known.calls k  true _ ?side1 A8.out).mono ?_); (case side1 => first | exact MLOk.below HML.out xG | (repeat (first | exact HML.out | (with_reducible refine MLOk.alloc ?_ _) | (with_reducible refine MLOk.drewN ?_ _) | (with_reducible refine MLOk.drew ?_)))); rintro e w27 ⟨rfl, hb⟩; refine ⟨_, rfl, ?_⟩; have n0_ := xP BK786.out hb; have n1_ := xP BK791.out hb; have n2_ := xP BK796.out hb; have n3_ := Aside0.mk (below_step xG hb); clear BK786; clear BK791; clear BK796; clear HB; have BK786 := n0_; have BK791 := n1_; have BK796 := n2_; have HB := n3_; clear n0_ n1_ n2_ n3_; (try clear hb); (try clear hb2); (try clear hk); (try clear hi); have hcz28_0 : w27.cell? ⟨gb791, 0, none⟩ = some (.int .u64 t787) := (blk_cell BK791.out 0).trans rfl; have hcz28_1 : w27.cell? ⟨gb791, 1, none⟩ = some (.int .u64 t788) := (blk_cell BK791.out 1).trans rfl; have hcz28_2 : w27.cell? ⟨gb791, 2, none⟩ = some (.int .i64 t789) := (blk_cell BK791.out 2).trans rfl; have hfz28_0 := blk_frozen BK791.out 0; have hfz28_1 := blk_frozen BK791.out 1; have hfz28_2 := blk_frozen BK791.out 2; have hcz29_0 : w27.cell? ⟨gb796, 0, none⟩ = some (.int .u64 t792) := (blk_cell BK796.out 0).trans rfl; have hcz29_1 : w27.cell? ⟨gb796, 1, none⟩ = some (.int .u64 t793) := (blk_cell BK796.out 1).trans rfl; have hcz29_2 : w27.cell? ⟨gb796, 2, none⟩ = some (.int .i64 t794) := (blk_cell BK796.out 2).trans rfl; have hfz29_0 := blk_frozen BK796.out 0; have hfz29_1 := blk_frozen BK796.out 1; have hfz29_2 := blk_frozen BK796.out 2))
     go_ret
     exact ⟨xE, xG⟩
    ·rw [if_neg c12] at H
     have c12b0 : (t797.toList == t799.toList) = false := beq_eq_false_iff_ne.mpr c12
     have c12b1 : (t797.toList != t799.toList) = true := bne_iff_ne.mpr c12
     obtain rfl := Option.some.inj H
     exact absurd hr_.out (by decide)
   ·rw [if_neg c11] at H
    have c11b0 : (t790 == t795) = false := beq_eq_false_iff_ne.mpr c11
    have c11b1 : (t790 != t795) = true := bne_iff_ne.mpr c11
    obtain rfl := Option.some.inj H
    exact absurd hr_.out (by decide)
  ·rw [if_neg c10] at H
   have c10b0 : ((t787 == t792 && (t788 == t793)) && (t789 == t794)) = false := by simpa using c10
   clear c10
   obtain rfl := Option.some.inj H
   exact absurd hr_.out (by decide)
 ·replace c9 := Bool.eq_false_iff.mpr c9
  subst c9
  have H1 : (some false) = some r := by rw [if_neg (show ¬ (false = true) by decide)] at H; exact H
  clear H
  have H := H1
  clear H1
  obtain rfl := Option.some.inj H
  exact absurd hr_.out (by decide)
def turnpikelaw3_PrefixReads.Pure : Prop := ∀ (a0 : Int) (a1 : ByteArray) (a2_0 : Int) (a2_1 : Int) (a2_2 : Int), (Lit.int .i64 a0).wf = true → a1.size ≤ 1048576 → (Lit.int .u64 a2_0).wf = true → (Lit.int .u64 a2_1).wf = true → (Lit.int .i64 a2_2).wf = true → ∃ k, turnpikelaw3_PrefixReads.f k a0 a1 a2_0 a2_1 a2_2 = some true
theorem turnpikelaw3_PrefixReads.walk (P : turnpikelaw3_PrefixReads.Pure) (a0 : Int) (a1 : ByteArray) (a2_0 : Int) (a2_1 : Int) (a2_2 : Int) (w : World) (hML : MLOk w) (wa0 : (Lit.int .i64 a0).wf = true) (wa1 : a1.size ≤ 1048576) (wa2_0 : (Lit.int .u64 a2_0).wf = true) (wa2_1 : (Lit.int .u64 a2_1).wf = true) (wa2_2 : (Lit.int .i64 a2_2).wf = true) :
  Calls Tryd.prog 12 #[.int .i64 a0, .string a1, .agg #[.int .u64 a2_0, .int .u64 a2_1, .int .i64 a2_2]] w fun e w' => e = .returned (.bool true) ∧ Below w.heap.size w w' := by
 obtain ⟨k, h⟩ := P a0 a1 a2_0 a2_1 a2_2 wa0 wa1 wa2_0 wa2_1 wa2_2
 refine (turnpikelaw3_PrefixReads.calls k a0 a1 a2_0 a2_1 a2_2 true w hML ⟨rfl⟩ h).mono ?_
 rintro e w' ⟨rfl, hd⟩
 exact ⟨rfl, hd⟩
end Go.Proofs.YtdjhmapmhajkcaaDoor.X
