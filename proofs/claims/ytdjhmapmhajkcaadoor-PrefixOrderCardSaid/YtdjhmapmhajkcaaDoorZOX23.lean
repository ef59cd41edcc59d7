-- Printed by a program of this session (xprint.py, over the kit's printer)
import Derived.Test.YtdjhmapmhajkcaaDoorZOX0
import Derived.Test.YtdjhmapmhajkcaaDoorZOSh
namespace Go.Proofs.YtdjhmapmhajkcaaDoor.X
open Go.RowKit Go.Proofs.YtdjhmapmhajkcaaDoorW.PrintWords Go.Proofs.YtdjhmapmhajkcaaDoorW.PrintLast Go.Proofs.YtdjhmapmhajkcaaDoor.Sm Go.Proofs.YtdjhmapmhajkcaaDoor.Sh
set_option linter.unusedVariables false
set_option linter.unusedSimpArgs false
def wcmp (a b c d : Int) : Int := if a = c ∧ b = d then 0 else if a < c ∨ (a = c ∧ b < d) then -1 else 1
set_option maxHeartbeats 1000000 in
theorem wcmp_eq (a b : Int) (w : World) : Calls Tryd.prog 68 #[.agg #[.int .u64 a, .int .u64 b], .agg #[.int .u64 a, .int .u64 b]] w fun e w' => e = .returned (.int .i64 0) ∧ Below w.heap.size w w' := by
 have hu24 := Tryd.underlying24
 have h1 : (a == a && b == b) = true := by simp
 go_enter Tryd.func68, Tryd.ntmps68
 go_wp2
 go_ret
 exact ⟨rfl, by repeat (first | exact Below.refl _ _ | apply below_alloc | apply below_drew1 | apply pw_below_drewN)⟩
set_option maxHeartbeats 1000000 in
theorem wcmp_lt (a b c d : Int) (h : a < c) (w : World) : Calls Tryd.prog 68 #[.agg #[.int .u64 a, .int .u64 b], .agg #[.int .u64 c, .int .u64 d]] w fun e w' => e = .returned (.int .i64 (-1)) ∧ Below w.heap.size w w' := by
 have hu24 := Tryd.underlying24
 have h0 : (a == c) = false := by simp; omega
 have h1 : decide (a < c) = true := by simp; omega
 go_enter Tryd.func68, Tryd.ntmps68
 go_wp2
 go_ret
 exact ⟨rfl, by repeat (first | exact Below.refl _ _ | apply below_alloc | apply below_drew1 | apply pw_below_drewN)⟩
set_option maxHeartbeats 1000000 in
theorem wcmp_eqlt (a b d : Int) (h : b < d) (w : World) : Calls Tryd.prog 68 #[.agg #[.int .u64 a, .int .u64 b], .agg #[.int .u64 a, .int .u64 d]] w fun e w' => e = .returned (.int .i64 (-1)) ∧ Below w.heap.size w w' := by
 have hu24 := Tryd.underlying24
 have h0 : (b == d) = false := by simp; omega
 have h1 : decide (b < d) = true := by simp; omega
 go_enter Tryd.func68, Tryd.ntmps68
 go_wp2
 go_ret
 exact ⟨rfl, by repeat (first | exact Below.refl _ _ | apply below_alloc | apply below_drew1 | apply pw_below_drewN)⟩
set_option maxHeartbeats 1000000 in
theorem wcmp_gt (a b c d : Int) (h : c < a) (w : World) : Calls Tryd.prog 68 #[.agg #[.int .u64 a, .int .u64 b], .agg #[.int .u64 c, .int .u64 d]] w fun e w' => e = .returned (.int .i64 1) ∧ Below w.heap.size w w' := by
 have hu24 := Tryd.underlying24
 have h0 : (a == c) = false := by simp; omega
 have h1 : decide (a < c) = false := by simp; omega
 go_enter Tryd.func68, Tryd.ntmps68
 go_wp2
 go_ret
 exact ⟨rfl, by repeat (first | exact Below.refl _ _ | apply below_alloc | apply below_drew1 | apply pw_below_drewN)⟩
set_option maxHeartbeats 1000000 in
theorem wcmp_eqgt (a b d : Int) (h : d < b) (w : World) : Calls Tryd.prog 68 #[.agg #[.int .u64 a, .int .u64 b], .agg #[.int .u64 a, .int .u64 d]] w fun e w' => e = .returned (.int .i64 1) ∧ Below w.heap.size w w' := by
 have hu24 := Tryd.underlying24
 have h0 : (b == d) = false := by simp; omega
 have h1 : decide (b < d) = false := by simp; omega
 go_enter Tryd.func68, Tryd.ntmps68
 go_wp2
 go_ret
 exact ⟨rfl, by repeat (first | exact Below.refl _ _ | apply below_alloc | apply below_drew1 | apply pw_below_drewN)⟩
def word_Cmp.f (a0_0 a0_1 a1_0 a1_1 : Int) : Option Int := some (wcmp a0_0 a0_1 a1_0 a1_1)
theorem word_Cmp.calls (a0_0 a0_1 a1_0 a1_1 : Int) (r : Int) (w : World) (h : word_Cmp.f a0_0 a0_1 a1_0 a1_1 = some r) :
  Calls Tryd.prog 68 #[.agg #[.int .u64 a0_0, .int .u64 a0_1], .agg #[.int .u64 a1_0, .int .u64 a1_1]] w fun e w' => e = .returned (.int .i64 r) ∧ Below w.heap.size w w' := by
 cases h
 unfold wcmp
 by_cases h1 : a0_0 = a1_0
 ·subst h1
  rcases Int.lt_trichotomy a0_1 a1_1 with h2 | h2 | h2
  ·rw [if_neg (by omega), if_pos (by omega)]; exact wcmp_eqlt a0_0 a0_1 a1_1 h2 w
  ·subst h2; rw [if_pos ⟨rfl, rfl⟩]; exact wcmp_eq a0_0 a0_1 w
  ·rw [if_neg (by omega), if_neg (by omega)]; exact wcmp_eqgt a0_0 a0_1 a1_1 h2 w
 ·rcases Int.lt_trichotomy a0_0 a1_0 with h2 | h2 | h2
  ·rw [if_neg (by omega), if_pos (by omega)]; exact wcmp_lt a0_0 a0_1 a1_0 a1_1 h2 w
  ·exact absurd h2 h1
  ·rw [if_neg (by omega), if_neg (by omega)]; exact wcmp_gt a0_0 a0_1 a1_0 a1_1 h2 w
def prefix_Cmp.f (a0_0 : Int) (a0_1 : Int) (a0_2 : Int) (a1_0 : Int) (a1_1 : Int) (a1_2 : Int) : Option (Int) := (word_Cmp.f a0_0 a0_1 a1_0 a1_1).bind fun t426 => (if t426 = 0 then (if a0_2 < a1_2 then (some (-1)) else (if a0_2 > a1_2 then (some 1) else (some 0))) else (some t426))
set_option maxHeartbeats 8000000 in
set_option maxRecDepth 100000 in
theorem prefix_Cmp.calls (a0_0 : Int) (a0_1 : Int) (a0_2 : Int) (a1_0 : Int) (a1_1 : Int) (a1_2 : Int) (r : Int) (w : World) (h : prefix_Cmp.f a0_0 a0_1 a0_2 a1_0 a1_1 a1_2 = some r) :
  Calls Tryd.prog 34 #[.agg #[.int .u64 a0_0, .int .u64 a0_1, .int .i64 a0_2], .agg #[.int .u64 a1_0, .int .u64 a1_1, .int .i64 a1_2]] w fun e w' => e = .returned (.int .i64 r) ∧ Below w.heap.size w w' := by
 have hu28 := Tryd.underlying28
 have hu24 := Tryd.underlying24
 have HB := Aside0.mk (Below.refl w.heap.size w)
 have H : ((word_Cmp.f a0_0 a0_1 a1_0 a1_1).bind fun t426 => (if t426 = 0 then (if a0_2 < a1_2 then (some (-1)) else (if a0_2 > a1_2 then (some 1) else (some 0))) else (some t426))) = some r := h
 clear h
 replace H := Option.bind_eq_some_iff.mp H
 obtain ⟨t426, A30, H⟩ := H
 replace H : (if t426 = 0 then (if a0_2 < a1_2 then (some (-1)) else (if a0_2 > a1_2 then (some 1) else (some 0))) else (some t426)) = some r := H
 have A3 := Aside0.mk A30
 clear A30
 by_cases c4 : t426 = 0
 ·rw [if_pos c4] at H
  have c4b0 : (t426 == 0) = true := beq_iff_eq.mpr c4
  have c4b1 : (t426 != 0) = false := bne_eq_false_iff_eq.mpr c4
  clear c4
  by_cases c5 : a0_2 < a1_2
  ·rw [if_pos c5] at H
   have c5b0 : decide (a0_2 < a1_2) = true := decide_eq_true c5
   clear c5
   obtain rfl := Option.some.inj H
   go_enter Tryd.func34, Tryd.ntmps34
   go_wp2_with (first | ((with_reducible refine gate_dst (N := 2) rfl ?_); refine box_event ?hg (N := 2) ?hd (cs := #[.int .u64 a0_0, .int .u64 a0_1, .int .i64 a0_2]) (t := 28) ?hr ?_; (case hd => rfl); (case hg => rfl); (case hr => first | (go_simp; done) | (go_simp; rfl)); intro gb424 hg w6 hbox hb; have n0_ := Aside0.mk (below_step xB hb); have n1_ := Aside0.mk (hbox); have n2_ := xS w hg; have n3_ := xS w hg; clear HB; have HB := n0_; have BK424 := n1_; have GW424 := n2_; have GE424 := n3_; clear n0_ n1_ n2_ n3_; clear hb hbox hg) | ((with_reducible refine gate_dst (N := 3) rfl ?_); refine box_event ?hg (N := 3) ?hd (cs := #[.int .u64 a1_0, .int .u64 a1_1, .int .i64 a1_2]) (t := 28) ?hr ?_; (case hd => rfl); (case hg => rfl); (case hr => first | (go_simp; done) | (go_simp; rfl)); intro gb425 hg w7 hbox hb; have n0_ := xP BK424.out hb; have n1_ := Aside0.mk (below_step xG hb); have n2_ := Aside0.mk (hbox); have n3_ := xT w hg; have n4_ := xT w hg; have n5_ := Aside0.mk ((xNl BK424.out hg : gb424 ≠ gb425)); have n6_ := Aside0.mk ((xNr BK424.out hg : gb425 ≠ gb424)); clear BK424; clear HB; have BK424 := n0_; have HB := n1_; have BK425 := n2_; have GW425 := n3_; have GE425 := n4_; have NB424_425 := n5_; have NB425_424 := n6_; clear n0_ n1_ n2_ n3_ n4_ n5_ n6_; clear hb hbox hg; have hnb8 := NB424_425.out; have hnc8 := NB425_424.out; have hcz9_0 : w7.cell? ⟨gb424, 0, none⟩ = some (.int .u64 a0_0) := (blk_cell BK424.out 0).trans rfl; have hcz9_1 : w7.cell? ⟨gb424, 1, none⟩ = some (.int .u64 a0_1) := (blk_cell BK424.out 1).trans rfl; have hcz9_2 : w7.cell? ⟨gb424, 2, none⟩ = some (.int .i64 a0_2) := (blk_cell BK424.out 2).trans rfl; have hfz9_0 := blk_frozen BK424.out 0; have hfz9_1 := blk_frozen BK424.out 1; have hfz9_2 := blk_frozen BK424.out 2; have hcz10_0 : w7.cell? ⟨gb425, 0, none⟩ = some (.int .u64 a1_0) := (blk_cell BK425.out 0).trans rfl; have hcz10_1 : w7.cell? ⟨gb425, 1, none⟩ = some (.int .u64 a1_1) := (blk_cell BK425.out 1).trans rfl; have hcz10_2 : w7.cell? ⟨gb425, 2, none⟩ = some (.int .i64 a1_2) := (blk_cell BK425.out 2).trans rfl; have hfz10_0 := blk_frozen BK425.out 0; have hfz10_1 := blk_frozen BK425.out 1; have hfz10_2 := blk_frozen BK425.out 2) | ((with_reducible refine gate_callee (f := 68) rfl ?_); refine goesL_ (some 10) rfl rfl Tryd.func68 (by kernel_rfl) rfl #[.agg #[.int .u64 a0_0, .int .u64 a0_1], .agg #[.int .u64 a1_0, .int .u64 a1_1]] rfl xM ?_; (with_reducible refine (word_Cmp.calls a0_0 a0_1 a1_0 a1_1 t426 _ A3.out).mono ?_); rintro e w11 ⟨rfl, hb⟩; refine ⟨_, rfl, ?_⟩; have n0_ := xP BK424.out hb; have n1_ := xP BK425.out hb; have n2_ := Aside0.mk (below_step xG hb); clear BK424; clear BK425; clear HB; have BK424 := n0_; have BK425 := n1_; have HB := n2_; clear n0_ n1_ n2_; (try clear hb); (try clear hb2); (try clear hk); (try clear hi); have hcz12_0 : w11.cell? ⟨gb424, 0, none⟩ = some (.int .u64 a0_0) := (blk_cell BK424.out 0).trans rfl; have hcz12_1 : w11.cell? ⟨gb424, 1, none⟩ = some (.int .u64 a0_1) := (blk_cell BK424.out 1).trans rfl; have hcz12_2 : w11.cell? ⟨gb424, 2, none⟩ = some (.int .i64 a0_2) := (blk_cell BK424.out 2).trans rfl; have hfz12_0 := blk_frozen BK424.out 0; have hfz12_1 := blk_frozen BK424.out 1; have hfz12_2 := blk_frozen BK424.out 2; have hcz13_0 : w11.cell? ⟨gb425, 0, none⟩ = some (.int .u64 a1_0) := (blk_cell BK425.out 0).trans rfl; have hcz13_1 : w11.cell? ⟨gb425, 1, none⟩ = some (.int .u64 a1_1) := (blk_cell BK425.out 1).trans rfl; have hcz13_2 : w11.cell? ⟨gb425, 2, none⟩ = some (.int .i64 a1_2) := (blk_cell BK425.out 2).trans rfl; have hfz13_0 := blk_frozen BK425.out 0; have hfz13_1 := blk_frozen BK425.out 1; have hfz13_2 := blk_frozen BK425.out 2))
   go_ret
   exact ⟨xE, xG⟩
  ·rw [if_neg c5] at H
   have c5b0 : decide (a0_2 < a1_2) = false := decide_eq_false c5
   clear c5
   by_cases c14 : a0_2 > a1_2
   ·rw [if_pos c14] at H
    have c14b0 : decide (a1_2 < a0_2) = true := decide_eq_true c14
    clear c14
    obtain rfl := Option.some.inj H
    go_enter Tryd.func34, Tryd.ntmps34
    go_wp2_with (first | ((with_reducible refine gate_dst (N := 2) rfl ?_); refine box_event ?hg (N := 2) ?hd (cs := #[.int .u64 a0_0, .int .u64 a0_1, .int .i64 a0_2]) (t := 28) ?hr ?_; (case hd => rfl); (case hg => rfl); (case hr => first | (go_simp; done) | (go_simp; rfl)); intro gb424 hg w15 hbox hb; have n0_ := Aside0.mk (below_step xB hb); have n1_ := Aside0.mk (hbox); have n2_ := xS w hg; have n3_ := xS w hg; clear HB; have HB := n0_; have BK424 := n1_; have GW424 := n2_; have GE424 := n3_; clear n0_ n1_ n2_ n3_; clear hb hbox hg) | ((with_reducible refine gate_dst (N := 3) rfl ?_); refine box_event ?hg (N := 3) ?hd (cs := #[.int .u64 a1_0, .int .u64 a1_1, .int .i64 a1_2]) (t := 28) ?hr ?_; (case hd => rfl); (case hg => rfl); (case hr => first | (go_simp; done) | (go_simp; rfl)); intro gb425 hg w16 hbox hb; have n0_ := xP BK424.out hb; have n1_ := Aside0.mk (below_step xG hb); have n2_ := Aside0.mk (hbox); have n3_ := xT w hg; have n4_ := xT w hg; have n5_ := Aside0.mk ((xNl BK424.out hg : gb424 ≠ gb425)); have n6_ := Aside0.mk ((xNr BK424.out hg : gb425 ≠ gb424)); clear BK424; clear HB; have BK424 := n0_; have HB := n1_; have BK425 := n2_; have GW425 := n3_; have GE425 := n4_; have NB424_425 := n5_; have NB425_424 := n6_; clear n0_ n1_ n2_ n3_ n4_ n5_ n6_; clear hb hbox hg; have hnb17 := NB424_425.out; have hnc17 := NB425_424.out; have hcz18_0 : w16.cell? ⟨gb424, 0, none⟩ = some (.int .u64 a0_0) := (blk_cell BK424.out 0).trans rfl; have hcz18_1 : w16.cell? ⟨gb424, 1, none⟩ = some (.int .u64 a0_1) := (blk_cell BK424.out 1).trans rfl; have hcz18_2 : w16.cell? ⟨gb424, 2, none⟩ = some (.int .i64 a0_2) := (blk_cell BK424.out 2).trans rfl; have hfz18_0 := blk_frozen BK424.out 0; have hfz18_1 := blk_frozen BK424.out 1; have hfz18_2 := blk_frozen BK424.out 2; have hcz19_0 : w16.cell? ⟨gb425, 0, none⟩ = some (.int .u64 a1_0) := (blk_cell BK425.out 0).trans rfl; have hcz19_1 : w16.cell? ⟨gb425, 1, none⟩ = some (.int .u64 a1_1) := (blk_cell BK425.out 1).trans rfl; have hcz19_2 : w16.cell? ⟨gb425, 2, none⟩ = some (.int .i64 a1_2) := (blk_cell BK425.out 2).trans rfl; have hfz19_0 := blk_frozen BK425.out 0; have hfz19_1 := blk_frozen BK425.out 1; have hfz19_2 := blk_frozen BK425.out 2) | ((with_reducible refine gate_callee (f := 68) rfl ?_); refine goesL_ (some 10) rfl rfl Tryd.func68 (by kernel_rfl) rfl #[.agg #[.int .u64 a0_0, .int .u64 a0_1], .agg #[.int .u64 a1_0, .int .u64 a1_1]] rfl xM ?_; (with_reducible refine (word_Cmp.calls a0_0 a0_1 a1_0 a1_1 t426 _ A3.out).mono ?_); rintro e w20 ⟨rfl, hb⟩; refine ⟨_, rfl, ?_⟩; have n0_ := xP BK424.out hb; have n1_ := xP BK425.out hb; have n2_ := Aside0.mk (below_step xG hb); clear BK424; clear BK425; clear HB; have BK424 := n0_; have BK425 := n1_; have HB := n2_; clear n0_ n1_ n2_; (try clear hb); (try clear hb2); (try clear hk); (try clear hi); have hcz21_0 : w20.cell? ⟨gb424, 0, none⟩ = some (.int .u64 a0_0) := (blk_cell BK424.out 0).trans rfl; have hcz21_1 : w20.cell? ⟨gb424, 1, none⟩ = some (.int .u64 a0_1) := (blk_cell BK424.out 1).trans rfl; have hcz21_2 : w20.cell? ⟨gb424, 2, none⟩ = some (.int .i64 a0_2) := (blk_cell BK424.out 2).trans rfl; have hfz21_0 := blk_frozen BK424.out 0; have hfz21_1 := blk_frozen BK424.out 1; have hfz21_2 := blk_frozen BK424.out 2; have hcz22_0 : w20.cell? ⟨gb425, 0, none⟩ = some (.int .u64 a1_0) := (blk_cell BK425.out 0).trans rfl; have hcz22_1 : w20.cell? ⟨gb425, 1, none⟩ = some (.int .u64 a1_1) := (blk_cell BK425.out 1).trans rfl; have hcz22_2 : w20.cell? ⟨gb425, 2, none⟩ = some (.int .i64 a1_2) := (blk_cell BK425.out 2).trans rfl; have hfz22_0 := blk_frozen BK425.out 0; have hfz22_1 := blk_frozen BK425.out 1; have hfz22_2 := blk_frozen BK425.out 2))
    go_ret
    exact ⟨xE, xG⟩
   ·rw [if_neg c14] at H
    have c14b0 : decide (a1_2 < a0_2) = false := decide_eq_false c14
    clear c14
    obtain rfl := Option.some.inj H
    go_enter Tryd.func34, Tryd.ntmps34
    go_wp2_with (first | ((with_reducible refine gate_dst (N := 2) rfl ?_); refine box_event ?hg (N := 2) ?hd (cs := #[.int .u64 a0_0, .int .u64 a0_1, .int .i64 a0_2]) (t := 28) ?hr ?_; (case hd => rfl); (case hg => rfl); (case hr => first | (go_simp; done) | (go_simp; rfl)); intro gb424 hg w23 hbox hb; have n0_ := Aside0.mk (below_step xB hb); have n1_ := Aside0.mk (hbox); have n2_ := xS w hg; have n3_ := xS w hg; clear HB; have HB := n0_; have BK424 := n1_; have GW424 := n2_; have GE424 := n3_; clear n0_ n1_ n2_ n3_; clear hb hbox hg) | ((with_reducible refine gate_dst (N := 3) rfl ?_); refine box_event ?hg (N := 3) ?hd (cs := #[.int .u64 a1_0, .int .u64 a1_1, .int .i64 a1_2]) (t := 28) ?hr ?_; (case hd => rfl); (case hg => rfl); (case hr => first | (go_simp; done) | (go_simp; rfl)); intro gb425 hg w24 hbox hb; have n0_ := xP BK424.out hb; have n1_ := Aside0.mk (below_step xG hb); have n2_ := Aside0.mk (hbox); have n3_ := xT w hg; have n4_ := xT w hg; have n5_ := Aside0.mk ((xNl BK424.out hg : gb424 ≠ gb425)); have n6_ := Aside0.mk ((xNr BK424.out hg : gb425 ≠ gb424)); clear BK424; clear HB; have BK424 := n0_; have HB := n1_; have BK425 := n2_; have GW425 := n3_; have GE425 := n4_; have NB424_425 := n5_; have NB425_424 := n6_; clear n0_ n1_ n2_ n3_ n4_ n5_ n6_; clear hb hbox hg; have hnb25 := NB424_425.out; have hnc25 := NB425_424.out; have hcz26_0 : w24.cell? ⟨gb424, 0, none⟩ = some (.int .u64 a0_0) := (blk_cell BK424.out 0).trans rfl; have hcz26_1 : w24.cell? ⟨gb424, 1, none⟩ = some (.int .u64 a0_1) := (blk_cell BK424.out 1).trans rfl; have hcz26_2 : w24.cell? ⟨gb424, 2, none⟩ = some (.int .i64 a0_2) := (blk_cell BK424.out 2).trans rfl; have hfz26_0 := blk_frozen BK424.out 0; have hfz26_1 := blk_frozen BK424.out 1; have hfz26_2 := blk_frozen BK424.out 2; have hcz27_0 : w24.cell? ⟨gb425, 0, none⟩ = some (.int .u64 a1_0) := (blk_cell BK425.out 0).trans rfl; have hcz27_1 : w24.cell? ⟨gb425, 1, none⟩ = some (.int .u64 a1_1) := (blk_cell BK425.out 1).trans rfl; have hcz27_2 : w24.cell? ⟨gb425, 2, none⟩ = some (.int .i64 a1_2) := (blk_cell BK425.out 2).trans rfl; have hfz27_0 := blk_frozen BK425.out 0; have hfz27_1 := blk_frozen BK425.out 1; have hfz27_2 := blk_frozen BK425.out 2) | ((with_reducible refine gate_callee (f := 68) rfl ?_); refine goesL_ (some 10) rfl rfl Tryd.func68 (by kernel_rfl) rfl #[.agg #[.int .u64 a0_0, .int .u64 a0_1], .agg #[.int .u64 a1_0, .int .u64 a1_1]] rfl xM ?_; (with_reducible refine (word_Cmp.calls a0_0 a0_1 a1_0 a1_1 t426 _ A3.out).mono ?_); rintro e w28 ⟨rfl, hb⟩; refine ⟨_, rfl, ?_⟩; have n0_ := xP BK424.out hb; have n1_ := xP BK425.out hb; have n2_ := Aside0.mk (below_step xG hb); clear BK424; clear BK425; clear HB; have BK424 := n0_; have BK425 := n1_; have HB := n2_; clear n0_ n1_ n2_; (try clear hb); (try clear hb2); (try clear hk); (try clear hi); have hcz29_0 : w28.cell? ⟨gb424, 0, none⟩ = some (.int .u64 a0_0) := (blk_cell BK424.out 0).trans rfl; have hcz29_1 : w28.cell? ⟨gb424, 1, none⟩ = some (.int .u64 a0_1) := (blk_cell BK424.out 1).trans rfl; have hcz29_2 : w28.cell? ⟨gb424, 2, none⟩ = some (.int .i64 a0_2) := (blk_cell BK424.out 2).trans rfl; have hfz29_0 := blk_frozen BK424.out 0; have hfz29_1 := blk_frozen BK424.out 1; have hfz29_2 := blk_frozen BK424.out 2; have hcz30_0 : w28.cell? ⟨gb425, 0, none⟩ = some (.int .u64 a1_0) := (blk_cell BK425.out 0).trans rfl; have hcz30_1 : w28.cell? ⟨gb425, 1, none⟩ = some (.int .u64 a1_1) := (blk_cell BK425.out 1).trans rfl; have hcz30_2 : w28.cell? ⟨gb425, 2, none⟩ = some (.int .i64 a1_2) := (blk_cell BK425.out 2).trans rfl; have hfz30_0 := blk_frozen BK425.out 0; have hfz30_1 := blk_frozen BK425.out 1; have hfz30_2 := blk_frozen BK425.out 2))
    go_ret
    exact ⟨xE, xG⟩
 ·rw [if_neg c4] at H
  have c4b0 : (t426 == 0) = false := beq_eq_false_iff_ne.mpr c4
  have c4b1 : (t426 != 0) = true := bne_iff_ne.mpr c4
  obtain rfl := Option.some.inj H
  go_enter Tryd.func34, Tryd.ntmps34
  go_wp2_with (first | ((with_reducible refine gate_dst (N := 2) rfl ?_); refine box_event ?hg (N := 2) ?hd (cs := #[.int .u64 a0_0, .int .u64 a0_1, .int .i64 a0_2]) (t := 28) ?hr ?_; (case hd => rfl); (case hg => rfl); (case hr => first | (go_simp; done) | (go_simp; rfl)); intro gb424 hg w31 hbox hb; have n0_ := Aside0.mk (below_step xB hb); have n1_ := Aside0.mk (hbox); have n2_ := xS w hg; have n3_ := xS w hg; clear HB; have HB := n0_; have BK424 := n1_; have GW424 := n2_; have GE424 := n3_; clear n0_ n1_ n2_ n3_; clear hb hbox hg) | ((with_reducible refine gate_dst (N := 3) rfl ?_); refine box_event ?hg (N := 3) ?hd (cs := #[.int .u64 a1_0, .int .u64 a1_1, .int .i64 a1_2]) (t := 28) ?hr ?_; (case hd => rfl); (case hg => rfl); (case hr => first | (go_simp; done) | (go_simp; rfl)); intro gb425 hg w32 hbox hb; have n0_ := xP BK424.out hb; have n1_ := Aside0.mk (below_step xG hb); have n2_ := Aside0.mk (hbox); have n3_ := xT w hg; have n4_ := xT w hg; have n5_ := Aside0.mk ((xNl BK424.out hg : gb424 ≠ gb425)); have n6_ := Aside0.mk ((xNr BK424.out hg : gb425 ≠ gb424)); clear BK424; clear HB; have BK424 := n0_; have HB := n1_; have BK425 := n2_; have GW425 := n3_; have GE425 := n4_; have NB424_425 := n5_; have NB425_424 := n6_; clear n0_ n1_ n2_ n3_ n4_ n5_ n6_; clear hb hbox hg; have hnb33 := NB424_425.out; have hnc33 := NB425_424.out; have hcz34_0 : w32.cell? ⟨gb424, 0, none⟩ = some (.int .u64 a0_0) := (blk_cell BK424.out 0).trans rfl; have hcz34_1 : w32.cell? ⟨gb424, 1, none⟩ = some (.int .u64 a0_1) := (blk_cell BK424.out 1).trans rfl; have hcz34_2 : w32.cell? ⟨gb424, 2, none⟩ = some (.int .i64 a0_2) := (blk_cell BK424.out 2).trans rfl; have hfz34_0 := blk_frozen BK424.out 0; have hfz34_1 := blk_frozen BK424.out 1; have hfz34_2 := blk_frozen BK424.out 2; have hcz35_0 : w32.cell? ⟨gb425, 0, none⟩ = some (.int .u64 a1_0) := (blk_cell BK425.out 0).trans rfl; have hcz35_1 : w32.cell? ⟨gb425, 1, none⟩ = some (.int .u64 a1_1) := (blk_cell BK425.out 1).trans rfl; have hcz35_2 : w32.cell? ⟨gb425, 2, none⟩ = some (.int .i64 a1_2) := (blk_cell BK425.out 2).trans rfl; have hfz35_0 := blk_frozen BK425.out 0; have hfz35_1 := blk_frozen BK425.out 1; have hfz35_2 := blk_frozen BK425.out 2) | ((with_reducible refine gate_callee (f := 68) rfl ?_); refine goesL_ (some 10) rfl rfl Tryd.func68 (by kernel_rfl) rfl #[.agg #[.int .u64 a0_0, .int .u64 a0_1], .agg #[.int .u64 a1_0, .int .u64 a1_1]] rfl xM ?_; (with_reducible refine (word_Cmp.calls a0_0 a0_1 a1_0 a1_1 t426 _ A3.out).mono ?_); rintro e w36 ⟨rfl, hb⟩; refine ⟨_, rfl, ?_⟩; have n0_ := xP BK424.out hb; have n1_ := xP BK425.out hb; have n2_ := Aside0.mk (below_step xG hb); clear BK424; clear BK425; clear HB; have BK424 := n0_; have BK425 := n1_; have HB := n2_; clear n0_ n1_ n2_; (try clear hb); (try clear hb2); (try clear hk); (try clear hi)))
  go_ret
  exact ⟨xE, xG⟩
end Go.Proofs.YtdjhmapmhajkcaaDoor.X
