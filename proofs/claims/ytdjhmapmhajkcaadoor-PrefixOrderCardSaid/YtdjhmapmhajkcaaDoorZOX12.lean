-- Printed by a program of this session (xprint.py, over the kit's printer)
import Derived.Test.YtdjhmapmhajkcaaDoorZOX0
import Derived.Test.YtdjhmapmhajkcaaDoorZOX11
import Derived.Test.YtdjhmapmhajkcaaDoorZOSh
namespace Go.Proofs.YtdjhmapmhajkcaaDoor.X
open Go.RowKit Go.Proofs.YtdjhmapmhajkcaaDoorW.PrintWords Go.Proofs.YtdjhmapmhajkcaaDoorW.PrintLast Go.Proofs.YtdjhmapmhajkcaaDoor.Sm Go.Proofs.YtdjhmapmhajkcaaDoor.Sh
set_option linter.unusedVariables false
set_option linter.unusedSimpArgs false
def prefix_Has.f (a0_0 : Int) (a0_1 : Int) (a0_2 : Int) (a1_0 : Int) (a1_1 : Int) : Option (Bool) := (word_Common.f a0_0 a0_1 a1_0 a1_1).bind fun t275 => (some (decide (t275 ≥ a0_2)))
def prefix_Has.T1 : Bool × List (List Nat × List Nat) := (true, [([], []), ([0], [0]), ([], []), ([1, 2], [1, 2]), ([], []), ([4], [4]), ([3, 5], [3, 5]), ([6, 3, 0, 1, 2, 3, 4, 5, 6], [6])])
def prefix_Has.B1 : List Nat := [0, 1, 0, 7, 0, 16, 63, 127]
theorem prefix_Has.tab1 : rtab .any (opsOf Tryd.f18 1) = prefix_Has.T1 := by kernel_rfl
theorem prefix_Has.bits1 : waitsOk prefix_Has.T1.2 prefix_Has.B1 = true := by kernel_rfl
set_option maxHeartbeats 8000000 in
set_option maxRecDepth 100000 in
theorem prefix_Has.calls (a0_0 : Int) (a0_1 : Int) (a0_2 : Int) (a1_0 : Int) (a1_1 : Int) (r : Bool) (w : World) (h : prefix_Has.f a0_0 a0_1 a0_2 a1_0 a1_1 = some r) :
  Calls Tryd.prog 18 #[.agg #[.int .u64 a0_0, .int .u64 a0_1, .int .i64 a0_2], .agg #[.int .u64 a1_0, .int .u64 a1_1]] w fun e w' => e = .returned (.bool r) ∧ Below w.heap.size w w' := by
 have hu28 := Tryd.underlying28
 have hu24 := Tryd.underlying24
 have HB := Aside0.mk (Below.refl w.heap.size w)
 have H : ((word_Common.f a0_0 a0_1 a1_0 a1_1).bind fun t275 => (some (decide (t275 ≥ a0_2)))) = some r := h
 clear h
 replace H := Option.bind_eq_some_iff.mp H
 obtain ⟨t275, A30, H⟩ := H
 replace H : (some (decide (t275 ≥ a0_2))) = some r := H
 have A3 := Aside0.mk A30
 clear A30
 obtain rfl := Option.some.inj H
 go_enter Tryd.func18, Tryd.ntmps18
 try go_wp2_with (first | ((with_reducible refine gate_dst (N := 2) rfl ?_); refine box_event ?hg (N := 2) ?hd (cs := #[.int .u64 a0_0, .int .u64 a0_1, .int .i64 a0_2]) (t := 28) ?hr ?_; (case hd => rfl); (case hg => rfl); (case hr => first | (go_simp; done) | (go_simp; rfl)); intro gb273 hg w4 hbox hb; have n0_ := Aside0.mk (below_step xB hb); have n1_ := Aside0.mk (hbox); have n2_ := xS w hg; have n3_ := xS w hg; clear HB; have HB := n0_; have BK273 := n1_; have GW273 := n2_; have GE273 := n3_; clear n0_ n1_ n2_ n3_; clear hb hbox hg) | ((with_reducible refine gate_dst (N := 3) rfl ?_); refine box_event ?hg (N := 3) ?hd (cs := #[.int .u64 a1_0, .int .u64 a1_1]) (t := 24) ?hr ?_; (case hd => rfl); (case hg => rfl); (case hr => first | (go_simp; done) | (go_simp; rfl)); intro gb274 hg w5 hbox hb; have n0_ := xP BK273.out hb; have n1_ := Aside0.mk (below_step xG hb); have n2_ := Aside0.mk (hbox); have n3_ := xT w hg; have n4_ := xT w hg; have n5_ := Aside0.mk ((xNl BK273.out hg : gb273 ≠ gb274)); have n6_ := Aside0.mk ((xNr BK273.out hg : gb274 ≠ gb273)); clear BK273; clear HB; have BK273 := n0_; have HB := n1_; have BK274 := n2_; have GW274 := n3_; have GE274 := n4_; have NB273_274 := n5_; have NB274_273 := n6_; clear n0_ n1_ n2_ n3_ n4_ n5_ n6_; clear hb hbox hg))
 have n0_ := Aside0.mk (blk_drew BK273.out)
 have n1_ := Aside0.mk (blk_drew BK274.out)
 have n2_ := Aside0.mk (below_drew1 HB.out)
 clear BK273
 clear BK274
 clear HB
 have BK273 := n0_
 have BK274 := n1_
 have HB := n2_
 clear n0_ n1_ n2_
 refine start_ (n := 8) (S := fun w' => w'.cell? ⟨gb273, 0, none⟩ = some (.int .u64 a0_0) ∧ w'.cell? ⟨gb273, 1, none⟩ = some (.int .u64 a0_1) ∧ w'.cell? ⟨gb273, 2, none⟩ = some (.int .i64 a0_2) ∧ w'.cell? ⟨gb274, 0, none⟩ = some (.int .u64 a1_0) ∧ w'.cell? ⟨gb274, 1, none⟩ = some (.int .u64 a1_1)) (ds := []) #[false, false, false, false, false, false, false, false] (by kernel_rfl) rfl rfl ⟨(blk_cell BK273.out 0).trans rfl, (blk_cell BK273.out 1).trans rfl, (blk_cell BK273.out 2).trans rfl, (blk_cell BK274.out 0).trans rfl, (blk_cell BK274.out 1).trans rfl⟩ (fun hHeld => ?_); refine with_tabW prefix_Has.tab1 prefix_Has.bits1 (fun HT_ HW_ => ?_)
 generalize w5.drew = w6 at BK273 BK274 HB hHeld ⊢
 refine pure_ (i := 0) (N := some 5) (v := ?_) (a' := ?_) #[true, false, false, false, false, false, false, false] rfl rfl (any_of HT_.out (by kernel_rfl)) (fun _ _ _ h => h) (Or.inl ⟨by rfl, ?_⟩) ?_ ?_
 rotate_left
 ·intro w'
  go_simp
  with_reducible rfl
 rotate_left
 ·simp only [Act.put, List.setIfInBounds_toArray, List.set_cons_zero, List.set_cons_succ, i64_w, i32_w]
  rfl
 refine pure_ (i := 4) (N := some 9) (v := ?_) (a' := ?_) #[true, false, false, false, true, false, false, false] rfl rfl (any_of HT_.out (by kernel_rfl)) (fun _ _ _ h => h) (Or.inl ⟨by rfl, ?_⟩) ?_ ?_
 rotate_left
 ·intro w'
  go_simp
  with_reducible rfl
 rotate_left
 ·simp only [Act.put, List.setIfInBounds_toArray, List.set_cons_zero, List.set_cons_succ, i64_w, i32_w]
  rfl
 refine take_ (i := 1) (N := some 6) (v := ?_) (a' := ?_) #[true, true, false, false, true, false, false, false] rfl rfl (take_ofW HT_.out HW_.out (by kernel_rfl)) (fun _ _ _ h => h) (Or.inl ⟨by rfl, ?_⟩) hHeld ?_ ?_
 rotate_left
 ·rintro w' ⟨s0, s1, s2, s3, s4⟩
  go_simp
  with_reducible rfl
 rotate_left
 ·simp only [Act.put, List.setIfInBounds_toArray, List.set_cons_zero, List.set_cons_succ, i64_w, i32_w]
  rfl
 refine take_ (i := 2) (N := some 7) (v := ?_) (a' := ?_) #[true, true, true, false, true, false, false, false] rfl rfl (take_ofW HT_.out HW_.out (by kernel_rfl)) (fun _ _ _ h => h) (Or.inl ⟨by rfl, ?_⟩) hHeld ?_ ?_
 rotate_left
 ·rintro w' ⟨s0, s1, s2, s3, s4⟩
  go_simp
  with_reducible rfl
 rotate_left
 ·simp only [Act.put, List.setIfInBounds_toArray, List.set_cons_zero, List.set_cons_succ, i64_w, i32_w]
  rfl
 refine take_ (i := 5) (N := some 10) (v := ?_) (a' := ?_) #[true, true, true, false, true, true, false, false] rfl rfl (take_ofW HT_.out HW_.out (by kernel_rfl)) (fun _ _ _ h => h) (Or.inl ⟨by rfl, ?_⟩) hHeld ?_ ?_
 rotate_left
 ·rintro w' ⟨s0, s1, s2, s3, s4⟩
  go_simp
  with_reducible rfl
 rotate_left
 ·simp only [Act.put, List.setIfInBounds_toArray, List.set_cons_zero, List.set_cons_succ, i64_w, i32_w]
  rfl
 refine one_ (i := 3) (N := some 8) #[true, true, true, true, true, true, false, false] rfl rfl (one_of HT_.out (by kernel_rfl)) (by decide) (fun K hK => ?_)
 refine goes_ Tryd.func51 (by kernel_rfl) rfl #[.agg #[.int .u64 a0_0, .int .u64 a0_1], .agg #[.int .u64 a1_0, .int .u64 a1_1]] (by rfl) rfl rfl xM ?_
 with_reducible refine (word_Common.calls a0_0 a0_1 a1_0 a1_1 t275 _ A3.out).mono ?_
 rintro e w7 ⟨rfl, hb⟩
 refine ⟨_, rfl, ?_⟩
 have n0_ := xP BK273.out hb
 have n1_ := xP BK274.out hb
 have n2_ := Aside0.mk (below_step xG hb)
 clear BK273
 clear BK274
 clear HB
 have BK273 := n0_
 have BK274 := n1_
 have HB := n2_
 clear n0_ n1_ n2_
 (try clear hb)
 (try clear hb2)
 (try clear hk)
 (try clear hi)
 refine hK.out _ _ ⟨(blk_cell BK273.out 0).trans rfl, (blk_cell BK273.out 1).trans rfl, (blk_cell BK273.out 2).trans rfl, (blk_cell BK274.out 0).trans rfl, (blk_cell BK274.out 1).trans rfl⟩ (fun hHeld => ?_)
 clear hK K
 refine norm_ (a' := ?_) ?_ ?_
 rotate_left
 ·show Act.put _ (some 8) _ = _
  simp only [Act.put, List.setIfInBounds_toArray, List.set_cons_zero, List.set_cons_succ, i64_w, i32_w]
  rfl
 refine pure_ (i := 6) (N := some 11) (v := ?_) (a' := ?_) #[true, true, true, true, true, true, true, false] rfl rfl (any_of HT_.out (by kernel_rfl)) (fun _ _ _ h => h) (Or.inl ⟨by rfl, ?_⟩) ?_ ?_
 rotate_left
 ·intro w'
  go_simp
  with_reducible rfl
 rotate_left
 ·simp only [Act.put, List.setIfInBounds_toArray, List.set_cons_zero, List.set_cons_succ, i64_w, i32_w]
  rfl
 refine pure_ (i := 7) (N := some 4) (v := ?_) (a' := ?_) #[true, true, true, true, true, true, true, true] rfl rfl (any_of HT_.out (by kernel_rfl)) (fun _ _ _ h => h) (Or.inl ⟨by rfl, ?_⟩) ?_ ?_
 rotate_left
 ·intro w'
  go_simp
  with_reducible rfl
 rotate_left
 ·simp only [Act.put, List.setIfInBounds_toArray, List.set_cons_zero, List.set_cons_succ, i64_w, i32_w]
  rfl
 refine done_ (done_of HT_.out (by kernel_rfl)) ?_
 try go_wp2
 go_ret
 exact ⟨xE, xG⟩
def prefix_Within.f (a0_0 : Int) (a0_1 : Int) (a0_2 : Int) (a1_0 : Int) (a1_1 : Int) (a1_2 : Int) : Option (Bool) := if a0_2 ≥ a1_2 then ((prefix_Has.f a1_0 a1_1 a1_2 a0_0 a0_1).bind fun t294 => (some t294)) else (some false)
set_option maxHeartbeats 8000000 in
set_option maxRecDepth 100000 in
theorem prefix_Within.calls (a0_0 : Int) (a0_1 : Int) (a0_2 : Int) (a1_0 : Int) (a1_1 : Int) (a1_2 : Int) (r : Bool) (w : World) (h : prefix_Within.f a0_0 a0_1 a0_2 a1_0 a1_1 a1_2 = some r) :
  Calls Tryd.prog 22 #[.agg #[.int .u64 a0_0, .int .u64 a0_1, .int .i64 a0_2], .agg #[.int .u64 a1_0, .int .u64 a1_1, .int .i64 a1_2]] w fun e w' => e = .returned (.bool r) ∧ Below w.heap.size w w' := by
 have hu28 := Tryd.underlying28
 have hu24 := Tryd.underlying24
 have HB := Aside0.mk (Below.refl w.heap.size w)
 have H : (if a0_2 ≥ a1_2 then ((prefix_Has.f a1_0 a1_1 a1_2 a0_0 a0_1).bind fun t294 => (some t294)) else (some false)) = some r := h
 clear h
 by_cases c3 : a0_2 ≥ a1_2
 ·rw [if_pos c3] at H
  have c3b0 : decide (a1_2 ≤ a0_2) = true := decide_eq_true c3
  clear c3
  replace H := Option.bind_eq_some_iff.mp H
  obtain ⟨t294, A40, H⟩ := H
  replace H : (some t294) = some r := H
  have A4 := Aside0.mk A40
  clear A40
  obtain rfl := Option.some.inj H
  go_enter Tryd.func22, Tryd.ntmps22
  go_wp2_with (first | ((with_reducible refine gate_dst (N := 2) rfl ?_); refine box_event ?hg (N := 2) ?hd (cs := #[.int .u64 a0_0, .int .u64 a0_1, .int .i64 a0_2]) (t := 28) ?hr ?_; (case hd => rfl); (case hg => rfl); (case hr => first | (go_simp; done) | (go_simp; rfl)); intro gb292 hg w5 hbox hb; have n0_ := Aside0.mk (below_step xB hb); have n1_ := Aside0.mk (hbox); have n2_ := xS w hg; have n3_ := xS w hg; clear HB; have HB := n0_; have BK292 := n1_; have GW292 := n2_; have GE292 := n3_; clear n0_ n1_ n2_ n3_; clear hb hbox hg) | ((with_reducible refine gate_dst (N := 3) rfl ?_); refine box_event ?hg (N := 3) ?hd (cs := #[.int .u64 a1_0, .int .u64 a1_1, .int .i64 a1_2]) (t := 28) ?hr ?_; (case hd => rfl); (case hg => rfl); (case hr => first | (go_simp; done) | (go_simp; rfl)); intro gb293 hg w6 hbox hb; have n0_ := xP BK292.out hb; have n1_ := Aside0.mk (below_step xG hb); have n2_ := Aside0.mk (hbox); have n3_ := xT w hg; have n4_ := xT w hg; have n5_ := Aside0.mk ((xNl BK292.out hg : gb292 ≠ gb293)); have n6_ := Aside0.mk ((xNr BK292.out hg : gb293 ≠ gb292)); clear BK292; clear HB; have BK292 := n0_; have HB := n1_; have BK293 := n2_; have GW293 := n3_; have GE293 := n4_; have NB292_293 := n5_; have NB293_292 := n6_; clear n0_ n1_ n2_ n3_ n4_ n5_ n6_; clear hb hbox hg; have hnb7 := NB292_293.out; have hnc7 := NB293_292.out; have hcz8_0 : w6.cell? ⟨gb292, 0, none⟩ = some (.int .u64 a0_0) := (blk_cell BK292.out 0).trans rfl; have hcz8_1 : w6.cell? ⟨gb292, 1, none⟩ = some (.int .u64 a0_1) := (blk_cell BK292.out 1).trans rfl; have hcz8_2 : w6.cell? ⟨gb292, 2, none⟩ = some (.int .i64 a0_2) := (blk_cell BK292.out 2).trans rfl; have hfz8_0 := blk_frozen BK292.out 0; have hfz8_1 := blk_frozen BK292.out 1; have hfz8_2 := blk_frozen BK292.out 2; have hcz9_0 : w6.cell? ⟨gb293, 0, none⟩ = some (.int .u64 a1_0) := (blk_cell BK293.out 0).trans rfl; have hcz9_1 : w6.cell? ⟨gb293, 1, none⟩ = some (.int .u64 a1_1) := (blk_cell BK293.out 1).trans rfl; have hcz9_2 : w6.cell? ⟨gb293, 2, none⟩ = some (.int .i64 a1_2) := (blk_cell BK293.out 2).trans rfl; have hfz9_0 := blk_frozen BK293.out 0; have hfz9_1 := blk_frozen BK293.out 1; have hfz9_2 := blk_frozen BK293.out 2) | (go_at_call 18; (with_reducible refine (prefix_Has.calls a1_0 a1_1 a1_2 a0_0 a0_1 t294 _ A4.out).mono ?_); rintro e w10 ⟨rfl, hb⟩; have n0_ := xP BK292.out hb; have n1_ := xP BK293.out hb; have n2_ := Aside0.mk (below_step xG hb); clear BK292; clear BK293; clear HB; have BK292 := n0_; have BK293 := n1_; have HB := n2_; clear n0_ n1_ n2_; (try clear hb); (try clear hb2); (try clear hk); (try clear hi)))
  go_ret
  exact ⟨xE, xG⟩
 ·rw [if_neg c3] at H
  have c3b0 : decide (a1_2 ≤ a0_2) = false := decide_eq_false c3
  clear c3
  obtain rfl := Option.some.inj H
  go_enter Tryd.func22, Tryd.ntmps22
  go_wp2_with (first | ((with_reducible refine gate_dst (N := 2) rfl ?_); refine box_event ?hg (N := 2) ?hd (cs := #[.int .u64 a0_0, .int .u64 a0_1, .int .i64 a0_2]) (t := 28) ?hr ?_; (case hd => rfl); (case hg => rfl); (case hr => first | (go_simp; done) | (go_simp; rfl)); intro gb292 hg w11 hbox hb; have n0_ := Aside0.mk (below_step xB hb); have n1_ := Aside0.mk (hbox); have n2_ := xS w hg; have n3_ := xS w hg; clear HB; have HB := n0_; have BK292 := n1_; have GW292 := n2_; have GE292 := n3_; clear n0_ n1_ n2_ n3_; clear hb hbox hg) | ((with_reducible refine gate_dst (N := 3) rfl ?_); refine box_event ?hg (N := 3) ?hd (cs := #[.int .u64 a1_0, .int .u64 a1_1, .int .i64 a1_2]) (t := 28) ?hr ?_; (case hd => rfl); (case hg => rfl); (case hr => first | (go_simp; done) | (go_simp; rfl)); intro gb293 hg w12 hbox hb; have n0_ := xP BK292.out hb; have n1_ := Aside0.mk (below_step xG hb); have n2_ := Aside0.mk (hbox); have n3_ := xT w hg; have n4_ := xT w hg; have n5_ := Aside0.mk ((xNl BK292.out hg : gb292 ≠ gb293)); have n6_ := Aside0.mk ((xNr BK292.out hg : gb293 ≠ gb292)); clear BK292; clear HB; have BK292 := n0_; have HB := n1_; have BK293 := n2_; have GW293 := n3_; have GE293 := n4_; have NB292_293 := n5_; have NB293_292 := n6_; clear n0_ n1_ n2_ n3_ n4_ n5_ n6_; clear hb hbox hg; have hnb13 := NB292_293.out; have hnc13 := NB293_292.out; have hcz14_0 : w12.cell? ⟨gb292, 0, none⟩ = some (.int .u64 a0_0) := (blk_cell BK292.out 0).trans rfl; have hcz14_1 : w12.cell? ⟨gb292, 1, none⟩ = some (.int .u64 a0_1) := (blk_cell BK292.out 1).trans rfl; have hcz14_2 : w12.cell? ⟨gb292, 2, none⟩ = some (.int .i64 a0_2) := (blk_cell BK292.out 2).trans rfl; have hfz14_0 := blk_frozen BK292.out 0; have hfz14_1 := blk_frozen BK292.out 1; have hfz14_2 := blk_frozen BK292.out 2; have hcz15_0 : w12.cell? ⟨gb293, 0, none⟩ = some (.int .u64 a1_0) := (blk_cell BK293.out 0).trans rfl; have hcz15_1 : w12.cell? ⟨gb293, 1, none⟩ = some (.int .u64 a1_1) := (blk_cell BK293.out 1).trans rfl; have hcz15_2 : w12.cell? ⟨gb293, 2, none⟩ = some (.int .i64 a1_2) := (blk_cell BK293.out 2).trans rfl; have hfz15_0 := blk_frozen BK293.out 0; have hfz15_1 := blk_frozen BK293.out 1; have hfz15_2 := blk_frozen BK293.out 2))
  go_ret
  exact ⟨xE, xG⟩
end Go.Proofs.YtdjhmapmhajkcaaDoor.X
