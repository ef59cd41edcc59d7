-- Printed by a program of this session (xprint.py, over the kit's printer)
import Derived.Test.YtamiaaeaehdahaaDoorX0
import Derived.Test.YtamiaaeaehdahaaDoorZBX1
import Derived.Laws.Bits64b
import Derived.Laws.BitsAllLaws
import Derived.Laws.IdiomStrings
import Derived.Test.YtamiaaeaehdahaaDoorShelf
import Derived.Laws.AppendOwn
import Derived.Lib.ItoaLen
import Derived.Test.YtamiaaeaehdahaaDoorSh
namespace Go.Proofs.YtamiaaeaehdahaaDoor.X
open Go.RowKit Go.Proofs.YtamiaaeaehdahaaDoorW.PrintWords Go.Proofs.YtamiaaeaehdahaaDoorW.PrintLast Go.Proofs.YtamiaaeaehdahaaDoor.Sm Go.Proofs.YtamiaaeaehdahaaDoor.Sh
set_option linter.unusedVariables false
set_option linter.unusedSimpArgs false
attribute [local go_sem high] eqA24
def word_And.f (a0_0 : Int) (a0_1 : Int) (a1_0 : Int) (a1_1 : Int) : Option (Int × Int) := some (Go.bits .and .u64 a0_0 a1_0, Go.bits .and .u64 a0_1 a1_1)
set_option maxHeartbeats 8000000 in
set_option maxRecDepth 100000 in
theorem word_And.calls (a0_0 : Int) (a0_1 : Int) (a1_0 : Int) (a1_1 : Int) (r1 : Int) (r2 : Int) (w : World) (h : word_And.f a0_0 a0_1 a1_0 a1_1 = some (r1, r2)) :
    Calls Tryd.prog 20 #[.agg #[.int .u64 a0_0, .int .u64 a0_1], .agg #[.int .u64 a1_0, .int .u64 a1_1]] w fun e w' => e = .returned (.agg #[.int .u64 r1, .int .u64 r2]) ∧ Below w.heap.size w w' := by
  have hu24 := Tryd.underlying24
  have HB := Aside0.mk (Below.refl w.heap.size w)
  have H : (some (Go.bits .and .u64 a0_0 a1_0, Go.bits .and .u64 a0_1 a1_1)) = some (r1, r2) := h
  clear h
  simp only [Option.some.injEq, Prod.mk.injEq] at H
  obtain ⟨rfl, rfl⟩ := H
  go_enter Tryd.func20, Tryd.ntmps20
  go_wp2_with (first | ((with_reducible refine gate_dst (N := 2) rfl ?_); refine box_event ?hg (N := 2) ?hd (cs := #[.int .u64 a0_0, .int .u64 a0_1]) (t := 24) ?hr ?_; (case hd => rfl); (case hg => rfl); (case hr => first | (go_simp; done) | (go_simp; rfl)); intro gb101 hg w3 hbox hb; have n0_ := Aside0.mk (below_step xB hb); have n1_ := Aside0.mk (hbox); have n2_ := Aside0.mk ((by rw [hg]; exact (below_size xB) : w.heap.size ≤ gb101)); have n3_ := Aside0.mk ((by rw [hg]; exact (below_size xB) : w.heap.size ≤ gb101)); clear HB; have HB := n0_; have BK101 := n1_; have GW101 := n2_; have GE101 := n3_; clear n0_ n1_ n2_ n3_; clear hb hbox hg) | ((with_reducible refine gate_dst (N := 3) rfl ?_); refine box_event ?hg (N := 3) ?hd (cs := #[.int .u64 a1_0, .int .u64 a1_1]) (t := 24) ?hr ?_; (case hd => rfl); (case hg => rfl); (case hr => first | (go_simp; done) | (go_simp; rfl)); intro gb102 hg w4 hbox hb; have n0_ := Aside0.mk (blk_below (g := gb101) (o := .cells #[.int .u64 a0_0, .int .u64 a0_1] 24 (0, 0)) (xK BK101.out) hb); have n1_ := Aside0.mk (below_step xG hb); have n2_ := Aside0.mk (hbox); have n3_ := Aside0.mk ((by rw [hg]; exact (below_size xG) : w.heap.size ≤ gb102)); have n4_ := Aside0.mk ((by rw [hg]; exact (below_size xG) : w.heap.size ≤ gb102)); have n5_ := Aside0.mk ((xN BK101.out : gb101 ≠ gb102)); have n6_ := Aside0.mk ((xN BK101.out : gb102 ≠ gb101)); clear BK101; clear HB; have BK101 := n0_; have HB := n1_; have BK102 := n2_; have GW102 := n3_; have GE102 := n4_; have NB101_102 := n5_; have NB102_101 := n6_; clear n0_ n1_ n2_ n3_ n4_ n5_ n6_; clear hb hbox hg) | ((with_reducible refine gate_dst (N := 4) rfl ?_); refine box_event ?hg (N := 4) ?hd (cs := #[.int .u64 0, .int .u64 0]) (t := 24) ?hr ?_; (case hd => rfl); (case hg => rfl); (case hr => first | (go_simp; done) | (go_simp; rfl)); intro gb103 hg w5 hbox hb; have n0_ := Aside0.mk (blk_below (g := gb101) (o := .cells #[.int .u64 a0_0, .int .u64 a0_1] 24 (0, 0)) (xK BK101.out) hb); have n1_ := Aside0.mk (blk_below (g := gb102) (o := .cells #[.int .u64 a1_0, .int .u64 a1_1] 24 (0, 0)) (xK BK102.out) hb); have n2_ := Aside0.mk (below_step xG hb); have n3_ := Aside0.mk (hbox); have n4_ := Aside0.mk ((by rw [hg]; exact (below_size xG) : w.heap.size ≤ gb103)); have n5_ := Aside0.mk ((by rw [hg]; exact (below_size xG) : w.heap.size ≤ gb103)); have n6_ := Aside0.mk ((xN BK101.out : gb101 ≠ gb103)); have n7_ := Aside0.mk ((xN BK101.out : gb103 ≠ gb101)); have n8_ := Aside0.mk ((xN BK102.out : gb102 ≠ gb103)); have n9_ := Aside0.mk ((xN BK102.out : gb103 ≠ gb102)); clear BK101; clear BK102; clear HB; have BK101 := n0_; have BK102 := n1_; have HB := n2_; have BK103 := n3_; have GW103 := n4_; have GE103 := n5_; have NB101_103 := n6_; have NB103_101 := n7_; have NB102_103 := n8_; have NB103_102 := n9_; clear n0_ n1_ n2_ n3_ n4_ n5_ n6_ n7_ n8_ n9_; clear hb hbox hg; have hnb6 := NB101_102.out; have hnc6 := NB102_101.out; have hnb7 := NB101_103.out; have hnc7 := NB103_101.out; have hcz8_0 : w5.cell? ⟨gb101, 0, none⟩ = some (.int .u64 a0_0) := (blk_cell BK101.out 0).trans rfl; have hcz8_1 : w5.cell? ⟨gb101, 1, none⟩ = some (.int .u64 a0_1) := (blk_cell BK101.out 1).trans rfl; have hfz8_0 := blk_frozen BK101.out 0; have hfz8_1 := blk_frozen BK101.out 1; have hnb9 := NB102_103.out; have hnc9 := NB103_102.out; have hcz10_0 : w5.cell? ⟨gb102, 0, none⟩ = some (.int .u64 a1_0) := (blk_cell BK102.out 0).trans rfl; have hcz10_1 : w5.cell? ⟨gb102, 1, none⟩ = some (.int .u64 a1_1) := (blk_cell BK102.out 1).trans rfl; have hfz10_0 := blk_frozen BK102.out 0; have hfz10_1 := blk_frozen BK102.out 1; have hcz11_0 : w5.cell? ⟨gb103, 0, none⟩ = some (.int .u64 0) := (blk_cell BK103.out 0).trans rfl; have hcz11_1 : w5.cell? ⟨gb103, 1, none⟩ = some (.int .u64 0) := (blk_cell BK103.out 1).trans rfl; have hfz11_0 := blk_frozen BK103.out 0; have hfz11_1 := blk_frozen BK103.out 1))
  refine bodyPost_ret (results_cell_row rfl _ _ gb103 24 #[.int .u64 (Go.bits .and .u64 a0_0 a1_0), .int .u64 (Go.bits .and .u64 a0_1 a1_1)] (0, 0) _ rfl (by (with_reducible repeat (first | refine blk_drewN ?_ _ | refine blk_drew ?_ | refine blk_alloc ?_ _)); refine blk_put (cs := #[.int .u64 (Go.bits .and .u64 a0_0 a1_0), .int .u64 0]) ?_ 1 _ rfl; (with_reducible repeat (first | refine blk_drewN ?_ _ | refine blk_drew ?_ | refine blk_alloc ?_ _)); refine blk_put (cs := #[.int .u64 0, .int .u64 0]) ?_ 0 _ rfl; (with_reducible repeat (first | refine blk_drewN ?_ _ | refine blk_drew ?_ | refine blk_alloc ?_ _)); exact BK103.out) Tryd.underlying24 rfl (by kernel_rfl)) rfl ?_
  exact ⟨xE, xG⟩
def word_Not.f (a0_0 : Int) (a0_1 : Int) : Option (Int × Int) := some (Go.bits .xor .u64 18446744073709551615 a0_0, Go.bits .xor .u64 18446744073709551615 a0_1)
set_option maxHeartbeats 8000000 in
set_option maxRecDepth 100000 in
theorem word_Not.calls (a0_0 : Int) (a0_1 : Int) (r1 : Int) (r2 : Int) (w : World) (h : word_Not.f a0_0 a0_1 = some (r1, r2)) :
    Calls Tryd.prog 21 #[.agg #[.int .u64 a0_0, .int .u64 a0_1]] w fun e w' => e = .returned (.agg #[.int .u64 r1, .int .u64 r2]) ∧ Below w.heap.size w w' := by
  have hu24 := Tryd.underlying24
  have HB := Aside0.mk (Below.refl w.heap.size w)
  have H : (some (Go.bits .xor .u64 18446744073709551615 a0_0, Go.bits .xor .u64 18446744073709551615 a0_1)) = some (r1, r2) := h
  clear h
  simp only [Option.some.injEq, Prod.mk.injEq] at H
  obtain ⟨rfl, rfl⟩ := H
  go_enter Tryd.func21, Tryd.ntmps21
  go_wp2_with (first | ((with_reducible refine gate_dst (N := 1) rfl ?_); refine box_event ?hg (N := 1) ?hd (cs := #[.int .u64 a0_0, .int .u64 a0_1]) (t := 24) ?hr ?_; (case hd => rfl); (case hg => rfl); (case hr => first | (go_simp; done) | (go_simp; rfl)); intro gb104 hg w2 hbox hb; have n0_ := Aside0.mk (below_step xB hb); have n1_ := Aside0.mk (hbox); have n2_ := Aside0.mk ((by rw [hg]; exact (below_size xB) : w.heap.size ≤ gb104)); have n3_ := Aside0.mk ((by rw [hg]; exact (below_size xB) : w.heap.size ≤ gb104)); clear HB; have HB := n0_; have BK104 := n1_; have GW104 := n2_; have GE104 := n3_; clear n0_ n1_ n2_ n3_; clear hb hbox hg) | ((with_reducible refine gate_dst (N := 2) rfl ?_); refine box_event ?hg (N := 2) ?hd (cs := #[.int .u64 0, .int .u64 0]) (t := 24) ?hr ?_; (case hd => rfl); (case hg => rfl); (case hr => first | (go_simp; done) | (go_simp; rfl)); intro gb105 hg w3 hbox hb; have n0_ := Aside0.mk (blk_below (g := gb104) (o := .cells #[.int .u64 a0_0, .int .u64 a0_1] 24 (0, 0)) (xK BK104.out) hb); have n1_ := Aside0.mk (below_step xG hb); have n2_ := Aside0.mk (hbox); have n3_ := Aside0.mk ((by rw [hg]; exact (below_size xG) : w.heap.size ≤ gb105)); have n4_ := Aside0.mk ((by rw [hg]; exact (below_size xG) : w.heap.size ≤ gb105)); have n5_ := Aside0.mk ((xN BK104.out : gb104 ≠ gb105)); have n6_ := Aside0.mk ((xN BK104.out : gb105 ≠ gb104)); clear BK104; clear HB; have BK104 := n0_; have HB := n1_; have BK105 := n2_; have GW105 := n3_; have GE105 := n4_; have NB104_105 := n5_; have NB105_104 := n6_; clear n0_ n1_ n2_ n3_ n4_ n5_ n6_; clear hb hbox hg; have hnb4 := NB104_105.out; have hnc4 := NB105_104.out; have hcz5_0 : w3.cell? ⟨gb104, 0, none⟩ = some (.int .u64 a0_0) := (blk_cell BK104.out 0).trans rfl; have hcz5_1 : w3.cell? ⟨gb104, 1, none⟩ = some (.int .u64 a0_1) := (blk_cell BK104.out 1).trans rfl; have hfz5_0 := blk_frozen BK104.out 0; have hfz5_1 := blk_frozen BK104.out 1; have hcz6_0 : w3.cell? ⟨gb105, 0, none⟩ = some (.int .u64 0) := (blk_cell BK105.out 0).trans rfl; have hcz6_1 : w3.cell? ⟨gb105, 1, none⟩ = some (.int .u64 0) := (blk_cell BK105.out 1).trans rfl; have hfz6_0 := blk_frozen BK105.out 0; have hfz6_1 := blk_frozen BK105.out 1))
  refine bodyPost_ret (results_cell_row rfl _ _ gb105 24 #[.int .u64 (Go.bits .xor .u64 18446744073709551615 a0_0), .int .u64 (Go.bits .xor .u64 18446744073709551615 a0_1)] (0, 0) _ rfl (by (with_reducible repeat (first | refine blk_drewN ?_ _ | refine blk_drew ?_ | refine blk_alloc ?_ _)); refine blk_put (cs := #[.int .u64 (Go.bits .xor .u64 18446744073709551615 a0_0), .int .u64 0]) ?_ 1 _ rfl; (with_reducible repeat (first | refine blk_drewN ?_ _ | refine blk_drew ?_ | refine blk_alloc ?_ _)); refine blk_put (cs := #[.int .u64 0, .int .u64 0]) ?_ 0 _ rfl; (with_reducible repeat (first | refine blk_drewN ?_ _ | refine blk_drew ?_ | refine blk_alloc ?_ _)); exact BK105.out) Tryd.underlying24 rfl (by kernel_rfl)) rfl ?_
  exact ⟨xE, xG⟩
def word_Shr.f (a0_0 : Int) (a0_1 : Int) (a1 : Int) : Option (Int × Int) := if a1 ≤ 0 then (some (a0_0, a0_1)) else (if a1 < 64 then (if 0 ≤ a1 then (if 0 ≤ (wrap64 (64 - a1)) then (some (shr .u64 a0_0 a1, Go.bits .or .u64 (shr .u64 a0_1 a1) (shl .u64 a0_0 (wrap64 (64 - a1))))) else (none)) else (none)) else (if a1 < 128 then (if 0 ≤ (wrap64 (a1 - 64)) then (some (0, shr .u64 a0_0 (wrap64 (a1 - 64)))) else (none)) else (some (0, 0))))
def word_Shr.T4 : Bool × List (List Nat × List Nat) := (true, [([], []), ([0], [0]), ([], []), ([1, 2], [1, 2]), ([], []), ([4], [4]), ([], []), ([5, 6], [5, 6]), ([], []), ([8], [8]), ([], []), ([10], [10]), ([9, 11], [9, 11]), ([7, 12], [7, 12]), ([3, 13], [3, 13]), ([14, 0, 1, 2, 3, 4, 5, 6, 7, 8, 9, 10, 11, 12, 13, 14], [14])])
def word_Shr.B4 : List Nat := [0, 1, 0, 7, 0, 16, 0, 112, 0, 256, 0, 1024, 3840, 8176, 16383, 32767]
theorem word_Shr.tab4 : rtab .any (opsOf Tryd.f15 4) = word_Shr.T4 := by kernel_rfl
theorem word_Shr.bits4 : waitsOk word_Shr.T4.2 word_Shr.B4 = true := by kernel_rfl
set_option maxHeartbeats 8000000 in
set_option maxRecDepth 100000 in
theorem word_Shr.calls (a0_0 : Int) (a0_1 : Int) (a1 : Int) (r1 : Int) (r2 : Int) (w : World) (h : word_Shr.f a0_0 a0_1 a1 = some (r1, r2)) :
    Calls Tryd.prog 15 #[.agg #[.int .u64 a0_0, .int .u64 a0_1], .int .i64 a1] w fun e w' => e = .returned (.agg #[.int .u64 r1, .int .u64 r2]) ∧ Below w.heap.size w w' := by
  have hu24 := Tryd.underlying24
  have HB := Aside0.mk (Below.refl w.heap.size w)
  have H : (if a1 ≤ 0 then (some (a0_0, a0_1)) else (if a1 < 64 then (if 0 ≤ a1 then (if 0 ≤ (wrap64 (64 - a1)) then (some (shr .u64 a0_0 a1, Go.bits .or .u64 (shr .u64 a0_1 a1) (shl .u64 a0_0 (wrap64 (64 - a1))))) else (none)) else (none)) else (if a1 < 128 then (if 0 ≤ (wrap64 (a1 - 64)) then (some (0, shr .u64 a0_0 (wrap64 (a1 - 64)))) else (none)) else (some (0, 0))))) = some (r1, r2) := h
  clear h
  by_cases c3 : a1 ≤ 0
  · rw [if_pos c3] at H
    have c3b0 : decide (a1 ≤ 0) = true := decide_eq_true c3
    clear c3
    simp only [Option.some.injEq, Prod.mk.injEq] at H
    obtain ⟨rfl, rfl⟩ := H
    go_enter Tryd.func15, Tryd.ntmps15
    go_wp2_with (first | ((with_reducible refine gate_dst (N := 2) rfl ?_); refine box_event ?hg (N := 2) ?hd (cs := #[.int .u64 a0_0, .int .u64 a0_1]) (t := 24) ?hr ?_; (case hd => rfl); (case hg => rfl); (case hr => first | (go_simp; done) | (go_simp; rfl)); intro gb106 hg w4 hbox hb; have n0_ := Aside0.mk (below_step xB hb); have n1_ := Aside0.mk (hbox); have n2_ := Aside0.mk ((by rw [hg]; exact (below_size xB) : w.heap.size ≤ gb106)); have n3_ := Aside0.mk ((by rw [hg]; exact (below_size xB) : w.heap.size ≤ gb106)); clear HB; have HB := n0_; have BK106 := n1_; have GW106 := n2_; have GE106 := n3_; clear n0_ n1_ n2_ n3_; clear hb hbox hg) | ((with_reducible refine gate_dst (N := 4) rfl ?_); refine box_event ?hg (N := 4) ?hd (cs := #[.int .u64 0, .int .u64 0]) (t := 24) ?hr ?_; (case hd => rfl); (case hg => rfl); (case hr => first | (go_simp; done) | (go_simp; rfl)); intro gb107 hg w5 hbox hb; have n0_ := Aside0.mk (blk_below (g := gb106) (o := .cells #[.int .u64 a0_0, .int .u64 a0_1] 24 (0, 0)) (xK BK106.out) hb); have n1_ := Aside0.mk (below_step xG hb); have n2_ := Aside0.mk (hbox); have n3_ := Aside0.mk ((by rw [hg]; exact (below_size xG) : w.heap.size ≤ gb107)); have n4_ := Aside0.mk ((by rw [hg]; exact (below_size xG) : w.heap.size ≤ gb107)); have n5_ := Aside0.mk ((xN BK106.out : gb106 ≠ gb107)); have n6_ := Aside0.mk ((xN BK106.out : gb107 ≠ gb106)); clear BK106; clear HB; have BK106 := n0_; have HB := n1_; have BK107 := n2_; have GW107 := n3_; have GE107 := n4_; have NB106_107 := n5_; have NB107_106 := n6_; clear n0_ n1_ n2_ n3_ n4_ n5_ n6_; clear hb hbox hg; have hnb6 := NB106_107.out; have hnc6 := NB107_106.out; have hcz7_0 : w5.cell? ⟨gb106, 0, none⟩ = some (.int .u64 a0_0) := (blk_cell BK106.out 0).trans rfl; have hcz7_1 : w5.cell? ⟨gb106, 1, none⟩ = some (.int .u64 a0_1) := (blk_cell BK106.out 1).trans rfl; have hfz7_0 := blk_frozen BK106.out 0; have hfz7_1 := blk_frozen BK106.out 1; have hcz8_0 : w5.cell? ⟨gb107, 0, none⟩ = some (.int .u64 0) := (blk_cell BK107.out 0).trans rfl; have hcz8_1 : w5.cell? ⟨gb107, 1, none⟩ = some (.int .u64 0) := (blk_cell BK107.out 1).trans rfl; have hfz8_0 := blk_frozen BK107.out 0; have hfz8_1 := blk_frozen BK107.out 1))
    refine bodyPost_ret (results_cell_row rfl _ _ gb107 24 #[.int .u64 a0_0, .int .u64 a0_1] (0, 0) _ rfl (by (with_reducible repeat (first | refine blk_drewN ?_ _ | refine blk_drew ?_ | refine blk_alloc ?_ _)); refine blk_put (cs := #[.int .u64 a0_0, .int .u64 0]) ?_ 1 _ rfl; (with_reducible repeat (first | refine blk_drewN ?_ _ | refine blk_drew ?_ | refine blk_alloc ?_ _)); refine blk_put (cs := #[.int .u64 0, .int .u64 0]) ?_ 0 _ rfl; (with_reducible repeat (first | refine blk_drewN ?_ _ | refine blk_drew ?_ | refine blk_alloc ?_ _)); exact BK107.out) Tryd.underlying24 rfl (by kernel_rfl)) rfl ?_
    exact ⟨xE, xG⟩
  · rw [if_neg c3] at H
    have c3b0 : decide (a1 ≤ 0) = false := decide_eq_false c3
    clear c3
    by_cases c9 : a1 < 64
    · rw [if_pos c9] at H
      have c9b0 : decide (a1 < 64) = true := decide_eq_true c9
      clear c9
      by_cases c10 : 0 ≤ a1
      · rw [if_pos c10] at H
        have c10b0 := eq_true c10
        have c10b1 : decide (0 ≤ a1) = true := decide_eq_true c10
        clear c10
        obtain ⟨ji11, hji11⟩ : ∃ j_ : Int, (shr .u64 a0_0 a1) = j_ := ⟨_, rfl⟩
        replace H : (if 0 ≤ (wrap64 (64 - a1)) then (some (ji11, Go.bits .or .u64 (shr .u64 a0_1 a1) (shl .u64 a0_0 (wrap64 (64 - a1))))) else (none)) = some (r1, r2) := by first | (rw [hji11] at H; exact H) | (simp only [hji11] at H ⊢; exact H)
        have hji11_ : (a0_0 / 2 ^ min a1.toNat 64) = ji11 := hji11
        have hji11z : a1 ≤ 64 → (a0_0 / 2 ^ a1.toNat) = ji11 := shr_small hji11
        have c12b0 := eq_true (of_decide_eq_true xA : 0 ≤ a1)
        obtain ⟨ji13, hji13⟩ : ∃ j_ : Int, (shr .u64 a0_1 a1) = j_ := ⟨_, rfl⟩
        replace H : (if 0 ≤ (wrap64 (64 - a1)) then (some (ji11, Go.bits .or .u64 (ji13) (shl .u64 a0_0 (wrap64 (64 - a1))))) else (none)) = some (r1, r2) := by first | (rw [hji13] at H; exact H) | (simp only [hji13] at H ⊢; exact H)
        have hji13_ : (a0_1 / 2 ^ min a1.toNat 64) = ji13 := hji13
        have hji13z : a1 ≤ 64 → (a0_1 / 2 ^ a1.toNat) = ji13 := shr_small hji13
        obtain ⟨ji14, hji14⟩ : ∃ j_ : Int, (wrap64 (64 - a1)) = j_ := ⟨_, rfl⟩
        replace H : (if 0 ≤ (ji14) then (some (ji11, Go.bits .or .u64 (ji13) (shl .u64 a0_0 (ji14)))) else (none)) = some (r1, r2) := by first | (rw [hji14] at H; exact H) | (simp only [hji14] at H ⊢; exact H)
        have hji14w : (IntKind.i64.wrap (64 - a1)) = ji14 := (i64_w _).trans hji14
        by_cases c15 : 0 ≤ (ji14)
        · rw [if_pos c15] at H
          have c15b0 := eq_true c15
          have c15b1 : decide (0 ≤ (ji14)) = true := decide_eq_true c15
          clear c15
          obtain ⟨ji16, hji16⟩ : ∃ j_ : Int, (shl .u64 a0_0 (ji14)) = j_ := ⟨_, rfl⟩
          replace H : (some (ji11, Go.bits .or .u64 (ji13) (ji16))) = some (r1, r2) := by first | (rw [hji16] at H; exact H) | (simp only [hji16] at H ⊢; exact H)
          have hji16_ : (IntKind.u64.wrap (a0_0 * 2 ^ min (ji14).toNat 64)) = ji16 := hji16
          have hji16z : (ji14) ≤ 64 → (IntKind.u64.wrap (a0_0 * 2 ^ (ji14).toNat)) = ji16 := shl_small hji16
          simp only [Option.some.injEq, Prod.mk.injEq] at H
          obtain ⟨rfl, rfl⟩ := H
          go_enter Tryd.func15, Tryd.ntmps15
          try go_wp2_with (first | ((with_reducible refine gate_dst (N := 2) rfl ?_); refine box_event ?hg (N := 2) ?hd (cs := #[.int .u64 a0_0, .int .u64 a0_1]) (t := 24) ?hr ?_; (case hd => rfl); (case hg => rfl); (case hr => first | (go_simp; done) | (go_simp; rfl)); intro gb106 hg w17 hbox hb; have n0_ := Aside0.mk (below_step xB hb); have n1_ := Aside0.mk (hbox); have n2_ := Aside0.mk ((by rw [hg]; exact (below_size xB) : w.heap.size ≤ gb106)); have n3_ := Aside0.mk ((by rw [hg]; exact (below_size xB) : w.heap.size ≤ gb106)); clear HB; have HB := n0_; have BK106 := n1_; have GW106 := n2_; have GE106 := n3_; clear n0_ n1_ n2_ n3_; clear hb hbox hg) | ((with_reducible refine gate_dst (N := 4) rfl ?_); refine box_event ?hg (N := 4) ?hd (cs := #[.int .u64 0, .int .u64 0]) (t := 24) ?hr ?_; (case hd => rfl); (case hg => rfl); (case hr => first | (go_simp; done) | (go_simp; rfl)); intro gb107 hg w18 hbox hb; have n0_ := Aside0.mk (blk_below (g := gb106) (o := .cells #[.int .u64 a0_0, .int .u64 a0_1] 24 (0, 0)) (xK BK106.out) hb); have n1_ := Aside0.mk (below_step xG hb); have n2_ := Aside0.mk (hbox); have n3_ := Aside0.mk ((by rw [hg]; exact (below_size xG) : w.heap.size ≤ gb107)); have n4_ := Aside0.mk ((by rw [hg]; exact (below_size xG) : w.heap.size ≤ gb107)); have n5_ := Aside0.mk ((xN BK106.out : gb106 ≠ gb107)); have n6_ := Aside0.mk ((xN BK106.out : gb107 ≠ gb106)); clear BK106; clear HB; have BK106 := n0_; have HB := n1_; have BK107 := n2_; have GW107 := n3_; have GE107 := n4_; have NB106_107 := n5_; have NB107_106 := n6_; clear n0_ n1_ n2_ n3_ n4_ n5_ n6_; clear hb hbox hg))
          have n0_ := Aside0.mk (blk_drew BK106.out)
          have n1_ := Aside0.mk (blk_drew BK107.out)
          have n2_ := Aside0.mk (below_drew1 HB.out)
          clear BK106
          clear BK107
          clear HB
          have BK106 := n0_
          have BK107 := n1_
          have HB := n2_
          clear n0_ n1_ n2_
          refine start_ (n := 16) (S := fun w' => w'.cell? ⟨gb106, 0, none⟩ = some (.int .u64 a0_0) ∧ w'.cell? ⟨gb106, 1, none⟩ = some (.int .u64 a0_1)) (ds := []) #[false, false, false, false, false, false, false, false, false, false, false, false, false, false, false, false] (by kernel_rfl) rfl rfl ⟨(blk_cell BK106.out 0).trans rfl, (blk_cell BK106.out 1).trans rfl⟩ (fun hHeld => ?_); refine with_tabW word_Shr.tab4 word_Shr.bits4 (fun HT_ HW_ => ?_)
          generalize w18.drew = w19 at BK106 BK107 HB hHeld ⊢
          refine pure_ (i := 0) (N := some 12) (v := ?_) (a' := ?_) #[true, false, false, false, false, false, false, false, false, false, false, false, false, false, false, false] rfl rfl (any_of HT_.out (by kernel_rfl)) (fun _ _ _ h => h) (Or.inl ⟨by rfl, ?_⟩) ?_ ?_
          rotate_left
          · intro w'
            go_simp
            with_reducible rfl
          rotate_left
          · simp only [Act.put, List.setIfInBounds_toArray, List.set_cons_zero, List.set_cons_succ, i64_w, i32_w]
            rfl
          refine pure_ (i := 2) (N := some 14) (v := ?_) (a' := ?_) #[true, false, true, false, false, false, false, false, false, false, false, false, false, false, false, false] rfl rfl (any_of HT_.out (by kernel_rfl)) (fun _ _ _ h => h) (Or.inl ⟨by rfl, ?_⟩) ?_ ?_
          rotate_left
          · intro w'
            go_simp
            with_reducible rfl
          rotate_left
          · simp only [Act.put, List.setIfInBounds_toArray, List.set_cons_zero, List.set_cons_succ, i64_w, i32_w]
            rfl
          refine pure_ (i := 4) (N := some 16) (v := ?_) (a' := ?_) #[true, false, true, false, true, false, false, false, false, false, false, false, false, false, false, false] rfl rfl (any_of HT_.out (by kernel_rfl)) (fun _ _ _ h => h) (Or.inl ⟨by rfl, ?_⟩) ?_ ?_
          rotate_left
          · intro w'
            go_simp
            with_reducible rfl
          rotate_left
          · simp only [Act.put, List.setIfInBounds_toArray, List.set_cons_zero, List.set_cons_succ, i64_w, i32_w]
            rfl
          refine pure_ (i := 6) (N := some 18) (v := ?_) (a' := ?_) #[true, false, true, false, true, false, true, false, false, false, false, false, false, false, false, false] rfl rfl (any_of HT_.out (by kernel_rfl)) (fun _ _ _ h => h) (Or.inl ⟨by rfl, ?_⟩) ?_ ?_
          rotate_left
          · intro w'
            go_simp
            with_reducible rfl
          rotate_left
          · simp only [Act.put, List.setIfInBounds_toArray, List.set_cons_zero, List.set_cons_succ, i64_w, i32_w]
            rfl
          refine pure_ (i := 8) (N := some 20) (v := ?_) (a' := ?_) #[true, false, true, false, true, false, true, false, true, false, false, false, false, false, false, false] rfl rfl (any_of HT_.out (by kernel_rfl)) (fun _ _ _ h => h) (Or.inl ⟨by rfl, ?_⟩) ?_ ?_
          rotate_left
          · intro w'
            go_simp
            with_reducible rfl
          rotate_left
          · simp only [Act.put, List.setIfInBounds_toArray, List.set_cons_zero, List.set_cons_succ, i64_w, i32_w]
            rfl
          refine pure_ (i := 10) (N := some 22) (v := ?_) (a' := ?_) #[true, false, true, false, true, false, true, false, true, false, true, false, false, false, false, false] rfl rfl (any_of HT_.out (by kernel_rfl)) (fun _ _ _ h => h) (Or.inl ⟨by rfl, ?_⟩) ?_ ?_
          rotate_left
          · intro w'
            go_simp
            with_reducible rfl
          rotate_left
          · simp only [Act.put, List.setIfInBounds_toArray, List.set_cons_zero, List.set_cons_succ, i64_w, i32_w]
            rfl
          refine pure_ (i := 11) (N := some 23) (v := ?_) (a' := ?_) #[true, false, true, false, true, false, true, false, true, false, true, true, false, false, false, false] rfl rfl (any_of HT_.out (by kernel_rfl)) (fun _ _ _ h => h) (Or.inl ⟨by rfl, ?_⟩) ?_ ?_
          rotate_left
          · intro w'
            go_simp
            with_reducible rfl
          rotate_left
          · simp only [Act.put, List.setIfInBounds_toArray, List.set_cons_zero, List.set_cons_succ, i64_w, i32_w]
            rfl
          refine take_ (i := 1) (N := some 13) (v := ?_) (a' := ?_) #[true, true, true, false, true, false, true, false, true, false, true, true, false, false, false, false] rfl rfl (take_ofW HT_.out HW_.out (by kernel_rfl)) (fun _ _ _ h => h) (Or.inl ⟨by rfl, ?_⟩) hHeld ?_ ?_
          rotate_left
          · rintro w' ⟨s0, s1⟩
            go_simp
            with_reducible rfl
          rotate_left
          · simp only [Act.put, List.setIfInBounds_toArray, List.set_cons_zero, List.set_cons_succ, i64_w, i32_w]
            rfl
          refine pure_ (i := 3) (N := some 15) (v := ?_) (a' := ?_) #[true, true, true, true, true, false, true, false, true, false, true, true, false, false, false, false] rfl rfl (any_of HT_.out (by kernel_rfl)) (fun _ _ _ h => h) (Or.inl ⟨by rfl, ?_⟩) ?_ ?_
          rotate_left
          · intro w'
            go_simp
            with_reducible rfl
          rotate_left
          · simp only [Act.put, List.setIfInBounds_toArray, List.set_cons_zero, List.set_cons_succ, i64_w, i32_w]
            rfl
          refine take_ (i := 5) (N := some 17) (v := ?_) (a' := ?_) #[true, true, true, true, true, true, true, false, true, false, true, true, false, false, false, false] rfl rfl (take_ofW HT_.out HW_.out (by kernel_rfl)) (fun _ _ _ h => h) (Or.inl ⟨by rfl, ?_⟩) hHeld ?_ ?_
          rotate_left
          · rintro w' ⟨s0, s1⟩
            go_simp
            with_reducible rfl
          rotate_left
          · simp only [Act.put, List.setIfInBounds_toArray, List.set_cons_zero, List.set_cons_succ, i64_w, i32_w]
            rfl
          refine pure_ (i := 7) (N := some 19) (v := ?_) (a' := ?_) #[true, true, true, true, true, true, true, true, true, false, true, true, false, false, false, false] rfl rfl (any_of HT_.out (by kernel_rfl)) (fun _ _ _ h => h) (Or.inl ⟨by rfl, ?_⟩) ?_ ?_
          rotate_left
          · intro w'
            go_simp
            with_reducible rfl
          rotate_left
          · simp only [Act.put, List.setIfInBounds_toArray, List.set_cons_zero, List.set_cons_succ, i64_w, i32_w]
            rfl
          refine take_ (i := 9) (N := some 21) (v := ?_) (a' := ?_) #[true, true, true, true, true, true, true, true, true, true, true, true, false, false, false, false] rfl rfl (take_ofW HT_.out HW_.out (by kernel_rfl)) (fun _ _ _ h => h) (Or.inl ⟨by rfl, ?_⟩) hHeld ?_ ?_
          rotate_left
          · rintro w' ⟨s0, s1⟩
            go_simp
            with_reducible rfl
          rotate_left
          · simp only [Act.put, List.setIfInBounds_toArray, List.set_cons_zero, List.set_cons_succ, i64_w, i32_w]
            rfl
          refine pure_ (i := 12) (N := some 24) (v := ?_) (a' := ?_) #[true, true, true, true, true, true, true, true, true, true, true, true, true, false, false, false] rfl rfl (any_of HT_.out (by kernel_rfl)) (fun _ _ _ h => h) (Or.inl ⟨by rfl, ?_⟩) ?_ ?_
          rotate_left
          · intro w'
            go_simp
            with_reducible rfl
          rotate_left
          · simp only [Act.put, List.setIfInBounds_toArray, List.set_cons_zero, List.set_cons_succ, i64_w, i32_w]
            rfl
          refine pure_ (i := 13) (N := some 25) (v := ?_) (a' := ?_) #[true, true, true, true, true, true, true, true, true, true, true, true, true, true, false, false] rfl rfl (any_of HT_.out (by kernel_rfl)) (fun _ _ _ h => h) (Or.inl ⟨by rfl, ?_⟩) ?_ ?_
          rotate_left
          · intro w'
            go_simp
            with_reducible rfl
          rotate_left
          · simp only [Act.put, List.setIfInBounds_toArray, List.set_cons_zero, List.set_cons_succ, i64_w, i32_w]
            rfl
          refine pure_ (i := 14) (N := some 26) (v := ?_) (a' := ?_) #[true, true, true, true, true, true, true, true, true, true, true, true, true, true, true, false] rfl rfl (any_of HT_.out (by kernel_rfl)) (fun _ _ _ h => h) (Or.inl ⟨by rfl, ?_⟩) ?_ ?_
          rotate_left
          · intro w'
            go_simp
            with_reducible rfl
          rotate_left
          · simp only [Act.put, List.setIfInBounds_toArray, List.set_cons_zero, List.set_cons_succ, i64_w, i32_w]
            rfl
          refine one_ (i := 15) (N := none) #[true, true, true, true, true, true, true, true, true, true, true, true, true, true, true, true] rfl rfl (one_of HT_.out (by kernel_rfl)) (by decide) (fun K hK => ?_)
          have hs20 : w19.cell? ⟨gb107, 0, none⟩ = some (.int .u64 0) := (blk_cell BK107.out 0).trans rfl
          have hfs20 := blk_frozen BK107.out 0
          have hns20_0 := NB106_107.out
          have hms20_0 := NB107_106.out
          have hs21 : w19.cell? ⟨gb107, 1, none⟩ = some (.int .u64 0) := (blk_cell BK107.out 1).trans rfl
          have hfs21 := blk_frozen BK107.out 1
          have hns21_0 := NB106_107.out
          have hms21_0 := NB107_106.out
          refine skip_ (w1 := ?_) (by rfl) rfl ?_ ?_
          rotate_left
          · go_simp
            rfl
          refine hK.out _ _ ⟨((cell_far (p := ⟨gb107, _, none⟩) NB106_107.out _).trans (((cell_far (p := ⟨gb107, _, none⟩) NB106_107.out _).trans (hHeld.1)))), ((cell_far (p := ⟨gb107, _, none⟩) NB106_107.out _).trans (((cell_far (p := ⟨gb107, _, none⟩) NB106_107.out _).trans (hHeld.2))))⟩ (fun hHeld => ?_)
          clear hK K
          refine done_ (done_of HT_.out (by kernel_rfl)) ?_
          try go_wp2
          refine bodyPost_ret (results_cell_row rfl _ _ gb107 24 #[.int .u64 ji11, .int .u64 (Go.bits .or .u64 (ji13) (ji16))] (0, 0) _ rfl (by (with_reducible repeat (first | refine blk_drewN ?_ _ | refine blk_drew ?_ | refine blk_alloc ?_ _)); refine blk_put (cs := #[.int .u64 ji11, .int .u64 0]) ?_ 1 _ rfl; (with_reducible repeat (first | refine blk_drewN ?_ _ | refine blk_drew ?_ | refine blk_alloc ?_ _)); refine blk_put (cs := #[.int .u64 0, .int .u64 0]) ?_ 0 _ rfl; (with_reducible repeat (first | refine blk_drewN ?_ _ | refine blk_drew ?_ | refine blk_alloc ?_ _)); exact BK107.out) Tryd.underlying24 rfl (by kernel_rfl)) rfl ?_
          exact ⟨by first | rfl | (simp [errW_none, errW_some] <;> rfl) | (simp only [← hji11, ← hji13, ← hji14, ← hji16]; first | rfl | (simp [errW_none, errW_some] <;> rfl)) | (simp [*, errW_none, errW_some] <;> rfl), xG⟩
        · rw [if_neg c15] at H
          exact absurd H (by simp)
      · rw [if_neg c10] at H
        exact absurd H (by simp)
    · rw [if_neg c9] at H
      have c9b0 : decide (a1 < 64) = false := decide_eq_false c9
      clear c9
      by_cases c22 : a1 < 128
      · rw [if_pos c22] at H
        have c22b0 : decide (a1 < 128) = true := decide_eq_true c22
        clear c22
        obtain ⟨ji23, hji23⟩ : ∃ j_ : Int, (wrap64 (a1 - 64)) = j_ := ⟨_, rfl⟩
        replace H : (if 0 ≤ (ji23) then (some (0, shr .u64 a0_0 (ji23))) else (none)) = some (r1, r2) := by first | (rw [hji23] at H; exact H) | (simp only [hji23] at H ⊢; exact H)
        have hji23w : (IntKind.i64.wrap (a1 - 64)) = ji23 := (i64_w _).trans hji23
        by_cases c24 : 0 ≤ (ji23)
        · rw [if_pos c24] at H
          have c24b0 := eq_true c24
          have c24b1 : decide (0 ≤ (ji23)) = true := decide_eq_true c24
          clear c24
          obtain ⟨ji25, hji25⟩ : ∃ j_ : Int, (shr .u64 a0_0 (ji23)) = j_ := ⟨_, rfl⟩
          replace H : (some (0, ji25)) = some (r1, r2) := by first | (rw [hji25] at H; exact H) | (simp only [hji25] at H ⊢; exact H)
          have hji25_ : (a0_0 / 2 ^ min (ji23).toNat 64) = ji25 := hji25
          have hji25z : (ji23) ≤ 64 → (a0_0 / 2 ^ (ji23).toNat) = ji25 := shr_small hji25
          simp only [Option.some.injEq, Prod.mk.injEq] at H
          obtain ⟨rfl, rfl⟩ := H
          go_enter Tryd.func15, Tryd.ntmps15
          go_wp2_with (first | ((with_reducible refine gate_dst (N := 2) rfl ?_); refine box_event ?hg (N := 2) ?hd (cs := #[.int .u64 a0_0, .int .u64 a0_1]) (t := 24) ?hr ?_; (case hd => rfl); (case hg => rfl); (case hr => first | (go_simp; done) | (go_simp; rfl)); intro gb106 hg w26 hbox hb; have n0_ := Aside0.mk (below_step xB hb); have n1_ := Aside0.mk (hbox); have n2_ := Aside0.mk ((by rw [hg]; exact (below_size xB) : w.heap.size ≤ gb106)); have n3_ := Aside0.mk ((by rw [hg]; exact (below_size xB) : w.heap.size ≤ gb106)); clear HB; have HB := n0_; have BK106 := n1_; have GW106 := n2_; have GE106 := n3_; clear n0_ n1_ n2_ n3_; clear hb hbox hg) | ((with_reducible refine gate_dst (N := 4) rfl ?_); refine box_event ?hg (N := 4) ?hd (cs := #[.int .u64 0, .int .u64 0]) (t := 24) ?hr ?_; (case hd => rfl); (case hg => rfl); (case hr => first | (go_simp; done) | (go_simp; rfl)); intro gb107 hg w27 hbox hb; have n0_ := Aside0.mk (blk_below (g := gb106) (o := .cells #[.int .u64 a0_0, .int .u64 a0_1] 24 (0, 0)) (xK BK106.out) hb); have n1_ := Aside0.mk (below_step xG hb); have n2_ := Aside0.mk (hbox); have n3_ := Aside0.mk ((by rw [hg]; exact (below_size xG) : w.heap.size ≤ gb107)); have n4_ := Aside0.mk ((by rw [hg]; exact (below_size xG) : w.heap.size ≤ gb107)); have n5_ := Aside0.mk ((xN BK106.out : gb106 ≠ gb107)); have n6_ := Aside0.mk ((xN BK106.out : gb107 ≠ gb106)); clear BK106; clear HB; have BK106 := n0_; have HB := n1_; have BK107 := n2_; have GW107 := n3_; have GE107 := n4_; have NB106_107 := n5_; have NB107_106 := n6_; clear n0_ n1_ n2_ n3_ n4_ n5_ n6_; clear hb hbox hg; have hnb28 := NB106_107.out; have hnc28 := NB107_106.out; have hcz29_0 : w27.cell? ⟨gb106, 0, none⟩ = some (.int .u64 a0_0) := (blk_cell BK106.out 0).trans rfl; have hcz29_1 : w27.cell? ⟨gb106, 1, none⟩ = some (.int .u64 a0_1) := (blk_cell BK106.out 1).trans rfl; have hfz29_0 := blk_frozen BK106.out 0; have hfz29_1 := blk_frozen BK106.out 1; have hcz30_0 : w27.cell? ⟨gb107, 0, none⟩ = some (.int .u64 0) := (blk_cell BK107.out 0).trans rfl; have hcz30_1 : w27.cell? ⟨gb107, 1, none⟩ = some (.int .u64 0) := (blk_cell BK107.out 1).trans rfl; have hfz30_0 := blk_frozen BK107.out 0; have hfz30_1 := blk_frozen BK107.out 1))
          refine bodyPost_ret (results_cell_row rfl _ _ gb107 24 #[.int .u64 0, .int .u64 ji25] (0, 0) _ rfl (by (with_reducible repeat (first | refine blk_drewN ?_ _ | refine blk_drew ?_ | refine blk_alloc ?_ _)); refine blk_put (cs := #[.int .u64 0, .int .u64 0]) ?_ 1 _ rfl; (with_reducible repeat (first | refine blk_drewN ?_ _ | refine blk_drew ?_ | refine blk_alloc ?_ _)); refine blk_put (cs := #[.int .u64 0, .int .u64 0]) ?_ 0 _ rfl; (with_reducible repeat (first | refine blk_drewN ?_ _ | refine blk_drew ?_ | refine blk_alloc ?_ _)); exact BK107.out) Tryd.underlying24 rfl (by kernel_rfl)) rfl ?_
          exact ⟨by first | rfl | (simp [errW_none, errW_some] <;> rfl) | (simp only [← hji23, ← hji25]; first | rfl | (simp [errW_none, errW_some] <;> rfl)) | (simp [*, errW_none, errW_some] <;> rfl), xG⟩
        · rw [if_neg c24] at H
          exact absurd H (by simp)
      · rw [if_neg c22] at H
        have c22b0 : decide (a1 < 128) = false := decide_eq_false c22
        clear c22
        simp only [Option.some.injEq, Prod.mk.injEq] at H
        obtain ⟨rfl, rfl⟩ := H
        go_enter Tryd.func15, Tryd.ntmps15
        go_wp2_with (first | ((with_reducible refine gate_dst (N := 2) rfl ?_); refine box_event ?hg (N := 2) ?hd (cs := #[.int .u64 a0_0, .int .u64 a0_1]) (t := 24) ?hr ?_; (case hd => rfl); (case hg => rfl); (case hr => first | (go_simp; done) | (go_simp; rfl)); intro gb106 hg w31 hbox hb; have n0_ := Aside0.mk (below_step xB hb); have n1_ := Aside0.mk (hbox); have n2_ := Aside0.mk ((by rw [hg]; exact (below_size xB) : w.heap.size ≤ gb106)); have n3_ := Aside0.mk ((by rw [hg]; exact (below_size xB) : w.heap.size ≤ gb106)); clear HB; have HB := n0_; have BK106 := n1_; have GW106 := n2_; have GE106 := n3_; clear n0_ n1_ n2_ n3_; clear hb hbox hg) | ((with_reducible refine gate_dst (N := 4) rfl ?_); refine box_event ?hg (N := 4) ?hd (cs := #[.int .u64 0, .int .u64 0]) (t := 24) ?hr ?_; (case hd => rfl); (case hg => rfl); (case hr => first | (go_simp; done) | (go_simp; rfl)); intro gb107 hg w32 hbox hb; have n0_ := Aside0.mk (blk_below (g := gb106) (o := .cells #[.int .u64 a0_0, .int .u64 a0_1] 24 (0, 0)) (xK BK106.out) hb); have n1_ := Aside0.mk (below_step xG hb); have n2_ := Aside0.mk (hbox); have n3_ := Aside0.mk ((by rw [hg]; exact (below_size xG) : w.heap.size ≤ gb107)); have n4_ := Aside0.mk ((by rw [hg]; exact (below_size xG) : w.heap.size ≤ gb107)); have n5_ := Aside0.mk ((xN BK106.out : gb106 ≠ gb107)); have n6_ := Aside0.mk ((xN BK106.out : gb107 ≠ gb106)); clear BK106; clear HB; have BK106 := n0_; have HB := n1_; have BK107 := n2_; have GW107 := n3_; have GE107 := n4_; have NB106_107 := n5_; have NB107_106 := n6_; clear n0_ n1_ n2_ n3_ n4_ n5_ n6_; clear hb hbox hg; have hnb33 := NB107_106.out; have hnc33 := NB106_107.out; have hcz34_0 : w32.cell? ⟨gb107, 0, none⟩ = some (.int .u64 0) := (blk_cell BK107.out 0).trans rfl; have hcz34_1 : w32.cell? ⟨gb107, 1, none⟩ = some (.int .u64 0) := (blk_cell BK107.out 1).trans rfl; have hfz34_0 := blk_frozen BK107.out 0; have hfz34_1 := blk_frozen BK107.out 1))
        refine bodyPost_ret (results_cell_row rfl _ _ gb107 24 #[.int .u64 0, .int .u64 0] (0, 0) _ rfl (by (with_reducible repeat (first | refine blk_drewN ?_ _ | refine blk_drew ?_ | refine blk_alloc ?_ _)); refine blk_put (cs := #[.int .u64 0, .int .u64 0]) ?_ 1 _ rfl; (with_reducible repeat (first | refine blk_drewN ?_ _ | refine blk_drew ?_ | refine blk_alloc ?_ _)); refine blk_put (cs := #[.int .u64 0, .int .u64 0]) ?_ 0 _ rfl; (with_reducible repeat (first | refine blk_drewN ?_ _ | refine blk_drew ?_ | refine blk_alloc ?_ _)); exact BK107.out) Tryd.underlying24 rfl (by kernel_rfl)) rfl ?_
        exact ⟨xE, xG⟩
def word_ones.f  : Option (Int × Int) := some (18446744073709551615, 18446744073709551615)
set_option maxHeartbeats 8000000 in
set_option maxRecDepth 100000 in
theorem word_ones.calls  (r1 : Int) (r2 : Int) (w : World) (h : word_ones.f  = some (r1, r2)) :
    Calls Tryd.prog 33 #[] w fun e w' => e = .returned (.agg #[.int .u64 r1, .int .u64 r2]) ∧ Below w.heap.size w w' := by
  have hu24 := Tryd.underlying24
  have HB := Aside0.mk (Below.refl w.heap.size w)
  have H : (some (18446744073709551615, 18446744073709551615)) = some (r1, r2) := h
  clear h
  simp only [Option.some.injEq, Prod.mk.injEq] at H
  obtain ⟨rfl, rfl⟩ := H
  go_enter Tryd.func33, Tryd.ntmps33
  go_wp2_with (first | ((with_reducible refine gate_dst (N := 0) rfl ?_); refine box_event ?hg (N := 0) ?hd (cs := #[.int .u64 0, .int .u64 0]) (t := 24) ?hr ?_; (case hd => rfl); (case hg => rfl); (case hr => first | (go_simp; done) | (go_simp; rfl)); intro gb108 hg w1 hbox hb; have n0_ := Aside0.mk (below_step xB hb); have n1_ := Aside0.mk (hbox); have n2_ := Aside0.mk ((by rw [hg]; exact (below_size xB) : w.heap.size ≤ gb108)); have n3_ := Aside0.mk ((by rw [hg]; exact (below_size xB) : w.heap.size ≤ gb108)); clear HB; have HB := n0_; have BK108 := n1_; have GW108 := n2_; have GE108 := n3_; clear n0_ n1_ n2_ n3_; clear hb hbox hg; have hcz2_0 : w1.cell? ⟨gb108, 0, none⟩ = some (.int .u64 0) := (blk_cell BK108.out 0).trans rfl; have hcz2_1 : w1.cell? ⟨gb108, 1, none⟩ = some (.int .u64 0) := (blk_cell BK108.out 1).trans rfl; have hfz2_0 := blk_frozen BK108.out 0; have hfz2_1 := blk_frozen BK108.out 1))
  refine bodyPost_ret (results_cell_row rfl _ _ gb108 24 #[.int .u64 18446744073709551615, .int .u64 18446744073709551615] (0, 0) _ rfl (by (with_reducible repeat (first | refine blk_drewN ?_ _ | refine blk_drew ?_ | refine blk_alloc ?_ _)); refine blk_put (cs := #[.int .u64 18446744073709551615, .int .u64 0]) ?_ 1 _ rfl; (with_reducible repeat (first | refine blk_drewN ?_ _ | refine blk_drew ?_ | refine blk_alloc ?_ _)); refine blk_put (cs := #[.int .u64 0, .int .u64 0]) ?_ 0 _ rfl; (with_reducible repeat (first | refine blk_drewN ?_ _ | refine blk_drew ?_ | refine blk_alloc ?_ _)); exact BK108.out) Tryd.underlying24 rfl (by kernel_rfl)) rfl ?_
  exact ⟨xE, xG⟩
def word_Mask.f (a0 : Int) : Option (Int × Int) := (word_ones.f).bind fun bt110 => ((word_Shr.f bt110.1 bt110.2 a0).bind fun bt112 => ((word_Not.f bt112.1 bt112.2).bind fun bt114 => (some (bt114.1, bt114.2))))
set_option maxHeartbeats 8000000 in
set_option maxRecDepth 100000 in
theorem word_Mask.calls (a0 : Int) (r1 : Int) (r2 : Int) (w : World) (h : word_Mask.f a0 = some (r1, r2)) :
    Calls Tryd.prog 22 #[.int .i64 a0] w fun e w' => e = .returned (.agg #[.int .u64 r1, .int .u64 r2]) ∧ Below w.heap.size w w' := by
  have hu24 := Tryd.underlying24
  have HB := Aside0.mk (Below.refl w.heap.size w)
  have H : ((word_ones.f).bind fun bt110 => ((word_Shr.f bt110.1 bt110.2 a0).bind fun bt112 => ((word_Not.f bt112.1 bt112.2).bind fun bt114 => (some (bt114.1, bt114.2))))) = some (r1, r2) := h
  clear h
  replace H := Option.bind_eq_some_iff.mp H
  obtain ⟨⟨t110, t111⟩, A20, H⟩ := H
  replace H : ((word_Shr.f t110 t111 a0).bind fun bt112 => ((word_Not.f bt112.1 bt112.2).bind fun bt114 => (some (bt114.1, bt114.2)))) = some (r1, r2) := H
  have A2 := Aside0.mk A20
  clear A20
  replace H := Option.bind_eq_some_iff.mp H
  obtain ⟨⟨t112, t113⟩, A30, H⟩ := H
  replace H : ((word_Not.f t112 t113).bind fun bt114 => (some (bt114.1, bt114.2))) = some (r1, r2) := H
  have A3 := Aside0.mk A30
  clear A30
  replace H := Option.bind_eq_some_iff.mp H
  obtain ⟨⟨t114, t115⟩, A40, H⟩ := H
  replace H : (some (t114, t115)) = some (r1, r2) := H
  have A4 := Aside0.mk A40
  clear A40
  simp only [Option.some.injEq, Prod.mk.injEq] at H
  obtain ⟨rfl, rfl⟩ := H
  go_enter Tryd.func22, Tryd.ntmps22
  go_wp2_with (first | ((with_reducible refine gate_dst (N := 2) rfl ?_); refine box_event ?hg (N := 2) ?hd (cs := #[.int .u64 0, .int .u64 0]) (t := 24) ?hr ?_; (case hd => rfl); (case hg => rfl); (case hr => first | (go_simp; done) | (go_simp; rfl)); intro gb109 hg w5 hbox hb; have n0_ := Aside0.mk (below_step xB hb); have n1_ := Aside0.mk (hbox); have n2_ := Aside0.mk ((by rw [hg]; exact (below_size xB) : w.heap.size ≤ gb109)); have n3_ := Aside0.mk ((by rw [hg]; exact (below_size xB) : w.heap.size ≤ gb109)); clear HB; have HB := n0_; have BK109 := n1_; have GW109 := n2_; have GE109 := n3_; clear n0_ n1_ n2_ n3_; clear hb hbox hg) | ((with_reducible refine gate_callee (f := 33) rfl ?_); refine goesL_ (some 3) rfl rfl Tryd.func33 (by kernel_rfl) rfl #[] rfl xM ?_; (with_reducible refine (word_ones.calls  t110 t111 _ A2.out).mono ?_); rintro e w6 ⟨rfl, hb⟩; refine ⟨_, rfl, ?_⟩; have n0_ := Aside0.mk (blk_below (g := gb109) (o := .cells #[.int .u64 0, .int .u64 0] 24 (0, 0)) (xK BK109.out) hb); have n1_ := Aside0.mk (below_step xG hb); clear BK109; clear HB; have BK109 := n0_; have HB := n1_; clear n0_ n1_; (try clear hb); (try clear hb2); (try clear hk); (try clear hi)) | ((with_reducible refine gate_callee (f := 15) rfl ?_); refine goesL_ (some 5) rfl rfl Tryd.func15 (by kernel_rfl) rfl #[.agg #[.int .u64 t110, .int .u64 t111], .int .i64 a0] rfl xM ?_; (with_reducible refine (word_Shr.calls t110 t111 a0 t112 t113 _ A3.out).mono ?_); rintro e w7 ⟨rfl, hb⟩; refine ⟨_, rfl, ?_⟩; have n0_ := Aside0.mk (blk_below (g := gb109) (o := .cells #[.int .u64 0, .int .u64 0] 24 (0, 0)) (xK BK109.out) hb); have n1_ := Aside0.mk (below_step xG hb); clear BK109; clear HB; have BK109 := n0_; have HB := n1_; clear n0_ n1_; (try clear hb); (try clear hb2); (try clear hk); (try clear hi)) | ((with_reducible refine gate_callee (f := 21) rfl ?_); refine goesL_ (some 6) rfl rfl Tryd.func21 (by kernel_rfl) rfl #[.agg #[.int .u64 t112, .int .u64 t113]] rfl xM ?_; (with_reducible refine (word_Not.calls t112 t113 t114 t115 _ A4.out).mono ?_); rintro e w8 ⟨rfl, hb⟩; refine ⟨_, rfl, ?_⟩; have n0_ := Aside0.mk (blk_below (g := gb109) (o := .cells #[.int .u64 0, .int .u64 0] 24 (0, 0)) (xK BK109.out) hb); have n1_ := Aside0.mk (below_step xG hb); clear BK109; clear HB; have BK109 := n0_; have HB := n1_; clear n0_ n1_; (try clear hb); (try clear hb2); (try clear hk); (try clear hi); have hcz9_0 : w8.cell? ⟨gb109, 0, none⟩ = some (.int .u64 0) := (blk_cell BK109.out 0).trans rfl; have hcz9_1 : w8.cell? ⟨gb109, 1, none⟩ = some (.int .u64 0) := (blk_cell BK109.out 1).trans rfl; have hfz9_0 := blk_frozen BK109.out 0; have hfz9_1 := blk_frozen BK109.out 1))
  refine bodyPost_ret (results_cell_row rfl _ _ gb109 24 #[.int .u64 t114, .int .u64 t115] (0, 0) _ rfl (by (with_reducible repeat (first | refine blk_drewN ?_ _ | refine blk_drew ?_ | refine blk_alloc ?_ _)); refine blk_put (cs := #[.int .u64 t114, .int .u64 0]) ?_ 1 _ rfl; (with_reducible repeat (first | refine blk_drewN ?_ _ | refine blk_drew ?_ | refine blk_alloc ?_ _)); refine blk_put (cs := #[.int .u64 0, .int .u64 0]) ?_ 0 _ rfl; (with_reducible repeat (first | refine blk_drewN ?_ _ | refine blk_drew ?_ | refine blk_alloc ?_ _)); exact BK109.out) Tryd.underlying24 rfl (by kernel_rfl)) rfl ?_
  exact ⟨xE, xG⟩
def addr_Right.j0 : Nat → Int → Bool → Int → Int → Option (Int)
  | 0, _, _, _, _ => none
  | k + 1, x0, x5, x117000, x117001 => if x5 = true then (some 11) else ((word_Mask.f x0).bind fun bt117 => ((word_Not.f bt117.1 bt117.2).bind fun bt119 => ((word_And.f x117000 x117001 bt119.1 bt119.2).bind fun bt121 => (if (!(bt121.1 == 0) || (!(bt121.2 == 0))) = true then (some 6) else (some 0)))))
def addr_Right.f (k : Nat) (a0 : Int) (a1_0 : Int) (a1_1 : Int) : Option (Int) := if a0 = 32 then (addr_Right.j0 k a0 false a1_0 a1_1) else (addr_Right.j0 k a0 (a0 != 128) a1_0 a1_1)
theorem addr_Right.mono_l : ∀ k, (∀ y0 y1 y2 y3, LeO (addr_Right.j0 k y0 y1 y2 y3) (addr_Right.j0 (k + 1) y0 y1 y2 y3))
  | 0 => fun _ _ _ _ r h => by simp [addr_Right.j0] at h
  | k + 1 => by
    have ih0 := addr_Right.mono_l k
    · intro y0 y1 y2 y3
      unfold addr_Right.j0
      exact xO
theorem addr_Right.mono : ∀ a0 a1 a2 k, LeO (addr_Right.f k a0 a1 a2) (addr_Right.f (k + 1) a0 a1 a2) := by
  intro a0 a1 a2 k
  have ih0 := addr_Right.mono_l k
  unfold addr_Right.f
  exact xO
def addr_Right.T3 : Bool × List (List Nat × List Nat) := (true, [([], []), ([], []), ([1], [1]), ([2, 2], [2]), ([0, 3, 3], [0, 3]), ([], []), ([4, 5], [4, 5]), ([6, 4], [6])])
def addr_Right.B3 : List Nat := [0, 0, 2, 6, 15, 0, 63, 127]
theorem addr_Right.tab3 : rtab .any (opsOf Tryd.f8 3) = addr_Right.T3 := by kernel_rfl
theorem addr_Right.bits3 : waitsOk addr_Right.T3.2 addr_Right.B3 = true := by kernel_rfl
set_option maxHeartbeats 8000000 in
set_option maxRecDepth 100000 in
theorem addr_Right.calls (k : Nat) (a0 : Int) (a1_0 : Int) (a1_1 : Int) (r : Int) (w : World) (h : addr_Right.f k a0 a1_0 a1_1 = some r) :
    Calls Tryd.prog 8 #[.int .i64 a0, .agg #[.int .u64 a1_0, .int .u64 a1_1]] w fun e w' => e = .returned (.int .i64 r) ∧ Below w.heap.size w w' := by
  have hu24 := Tryd.underlying24
  have HB := Aside0.mk (Below.refl w.heap.size w)
  have H : (if a0 = 32 then (addr_Right.j0 k a0 false a1_0 a1_1) else (addr_Right.j0 k a0 (a0 != 128) a1_0 a1_1)) = some r := h
  clear h
  have HC3 := Aside0.mk H
  clear H
  go_enter Tryd.func8, Tryd.ntmps8
  go_upto_region 1 with (first | ((with_reducible refine gate_dst (N := 3) rfl ?_); refine box_event ?hg (N := 3) ?hd (cs := #[.int .u64 a1_0, .int .u64 a1_1]) (t := 24) ?hr ?_; (case hd => rfl); (case hg => rfl); (case hr => first | (go_simp; done) | (go_simp; rfl)); intro gb116 hg w4 hbox hb; have n0_ := Aside0.mk (below_step xB hb); have n1_ := Aside0.mk (hbox); have n2_ := Aside0.mk ((by rw [hg]; exact (below_size xB) : w.heap.size ≤ gb116)); have n3_ := Aside0.mk ((by rw [hg]; exact (below_size xB) : w.heap.size ≤ gb116)); clear HB; have HB := n0_; have BK116 := n1_; have GW116 := n2_; have GE116 := n3_; clear n0_ n1_ n2_ n3_; clear hb hbox hg))
  (try simp only [Act.put, List.setIfInBounds_toArray, List.set_cons_zero, List.set_cons_succ])
  go_cut [5] (fun v5 wc => ∃ (kq : Nat) (x5_2 : Bool), v5 = .bool x5_2 ∧ Aside0 (addr_Right.j0 kq a0 x5_2 a1_0 a1_1 = some r) ∧ Aside0 (kq ≤ k) ∧ Aside0 (wc.heap[gb116]? = some (.cells #[.int .u64 a1_0, .int .u64 a1_1] 24 (0, 0))) ∧ Aside0 (Below w.heap.size w wc))
  case first =>
    have H := HC3.out
    clear HC3
    by_cases c5 : a0 = 32
    · rw [if_pos c5] at H
      have c5b0 : (a0 == 32) = true := beq_iff_eq.mpr c5
      have c5b1 : (a0 != 32) = false := bne_eq_false_iff_eq.mpr c5
      clear c5
      (first | rw [c5b0] | (simp only [i64_w, i32_w]; rw [c5b0]) | skip)
      have H' := Aside0.mk H
      clear H
      go_wp2
      go_meet
      case rel => exact ⟨_, (false), xV, H', ⟨by first | omega | exact Nat.le_refl _⟩, ⟨xK BK116.out⟩, ⟨xG⟩⟩
    · rw [if_neg c5] at H
      have c5b0 : (a0 == 32) = false := beq_eq_false_iff_ne.mpr c5
      have c5b1 : (a0 != 32) = true := bne_iff_ne.mpr c5
      (first | rw [c5b0] | (simp only [i64_w, i32_w]; rw [c5b0]) | skip)
      have H' := Aside0.mk H
      clear H
      go_wp2
      go_meet
      case rel => exact ⟨_, ((a0 != 128)), xV, H', ⟨by first | omega | exact Nat.le_refl _⟩, ⟨xK BK116.out⟩, ⟨xG⟩⟩
  case rest =>
    clear HC3
    try clear p2
    try clear c5
    try clear c5b0
    try clear c5b1
    obtain ⟨kq, x5_2, rfl, HA, HJ2, BK116, HB⟩ := hcut
    cases kq with
    | zero => exact absurd HA.out (by simp [addr_Right.j0])
    | succ kj2 =>
      have H := HA.out
      clear HA
      simp only [addr_Right.j0] at H
      by_cases c6 : x5_2 = true
      · subst c6
        have H1 : (some 11) = some r := by rw [if_pos rfl] at H; exact H
        clear H
        have H := H1
        clear H1
        obtain rfl := Option.some.inj H
        go_wp2
        go_ret
        exact ⟨xE, xG⟩
      · replace c6 := Bool.eq_false_iff.mpr c6
        subst c6
        have H1 : ((word_Mask.f a0).bind fun bt117 => ((word_Not.f bt117.1 bt117.2).bind fun bt119 => ((word_And.f a1_0 a1_1 bt119.1 bt119.2).bind fun bt121 => (if (!(bt121.1 == 0) || (!(bt121.2 == 0))) = true then (some 6) else (some 0))))) = some r := by rw [if_neg (show ¬ (false = true) by decide)] at H; exact H
        clear H
        have H := H1
        clear H1
        replace H := Option.bind_eq_some_iff.mp H
        obtain ⟨⟨t117, t118⟩, A70, H⟩ := H
        replace H : ((word_Not.f t117 t118).bind fun bt119 => ((word_And.f a1_0 a1_1 bt119.1 bt119.2).bind fun bt121 => (if (!(bt121.1 == 0) || (!(bt121.2 == 0))) = true then (some 6) else (some 0)))) = some r := H
        have A7 := Aside0.mk A70
        clear A70
        replace H := Option.bind_eq_some_iff.mp H
        obtain ⟨⟨t119, t120⟩, A80, H⟩ := H
        replace H : ((word_And.f a1_0 a1_1 t119 t120).bind fun bt121 => (if (!(bt121.1 == 0) || (!(bt121.2 == 0))) = true then (some 6) else (some 0))) = some r := H
        have A8 := Aside0.mk A80
        clear A80
        replace H := Option.bind_eq_some_iff.mp H
        obtain ⟨⟨t121, t122⟩, A90, H⟩ := H
        replace H : (if (!(t121 == 0) || (!(t122 == 0))) = true then (some 6) else (some 0)) = some r := H
        have A9 := Aside0.mk A90
        clear A90
        by_cases c10 : (!(t121 == 0) || (!(t122 == 0))) = true
        · rw [if_pos c10] at H
          have c10b0 : (!(t121 == 0) || (!(t122 == 0))) = true := c10
          clear c10
          obtain rfl := Option.some.inj H
          try go_wp2
          have n0_ := Aside0.mk (blk_drew BK116.out)
          have n1_ := Aside0.mk (below_drew1 HB.out)
          clear BK116
          clear HB
          have BK116 := n0_
          have HB := n1_
          clear n0_ n1_
          refine start_ (n := 8) (S := fun w' => w'.cell? ⟨gb116, 0, none⟩ = some (.int .u64 a1_0) ∧ w'.cell? ⟨gb116, 1, none⟩ = some (.int .u64 a1_1)) (ds := []) #[false, false, false, false, false, false, false, false] (by kernel_rfl) rfl rfl ⟨(blk_cell BK116.out 0).trans rfl, (blk_cell BK116.out 1).trans rfl⟩ (fun hHeld => ?_); refine with_tabW addr_Right.tab3 addr_Right.bits3 (fun HT_ HW_ => ?_)
          generalize wc.drew = w11 at BK116 HB hHeld ⊢
          refine pure_ (i := 1) (N := some 14) (v := ?_) (a' := ?_) #[false, true, false, false, false, false, false, false] rfl rfl (any_of HT_.out (by kernel_rfl)) (fun _ _ _ h => h) (Or.inl ⟨by rfl, ?_⟩) ?_ ?_
          rotate_left
          · intro w'
            go_simp
            with_reducible rfl
          rotate_left
          · simp only [Act.put, List.setIfInBounds_toArray, List.set_cons_zero, List.set_cons_succ, i64_w, i32_w]
            rfl
          refine pure_ (i := 5) (N := some 18) (v := ?_) (a' := ?_) #[false, true, false, false, false, true, false, false] rfl rfl (any_of HT_.out (by kernel_rfl)) (fun _ _ _ h => h) (Or.inl ⟨by rfl, ?_⟩) ?_ ?_
          rotate_left
          · intro w'
            go_simp
            with_reducible rfl
          rotate_left
          · simp only [Act.put, List.setIfInBounds_toArray, List.set_cons_zero, List.set_cons_succ, i64_w, i32_w]
            rfl
          refine take_ (i := 0) (N := some 13) (v := ?_) (a' := ?_) #[true, true, false, false, false, true, false, false] rfl rfl (take_ofW HT_.out HW_.out (by kernel_rfl)) (fun _ _ _ h => h) (Or.inl ⟨by rfl, ?_⟩) hHeld ?_ ?_
          rotate_left
          · rintro w' ⟨s0, s1⟩
            go_simp
            with_reducible rfl
          rotate_left
          · simp only [Act.put, List.setIfInBounds_toArray, List.set_cons_zero, List.set_cons_succ, i64_w, i32_w]
            rfl
          refine one_ (i := 2) (N := some 15) #[true, true, true, false, false, true, false, false] rfl rfl (one_of HT_.out (by kernel_rfl)) (by decide) (fun K hK => ?_)
          refine goes_ Tryd.func22 (by kernel_rfl) rfl #[.int .i64 a0] (by rfl) rfl rfl xM ?_
          with_reducible refine (word_Mask.calls a0 t117 t118 _ A7.out).mono ?_
          rintro e w12 ⟨rfl, hb⟩
          refine ⟨_, rfl, ?_⟩
          have n0_ := Aside0.mk (blk_below (g := gb116) (o := .cells #[.int .u64 a1_0, .int .u64 a1_1] 24 (0, 0)) (xK BK116.out) hb)
          have n1_ := Aside0.mk (below_step xG hb)
          clear BK116
          clear HB
          have BK116 := n0_
          have HB := n1_
          clear n0_ n1_
          (try clear hb)
          (try clear hb2)
          (try clear hk)
          (try clear hi)
          refine hK.out _ _ ⟨(blk_cell BK116.out 0).trans rfl, (blk_cell BK116.out 1).trans rfl⟩ (fun hHeld => ?_)
          clear hK K
          refine norm_ (a' := ?_) ?_ ?_
          rotate_left
          · show Act.put _ (some 15) _ = _
            simp only [Act.put, List.setIfInBounds_toArray, List.set_cons_zero, List.set_cons_succ, i64_w, i32_w]
            rfl
          refine one_ (i := 3) (N := some 16) #[true, true, true, true, false, true, false, false] rfl rfl (one_of HT_.out (by kernel_rfl)) (by decide) (fun K hK => ?_)
          refine goes_ Tryd.func21 (by kernel_rfl) rfl #[.agg #[.int .u64 t117, .int .u64 t118]] (by rfl) rfl rfl xM ?_
          with_reducible refine (word_Not.calls t117 t118 t119 t120 _ A8.out).mono ?_
          rintro e w13 ⟨rfl, hb⟩
          refine ⟨_, rfl, ?_⟩
          have n0_ := Aside0.mk (blk_below (g := gb116) (o := .cells #[.int .u64 a1_0, .int .u64 a1_1] 24 (0, 0)) (xK BK116.out) hb)
          have n1_ := Aside0.mk (below_step xG hb)
          clear BK116
          clear HB
          have BK116 := n0_
          have HB := n1_
          clear n0_ n1_
          (try clear hb)
          (try clear hb2)
          (try clear hk)
          (try clear hi)
          refine hK.out _ _ ⟨(blk_cell BK116.out 0).trans rfl, (blk_cell BK116.out 1).trans rfl⟩ (fun hHeld => ?_)
          clear hK K
          refine norm_ (a' := ?_) ?_ ?_
          rotate_left
          · show Act.put _ (some 16) _ = _
            simp only [Act.put, List.setIfInBounds_toArray, List.set_cons_zero, List.set_cons_succ, i64_w, i32_w]
            rfl
          refine one_ (i := 4) (N := some 17) #[true, true, true, true, true, true, false, false] rfl rfl (one_of HT_.out (by kernel_rfl)) (by decide) (fun K hK => ?_)
          refine goes_ Tryd.func20 (by kernel_rfl) rfl #[.agg #[.int .u64 a1_0, .int .u64 a1_1], .agg #[.int .u64 t119, .int .u64 t120]] (by rfl) rfl rfl xM ?_
          with_reducible refine (word_And.calls a1_0 a1_1 t119 t120 t121 t122 _ A9.out).mono ?_
          rintro e w14 ⟨rfl, hb⟩
          refine ⟨_, rfl, ?_⟩
          have n0_ := Aside0.mk (blk_below (g := gb116) (o := .cells #[.int .u64 a1_0, .int .u64 a1_1] 24 (0, 0)) (xK BK116.out) hb)
          have n1_ := Aside0.mk (below_step xG hb)
          clear BK116
          clear HB
          have BK116 := n0_
          have HB := n1_
          clear n0_ n1_
          (try clear hb)
          (try clear hb2)
          (try clear hk)
          (try clear hi)
          refine hK.out _ _ ⟨(blk_cell BK116.out 0).trans rfl, (blk_cell BK116.out 1).trans rfl⟩ (fun hHeld => ?_)
          clear hK K
          refine norm_ (a' := ?_) ?_ ?_
          rotate_left
          · show Act.put _ (some 17) _ = _
            simp only [Act.put, List.setIfInBounds_toArray, List.set_cons_zero, List.set_cons_succ, i64_w, i32_w]
            rfl
          refine pure_ (i := 6) (N := some 19) (v := ?_) (a' := ?_) #[true, true, true, true, true, true, true, false] rfl rfl (any_of HT_.out (by kernel_rfl)) (fun _ _ _ h => h) (Or.inl ⟨by rfl, ?_⟩) ?_ ?_
          rotate_left
          · intro w'
            go_simp
            with_reducible rfl
          rotate_left
          · simp only [Act.put, List.setIfInBounds_toArray, List.set_cons_zero, List.set_cons_succ, i64_w, i32_w]
            rfl
          refine pure_ (i := 7) (N := some 12) (v := ?_) (a' := ?_) #[true, true, true, true, true, true, true, true] rfl rfl (any_of HT_.out (by kernel_rfl)) (fun _ _ _ h => h) (Or.inl ⟨by rfl, ?_⟩) ?_ ?_
          rotate_left
          · intro w'
            go_simp
            with_reducible rfl
          rotate_left
          · simp only [Act.put, List.setIfInBounds_toArray, List.set_cons_zero, List.set_cons_succ, i64_w, i32_w]
            rfl
          refine done_ (done_of HT_.out (by kernel_rfl)) ?_
          try go_wp2
          go_ret
          exact ⟨xE, xG⟩
        · rw [if_neg c10] at H
          have c10b0 : (!(t121 == 0) || (!(t122 == 0))) = false := by simpa using c10
          clear c10
          obtain rfl := Option.some.inj H
          try go_wp2
          have n0_ := Aside0.mk (blk_drew BK116.out)
          have n1_ := Aside0.mk (below_drew1 HB.out)
          clear BK116
          clear HB
          have BK116 := n0_
          have HB := n1_
          clear n0_ n1_
          refine start_ (n := 8) (S := fun w' => w'.cell? ⟨gb116, 0, none⟩ = some (.int .u64 a1_0) ∧ w'.cell? ⟨gb116, 1, none⟩ = some (.int .u64 a1_1)) (ds := []) #[false, false, false, false, false, false, false, false] (by kernel_rfl) rfl rfl ⟨(blk_cell BK116.out 0).trans rfl, (blk_cell BK116.out 1).trans rfl⟩ (fun hHeld => ?_); refine with_tabW addr_Right.tab3 addr_Right.bits3 (fun HT_ HW_ => ?_)
          generalize wc.drew = w15 at BK116 HB hHeld ⊢
          refine pure_ (i := 1) (N := some 14) (v := ?_) (a' := ?_) #[false, true, false, false, false, false, false, false] rfl rfl (any_of HT_.out (by kernel_rfl)) (fun _ _ _ h => h) (Or.inl ⟨by rfl, ?_⟩) ?_ ?_
          rotate_left
          · intro w'
            go_simp
            with_reducible rfl
          rotate_left
          · simp only [Act.put, List.setIfInBounds_toArray, List.set_cons_zero, List.set_cons_succ, i64_w, i32_w]
            rfl
          refine pure_ (i := 5) (N := some 18) (v := ?_) (a' := ?_) #[false, true, false, false, false, true, false, false] rfl rfl (any_of HT_.out (by kernel_rfl)) (fun _ _ _ h => h) (Or.inl ⟨by rfl, ?_⟩) ?_ ?_
          rotate_left
          · intro w'
            go_simp
            with_reducible rfl
          rotate_left
          · simp only [Act.put, List.setIfInBounds_toArray, List.set_cons_zero, List.set_cons_succ, i64_w, i32_w]
            rfl
          refine take_ (i := 0) (N := some 13) (v := ?_) (a' := ?_) #[true, true, false, false, false, true, false, false] rfl rfl (take_ofW HT_.out HW_.out (by kernel_rfl)) (fun _ _ _ h => h) (Or.inl ⟨by rfl, ?_⟩) hHeld ?_ ?_
          rotate_left
          · rintro w' ⟨s0, s1⟩
            go_simp
            with_reducible rfl
          rotate_left
          · simp only [Act.put, List.setIfInBounds_toArray, List.set_cons_zero, List.set_cons_succ, i64_w, i32_w]
            rfl
          refine one_ (i := 2) (N := some 15) #[true, true, true, false, false, true, false, false] rfl rfl (one_of HT_.out (by kernel_rfl)) (by decide) (fun K hK => ?_)
          refine goes_ Tryd.func22 (by kernel_rfl) rfl #[.int .i64 a0] (by rfl) rfl rfl xM ?_
          with_reducible refine (word_Mask.calls a0 t117 t118 _ A7.out).mono ?_
          rintro e w16 ⟨rfl, hb⟩
          refine ⟨_, rfl, ?_⟩
          have n0_ := Aside0.mk (blk_below (g := gb116) (o := .cells #[.int .u64 a1_0, .int .u64 a1_1] 24 (0, 0)) (xK BK116.out) hb)
          have n1_ := Aside0.mk (below_step xG hb)
          clear BK116
          clear HB
          have BK116 := n0_
          have HB := n1_
          clear n0_ n1_
          (try clear hb)
          (try clear hb2)
          (try clear hk)
          (try clear hi)
          refine hK.out _ _ ⟨(blk_cell BK116.out 0).trans rfl, (blk_cell BK116.out 1).trans rfl⟩ (fun hHeld => ?_)
          clear hK K
          refine norm_ (a' := ?_) ?_ ?_
          rotate_left
          · show Act.put _ (some 15) _ = _
            simp only [Act.put, List.setIfInBounds_toArray, List.set_cons_zero, List.set_cons_succ, i64_w, i32_w]
            rfl
          refine one_ (i := 3) (N := some 16) #[true, true, true, true, false, true, false, false] rfl rfl (one_of HT_.out (by kernel_rfl)) (by decide) (fun K hK => ?_)
          refine goes_ Tryd.func21 (by kernel_rfl) rfl #[.agg #[.int .u64 t117, .int .u64 t118]] (by rfl) rfl rfl xM ?_
          with_reducible refine (word_Not.calls t117 t118 t119 t120 _ A8.out).mono ?_
          rintro e w17 ⟨rfl, hb⟩
          refine ⟨_, rfl, ?_⟩
          have n0_ := Aside0.mk (blk_below (g := gb116) (o := .cells #[.int .u64 a1_0, .int .u64 a1_1] 24 (0, 0)) (xK BK116.out) hb)
          have n1_ := Aside0.mk (below_step xG hb)
          clear BK116
          clear HB
          have BK116 := n0_
          have HB := n1_
          clear n0_ n1_
          (try clear hb)
          (try clear hb2)
          (try clear hk)
          (try clear hi)
          refine hK.out _ _ ⟨(blk_cell BK116.out 0).trans rfl, (blk_cell BK116.out 1).trans rfl⟩ (fun hHeld => ?_)
          clear hK K
          refine norm_ (a' := ?_) ?_ ?_
          rotate_left
          · show Act.put _ (some 16) _ = _
            simp only [Act.put, List.setIfInBounds_toArray, List.set_cons_zero, List.set_cons_succ, i64_w, i32_w]
            rfl
          refine one_ (i := 4) (N := some 17) #[true, true, true, true, true, true, false, false] rfl rfl (one_of HT_.out (by kernel_rfl)) (by decide) (fun K hK => ?_)
          refine goes_ Tryd.func20 (by kernel_rfl) rfl #[.agg #[.int .u64 a1_0, .int .u64 a1_1], .agg #[.int .u64 t119, .int .u64 t120]] (by rfl) rfl rfl xM ?_
          with_reducible refine (word_And.calls a1_0 a1_1 t119 t120 t121 t122 _ A9.out).mono ?_
          rintro e w18 ⟨rfl, hb⟩
          refine ⟨_, rfl, ?_⟩
          have n0_ := Aside0.mk (blk_below (g := gb116) (o := .cells #[.int .u64 a1_0, .int .u64 a1_1] 24 (0, 0)) (xK BK116.out) hb)
          have n1_ := Aside0.mk (below_step xG hb)
          clear BK116
          clear HB
          have BK116 := n0_
          have HB := n1_
          clear n0_ n1_
          (try clear hb)
          (try clear hb2)
          (try clear hk)
          (try clear hi)
          refine hK.out _ _ ⟨(blk_cell BK116.out 0).trans rfl, (blk_cell BK116.out 1).trans rfl⟩ (fun hHeld => ?_)
          clear hK K
          refine norm_ (a' := ?_) ?_ ?_
          rotate_left
          · show Act.put _ (some 17) _ = _
            simp only [Act.put, List.setIfInBounds_toArray, List.set_cons_zero, List.set_cons_succ, i64_w, i32_w]
            rfl
          refine pure_ (i := 6) (N := some 19) (v := ?_) (a' := ?_) #[true, true, true, true, true, true, true, false] rfl rfl (any_of HT_.out (by kernel_rfl)) (fun _ _ _ h => h) (Or.inl ⟨by rfl, ?_⟩) ?_ ?_
          rotate_left
          · intro w'
            go_simp
            with_reducible rfl
          rotate_left
          · simp only [Act.put, List.setIfInBounds_toArray, List.set_cons_zero, List.set_cons_succ, i64_w, i32_w]
            rfl
          refine pure_ (i := 7) (N := some 12) (v := ?_) (a' := ?_) #[true, true, true, true, true, true, true, true] rfl rfl (any_of HT_.out (by kernel_rfl)) (fun _ _ _ h => h) (Or.inl ⟨by rfl, ?_⟩) ?_ ?_
          rotate_left
          · intro w'
            go_simp
            with_reducible rfl
          rotate_left
          · simp only [Act.put, List.setIfInBounds_toArray, List.set_cons_zero, List.set_cons_succ, i64_w, i32_w]
            rfl
          refine done_ (done_of HT_.out (by kernel_rfl)) ?_
          try go_wp2
          go_ret
          exact ⟨xE, xG⟩
theorem tz16 (w : World) (hM : MLOk w) : Calls Tryd.prog 60 #[.int .u64 16] w fun e w' => e = .returned (.int .i64 4) ∧ w' = w := by
  have hc : w.cell? ⟨3, 15, none⟩ = some (.int .u8 4) := hM.d64 15 (by decide)
  have key : IntKind.u64.wrap (Go.bits BinOp.and IntKind.u64 16 (IntKind.u64.wrap (-16)) * 285870213051353865) / 288230376151711744 = 15 := by decide +kernel
  clear hM
  go_enter Tryd.func60, Tryd.ntmps60
  go_wp2_with (simp only [key])
  go_ret
  exact ⟨rfl, rfl⟩
theorem tz16' (w : World) (hM : MLOk w) : Calls Tryd.prog 52 #[.int .u64 16] w fun e w' => e = .returned (.int .i64 4) ∧ w' = w := by
  have h := tz16 w hM
  clear hM
  go_enter Tryd.func52, Tryd.ntmps52
  go_wp2_with (go_at_call 60; refine h.mono ?_; rintro e w' ⟨rfl, rfl⟩)
  go_ret
  exact ⟨rfl, rfl⟩
theorem pow16 (w : World) : Calls Tryd.prog 51 #[.int .i64 16] w fun e w' => e = .returned (.bool true) ∧ w' = w := by
  have key : Go.bits BinOp.and IntKind.i64 16 15 = 0 := by decide +kernel
  go_enter Tryd.func51, Tryd.ntmps51
  go_wp2_with (simp only [key])
  go_ret
  exact ⟨rfl, rfl⟩
def hexC (n : Nat) : UInt8 := UInt8.ofNat (if n < 10 then 48 + n else 87 + n)
def hexR : Nat → Nat → List UInt8
  | 0, _ => []
  | f + 1, n => if n < 16 then [hexC n] else hexR f (n / 16) ++ [hexC (n % 16)]
def fcells (L : List UInt8) : Array Value := (List.replicate (65 - L.length) (Value.int .u8 0) ++ L.map fun c => Value.int .u8 (c.toNat : Int)).toArray
theorem fcells_nil : Tryd.zeroCells77 = fcells [] := by kernel_rfl
theorem fcells_cons (c : UInt8) (L : List UInt8) (h : L.length < 65) : (fcells L).setIfInBounds (64 - L.length) (.int .u8 (c.toNat : Int)) = fcells (c :: L) := by
  unfold fcells
  have e1 : 65 - L.length = (64 - L.length) + 1 := by omega
  have e2 : 65 - (c :: L).length = 64 - L.length := by simp only [List.length_cons]; omega
  rw [e1, e2, List.replicate_succ', List.setIfInBounds_toArray]
  rw [List.append_assoc, List.set_append_right _ _ (by simp)]
  simp
theorem fcells_at (L : List UInt8) (i : Nat) (h : i + L.length < 65) : (fcells L)[i]? = some (.int .u8 0) := by
  unfold fcells
  rw [List.getElem?_toArray, List.getElem?_append_left (by simp; omega)]
  simp only [List.getElem?_replicate]; rw [if_pos (by omega)]
theorem and15 (u : Nat) (hu : u < 18446744073709551616) : Go.bits .and .u64 (u : Int) 15 = ((u % 16 : Nat) : Int) := by
  have h := u64_and_nat u 15 hu (by decide)
  rw [show ((15 : Nat) : Int) = 15 from rfl] at h
  rw [h, show (15 : Nat) = 2 ^ 4 - 1 from rfl, Nat.and_two_pow_sub_one_eq_mod]
theorem dig_at (d : Nat) (h : d < 16) : ∀ h : d < (⟨#[48, 49, 50, 51, 52, 53, 54, 55, 56, 57, 97, 98, 99, 100, 101, 102, 103, 104, 105, 106, 107, 108, 109, 110, 111, 112, 113, 114, 115, 116, 117, 118, 119, 120, 121, 122]⟩ : ByteArray).size, (⟨#[48, 49, 50, 51, 52, 53, 54, 55, 56, 57, 97, 98, 99, 100, 101, 102, 103, 104, 105, 106, 107, 108, 109, 110, 111, 112, 113, 114, 115, 116, 117, 118, 119, 120, 121, 122]⟩ : ByteArray)[d]'h = hexC d := by
  have : ∀ d : Fin 16, ∀ h : d.val < (⟨#[48, 49, 50, 51, 52, 53, 54, 55, 56, 57, 97, 98, 99, 100, 101, 102, 103, 104, 105, 106, 107, 108, 109, 110, 111, 112, 113, 114, 115, 116, 117, 118, 119, 120, 121, 122]⟩ : ByteArray).size, (⟨#[48, 49, 50, 51, 52, 53, 54, 55, 56, 57, 97, 98, 99, 100, 101, 102, 103, 104, 105, 106, 107, 108, 109, 110, 111, 112, 113, 114, 115, 116, 117, 118, 119, 120, 121, 122]⟩ : ByteArray)[d.val]'h = hexC d.val := by decide +kernel
  exact this ⟨d, h⟩
theorem tail_of (b : Nat) (l : Int) (h0 : 0 ≤ l) (h1 : l < 65) (W : World) :
    (Instr.sliceAt 77 (.pointer (some ⟨b, 0, none⟩)) (some (.int .i64 l)) none none).run Tryd.prog W = .ok (.slice (some ⟨b, l.toNat, none⟩) (65 - l.toNat) (65 - l.toNat)) W := by
  have hal : Tryd.prog.arrayLen 77 = 65 := by kernel_rfl
  rw [run_sliceAt_array_l W 77 ⟨b, 0, none⟩ (by kernel_rfl) .i64 l h0 (by rw [hal]; omega)]
  rw [hal, show (sizeOf (Tryd.prog.elem 77)).run Tryd.prog W = .ok 1 W by kernel_rfl]
  simp only [Result.andThen, slicedAt]
  rw [if_neg (by omega), add_plain]
  simp
theorem fcells_get (L : List UInt8) (j : Nat) (h : j < L.length) (hL : L.length ≤ 65) : (fcells L)[65 - L.length + j]? = some (.int .u8 (L[j].toNat : Int)) := by
  unfold fcells
  rw [List.getElem?_toArray, List.getElem?_append_right (by simp)]
  simp [h]
theorem back_of (b : Nat) (L : List UInt8) (hL : L.length ≤ 65) (cap : Nat) (W : World) (h : W.heap[b]? = some (.cells (fcells L) 77 (0, 0))) :
    (convert 40 9 (.slice (some ⟨b, 65 - L.length, none⟩) L.length cap)).run Tryd.prog W = .ok (.string ⟨L.toArray⟩) W := by
  refine run_convert_bytes_back W 40 9 5 ⟨b, 65 - L.length, none⟩ cap L (by kernel_rfl) (by kernel_rfl) (by kernel_rfl) ?_
  intro j hj
  have e : (⟨b, 65 - L.length, none⟩ : Addr).add j = ⟨b, 65 - L.length + j, none⟩ := by simp [Addr.add]
  rw [e, blk_cell h]
  exact fcells_get L j hj hL
set_option maxHeartbeats 1000000 in
set_option maxRecDepth 100000 in
theorem fmtBits (n : Nat) (hn : n < 18446744073709551616) (w : World) (hM : MLOk w) : Calls Tryd.prog 41 #[.slice none 0 0, .int .u64 n, .int .i64 16, .bool false, .bool false] w fun e w' => e = .returned (.tuple #[.slice none 0 0, .string ⟨(hexR 16 n).toArray⟩]) ∧ Below w.heap.size w w' := by
  have hM' := Aside0.mk hM
  clear hM
  have HN := Aside0.mk hn
  go_enter Tryd.func41, Tryd.ntmps41
  go_wp2_with (first | (go_at_call 51; refine (pow16 _).mono ?_; rintro e w' ⟨rfl, rfl⟩) | (go_at_call 52; refine (tz16' _ ?h).mono ?_; (case h => first | exact hM'.out | exact MLOk.alloc hM'.out _); rintro e w' ⟨rfl, rfl⟩))
  clear hn
  go_loopw [1, 13] (fun v1 v13 wr => ∃ (L : List UInt8) (f u : Nat) (i : Int), v1 = .int .u64 u ∧ v13 = .int .i64 i ∧ Aside0 (i = 65 - L.length) ∧ Aside0 (L.length + f = 16) ∧ Aside0 (1 ≤ f) ∧ Aside0 (u < 16 ^ f) ∧ Aside0 (hexR f u ++ L = hexR 16 n) ∧ Aside0 (wr.heap[w.heap.size]? = some (.cells (fcells L) 77 (0, 0))) ∧ Aside0 (Below w.heap.size w wr)) (fun v1 _ _ => (intOf v1).toNat)
  case atStart => exact ⟨[], 16, n, 65, rfl, rfl, ⟨rfl⟩, ⟨rfl⟩, ⟨by decide⟩, ⟨by have := HN.out; omega⟩, ⟨List.append_nil _⟩, ⟨by rw [← fcells_nil]; exact blk_new _ _⟩, ⟨below_alloc (Below.refl _ _) _⟩⟩
  case round =>
    obtain ⟨L, f, u, i, rfl, rfl, HI, HF, HF1, HU, HX, HK, HB⟩ := hrel
    have hi1 : 49 ≤ i ∧ i ≤ 65 := by have := HI.out; have := HF.out; omega
    obtain ⟨hi0, hi2⟩ := hi1
    have hf1 := HF1.out
    have hi3 : 50 ≤ i := by have := HI.out; have := HF.out; omega
    have hu64 : u < 18446744073709551616 := by
      have h1 := HU.out
      have h2 : 16 ^ f ≤ 16 ^ 16 := Nat.pow_le_pow_right (by decide) (by have := HF.out; omega)
      have h3 : (16 : Nat) ^ 16 = 18446744073709551616 := by decide
      omega
    have hc1 : wr.cell? ⟨w.heap.size, i.toNat - 1, none⟩ = some (.int .u8 0) := by
      rw [blk_cell HK.out]; exact fcells_at L _ (by have := HI.out; omega)
    have hf2 : wr.frozen? ⟨w.heap.size, i.toNat - 1, none⟩ = false := blk_frozen HK.out _
    have hL : L.length < 65 := by have := HF.out; omega
    have hLi : 64 - L.length = i.toNat - 1 := by have := HI.out; omega
    have HLi := Aside0.mk hLi
    clear hLi
    have store : ∀ c : UInt8, (wr.setCell ⟨w.heap.size, i.toNat - 1, none⟩ (.int .u8 (c.toNat : Int))).heap[w.heap.size]? = some (.cells (fcells (c :: L)) 77 (0, 0)) := fun c => by
      have := blk_set HK.out (i.toNat - 1) (.int .u8 (c.toNat : Int))
      rw [← HLi.out, fcells_cons c L hL, HLi.out] at this
      exact this
    have HS := Aside0.mk store
    clear store
    by_cases hlt : u < 16
    · have hlt' : ¬ (16 : Int) ≤ (u : Int) := by omega
      have hd36 : (u : Int) < 36 := by omega
      have hdig := dig_at u hlt
      have hsl := tail_of w.heap.size (i - 1) (by omega) (by omega)
      have hbk := back_of w.heap.size (hexC u :: L) (by simp; omega) (65 - (i.toNat - 1)) _ (HS.out (hexC u))
      have e1 : (hexC u :: L).length = 65 - (i.toNat - 1) := by have := HI.out; simp; omega
      have e2 : 65 - (65 - (i.toNat - 1)) = i.toNat - 1 := by omega
      have e3 : hexC u :: L = hexR 16 n := by
        have := HX.out
        obtain ⟨f, rfl⟩ : ∃ g, f = g + 1 := ⟨f - 1, by omega⟩
        rw [hexR, if_pos hlt] at this
        exact this
      rw [e1, e2, e3] at hbk
      clear e1 e2 e3
      go_wp2
      go_ret2
      exact ⟨rfl, below_set HB.out (Nat.le_refl _)⟩
    · have hd : u % 16 < 16 := Nat.mod_lt _ (by decide)
      have hge : (16 : Int) ≤ (u : Int) := by omega
      have hand := and15 u hu64
      have hdig := dig_at (u % 16) hd
      generalize hd' : u % 16 = d at hand hd hdig
      have HD := Aside0.mk hd'
      clear hd' hlt
      have hd36 : (d : Int) < 36 := by omega
      go_wp2
      have hf2' : 1 ≤ f - 1 := by
        rcases Nat.lt_or_ge f 2 with h | h
        · have := HU.out
          obtain rfl : f = 1 := by omega
          omega
        · omega
      obtain ⟨g, rfl⟩ : ∃ g, f = g + 1 := ⟨f - 1, by omega⟩
      have hu' : u / 16 < 16 ^ g := by
        have := HU.out
        rw [Nat.pow_succ] at this
        exact Nat.div_lt_of_lt_mul (by rw [Nat.mul_comm]; exact this)
      have hx' : hexR g (u / 16) ++ (hexC d :: L) = hexR 16 n := by
        have := HX.out
        rw [hexR, if_neg (by omega), HD.out] at this
        rw [← this]; simp
      go_roundw
      case rel =>
        refine ⟨hexC d :: L, g, u / 16, i - 1, by simp, rfl, ⟨by have := HI.out; simp; omega⟩, ⟨by have := HF.out; simp; omega⟩, ⟨hf2'⟩, ⟨hu'⟩, ⟨hx'⟩, ⟨HS.out _⟩, ⟨below_set HB.out (Nat.le_refl _)⟩⟩
      case measure => simp [intOf]; omega
theorem fmtIn (n : Nat) (hn : n < 18446744073709551616) (w : World) (hM : MLOk w) : Calls Tryd.prog 53 #[.int .u64 n, .int .i64 16] w fun e w' => e = .returned (.string ⟨(hexR 16 n).toArray⟩) ∧ Below w.heap.size w w' := by
  have h := Aside0.mk hM
  have hn' := Aside0.mk hn
  clear hM hn
  go_enter Tryd.func53, Tryd.ntmps53
  go_wp2_with (go_at_call 41; refine (fmtBits n hn'.out _ h.out).mono ?_; rintro e w' ⟨rfl, hb⟩)
  go_ret
  exact ⟨rfl, hb⟩
def strconv_FormatUint.f (a0 a1 : Int) : Option ByteArray := if 0 ≤ a0 ∧ a0 < 18446744073709551616 ∧ a1 = 16 then some ⟨(hexR 16 a0.toNat).toArray⟩ else none
theorem strconv_FormatUint.calls (a0 a1 : Int) (r : ByteArray) (w : World) (hML : MLOk w) (h : strconv_FormatUint.f a0 a1 = some r) :
    Calls Tryd.prog 42 #[.int .u64 a0, .int .i64 a1] w fun e w' => e = .returned (.string r) ∧ Below w.heap.size w w' := by
  unfold strconv_FormatUint.f at h
  split at h
  case isTrue hs =>
    obtain ⟨h0, h1, rfl⟩ := hs
    obtain ⟨n, rfl⟩ := Int.eq_ofNat_of_zero_le h0
    rw [Int.toNat_natCast] at h
    cases h
    have hM := Aside0.mk hML
    have hn := Aside0.mk (show n < 18446744073709551616 by omega)
    clear hML h0 h1
    go_enter Tryd.func42, Tryd.ntmps42
    go_wp2_with (go_at_call 53; refine (fmtIn n hn.out _ hM.out).mono ?_; rintro e w' ⟨rfl, hb⟩)
    go_ret
    exact ⟨rfl, hb⟩
  case isFalse => cases h
def strings_Join.f (l0 : List ByteArray) (a1 : ByteArray) : Option ByteArray := if l0.length ≤ 140737488355328 ∧ (Lib.join (l0.map (·.data.toList)) a1.data.toList).length ≤ 140737488355328 then some ⟨(Lib.join (l0.map (·.data.toList)) a1.data.toList).toArray⟩ else none
theorem strings_Join.plain {w : World} {ad : Addr} {v : Value} (h : w.cell? ad = some v) : ad = ⟨ad.block, ad.off, none⟩ := by
  unfold World.cell? at h
  split at h
  · split at h
    · cases h
    · rename_i hs
      cases ad with
      | mk b o s => cases s with
        | none => rfl
        | some x => exact absurd rfl hs
  · cases h
theorem strings_Join.calls (A0 : Option Addr) (c0 : Nat) (l0 : List ByteArray) (a1 : ByteArray) (r : ByteArray) (w : World) (hr0 : Kd.C Kd.string w A0 l0.length l0) (hc0 : l0.length ≤ c0) (h : strings_Join.f l0 a1 = some r) :
    Calls Tryd.prog 43 #[.slice A0 l0.length c0, .string a1] w fun e w' => e = .returned (.string r) ∧ Below w.heap.size w w' := by
  unfold strings_Join.f at h
  split at h
  case isTrue hs =>
    cases h
    cases l0 with
    | nil => exact (Tryd.strings_Join_none A0 c0 a1 w).mono fun e w' ⟨he, hw⟩ => ⟨he, hw ▸ Below.refl _ _⟩
    | cons x xs =>
      obtain ⟨ad, rfl, h0⟩ := Kd.at_string hr0 0 (by omega) (by simp only [List.length_cons]; omega)
      have hp := strings_Join.plain h0
      have e0 : (ad.add (0 : Int).toNat) = ad := rfl
      rw [e0] at hp h0
      have hcells : ∀ (j : Nat) y, (x :: xs)[j]? = some y → w.cell? ⟨ad.block, ad.off + j, none⟩ = some (.string y) := by
        intro j y hj
        have hl : j < (x :: xs).length := (List.getElem?_eq_some_iff.1 hj).1
        obtain ⟨ad', e, hc⟩ := Kd.at_string hr0 (j : Int) (by omega) (by omega)
        cases e
        have ea : ad.add (j : Int).toNat = ⟨ad.block, ad.off + j, none⟩ := by
          rw [Int.toNat_natCast]; unfold Addr.add; split
          · rename_i hz; subst hz; simpa using hp
          · rfl
        rw [ea] at hc
        rw [hc]; simp only [rdOf, Int.toNat_natCast, List.getD_eq_getElem?_getD, hj, Option.getD_some]
      rw [hp]
      exact Tryd.strings_Join ad.block ad.off c0 (x :: xs) a1 w hcells (World.block_lt_of_cell? w _ h0) hs.1 hc0 hs.2
  case isFalse => cases h
def addr_joined.l0 : Nat → List ByteArray → List Int → Int → Int → Option (ByteArray)
  | 0, _, _, _, _ => none
  | k + 1, x3, x6, x7, x8 => if x8 < x7 then (if 0 ≤ x8 then (if x8 < (x6.length : Int) then ((strconv_FormatUint.f (rd x6 x8) 16).bind fun t124 => (if x3.length < 8796093022208 then (addr_joined.l0 k (x3 ++ [t124]) x6 x7 (wrap64 (x8 + 1))) else (none))) else (none)) else (none)) else ((strings_Join.f x3 (⟨#[58]⟩ : ByteArray)).bind fun t128 => (some t128))
def addr_joined.f (k : Nat) (l0 : List Int) : Option (ByteArray) := addr_joined.l0 k ([] : List ByteArray) l0 (l0.length : Int) 0
theorem addr_joined.mono_l : ∀ k, (∀ y0 y1 y2 y3, LeO (addr_joined.l0 k y0 y1 y2 y3) (addr_joined.l0 (k + 1) y0 y1 y2 y3))
  | 0 => fun _ _ _ _ r h => by simp [addr_joined.l0] at h
  | k + 1 => by
    have ih0 := addr_joined.mono_l k
    · intro y0 y1 y2 y3
      unfold addr_joined.l0
      exact xO
theorem addr_joined.mono : ∀ a0 k, LeO (addr_joined.f k a0) (addr_joined.f (k + 1) a0) := by
  intro a0 k
  have ih0 := addr_joined.mono_l k
  unfold addr_joined.f
  exact xO
set_option maxHeartbeats 8000000 in
set_option maxRecDepth 100000 in
theorem addr_joined.calls (k : Nat) (A0 : Option Addr) (c0 : Nat) (l0 : List Int) (r : ByteArray) (w : World) (hML : MLOk w) (hr0 : Kd.C (Kd.int .u64) w A0 l0.length l0) (hc0 : l0.length ≤ c0) (h : addr_joined.f k l0 = some r) :
    Calls Tryd.prog 29 #[.slice A0 l0.length c0] w fun e w' => e = .returned (.string r) ∧ Below w.heap.size w w' := by
  have HML := Aside0.mk hML
  clear hML
  have HR0 := Aside0.mk hr0
  have HC0 := Aside0.mk hc0
  clear hr0 hc0
  have HB := Aside0.mk (Below.refl w.heap.size w)
  have H : (addr_joined.l0 k ([] : List ByteArray) l0 (l0.length : Int) 0) = some r := h
  clear h
  have H' := Aside0.mk H
  clear H
  go_enter Tryd.func29, Tryd.ntmps29
  go_wp2
  go_loopg [3, 8] k (fun kq v3 v8 w' => ∃ (x3_1 : List ByteArray) (x8_1 : Int), v8 = .int .i64 x8_1 ∧ Aside0 (addr_joined.l0 kq x3_1 l0 (l0.length : Int) x8_1 = some r) ∧ Aside0 (kq ≤ k) ∧ Aside0 (Kd.R Kd.string 9 w' w.heap.size (fun _ => True) v3 x3_1) ∧ Aside0 (Below w.heap.size w w'))
  case atStart => exact ⟨(([] : List ByteArray)), (0), xV, H', ⟨Nat.le_refl _⟩, ⟨by first | exact Kd.R_nil _ _ _ _ _ | exact Kd.N_nil _ _ _ _ _ | exact Kd.V_nil _ _ _ _ _ | exact Kd.Q_nil _ _ _ _ _ | exact Kd.S_nil _ _ _ _ _⟩, ⟨xB⟩⟩
  case round =>
    clear H'
    obtain ⟨x3_1, x8_1, rfl, HA, HK1, HO_3, HB⟩ := hrel
    cases gk with
    | zero => exact absurd HA.out (by simp [addr_joined.l0])
    | succ k1 =>
      have H := HA.out
      clear HA
      simp only [addr_joined.l0] at H
      by_cases c2 : x8_1 < (l0.length : Int)
      · rw [if_pos c2] at H
        have c2b0 : decide (x8_1 < (l0.length : Int)) = true := decide_eq_true c2
        clear c2
        by_cases c3 : 0 ≤ x8_1
        · rw [if_pos c3] at H
          have c3b0 : decide (0 ≤ x8_1) = true := decide_eq_true c3
          clear c3
          by_cases c4 : x8_1 < (l0.length : Int)
          · rw [if_pos c4] at H
            have c4b0 : decide (x8_1 < (l0.length : Int)) = true := decide_eq_true c4
            clear c4
            replace H := Option.bind_eq_some_iff.mp H
            obtain ⟨t124, A50, H⟩ := H
            replace H : (if x3_1.length < 8796093022208 then (addr_joined.l0 k1 (x3_1 ++ [t124]) l0 (l0.length : Int) (wrap64 (x8_1 + 1))) else (none)) = some r := H
            have A5 := Aside0.mk A50
            clear A50
            by_cases c6 : x3_1.length < 8796093022208
            · rw [if_pos c6] at H
              have LMc6 := Aside0.mk c6
              clear c6
              obtain ⟨y125, hy125⟩ : ∃ y_ : List ByteArray, y_ = (x3_1 ++ [t124]) := ⟨_, rfl⟩
              replace H : (addr_joined.l0 k1 y125 l0 (l0.length : Int) (wrap64 (x8_1 + 1))) = some r := by first | (rw [hy125]; with_reducible exact H) | (have H2_ := (Option.bind_some _ _).symm.trans H; rw [hy125]; with_reducible exact H2_) | (have H2_ := (Option.bind_some _ _).symm.trans H; with_reducible exact H2_) | with_reducible exact H | (rw [hy125]; exact H) | exact H
              have Ny125 := Aside0.mk hy125
              clear hy125
              have H' := Aside0.mk H
              clear H
              have p123 : 0 ≤ (x8_1 : Int) := of_decide_eq_true xA
              have q123 : x8_1 < (l0.length : Int) := of_decide_eq_true xA
              obtain ⟨ad123, e123, hx123_0⟩ := Kd.at_int HR0.out x8_1 p123 q123
              cases e123
              replace hx123_0 := (HB.out.cell (World.block_lt_of_cell? w _ hx123_0)).trans hx123_0
              replace p123 := eq_true p123
              replace q123 := eq_true q123
              go_wp2_with (first | ((with_reducible refine gate_callee (f := 42) rfl ?_); refine goesL_ (some 14) rfl rfl Tryd.func42 (by kernel_rfl) rfl #[.int .u64 (rd l0 x8_1), .int .i64 16] rfl xM ?_; (with_reducible refine (strconv_FormatUint.calls (rd l0 x8_1) 16 t124 _ ?side1 A5.out).mono ?_); (case side1 => first | exact MLOk.below HML.out xB | (repeat (first | exact HML.out | (with_reducible refine MLOk.alloc ?_ _) | (with_reducible refine MLOk.drewN ?_ _) | (with_reducible refine MLOk.drew ?_)))); rintro e w7 ⟨rfl, hb⟩; refine ⟨_, rfl, ?_⟩; have n0_ := Aside0.mk (Kd.R_below (xR HO_3.out) hb); have n1_ := Aside0.mk (below_step xB hb); clear HO_3; clear HB; have HO_3 := n0_; have HB := n1_; clear n0_ n1_; (try clear hb); (try clear hb2); (try clear hk); (try clear hi)) | ((with_reducible refine gate_builtin (b := .append) (xs := #[.tmp 12, .tmp 15]) rfl ?_); at_builtin; refine Kd.R_append Kd.string (w0 := w) w.heap.size rfl (.tmp 12) (.tmp 15) 70 9 (.string ⟨#[]⟩) 16 rfl Tryd.underlying70 info9 rfl (by decide) (by omega) u3 x3_1 t124 [.string t124] (fun _ => True) (fun _ => False) rfl rfl ?aP (fun _ hk => hk.elim) ?aF ?aO ?aB ?aS ?aL ?_; (case aP => exact rfl); (case aB => exact xB); (case aF => exact (fun _ _ => trivial)); (case aO => exact (xR HO_3.out)); (case aS => exact (below_size xB)); (case aL => have := LMc6.out; omega); intro v126 w8 ho hb hg hat; rw [← Ny125.out] at ho; have n0_ := Aside0.mk (hb); have n1_ := Aside0.mk (ho); clear HB; clear HO_3; have HB := n0_; have HO127 := n1_; clear n0_ n1_; clear ho hb hg hat))
              go_roundg k1
              case measure => have := HK1.out; omega
              case rel => exact ⟨(y125), (wrap64 (x8_1 + 1)), xV, H', ⟨by have := HK1.out; omega⟩, ⟨xR HO127.out⟩, ⟨xB⟩⟩
            · rw [if_neg c6] at H
              exact absurd H (by simp)
          · rw [if_neg c4] at H
            exact absurd H (by simp)
        · rw [if_neg c3] at H
          exact absurd H (by simp)
      · rw [if_neg c2] at H
        have c2b0 : decide (x8_1 < (l0.length : Int)) = false := decide_eq_false c2
        clear c2
        replace H := Option.bind_eq_some_iff.mp H
        obtain ⟨t128, A90, H⟩ := H
        replace H : (some t128) = some r := H
        have A9 := Aside0.mk A90
        clear A90
        obtain rfl := Option.some.inj H
        obtain ⟨Ao10, co10, eo10⟩ := Kd.R_slice HO_3.out
        subst eo10
        go_wp2_with (first | ((with_reducible refine gate_callee (f := 43) rfl ?_); refine goesL_ (some 19) rfl rfl Tryd.func43 (by kernel_rfl) rfl #[.slice Ao10 x3_1.length co10, .string (⟨#[58]⟩ : ByteArray)] rfl xM ?_; (with_reducible refine (strings_Join.calls _ _ x3_1 (⟨#[58]⟩ : ByteArray) t128 _ ?side1 ?side2 A9.out).mono ?_); (case side1 => repeat (first | exact (Kd.R_reads' HO_3.out).2.2 | (with_reducible refine Kd.C_alloc ?_ _) | (with_reducible refine Kd.C_drewN ?_ _) | (with_reducible refine Kd.C_drew ?_))); (case side2 => exact (Kd.R_reads' HO_3.out).2.1); rintro e w11 ⟨rfl, hb⟩; refine ⟨_, rfl, ?_⟩; have n0_ := Aside0.mk (Kd.R_below (xR HO_3.out) hb); have n1_ := Aside0.mk (below_step xB hb); clear HO_3; clear HB; have HO_3 := n0_; have HB := n1_; clear n0_ n1_; (try clear hb); (try clear hb2); (try clear hk); (try clear hi)))
        go_ret
        exact ⟨xE, xB⟩
def zr (g : List Int) : Nat → Nat → Nat
  | 0, _ => 0
  | d + 1, i => if g.getD i 0 = 0 then zr g d (i + 1) + 1 else 0
def lg (g : List Int) : Nat → Nat → Nat → Nat → Nat × Nat
  | 0, _, fr, most => (fr, most)
  | d + 1, i, fr, most => if most < zr g (d + 1) i then lg g d (i + 1) i (zr g (d + 1) i) else lg g d (i + 1) fr most
def grpsF (k : Nat) (g : List Int) : Option ByteArray :=
  if (lg g 8 0 0 1).2 < 2 then addr_joined.f k g
  else (addr_joined.f k (g.take (lg g 8 0 0 1).1)).bind fun a => (addr_joined.f k (g.drop ((lg g 8 0 0 1).1 + (lg g 8 0 0 1).2))).bind fun b =>
    if a.size + 2 ≤ 9223372036854775807 then (if (a ++ (⟨#[58, 58]⟩ : ByteArray)).size + b.size ≤ 9223372036854775807 then some ((a ++ (⟨#[58, 58]⟩ : ByteArray)) ++ b) else none) else none
theorem row_C {W : World} {b t : Nat} {g : List Int} (h : W.heap[b]? = some (.cells (nums .u64 g).toArray t (0, 0))) (hg : g.length ≤ 9223372036854775807) (i n : Nat) (hin : i + n ≤ g.length) :
    Kd.C (Kd.int .u64) W (some ⟨b, i, none⟩) n ((g.drop i).take n) := by
  refine Kd.C_of_reads (d := (0 : Int)) ⟨by simp; omega, by omega, fun hn => ⟨_, rfl, fun j hj => ?_⟩⟩
  have e : (⟨b, i, none⟩ : Addr).add j = ⟨b, i + j, none⟩ := by unfold Addr.add; split <;> simp_all
  rw [e, blk_cell h]
  have hl : i + j < g.length := by omega
  simp [nums, List.getElem?_take, List.getElem?_drop, hj, hl]
theorem slice42_l (b : Nat) (l : Int) (h0 : 0 ≤ l) (h1 : l ≤ 8) (W : World) :
    (Instr.sliceAt 42 (.pointer (some ⟨b, 0, none⟩)) (some (.int .i64 l)) none none).run Tryd.prog W = .ok (.slice (some (if l = 8 then ⟨b, 0, none⟩ else ⟨b, l.toNat, none⟩)) (8 - l.toNat) (8 - l.toNat)) W := by
  have hal : Tryd.prog.arrayLen 42 = 8 := by kernel_rfl
  rw [run_sliceAt_array_l W 42 ⟨b, 0, none⟩ (by kernel_rfl) .i64 l h0 (by rw [hal]; omega)]
  rw [hal, show (sizeOf (Tryd.prog.elem 42)).run Tryd.prog W = .ok 1 W by kernel_rfl]
  simp only [Result.andThen, slicedAt]
  by_cases h8 : l = 8
  · subst h8; rfl
  · rw [if_neg (by omega), if_neg h8, add_plain]; simp
theorem slice42_h (b : Nat) (l : Int) (h0 : 0 ≤ l) (h1 : l ≤ 8) (W : World) :
    (Instr.sliceAt 42 (.pointer (some ⟨b, 0, none⟩)) none (some (.int .i64 l)) none).run Tryd.prog W = .ok (.slice (some ⟨b, 0, none⟩) l.toNat 8) W := by
  have hal : Tryd.prog.arrayLen 42 = 8 := by kernel_rfl
  rw [run_sliceAt_array_h W 42 ⟨b, 0, none⟩ (by kernel_rfl) .i64 l h0 (by rw [hal]; omega)]
  rw [hal, show (sizeOf (Tryd.prog.elem 42)).run Tryd.prog W = .ok 1 W by kernel_rfl]
  simp only [Result.andThen, slicedAt]
  rw [if_neg (by omega)]; rfl
theorem slice42_all (b : Nat) (W : World) :
    (Instr.sliceAt 42 (.pointer (some ⟨b, 0, none⟩)) none none none).run Tryd.prog W = .ok (.slice (some ⟨b, 0, none⟩) 8 8) W := by
  have hal : Tryd.prog.arrayLen 42 = 8 := by kernel_rfl
  rw [run_sliceAt_array_all W 42 ⟨b, 0, none⟩ (by kernel_rfl)]
  rw [hal, show (sizeOf (Tryd.prog.elem 42)).run Tryd.prog W = .ok 1 W by kernel_rfl]
  rfl
set_option maxHeartbeats 2000000 in
set_option maxRecDepth 100000 in
theorem grps_calls (k : Nat) (g : List Int) (hg : g.length = 8) (r : ByteArray) (w : World) (hML : MLOk w) (h : grpsF k g = some r) :
    Calls Tryd.prog 16 #[.agg (nums .u64 g).toArray] w fun e w' => e = .returned (.string r) ∧ Below w.heap.size w w' := by
  have HM := Aside0.mk hML
  have HH := Aside0.mk h
  have HG := Aside0.mk hg
  clear hML h
  have hbx : (w.alloc (.cells (nums .u64 g).toArray 42)).heap[w.heap.size]? = some (.cells (nums .u64 g).toArray 42 (0, 0)) := blk_new _ _
  have HB0 := Aside0.mk (below_alloc (Below.refl w.heap.size w) (.cells (nums .u64 g).toArray 42))
  have HB1 := Aside0.mk hbx
  clear hbx hg
  go_enter Tryd.func16, Tryd.ntmps16
  go_wp2
  generalize (w.alloc (.cells (nums .u64 g).toArray 42)) = W at *
  go_loop [3, 4, 5] (fun v3 v4 v5 => ∃ (fr most i d : Nat), v3 = .int .i64 fr ∧ v4 = .int .i64 most ∧ v5 = .int .i64 i ∧ Aside0 (i + d = 8) ∧ Aside0 (fr + most ≤ 8) ∧ Aside0 (lg g d i fr most = lg g 8 0 0 1)) (fun _ _ v5 => (8 - (intOf v5)).toNat)
  case atStart => exact ⟨0, 1, 0, 8, rfl, rfl, rfl, ⟨rfl⟩, ⟨by decide⟩, ⟨rfl⟩⟩
  case round =>
    obtain ⟨fr, most, i, d, rfl, rfl, rfl, HD, HF, HL⟩ := hrel
    cases d with
    | zero =>
      have hi8 : i = 8 := by have := HD.out; omega
      subst hi8
      have hL : lg g 8 0 0 1 = (fr, most) := HL.out.symm
      have hh := HH.out
      unfold grpsF at hh
      rw [hL] at hh
      dsimp only at hh
      have hML : MLOk W := HM.out.below HB0.out
      clear hL HH
      by_cases hm : most < 2
      · rw [if_pos hm] at hh
        have hm' : (most : Int) < 2 := by omega
        have hC := row_C HB1.out (by have := HG.out; omega) 0 8 (by have := HG.out; omega)
        have e8 : List.take 8 (List.drop 0 g) = g := by rw [List.drop_zero, List.take_of_length_le (by have := HG.out; omega)]
        rw [e8] at hC
        have c1 := addr_joined.calls k (some ⟨w.heap.size, 0, none⟩) 8 g r W hML (by rw [HG.out]; exact hC) (by have := HG.out; omega) hh
        rw [HG.out] at c1
        have hsl := slice42_all w.heap.size
        have C1 := Aside0.mk c1
        clear c1 hh e8 hC
        go_wp2_with (go_at_call 29; (with_reducible refine C1.out.mono ?_); rintro e w' ⟨rfl, hb⟩)
        go_ret
        exact ⟨rfl, below_step HB0.out hb⟩
      · rw [if_neg hm] at hh
        obtain ⟨a, ha, hh⟩ := Option.bind_eq_some_iff.1 hh
        obtain ⟨b, hb, hh⟩ := Option.bind_eq_some_iff.1 hh
        have hm' : ¬ (most : Int) < 2 := by omega
        have hF : fr + most ≤ 8 := HF.out
        have l1 : (g.take fr).length = fr := by have := HG.out; simp; omega
        have l2 : (g.drop (fr + most)).length = 8 - (fr + most) := by have := HG.out; simp; omega
        have c1 : ∀ W', Below W.heap.size W W' → Calls Tryd.prog 29 #[.slice (some ⟨w.heap.size, 0, none⟩) fr 8] W' fun e w' => e = .returned (.string a) ∧ Below W'.heap.size W' w' := fun W' hb' => by
          have hC1 := row_C (blk_below HB1.out hb') (by have := HG.out; omega) 0 fr (by have := HG.out; omega)
          rw [List.drop_zero] at hC1
          have c1 := addr_joined.calls k (some ⟨w.heap.size, 0, none⟩) 8 (g.take fr) a W' (hML.below hb') (by rw [l1]; exact hC1) (by omega) ha
          rw [l1] at c1
          exact c1
        have hs1 := slice42_h w.heap.size (fr : Int) (by omega) (by omega)
        obtain ⟨ad2, hs2, hC2⟩ : ∃ ad2, (∀ W', (Instr.sliceAt 42 (.pointer (some ⟨w.heap.size, 0, none⟩)) (some (.int .i64 ((fr : Int) + (most : Int)))) none none).run Tryd.prog W' = .ok (.slice (some ad2) (g.drop (fr + most)).length (g.drop (fr + most)).length) W') ∧
            (∀ W', Below W.heap.size W W' → Kd.C (Kd.int .u64) W' (some ad2) (g.drop (fr + most)).length (g.drop (fr + most))) := by
          refine ⟨if (fr : Int) + (most : Int) = 8 then ⟨w.heap.size, 0, none⟩ else ⟨w.heap.size, fr + most, none⟩, fun W' => ?_, fun W' hb => ?_⟩
          · rw [slice42_l w.heap.size ((fr : Int) + (most : Int)) (by omega) (by omega), l2, show ((fr : Int) + (most : Int)).toNat = fr + most by omega]
          · rw [l2]
            by_cases h8 : fr + most = 8
            · rw [if_pos (by omega), show 8 - (fr + most) = 0 by omega]
              have e0 : List.drop (fr + most) g = [] := List.drop_eq_nil_of_le (by have := HG.out; omega)
              rw [e0]
              exact ⟨rfl, by decide, fun h => absurd h (Nat.lt_irrefl 0)⟩
            · rw [if_neg (by omega)]
              have := row_C (blk_below HB1.out hb) (by have := HG.out; omega) (fr + most) (8 - (fr + most)) (by have := HG.out; omega)
              rw [List.take_of_length_le (by rw [l2]; exact Nat.le_refl _)] at this
              exact this
        have C1 := Aside0.mk c1
        have c2 : ∀ W', Below W.heap.size W W' → Calls Tryd.prog 29 #[.slice (some ad2) (g.drop (fr + most)).length (g.drop (fr + most)).length] W' fun e w' => e = .returned (.string b) ∧ Below W'.heap.size W' w' := fun W' hb' =>
          addr_joined.calls k (some ad2) _ (g.drop (fr + most)) b W' (hML.below hb') (hC2 W' hb') (Nat.le_refl _) hb
        generalize (g.drop (fr + most)).length = m2 at hs2 c2
        have C2 := Aside0.mk c2
        have q1 : a.size + 2 ≤ 9223372036854775807 := by
          rcases Nat.lt_or_ge 9223372036854775807 (a.size + 2) with h | h
          · rw [if_neg (by omega)] at hh; cases hh
          · exact h
        rw [if_pos q1] at hh
        have q2 : (a ++ (⟨#[58, 58]⟩ : ByteArray)).size + b.size ≤ 9223372036854775807 := by
          rcases Nat.lt_or_ge 9223372036854775807 ((a ++ (⟨#[58, 58]⟩ : ByteArray)).size + b.size) with h | h
          · rw [if_neg (by omega)] at hh; cases hh
          · exact h
        rw [if_pos q2] at hh
        have er : (a ++ (⟨#[58, 58]⟩ : ByteArray)) ++ b = r := Option.some.inj hh
        have q3 : a.size + 2 + b.size ≤ 9223372036854775807 := by rw [ByteArray.size_append] at q2; exact q2
        have l3 : (9223372036854775807 < a.size + 2) = False := eq_false (Nat.not_lt.2 q1)
        have l4 : (9223372036854775807 < a.size + 2 + b.size) = False := eq_false (Nat.not_lt.2 q3)
        have l5 : (9223372036854775807 < (a ++ (⟨#[58, 58]⟩ : ByteArray)).size + b.size) = False := eq_false (Nat.not_lt.2 q2)
        have HR := Aside0.mk er
        have hwr : IntKind.i64.wrap ((fr : Int) + (most : Int)) = (fr : Int) + (most : Int) := by rw [i64_w]; unfold wrap64; omega
        clear er q1 q2 q3
        clear c1 c2 hC2 hh ha hb hm l1 l2 hML
        go_wp2_with fail
        go_region_with (first | (go_at_call 29; (with_reducible refine (C1.out _ ?hbb).mono ?_); (case hbb => repeat (first | assumption | exact Below.refl _ _ | apply below_drew1 | apply pw_below_drewN)); rintro e w1 ⟨rfl, hb1⟩) | (go_at_call 29; (with_reducible refine (C2.out _ ?hbb).mono ?_); (case hbb => first | exact below_then (below_drew1 (Below.refl _ _)) (Nat.le_refl _) hb1 | exact below_then (Below.refl _ _) (Nat.le_refl _) hb1); rintro e w2 ⟨rfl, hb2⟩))
        go_wp2
        go_ret
        exact ⟨by rw [← HR.out]; rfl, below_step (below_step (below_drew1 HB0.out) hb1) hb2⟩
    | succ d =>
      have hi8 : i < 8 := by have := HD.out; omega
      go_wp2
      go_loop [6] (fun v6 => ∃ n : Nat, v6 = .int .i64 n ∧ Aside0 (i + n ≤ 8) ∧ Aside0 (zr g (8 - i) i = n + zr g (8 - (i + n)) (i + n))) (fun v6 => (8 - (intOf v6)).toNat)
      case atStart => exact ⟨0, rfl, ⟨by omega⟩, ⟨by simp⟩⟩
      case round =>
        obtain ⟨n, rfl, HN, HZ⟩ := hrel
        by_cases hlt : i + n < 8
        · have hcell : W.cell? ⟨w.heap.size, i + n, none⟩ = some (.int .u64 (g.getD (i + n) 0)) := by
            rw [blk_cell HB1.out]
            have hl : i + n < g.length := by have := HG.out; omega
            simp [nums, hl]
          have hlt' : (i : Int) + (n : Int) < 8 := by omega
          have e8 : 8 - (i + n) = (8 - (i + (n + 1))) + 1 := by omega
          have E8 := Aside0.mk e8
          clear e8
          by_cases hz : g.getD (i + n) 0 = 0
          · rw [hz] at hcell
            have HZ0 := Aside0.mk hz
            clear hz
            go_wp2
            go_round
            case rel =>
              refine ⟨n + 1, by go_num, ⟨by omega⟩, ⟨?_⟩⟩
              rw [HZ.out, E8.out, zr, if_pos HZ0.out, Nat.add_assoc i n 1]
              omega
            case measure => simp [intOf]; omega
          · have hzb : (g.getD (i + n) 0 == 0) = false := by simpa using hz
            have hn : zr g (8 - i) i = n := by
              rw [HZ.out, E8.out, zr, if_neg hz]; rfl
            have HNN := Aside0.mk hn
            clear hz hn E8
            generalize g.getD (i + n) 0 = c at hcell hzb
            rcases Nat.lt_or_ge most n with hgt | hgt
            · have hgt' : (most : Int) < (n : Int) := by omega
              go_wp2
              go_round
              case rel =>
                refine ⟨i, n, i + 1, d, rfl, rfl, by go_num, ⟨by have := HD.out; omega⟩, ⟨by omega⟩, ⟨?_⟩⟩
                have e := HL.out
                rw [lg, show d + 1 = 8 - i by have := HD.out; omega, HNN.out, if_pos hgt] at e
                exact e
              case measure => simp [intOf]; omega
            · have hgt' : ¬ (most : Int) < (n : Int) := by omega
              go_wp2
              go_round
              case rel =>
                refine ⟨fr, most, i + 1, d, rfl, rfl, by go_num, ⟨by have := HD.out; omega⟩, HF, ⟨?_⟩⟩
                have e := HL.out
                rw [lg, show d + 1 = 8 - i by have := HD.out; omega, HNN.out, if_neg (by omega)] at e
                exact e
              case measure => simp [intOf]; omega
        · have hlt' : ¬ (i : Int) + (n : Int) < 8 := by omega
          have hn : zr g (8 - i) i = n := by
            have := HN.out
            rw [HZ.out, show 8 - (i + n) = 0 by omega]; rfl
          have HNN := Aside0.mk hn
          have hn8 : i + n ≤ 8 := HN.out
          clear hn
          rcases Nat.lt_or_ge most n with hgt | hgt
          · have hgt' : (most : Int) < (n : Int) := by omega
            go_wp2
            go_round
            case rel =>
              refine ⟨i, n, i + 1, d, rfl, rfl, by go_num, ⟨by have := HD.out; omega⟩, ⟨by omega⟩, ⟨?_⟩⟩
              have e := HL.out
              rw [lg, show d + 1 = 8 - i by have := HD.out; omega, HNN.out, if_pos hgt] at e
              exact e
            case measure => simp [intOf]; omega
          · have hgt' : ¬ (most : Int) < (n : Int) := by omega
            go_wp2
            go_round
            case rel =>
              refine ⟨fr, most, i + 1, d, rfl, rfl, by go_num, ⟨by have := HD.out; omega⟩, HF, ⟨?_⟩⟩
              have e := HL.out
              rw [lg, show d + 1 = 8 - i by have := HD.out; omega, HNN.out, if_neg (by omega)] at e
              exact e
            case measure => simp [intOf]; omega
theorem digs_le (u : Nat) (hu : u < 256) : (Lib.decDigits u).length ≤ 20 := by
  rw [Lib.decDigits_length]
  rcases Nat.lt_or_ge u 10 with h | h
  · rw [Lib.nDigits_small h]; omega
  · rw [Lib.nDigits_big (by omega)]
    rcases Nat.lt_or_ge (u / 10) 10 with h | h
    · rw [Lib.nDigits_small h]; omega
    · rw [Lib.nDigits_big (by omega), Lib.nDigits_small (show u / 10 / 10 < 10 by omega)]; omega
theorem appU (B n u : Nat) (hu : u < 256) (sv : Value) (xs : List Value) (w : World) (hown : w.ownsRow B 5 1 sv n xs) (hBw : B ≤ w.heap.size) (hlim : n + 20 ≤ 140737488355328) (hM : MLOk w) :
    Calls Tryd.prog 14 #[sv, .int .u64 u, .int .i64 10] w fun e w' => ∃ v', e = .returned v' ∧ w'.ownsRow B 5 1 v' (n + (Lib.decDigits u).length) (xs ++ Lib.byteCells (Lib.decDigits u)) ∧ Below B w w' := by
  have c : Calls Tryd.prog 28 #[sv, .int .u64 u, .int .i64 10] w fun e w' => ∃ v', e = .returned v' ∧ w'.ownsRow B 5 1 v' (n + (Lib.decDigits u).length) (xs ++ Lib.byteCells (Lib.decDigits u)) ∧ Below B w w' := by
    rcases Nat.lt_or_ge u 100 with h | h
    · exact (Tryd.internal_strconv_AppendUint_10_small B n u h sv xs w hown hBw hlim).mono fun e w' ⟨v', h1, h2, h3, _⟩ => ⟨v', h1, h2, h3⟩
    · exact (Tryd.internal_strconv_AppendUint_10_big B n u h (by omega) sv xs w hown hBw hlim hM.p10).mono fun e w' ⟨v', h1, h2, h3, _⟩ => ⟨v', h1, h2, h3⟩
  have C := Aside0.mk c
  clear c hown hM hBw hlim hu
  go_enter Tryd.func14, Tryd.ntmps14
  go_wp2_with (go_at_call 28; (with_reducible refine C.out.mono ?_); rintro e w' ⟨v', rfl, h1, h2⟩)
  go_ret
  exact ⟨v', rfl, h1, h2⟩
def oc (v i : Nat) : Nat := v / 2 ^ (56 - 8 * i) % 256
def qT (v : Nat) : Nat → List UInt8
  | 0 => []
  | i + 1 => qT v i ++ (if i = 0 then [] else [46]) ++ Lib.decDigits (oc v i)
theorem oc_lt (v i : Nat) : oc v i < 256 := Nat.mod_lt _ (by decide)
theorem and255 (v : Nat) (hv : v < 18446744073709551616) : Go.bits .and .u64 (v : Int) 255 = ((v % 256 : Nat) : Int) := by
  have h := u64_and_nat v 255 hv (by decide)
  rw [show ((255 : Nat) : Int) = 255 from rfl] at h
  rw [h, show (255 : Nat) = 2 ^ 8 - 1 from rfl, Nat.and_two_pow_sub_one_eq_mod]
theorem bnums_cells (L : List UInt8) : nums .u8 (L.map fun c => (c.toNat : Int)) = Lib.byteCells L := by simp [nums, Lib.byteCells]
theorem bnums_str (L : List UInt8) : strOfNums (L.map fun c => (c.toNat : Int)) = ⟨L.toArray⟩ := by
  show (⟨((L.map fun c => (c.toNat : Int)).map fun n => UInt8.ofNat n.toNat).toArray⟩ : ByteArray) = _
  rw [List.map_map]
  have : ((fun n : Int => UInt8.ofNat n.toNat) ∘ fun c : UInt8 => (c.toNat : Int)) = id := by funext c; simp
  rw [this, List.map_id]
def gsF (a b : Int) : Nat → Option (List Int)
  | 0 => some []
  | i + 1 => (gsF a b i).bind fun g => (word_Shr.f a b (112 - 16 * (i : Int))).bind fun s => some (g ++ [Go.bits .and .u64 s.2 65535])
theorem info5u : (Tryd.prog.info? 5).map (fun i => (i.zero, i.size, i.bytes)) = some (some (.int .u8 0), 1, 1) := by kernel_rfl
theorem qT_step (v i : Nat) (h : i ≠ 0) : qT v (i + 1) = (qT v i ++ [46]) ++ Lib.decDigits (oc v i) := by rw [qT, if_neg h]
theorem dotted {B : Nat} {v : Value} {w : World} {L : List UInt8} (h : w.ownsRow B 5 1 v ((L.map fun c : UInt8 => (c.toNat : Int)) ++ [46]).length (nums .u8 ((L.map fun c : UInt8 => (c.toNat : Int)) ++ [46]))) :
    w.ownsRow B 5 1 v (L ++ [46]).length (Lib.byteCells (L ++ [46])) := by
  have e : (L.map fun c : UInt8 => (c.toNat : Int)) ++ [46] = (L ++ [46]).map fun c : UInt8 => (c.toNat : Int) := by rw [List.map_append]; rfl
  rw [e, bnums_cells, List.length_map] at h
  exact h
set_option maxHeartbeats 2000000 in
set_option maxRecDepth 100000 in
theorem Text.four (k : Nat) (a : Nat) (ha : a < 18446744073709551616) (b : Int) (w : World) (hML : MLOk w) (h : addr_Right.f k 32 a b = some 0) :
    Calls Tryd.prog 5 #[.int .i64 32, .agg #[.int .u64 a, .int .u64 b]] w fun e w' => e = .returned (.tuple #[.string ⟨(qT a 4).toArray⟩, .int .i64 0]) ∧ Below w.heap.size w w' := by
  have HM := Aside0.mk hML
  have HH := Aside0.mk h
  have HAA := Aside0.mk ha
  have hbx : (w.alloc (.cells #[.int .u64 a, .int .u64 b] 24)).heap[w.heap.size]? = some (.cells #[.int .u64 a, .int .u64 b] 24 (0, 0)) := blk_new _ _
  have HB0 := Aside0.mk (below_alloc (Below.refl w.heap.size w) (.cells #[.int .u64 a, .int .u64 b] 24))
  have HB1 := Aside0.mk hbx
  clear hML h hbx ha
  go_enter Tryd.func5, Tryd.ntmps5
  go_wp2_with (go_at_call 8; (with_reducible refine (addr_Right.calls k 32 a b 0 _ HH.out).mono ?_); rintro e w1 ⟨rfl, hb1⟩)
  have hBK := blk_below HB1.out hb1
  have HBW := Aside0.mk (below_step HB0.out hb1)
  have hM1 := HM.out.below HBW.out
  have HM1 := Aside0.mk hM1
  have HBK := Aside0.mk hBK
  have hlt : w.heap.size < w1.heap.size := blk_lt hBK
  have HLT := Aside0.mk hlt
  clear hb1 hBK hM1 HB0 HB1 hlt
  have hu40 := Tryd.underlying40
  go_loopw [7, 19] (fun v7 v19 wr => ∃ i : Nat, v19 = .int .i64 i ∧ Aside0 (i ≤ 4) ∧ Aside0 ((qT a i).length ≤ 21 * i) ∧ Aside0 (wr.ownsRow w1.heap.size 5 1 v7 (qT a i).length (Lib.byteCells (qT a i))) ∧ Aside0 (Below w1.heap.size w1 wr)) (fun _ v19 _ => (4 - (intOf v19)).toNat)
  case atStart => exact ⟨0, rfl, ⟨by decide⟩, ⟨by simp [qT]⟩, ⟨own_nil _ _ _ _⟩, ⟨Below.refl _ _⟩⟩
  case round =>
    obtain ⟨i, rfl, HI, HQ, HO, HB⟩ := hrel
    have hBK := blk_below HBK.out HB.out
    have hc0 : wr.cell? ⟨w.heap.size, 0, none⟩ = some (.int .u64 a) := by rw [blk_cell hBK]; rfl
    clear hBK
    rcases Nat.lt_or_ge i 4 with hlt | hge
    · have hi4 : i = 0 ∨ i = 1 ∨ i = 2 ∨ i = 3 := by omega
      have hbW : w1.heap.size ≤ wr.heap.size := HB.out.size
      have hlq : (qT a i).length + 1 + 20 ≤ 140737488355328 := by have := HQ.out; have := HI.out; omega
      have hML := HM1.out.below HB.out
      have HML := Aside0.mk hML
      have hou := oc_lt a i
      have HOU := Aside0.mk hou
      have hdl := digs_le _ hou
      have HDL := Aside0.mk hdl
      have HLQ := Aside0.mk hlq
      have HBWW := Aside0.mk hbW
      clear hML hdl hou hlq hbW
      obtain ⟨j, hj⟩ : ∃ j : Int, j = (i : Int) := ⟨_, rfl⟩
      rw [← hj]
      rcases hi4 with rfl | rfl | rfl | rfl
      · obtain rfl : j = 0 := hj
        clear hlt
        have ha1 := and255 (a / 72057594037927936) (by have := HAA.out; omega)
        rw [show a / 72057594037927936 % 256 = oc a 0 from rfl, Int.natCast_ediv, show ((72057594037927936 : Nat) : Int) = 72057594037927936 from rfl] at ha1
        go_wp2_with (go_at_call 14; (with_reducible refine (appU w1.heap.size 0 (oc a 0) HOU.out _ [] _ HO.out HBWW.out (by omega) HML.out).mono ?_); rintro e w2 ⟨v', rfl, h1, h2⟩)
        go_roundw
        case rel =>
          refine ⟨1, rfl, ⟨by decide⟩, ⟨?_⟩, ⟨?_⟩, ⟨HB.out.trans h2⟩⟩
          · simp only [qT, List.length_append]; have := HDL.out; simp; omega
          · simpa [qT] using h1
        case measure => simp [intOf]
      · obtain rfl : j = 1 := hj
        clear hlt
        have ha1 := and255 (a / 281474976710656) (by have := HAA.out; omega)
        rw [show a / 281474976710656 % 256 = oc a 1 from rfl, Int.natCast_ediv, show ((281474976710656 : Nat) : Int) = 281474976710656 from rfl] at ha1
        go_wp2_with (first
          | (at_builtin; go_loud (refine print_append_num (w0 := w1) w1.heap.size rfl _ _ 40 5 .u8 1 rfl hu40 info5u (by decide) _ ((qT a 1).map fun c => (c.toNat : Int)) 46 rfl rfl (by rw [bnums_cells, List.length_map]; exact HO.out) HB.out HBWW.out (by rw [List.length_map]; have := HLQ.out; omega) ?_); intro v2 w2 h1 h2 _ _; have H1 := Aside0.mk (dotted h1); have H2 := Aside0.mk h2; have hc2 : w2.cell? ⟨w.heap.size, 0, none⟩ = some (.int .u64 a) := (by rw [blk_cell (blk_below HBK.out h2)]; rfl); clear h1 h2)
          | (go_at_call 14; (with_reducible refine (appU w1.heap.size (qT a 1 ++ [46]).length (oc a 1) HOU.out _ (Lib.byteCells (qT a 1 ++ [46])) _ H1.out H2.out.size (by rw [List.length_append]; have := HLQ.out; simp only [List.length_cons, List.length_nil]; omega) (HM1.out.below H2.out)).mono ?_); rintro e w3 ⟨v', rfl, h3, h4⟩))
        go_roundw
        case rel =>
          refine ⟨2, rfl, ⟨by decide⟩, ⟨?_⟩, ⟨?_⟩, ⟨H2.out.trans h4⟩⟩
          · rw [qT_step a 1 (by decide), List.length_append, List.length_append]; have := HDL.out; have := HQ.out; simp only [List.length_cons, List.length_nil]; omega
          · rw [qT_step a 1 (by decide), List.length_append, Lib.byteCells_append]; exact h3
        case measure => simp [intOf]
      · obtain rfl : j = 2 := hj
        clear hlt
        have ha1 := and255 (a / 1099511627776) (by have := HAA.out; omega)
        rw [show a / 1099511627776 % 256 = oc a 2 from rfl, Int.natCast_ediv, show ((1099511627776 : Nat) : Int) = 1099511627776 from rfl] at ha1
        go_wp2_with (first
          | (at_builtin; go_loud (refine print_append_num (w0 := w1) w1.heap.size rfl _ _ 40 5 .u8 1 rfl hu40 info5u (by decide) _ ((qT a 2).map fun c => (c.toNat : Int)) 46 rfl rfl (by rw [bnums_cells, List.length_map]; exact HO.out) HB.out HBWW.out (by rw [List.length_map]; have := HLQ.out; omega) ?_); intro v2 w2 h1 h2 _ _; have H1 := Aside0.mk (dotted h1); have H2 := Aside0.mk h2; have hc2 : w2.cell? ⟨w.heap.size, 0, none⟩ = some (.int .u64 a) := (by rw [blk_cell (blk_below HBK.out h2)]; rfl); clear h1 h2)
          | (go_at_call 14; (with_reducible refine (appU w1.heap.size (qT a 2 ++ [46]).length (oc a 2) HOU.out _ (Lib.byteCells (qT a 2 ++ [46])) _ H1.out H2.out.size (by rw [List.length_append]; have := HLQ.out; simp only [List.length_cons, List.length_nil]; omega) (HM1.out.below H2.out)).mono ?_); rintro e w3 ⟨v', rfl, h3, h4⟩))
        go_roundw
        case rel =>
          refine ⟨3, rfl, ⟨by decide⟩, ⟨?_⟩, ⟨?_⟩, ⟨H2.out.trans h4⟩⟩
          · rw [qT_step a 2 (by decide), List.length_append, List.length_append]; have := HDL.out; have := HQ.out; simp only [List.length_cons, List.length_nil]; omega
          · rw [qT_step a 2 (by decide), List.length_append, Lib.byteCells_append]; exact h3
        case measure => simp [intOf]
      · obtain rfl : j = 3 := hj
        clear hlt
        have ha1 := and255 (a / 4294967296) (by have := HAA.out; omega)
        rw [show a / 4294967296 % 256 = oc a 3 from rfl, Int.natCast_ediv, show ((4294967296 : Nat) : Int) = 4294967296 from rfl] at ha1
        go_wp2_with (first
          | (at_builtin; go_loud (refine print_append_num (w0 := w1) w1.heap.size rfl _ _ 40 5 .u8 1 rfl hu40 info5u (by decide) _ ((qT a 3).map fun c => (c.toNat : Int)) 46 rfl rfl (by rw [bnums_cells, List.length_map]; exact HO.out) HB.out HBWW.out (by rw [List.length_map]; have := HLQ.out; omega) ?_); intro v2 w2 h1 h2 _ _; have H1 := Aside0.mk (dotted h1); have H2 := Aside0.mk h2; have hc2 : w2.cell? ⟨w.heap.size, 0, none⟩ = some (.int .u64 a) := (by rw [blk_cell (blk_below HBK.out h2)]; rfl); clear h1 h2)
          | (go_at_call 14; (with_reducible refine (appU w1.heap.size (qT a 3 ++ [46]).length (oc a 3) HOU.out _ (Lib.byteCells (qT a 3 ++ [46])) _ H1.out H2.out.size (by rw [List.length_append]; have := HLQ.out; simp only [List.length_cons, List.length_nil]; omega) (HM1.out.below H2.out)).mono ?_); rintro e w3 ⟨v', rfl, h3, h4⟩))
        go_roundw
        case rel =>
          refine ⟨4, rfl, ⟨by decide⟩, ⟨?_⟩, ⟨?_⟩, ⟨H2.out.trans h4⟩⟩
          · rw [qT_step a 3 (by decide), List.length_append, List.length_append]; have := HDL.out; have := HQ.out; simp only [List.length_cons, List.length_nil]; omega
          · rw [qT_step a 3 (by decide), List.length_append, Lib.byteCells_append]; exact h3
        case measure => simp [intOf]
    · obtain rfl : i = 4 := by have := HI.out; omega
      have hs := own_string (P := Tryd.prog) (src := 40) (dst := 9) (e := 5) (xs := (qT a 4).map fun c : UInt8 => (c.toNat : Int)) Tryd.underlying40 (by kernel_rfl) Tryd.underlying9 (by rw [bnums_cells]; exact HO.out)
      rw [bnums_str] at hs
      clear hge
      go_wp2
      go_ret2
      exact ⟨rfl, below_step HBW.out HB.out⟩
set_option maxHeartbeats 2000000 in
set_option maxRecDepth 100000 in
theorem Text.bad (k : Nat) (f a b : Int) (e : Int) (he : e ≠ 0) (w : World) (h : addr_Right.f k f a b = some e) :
    Calls Tryd.prog 5 #[.int .i64 f, .agg #[.int .u64 a, .int .u64 b]] w fun e' w' => e' = .returned (.tuple #[.string ⟨#[]⟩, .int .i64 e]) ∧ Below w.heap.size w w' := by
  have HH := Aside0.mk h
  have hne : (e != 0) = true := by simpa using he
  have HB0 := Aside0.mk (below_alloc (Below.refl w.heap.size w) (.cells #[.int .u64 a, .int .u64 b] 24))
  clear h he
  go_enter Tryd.func5, Tryd.ntmps5
  go_wp2_with (go_at_call 8; (with_reducible refine (addr_Right.calls k f a b e _ HH.out).mono ?_); rintro e1 w1 ⟨rfl, hb1⟩)
  go_ret2
  exact ⟨rfl, below_step HB0.out hb1⟩
theorem gsF_len (a b : Int) : ∀ (i : Nat) (g : List Int), gsF a b i = some g → g.length = i
  | 0, g, h => by cases h; rfl
  | i + 1, g, h => by
    rw [gsF] at h
    obtain ⟨g', h1, h⟩ := Option.bind_eq_some_iff.1 h
    obtain ⟨s, _, h⟩ := Option.bind_eq_some_iff.1 h
    cases h
    rw [List.length_append, gsF_len a b i g' h1]; rfl
theorem gsF_le (a b : Int) {g : List Int} {n : Nat} (h : gsF a b n = some g) : ∀ i, i ≤ n → ∃ g', gsF a b i = some g'
  := by
  induction n generalizing g with
  | zero => intro i hi; obtain rfl : i = 0 := (by omega); exact ⟨_, h⟩
  | succ n ih =>
    intro i hi
    rw [gsF] at h
    obtain ⟨g1, h1, _⟩ := Option.bind_eq_some_iff.1 h
    rcases Nat.lt_or_ge i (n + 1) with hl | hg
    · exact ih h1 i (by omega)
    · obtain rfl : i = n + 1 := by omega
      exact ⟨g, by rw [gsF]; exact h⟩
def arr8 (g : List Int) : Array Value := (nums .u64 g ++ List.replicate (8 - g.length) (Value.int .u64 0)).toArray
theorem arr8_nil : (#[.int .u64 0, .int .u64 0, .int .u64 0, .int .u64 0, .int .u64 0, .int .u64 0, .int .u64 0, .int .u64 0] : Array Value) = arr8 [] := by kernel_rfl
theorem arr8_snoc (g : List Int) (x : Int) (h : g.length < 8) : (arr8 g).setIfInBounds g.length (.int .u64 x) = arr8 (g ++ [x]) := by
  unfold arr8
  have e1 : 8 - g.length = (8 - (g ++ [x]).length) + 1 := by simp only [List.length_append, List.length_cons, List.length_nil]; omega
  rw [e1, List.replicate_succ, List.setIfInBounds_toArray, List.set_append_right _ _ (by rw [nums_length]; exact Nat.le_refl _), nums_length, Nat.sub_self, List.set_cons_zero, nums_append]
  simp [nums]
theorem arr8_full (g : List Int) (h : g.length = 8) : arr8 g = (nums .u64 g).toArray := by unfold arr8; rw [h]; simp
theorem arr8_at (g : List Int) (h : g.length < 8) : (arr8 g)[g.length]? = some (.int .u64 0) := by
  unfold arr8
  rw [List.getElem?_toArray, List.getElem?_append_right (by rw [nums_length]; exact Nat.le_refl _), nums_length, Nat.sub_self, List.getElem?_replicate, if_pos (by omega)]
set_option maxHeartbeats 2000000 in
set_option maxRecDepth 100000 in
theorem Text.six (k : Nat) (f a b : Int) (hf : f ≠ 32) (g : List Int) (s : ByteArray) (w : World) (hML : MLOk w) (h : addr_Right.f k f a b = some 0) (hg : gsF a b 8 = some g) (hs : grpsF k g = some s) :
    Calls Tryd.prog 5 #[.int .i64 f, .agg #[.int .u64 a, .int .u64 b]] w fun e w' => e = .returned (.tuple #[.string s, .int .i64 0]) ∧ Below w.heap.size w w' := by
  have HM := Aside0.mk hML
  have HH := Aside0.mk h
  have HG := Aside0.mk hg
  have HS := Aside0.mk hs
  have hbx : (w.alloc (.cells #[.int .u64 a, .int .u64 b] 24)).heap[w.heap.size]? = some (.cells #[.int .u64 a, .int .u64 b] 24 (0, 0)) := blk_new _ _
  have HB0 := Aside0.mk (below_alloc (Below.refl w.heap.size w) (.cells #[.int .u64 a, .int .u64 b] 24))
  have HB1 := Aside0.mk hbx
  have hfb : (f == 32) = false := by simpa using hf
  clear hML h hbx hg hs hf
  have hu24 := Tryd.underlying24
  go_enter Tryd.func5, Tryd.ntmps5
  go_wp2_with (go_at_call 8; (with_reducible refine (addr_Right.calls k f a b 0 _ HH.out).mono ?_); rintro e w1 ⟨rfl, hb1⟩)
  have hBK := blk_below HB1.out hb1
  have HBW := Aside0.mk (below_step HB0.out hb1)
  have hM1 := HM.out.below HBW.out
  have HM1 := Aside0.mk hM1
  have HBK := Aside0.mk (blk_alloc hBK (.cells #[.int .u64 0, .int .u64 0, .int .u64 0, .int .u64 0, .int .u64 0, .int .u64 0, .int .u64 0, .int .u64 0] 42))
  have HBA := Aside0.mk (below_alloc HBW.out (.cells #[.int .u64 0, .int .u64 0, .int .u64 0, .int .u64 0, .int .u64 0, .int .u64 0, .int .u64 0, .int .u64 0] 42))
  have hnew : (w1.alloc (.cells #[.int .u64 0, .int .u64 0, .int .u64 0, .int .u64 0, .int .u64 0, .int .u64 0, .int .u64 0, .int .u64 0] 42)).heap[w1.heap.size]? = some (.cells (arr8 []) 42 (0, 0)) := by rw [← arr8_nil]; exact blk_new _ _
  have HNEW := Aside0.mk hnew
  have hlt : w.heap.size < w1.heap.size := blk_lt hBK
  have HLT := Aside0.mk hlt
  clear hb1 hBK hM1 HB0 HB1 hlt hnew
  go_loopw [10, 39] (fun v10 v39 wr => ∃ (i : Nat) (gs : List Int), v39 = .int .i64 i ∧ Aside0 (i ≤ 8) ∧ Aside0 (gsF a b i = some gs) ∧ Aside0 (wr.heap[w1.heap.size]? = some (.cells (arr8 gs) 42 (0, 0))) ∧ Aside0 (wr.heap[w.heap.size]? = some (.cells #[.int .u64 a, .int .u64 b] 24 (0, 0))) ∧ Aside0 (Below w.heap.size w wr)) (fun _ v39 _ => (8 - (intOf v39)).toNat)
  case atStart => exact ⟨0, [], rfl, ⟨by decide⟩, ⟨rfl⟩, HNEW, HBK, HBA⟩
  case round =>
    obtain ⟨i, gs, rfl, HI, HGS, HN, HX, HB⟩ := hrel
    have hc0 : wr.cell? ⟨w.heap.size, 0, none⟩ = some (.int .u64 a) := by rw [blk_cell HX.out]; rfl
    have hc1 : wr.cell? ⟨w.heap.size, 1, none⟩ = some (.int .u64 b) := by rw [blk_cell HX.out]; rfl
    rcases Nat.lt_or_ge i 8 with hlt | hge
    · obtain ⟨g2, hg2⟩ := gsF_le a b HG.out (i + 1) hlt
      have h2 := hg2
      rw [gsF, HGS.out, Option.bind_some] at h2
      obtain ⟨⟨s1, s2⟩, hsh, h2⟩ := Option.bind_eq_some_iff.1 h2
      have e2 : gs ++ [Go.bits .and .u64 s2 65535] = g2 := Option.some.inj h2
      have hlen := gsF_len a b i gs HGS.out
      have HSH := Aside0.mk hsh
      have HE := Aside0.mk e2
      have HLN := Aside0.mk hlen
      have HG2 := Aside0.mk hg2
      have hfld : ∀ W, (Instr.field 24 (.agg #[.int .u64 s1, .int .u64 s2]) 1).run Tryd.prog W = .ok (.int .u64 s2) W := fun W => by kernel_rfl
      clear hsh e2 hlen hg2 h2
      go_wp2_with (go_at_call 15; (with_reducible refine (word_Shr.calls a b (112 - 16 * (i : Int)) s1 s2 _ HSH.out).mono ?_); rintro e w3 ⟨rfl, hb3⟩; have hn3 := blk_below HN.out hb3; have hx3 := blk_below HX.out hb3; have HB3 := Aside0.mk (below_step HB.out hb3); have hcn : w3.cell? ⟨w1.heap.size, i, none⟩ = some (.int .u64 0) := (by rw [blk_cell hn3, ← HLN.out]; exact arr8_at gs (by have := HLN.out; omega)); have hfn : w3.frozen? ⟨w1.heap.size, i, none⟩ = false := blk_frozen hn3 i; have HN3 := Aside0.mk hn3; have HX3 := Aside0.mk hx3; clear hn3 hx3 hb3)
      go_roundw
      case rel =>
        refine ⟨i + 1, g2, by go_num, ⟨hlt⟩, HG2, ⟨?_⟩, ⟨?_⟩, ⟨below_set HB3.out (below_size HBW.out)⟩⟩
        · have := blk_set HN3.out i (.int .u64 (Go.bits .and .u64 s2 65535))
          rw [← HE.out]
          have e := arr8_snoc gs (Go.bits .and .u64 s2 65535) (by have := HLN.out; omega)
          rw [HLN.out] at e
          rw [e] at this
          exact this
        · exact blk_far HX3.out (p := ⟨w1.heap.size, i, none⟩) (Nat.ne_of_lt HLT.out) _
      case measure => simp [intOf]; omega
    · obtain rfl : i = 8 := by have := HI.out; omega
      obtain rfl : gs = g := Option.some.inj (HGS.out.symm.trans HG.out)
      have hlen := gsF_len a b 8 gs HG.out
      have hnn := HN.out
      rw [arr8_full gs hlen] at hnn
      have hss := HS.out
      clear HN HS HGS HG hge
      match gs, hlen, hnn, hss with
      | [g0, g1, g2, g3, g4, g5, g6, g7], _, hnn, hss =>
        have HN := Aside0.mk hnn
        have c : ∀ W', MLOk W' → Calls Tryd.prog 16 #[.agg #[.int .u64 g0, .int .u64 g1, .int .u64 g2, .int .u64 g3, .int .u64 g4, .int .u64 g5, .int .u64 g6, .int .u64 g7]] W' fun e w' => e = .returned (.string s) ∧ Below W'.heap.size W' w' := fun W' hM => grps_calls k [g0, g1, g2, g3, g4, g5, g6, g7] rfl s W' hM hss
        have C := Aside0.mk c
        have hq0 : wr.cell? ⟨w1.heap.size, 0, none⟩ = some (.int .u64 g0) := by rw [blk_cell HN.out]; rfl
        have hq1 : wr.cell? ⟨w1.heap.size, 1, none⟩ = some (.int .u64 g1) := by rw [blk_cell HN.out]; rfl
        have hq2 : wr.cell? ⟨w1.heap.size, 2, none⟩ = some (.int .u64 g2) := by rw [blk_cell HN.out]; rfl
        have hq3 : wr.cell? ⟨w1.heap.size, 3, none⟩ = some (.int .u64 g3) := by rw [blk_cell HN.out]; rfl
        have hq4 : wr.cell? ⟨w1.heap.size, 4, none⟩ = some (.int .u64 g4) := by rw [blk_cell HN.out]; rfl
        have hq5 : wr.cell? ⟨w1.heap.size, 5, none⟩ = some (.int .u64 g5) := by rw [blk_cell HN.out]; rfl
        have hq6 : wr.cell? ⟨w1.heap.size, 6, none⟩ = some (.int .u64 g6) := by rw [blk_cell HN.out]; rfl
        have hq7 : wr.cell? ⟨w1.heap.size, 7, none⟩ = some (.int .u64 g7) := by rw [blk_cell HN.out]; rfl
        clear c hnn hss hc0 hc1
        go_wp2_with (go_at_call 16; (with_reducible refine (C.out _ (HM.out.below HB.out)).mono ?_); rintro e w4 ⟨rfl, hb4⟩)
        go_ret2
        exact ⟨rfl, below_step HB.out hb4⟩
def addr_Text.f (k : Nat) (a0 a1_0 a1_1 : Int) : Option (ByteArray × Int) :=
  (addr_Right.f k a0 a1_0 a1_1).bind fun e =>
    if e = 0 then (if a0 = 32 then (if 0 ≤ a1_0 ∧ a1_0 < 18446744073709551616 then some ((⟨(qT a1_0.toNat 4).toArray⟩ : ByteArray), 0) else none) else (gsF a1_0 a1_1 8).bind fun g => (grpsF k g).bind fun s => some (s, 0))
    else some ((⟨#[]⟩ : ByteArray), e)
theorem addr_Text.calls (k : Nat) (a0 : Int) (a1_0 : Int) (a1_1 : Int) (r1 : ByteArray) (r2 : Int) (w : World) (hML : MLOk w) (h : addr_Text.f k a0 a1_0 a1_1 = some (r1, r2)) :
    Calls Tryd.prog 5 #[.int .i64 a0, .agg #[.int .u64 a1_0, .int .u64 a1_1]] w fun e w' => e = .returned (.tuple #[.string r1, .int .i64 r2]) ∧ Below w.heap.size w w' := by
  unfold addr_Text.f at h
  obtain ⟨e, he, h⟩ := Option.bind_eq_some_iff.1 h
  by_cases h0 : e = 0
  · subst h0
    rw [if_pos rfl] at h
    by_cases hf : a0 = 32
    · subst hf
      rw [if_pos rfl] at h
      split at h
      case isTrue hs =>
        cases h
        obtain ⟨n, rfl⟩ := Int.eq_ofNat_of_zero_le hs.1
        rw [Int.toNat_natCast]
        exact Text.four k n (by omega) a1_1 w hML he
      case isFalse => cases h
    · rw [if_neg hf] at h
      obtain ⟨g, hg, h⟩ := Option.bind_eq_some_iff.1 h
      obtain ⟨s, hs, h⟩ := Option.bind_eq_some_iff.1 h
      cases h
      exact Text.six k a0 a1_0 a1_1 hf g _ w hML he hg hs
  · rw [if_neg h0] at h
    cases h
    exact Text.bad k a0 a1_0 a1_1 _ h0 w he
theorem grpsF.mono (g : List Int) (k : Nat) : LeO (grpsF k g) (grpsF (k + 1) g) := by
  unfold grpsF
  refine LeO.ite (addr_joined.mono _ _) (LeO.bind (addr_joined.mono _ _) (fun _ => LeO.bind (addr_joined.mono _ _) (fun _ => LeO.refl _)))
theorem addr_Text.mono : ∀ a0 a1 a2 k, LeO (addr_Text.f k a0 a1 a2) (addr_Text.f (k + 1) a0 a1 a2) := by
  intro a0 a1 a2 k
  unfold addr_Text.f
  refine LeO.bind (addr_Right.mono _ _ _ _) (fun _ => LeO.ite (LeO.ite (LeO.refl _) (LeO.bind (LeO.refl _) (fun _ => LeO.bind (grpsF.mono _ _) (fun _ => LeO.refl _)))) (LeO.refl _))
end Go.Proofs.YtamiaaeaehdahaaDoor.X
