-- Printed by a program of this session (xprint.py, over the kit's printer)
import Derived.Test.YtdjhmapmhajkcaaDoorX0
import Derived.Test.YtdjhmapmhajkcaaDoorZAX1
import Derived.Test.YtdjhmapmhajkcaaDoorSh
namespace Go.Proofs.YtdjhmapmhajkcaaDoor.X
open Go.RowKit Go.Proofs.YtdjhmapmhajkcaaDoorW.PrintWords Go.Proofs.YtdjhmapmhajkcaaDoorW.PrintLast Go.Proofs.YtdjhmapmhajkcaaDoor.Sm Go.Proofs.YtdjhmapmhajkcaaDoor.Sh
set_option linter.unusedVariables false
set_option linter.unusedSimpArgs false
attribute [local go_sem high] eqA24
def turnpikeref1_Cmp.j0 : Nat → Bool → Int → Int → Int → Int → Option (Int)
  | 0, _, _, _, _, _ => none
  | k + 1, x5, x277000, x277001, x278000, x278001 => if x5 = true then (some (-1)) else (if (x277000 == x278000 && (x277001 == x278001)) = true then (some 0) else (some 1))
def turnpikeref1_Cmp.f (k : Nat) (a0_0 : Int) (a0_1 : Int) (a1_0 : Int) (a1_1 : Int) : Option (Int) := if a0_0 < a1_0 then (turnpikeref1_Cmp.j0 k true a0_0 a0_1 a1_0 a1_1) else (if a0_0 = a1_0 then (turnpikeref1_Cmp.j0 k (decide (a0_1 < a1_1)) a0_0 a0_1 a1_0 a1_1) else (turnpikeref1_Cmp.j0 k false a0_0 a0_1 a1_0 a1_1))
theorem turnpikeref1_Cmp.mono_l : ∀ k, (∀ y0 y1 y2 y3 y4, LeO (turnpikeref1_Cmp.j0 k y0 y1 y2 y3 y4) (turnpikeref1_Cmp.j0 (k + 1) y0 y1 y2 y3 y4))
  | 0 => fun _ _ _ _ _ r h => by simp [turnpikeref1_Cmp.j0] at h
  | k + 1 => by
    have ih0 := turnpikeref1_Cmp.mono_l k
    · intro y0 y1 y2 y3 y4
      unfold turnpikeref1_Cmp.j0
      exact xO
theorem turnpikeref1_Cmp.mono : ∀ a0 a1 a2 a3 k, LeO (turnpikeref1_Cmp.f k a0 a1 a2 a3) (turnpikeref1_Cmp.f (k + 1) a0 a1 a2 a3) := by
  intro a0 a1 a2 a3 k
  have ih0 := turnpikeref1_Cmp.mono_l k
  unfold turnpikeref1_Cmp.f
  exact xO
set_option maxHeartbeats 8000000 in
set_option maxRecDepth 100000 in
theorem turnpikeref1_Cmp.calls (k : Nat) (a0_0 : Int) (a0_1 : Int) (a1_0 : Int) (a1_1 : Int) (r : Int) (w : World) (h : turnpikeref1_Cmp.f k a0_0 a0_1 a1_0 a1_1 = some r) :
    Calls Tryd.prog 19 #[.agg #[.int .u64 a0_0, .int .u64 a0_1], .agg #[.int .u64 a1_0, .int .u64 a1_1]] w fun e w' => e = .returned (.int .i64 r) ∧ Below w.heap.size w w' := by
  have hu24 := Tryd.underlying24
  have HB := Aside0.mk (Below.refl w.heap.size w)
  have H : (if a0_0 < a1_0 then (turnpikeref1_Cmp.j0 k true a0_0 a0_1 a1_0 a1_1) else (if a0_0 = a1_0 then (turnpikeref1_Cmp.j0 k (decide (a0_1 < a1_1)) a0_0 a0_1 a1_0 a1_1) else (turnpikeref1_Cmp.j0 k false a0_0 a0_1 a1_0 a1_1))) = some r := h
  clear h
  have HC3 := Aside0.mk H
  clear H
  go_enter Tryd.func19, Tryd.ntmps19
  go_upto_region 1 with (first | ((with_reducible refine gate_dst (N := 2) rfl ?_); refine box_event ?hg (N := 2) ?hd (cs := #[.int .u64 a0_0, .int .u64 a0_1]) (t := 24) ?hr ?_; (case hd => rfl); (case hg => rfl); (case hr => first | (go_simp; done) | (go_simp; rfl)); intro gb276 hg w4 hbox hb; have n0_ := Aside0.mk (below_step xB hb); have n1_ := Aside0.mk (hbox); have n2_ := Aside0.mk ((by rw [hg]; exact (below_size xB) : w.heap.size ≤ gb276)); have n3_ := Aside0.mk ((by rw [hg]; exact (below_size xB) : w.heap.size ≤ gb276)); clear HB; have HB := n0_; have BK276 := n1_; have GW276 := n2_; have GE276 := n3_; clear n0_ n1_ n2_ n3_; clear hb hbox hg) | ((with_reducible refine gate_dst (N := 3) rfl ?_); refine box_event ?hg (N := 3) ?hd (cs := #[.int .u64 a1_0, .int .u64 a1_1]) (t := 24) ?hr ?_; (case hd => rfl); (case hg => rfl); (case hr => first | (go_simp; done) | (go_simp; rfl)); intro gb277 hg w5 hbox hb; have n0_ := Aside0.mk (blk_below (g := gb276) (o := .cells #[.int .u64 a0_0, .int .u64 a0_1] 24 (0, 0)) (xK BK276.out) hb); have n1_ := Aside0.mk (below_step xG hb); have n2_ := Aside0.mk (hbox); have n3_ := Aside0.mk ((by rw [hg]; exact (below_size xG) : w.heap.size ≤ gb277)); have n4_ := Aside0.mk ((by rw [hg]; exact (below_size xG) : w.heap.size ≤ gb277)); have n5_ := Aside0.mk ((by rw [hg]; exact Nat.ne_of_lt (blk_lt (g := gb276) (o := .cells #[.int .u64 a0_0, .int .u64 a0_1] 24 (0, 0)) (xK BK276.out)) : gb276 ≠ gb277)); have n6_ := Aside0.mk ((by rw [hg]; exact Nat.ne_of_gt (blk_lt (g := gb276) (o := .cells #[.int .u64 a0_0, .int .u64 a0_1] 24 (0, 0)) (xK BK276.out)) : gb277 ≠ gb276)); clear BK276; clear HB; have BK276 := n0_; have HB := n1_; have BK277 := n2_; have GW277 := n3_; have GE277 := n4_; have NB276_277 := n5_; have NB277_276 := n6_; clear n0_ n1_ n2_ n3_ n4_ n5_ n6_; clear hb hbox hg))
  (try simp only [Act.put, List.setIfInBounds_toArray, List.set_cons_zero, List.set_cons_succ])
  go_cut [5] (fun v5 wc => ∃ (kq : Nat) (x5_2 : Bool), v5 = .bool x5_2 ∧ Aside0 (turnpikeref1_Cmp.j0 kq x5_2 a0_0 a0_1 a1_0 a1_1 = some r) ∧ Aside0 (kq ≤ k) ∧ Aside0 (wc.heap[gb276]? = some (.cells #[.int .u64 a0_0, .int .u64 a0_1] 24 (0, 0))) ∧ Aside0 (wc.heap[gb277]? = some (.cells #[.int .u64 a1_0, .int .u64 a1_1] 24 (0, 0))) ∧ Aside0 (Below w.heap.size w wc))
  case first =>
    have H := HC3.out
    clear HC3
    by_cases c6 : a0_0 < a1_0
    · rw [if_pos c6] at H
      have c6b0 : decide (a0_0 < a1_0) = true := decide_eq_true c6
      clear c6
      (first | rw [c6b0] | (simp only [i64_w, i32_w]; rw [c6b0]) | skip)
      have H' := Aside0.mk H
      clear H
      have hnb7 := NB276_277.out
      have hnc7 := NB277_276.out
      have hcz8_0 : w5.cell? ⟨gb276, 0, none⟩ = some (.int .u64 a0_0) := (blk_cell BK276.out 0).trans rfl
      have hcz8_1 : w5.cell? ⟨gb276, 1, none⟩ = some (.int .u64 a0_1) := (blk_cell BK276.out 1).trans rfl
      have hfz8_0 := blk_frozen BK276.out 0
      have hfz8_1 := blk_frozen BK276.out 1
      have hcz9_0 : w5.cell? ⟨gb277, 0, none⟩ = some (.int .u64 a1_0) := (blk_cell BK277.out 0).trans rfl
      have hcz9_1 : w5.cell? ⟨gb277, 1, none⟩ = some (.int .u64 a1_1) := (blk_cell BK277.out 1).trans rfl
      have hfz9_0 := blk_frozen BK277.out 0
      have hfz9_1 := blk_frozen BK277.out 1
      go_wp2
      go_meet
      case rel => exact ⟨_, (true), xV, H', ⟨by first | omega | exact Nat.le_refl _⟩, ⟨xK BK276.out⟩, ⟨xK BK277.out⟩, ⟨xG⟩⟩
    · rw [if_neg c6] at H
      have c6b0 : decide (a0_0 < a1_0) = false := decide_eq_false c6
      clear c6
      (first | rw [c6b0] | (simp only [i64_w, i32_w]; rw [c6b0]) | skip)
      by_cases c10 : a0_0 = a1_0
      · rw [if_pos c10] at H
        have c10b0 : (a0_0 == a1_0) = true := beq_iff_eq.mpr c10
        have c10b1 : (a0_0 != a1_0) = false := bne_eq_false_iff_eq.mpr c10
        clear c10
        have H' := Aside0.mk H
        clear H
        have hnb11 := NB276_277.out
        have hnc11 := NB277_276.out
        have hcz12_0 : w5.cell? ⟨gb276, 0, none⟩ = some (.int .u64 a0_0) := (blk_cell BK276.out 0).trans rfl
        have hcz12_1 : w5.cell? ⟨gb276, 1, none⟩ = some (.int .u64 a0_1) := (blk_cell BK276.out 1).trans rfl
        have hfz12_0 := blk_frozen BK276.out 0
        have hfz12_1 := blk_frozen BK276.out 1
        have hcz13_0 : w5.cell? ⟨gb277, 0, none⟩ = some (.int .u64 a1_0) := (blk_cell BK277.out 0).trans rfl
        have hcz13_1 : w5.cell? ⟨gb277, 1, none⟩ = some (.int .u64 a1_1) := (blk_cell BK277.out 1).trans rfl
        have hfz13_0 := blk_frozen BK277.out 0
        have hfz13_1 := blk_frozen BK277.out 1
        go_wp2
        go_meet
        case rel => exact ⟨_, (decide (a0_1 < a1_1)), xV, H', ⟨by first | omega | exact Nat.le_refl _⟩, ⟨xK BK276.out⟩, ⟨xK BK277.out⟩, ⟨xG⟩⟩
      · rw [if_neg c10] at H
        have c10b0 : (a0_0 == a1_0) = false := beq_eq_false_iff_ne.mpr c10
        have c10b1 : (a0_0 != a1_0) = true := bne_iff_ne.mpr c10
        have H' := Aside0.mk H
        clear H
        have hnb14 := NB276_277.out
        have hnc14 := NB277_276.out
        have hcz15_0 : w5.cell? ⟨gb276, 0, none⟩ = some (.int .u64 a0_0) := (blk_cell BK276.out 0).trans rfl
        have hcz15_1 : w5.cell? ⟨gb276, 1, none⟩ = some (.int .u64 a0_1) := (blk_cell BK276.out 1).trans rfl
        have hfz15_0 := blk_frozen BK276.out 0
        have hfz15_1 := blk_frozen BK276.out 1
        have hcz16_0 : w5.cell? ⟨gb277, 0, none⟩ = some (.int .u64 a1_0) := (blk_cell BK277.out 0).trans rfl
        have hcz16_1 : w5.cell? ⟨gb277, 1, none⟩ = some (.int .u64 a1_1) := (blk_cell BK277.out 1).trans rfl
        have hfz16_0 := blk_frozen BK277.out 0
        have hfz16_1 := blk_frozen BK277.out 1
        go_wp2
        go_meet
        case rel => exact ⟨_, (false), xV, H', ⟨by first | omega | exact Nat.le_refl _⟩, ⟨xK BK276.out⟩, ⟨xK BK277.out⟩, ⟨xG⟩⟩
  case rest =>
    clear HC3
    try clear c1
    try clear p2
    try clear c6
    try clear c6b0
    try clear c7
    try clear c10
    try clear c10b0
    try clear c10b1
    try clear c11
    try clear c14
    try clear hcz12_0
    try clear hcz12_1
    try clear hcz13_0
    try clear hcz13_1
    try clear hcz15_0
    try clear hcz15_1
    try clear hcz16_0
    try clear hcz16_1
    try clear hcz8_0
    try clear hcz8_1
    try clear hcz9_0
    try clear hcz9_1
    try clear hfz12_0
    try clear hfz12_1
    try clear hfz13_0
    try clear hfz13_1
    try clear hfz15_0
    try clear hfz15_1
    try clear hfz16_0
    try clear hfz16_1
    try clear hfz8_0
    try clear hfz8_1
    try clear hfz9_0
    try clear hfz9_1
    obtain ⟨kq, x5_2, rfl, HA, HJ2, BK276, BK277, HB⟩ := hcut
    cases kq with
    | zero => exact absurd HA.out (by simp [turnpikeref1_Cmp.j0])
    | succ kj2 =>
      have H := HA.out
      clear HA
      simp only [turnpikeref1_Cmp.j0] at H
      by_cases c17 : x5_2 = true
      · subst c17
        have H1 : (some (-1)) = some r := by rw [if_pos rfl] at H; exact H
        clear H
        have H := H1
        clear H1
        obtain rfl := Option.some.inj H
        go_wp2
        go_ret
        exact ⟨xE, xG⟩
      · replace c17 := Bool.eq_false_iff.mpr c17
        subst c17
        have H1 : (if (a0_0 == a1_0 && (a0_1 == a1_1)) = true then (some 0) else (some 1)) = some r := by rw [if_neg (show ¬ (false = true) by decide)] at H; exact H
        clear H
        have H := H1
        clear H1
        by_cases c18 : (a0_0 == a1_0 && (a0_1 == a1_1)) = true
        · rw [if_pos c18] at H
          have c18b0 : (a0_0 == a1_0 && (a0_1 == a1_1)) = true := c18
          (try (have c18b1 : decide (a0_0 = a1_0 && (a0_1 == a1_1)) = true := by simpa using c18))
          (try (have c18b2 : (a0_0 == a1_0 && (a0_1 == a1_1)) = true := by simpa using c18))
          clear c18
          obtain rfl := Option.some.inj H
          have hnb19 := NB276_277.out
          have hnc19 := NB277_276.out
          have hcz20_0 : wc.cell? ⟨gb276, 0, none⟩ = some (.int .u64 a0_0) := (blk_cell BK276.out 0).trans rfl
          have hcz20_1 : wc.cell? ⟨gb276, 1, none⟩ = some (.int .u64 a0_1) := (blk_cell BK276.out 1).trans rfl
          have hfz20_0 := blk_frozen BK276.out 0
          have hfz20_1 := blk_frozen BK276.out 1
          have hcz21_0 : wc.cell? ⟨gb277, 0, none⟩ = some (.int .u64 a1_0) := (blk_cell BK277.out 0).trans rfl
          have hcz21_1 : wc.cell? ⟨gb277, 1, none⟩ = some (.int .u64 a1_1) := (blk_cell BK277.out 1).trans rfl
          have hfz21_0 := blk_frozen BK277.out 0
          have hfz21_1 := blk_frozen BK277.out 1
          go_wp2
          go_ret
          exact ⟨xE, xG⟩
        · rw [if_neg c18] at H
          have c18b0 : (a0_0 == a1_0 && (a0_1 == a1_1)) = false := by simpa using c18
          (try (have c18b1 : decide (a0_0 = a1_0 && (a0_1 == a1_1)) = false := by simpa using c18))
          (try (have c18b2 : (a0_0 == a1_0 && (a0_1 == a1_1)) = false := by simpa using c18))
          (try (have c18b3 : ¬ (a0_0 = a1_0 && (a0_1 == a1_1)) := by simpa using c18))
          clear c18
          obtain rfl := Option.some.inj H
          have hnb22 := NB276_277.out
          have hnc22 := NB277_276.out
          have hcz23_0 : wc.cell? ⟨gb276, 0, none⟩ = some (.int .u64 a0_0) := (blk_cell BK276.out 0).trans rfl
          have hcz23_1 : wc.cell? ⟨gb276, 1, none⟩ = some (.int .u64 a0_1) := (blk_cell BK276.out 1).trans rfl
          have hfz23_0 := blk_frozen BK276.out 0
          have hfz23_1 := blk_frozen BK276.out 1
          have hcz24_0 : wc.cell? ⟨gb277, 0, none⟩ = some (.int .u64 a1_0) := (blk_cell BK277.out 0).trans rfl
          have hcz24_1 : wc.cell? ⟨gb277, 1, none⟩ = some (.int .u64 a1_1) := (blk_cell BK277.out 1).trans rfl
          have hfz24_0 := blk_frozen BK277.out 0
          have hfz24_1 := blk_frozen BK277.out 1
          go_wp2
          go_ret
          exact ⟨xE, xG⟩
end Go.Proofs.YtdjhmapmhajkcaaDoor.X
