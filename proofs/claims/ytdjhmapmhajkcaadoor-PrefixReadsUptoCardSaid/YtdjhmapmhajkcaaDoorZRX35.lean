-- Printed by a program of this session (xprint.py, over the kit's printer)
import Derived.Test.YtdjhmapmhajkcaaDoorZRX0
import Derived.Test.YtdjhmapmhajkcaaDoorZRX6
import Derived.Test.YtdjhmapmhajkcaaDoorZRX19
import Derived.Test.YtdjhmapmhajkcaaDoorZRX34
import Derived.Test.YtdjhmapmhajkcaaDoorZRSh
namespace Go.Proofs.YtdjhmapmhajkcaaDoor.X
open Go.RowKit Go.Proofs.YtdjhmapmhajkcaaDoorW.PrintWords Go.Proofs.YtdjhmapmhajkcaaDoorW.PrintLast Go.Proofs.YtdjhmapmhajkcaaDoor.Sm Go.Proofs.YtdjhmapmhajkcaaDoor.Sh
set_option linter.unusedVariables false
set_option linter.unusedSimpArgs false
mutual
def turnpikeref3_Parse.j1 : Nat → Int → ByteArray → Int → Option (Int × Int × Int × Int)
 | 0, _, _, _ => none
 | k + 1, x0, x1, x6 => if x6 ≥ (x1.size : Int) then (some (0, 0, 0, 12)) else (if 0 ≤ x6 then (if x6 ≤ (x1.size : Int) then ((turnpikeref2_Parse.f k x0 (x1.extract 0 (x6 : Int).toNat)).bind fun bt739 => (if bt739.2.2 = 0 then (if 0 ≤ (wrap64 (x6 + 1)) then (if (wrap64 (x6 + 1)) ≤ (x1.size : Int) then (if ((x1.extract ((wrap64 (x6 + 1)) : Int).toNat x1.size).size : Int) < 1 then (turnpikeref3_Parse.j2 k x0 (x1.extract ((wrap64 (x6 + 1)) : Int).toNat x1.size) true bt739.1 bt739.2.1) else (if ((x1.extract ((wrap64 (x6 + 1)) : Int).toNat x1.size).size : Int) > 3 then (turnpikeref3_Parse.j2 k x0 (x1.extract ((wrap64 (x6 + 1)) : Int).toNat x1.size) true bt739.1 bt739.2.1) else (if ((x1.extract ((wrap64 (x6 + 1)) : Int).toNat x1.size).size : Int) > 1 then (if 0 < ((x1.extract ((wrap64 (x6 + 1)) : Int).toNat x1.size).size : Int) then (turnpikeref3_Parse.j2 k x0 (x1.extract ((wrap64 (x6 + 1)) : Int).toNat x1.size) ((bt (x1.extract ((wrap64 (x6 + 1)) : Int).toNat x1.size) 0) == 48) bt739.1 bt739.2.1) else (none)) else (turnpikeref3_Parse.j2 k x0 (x1.extract ((wrap64 (x6 + 1)) : Int).toNat x1.size) false bt739.1 bt739.2.1)))) else (none)) else (none)) else (some (0, 0, 0, bt739.2.2)))) else (none)) else (none))
def turnpikeref3_Parse.j2 : Nat → Int → ByteArray → Bool → Int → Int → Option (Int × Int × Int × Int)
 | 0, _, _, _, _, _ => none
 | k + 1, x0, x9, x67, x743000, x743001 => if x67 = true then (some (0, 0, 0, 12)) else (turnpikeref3_Parse.l1 k x0 x9 0 0 x743000 x743001)
def turnpikeref3_Parse.l1 : Nat → Int → ByteArray → Int → Int → Int → Int → Option (Int × Int × Int × Int)
 | 0, _, _, _, _, _, _ => none
 | k + 1, x0, x9, x10, x11, x743000, x743001 => if x11 < (x9.size : Int) then (if 0 ≤ x11 then (if (bt x9 x11) < 48 then (some (0, 0, 0, 12)) else (if (bt x9 x11) > 57 then (some (0, 0, 0, 12)) else (turnpikeref3_Parse.l1 k x0 x9 (wrap64 ((wrap64 (10 * x10)) + (((bt x9 x11) - 48) % 256))) (wrap64 (x11 + 1)) x743000 x743001))) else (none)) else ((turnpikeref3_Check.f k x0 x743000 x743001 x10).bind fun t744 => (if t744 = 0 then (some (x743000, x743001, x10, 0)) else (some (0, 0, 0, t744))))
def turnpikeref3_Parse.l0 : Nat → Int → ByteArray → Int → Option (Int × Int × Int × Int)
 | 0, _, _, _ => none
 | k + 1, x0, x1, x6 => if x6 < (x1.size : Int) then (if 0 ≤ x6 then (if (bt x1 x6) = 47 then (turnpikeref3_Parse.j1 k x0 x1 x6) else (turnpikeref3_Parse.l0 k x0 x1 (wrap64 (x6 + 1)))) else (none)) else (turnpikeref3_Parse.j1 k x0 x1 x6)
end
def turnpikeref3_Parse.f (k : Nat) (a0 : Int) (a1 : ByteArray) : Option (Int × Int × Int × Int) := (turnpikeref2_IsFamily.f a0).bind fun t738 => (if t738 = true then (turnpikeref3_Parse.l0 k a0 a1 0) else (some (0, 0, 0, 11)))
theorem turnpikeref3_Parse.mono_l : ∀ k, (∀ y0 y1 y2, LeO (turnpikeref3_Parse.j1 k y0 y1 y2) (turnpikeref3_Parse.j1 (k + 1) y0 y1 y2)) ∧ (∀ y0 y1 y2 y3 y4, LeO (turnpikeref3_Parse.j2 k y0 y1 y2 y3 y4) (turnpikeref3_Parse.j2 (k + 1) y0 y1 y2 y3 y4)) ∧ (∀ y0 y1 y2 y3 y4 y5, LeO (turnpikeref3_Parse.l1 k y0 y1 y2 y3 y4 y5) (turnpikeref3_Parse.l1 (k + 1) y0 y1 y2 y3 y4 y5)) ∧ (∀ y0 y1 y2, LeO (turnpikeref3_Parse.l0 k y0 y1 y2) (turnpikeref3_Parse.l0 (k + 1) y0 y1 y2))
 | 0 => ⟨fun _ _ _ r h => by simp [turnpikeref3_Parse.j1] at h, fun _ _ _ _ _ r h => by simp [turnpikeref3_Parse.j2] at h, fun _ _ _ _ _ _ r h => by simp [turnpikeref3_Parse.l1] at h, fun _ _ _ r h => by simp [turnpikeref3_Parse.l0] at h⟩
 | k + 1 => by
  obtain ⟨ih0, ih1, ih2, ih3⟩ := turnpikeref3_Parse.mono_l k
  refine ⟨?_, ?_, ?_, ?_⟩
  ·intro y0 y1 y2
   unfold turnpikeref3_Parse.j1
   have m0 := @turnpikeref2_Parse.mono
   have m1 := @turnpikeref3_Check.mono
   exact xO
  ·intro y0 y1 y2 y3 y4
   unfold turnpikeref3_Parse.j2
   have m0 := @turnpikeref2_Parse.mono
   have m1 := @turnpikeref3_Check.mono
   exact xO
  ·intro y0 y1 y2 y3 y4 y5
   unfold turnpikeref3_Parse.l1
   have m0 := @turnpikeref2_Parse.mono
   have m1 := @turnpikeref3_Check.mono
   exact xO
  ·intro y0 y1 y2
   unfold turnpikeref3_Parse.l0
   have m0 := @turnpikeref2_Parse.mono
   have m1 := @turnpikeref3_Check.mono
   exact xO
theorem turnpikeref3_Parse.mono : ∀ a0 a1 k, LeO (turnpikeref3_Parse.f k a0 a1) (turnpikeref3_Parse.f (k + 1) a0 a1) := by
 intro a0 a1 k
 obtain ⟨ih0, ih1, ih2, ih3⟩ := turnpikeref3_Parse.mono_l k
 unfold turnpikeref3_Parse.f
 have m0 := @turnpikeref2_Parse.mono
 have m1 := @turnpikeref3_Check.mono
 exact xO
set_option maxHeartbeats 8000000 in
set_option maxRecDepth 100000 in
theorem turnpikeref3_Parse.calls (k : Nat) (a0 : Int) (a1 : ByteArray) (r1 : Int) (r2 : Int) (r3 : Int) (r4 : Int) (w : World) (h : turnpikeref3_Parse.f k a0 a1 = some (r1, r2, r3, r4)) :
  Calls Tryd.prog 46 #[.int .i64 a0, .string a1] w fun e w' => e = .returned (.tuple #[.agg #[.int .u64 r1, .int .u64 r2, .int .i64 r3], .int .i64 r4]) ∧ Below w.heap.size w w' := by
 have hu28 := Tryd.underlying28
 have hu24 := Tryd.underlying24
 have HB := Aside0.mk (Below.refl w.heap.size w)
 have H : ((turnpikeref2_IsFamily.f a0).bind fun t738 => (if t738 = true then (turnpikeref3_Parse.l0 k a0 a1 0) else (some (0, 0, 0, 11)))) = some (r1, r2, r3, r4) := h
 clear h
 replace H := Option.bind_eq_some_iff.mp H
 obtain ⟨t738, A30, H⟩ := H
 replace H : (if t738 = true then (turnpikeref3_Parse.l0 k a0 a1 0) else (some (0, 0, 0, 11))) = some (r1, r2, r3, r4) := H
 have A3 := Aside0.mk A30
 clear A30
 by_cases c4 : t738 = true
 ·subst c4
  have H1 : (turnpikeref3_Parse.l0 k a0 a1 0) = some (r1, r2, r3, r4) := by rw [if_pos rfl] at H; exact H
  clear H
  have H := H1
  clear H1
  have HC5 := Aside0.mk H
  clear H
  go_enter Tryd.func46, Tryd.ntmps46
  go_upto_block 0 with (first | ((with_reducible refine gate_dst (N := 4) rfl ?_); (try (refine gate_guard (by rfl) ?_; dsimp only)); refine box_event ?hg (N := 4) ?hd (cs := #[.int .u64 0, .int .u64 0, .int .i64 0]) (t := 28) ?hr ?_; (case hd => rfl); (case hg => rfl); (case hr => first | (go_simp; done) | (go_simp; rfl)); intro gb737 hg w6 hbox hb; have n0_ := Aside0.mk (below_step xB hb); have n1_ := Aside0.mk (hbox); have n2_ := xS w hg; have n3_ := xS w hg; clear HB; have HB := n0_; have BK737 := n1_; have GW737 := n2_; have GE737 := n3_; clear n0_ n1_ n2_ n3_; clear hb hbox hg) | ((with_reducible refine gate_callee (f := 63) rfl ?_); refine goesL_ (some 14) rfl rfl Tryd.func63 (by kernel_rfl) rfl #[.int .i64 a0] rfl xM ?_; (with_reducible refine (turnpikeref2_IsFamily.calls a0 true _ A3.out).mono ?_); rintro e w' ⟨rfl, ⟨nd, rfl⟩⟩; refine ⟨_, rfl, ?_⟩))
  (try simp only [Act.put, List.setIfInBounds_toArray, List.set_cons_zero, List.set_cons_succ])
  go_cut [6] (fun v6 wc => ∃ (kq : Nat) (x6_4 : Int), v6 = .int .i64 x6_4 ∧ Aside0 (turnpikeref3_Parse.j1 kq a0 a1 x6_4 = some (r1, r2, r3, r4)) ∧ Aside0 (kq ≤ k) ∧ Aside0 (wc.heap[gb737]? = some (.cells #[.int .u64 0, .int .u64 0, .int .i64 0] 28 (0, 0))) ∧ Aside0 (Below w.heap.size w wc))
  case first =>
   have H := HC5.out
   clear HC5
   have H' := Aside0.mk H
   clear H
   go_wp2
   go_loopg [6] k (fun kq v6 w' => ∃ (x6_1 : Int), v6 = .int .i64 x6_1 ∧ Aside0 (turnpikeref3_Parse.l0 kq a0 a1 x6_1 = some (r1, r2, r3, r4)) ∧ Aside0 (kq ≤ k) ∧ Aside0 (w'.heap[gb737]? = some (.cells #[.int .u64 0, .int .u64 0, .int .i64 0] 28 (0, 0))) ∧ Aside0 (Below w.heap.size w w'))
   case atStart => exact ⟨(0), xV, H', ⟨Nat.le_refl _⟩, ⟨xK BK737.out⟩, ⟨xG⟩⟩
   case round =>
    clear H'
    try clear p2
    try clear c4
    try clear c6
    obtain ⟨x6_1, rfl, HA, HK1, BK737, HB⟩ := hrel
    cases gk with
    | zero => exact absurd HA.out (by simp [turnpikeref3_Parse.l0])
    | succ k1 =>
     have H := HA.out
     clear HA
     simp only [turnpikeref3_Parse.l0] at H
     by_cases c7 : x6_1 < (a1.size : Int)
     ·rw [if_pos c7] at H
      have c7b0 : decide (x6_1 < (a1.size : Int)) = true := decide_eq_true c7
      clear c7
      (first | rw [c7b0] | (simp only [i64_w, i32_w]; rw [c7b0]) | skip)
      by_cases c8 : 0 ≤ x6_1
      ·rw [if_pos c8] at H
       have c8b0 : decide (0 ≤ x6_1) = true := decide_eq_true c8
       clear c8
       by_cases c10 : (bt a1 x6_1) = 47
       ·rw [if_pos c10] at H
        have c10b0 : ((bt a1 x6_1) == 47) = true := beq_iff_eq.mpr c10
        have c10b1 : ((bt a1 x6_1) != 47) = false := bne_eq_false_iff_eq.mpr c10
        clear c10
        have H' := Aside0.mk H
        clear H
        have p9 : 0 ≤ (x6_1 : Int) := of_decide_eq_true xA
        have q9 : x6_1 < (a1.size : Int) := of_decide_eq_true xA
        have hx9 := bt_at a1 x6_1
        replace p9 := eq_true p9
        replace q9 := eq_true q9
        go_wp2
        go_meet
        case rel => exact ⟨_, (x6_1), xV, H', ⟨by have := HK1.out; first | omega | exact Nat.le_refl _⟩, ⟨xK BK737.out⟩, ⟨xG⟩⟩
       ·rw [if_neg c10] at H
        have c10b0 : ((bt a1 x6_1) == 47) = false := beq_eq_false_iff_ne.mpr c10
        have c10b1 : ((bt a1 x6_1) != 47) = true := bne_iff_ne.mpr c10
        have H' := Aside0.mk H
        clear H
        have p9 : 0 ≤ (x6_1 : Int) := of_decide_eq_true xA
        have q9 : x6_1 < (a1.size : Int) := of_decide_eq_true xA
        have hx9 := bt_at a1 x6_1
        replace p9 := eq_true p9
        replace q9 := eq_true q9
        go_wp2
        go_roundg k1
        case measure => have := HK1.out; omega
        case rel => exact ⟨(wrap64 (x6_1 + 1)), xV, H', ⟨by have := HK1.out; omega⟩, ⟨xK BK737.out⟩, ⟨xG⟩⟩
      ·rw [if_neg c8] at H
       exact absurd H (by simp)
     ·rw [if_neg c7] at H
      have c7b0 : decide (x6_1 < (a1.size : Int)) = false := decide_eq_false c7
      clear c7
      (first | rw [c7b0] | (simp only [i64_w, i32_w]; rw [c7b0]) | skip)
      have H' := Aside0.mk H
      clear H
      go_wp2
      go_meet
      case rel => exact ⟨_, (x6_1), xV, H', ⟨by have := HK1.out; first | omega | exact Nat.le_refl _⟩, ⟨xK BK737.out⟩, ⟨xG⟩⟩
  case rest =>
   clear HC5
   try clear c1
   try clear p2
   try clear c4
   try clear c6
   try clear p6
   try clear c7
   try clear c7b0
   try clear c8
   try clear c8b0
   try clear p9
   try clear q9
   try clear hx9
   try clear c10
   try clear c10b0
   try clear c10b1
   try clear p2
   try clear p9
   try clear q9
   obtain ⟨kq, x6_4, rfl, HA, HJ4, BK737, HB⟩ := hcut
   cases kq with
   | zero => exact absurd HA.out (by simp [turnpikeref3_Parse.j1])
   | succ kj4 =>
    have H := HA.out
    clear HA
    simp only [turnpikeref3_Parse.j1] at H
    by_cases c11 : x6_4 ≥ (a1.size : Int)
    ·rw [if_pos c11] at H
     have c11b0 : decide ((a1.size : Int) ≤ x6_4) = true := decide_eq_true c11
     clear c11
     simp only [Option.some.injEq, Prod.mk.injEq] at H
     obtain ⟨rfl, rfl, rfl, rfl⟩ := H
     have hcz12_0 : wc.cell? ⟨gb737, 0, none⟩ = some (.int .u64 0) := (blk_cell BK737.out 0).trans rfl
     have hcz12_1 : wc.cell? ⟨gb737, 1, none⟩ = some (.int .u64 0) := (blk_cell BK737.out 1).trans rfl
     have hcz12_2 : wc.cell? ⟨gb737, 2, none⟩ = some (.int .i64 0) := (blk_cell BK737.out 2).trans rfl
     have hfz12_0 := blk_frozen BK737.out 0
     have hfz12_1 := blk_frozen BK737.out 1
     have hfz12_2 := blk_frozen BK737.out 2
     go_wp2
     refine bodyPost_ret (results_ct rfl _ _ gb737 28 #[.int .u64 0, .int .u64 0, .int .i64 0] (0, 0) _ rfl (by (with_reducible repeat (first | refine blk_drewN ?_ _ | refine blk_drew ?_ | refine blk_alloc ?_ _)); refine blk_put (cs := #[.int .u64 0, .int .u64 0, .int .i64 0]) ?_ 2 _ rfl; (with_reducible repeat (first | refine blk_drewN ?_ _ | refine blk_drew ?_ | refine blk_alloc ?_ _)); refine blk_put (cs := #[.int .u64 0, .int .u64 0, .int .i64 0]) ?_ 1 _ rfl; (with_reducible repeat (first | refine blk_drewN ?_ _ | refine blk_drew ?_ | refine blk_alloc ?_ _)); refine blk_put (cs := #[.int .u64 0, .int .u64 0, .int .i64 0]) ?_ 0 _ rfl; (with_reducible repeat (first | refine blk_drewN ?_ _ | refine blk_drew ?_ | refine blk_alloc ?_ _)); exact BK737.out) Tryd.underlying28 rfl (by kernel_rfl)) rfl ?_
     exact ⟨xE, xG⟩
    ·rw [if_neg c11] at H
     have c11b0 : decide ((a1.size : Int) ≤ x6_4) = false := decide_eq_false c11
     clear c11
     by_cases c13 : 0 ≤ x6_4
     ·rw [if_pos c13] at H
      have c13b0 := eq_true c13
      have c13b1 : decide (0 ≤ x6_4) = true := decide_eq_true c13
      clear c13
      by_cases c14 : x6_4 ≤ (a1.size : Int)
      ·rw [if_pos c14] at H
       have c14b0 := eq_true c14
       have c14b1 : decide (x6_4 ≤ (a1.size : Int)) = true := decide_eq_true c14
       clear c14
       replace H := Option.bind_eq_some_iff.mp H
       obtain ⟨⟨t739, t740, t741⟩, A150, H⟩ := H
       replace H : (if t741 = 0 then (if 0 ≤ (wrap64 (x6_4 + 1)) then (if (wrap64 (x6_4 + 1)) ≤ (a1.size : Int) then (if ((a1.extract ((wrap64 (x6_4 + 1)) : Int).toNat a1.size).size : Int) < 1 then (turnpikeref3_Parse.j2 kj4 a0 (a1.extract ((wrap64 (x6_4 + 1)) : Int).toNat a1.size) true t739 t740) else (if ((a1.extract ((wrap64 (x6_4 + 1)) : Int).toNat a1.size).size : Int) > 3 then (turnpikeref3_Parse.j2 kj4 a0 (a1.extract ((wrap64 (x6_4 + 1)) : Int).toNat a1.size) true t739 t740) else (if ((a1.extract ((wrap64 (x6_4 + 1)) : Int).toNat a1.size).size : Int) > 1 then (if 0 < ((a1.extract ((wrap64 (x6_4 + 1)) : Int).toNat a1.size).size : Int) then (turnpikeref3_Parse.j2 kj4 a0 (a1.extract ((wrap64 (x6_4 + 1)) : Int).toNat a1.size) ((bt (a1.extract ((wrap64 (x6_4 + 1)) : Int).toNat a1.size) 0) == 48) t739 t740) else (none)) else (turnpikeref3_Parse.j2 kj4 a0 (a1.extract ((wrap64 (x6_4 + 1)) : Int).toNat a1.size) false t739 t740)))) else (none)) else (none)) else (some (0, 0, 0, t741))) = some (r1, r2, r3, r4) := H
       have A15 := Aside0.mk A150
       clear A150
       by_cases c16 : t741 = 0
       ·rw [if_pos c16] at H
        have c16b0 : (t741 == 0) = true := beq_iff_eq.mpr c16
        have c16b1 : (t741 != 0) = false := bne_eq_false_iff_eq.mpr c16
        clear c16
        obtain ⟨ji17, hji17⟩ : ∃ j_ : Int, (wrap64 (x6_4 + 1)) = j_ := ⟨_, rfl⟩
        replace H : (if 0 ≤ (ji17) then (if (ji17) ≤ (a1.size : Int) then (if ((a1.extract ((ji17) : Int).toNat a1.size).size : Int) < 1 then (turnpikeref3_Parse.j2 kj4 a0 (a1.extract ((ji17) : Int).toNat a1.size) true t739 t740) else (if ((a1.extract ((ji17) : Int).toNat a1.size).size : Int) > 3 then (turnpikeref3_Parse.j2 kj4 a0 (a1.extract ((ji17) : Int).toNat a1.size) true t739 t740) else (if ((a1.extract ((ji17) : Int).toNat a1.size).size : Int) > 1 then (if 0 < ((a1.extract ((ji17) : Int).toNat a1.size).size : Int) then (turnpikeref3_Parse.j2 kj4 a0 (a1.extract ((ji17) : Int).toNat a1.size) ((bt (a1.extract ((ji17) : Int).toNat a1.size) 0) == 48) t739 t740) else (none)) else (turnpikeref3_Parse.j2 kj4 a0 (a1.extract ((ji17) : Int).toNat a1.size) false t739 t740)))) else (none)) else (none)) = some (r1, r2, r3, r4) := by first | (rw [hji17] at H; exact H) | (simp only [hji17] at H ⊢; exact H)
        (try rw [hji17] at A15)
        have hji17w : (IntKind.i64.wrap (x6_4 + 1)) = ji17 := (i64_w _).trans hji17
        by_cases c18 : 0 ≤ (ji17)
        ·rw [if_pos c18] at H
         have c18b0 := eq_true c18
         have c18b1 : decide (0 ≤ (ji17)) = true := decide_eq_true c18
         clear c18
         by_cases c19 : (ji17) ≤ (a1.size : Int)
         ·rw [if_pos c19] at H
          have c19b0 := eq_true c19
          have c19b1 : decide ((ji17) ≤ (a1.size : Int)) = true := decide_eq_true c19
          clear c19
          have HC20 := Aside0.mk H
          clear H
          go_upto_region 12 with (first | ((with_reducible refine gate_callee (f := 76) rfl ?_); refine goesL_ (some 39) rfl rfl Tryd.func76 (by kernel_rfl) rfl #[.int .i64 a0, .string (a1.extract 0 (x6_4 : Int).toNat)] rfl xM ?_; (with_reducible refine (turnpikeref2_Parse.calls kj4 a0 (a1.extract 0 (x6_4 : Int).toNat) t739 t740 t741 _ A15.out).mono ?_); rintro e w21 ⟨rfl, hb⟩; refine ⟨_, rfl, ?_⟩; have n0_ := xP BK737.out hb; have n1_ := Aside0.mk (below_step xG hb); clear BK737; clear HB; have BK737 := n0_; have HB := n1_; clear n0_ n1_; (try clear hb); (try clear hb2); (try clear hk); (try clear hi)) | ((with_reducible refine gate_dst (N := 7) rfl ?_); (try (refine gate_guard (by rfl) ?_; dsimp only)); refine box_event ?hg (N := 7) ?hd (cs := #[.int .u64 0, .int .u64 0]) (t := 24) ?hr ?_; (case hd => rfl); (case hg => rfl); (case hr => first | (go_simp; done) | (go_simp; rfl)); intro gb742 hg w22 hbox hb; have n0_ := xP BK737.out hb; have n1_ := Aside0.mk (below_step xG hb); have n2_ := Aside0.mk (hbox); have n3_ := xT w hg; have n4_ := xT w hg; have n5_ := Aside0.mk ((xNl BK737.out hg : gb737 ≠ gb742)); have n6_ := Aside0.mk ((xNr BK737.out hg : gb742 ≠ gb737)); clear BK737; clear HB; have BK737 := n0_; have HB := n1_; have BK742 := n2_; have GW742 := n3_; have GE742 := n4_; have NB737_742 := n5_; have NB742_737 := n6_; clear n0_ n1_ n2_ n3_ n4_ n5_ n6_; clear hb hbox hg; have hnb23 := NB742_737.out; have hnc23 := NB737_742.out; have hcz24_0 : w22.cell? ⟨gb742, 0, none⟩ = some (.int .u64 0) := (blk_cell BK742.out 0).trans rfl; have hcz24_1 : w22.cell? ⟨gb742, 1, none⟩ = some (.int .u64 0) := (blk_cell BK742.out 1).trans rfl; have hfz24_0 := blk_frozen BK742.out 0; have hfz24_1 := blk_frozen BK742.out 1))
          (try simp only [Act.put, List.setIfInBounds_toArray, List.set_cons_zero, List.set_cons_succ])
          go_cut [67] (fun v67 wc => ∃ (kq : Nat) (x67_19 : Bool), v67 = .bool x67_19 ∧ Aside0 (turnpikeref3_Parse.j2 kq a0 (a1.extract ((ji17) : Int).toNat a1.size) x67_19 t739 t740 = some (r1, r2, r3, r4)) ∧ Aside0 (kq ≤ kj4) ∧ Aside0 (wc.heap[gb737]? = some (.cells #[.int .u64 0, .int .u64 0, .int .i64 0] 28 (0, 0))) ∧ Aside0 (wc.heap[gb742]? = some (.cells #[.int .u64 t739, .int .u64 t740] 24 (0, 0))) ∧ Aside0 (Below w.heap.size w wc))
          case first =>
           have H := HC20.out
           clear HC20
           by_cases c25 : ((a1.extract ((ji17) : Int).toNat a1.size).size : Int) < 1
           ·rw [if_pos c25] at H
            have c25b0 : decide (((a1.extract ((ji17) : Int).toNat a1.size).size : Int) < 1) = true := decide_eq_true c25
            have c25b1 : decide ((a1.extract ((ji17) : Int).toNat a1.size).size < 1) = true := decide_eq_true (by omega)
            (try (have c25s := c25; simp only [ByteArray.size_extract, Nat.min_self] at c25s))
            clear c25
            (first | rw [c25b0] | (simp only [i64_w, i32_w]; rw [c25b0]) | skip)
            have H' := Aside0.mk H
            clear H
            go_wp2
            go_meet
            case rel => exact ⟨_, (true), xV, H', ⟨by have := HJ4.out; first | omega | exact Nat.le_refl _⟩, ⟨by (with_reducible repeat (first | refine blk_drewN ?_ _ | refine blk_drew ?_ | refine blk_alloc ?_ _)); refine blk_far ?_ NB737_742.out _; (with_reducible repeat (first | refine blk_drewN ?_ _ | refine blk_drew ?_ | refine blk_alloc ?_ _)); refine blk_far ?_ NB737_742.out _; (with_reducible repeat (first | refine blk_drewN ?_ _ | refine blk_drew ?_ | refine blk_alloc ?_ _)); exact BK737.out⟩, ⟨by (with_reducible repeat (first | refine blk_drewN ?_ _ | refine blk_drew ?_ | refine blk_alloc ?_ _)); refine blk_put (cs := #[.int .u64 t739, .int .u64 0]) ?_ 1 _ rfl; (with_reducible repeat (first | refine blk_drewN ?_ _ | refine blk_drew ?_ | refine blk_alloc ?_ _)); refine blk_put (cs := #[.int .u64 0, .int .u64 0]) ?_ 0 _ rfl; (with_reducible repeat (first | refine blk_drewN ?_ _ | refine blk_drew ?_ | refine blk_alloc ?_ _)); exact BK742.out⟩, ⟨xG⟩⟩
           ·rw [if_neg c25] at H
            have c25b0 : decide (((a1.extract ((ji17) : Int).toNat a1.size).size : Int) < 1) = false := decide_eq_false c25
            have c25b1 : decide ((a1.extract ((ji17) : Int).toNat a1.size).size < 1) = false := decide_eq_false (by omega)
            (try (have c25s := c25; simp only [ByteArray.size_extract, Nat.min_self] at c25s))
            clear c25
            (first | rw [c25b0] | (simp only [i64_w, i32_w]; rw [c25b0]) | skip)
            by_cases c26 : ((a1.extract ((ji17) : Int).toNat a1.size).size : Int) > 3
            ·rw [if_pos c26] at H
             have c26b0 : decide (3 < ((a1.extract ((ji17) : Int).toNat a1.size).size : Int)) = true := decide_eq_true c26
             have c26b1 : decide (3 < (a1.extract ((ji17) : Int).toNat a1.size).size) = true := decide_eq_true (by omega)
             (try (have c26s := c26; simp only [ByteArray.size_extract, Nat.min_self] at c26s))
             clear c26
             have H' := Aside0.mk H
             clear H
             go_wp2
             go_meet
             case rel => exact ⟨_, (true), xV, H', ⟨by have := HJ4.out; first | omega | exact Nat.le_refl _⟩, ⟨by (with_reducible repeat (first | refine blk_drewN ?_ _ | refine blk_drew ?_ | refine blk_alloc ?_ _)); refine blk_far ?_ NB737_742.out _; (with_reducible repeat (first | refine blk_drewN ?_ _ | refine blk_drew ?_ | refine blk_alloc ?_ _)); refine blk_far ?_ NB737_742.out _; (with_reducible repeat (first | refine blk_drewN ?_ _ | refine blk_drew ?_ | refine blk_alloc ?_ _)); exact BK737.out⟩, ⟨by (with_reducible repeat (first | refine blk_drewN ?_ _ | refine blk_drew ?_ | refine blk_alloc ?_ _)); refine blk_put (cs := #[.int .u64 t739, .int .u64 0]) ?_ 1 _ rfl; (with_reducible repeat (first | refine blk_drewN ?_ _ | refine blk_drew ?_ | refine blk_alloc ?_ _)); refine blk_put (cs := #[.int .u64 0, .int .u64 0]) ?_ 0 _ rfl; (with_reducible repeat (first | refine blk_drewN ?_ _ | refine blk_drew ?_ | refine blk_alloc ?_ _)); exact BK742.out⟩, ⟨xG⟩⟩
            ·rw [if_neg c26] at H
             have c26b0 : decide (3 < ((a1.extract ((ji17) : Int).toNat a1.size).size : Int)) = false := decide_eq_false c26
             have c26b1 : decide (3 < (a1.extract ((ji17) : Int).toNat a1.size).size) = false := decide_eq_false (by omega)
             (try (have c26s := c26; simp only [ByteArray.size_extract, Nat.min_self] at c26s))
             clear c26
             by_cases c27 : ((a1.extract ((ji17) : Int).toNat a1.size).size : Int) > 1
             ·rw [if_pos c27] at H
              have c27b0 : decide (1 < ((a1.extract ((ji17) : Int).toNat a1.size).size : Int)) = true := decide_eq_true c27
              have c27b1 : decide (1 < (a1.extract ((ji17) : Int).toNat a1.size).size) = true := decide_eq_true (by omega)
              (try (have c27s := c27; simp only [ByteArray.size_extract, Nat.min_self] at c27s))
              clear c27
              by_cases c28 : 0 < ((a1.extract ((ji17) : Int).toNat a1.size).size : Int)
              ·rw [if_pos c28] at H
               have c28b0 : decide (0 < ((a1.extract ((ji17) : Int).toNat a1.size).size : Int)) = true := decide_eq_true c28
               have c28b1 : decide (0 < (a1.extract ((ji17) : Int).toNat a1.size).size) = true := decide_eq_true (by omega)
               (try (have c28s := c28; simp only [ByteArray.size_extract, Nat.min_self] at c28s))
               clear c28
               have H' := Aside0.mk H
               clear H
               have p29 : 0 ≤ (0 : Int) := (by omega)
               have q29 : 0 < (a1.extract ((ji17) : Int).toNat a1.size).size := (by have : (0 : Int) < ((a1.extract ((ji17) : Int).toNat a1.size).size : Int) := of_decide_eq_true xA; omega)
               have hx29 : ∀ h : 0 < (a1.extract ((ji17) : Int).toNat a1.size).size, (((a1.extract ((ji17) : Int).toNat a1.size)[0]'h).toNat : Int) = bt (a1.extract ((ji17) : Int).toNat a1.size) 0 := bt_at (a1.extract ((ji17) : Int).toNat a1.size) 0
               clear p29
               have qi29 : (0 < ((a1.extract ((ji17) : Int).toNat a1.size).size : Int)) = True := eq_true (of_decide_eq_true xA)
               replace q29 := eq_true q29
               go_wp2
               go_meet
               case rel => exact ⟨_, (((bt (a1.extract ((ji17) : Int).toNat a1.size) 0) == 48)), (by first | rfl | (simp; done) | (simp only [← hji17] <;> (first | rfl | simp)) | (simp [*]; done)), H', ⟨by have := HJ4.out; first | omega | exact Nat.le_refl _⟩, ⟨by (with_reducible repeat (first | refine blk_drewN ?_ _ | refine blk_drew ?_ | refine blk_alloc ?_ _)); refine blk_far ?_ NB737_742.out _; (with_reducible repeat (first | refine blk_drewN ?_ _ | refine blk_drew ?_ | refine blk_alloc ?_ _)); refine blk_far ?_ NB737_742.out _; (with_reducible repeat (first | refine blk_drewN ?_ _ | refine blk_drew ?_ | refine blk_alloc ?_ _)); exact BK737.out⟩, ⟨by (with_reducible repeat (first | refine blk_drewN ?_ _ | refine blk_drew ?_ | refine blk_alloc ?_ _)); refine blk_put (cs := #[.int .u64 t739, .int .u64 0]) ?_ 1 _ rfl; (with_reducible repeat (first | refine blk_drewN ?_ _ | refine blk_drew ?_ | refine blk_alloc ?_ _)); refine blk_put (cs := #[.int .u64 0, .int .u64 0]) ?_ 0 _ rfl; (with_reducible repeat (first | refine blk_drewN ?_ _ | refine blk_drew ?_ | refine blk_alloc ?_ _)); exact BK742.out⟩, ⟨xG⟩⟩
              ·rw [if_neg c28] at H
               exact absurd H (by simp)
             ·rw [if_neg c27] at H
              have c27b0 : decide (1 < ((a1.extract ((ji17) : Int).toNat a1.size).size : Int)) = false := decide_eq_false c27
              have c27b1 : decide (1 < (a1.extract ((ji17) : Int).toNat a1.size).size) = false := decide_eq_false (by omega)
              (try (have c27s := c27; simp only [ByteArray.size_extract, Nat.min_self] at c27s))
              clear c27
              have H' := Aside0.mk H
              clear H
              go_wp2
              go_meet
              case rel => exact ⟨_, (false), xV, H', ⟨by have := HJ4.out; first | omega | exact Nat.le_refl _⟩, ⟨by (with_reducible repeat (first | refine blk_drewN ?_ _ | refine blk_drew ?_ | refine blk_alloc ?_ _)); refine blk_far ?_ NB737_742.out _; (with_reducible repeat (first | refine blk_drewN ?_ _ | refine blk_drew ?_ | refine blk_alloc ?_ _)); refine blk_far ?_ NB737_742.out _; (with_reducible repeat (first | refine blk_drewN ?_ _ | refine blk_drew ?_ | refine blk_alloc ?_ _)); exact BK737.out⟩, ⟨by (with_reducible repeat (first | refine blk_drewN ?_ _ | refine blk_drew ?_ | refine blk_alloc ?_ _)); refine blk_put (cs := #[.int .u64 t739, .int .u64 0]) ?_ 1 _ rfl; (with_reducible repeat (first | refine blk_drewN ?_ _ | refine blk_drew ?_ | refine blk_alloc ?_ _)); refine blk_put (cs := #[.int .u64 0, .int .u64 0]) ?_ 0 _ rfl; (with_reducible repeat (first | refine blk_drewN ?_ _ | refine blk_drew ?_ | refine blk_alloc ?_ _)); exact BK742.out⟩, ⟨xG⟩⟩
          case rest =>
           clear HC20
           try clear c1
           try clear c2
           try clear p2
           try clear q2
           try clear hx2
           try clear qi2
           try clear c4
           try clear c6
           try clear p6
           try clear c7
           try clear c7b0
           try clear c8
           try clear c8b0
           try clear p9
           try clear q9
           try clear hx9
           try clear c10
           try clear c10b0
           try clear c10b1
           try clear c11
           try clear c11b0
           try clear c13
           try clear c13b0
           try clear c13b1
           try clear c14
           try clear c14b0
           try clear c14b1
           try clear c16
           try clear c16b0
           try clear c16b1
           try clear c18
           try clear c18b0
           try clear c18b1
           try clear c19
           try clear c19b0
           try clear c19b1
           try clear c23
           try clear c25
           try clear c25b0
           try clear c25b1
           try clear c26
           try clear c26b0
           try clear c26b1
           try clear c27
           try clear c27b0
           try clear c27b1
           try clear c28
           try clear c28b0
           try clear c28b1
           try clear p29
           try clear q29
           try clear hx29
           try clear qi29
           try clear hcz12_0
           try clear hcz12_1
           try clear hcz12_2
           try clear hcz24_0
           try clear hcz24_1
           try clear hfz12_0
           try clear hfz12_1
           try clear hfz12_2
           try clear hfz24_0
           try clear hfz24_1
           try clear p2
           try clear p29
           try clear p6
           try clear p9
           try clear q29
           try clear q9
           obtain ⟨kq, x67_19, rfl, HA, HJ19, BK737, BK742, HB⟩ := hcut
           cases kq with
           | zero => exact absurd HA.out (by simp [turnpikeref3_Parse.j2])
           | succ kj19 =>
            have H := HA.out
            clear HA
            simp only [turnpikeref3_Parse.j2] at H
            by_cases c30 : x67_19 = true
            ·subst c30
             have H1 : (some (0, 0, 0, 12)) = some (r1, r2, r3, r4) := by rw [if_pos rfl] at H; exact H
             clear H
             have H := H1
             clear H1
             simp only [Option.some.injEq, Prod.mk.injEq] at H
             obtain ⟨rfl, rfl, rfl, rfl⟩ := H
             have hnb31 := NB737_742.out
             have hnc31 := NB742_737.out
             have hcz32_0 : wc.cell? ⟨gb737, 0, none⟩ = some (.int .u64 0) := (blk_cell BK737.out 0).trans rfl
             have hcz32_1 : wc.cell? ⟨gb737, 1, none⟩ = some (.int .u64 0) := (blk_cell BK737.out 1).trans rfl
             have hcz32_2 : wc.cell? ⟨gb737, 2, none⟩ = some (.int .i64 0) := (blk_cell BK737.out 2).trans rfl
             have hfz32_0 := blk_frozen BK737.out 0
             have hfz32_1 := blk_frozen BK737.out 1
             have hfz32_2 := blk_frozen BK737.out 2
             go_wp2
             refine bodyPost_ret (results_ct rfl _ _ gb737 28 #[.int .u64 0, .int .u64 0, .int .i64 0] (0, 0) _ rfl (by (with_reducible repeat (first | refine blk_drewN ?_ _ | refine blk_drew ?_ | refine blk_alloc ?_ _)); refine blk_put (cs := #[.int .u64 0, .int .u64 0, .int .i64 0]) ?_ 2 _ rfl; (with_reducible repeat (first | refine blk_drewN ?_ _ | refine blk_drew ?_ | refine blk_alloc ?_ _)); refine blk_put (cs := #[.int .u64 0, .int .u64 0, .int .i64 0]) ?_ 1 _ rfl; (with_reducible repeat (first | refine blk_drewN ?_ _ | refine blk_drew ?_ | refine blk_alloc ?_ _)); refine blk_put (cs := #[.int .u64 0, .int .u64 0, .int .i64 0]) ?_ 0 _ rfl; (with_reducible repeat (first | refine blk_drewN ?_ _ | refine blk_drew ?_ | refine blk_alloc ?_ _)); exact BK737.out) Tryd.underlying28 rfl (by kernel_rfl)) rfl ?_
             exact ⟨by first | rfl | (simp [errW_none, errW_some] <;> rfl) | (simp only [← hji17]; first | rfl | (simp [errW_none, errW_some] <;> rfl)) | (simp [*, errW_none, errW_some] <;> rfl), xG⟩
            ·replace c30 := Bool.eq_false_iff.mpr c30
             subst c30
             have H1 : (turnpikeref3_Parse.l1 kj19 a0 (a1.extract ((ji17) : Int).toNat a1.size) 0 0 t739 t740) = some (r1, r2, r3, r4) := by rw [if_neg (show ¬ (false = true) by decide)] at H; exact H
             clear H
             have H := H1
             clear H1
             have H' := Aside0.mk H
             clear H
             go_wp2
             go_loopg [10, 11] kj19 (fun kq v10 v11 w' => ∃ (x10_3 : Int) (x11_3 : Int) (x738000_3 : Int) (x738001_3 : Int) (x738002_3 : Int), v10 = .int .i64 x10_3 ∧ v11 = .int .i64 x11_3 ∧ Aside0 (turnpikeref3_Parse.l1 kq a0 (a1.extract ((ji17) : Int).toNat a1.size) x10_3 x11_3 t739 t740 = some (r1, r2, r3, r4)) ∧ Aside0 (kq ≤ kj19) ∧ Aside0 (w'.heap[gb737]? = some (.cells #[.int .u64 x738000_3, .int .u64 x738001_3, .int .i64 x738002_3] 28 (0, 0))) ∧ Aside0 (w'.heap[gb742]? = some (.cells #[.int .u64 t739, .int .u64 t740] 24 (0, 0))) ∧ Aside0 (Below w.heap.size w w'))
             case atStart => exact ⟨(0), (0), (0), (0), (0), xV, xV, H', ⟨Nat.le_refl _⟩, ⟨xK BK737.out⟩, ⟨xK BK742.out⟩, ⟨xG⟩⟩
             case round =>
              clear H'
              try clear c1
              try clear c2
              try clear p2
              try clear q2
              try clear hx2
              try clear qi2
              try clear c3
              try clear c4
              try clear c6
              try clear p6
              try clear c7
              try clear c7b0
              try clear c8
              try clear c8b0
              try clear p9
              try clear q9
              try clear hx9
              try clear c10
              try clear c10b0
              try clear c10b1
              try clear c11
              try clear c11b0
              try clear c13
              try clear c13b0
              try clear c13b1
              try clear c14
              try clear c14b0
              try clear c14b1
              try clear c16
              try clear c16b0
              try clear c16b1
              try clear c18
              try clear c18b0
              try clear c18b1
              try clear c19
              try clear c19b0
              try clear c19b1
              try clear c23
              try clear c25
              try clear c25b0
              try clear c25b1
              try clear c26
              try clear c26b0
              try clear c26b1
              try clear c27
              try clear c27b0
              try clear c27b1
              try clear c28
              try clear c28b0
              try clear c28b1
              try clear p29
              try clear q29
              try clear hx29
              try clear qi29
              try clear c30
              try clear c31
              try clear hcz12_0
              try clear hcz12_1
              try clear hcz12_2
              try clear hcz24_0
              try clear hcz24_1
              try clear hcz32_0
              try clear hcz32_1
              try clear hcz32_2
              try clear hfz12_0
              try clear hfz12_1
              try clear hfz12_2
              try clear hfz24_0
              try clear hfz24_1
              try clear hfz32_0
              try clear hfz32_1
              try clear hfz32_2
              try clear p2
              try clear p29
              try clear p6
              try clear p9
              try clear q2
              try clear q29
              try clear q9
              obtain ⟨x10_3, x11_3, x738000_3, x738001_3, x738002_3, rfl, rfl, HA, HK3, BK737, BK742, HB⟩ := hrel
              cases gk with
              | zero => exact absurd HA.out (by simp [turnpikeref3_Parse.l1])
              | succ k3 =>
               have H := HA.out
               clear HA
               simp only [turnpikeref3_Parse.l1] at H
               by_cases c33 : x11_3 < ((a1.extract ((ji17) : Int).toNat a1.size).size : Int)
               ·rw [if_pos c33] at H
                have c33b0 : decide (x11_3 < ((a1.extract ((ji17) : Int).toNat a1.size).size : Int)) = true := decide_eq_true c33
                (try (have c33s := c33; simp only [ByteArray.size_extract, Nat.min_self] at c33s))
                clear c33
                by_cases c34 : 0 ≤ x11_3
                ·rw [if_pos c34] at H
                 have c34b0 : decide (0 ≤ x11_3) = true := decide_eq_true c34
                 clear c34
                 by_cases c36 : (bt (a1.extract ((ji17) : Int).toNat a1.size) x11_3) < 48
                 ·rw [if_pos c36] at H
                  have c36b0 : decide ((bt (a1.extract ((ji17) : Int).toNat a1.size) x11_3) < 48) = true := decide_eq_true c36
                  (try (have c36s := c36; simp only [ByteArray.size_extract, Nat.min_self] at c36s))
                  clear c36
                  simp only [Option.some.injEq, Prod.mk.injEq] at H
                  obtain ⟨rfl, rfl, rfl, rfl⟩ := H
                  have p35 : 0 ≤ (x11_3 : Int) := of_decide_eq_true xA
                  have q35 : x11_3 < ((a1.extract ((ji17) : Int).toNat a1.size).size : Int) := of_decide_eq_true xA
                  have hx35 := bt_at (a1.extract ((ji17) : Int).toNat a1.size) x11_3
                  replace p35 := eq_true p35
                  replace q35 := eq_true q35
                  have hnb37 := NB737_742.out
                  have hnc37 := NB742_737.out
                  have hcz38_0 : wr.cell? ⟨gb737, 0, none⟩ = some (.int .u64 x738000_3) := (blk_cell BK737.out 0).trans rfl
                  have hcz38_1 : wr.cell? ⟨gb737, 1, none⟩ = some (.int .u64 x738001_3) := (blk_cell BK737.out 1).trans rfl
                  have hcz38_2 : wr.cell? ⟨gb737, 2, none⟩ = some (.int .i64 x738002_3) := (blk_cell BK737.out 2).trans rfl
                  have hfz38_0 := blk_frozen BK737.out 0
                  have hfz38_1 := blk_frozen BK737.out 1
                  have hfz38_2 := blk_frozen BK737.out 2
                  go_wp2
                  refine bodyPost_ret (results_ct rfl _ _ gb737 28 #[.int .u64 0, .int .u64 0, .int .i64 0] (0, 0) _ rfl (by (with_reducible repeat (first | refine blk_drewN ?_ _ | refine blk_drew ?_ | refine blk_alloc ?_ _)); refine blk_put (cs := #[.int .u64 0, .int .u64 0, .int .i64 x738002_3]) ?_ 2 _ rfl; (with_reducible repeat (first | refine blk_drewN ?_ _ | refine blk_drew ?_ | refine blk_alloc ?_ _)); refine blk_put (cs := #[.int .u64 0, .int .u64 x738001_3, .int .i64 x738002_3]) ?_ 1 _ rfl; (with_reducible repeat (first | refine blk_drewN ?_ _ | refine blk_drew ?_ | refine blk_alloc ?_ _)); refine blk_put (cs := #[.int .u64 x738000_3, .int .u64 x738001_3, .int .i64 x738002_3]) ?_ 0 _ rfl; (with_reducible repeat (first | refine blk_drewN ?_ _ | refine blk_drew ?_ | refine blk_alloc ?_ _)); exact BK737.out) Tryd.underlying28 rfl (by kernel_rfl)) rfl ?_
                  exact ⟨by first | rfl | (simp [errW_none, errW_some] <;> rfl) | (simp only [← hji17]; first | rfl | (simp [errW_none, errW_some] <;> rfl)) | (simp [*, errW_none, errW_some] <;> rfl), xG⟩
                 ·rw [if_neg c36] at H
                  have c36b0 : decide ((bt (a1.extract ((ji17) : Int).toNat a1.size) x11_3) < 48) = false := decide_eq_false c36
                  (try (have c36s := c36; simp only [ByteArray.size_extract, Nat.min_self] at c36s))
                  clear c36
                  by_cases c40 : (bt (a1.extract ((ji17) : Int).toNat a1.size) x11_3) > 57
                  ·rw [if_pos c40] at H
                   have c40b0 : decide (57 < (bt (a1.extract ((ji17) : Int).toNat a1.size) x11_3)) = true := decide_eq_true c40
                   (try (have c40s := c40; simp only [ByteArray.size_extract, Nat.min_self] at c40s))
                   clear c40
                   simp only [Option.some.injEq, Prod.mk.injEq] at H
                   obtain ⟨rfl, rfl, rfl, rfl⟩ := H
                   have p35 : 0 ≤ (x11_3 : Int) := of_decide_eq_true xA
                   have q35 : x11_3 < ((a1.extract ((ji17) : Int).toNat a1.size).size : Int) := of_decide_eq_true xA
                   have hx35 := bt_at (a1.extract ((ji17) : Int).toNat a1.size) x11_3
                   replace p35 := eq_true p35
                   replace q35 := eq_true q35
                   have p39 : 0 ≤ (x11_3 : Int) := of_decide_eq_true xA
                   have q39 : x11_3 < ((a1.extract ((ji17) : Int).toNat a1.size).size : Int) := of_decide_eq_true xA
                   have hx39 := bt_at (a1.extract ((ji17) : Int).toNat a1.size) x11_3
                   replace p39 := eq_true p39
                   replace q39 := eq_true q39
                   have hnb41 := NB737_742.out
                   have hnc41 := NB742_737.out
                   have hcz42_0 : wr.cell? ⟨gb737, 0, none⟩ = some (.int .u64 x738000_3) := (blk_cell BK737.out 0).trans rfl
                   have hcz42_1 : wr.cell? ⟨gb737, 1, none⟩ = some (.int .u64 x738001_3) := (blk_cell BK737.out 1).trans rfl
                   have hcz42_2 : wr.cell? ⟨gb737, 2, none⟩ = some (.int .i64 x738002_3) := (blk_cell BK737.out 2).trans rfl
                   have hfz42_0 := blk_frozen BK737.out 0
                   have hfz42_1 := blk_frozen BK737.out 1
                   have hfz42_2 := blk_frozen BK737.out 2
                   go_wp2
                   refine bodyPost_ret (results_ct rfl _ _ gb737 28 #[.int .u64 0, .int .u64 0, .int .i64 0] (0, 0) _ rfl (by (with_reducible repeat (first | refine blk_drewN ?_ _ | refine blk_drew ?_ | refine blk_alloc ?_ _)); refine blk_put (cs := #[.int .u64 0, .int .u64 0, .int .i64 x738002_3]) ?_ 2 _ rfl; (with_reducible repeat (first | refine blk_drewN ?_ _ | refine blk_drew ?_ | refine blk_alloc ?_ _)); refine blk_put (cs := #[.int .u64 0, .int .u64 x738001_3, .int .i64 x738002_3]) ?_ 1 _ rfl; (with_reducible repeat (first | refine blk_drewN ?_ _ | refine blk_drew ?_ | refine blk_alloc ?_ _)); refine blk_put (cs := #[.int .u64 x738000_3, .int .u64 x738001_3, .int .i64 x738002_3]) ?_ 0 _ rfl; (with_reducible repeat (first | refine blk_drewN ?_ _ | refine blk_drew ?_ | refine blk_alloc ?_ _)); exact BK737.out) Tryd.underlying28 rfl (by kernel_rfl)) rfl ?_
                   exact ⟨by first | rfl | (simp [errW_none, errW_some] <;> rfl) | (simp only [← hji17]; first | rfl | (simp [errW_none, errW_some] <;> rfl)) | (simp [*, errW_none, errW_some] <;> rfl), xG⟩
                  ·rw [if_neg c40] at H
                   have c40b0 : decide (57 < (bt (a1.extract ((ji17) : Int).toNat a1.size) x11_3)) = false := decide_eq_false c40
                   (try (have c40s := c40; simp only [ByteArray.size_extract, Nat.min_self] at c40s))
                   clear c40
                   have H' := Aside0.mk H
                   clear H
                   have p35 : 0 ≤ (x11_3 : Int) := of_decide_eq_true xA
                   have q35 : x11_3 < ((a1.extract ((ji17) : Int).toNat a1.size).size : Int) := of_decide_eq_true xA
                   have hx35 := bt_at (a1.extract ((ji17) : Int).toNat a1.size) x11_3
                   replace p35 := eq_true p35
                   replace q35 := eq_true q35
                   have p39 : 0 ≤ (x11_3 : Int) := of_decide_eq_true xA
                   have q39 : x11_3 < ((a1.extract ((ji17) : Int).toNat a1.size).size : Int) := of_decide_eq_true xA
                   have hx39 := bt_at (a1.extract ((ji17) : Int).toNat a1.size) x11_3
                   replace p39 := eq_true p39
                   replace q39 := eq_true q39
                   have p43 : 0 ≤ (x11_3 : Int) := of_decide_eq_true xA
                   have q43 : x11_3 < ((a1.extract ((ji17) : Int).toNat a1.size).size : Int) := of_decide_eq_true xA
                   have hx43 := bt_at (a1.extract ((ji17) : Int).toNat a1.size) x11_3
                   replace p43 := eq_true p43
                   replace q43 := eq_true q43
                   go_wp2
                   go_roundg k3
                   case measure => have := HJ4.out; have := HJ19.out; have := HK3.out; omega
                   case rel => exact ⟨(wrap64 ((wrap64 (10 * x10_3)) + (((bt (a1.extract ((ji17) : Int).toNat a1.size) x11_3) - 48) % 256))), (wrap64 (x11_3 + 1)), (x738000_3), (x738001_3), (x738002_3), (by first | rfl | (simp; done) | (simp only [← hji17] <;> (first | rfl | simp)) | (simp [*]; done)), xV, H', ⟨by have := HJ4.out; have := HJ19.out; have := HK3.out; omega⟩, ⟨xK BK737.out⟩, ⟨xK BK742.out⟩, ⟨xG⟩⟩
                ·rw [if_neg c34] at H
                 exact absurd H (by simp)
               ·rw [if_neg c33] at H
                have c33b0 : decide (x11_3 < ((a1.extract ((ji17) : Int).toNat a1.size).size : Int)) = false := decide_eq_false c33
                (try (have c33s := c33; simp only [ByteArray.size_extract, Nat.min_self] at c33s))
                clear c33
                replace H := Option.bind_eq_some_iff.mp H
                obtain ⟨t744, A440, H⟩ := H
                replace H : (if t744 = 0 then (some (t739, t740, x10_3, 0)) else (some (0, 0, 0, t744))) = some (r1, r2, r3, r4) := H
                have A44 := Aside0.mk A440
                clear A440
                by_cases c45 : t744 = 0
                ·rw [if_pos c45] at H
                 have c45b0 : (t744 == 0) = true := beq_iff_eq.mpr c45
                 have c45b1 : (t744 != 0) = false := bne_eq_false_iff_eq.mpr c45
                 clear c45
                 simp only [Option.some.injEq, Prod.mk.injEq] at H
                 obtain ⟨rfl, rfl, rfl, rfl⟩ := H
                 have hnb46 := NB742_737.out
                 have hnc46 := NB737_742.out
                 have hcz47_0 : wr.cell? ⟨gb742, 0, none⟩ = some (.int .u64 t739) := (blk_cell BK742.out 0).trans rfl
                 have hcz47_1 : wr.cell? ⟨gb742, 1, none⟩ = some (.int .u64 t740) := (blk_cell BK742.out 1).trans rfl
                 have hfz47_0 := blk_frozen BK742.out 0
                 have hfz47_1 := blk_frozen BK742.out 1
                 go_wp2_with (first | ((with_reducible refine gate_dst (N := 12) rfl ?_); (try (refine gate_guard (by rfl) ?_; dsimp only)); refine box_event ?hg (N := 12) ?hd (cs := #[.int .u64 0, .int .u64 0, .int .i64 0]) (t := 28) ?hr ?_; (case hd => rfl); (case hg => rfl); (case hr => first | (go_simp; done) | (go_simp; rfl)); intro gb743 hg w48 hbox hb; have n0_ := xP BK737.out hb; have n1_ := xP BK742.out hb; have n2_ := Aside0.mk (below_step xG hb); have n3_ := Aside0.mk (hbox); have n4_ := xT w hg; have n5_ := xT w hg; have n6_ := Aside0.mk ((xNl BK737.out hg : gb737 ≠ gb743)); have n7_ := Aside0.mk ((xNr BK737.out hg : gb743 ≠ gb737)); have n8_ := Aside0.mk ((xNl BK742.out hg : gb742 ≠ gb743)); have n9_ := Aside0.mk ((xNr BK742.out hg : gb743 ≠ gb742)); clear BK737; clear BK742; clear HB; have BK737 := n0_; have BK742 := n1_; have HB := n2_; have BK743 := n3_; have GW743 := n4_; have GE743 := n5_; have NB737_743 := n6_; have NB743_737 := n7_; have NB742_743 := n8_; have NB743_742 := n9_; clear n0_ n1_ n2_ n3_ n4_ n5_ n6_ n7_ n8_ n9_; clear hb hbox hg; have hnb49 := NB743_737.out; have hnc49 := NB737_743.out; have hnb50 := NB743_742.out; have hnc50 := NB742_743.out; have hcz51_0 : w48.cell? ⟨gb743, 0, none⟩ = some (.int .u64 0) := (blk_cell BK743.out 0).trans rfl; have hcz51_1 : w48.cell? ⟨gb743, 1, none⟩ = some (.int .u64 0) := (blk_cell BK743.out 1).trans rfl; have hcz51_2 : w48.cell? ⟨gb743, 2, none⟩ = some (.int .i64 0) := (blk_cell BK743.out 2).trans rfl; have hfz51_0 := blk_frozen BK743.out 0; have hfz51_1 := blk_frozen BK743.out 1; have hfz51_2 := blk_frozen BK743.out 2) | ((with_reducible refine gate_callee (f := 28) rfl ?_); refine goesL_ (some 99) rfl rfl Tryd.func28 (by kernel_rfl) rfl #[.int .i64 a0, .agg #[.int .u64 t739, .int .u64 t740, .int .i64 x10_3]] rfl xM ?_; (with_reducible refine (turnpikeref3_Check.calls k3 a0 t739 t740 x10_3 t744 _ A44.out).mono ?_); rintro e w52 ⟨rfl, hb⟩; refine ⟨_, rfl, ?_⟩; have n0_ := Aside0.mk (blk_below (g := gb737) (o := .cells #[.int .u64 x738000_3, .int .u64 x738001_3, .int .i64 x738002_3] 28 (0, 0)) (by (with_reducible repeat (first | refine blk_drewN ?_ _ | refine blk_drew ?_ | refine blk_alloc ?_ _)); refine blk_far ?_ NB737_743.out _; (with_reducible repeat (first | refine blk_drewN ?_ _ | refine blk_drew ?_ | refine blk_alloc ?_ _)); refine blk_far ?_ NB737_743.out _; (with_reducible repeat (first | refine blk_drewN ?_ _ | refine blk_drew ?_ | refine blk_alloc ?_ _)); refine blk_far ?_ NB737_743.out _; (with_reducible repeat (first | refine blk_drewN ?_ _ | refine blk_drew ?_ | refine blk_alloc ?_ _)); exact BK737.out) hb); have n1_ := Aside0.mk (blk_below (g := gb742) (o := .cells #[.int .u64 t739, .int .u64 t740] 24 (0, 0)) (by (with_reducible repeat (first | refine blk_drewN ?_ _ | refine blk_drew ?_ | refine blk_alloc ?_ _)); refine blk_far ?_ NB742_743.out _; (with_reducible repeat (first | refine blk_drewN ?_ _ | refine blk_drew ?_ | refine blk_alloc ?_ _)); refine blk_far ?_ NB742_743.out _; (with_reducible repeat (first | refine blk_drewN ?_ _ | refine blk_drew ?_ | refine blk_alloc ?_ _)); refine blk_far ?_ NB742_743.out _; (with_reducible repeat (first | refine blk_drewN ?_ _ | refine blk_drew ?_ | refine blk_alloc ?_ _)); exact BK742.out) hb); have n2_ := Aside0.mk (blk_below (g := gb743) (o := .cells #[.int .u64 t739, .int .u64 t740, .int .i64 x10_3] 28 (0, 0)) (by (with_reducible repeat (first | refine blk_drewN ?_ _ | refine blk_drew ?_ | refine blk_alloc ?_ _)); refine blk_put (cs := #[.int .u64 t739, .int .u64 t740, .int .i64 0]) ?_ 2 _ rfl; (with_reducible repeat (first | refine blk_drewN ?_ _ | refine blk_drew ?_ | refine blk_alloc ?_ _)); refine blk_put (cs := #[.int .u64 t739, .int .u64 0, .int .i64 0]) ?_ 1 _ rfl; (with_reducible repeat (first | refine blk_drewN ?_ _ | refine blk_drew ?_ | refine blk_alloc ?_ _)); refine blk_put (cs := #[.int .u64 0, .int .u64 0, .int .i64 0]) ?_ 0 _ rfl; (with_reducible repeat (first | refine blk_drewN ?_ _ | refine blk_drew ?_ | refine blk_alloc ?_ _)); exact BK743.out) hb); have n3_ := Aside0.mk (below_step xG hb); clear BK737; clear BK742; clear BK743; clear HB; have BK737 := n0_; have BK742 := n1_; have BK743 := n2_; have HB := n3_; clear n0_ n1_ n2_ n3_; (try clear hb); (try clear hb2); (try clear hk); (try clear hi); have hcz53_0 : w52.cell? ⟨gb743, 0, none⟩ = some (.int .u64 t739) := (blk_cell BK743.out 0).trans rfl; have hcz53_1 : w52.cell? ⟨gb743, 1, none⟩ = some (.int .u64 t740) := (blk_cell BK743.out 1).trans rfl; have hcz53_2 : w52.cell? ⟨gb743, 2, none⟩ = some (.int .i64 x10_3) := (blk_cell BK743.out 2).trans rfl; have hfz53_0 := blk_frozen BK743.out 0; have hfz53_1 := blk_frozen BK743.out 1; have hfz53_2 := blk_frozen BK743.out 2; have hcz54_0 : w52.cell? ⟨gb737, 0, none⟩ = some (.int .u64 x738000_3) := (blk_cell BK737.out 0).trans rfl; have hcz54_1 : w52.cell? ⟨gb737, 1, none⟩ = some (.int .u64 x738001_3) := (blk_cell BK737.out 1).trans rfl; have hcz54_2 : w52.cell? ⟨gb737, 2, none⟩ = some (.int .i64 x738002_3) := (blk_cell BK737.out 2).trans rfl; have hfz54_0 := blk_frozen BK737.out 0; have hfz54_1 := blk_frozen BK737.out 1; have hfz54_2 := blk_frozen BK737.out 2))
                 refine bodyPost_ret (results_ct rfl _ _ gb737 28 #[.int .u64 t739, .int .u64 t740, .int .i64 x10_3] (0, 0) _ rfl (by (with_reducible repeat (first | refine blk_drewN ?_ _ | refine blk_drew ?_ | refine blk_alloc ?_ _)); refine blk_put (cs := #[.int .u64 t739, .int .u64 t740, .int .i64 x738002_3]) ?_ 2 _ rfl; (with_reducible repeat (first | refine blk_drewN ?_ _ | refine blk_drew ?_ | refine blk_alloc ?_ _)); refine blk_put (cs := #[.int .u64 t739, .int .u64 x738001_3, .int .i64 x738002_3]) ?_ 1 _ rfl; (with_reducible repeat (first | refine blk_drewN ?_ _ | refine blk_drew ?_ | refine blk_alloc ?_ _)); refine blk_put (cs := #[.int .u64 x738000_3, .int .u64 x738001_3, .int .i64 x738002_3]) ?_ 0 _ rfl; (with_reducible repeat (first | refine blk_drewN ?_ _ | refine blk_drew ?_ | refine blk_alloc ?_ _)); exact BK737.out) Tryd.underlying28 rfl (by kernel_rfl)) rfl ?_
                 exact ⟨by first | rfl | (simp [errW_none, errW_some] <;> rfl) | (simp only [← hji17]; first | rfl | (simp [errW_none, errW_some] <;> rfl)) | (simp [*, errW_none, errW_some] <;> rfl), xG⟩
                ·rw [if_neg c45] at H
                 have c45b0 : (t744 == 0) = false := beq_eq_false_iff_ne.mpr c45
                 have c45b1 : (t744 != 0) = true := bne_iff_ne.mpr c45
                 simp only [Option.some.injEq, Prod.mk.injEq] at H
                 obtain ⟨rfl, rfl, rfl, rfl⟩ := H
                 have hnb55 := NB742_737.out
                 have hnc55 := NB737_742.out
                 have hcz56_0 : wr.cell? ⟨gb742, 0, none⟩ = some (.int .u64 t739) := (blk_cell BK742.out 0).trans rfl
                 have hcz56_1 : wr.cell? ⟨gb742, 1, none⟩ = some (.int .u64 t740) := (blk_cell BK742.out 1).trans rfl
                 have hfz56_0 := blk_frozen BK742.out 0
                 have hfz56_1 := blk_frozen BK742.out 1
                 go_wp2_with (first | ((with_reducible refine gate_dst (N := 12) rfl ?_); (try (refine gate_guard (by rfl) ?_; dsimp only)); refine box_event ?hg (N := 12) ?hd (cs := #[.int .u64 0, .int .u64 0, .int .i64 0]) (t := 28) ?hr ?_; (case hd => rfl); (case hg => rfl); (case hr => first | (go_simp; done) | (go_simp; rfl)); intro gb743 hg w57 hbox hb; have n0_ := xP BK737.out hb; have n1_ := xP BK742.out hb; have n2_ := Aside0.mk (below_step xG hb); have n3_ := Aside0.mk (hbox); have n4_ := xT w hg; have n5_ := xT w hg; have n6_ := Aside0.mk ((xNl BK737.out hg : gb737 ≠ gb743)); have n7_ := Aside0.mk ((xNr BK737.out hg : gb743 ≠ gb737)); have n8_ := Aside0.mk ((xNl BK742.out hg : gb742 ≠ gb743)); have n9_ := Aside0.mk ((xNr BK742.out hg : gb743 ≠ gb742)); clear BK737; clear BK742; clear HB; have BK737 := n0_; have BK742 := n1_; have HB := n2_; have BK743 := n3_; have GW743 := n4_; have GE743 := n5_; have NB737_743 := n6_; have NB743_737 := n7_; have NB742_743 := n8_; have NB743_742 := n9_; clear n0_ n1_ n2_ n3_ n4_ n5_ n6_ n7_ n8_ n9_; clear hb hbox hg; have hnb58 := NB743_737.out; have hnc58 := NB737_743.out; have hnb59 := NB743_742.out; have hnc59 := NB742_743.out; have hcz60_0 : w57.cell? ⟨gb743, 0, none⟩ = some (.int .u64 0) := (blk_cell BK743.out 0).trans rfl; have hcz60_1 : w57.cell? ⟨gb743, 1, none⟩ = some (.int .u64 0) := (blk_cell BK743.out 1).trans rfl; have hcz60_2 : w57.cell? ⟨gb743, 2, none⟩ = some (.int .i64 0) := (blk_cell BK743.out 2).trans rfl; have hfz60_0 := blk_frozen BK743.out 0; have hfz60_1 := blk_frozen BK743.out 1; have hfz60_2 := blk_frozen BK743.out 2) | ((with_reducible refine gate_callee (f := 28) rfl ?_); refine goesL_ (some 99) rfl rfl Tryd.func28 (by kernel_rfl) rfl #[.int .i64 a0, .agg #[.int .u64 t739, .int .u64 t740, .int .i64 x10_3]] rfl xM ?_; (with_reducible refine (turnpikeref3_Check.calls k3 a0 t739 t740 x10_3 t744 _ A44.out).mono ?_); rintro e w61 ⟨rfl, hb⟩; refine ⟨_, rfl, ?_⟩; have n0_ := Aside0.mk (blk_below (g := gb737) (o := .cells #[.int .u64 x738000_3, .int .u64 x738001_3, .int .i64 x738002_3] 28 (0, 0)) (by (with_reducible repeat (first | refine blk_drewN ?_ _ | refine blk_drew ?_ | refine blk_alloc ?_ _)); refine blk_far ?_ NB737_743.out _; (with_reducible repeat (first | refine blk_drewN ?_ _ | refine blk_drew ?_ | refine blk_alloc ?_ _)); refine blk_far ?_ NB737_743.out _; (with_reducible repeat (first | refine blk_drewN ?_ _ | refine blk_drew ?_ | refine blk_alloc ?_ _)); refine blk_far ?_ NB737_743.out _; (with_reducible repeat (first | refine blk_drewN ?_ _ | refine blk_drew ?_ | refine blk_alloc ?_ _)); exact BK737.out) hb); have n1_ := Aside0.mk (blk_below (g := gb742) (o := .cells #[.int .u64 t739, .int .u64 t740] 24 (0, 0)) (by (with_reducible repeat (first | refine blk_drewN ?_ _ | refine blk_drew ?_ | refine blk_alloc ?_ _)); refine blk_far ?_ NB742_743.out _; (with_reducible repeat (first | refine blk_drewN ?_ _ | refine blk_drew ?_ | refine blk_alloc ?_ _)); refine blk_far ?_ NB742_743.out _; (with_reducible repeat (first | refine blk_drewN ?_ _ | refine blk_drew ?_ | refine blk_alloc ?_ _)); refine blk_far ?_ NB742_743.out _; (with_reducible repeat (first | refine blk_drewN ?_ _ | refine blk_drew ?_ | refine blk_alloc ?_ _)); exact BK742.out) hb); have n2_ := Aside0.mk (blk_below (g := gb743) (o := .cells #[.int .u64 t739, .int .u64 t740, .int .i64 x10_3] 28 (0, 0)) (by (with_reducible repeat (first | refine blk_drewN ?_ _ | refine blk_drew ?_ | refine blk_alloc ?_ _)); refine blk_put (cs := #[.int .u64 t739, .int .u64 t740, .int .i64 0]) ?_ 2 _ rfl; (with_reducible repeat (first | refine blk_drewN ?_ _ | refine blk_drew ?_ | refine blk_alloc ?_ _)); refine blk_put (cs := #[.int .u64 t739, .int .u64 0, .int .i64 0]) ?_ 1 _ rfl; (with_reducible repeat (first | refine blk_drewN ?_ _ | refine blk_drew ?_ | refine blk_alloc ?_ _)); refine blk_put (cs := #[.int .u64 0, .int .u64 0, .int .i64 0]) ?_ 0 _ rfl; (with_reducible repeat (first | refine blk_drewN ?_ _ | refine blk_drew ?_ | refine blk_alloc ?_ _)); exact BK743.out) hb); have n3_ := Aside0.mk (below_step xG hb); clear BK737; clear BK742; clear BK743; clear HB; have BK737 := n0_; have BK742 := n1_; have BK743 := n2_; have HB := n3_; clear n0_ n1_ n2_ n3_; (try clear hb); (try clear hb2); (try clear hk); (try clear hi); have hcz62_0 : w61.cell? ⟨gb737, 0, none⟩ = some (.int .u64 x738000_3) := (blk_cell BK737.out 0).trans rfl; have hcz62_1 : w61.cell? ⟨gb737, 1, none⟩ = some (.int .u64 x738001_3) := (blk_cell BK737.out 1).trans rfl; have hcz62_2 : w61.cell? ⟨gb737, 2, none⟩ = some (.int .i64 x738002_3) := (blk_cell BK737.out 2).trans rfl; have hfz62_0 := blk_frozen BK737.out 0; have hfz62_1 := blk_frozen BK737.out 1; have hfz62_2 := blk_frozen BK737.out 2))
                 refine bodyPost_ret (results_ct rfl _ _ gb737 28 #[.int .u64 0, .int .u64 0, .int .i64 0] (0, 0) _ rfl (by (with_reducible repeat (first | refine blk_drewN ?_ _ | refine blk_drew ?_ | refine blk_alloc ?_ _)); refine blk_put (cs := #[.int .u64 0, .int .u64 0, .int .i64 x738002_3]) ?_ 2 _ rfl; (with_reducible repeat (first | refine blk_drewN ?_ _ | refine blk_drew ?_ | refine blk_alloc ?_ _)); refine blk_put (cs := #[.int .u64 0, .int .u64 x738001_3, .int .i64 x738002_3]) ?_ 1 _ rfl; (with_reducible repeat (first | refine blk_drewN ?_ _ | refine blk_drew ?_ | refine blk_alloc ?_ _)); refine blk_put (cs := #[.int .u64 x738000_3, .int .u64 x738001_3, .int .i64 x738002_3]) ?_ 0 _ rfl; (with_reducible repeat (first | refine blk_drewN ?_ _ | refine blk_drew ?_ | refine blk_alloc ?_ _)); exact BK737.out) Tryd.underlying28 rfl (by kernel_rfl)) rfl ?_
                 exact ⟨by first | rfl | (simp [errW_none, errW_some] <;> rfl) | (simp only [← hji17]; first | rfl | (simp [errW_none, errW_some] <;> rfl)) | (simp [*, errW_none, errW_some] <;> rfl), xG⟩
         ·rw [if_neg c19] at H
          exact absurd H (by simp)
        ·rw [if_neg c18] at H
         exact absurd H (by simp)
       ·rw [if_neg c16] at H
        have c16b0 : (t741 == 0) = false := beq_eq_false_iff_ne.mpr c16
        have c16b1 : (t741 != 0) = true := bne_iff_ne.mpr c16
        simp only [Option.some.injEq, Prod.mk.injEq] at H
        obtain ⟨rfl, rfl, rfl, rfl⟩ := H
        go_wp2_with (first | ((with_reducible refine gate_callee (f := 76) rfl ?_); refine goesL_ (some 39) rfl rfl Tryd.func76 (by kernel_rfl) rfl #[.int .i64 a0, .string (a1.extract 0 (x6_4 : Int).toNat)] rfl xM ?_; (with_reducible refine (turnpikeref2_Parse.calls kj4 a0 (a1.extract 0 (x6_4 : Int).toNat) t739 t740 t741 _ A15.out).mono ?_); rintro e w63 ⟨rfl, hb⟩; refine ⟨_, rfl, ?_⟩; have n0_ := xP BK737.out hb; have n1_ := Aside0.mk (below_step xG hb); clear BK737; clear HB; have BK737 := n0_; have HB := n1_; clear n0_ n1_; (try clear hb); (try clear hb2); (try clear hk); (try clear hi)) | ((with_reducible refine gate_dst (N := 7) rfl ?_); (try (refine gate_guard (by rfl) ?_; dsimp only)); refine box_event ?hg (N := 7) ?hd (cs := #[.int .u64 0, .int .u64 0]) (t := 24) ?hr ?_; (case hd => rfl); (case hg => rfl); (case hr => first | (go_simp; done) | (go_simp; rfl)); intro gb742 hg w64 hbox hb; have n0_ := xP BK737.out hb; have n1_ := Aside0.mk (below_step xG hb); have n2_ := Aside0.mk (hbox); have n3_ := xT w hg; have n4_ := xT w hg; have n5_ := Aside0.mk ((xNl BK737.out hg : gb737 ≠ gb742)); have n6_ := Aside0.mk ((xNr BK737.out hg : gb742 ≠ gb737)); clear BK737; clear HB; have BK737 := n0_; have HB := n1_; have BK742 := n2_; have GW742 := n3_; have GE742 := n4_; have NB737_742 := n5_; have NB742_737 := n6_; clear n0_ n1_ n2_ n3_ n4_ n5_ n6_; clear hb hbox hg; have hnb65 := NB742_737.out; have hnc65 := NB737_742.out; have hcz66_0 : w64.cell? ⟨gb742, 0, none⟩ = some (.int .u64 0) := (blk_cell BK742.out 0).trans rfl; have hcz66_1 : w64.cell? ⟨gb742, 1, none⟩ = some (.int .u64 0) := (blk_cell BK742.out 1).trans rfl; have hfz66_0 := blk_frozen BK742.out 0; have hfz66_1 := blk_frozen BK742.out 1; have hcz67_0 : w64.cell? ⟨gb737, 0, none⟩ = some (.int .u64 0) := (blk_cell BK737.out 0).trans rfl; have hcz67_1 : w64.cell? ⟨gb737, 1, none⟩ = some (.int .u64 0) := (blk_cell BK737.out 1).trans rfl; have hcz67_2 : w64.cell? ⟨gb737, 2, none⟩ = some (.int .i64 0) := (blk_cell BK737.out 2).trans rfl; have hfz67_0 := blk_frozen BK737.out 0; have hfz67_1 := blk_frozen BK737.out 1; have hfz67_2 := blk_frozen BK737.out 2))
        refine bodyPost_ret (results_ct rfl _ _ gb737 28 #[.int .u64 0, .int .u64 0, .int .i64 0] (0, 0) _ rfl (by (with_reducible repeat (first | refine blk_drewN ?_ _ | refine blk_drew ?_ | refine blk_alloc ?_ _)); refine blk_put (cs := #[.int .u64 0, .int .u64 0, .int .i64 0]) ?_ 2 _ rfl; (with_reducible repeat (first | refine blk_drewN ?_ _ | refine blk_drew ?_ | refine blk_alloc ?_ _)); refine blk_put (cs := #[.int .u64 0, .int .u64 0, .int .i64 0]) ?_ 1 _ rfl; (with_reducible repeat (first | refine blk_drewN ?_ _ | refine blk_drew ?_ | refine blk_alloc ?_ _)); refine blk_put (cs := #[.int .u64 0, .int .u64 0, .int .i64 0]) ?_ 0 _ rfl; (with_reducible repeat (first | refine blk_drewN ?_ _ | refine blk_drew ?_ | refine blk_alloc ?_ _)); refine blk_far ?_ NB737_742.out _; (with_reducible repeat (first | refine blk_drewN ?_ _ | refine blk_drew ?_ | refine blk_alloc ?_ _)); refine blk_far ?_ NB737_742.out _; (with_reducible repeat (first | refine blk_drewN ?_ _ | refine blk_drew ?_ | refine blk_alloc ?_ _)); exact BK737.out) Tryd.underlying28 rfl (by kernel_rfl)) rfl ?_
        exact ⟨xE, xG⟩
      ·rw [if_neg c14] at H
       exact absurd H (by simp)
     ·rw [if_neg c13] at H
      exact absurd H (by simp)
 ·replace c4 := Bool.eq_false_iff.mpr c4
  subst c4
  have H1 : (some (0, 0, 0, 11)) = some (r1, r2, r3, r4) := by rw [if_neg (show ¬ (false = true) by decide)] at H; exact H
  clear H
  have H := H1
  clear H1
  simp only [Option.some.injEq, Prod.mk.injEq] at H
  obtain ⟨rfl, rfl, rfl, rfl⟩ := H
  go_enter Tryd.func46, Tryd.ntmps46
  go_wp2_with (first | ((with_reducible refine gate_dst (N := 4) rfl ?_); (try (refine gate_guard (by rfl) ?_; dsimp only)); refine box_event ?hg (N := 4) ?hd (cs := #[.int .u64 0, .int .u64 0, .int .i64 0]) (t := 28) ?hr ?_; (case hd => rfl); (case hg => rfl); (case hr => first | (go_simp; done) | (go_simp; rfl)); intro gb737 hg w68 hbox hb; have n0_ := Aside0.mk (below_step xB hb); have n1_ := Aside0.mk (hbox); have n2_ := xS w hg; have n3_ := xS w hg; clear HB; have HB := n0_; have BK737 := n1_; have GW737 := n2_; have GE737 := n3_; clear n0_ n1_ n2_ n3_; clear hb hbox hg) | ((with_reducible refine gate_callee (f := 63) rfl ?_); refine goesL_ (some 14) rfl rfl Tryd.func63 (by kernel_rfl) rfl #[.int .i64 a0] rfl xM ?_; (with_reducible refine (turnpikeref2_IsFamily.calls a0 false _ A3.out).mono ?_); rintro e w' ⟨rfl, ⟨nd, rfl⟩⟩; refine ⟨_, rfl, ?_⟩; (try (rw [drewN_self w68]; generalize hq_ : World.drewN w68 _ = w68; have n0_ : Aside0 (w68.heap[gb737]? = some (.cells #[.int .u64 0, .int .u64 0, .int .i64 0] 28 (0, 0))) := ⟨by rw [← hq_]; exact (xK BK737.out)⟩; have n1_ : Aside0 (Below w.heap.size w w68) := ⟨by rw [← hq_]; exact xG⟩; clear BK737 HB hq_; have BK737 := n0_; have HB := n1_; clear n0_ n1_)); have hcz69_0 : w68.cell? ⟨gb737, 0, none⟩ = some (.int .u64 0) := (blk_cell BK737.out 0).trans rfl; have hcz69_1 : w68.cell? ⟨gb737, 1, none⟩ = some (.int .u64 0) := (blk_cell BK737.out 1).trans rfl; have hcz69_2 : w68.cell? ⟨gb737, 2, none⟩ = some (.int .i64 0) := (blk_cell BK737.out 2).trans rfl; have hfz69_0 := blk_frozen BK737.out 0; have hfz69_1 := blk_frozen BK737.out 1; have hfz69_2 := blk_frozen BK737.out 2))
  refine bodyPost_ret (results_ct rfl _ _ gb737 28 #[.int .u64 0, .int .u64 0, .int .i64 0] (0, 0) _ rfl (by (with_reducible repeat (first | refine blk_drewN ?_ _ | refine blk_drew ?_ | refine blk_alloc ?_ _)); refine blk_put (cs := #[.int .u64 0, .int .u64 0, .int .i64 0]) ?_ 2 _ rfl; (with_reducible repeat (first | refine blk_drewN ?_ _ | refine blk_drew ?_ | refine blk_alloc ?_ _)); refine blk_put (cs := #[.int .u64 0, .int .u64 0, .int .i64 0]) ?_ 1 _ rfl; (with_reducible repeat (first | refine blk_drewN ?_ _ | refine blk_drew ?_ | refine blk_alloc ?_ _)); refine blk_put (cs := #[.int .u64 0, .int .u64 0, .int .i64 0]) ?_ 0 _ rfl; (with_reducible repeat (first | refine blk_drewN ?_ _ | refine blk_drew ?_ | refine blk_alloc ?_ _)); exact BK737.out) Tryd.underlying28 rfl (by kernel_rfl)) rfl ?_
  exact ⟨xE, xG⟩
mutual
def turnpikeref2_Decimal.l0 : Nat → Int → ByteArray → Option (ByteArray)
 | 0, _, _ => none
 | k + 1, x0, x3 => if x0 > 0 then ((some (([(wrap64 (48 + (Int.tmod x0 10))) % 256] : List Int) : List Int)).bind fun y746 => (if (strOfNums y746).size + x3.size ≤ 9223372036854775807 then (turnpikeref2_Decimal.l0 k (wrap64 (Int.tdiv x0 10)) ((strOfNums y746) ++ x3)) else (none))) else (if x3.toList = ([] : List UInt8) then ((some (([(wrap64 (48 + (Int.tmod x0 10))) % 256] : List Int) : List Int)).bind fun y749 => (if (strOfNums y749).size + x3.size ≤ 9223372036854775807 then (turnpikeref2_Decimal.l0 k (wrap64 (Int.tdiv x0 10)) ((strOfNums y749) ++ x3)) else (none))) else (some x3))
def turnpikeref2_Decimal.f : Nat → Int → Option (ByteArray)
 | 0, _ => none
 | k + 1, a0 => if a0 < 0 then ((turnpikeref2_Decimal.f k (wrap64 (-a0))).bind fun t745 => (if 1 + t745.size ≤ 9223372036854775807 then (some ((⟨#[45]⟩ : ByteArray) ++ t745)) else (none))) else (turnpikeref2_Decimal.l0 k a0 (⟨#[]⟩ : ByteArray))
end
theorem turnpikeref2_Decimal.mono_l : ∀ k, (∀ y0, LeO (turnpikeref2_Decimal.f k y0) (turnpikeref2_Decimal.f (k + 1) y0)) ∧ (∀ y0 y1, LeO (turnpikeref2_Decimal.l0 k y0 y1) (turnpikeref2_Decimal.l0 (k + 1) y0 y1))
 | 0 => ⟨fun _ r h => by simp [turnpikeref2_Decimal.f] at h, fun _ _ r h => by simp [turnpikeref2_Decimal.l0] at h⟩
 | k + 1 => by
  obtain ⟨ih0, ih1⟩ := turnpikeref2_Decimal.mono_l k
  refine ⟨?_, ?_⟩
  ·intro y0
   unfold turnpikeref2_Decimal.f
   exact xO
  ·intro y0 y1
   unfold turnpikeref2_Decimal.l0
   exact xO
theorem turnpikeref2_Decimal.mono : ∀ a0 k, LeO (turnpikeref2_Decimal.f k a0) (turnpikeref2_Decimal.f (k + 1) a0) := by
 intro a0 k
 obtain ⟨ih0, ih1⟩ := turnpikeref2_Decimal.mono_l k
 exact ih0 a0
set_option maxHeartbeats 8000000 in
set_option maxRecDepth 100000 in
theorem turnpikeref2_Decimal.calls (k : Nat) : ∀ (a0 : Int) (r : ByteArray) (w : World) (h : turnpikeref2_Decimal.f k a0 = some r),
  Calls Tryd.prog 78 #[.int .i64 a0] w fun e w' => e = .returned (.string r) ∧ Below w.heap.size w w' := by
 induction k using Nat.strongRecOn with
 | _ k ih =>
 intro a0 r w h
 cases k with
 | zero => exact absurd h (by simp [turnpikeref2_Decimal.f])
 | succ k =>
 simp only [turnpikeref2_Decimal.f] at h
 have HB := Aside0.mk (Below.refl w.heap.size w)
 have H : (if a0 < 0 then ((turnpikeref2_Decimal.f k (wrap64 (-a0))).bind fun t745 => (if 1 + t745.size ≤ 9223372036854775807 then (some ((⟨#[45]⟩ : ByteArray) ++ t745)) else (none))) else (turnpikeref2_Decimal.l0 k a0 (⟨#[]⟩ : ByteArray))) = some r := h
 clear h
 by_cases c2 : a0 < 0
 ·rw [if_pos c2] at H
  have c2b0 : decide (a0 < 0) = true := decide_eq_true c2
  clear c2
  replace H := Option.bind_eq_some_iff.mp H
  obtain ⟨t745, A30, H⟩ := H
  replace H : (if 1 + t745.size ≤ 9223372036854775807 then (some ((⟨#[45]⟩ : ByteArray) ++ t745)) else (none)) = some r := H
  have A3 := Aside0.mk A30
  clear A30
  by_cases c4 : 1 + t745.size ≤ 9223372036854775807
  ·rw [if_pos c4] at H
   have c4b0 := eq_true c4
   have c4b1 : decide (1 + t745.size ≤ 9223372036854775807) = true := decide_eq_true c4
   try have c4b2 : (9223372036854775807 < 1 + t745.size) = False := eq_false (Nat.not_lt.2 c4)
   obtain rfl := Option.some.inj H
   go_enter Tryd.func78, Tryd.ntmps78
   go_wp2_with (first | ((with_reducible refine gate_callee (f := 78) rfl ?_); refine goesL_ (some 8) rfl rfl Tryd.func78 (by kernel_rfl) rfl #[.int .i64 (wrap64 (-a0))] rfl xM ?_; (with_reducible refine (ih k (by omega) (wrap64 (-a0)) t745 _ A3.out).mono ?_); rintro e w5 ⟨rfl, hb⟩; refine ⟨_, rfl, ?_⟩; have n0_ := Aside0.mk (below_step xB hb); clear HB; have HB := n0_; clear n0_; (try clear hb); (try clear hb2); (try clear hk); (try clear hi)))
   go_ret
   exact ⟨xE, xB⟩
  ·rw [if_neg c4] at H
   exact absurd H (by simp)
 ·rw [if_neg c2] at H
  have c2b0 : decide (a0 < 0) = false := decide_eq_false c2
  clear c2
  have H' := Aside0.mk H
  clear H
  go_enter Tryd.func78, Tryd.ntmps78
  go_wp2
  go_loopg [0, 3] k (fun kq v0 v3 w' => ∃ (x0_1 : Int) (x3_1 : ByteArray), v0 = .int .i64 x0_1 ∧ v3 = .string x3_1 ∧ Aside0 (turnpikeref2_Decimal.l0 kq x0_1 x3_1 = some r) ∧ Aside0 (kq ≤ k) ∧ Aside0 (Below w.heap.size w w'))
  case atStart => exact ⟨(a0), ((⟨#[]⟩ : ByteArray)), xV, xV, H', ⟨Nat.le_refl _⟩, ⟨xB⟩⟩
  case round =>
   clear H'
   try clear c2
   try clear c2b0
   try clear p2
   try clear c4
   try clear c4b0
   try clear c4b1
   try clear c4b2
   obtain ⟨x0_1, x3_1, rfl, rfl, HA, HK1, HB⟩ := hrel
   cases gk with
   | zero => exact absurd HA.out (by simp [turnpikeref2_Decimal.l0])
   | succ k1 =>
    have H := HA.out
    clear HA
    simp only [turnpikeref2_Decimal.l0] at H
    by_cases c6 : x0_1 > 0
    ·rw [if_pos c6] at H
     have c6b0 : decide (0 < x0_1) = true := decide_eq_true c6
     clear c6
     obtain ⟨y746, hy746⟩ : ∃ y_ : List Int, y_ = (([(wrap64 (48 + (Int.tmod x0_1 10))) % 256] : List Int)) := ⟨_, rfl⟩
     replace H : (if (strOfNums y746).size + x3_1.size ≤ 9223372036854775807 then (turnpikeref2_Decimal.l0 k1 (wrap64 (Int.tdiv x0_1 10)) ((strOfNums y746) ++ x3_1)) else (none)) = some r := by first | (rw [hy746]; with_reducible exact H) | (have H2_ := (Option.bind_some _ _).symm.trans H; rw [hy746]; with_reducible exact H2_) | (have H2_ := (Option.bind_some _ _).symm.trans H; with_reducible exact H2_) | with_reducible exact H | (rw [hy746]; exact H) | exact H
     have Ny746 := Aside0.mk hy746
     clear hy746
     by_cases c7 : (strOfNums y746).size + x3_1.size ≤ 9223372036854775807
     ·rw [if_pos c7] at H
      have c7b0 := eq_true c7
      have c7b1 : decide ((strOfNums y746).size + x3_1.size ≤ 9223372036854775807) = true := decide_eq_true c7
      try have c7b2 : (9223372036854775807 < (strOfNums y746).size + x3_1.size) = False := eq_false (Nat.not_lt.2 c7)
      have H' := Aside0.mk H
      clear H
      go_wp2_with (first | ((with_reducible refine gate_dst (N := 20) rfl ?_); refine Kd.R_lit (Kd.int .u8) _ 5 ?hg (N := 20) ?hd (xs := ([(wrap64 (48 + (Int.tmod x0_1 10))) % 256] : List Int)) (inner := [.int .u8 ((wrap64 (48 + (Int.tmod x0_1 10))) % 256)]) (ok := fun _ => True) (okp := fun _ => True) ?hr ?hp (fun _ hk => hk) trivial (Below.refl _ _) (Nat.le_refl _) (by simp) ?_; (case hd => rfl); (case hg => rfl); (case hr => first | (go_simp; done) | (go_simp; rfl)); (case hp => exact (Reps.one (show Kd.M (Kd.int .u8) _ _ _ ((wrap64 (48 + (Int.tmod x0_1 10))) % 256) [.int .u8 ((wrap64 (48 + (Int.tmod x0_1 10))) % 256)] from rfl) (Reps.none _ _))); intro v747 w8 ho9 hb hg_ hnew_; clear hg_ hnew_; (first | rw [← Ny746.out] at ho9 | (simp only [Int.reduceToNat] at ho9; rw [← Ny746.out] at ho9)); have n0_ := Aside0.mk (Kd.R_lower ho9 (below_size xB)); have n1_ := Aside0.mk (below_step xB hb); clear HB; have HO748 := n0_; have HB := n1_; clear n0_ n1_; clear hb ho9; have hcv10 := own_string (P := Tryd.prog) Tryd.underlying98 Tryd.underlying5 Tryd.underlying9 (Kd.own_of_R HO748.out)))
      go_roundg k1
      case measure => have := HK1.out; omega
      case rel => exact ⟨(wrap64 (Int.tdiv x0_1 10)), ((strOfNums y746) ++ x3_1), xV, xV, H', ⟨by have := HK1.out; omega⟩, ⟨xB⟩⟩
     ·rw [if_neg c7] at H
      exact absurd H (by simp)
    ·rw [if_neg c6] at H
     have c6b0 : decide (0 < x0_1) = false := decide_eq_false c6
     clear c6
     by_cases c11 : x3_1.toList = ([] : List UInt8)
     ·rw [if_pos c11] at H
      have c11b0 : (x3_1.toList == ([] : List UInt8)) = true := beq_iff_eq.mpr c11
      have c11b1 : (x3_1.toList != ([] : List UInt8)) = false := bne_eq_false_iff_eq.mpr c11
      clear c11
      obtain ⟨y749, hy749⟩ : ∃ y_ : List Int, y_ = (([(wrap64 (48 + (Int.tmod x0_1 10))) % 256] : List Int)) := ⟨_, rfl⟩
      replace H : (if (strOfNums y749).size + x3_1.size ≤ 9223372036854775807 then (turnpikeref2_Decimal.l0 k1 (wrap64 (Int.tdiv x0_1 10)) ((strOfNums y749) ++ x3_1)) else (none)) = some r := by first | (rw [hy749]; with_reducible exact H) | (have H2_ := (Option.bind_some _ _).symm.trans H; rw [hy749]; with_reducible exact H2_) | (have H2_ := (Option.bind_some _ _).symm.trans H; with_reducible exact H2_) | with_reducible exact H | (rw [hy749]; exact H) | exact H
      have Ny749 := Aside0.mk hy749
      clear hy749
      by_cases c12 : (strOfNums y749).size + x3_1.size ≤ 9223372036854775807
      ·rw [if_pos c12] at H
       have c12b0 := eq_true c12
       have c12b1 : decide ((strOfNums y749).size + x3_1.size ≤ 9223372036854775807) = true := decide_eq_true c12
       try have c12b2 : (9223372036854775807 < (strOfNums y749).size + x3_1.size) = False := eq_false (Nat.not_lt.2 c12)
       have H' := Aside0.mk H
       clear H
       go_wp2_with (first | ((with_reducible refine gate_dst (N := 20) rfl ?_); refine Kd.R_lit (Kd.int .u8) _ 5 ?hg (N := 20) ?hd (xs := ([(wrap64 (48 + (Int.tmod x0_1 10))) % 256] : List Int)) (inner := [.int .u8 ((wrap64 (48 + (Int.tmod x0_1 10))) % 256)]) (ok := fun _ => True) (okp := fun _ => True) ?hr ?hp (fun _ hk => hk) trivial (Below.refl _ _) (Nat.le_refl _) (by simp) ?_; (case hd => rfl); (case hg => rfl); (case hr => first | (go_simp; done) | (go_simp; rfl)); (case hp => exact (Reps.one (show Kd.M (Kd.int .u8) _ _ _ ((wrap64 (48 + (Int.tmod x0_1 10))) % 256) [.int .u8 ((wrap64 (48 + (Int.tmod x0_1 10))) % 256)] from rfl) (Reps.none _ _))); intro v750 w13 ho14 hb hg_ hnew_; clear hg_ hnew_; (first | rw [← Ny749.out] at ho14 | (simp only [Int.reduceToNat] at ho14; rw [← Ny749.out] at ho14)); have n0_ := Aside0.mk (Kd.R_lower ho14 (below_size xB)); have n1_ := Aside0.mk (below_step xB hb); clear HB; have HO751 := n0_; have HB := n1_; clear n0_ n1_; clear hb ho14; have hcv15 := own_string (P := Tryd.prog) Tryd.underlying98 Tryd.underlying5 Tryd.underlying9 (Kd.own_of_R HO751.out)))
       go_roundg k1
       case measure => have := HK1.out; omega
       case rel => exact ⟨(wrap64 (Int.tdiv x0_1 10)), ((strOfNums y749) ++ x3_1), xV, xV, H', ⟨by have := HK1.out; omega⟩, ⟨xB⟩⟩
      ·rw [if_neg c12] at H
       exact absurd H (by simp)
     ·rw [if_neg c11] at H
      have c11b0 : (x3_1.toList == ([] : List UInt8)) = false := beq_eq_false_iff_ne.mpr c11
      have c11b1 : (x3_1.toList != ([] : List UInt8)) = true := bne_iff_ne.mpr c11
      obtain rfl := Option.some.inj H
      go_wp2
      go_ret
      exact ⟨xE, xB⟩
def turnpikeref1_fits.f (a0 : Int) (a1 : Int) : Option (Bool) := if a0 ≥ 0 then (if a0 ≤ 128 then (if a1 ≥ 0 then (some (decide (a1 ≤ (wrap64 (128 - a0))))) else (some false)) else (some false)) else (some false)
set_option maxHeartbeats 8000000 in
set_option maxRecDepth 100000 in
theorem turnpikeref1_fits.calls (a0 : Int) (a1 : Int) (r : Bool) (w : World) (h : turnpikeref1_fits.f a0 a1 = some r) :
  Calls Tryd.prog 109 #[.int .i64 a0, .int .i64 a1] w fun e w' => e = .returned (.bool r) ∧ Drawn0 w w' := by
 have H : (if a0 ≥ 0 then (if a0 ≤ 128 then (if a1 ≥ 0 then (some (decide (a1 ≤ (wrap64 (128 - a0))))) else (some false)) else (some false)) else (some false)) = some r := h
 clear h
 by_cases c3 : a0 ≥ 0
 ·rw [if_pos c3] at H
  have c3b0 : decide (0 ≤ a0) = true := decide_eq_true c3
  clear c3
  by_cases c4 : a0 ≤ 128
  ·rw [if_pos c4] at H
   have c4b0 : decide (a0 ≤ 128) = true := decide_eq_true c4
   clear c4
   by_cases c5 : a1 ≥ 0
   ·rw [if_pos c5] at H
    have c5b0 : decide (0 ≤ a1) = true := decide_eq_true c5
    clear c5
    obtain rfl := Option.some.inj H
    go_enter Tryd.func109, Tryd.ntmps109
    go_wp2
    go_ret
    exact ⟨by first | rfl | (simp; done) | (simp [*]; done), xD⟩
   ·rw [if_neg c5] at H
    have c5b0 : decide (0 ≤ a1) = false := decide_eq_false c5
    clear c5
    obtain rfl := Option.some.inj H
    go_enter Tryd.func109, Tryd.ntmps109
    go_wp2
    go_ret
    exact ⟨by first | rfl | (simp; done) | (simp [*]; done), xD⟩
  ·rw [if_neg c4] at H
   have c4b0 : decide (a0 ≤ 128) = false := decide_eq_false c4
   clear c4
   obtain rfl := Option.some.inj H
   go_enter Tryd.func109, Tryd.ntmps109
   go_wp2
   go_ret
   exact ⟨by first | rfl | (simp; done) | (simp [*]; done), xD⟩
 ·rw [if_neg c3] at H
  have c3b0 : decide (0 ≤ a0) = false := decide_eq_false c3
  clear c3
  obtain rfl := Option.some.inj H
  go_enter Tryd.func109, Tryd.ntmps109
  go_wp2
  go_ret
  exact ⟨by first | rfl | (simp; done) | (simp [*]; done), xD⟩
def turnpikeref1_Shr.f (a0_0 : Int) (a0_1 : Int) (a1 : Int) : Option (Int × Int) := if a1 ≤ 0 then (some (a0_0, a0_1)) else (if a1 > 127 then (some (0, 0)) else (if a1 ≥ 64 then (if 0 ≤ (wrap64 (a1 - 64)) then (some (0, shr .u64 a0_0 (wrap64 (a1 - 64)))) else (none)) else (if 0 ≤ a1 then (if 0 ≤ (wrap64 (64 - a1)) then (some (shr .u64 a0_0 a1, Go.bits .or .u64 (shr .u64 a0_1 a1) (shl .u64 a0_0 (wrap64 (64 - a1))))) else (none)) else (none))))
def turnpikeref1_Shr.T7 : Bool × List (List Nat × List Nat) := (true, [([], []), ([0], [0]), ([], []), ([1, 2], [1, 2]), ([], []), ([4], [4]), ([], []), ([5, 6], [5, 6]), ([], []), ([8], [8]), ([], []), ([10], [10]), ([9, 11], [9, 11]), ([7, 12], [7, 12]), ([3, 13], [3, 13]), ([14, 0, 1, 2, 3, 4, 5, 6, 7, 8, 9, 10, 11, 12, 13, 14], [14])])
def turnpikeref1_Shr.B7 : List Nat := [0, 1, 0, 7, 0, 16, 0, 112, 0, 256, 0, 1024, 3840, 8176, 16383, 32767]
theorem turnpikeref1_Shr.tab7 : rtab .any (opsOf Tryd.f110 7) = turnpikeref1_Shr.T7 := by kernel_rfl
theorem turnpikeref1_Shr.bits7 : waitsOk turnpikeref1_Shr.T7.2 turnpikeref1_Shr.B7 = true := by kernel_rfl
set_option maxHeartbeats 8000000 in
set_option maxRecDepth 100000 in
theorem turnpikeref1_Shr.calls (a0_0 : Int) (a0_1 : Int) (a1 : Int) (r1 : Int) (r2 : Int) (w : World) (h : turnpikeref1_Shr.f a0_0 a0_1 a1 = some (r1, r2)) :
  Calls Tryd.prog 110 #[.agg #[.int .u64 a0_0, .int .u64 a0_1], .int .i64 a1] w fun e w' => e = .returned (.agg #[.int .u64 r1, .int .u64 r2]) ∧ Below w.heap.size w w' := by
 have hu24 := Tryd.underlying24
 have HB := Aside0.mk (Below.refl w.heap.size w)
 have H : (if a1 ≤ 0 then (some (a0_0, a0_1)) else (if a1 > 127 then (some (0, 0)) else (if a1 ≥ 64 then (if 0 ≤ (wrap64 (a1 - 64)) then (some (0, shr .u64 a0_0 (wrap64 (a1 - 64)))) else (none)) else (if 0 ≤ a1 then (if 0 ≤ (wrap64 (64 - a1)) then (some (shr .u64 a0_0 a1, Go.bits .or .u64 (shr .u64 a0_1 a1) (shl .u64 a0_0 (wrap64 (64 - a1))))) else (none)) else (none))))) = some (r1, r2) := h
 clear h
 by_cases c3 : a1 ≤ 0
 ·rw [if_pos c3] at H
  have c3b0 : decide (a1 ≤ 0) = true := decide_eq_true c3
  clear c3
  simp only [Option.some.injEq, Prod.mk.injEq] at H
  obtain ⟨rfl, rfl⟩ := H
  go_enter Tryd.func110, Tryd.ntmps110
  go_wp2_with (first | ((with_reducible refine gate_dst (N := 2) rfl ?_); refine box_event ?hg (N := 2) ?hd (cs := #[.int .u64 a0_0, .int .u64 a0_1]) (t := 24) ?hr ?_; (case hd => rfl); (case hg => rfl); (case hr => first | (go_simp; done) | (go_simp; rfl)); intro gb752 hg w4 hbox hb; have n0_ := Aside0.mk (below_step xB hb); have n1_ := Aside0.mk (hbox); have n2_ := xS w hg; have n3_ := xS w hg; clear HB; have HB := n0_; have BK752 := n1_; have GW752 := n2_; have GE752 := n3_; clear n0_ n1_ n2_ n3_; clear hb hbox hg) | ((with_reducible refine gate_dst (N := 4) rfl ?_); refine box_event ?hg (N := 4) ?hd (cs := #[.int .u64 0, .int .u64 0]) (t := 24) ?hr ?_; (case hd => rfl); (case hg => rfl); (case hr => first | (go_simp; done) | (go_simp; rfl)); intro gb753 hg w5 hbox hb; have n0_ := xP BK752.out hb; have n1_ := Aside0.mk (below_step xG hb); have n2_ := Aside0.mk (hbox); have n3_ := xT w hg; have n4_ := xT w hg; have n5_ := Aside0.mk ((xNl BK752.out hg : gb752 ≠ gb753)); have n6_ := Aside0.mk ((xNr BK752.out hg : gb753 ≠ gb752)); clear BK752; clear HB; have BK752 := n0_; have HB := n1_; have BK753 := n2_; have GW753 := n3_; have GE753 := n4_; have NB752_753 := n5_; have NB753_752 := n6_; clear n0_ n1_ n2_ n3_ n4_ n5_ n6_; clear hb hbox hg; have hnb6 := NB752_753.out; have hnc6 := NB753_752.out; have hcz7_0 : w5.cell? ⟨gb752, 0, none⟩ = some (.int .u64 a0_0) := (blk_cell BK752.out 0).trans rfl; have hcz7_1 : w5.cell? ⟨gb752, 1, none⟩ = some (.int .u64 a0_1) := (blk_cell BK752.out 1).trans rfl; have hfz7_0 := blk_frozen BK752.out 0; have hfz7_1 := blk_frozen BK752.out 1; have hcz8_0 : w5.cell? ⟨gb753, 0, none⟩ = some (.int .u64 0) := (blk_cell BK753.out 0).trans rfl; have hcz8_1 : w5.cell? ⟨gb753, 1, none⟩ = some (.int .u64 0) := (blk_cell BK753.out 1).trans rfl; have hfz8_0 := blk_frozen BK753.out 0; have hfz8_1 := blk_frozen BK753.out 1))
  refine bodyPost_ret (results_cell_row rfl _ _ gb753 24 #[.int .u64 a0_0, .int .u64 a0_1] (0, 0) _ rfl (by (with_reducible repeat (first | refine blk_drewN ?_ _ | refine blk_drew ?_ | refine blk_alloc ?_ _)); refine blk_put (cs := #[.int .u64 a0_0, .int .u64 0]) ?_ 1 _ rfl; (with_reducible repeat (first | refine blk_drewN ?_ _ | refine blk_drew ?_ | refine blk_alloc ?_ _)); refine blk_put (cs := #[.int .u64 0, .int .u64 0]) ?_ 0 _ rfl; (with_reducible repeat (first | refine blk_drewN ?_ _ | refine blk_drew ?_ | refine blk_alloc ?_ _)); exact BK753.out) Tryd.underlying24 rfl (by kernel_rfl)) rfl ?_
  exact ⟨xE, xG⟩
 ·rw [if_neg c3] at H
  have c3b0 : decide (a1 ≤ 0) = false := decide_eq_false c3
  clear c3
  by_cases c9 : a1 > 127
  ·rw [if_pos c9] at H
   have c9b0 : decide (127 < a1) = true := decide_eq_true c9
   clear c9
   simp only [Option.some.injEq, Prod.mk.injEq] at H
   obtain ⟨rfl, rfl⟩ := H
   go_enter Tryd.func110, Tryd.ntmps110
   go_wp2_with (first | ((with_reducible refine gate_dst (N := 2) rfl ?_); refine box_event ?hg (N := 2) ?hd (cs := #[.int .u64 a0_0, .int .u64 a0_1]) (t := 24) ?hr ?_; (case hd => rfl); (case hg => rfl); (case hr => first | (go_simp; done) | (go_simp; rfl)); intro gb752 hg w10 hbox hb; have n0_ := Aside0.mk (below_step xB hb); have n1_ := Aside0.mk (hbox); have n2_ := xS w hg; have n3_ := xS w hg; clear HB; have HB := n0_; have BK752 := n1_; have GW752 := n2_; have GE752 := n3_; clear n0_ n1_ n2_ n3_; clear hb hbox hg) | ((with_reducible refine gate_dst (N := 4) rfl ?_); refine box_event ?hg (N := 4) ?hd (cs := #[.int .u64 0, .int .u64 0]) (t := 24) ?hr ?_; (case hd => rfl); (case hg => rfl); (case hr => first | (go_simp; done) | (go_simp; rfl)); intro gb753 hg w11 hbox hb; have n0_ := xP BK752.out hb; have n1_ := Aside0.mk (below_step xG hb); have n2_ := Aside0.mk (hbox); have n3_ := xT w hg; have n4_ := xT w hg; have n5_ := Aside0.mk ((xNl BK752.out hg : gb752 ≠ gb753)); have n6_ := Aside0.mk ((xNr BK752.out hg : gb753 ≠ gb752)); clear BK752; clear HB; have BK752 := n0_; have HB := n1_; have BK753 := n2_; have GW753 := n3_; have GE753 := n4_; have NB752_753 := n5_; have NB753_752 := n6_; clear n0_ n1_ n2_ n3_ n4_ n5_ n6_; clear hb hbox hg; have hnb12 := NB753_752.out; have hnc12 := NB752_753.out; have hcz13_0 : w11.cell? ⟨gb753, 0, none⟩ = some (.int .u64 0) := (blk_cell BK753.out 0).trans rfl; have hcz13_1 : w11.cell? ⟨gb753, 1, none⟩ = some (.int .u64 0) := (blk_cell BK753.out 1).trans rfl; have hfz13_0 := blk_frozen BK753.out 0; have hfz13_1 := blk_frozen BK753.out 1))
   refine bodyPost_ret (results_cell_row rfl _ _ gb753 24 #[.int .u64 0, .int .u64 0] (0, 0) _ rfl (by (with_reducible repeat (first | refine blk_drewN ?_ _ | refine blk_drew ?_ | refine blk_alloc ?_ _)); refine blk_put (cs := #[.int .u64 0, .int .u64 0]) ?_ 1 _ rfl; (with_reducible repeat (first | refine blk_drewN ?_ _ | refine blk_drew ?_ | refine blk_alloc ?_ _)); refine blk_put (cs := #[.int .u64 0, .int .u64 0]) ?_ 0 _ rfl; (with_reducible repeat (first | refine blk_drewN ?_ _ | refine blk_drew ?_ | refine blk_alloc ?_ _)); exact BK753.out) Tryd.underlying24 rfl (by kernel_rfl)) rfl ?_
   exact ⟨xE, xG⟩
  ·rw [if_neg c9] at H
   have c9b0 : decide (127 < a1) = false := decide_eq_false c9
   clear c9
   by_cases c14 : a1 ≥ 64
   ·rw [if_pos c14] at H
    have c14b0 : decide (64 ≤ a1) = true := decide_eq_true c14
    clear c14
    obtain ⟨ji15, hji15⟩ : ∃ j_ : Int, (wrap64 (a1 - 64)) = j_ := ⟨_, rfl⟩
    replace H : (if 0 ≤ (ji15) then (some (0, shr .u64 a0_0 (ji15))) else (none)) = some (r1, r2) := by first | (rw [hji15] at H; exact H) | (simp only [hji15] at H ⊢; exact H)
    have hji15w : (IntKind.i64.wrap (a1 - 64)) = ji15 := (i64_w _).trans hji15
    by_cases c16 : 0 ≤ (ji15)
    ·rw [if_pos c16] at H
     have c16b0 := eq_true c16
     have c16b1 : decide (0 ≤ (ji15)) = true := decide_eq_true c16
     clear c16
     obtain ⟨ji17, hji17⟩ : ∃ j_ : Int, (shr .u64 a0_0 (ji15)) = j_ := ⟨_, rfl⟩
     replace H : (some (0, ji17)) = some (r1, r2) := by first | (rw [hji17] at H; exact H) | (simp only [hji17] at H ⊢; exact H)
     have hji17_ : (a0_0 / 2 ^ min (ji15).toNat 64) = ji17 := hji17
     have hji17z : (ji15) ≤ 64 → (a0_0 / 2 ^ (ji15).toNat) = ji17 := shr_small hji17
     simp only [Option.some.injEq, Prod.mk.injEq] at H
     obtain ⟨rfl, rfl⟩ := H
     go_enter Tryd.func110, Tryd.ntmps110
     go_wp2_with (first | ((with_reducible refine gate_dst (N := 2) rfl ?_); refine box_event ?hg (N := 2) ?hd (cs := #[.int .u64 a0_0, .int .u64 a0_1]) (t := 24) ?hr ?_; (case hd => rfl); (case hg => rfl); (case hr => first | (go_simp; done) | (go_simp; rfl)); intro gb752 hg w18 hbox hb; have n0_ := Aside0.mk (below_step xB hb); have n1_ := Aside0.mk (hbox); have n2_ := xS w hg; have n3_ := xS w hg; clear HB; have HB := n0_; have BK752 := n1_; have GW752 := n2_; have GE752 := n3_; clear n0_ n1_ n2_ n3_; clear hb hbox hg) | ((with_reducible refine gate_dst (N := 4) rfl ?_); refine box_event ?hg (N := 4) ?hd (cs := #[.int .u64 0, .int .u64 0]) (t := 24) ?hr ?_; (case hd => rfl); (case hg => rfl); (case hr => first | (go_simp; done) | (go_simp; rfl)); intro gb753 hg w19 hbox hb; have n0_ := xP BK752.out hb; have n1_ := Aside0.mk (below_step xG hb); have n2_ := Aside0.mk (hbox); have n3_ := xT w hg; have n4_ := xT w hg; have n5_ := Aside0.mk ((xNl BK752.out hg : gb752 ≠ gb753)); have n6_ := Aside0.mk ((xNr BK752.out hg : gb753 ≠ gb752)); clear BK752; clear HB; have BK752 := n0_; have HB := n1_; have BK753 := n2_; have GW753 := n3_; have GE753 := n4_; have NB752_753 := n5_; have NB753_752 := n6_; clear n0_ n1_ n2_ n3_ n4_ n5_ n6_; clear hb hbox hg; have hnb20 := NB752_753.out; have hnc20 := NB753_752.out; have hcz21_0 : w19.cell? ⟨gb752, 0, none⟩ = some (.int .u64 a0_0) := (blk_cell BK752.out 0).trans rfl; have hcz21_1 : w19.cell? ⟨gb752, 1, none⟩ = some (.int .u64 a0_1) := (blk_cell BK752.out 1).trans rfl; have hfz21_0 := blk_frozen BK752.out 0; have hfz21_1 := blk_frozen BK752.out 1; have hcz22_0 : w19.cell? ⟨gb753, 0, none⟩ = some (.int .u64 0) := (blk_cell BK753.out 0).trans rfl; have hcz22_1 : w19.cell? ⟨gb753, 1, none⟩ = some (.int .u64 0) := (blk_cell BK753.out 1).trans rfl; have hfz22_0 := blk_frozen BK753.out 0; have hfz22_1 := blk_frozen BK753.out 1))
     refine bodyPost_ret (results_cell_row rfl _ _ gb753 24 #[.int .u64 0, .int .u64 ji17] (0, 0) _ rfl (by (with_reducible repeat (first | refine blk_drewN ?_ _ | refine blk_drew ?_ | refine blk_alloc ?_ _)); refine blk_put (cs := #[.int .u64 0, .int .u64 0]) ?_ 1 _ rfl; (with_reducible repeat (first | refine blk_drewN ?_ _ | refine blk_drew ?_ | refine blk_alloc ?_ _)); refine blk_put (cs := #[.int .u64 0, .int .u64 0]) ?_ 0 _ rfl; (with_reducible repeat (first | refine blk_drewN ?_ _ | refine blk_drew ?_ | refine blk_alloc ?_ _)); exact BK753.out) Tryd.underlying24 rfl (by kernel_rfl)) rfl ?_
     exact ⟨by first | rfl | (simp [errW_none, errW_some] <;> rfl) | (simp only [← hji15, ← hji17]; first | rfl | (simp [errW_none, errW_some] <;> rfl)) | (simp [*, errW_none, errW_some] <;> rfl), xG⟩
    ·rw [if_neg c16] at H
     exact absurd H (by simp)
   ·rw [if_neg c14] at H
    have c14b0 : decide (64 ≤ a1) = false := decide_eq_false c14
    clear c14
    by_cases c23 : 0 ≤ a1
    ·rw [if_pos c23] at H
     have c23b0 := eq_true c23
     have c23b1 : decide (0 ≤ a1) = true := decide_eq_true c23
     clear c23
     obtain ⟨ji24, hji24⟩ : ∃ j_ : Int, (shr .u64 a0_0 a1) = j_ := ⟨_, rfl⟩
     replace H : (if 0 ≤ (wrap64 (64 - a1)) then (some (ji24, Go.bits .or .u64 (shr .u64 a0_1 a1) (shl .u64 a0_0 (wrap64 (64 - a1))))) else (none)) = some (r1, r2) := by first | (rw [hji24] at H; exact H) | (simp only [hji24] at H ⊢; exact H)
     have hji24_ : (a0_0 / 2 ^ min a1.toNat 64) = ji24 := hji24
     have hji24z : a1 ≤ 64 → (a0_0 / 2 ^ a1.toNat) = ji24 := shr_small hji24
     have c25b0 := eq_true (of_decide_eq_true xA : 0 ≤ a1)
     obtain ⟨ji26, hji26⟩ : ∃ j_ : Int, (shr .u64 a0_1 a1) = j_ := ⟨_, rfl⟩
     replace H : (if 0 ≤ (wrap64 (64 - a1)) then (some (ji24, Go.bits .or .u64 (ji26) (shl .u64 a0_0 (wrap64 (64 - a1))))) else (none)) = some (r1, r2) := by first | (rw [hji26] at H; exact H) | (simp only [hji26] at H ⊢; exact H)
     have hji26_ : (a0_1 / 2 ^ min a1.toNat 64) = ji26 := hji26
     have hji26z : a1 ≤ 64 → (a0_1 / 2 ^ a1.toNat) = ji26 := shr_small hji26
     obtain ⟨ji27, hji27⟩ : ∃ j_ : Int, (wrap64 (64 - a1)) = j_ := ⟨_, rfl⟩
     replace H : (if 0 ≤ (ji27) then (some (ji24, Go.bits .or .u64 (ji26) (shl .u64 a0_0 (ji27)))) else (none)) = some (r1, r2) := by first | (rw [hji27] at H; exact H) | (simp only [hji27] at H ⊢; exact H)
     have hji27w : (IntKind.i64.wrap (64 - a1)) = ji27 := (i64_w _).trans hji27
     by_cases c28 : 0 ≤ (ji27)
     ·rw [if_pos c28] at H
      have c28b0 := eq_true c28
      have c28b1 : decide (0 ≤ (ji27)) = true := decide_eq_true c28
      clear c28
      obtain ⟨ji29, hji29⟩ : ∃ j_ : Int, (shl .u64 a0_0 (ji27)) = j_ := ⟨_, rfl⟩
      replace H : (some (ji24, Go.bits .or .u64 (ji26) (ji29))) = some (r1, r2) := by first | (rw [hji29] at H; exact H) | (simp only [hji29] at H ⊢; exact H)
      have hji29_ : (IntKind.u64.wrap (a0_0 * 2 ^ min (ji27).toNat 64)) = ji29 := hji29
      have hji29z : (ji27) ≤ 64 → (IntKind.u64.wrap (a0_0 * 2 ^ (ji27).toNat)) = ji29 := shl_small hji29
      simp only [Option.some.injEq, Prod.mk.injEq] at H
      obtain ⟨rfl, rfl⟩ := H
      go_enter Tryd.func110, Tryd.ntmps110
      try go_wp2_with (first | ((with_reducible refine gate_dst (N := 2) rfl ?_); refine box_event ?hg (N := 2) ?hd (cs := #[.int .u64 a0_0, .int .u64 a0_1]) (t := 24) ?hr ?_; (case hd => rfl); (case hg => rfl); (case hr => first | (go_simp; done) | (go_simp; rfl)); intro gb752 hg w30 hbox hb; have n0_ := Aside0.mk (below_step xB hb); have n1_ := Aside0.mk (hbox); have n2_ := xS w hg; have n3_ := xS w hg; clear HB; have HB := n0_; have BK752 := n1_; have GW752 := n2_; have GE752 := n3_; clear n0_ n1_ n2_ n3_; clear hb hbox hg) | ((with_reducible refine gate_dst (N := 4) rfl ?_); refine box_event ?hg (N := 4) ?hd (cs := #[.int .u64 0, .int .u64 0]) (t := 24) ?hr ?_; (case hd => rfl); (case hg => rfl); (case hr => first | (go_simp; done) | (go_simp; rfl)); intro gb753 hg w31 hbox hb; have n0_ := xP BK752.out hb; have n1_ := Aside0.mk (below_step xG hb); have n2_ := Aside0.mk (hbox); have n3_ := xT w hg; have n4_ := xT w hg; have n5_ := Aside0.mk ((xNl BK752.out hg : gb752 ≠ gb753)); have n6_ := Aside0.mk ((xNr BK752.out hg : gb753 ≠ gb752)); clear BK752; clear HB; have BK752 := n0_; have HB := n1_; have BK753 := n2_; have GW753 := n3_; have GE753 := n4_; have NB752_753 := n5_; have NB753_752 := n6_; clear n0_ n1_ n2_ n3_ n4_ n5_ n6_; clear hb hbox hg))
      have n0_ := Aside0.mk (blk_drew BK752.out)
      have n1_ := Aside0.mk (blk_drew BK753.out)
      have n2_ := Aside0.mk (below_drew1 HB.out)
      clear BK752
      clear BK753
      clear HB
      have BK752 := n0_
      have BK753 := n1_
      have HB := n2_
      clear n0_ n1_ n2_
      refine start_ (n := 16) (S := fun w' => w'.cell? ⟨gb752, 0, none⟩ = some (.int .u64 a0_0) ∧ w'.cell? ⟨gb752, 1, none⟩ = some (.int .u64 a0_1)) (ds := []) #[false, false, false, false, false, false, false, false, false, false, false, false, false, false, false, false] (by kernel_rfl) rfl rfl ⟨(blk_cell BK752.out 0).trans rfl, (blk_cell BK752.out 1).trans rfl⟩ (fun hHeld => ?_); refine with_tabW turnpikeref1_Shr.tab7 turnpikeref1_Shr.bits7 (fun HT_ HW_ => ?_)
      generalize w31.drew = w32 at BK752 BK753 HB hHeld ⊢
      refine pure_ (i := 0) (N := some 19) (v := ?_) (a' := ?_) #[true, false, false, false, false, false, false, false, false, false, false, false, false, false, false, false] rfl rfl (any_of HT_.out (by kernel_rfl)) (fun _ _ _ h => h) (Or.inl ⟨by rfl, ?_⟩) ?_ ?_
      rotate_left
      ·intro w'
       go_simp
       with_reducible rfl
      rotate_left
      ·simp only [Act.put, List.setIfInBounds_toArray, List.set_cons_zero, List.set_cons_succ, i64_w, i32_w]
       rfl
      refine pure_ (i := 2) (N := some 21) (v := ?_) (a' := ?_) #[true, false, true, false, false, false, false, false, false, false, false, false, false, false, false, false] rfl rfl (any_of HT_.out (by kernel_rfl)) (fun _ _ _ h => h) (Or.inl ⟨by rfl, ?_⟩) ?_ ?_
      rotate_left
      ·intro w'
       go_simp
       with_reducible rfl
      rotate_left
      ·simp only [Act.put, List.setIfInBounds_toArray, List.set_cons_zero, List.set_cons_succ, i64_w, i32_w]
       rfl
      refine pure_ (i := 4) (N := some 23) (v := ?_) (a' := ?_) #[true, false, true, false, true, false, false, false, false, false, false, false, false, false, false, false] rfl rfl (any_of HT_.out (by kernel_rfl)) (fun _ _ _ h => h) (Or.inl ⟨by rfl, ?_⟩) ?_ ?_
      rotate_left
      ·intro w'
       go_simp
       with_reducible rfl
      rotate_left
      ·simp only [Act.put, List.setIfInBounds_toArray, List.set_cons_zero, List.set_cons_succ, i64_w, i32_w]
       rfl
      refine pure_ (i := 6) (N := some 25) (v := ?_) (a' := ?_) #[true, false, true, false, true, false, true, false, false, false, false, false, false, false, false, false] rfl rfl (any_of HT_.out (by kernel_rfl)) (fun _ _ _ h => h) (Or.inl ⟨by rfl, ?_⟩) ?_ ?_
      rotate_left
      ·intro w'
       go_simp
       with_reducible rfl
      rotate_left
      ·simp only [Act.put, List.setIfInBounds_toArray, List.set_cons_zero, List.set_cons_succ, i64_w, i32_w]
       rfl
      refine pure_ (i := 8) (N := some 27) (v := ?_) (a' := ?_) #[true, false, true, false, true, false, true, false, true, false, false, false, false, false, false, false] rfl rfl (any_of HT_.out (by kernel_rfl)) (fun _ _ _ h => h) (Or.inl ⟨by rfl, ?_⟩) ?_ ?_
      rotate_left
      ·intro w'
       go_simp
       with_reducible rfl
      rotate_left
      ·simp only [Act.put, List.setIfInBounds_toArray, List.set_cons_zero, List.set_cons_succ, i64_w, i32_w]
       rfl
      refine pure_ (i := 10) (N := some 29) (v := ?_) (a' := ?_) #[true, false, true, false, true, false, true, false, true, false, true, false, false, false, false, false] rfl rfl (any_of HT_.out (by kernel_rfl)) (fun _ _ _ h => h) (Or.inl ⟨by rfl, ?_⟩) ?_ ?_
      rotate_left
      ·intro w'
       go_simp
       with_reducible rfl
      rotate_left
      ·simp only [Act.put, List.setIfInBounds_toArray, List.set_cons_zero, List.set_cons_succ, i64_w, i32_w]
       rfl
      refine pure_ (i := 11) (N := some 30) (v := ?_) (a' := ?_) #[true, false, true, false, true, false, true, false, true, false, true, true, false, false, false, false] rfl rfl (any_of HT_.out (by kernel_rfl)) (fun _ _ _ h => h) (Or.inl ⟨by rfl, ?_⟩) ?_ ?_
      rotate_left
      ·intro w'
       go_simp
       with_reducible rfl
      rotate_left
      ·simp only [Act.put, List.setIfInBounds_toArray, List.set_cons_zero, List.set_cons_succ, i64_w, i32_w]
       rfl
      refine take_ (i := 1) (N := some 20) (v := ?_) (a' := ?_) #[true, true, true, false, true, false, true, false, true, false, true, true, false, false, false, false] rfl rfl (take_ofW HT_.out HW_.out (by kernel_rfl)) (fun _ _ _ h => h) (Or.inl ⟨by rfl, ?_⟩) hHeld ?_ ?_
      rotate_left
      ·rintro w' ⟨s0, s1⟩
       go_simp
       with_reducible rfl
      rotate_left
      ·simp only [Act.put, List.setIfInBounds_toArray, List.set_cons_zero, List.set_cons_succ, i64_w, i32_w]
       rfl
      refine pure_ (i := 3) (N := some 22) (v := ?_) (a' := ?_) #[true, true, true, true, true, false, true, false, true, false, true, true, false, false, false, false] rfl rfl (any_of HT_.out (by kernel_rfl)) (fun _ _ _ h => h) (Or.inl ⟨by rfl, ?_⟩) ?_ ?_
      rotate_left
      ·intro w'
       go_simp
       with_reducible rfl
      rotate_left
      ·simp only [Act.put, List.setIfInBounds_toArray, List.set_cons_zero, List.set_cons_succ, i64_w, i32_w]
       rfl
      refine take_ (i := 5) (N := some 24) (v := ?_) (a' := ?_) #[true, true, true, true, true, true, true, false, true, false, true, true, false, false, false, false] rfl rfl (take_ofW HT_.out HW_.out (by kernel_rfl)) (fun _ _ _ h => h) (Or.inl ⟨by rfl, ?_⟩) hHeld ?_ ?_
      rotate_left
      ·rintro w' ⟨s0, s1⟩
       go_simp
       with_reducible rfl
      rotate_left
      ·simp only [Act.put, List.setIfInBounds_toArray, List.set_cons_zero, List.set_cons_succ, i64_w, i32_w]
       rfl
      refine pure_ (i := 7) (N := some 26) (v := ?_) (a' := ?_) #[true, true, true, true, true, true, true, true, true, false, true, true, false, false, false, false] rfl rfl (any_of HT_.out (by kernel_rfl)) (fun _ _ _ h => h) (Or.inl ⟨by rfl, ?_⟩) ?_ ?_
      rotate_left
      ·intro w'
       go_simp
       with_reducible rfl
      rotate_left
      ·simp only [Act.put, List.setIfInBounds_toArray, List.set_cons_zero, List.set_cons_succ, i64_w, i32_w]
       rfl
      refine take_ (i := 9) (N := some 28) (v := ?_) (a' := ?_) #[true, true, true, true, true, true, true, true, true, true, true, true, false, false, false, false] rfl rfl (take_ofW HT_.out HW_.out (by kernel_rfl)) (fun _ _ _ h => h) (Or.inl ⟨by rfl, ?_⟩) hHeld ?_ ?_
      rotate_left
      ·rintro w' ⟨s0, s1⟩
       go_simp
       with_reducible rfl
      rotate_left
      ·simp only [Act.put, List.setIfInBounds_toArray, List.set_cons_zero, List.set_cons_succ, i64_w, i32_w]
       rfl
      refine pure_ (i := 12) (N := some 31) (v := ?_) (a' := ?_) #[true, true, true, true, true, true, true, true, true, true, true, true, true, false, false, false] rfl rfl (any_of HT_.out (by kernel_rfl)) (fun _ _ _ h => h) (Or.inl ⟨by rfl, ?_⟩) ?_ ?_
      rotate_left
      ·intro w'
       go_simp
       with_reducible rfl
      rotate_left
      ·simp only [Act.put, List.setIfInBounds_toArray, List.set_cons_zero, List.set_cons_succ, i64_w, i32_w]
       rfl
      refine pure_ (i := 13) (N := some 32) (v := ?_) (a' := ?_) #[true, true, true, true, true, true, true, true, true, true, true, true, true, true, false, false] rfl rfl (any_of HT_.out (by kernel_rfl)) (fun _ _ _ h => h) (Or.inl ⟨by rfl, ?_⟩) ?_ ?_
      rotate_left
      ·intro w'
       go_simp
       with_reducible rfl
      rotate_left
      ·simp only [Act.put, List.setIfInBounds_toArray, List.set_cons_zero, List.set_cons_succ, i64_w, i32_w]
       rfl
      refine pure_ (i := 14) (N := some 33) (v := ?_) (a' := ?_) #[true, true, true, true, true, true, true, true, true, true, true, true, true, true, true, false] rfl rfl (any_of HT_.out (by kernel_rfl)) (fun _ _ _ h => h) (Or.inl ⟨by rfl, ?_⟩) ?_ ?_
      rotate_left
      ·intro w'
       go_simp
       with_reducible rfl
      rotate_left
      ·simp only [Act.put, List.setIfInBounds_toArray, List.set_cons_zero, List.set_cons_succ, i64_w, i32_w]
       rfl
      refine one_ (i := 15) (N := none) #[true, true, true, true, true, true, true, true, true, true, true, true, true, true, true, true] rfl rfl (one_of HT_.out (by kernel_rfl)) (by decide) (fun K hK => ?_)
      have hs33 : w32.cell? ⟨gb753, 0, none⟩ = some (.int .u64 0) := (blk_cell BK753.out 0).trans rfl
      have hfs33 := blk_frozen BK753.out 0
      have hns33_0 := NB752_753.out
      have hms33_0 := NB753_752.out
      have hs34 : w32.cell? ⟨gb753, 1, none⟩ = some (.int .u64 0) := (blk_cell BK753.out 1).trans rfl
      have hfs34 := blk_frozen BK753.out 1
      have hns34_0 := NB752_753.out
      have hms34_0 := NB753_752.out
      refine skip_ (w1 := ?_) (by rfl) rfl ?_ ?_
      rotate_left
      ·go_simp
       rfl
      refine hK.out _ _ ⟨((cell_far (p := ⟨gb753, _, none⟩) NB752_753.out _).trans (((cell_far (p := ⟨gb753, _, none⟩) NB752_753.out _).trans (hHeld.1)))), ((cell_far (p := ⟨gb753, _, none⟩) NB752_753.out _).trans (((cell_far (p := ⟨gb753, _, none⟩) NB752_753.out _).trans (hHeld.2))))⟩ (fun hHeld => ?_)
      clear hK K
      refine done_ (done_of HT_.out (by kernel_rfl)) ?_
      try go_wp2
      refine bodyPost_ret (results_cell_row rfl _ _ gb753 24 #[.int .u64 ji24, .int .u64 (Go.bits .or .u64 (ji26) (ji29))] (0, 0) _ rfl (by (with_reducible repeat (first | refine blk_drewN ?_ _ | refine blk_drew ?_ | refine blk_alloc ?_ _)); refine blk_put (cs := #[.int .u64 ji24, .int .u64 0]) ?_ 1 _ rfl; (with_reducible repeat (first | refine blk_drewN ?_ _ | refine blk_drew ?_ | refine blk_alloc ?_ _)); refine blk_put (cs := #[.int .u64 0, .int .u64 0]) ?_ 0 _ rfl; (with_reducible repeat (first | refine blk_drewN ?_ _ | refine blk_drew ?_ | refine blk_alloc ?_ _)); exact BK753.out) Tryd.underlying24 rfl (by kernel_rfl)) rfl ?_
      exact ⟨by first | rfl | (simp [errW_none, errW_some] <;> rfl) | (simp only [← hji24, ← hji26, ← hji27, ← hji29]; first | rfl | (simp [errW_none, errW_some] <;> rfl)) | (simp [*, errW_none, errW_some] <;> rfl), xG⟩
     ·rw [if_neg c28] at H
      exact absurd H (by simp)
    ·rw [if_neg c23] at H
     exact absurd H (by simp)
end Go.Proofs.YtdjhmapmhajkcaaDoor.X
