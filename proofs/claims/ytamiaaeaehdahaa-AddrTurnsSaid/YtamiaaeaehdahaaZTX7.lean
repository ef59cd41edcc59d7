-- Printed by a program of this session (xprint.py, over the kit's printer)
import Derived.Test.YtamiaaeaehdahaaX0
import Derived.Test.YtamiaaeaehdahaaZTX1
import Derived.Test.YtamiaaeaehdahaaZTX3
import Derived.Test.YtamiaaeaehdahaaZTX4
import Derived.Test.YtamiaaeaehdahaaZTX5
import Derived.Test.YtamiaaeaehdahaaZTX6
import Derived.Test.YtamiaaeaehdahaaSh
namespace Go.Proofs.Ytamiaaeaehdahaa.X
open Go.RowKit Go.Proofs.YtamiaaeaehdahaaW.PrintWords Go.Proofs.YtamiaaeaehdahaaW.PrintLast Go.Proofs.Ytamiaaeaehdahaa.Sm Go.Proofs.Ytamiaaeaehdahaa.Sh
set_option linter.unusedVariables false
set_option linter.unusedSimpArgs false
attribute [local go_sem high] eqA24
mutual
def turnpikeref2_Parse.j2 : Nat → List Int → Option (Int × Int × Int)
  | 0, _ => none
  | k + 1, x8 => turnpikeref2_Parse.l1 k x8 0 0 0
def turnpikeref2_Parse.l1 : Nat → List Int → Int → Int → Int → Option (Int × Int × Int)
  | 0, _, _, _, _ => none
  | k + 1, x8, x17, x222000, x222001 => if x17 < 8 then ((turnpikeref1_Shl.f x222000 x222001 16).bind fun bt222 => (if 0 ≤ x17 then (if x17 < (x8.length : Int) then (turnpikeref2_Parse.l1 k x8 (wrap64 (x17 + 1)) bt222.1 (Go.bits .or .u64 bt222.2 (IntKind.u64.wrap (rd x8 x17)))) else (none)) else (none))) else (some (x222000, x222001, 0))
def turnpikeref2_Parse.j0 : Nat → List Int → List Int → List Int → Bool → Option (Int × Int × Int)
  | 0, _, _, _, _ => none
  | k + 1, x8, x12, x14, x85 => if x85 = true then (some (0, 0, 12)) else (if x8.length + x12.length < 17592186044416 then (turnpikeref2_Parse.l0 k (x8 ++ x12) x14) else (none))
def turnpikeref2_Parse.l0 : Nat → List Int → List Int → Option (Int × Int × Int)
  | 0, _, _ => none
  | k + 1, x8, x14 => if (wrap64 ((x8.length : Int) + (x14.length : Int))) < 8 then (if x8.length < 17592186044416 then (turnpikeref2_Parse.l0 k (x8 ++ [0]) x14) else (none)) else (if x8.length + x14.length < 17592186044416 then (turnpikeref2_Parse.j2 k (x8 ++ x14)) else (none))
end
def turnpikeref2_Parse.f (k : Nat) (a0 : Int) (a1 : ByteArray) : Option (Int × Int × Int) := (turnpikeref2_IsFamily.f a0).bind fun t196 => (if t196 = true then (if (a1.size : Int) > 60 then (some (0, 0, 12)) else (if a0 = 32 then ((turnpikeref2_dotted.f k a1).bind fun bt197 => (if bt197.2 = true then (some (IntKind.u64.wrap (bt197.1 * 4294967296), 0, 0)) else (some (0, 0, 12)))) else ((turnpikeref2_gap.f k a1).bind fun t199 => (if t199 < 0 then ((turnpikeref2_groups.f k a1 true).bind fun bt200 => (if bt200.2 = true then (if (bt200.1.length : Int) = 8 then (turnpikeref2_Parse.j2 k bt200.1) else (some (0, 0, 12))) else (some (0, 0, 12)))) else (if 0 ≤ t199 then (if t199 ≤ (a1.size : Int) then ((turnpikeref2_groups.f k (a1.extract 0 (t199 : Int).toNat) false).bind fun bt204 => (if 0 ≤ (wrap64 (t199 + 2)) then (if (wrap64 (t199 + 2)) ≤ (a1.size : Int) then ((turnpikeref2_groups.f k (a1.extract ((wrap64 (t199 + 2)) : Int).toNat a1.size) true).bind fun bt208 => (if bt204.2 = true then (if bt208.2 = true then (turnpikeref2_Parse.j0 k ([] : List Int) bt204.1 bt208.1 (decide ((wrap64 ((bt204.1.length : Int) + (bt208.1.length : Int))) > 7))) else (turnpikeref2_Parse.j0 k ([] : List Int) bt204.1 bt208.1 true)) else (turnpikeref2_Parse.j0 k ([] : List Int) bt204.1 bt208.1 true))) else (none)) else (none))) else (none)) else (none)))))) else (some (0, 0, 11)))
theorem turnpikeref2_Parse.mono_l : ∀ k, (∀ y0, LeO (turnpikeref2_Parse.j2 k y0) (turnpikeref2_Parse.j2 (k + 1) y0)) ∧ (∀ y0 y1 y2 y3, LeO (turnpikeref2_Parse.l1 k y0 y1 y2 y3) (turnpikeref2_Parse.l1 (k + 1) y0 y1 y2 y3)) ∧ (∀ y0 y1 y2 y3, LeO (turnpikeref2_Parse.j0 k y0 y1 y2 y3) (turnpikeref2_Parse.j0 (k + 1) y0 y1 y2 y3)) ∧ (∀ y0 y1, LeO (turnpikeref2_Parse.l0 k y0 y1) (turnpikeref2_Parse.l0 (k + 1) y0 y1))
  | 0 => ⟨fun _ r h => by simp [turnpikeref2_Parse.j2] at h, fun _ _ _ _ r h => by simp [turnpikeref2_Parse.l1] at h, fun _ _ _ _ r h => by simp [turnpikeref2_Parse.j0] at h, fun _ _ r h => by simp [turnpikeref2_Parse.l0] at h⟩
  | k + 1 => by
    obtain ⟨ih0, ih1, ih2, ih3⟩ := turnpikeref2_Parse.mono_l k
    refine ⟨?_, ?_, ?_, ?_⟩
    · intro y0
      unfold turnpikeref2_Parse.j2
      have m0 := @turnpikeref2_dotted.mono
      have m1 := @turnpikeref2_gap.mono
      have m2 := @turnpikeref2_groups.mono
      exact xO
    · intro y0 y1 y2 y3
      unfold turnpikeref2_Parse.l1
      have m0 := @turnpikeref2_dotted.mono
      have m1 := @turnpikeref2_gap.mono
      have m2 := @turnpikeref2_groups.mono
      exact xO
    · intro y0 y1 y2 y3
      unfold turnpikeref2_Parse.j0
      have m0 := @turnpikeref2_dotted.mono
      have m1 := @turnpikeref2_gap.mono
      have m2 := @turnpikeref2_groups.mono
      exact xO
    · intro y0 y1
      unfold turnpikeref2_Parse.l0
      have m0 := @turnpikeref2_dotted.mono
      have m1 := @turnpikeref2_gap.mono
      have m2 := @turnpikeref2_groups.mono
      exact xO
theorem turnpikeref2_Parse.mono : ∀ a0 a1 k, LeO (turnpikeref2_Parse.f k a0 a1) (turnpikeref2_Parse.f (k + 1) a0 a1) := by
  intro a0 a1 k
  obtain ⟨ih0, ih1, ih2, ih3⟩ := turnpikeref2_Parse.mono_l k
  unfold turnpikeref2_Parse.f
  have m0 := @turnpikeref2_dotted.mono
  have m1 := @turnpikeref2_gap.mono
  have m2 := @turnpikeref2_groups.mono
  exact xO
def turnpikeref2_Parse.T30 : Bool × List (List Nat × List Nat) := (true, [([], []), ([0], [0]), ([], []), ([], []), ([2, 3], [2, 3]), ([4], [4]), ([5], [5]), ([1, 6], [1, 6]), ([0, 1, 2, 3, 4, 5, 6, 7], []), ([8, 7, 0, 1, 2, 3, 4, 5, 6, 7], [7, 8])])
def turnpikeref2_Parse.B30 : List Nat := [0, 1, 0, 0, 12, 28, 60, 127, 255, 511]
theorem turnpikeref2_Parse.tab30 : rtab .any (opsOf Try.f10 30) = turnpikeref2_Parse.T30 := by kernel_rfl
theorem turnpikeref2_Parse.bits30 : waitsOk turnpikeref2_Parse.T30.2 turnpikeref2_Parse.B30 = true := by kernel_rfl
set_option maxHeartbeats 8000000 in
set_option maxRecDepth 100000 in
theorem turnpikeref2_Parse.calls (k : Nat) (a0 : Int) (a1 : ByteArray) (r1 : Int) (r2 : Int) (r3 : Int) (w : World) (h : turnpikeref2_Parse.f k a0 a1 = some (r1, r2, r3)) :
    Calls Try.prog 10 #[.int .i64 a0, .string a1] w fun e w' => e = .returned (.tuple #[.agg #[.int .u64 r1, .int .u64 r2], .int .i64 r3]) ∧ Below w.heap.size w w' := by
  have hu24 := Try.underlying24
  have HB := Aside0.mk (Below.refl w.heap.size w)
  have H : ((turnpikeref2_IsFamily.f a0).bind fun t196 => (if t196 = true then (if (a1.size : Int) > 60 then (some (0, 0, 12)) else (if a0 = 32 then ((turnpikeref2_dotted.f k a1).bind fun bt197 => (if bt197.2 = true then (some (IntKind.u64.wrap (bt197.1 * 4294967296), 0, 0)) else (some (0, 0, 12)))) else ((turnpikeref2_gap.f k a1).bind fun t199 => (if t199 < 0 then ((turnpikeref2_groups.f k a1 true).bind fun bt200 => (if bt200.2 = true then (if (bt200.1.length : Int) = 8 then (turnpikeref2_Parse.j2 k bt200.1) else (some (0, 0, 12))) else (some (0, 0, 12)))) else (if 0 ≤ t199 then (if t199 ≤ (a1.size : Int) then ((turnpikeref2_groups.f k (a1.extract 0 (t199 : Int).toNat) false).bind fun bt204 => (if 0 ≤ (wrap64 (t199 + 2)) then (if (wrap64 (t199 + 2)) ≤ (a1.size : Int) then ((turnpikeref2_groups.f k (a1.extract ((wrap64 (t199 + 2)) : Int).toNat a1.size) true).bind fun bt208 => (if bt204.2 = true then (if bt208.2 = true then (turnpikeref2_Parse.j0 k ([] : List Int) bt204.1 bt208.1 (decide ((wrap64 ((bt204.1.length : Int) + (bt208.1.length : Int))) > 7))) else (turnpikeref2_Parse.j0 k ([] : List Int) bt204.1 bt208.1 true)) else (turnpikeref2_Parse.j0 k ([] : List Int) bt204.1 bt208.1 true))) else (none)) else (none))) else (none)) else (none)))))) else (some (0, 0, 11)))) = some (r1, r2, r3) := h
  clear h
  replace H := Option.bind_eq_some_iff.mp H
  obtain ⟨t196, A30, H⟩ := H
  replace H : (if t196 = true then (if (a1.size : Int) > 60 then (some (0, 0, 12)) else (if a0 = 32 then ((turnpikeref2_dotted.f k a1).bind fun bt197 => (if bt197.2 = true then (some (IntKind.u64.wrap (bt197.1 * 4294967296), 0, 0)) else (some (0, 0, 12)))) else ((turnpikeref2_gap.f k a1).bind fun t199 => (if t199 < 0 then ((turnpikeref2_groups.f k a1 true).bind fun bt200 => (if bt200.2 = true then (if (bt200.1.length : Int) = 8 then (turnpikeref2_Parse.j2 k bt200.1) else (some (0, 0, 12))) else (some (0, 0, 12)))) else (if 0 ≤ t199 then (if t199 ≤ (a1.size : Int) then ((turnpikeref2_groups.f k (a1.extract 0 (t199 : Int).toNat) false).bind fun bt204 => (if 0 ≤ (wrap64 (t199 + 2)) then (if (wrap64 (t199 + 2)) ≤ (a1.size : Int) then ((turnpikeref2_groups.f k (a1.extract ((wrap64 (t199 + 2)) : Int).toNat a1.size) true).bind fun bt208 => (if bt204.2 = true then (if bt208.2 = true then (turnpikeref2_Parse.j0 k ([] : List Int) bt204.1 bt208.1 (decide ((wrap64 ((bt204.1.length : Int) + (bt208.1.length : Int))) > 7))) else (turnpikeref2_Parse.j0 k ([] : List Int) bt204.1 bt208.1 true)) else (turnpikeref2_Parse.j0 k ([] : List Int) bt204.1 bt208.1 true))) else (none)) else (none))) else (none)) else (none)))))) else (some (0, 0, 11))) = some (r1, r2, r3) := H
  have A3 := Aside0.mk A30
  clear A30
  by_cases c4 : t196 = true
  · subst c4
    have H1 : (if (a1.size : Int) > 60 then (some (0, 0, 12)) else (if a0 = 32 then ((turnpikeref2_dotted.f k a1).bind fun bt197 => (if bt197.2 = true then (some (IntKind.u64.wrap (bt197.1 * 4294967296), 0, 0)) else (some (0, 0, 12)))) else ((turnpikeref2_gap.f k a1).bind fun t199 => (if t199 < 0 then ((turnpikeref2_groups.f k a1 true).bind fun bt200 => (if bt200.2 = true then (if (bt200.1.length : Int) = 8 then (turnpikeref2_Parse.j2 k bt200.1) else (some (0, 0, 12))) else (some (0, 0, 12)))) else (if 0 ≤ t199 then (if t199 ≤ (a1.size : Int) then ((turnpikeref2_groups.f k (a1.extract 0 (t199 : Int).toNat) false).bind fun bt204 => (if 0 ≤ (wrap64 (t199 + 2)) then (if (wrap64 (t199 + 2)) ≤ (a1.size : Int) then ((turnpikeref2_groups.f k (a1.extract ((wrap64 (t199 + 2)) : Int).toNat a1.size) true).bind fun bt208 => (if bt204.2 = true then (if bt208.2 = true then (turnpikeref2_Parse.j0 k ([] : List Int) bt204.1 bt208.1 (decide ((wrap64 ((bt204.1.length : Int) + (bt208.1.length : Int))) > 7))) else (turnpikeref2_Parse.j0 k ([] : List Int) bt204.1 bt208.1 true)) else (turnpikeref2_Parse.j0 k ([] : List Int) bt204.1 bt208.1 true))) else (none)) else (none))) else (none)) else (none)))))) = some (r1, r2, r3) := by rw [if_pos rfl] at H; exact H
    clear H
    have H := H1
    clear H1
    by_cases c5 : (a1.size : Int) > 60
    · rw [if_pos c5] at H
      have c5b0 : decide (60 < (a1.size : Int)) = true := decide_eq_true c5
      have c5b1 : decide (60 < a1.size) = true := decide_eq_true (by omega)
      clear c5
      simp only [Option.some.injEq, Prod.mk.injEq] at H
      obtain ⟨rfl, rfl, rfl⟩ := H
      go_enter Try.func10, Try.ntmps10
      go_wp2_with (first | ((with_reducible refine gate_dst (N := 4) rfl ?_); (try (refine gate_guard (by rfl) ?_; dsimp only)); refine box_event ?hg (N := 4) ?hd (cs := #[.int .u64 0, .int .u64 0]) (t := 24) ?hr ?_; (case hd => rfl); (case hg => rfl); (case hr => first | (go_simp; done) | (go_simp; rfl)); intro gb195 hg w6 hbox hb; have n0_ := Aside0.mk (below_step xB hb); have n1_ := Aside0.mk (hbox); have n2_ := Aside0.mk ((by rw [hg]; exact (below_size xB) : w.heap.size ≤ gb195)); have n3_ := Aside0.mk ((by rw [hg]; exact (below_size xB) : w.heap.size ≤ gb195)); clear HB; have HB := n0_; have BK195 := n1_; have GW195 := n2_; have GE195 := n3_; clear n0_ n1_ n2_ n3_; clear hb hbox hg) | ((with_reducible refine gate_callee (f := 33) rfl ?_); refine goesL_ (some 19) rfl rfl Try.func33 (by kernel_rfl) rfl #[.int .i64 a0] rfl xM ?_; (with_reducible refine (turnpikeref2_IsFamily.calls a0 true _ A3.out).mono ?_); rintro e w' ⟨rfl, ⟨nd, rfl⟩⟩; refine ⟨_, rfl, ?_⟩; (try (rw [drewN_self w6]; generalize hq_ : World.drewN w6 _ = w6; have n0_ : Aside0 (w6.heap[gb195]? = some (.cells #[.int .u64 0, .int .u64 0] 24 (0, 0))) := ⟨by rw [← hq_]; exact (xK BK195.out)⟩; have n1_ : Aside0 (Below w.heap.size w w6) := ⟨by rw [← hq_]; exact xG⟩; clear BK195 HB hq_; have BK195 := n0_; have HB := n1_; clear n0_ n1_)); have hcz7_0 : w6.cell? ⟨gb195, 0, none⟩ = some (.int .u64 0) := (blk_cell BK195.out 0).trans rfl; have hcz7_1 : w6.cell? ⟨gb195, 1, none⟩ = some (.int .u64 0) := (blk_cell BK195.out 1).trans rfl; have hfz7_0 := blk_frozen BK195.out 0; have hfz7_1 := blk_frozen BK195.out 1))
      refine bodyPost_ret (results_ct rfl _ _ gb195 24 #[.int .u64 0, .int .u64 0] (0, 0) _ rfl (by (with_reducible repeat (first | refine blk_drewN ?_ _ | refine blk_drew ?_ | refine blk_alloc ?_ _)); refine blk_put (cs := #[.int .u64 0, .int .u64 0]) ?_ 1 _ rfl; (with_reducible repeat (first | refine blk_drewN ?_ _ | refine blk_drew ?_ | refine blk_alloc ?_ _)); refine blk_put (cs := #[.int .u64 0, .int .u64 0]) ?_ 0 _ rfl; (with_reducible repeat (first | refine blk_drewN ?_ _ | refine blk_drew ?_ | refine blk_alloc ?_ _)); exact BK195.out) Try.underlying24 rfl (by kernel_rfl)) rfl ?_
      exact ⟨xE, xG⟩
    · rw [if_neg c5] at H
      have c5b0 : decide (60 < (a1.size : Int)) = false := decide_eq_false c5
      have c5b1 : decide (60 < a1.size) = false := decide_eq_false (by omega)
      clear c5
      by_cases c8 : a0 = 32
      · rw [if_pos c8] at H
        have c8b0 : (a0 == 32) = true := beq_iff_eq.mpr c8
        have c8b1 : (a0 != 32) = false := bne_eq_false_iff_eq.mpr c8
        clear c8
        replace H := Option.bind_eq_some_iff.mp H
        obtain ⟨⟨t197, t198⟩, A90, H⟩ := H
        replace H : (if t198 = true then (some (IntKind.u64.wrap (t197 * 4294967296), 0, 0)) else (some (0, 0, 12))) = some (r1, r2, r3) := H
        have A9 := Aside0.mk A90
        clear A90
        by_cases c10 : t198 = true
        · subst c10
          have H1 : (some (IntKind.u64.wrap (t197 * 4294967296), 0, 0)) = some (r1, r2, r3) := by rw [if_pos rfl] at H; exact H
          clear H
          have H := H1
          clear H1
          simp only [Option.some.injEq, Prod.mk.injEq] at H
          obtain ⟨rfl, rfl, rfl⟩ := H
          go_enter Try.func10, Try.ntmps10
          go_wp2_with (first | ((with_reducible refine gate_dst (N := 4) rfl ?_); (try (refine gate_guard (by rfl) ?_; dsimp only)); refine box_event ?hg (N := 4) ?hd (cs := #[.int .u64 0, .int .u64 0]) (t := 24) ?hr ?_; (case hd => rfl); (case hg => rfl); (case hr => first | (go_simp; done) | (go_simp; rfl)); intro gb195 hg w11 hbox hb; have n0_ := Aside0.mk (below_step xB hb); have n1_ := Aside0.mk (hbox); have n2_ := Aside0.mk ((by rw [hg]; exact (below_size xB) : w.heap.size ≤ gb195)); have n3_ := Aside0.mk ((by rw [hg]; exact (below_size xB) : w.heap.size ≤ gb195)); clear HB; have HB := n0_; have BK195 := n1_; have GW195 := n2_; have GE195 := n3_; clear n0_ n1_ n2_ n3_; clear hb hbox hg) | ((with_reducible refine gate_callee (f := 33) rfl ?_); refine goesL_ (some 19) rfl rfl Try.func33 (by kernel_rfl) rfl #[.int .i64 a0] rfl xM ?_; (with_reducible refine (turnpikeref2_IsFamily.calls a0 true _ A3.out).mono ?_); rintro e w' ⟨rfl, ⟨nd, rfl⟩⟩; refine ⟨_, rfl, ?_⟩; (try (rw [drewN_self w11]; generalize hq_ : World.drewN w11 _ = w11; have n0_ : Aside0 (w11.heap[gb195]? = some (.cells #[.int .u64 0, .int .u64 0] 24 (0, 0))) := ⟨by rw [← hq_]; exact (xK BK195.out)⟩; have n1_ : Aside0 (Below w.heap.size w w11) := ⟨by rw [← hq_]; exact xG⟩; clear BK195 HB hq_; have BK195 := n0_; have HB := n1_; clear n0_ n1_))) | ((with_reducible refine gate_callee (f := 34) rfl ?_); refine goesL_ (some 30) rfl rfl Try.func34 (by kernel_rfl) rfl #[.string a1] rfl xM ?_; (with_reducible refine (turnpikeref2_dotted.calls k a1 t197 true _ A9.out).mono ?_); rintro e w12 ⟨rfl, hb⟩; refine ⟨_, rfl, ?_⟩; have n0_ := Aside0.mk (blk_below (g := gb195) (o := .cells #[.int .u64 0, .int .u64 0] 24 (0, 0)) (xK BK195.out) hb); have n1_ := Aside0.mk (below_step xG hb); clear BK195; clear HB; have BK195 := n0_; have HB := n1_; clear n0_ n1_; (try clear hb); (try clear hb2); (try clear hk); (try clear hi); have hcz13_0 : w12.cell? ⟨gb195, 0, none⟩ = some (.int .u64 0) := (blk_cell BK195.out 0).trans rfl; have hcz13_1 : w12.cell? ⟨gb195, 1, none⟩ = some (.int .u64 0) := (blk_cell BK195.out 1).trans rfl; have hfz13_0 := blk_frozen BK195.out 0; have hfz13_1 := blk_frozen BK195.out 1))
          refine bodyPost_ret (results_ct rfl _ _ gb195 24 #[.int .u64 (IntKind.u64.wrap (t197 * 4294967296)), .int .u64 0] (0, 0) _ rfl (by (with_reducible repeat (first | refine blk_drewN ?_ _ | refine blk_drew ?_ | refine blk_alloc ?_ _)); refine blk_put (cs := #[.int .u64 (IntKind.u64.wrap (t197 * 4294967296)), .int .u64 0]) ?_ 1 _ rfl; (with_reducible repeat (first | refine blk_drewN ?_ _ | refine blk_drew ?_ | refine blk_alloc ?_ _)); refine blk_put (cs := #[.int .u64 0, .int .u64 0]) ?_ 0 _ rfl; (with_reducible repeat (first | refine blk_drewN ?_ _ | refine blk_drew ?_ | refine blk_alloc ?_ _)); exact BK195.out) Try.underlying24 rfl (by kernel_rfl)) rfl ?_
          exact ⟨xE, xG⟩
        · replace c10 := Bool.eq_false_iff.mpr c10
          subst c10
          have H1 : (some (0, 0, 12)) = some (r1, r2, r3) := by rw [if_neg (show ¬ (false = true) by decide)] at H; exact H
          clear H
          have H := H1
          clear H1
          simp only [Option.some.injEq, Prod.mk.injEq] at H
          obtain ⟨rfl, rfl, rfl⟩ := H
          go_enter Try.func10, Try.ntmps10
          go_wp2_with (first | ((with_reducible refine gate_dst (N := 4) rfl ?_); (try (refine gate_guard (by rfl) ?_; dsimp only)); refine box_event ?hg (N := 4) ?hd (cs := #[.int .u64 0, .int .u64 0]) (t := 24) ?hr ?_; (case hd => rfl); (case hg => rfl); (case hr => first | (go_simp; done) | (go_simp; rfl)); intro gb195 hg w14 hbox hb; have n0_ := Aside0.mk (below_step xB hb); have n1_ := Aside0.mk (hbox); have n2_ := Aside0.mk ((by rw [hg]; exact (below_size xB) : w.heap.size ≤ gb195)); have n3_ := Aside0.mk ((by rw [hg]; exact (below_size xB) : w.heap.size ≤ gb195)); clear HB; have HB := n0_; have BK195 := n1_; have GW195 := n2_; have GE195 := n3_; clear n0_ n1_ n2_ n3_; clear hb hbox hg) | ((with_reducible refine gate_callee (f := 33) rfl ?_); refine goesL_ (some 19) rfl rfl Try.func33 (by kernel_rfl) rfl #[.int .i64 a0] rfl xM ?_; (with_reducible refine (turnpikeref2_IsFamily.calls a0 true _ A3.out).mono ?_); rintro e w' ⟨rfl, ⟨nd, rfl⟩⟩; refine ⟨_, rfl, ?_⟩; (try (rw [drewN_self w14]; generalize hq_ : World.drewN w14 _ = w14; have n0_ : Aside0 (w14.heap[gb195]? = some (.cells #[.int .u64 0, .int .u64 0] 24 (0, 0))) := ⟨by rw [← hq_]; exact (xK BK195.out)⟩; have n1_ : Aside0 (Below w.heap.size w w14) := ⟨by rw [← hq_]; exact xG⟩; clear BK195 HB hq_; have BK195 := n0_; have HB := n1_; clear n0_ n1_))) | ((with_reducible refine gate_callee (f := 34) rfl ?_); refine goesL_ (some 30) rfl rfl Try.func34 (by kernel_rfl) rfl #[.string a1] rfl xM ?_; (with_reducible refine (turnpikeref2_dotted.calls k a1 t197 false _ A9.out).mono ?_); rintro e w15 ⟨rfl, hb⟩; refine ⟨_, rfl, ?_⟩; have n0_ := Aside0.mk (blk_below (g := gb195) (o := .cells #[.int .u64 0, .int .u64 0] 24 (0, 0)) (xK BK195.out) hb); have n1_ := Aside0.mk (below_step xG hb); clear BK195; clear HB; have BK195 := n0_; have HB := n1_; clear n0_ n1_; (try clear hb); (try clear hb2); (try clear hk); (try clear hi); have hcz16_0 : w15.cell? ⟨gb195, 0, none⟩ = some (.int .u64 0) := (blk_cell BK195.out 0).trans rfl; have hcz16_1 : w15.cell? ⟨gb195, 1, none⟩ = some (.int .u64 0) := (blk_cell BK195.out 1).trans rfl; have hfz16_0 := blk_frozen BK195.out 0; have hfz16_1 := blk_frozen BK195.out 1))
          refine bodyPost_ret (results_ct rfl _ _ gb195 24 #[.int .u64 0, .int .u64 0] (0, 0) _ rfl (by (with_reducible repeat (first | refine blk_drewN ?_ _ | refine blk_drew ?_ | refine blk_alloc ?_ _)); refine blk_put (cs := #[.int .u64 0, .int .u64 0]) ?_ 1 _ rfl; (with_reducible repeat (first | refine blk_drewN ?_ _ | refine blk_drew ?_ | refine blk_alloc ?_ _)); refine blk_put (cs := #[.int .u64 0, .int .u64 0]) ?_ 0 _ rfl; (with_reducible repeat (first | refine blk_drewN ?_ _ | refine blk_drew ?_ | refine blk_alloc ?_ _)); exact BK195.out) Try.underlying24 rfl (by kernel_rfl)) rfl ?_
          exact ⟨xE, xG⟩
      · rw [if_neg c8] at H
        have c8b0 : (a0 == 32) = false := beq_eq_false_iff_ne.mpr c8
        have c8b1 : (a0 != 32) = true := bne_iff_ne.mpr c8
        replace H := Option.bind_eq_some_iff.mp H
        obtain ⟨t199, A170, H⟩ := H
        replace H : (if t199 < 0 then ((turnpikeref2_groups.f k a1 true).bind fun bt200 => (if bt200.2 = true then (if (bt200.1.length : Int) = 8 then (turnpikeref2_Parse.j2 k bt200.1) else (some (0, 0, 12))) else (some (0, 0, 12)))) else (if 0 ≤ t199 then (if t199 ≤ (a1.size : Int) then ((turnpikeref2_groups.f k (a1.extract 0 (t199 : Int).toNat) false).bind fun bt204 => (if 0 ≤ (wrap64 (t199 + 2)) then (if (wrap64 (t199 + 2)) ≤ (a1.size : Int) then ((turnpikeref2_groups.f k (a1.extract ((wrap64 (t199 + 2)) : Int).toNat a1.size) true).bind fun bt208 => (if bt204.2 = true then (if bt208.2 = true then (turnpikeref2_Parse.j0 k ([] : List Int) bt204.1 bt208.1 (decide ((wrap64 ((bt204.1.length : Int) + (bt208.1.length : Int))) > 7))) else (turnpikeref2_Parse.j0 k ([] : List Int) bt204.1 bt208.1 true)) else (turnpikeref2_Parse.j0 k ([] : List Int) bt204.1 bt208.1 true))) else (none)) else (none))) else (none)) else (none))) = some (r1, r2, r3) := H
        have A17 := Aside0.mk A170
        clear A170
        have HC18 := Aside0.mk H
        clear H
        go_enter Try.func10, Try.ntmps10
        go_upto_if 42 with (first | ((with_reducible refine gate_dst (N := 4) rfl ?_); (try (refine gate_guard (by rfl) ?_; dsimp only)); refine box_event ?hg (N := 4) ?hd (cs := #[.int .u64 0, .int .u64 0]) (t := 24) ?hr ?_; (case hd => rfl); (case hg => rfl); (case hr => first | (go_simp; done) | (go_simp; rfl)); intro gb195 hg w19 hbox hb; have n0_ := Aside0.mk (below_step xB hb); have n1_ := Aside0.mk (hbox); have n2_ := Aside0.mk ((by rw [hg]; exact (below_size xB) : w.heap.size ≤ gb195)); have n3_ := Aside0.mk ((by rw [hg]; exact (below_size xB) : w.heap.size ≤ gb195)); clear HB; have HB := n0_; have BK195 := n1_; have GW195 := n2_; have GE195 := n3_; clear n0_ n1_ n2_ n3_; clear hb hbox hg) | ((with_reducible refine gate_callee (f := 33) rfl ?_); refine goesL_ (some 19) rfl rfl Try.func33 (by kernel_rfl) rfl #[.int .i64 a0] rfl xM ?_; (with_reducible refine (turnpikeref2_IsFamily.calls a0 true _ A3.out).mono ?_); rintro e w' ⟨rfl, ⟨nd, rfl⟩⟩; refine ⟨_, rfl, ?_⟩) | ((with_reducible refine gate_callee (f := 35) rfl ?_); refine goesL_ (some 40) rfl rfl Try.func35 (by kernel_rfl) rfl #[.string a1] rfl xM ?_; (with_reducible refine (turnpikeref2_gap.calls k a1 t199 _ A17.out).mono ?_); rintro e w' ⟨rfl, ⟨nd, rfl⟩⟩; refine ⟨_, rfl, ?_⟩))
        (try simp only [Act.put, List.setIfInBounds_toArray, List.set_cons_zero, List.set_cons_succ])
        go_cut [8] (fun v8 wc => ∃ (kq : Nat) (x8_17 : List Int) (x196000_17 : Int) (x196001_17 : Int), Aside0 (turnpikeref2_Parse.j2 kq x8_17 = some (r1, r2, r3)) ∧ Aside0 (kq ≤ k) ∧ Aside0 (Kd.R (Kd.int .i64) 3 wc w.heap.size (fun _ => True) v8 x8_17) ∧ Aside0 (wc.heap[gb195]? = some (.cells #[.int .u64 x196000_17, .int .u64 x196001_17] 24 (0, 0))) ∧ Aside0 (Below w.heap.size w wc))
        case first =>
          have H := HC18.out
          clear HC18
          by_cases c20 : t199 < 0
          · rw [if_pos c20] at H
            have c20b0 : decide (t199 < 0) = true := decide_eq_true c20
            clear c20
            (first | rw [c20b0] | (simp only [i64_w, i32_w]; rw [c20b0]) | skip)
            replace H := Option.bind_eq_some_iff.mp H
            obtain ⟨⟨t200, t201⟩, A210, H⟩ := H
            replace H : (if t201 = true then (if (t200.length : Int) = 8 then (turnpikeref2_Parse.j2 k t200) else (some (0, 0, 12))) else (some (0, 0, 12))) = some (r1, r2, r3) := H
            have A21 := Aside0.mk A210
            clear A210
            by_cases c22 : t201 = true
            · subst c22
              have H1 : (if (t200.length : Int) = 8 then (turnpikeref2_Parse.j2 k t200) else (some (0, 0, 12))) = some (r1, r2, r3) := by rw [if_pos rfl] at H; exact H
              clear H
              have H := H1
              clear H1
              by_cases c23 : (t200.length : Int) = 8
              · rw [if_pos c23] at H
                have c23b0 : ((t200.length : Int) == 8) = true := beq_iff_eq.mpr c23
                have c23b1 : ((t200.length : Int) != 8) = false := bne_eq_false_iff_eq.mpr c23
                clear c23
                have H' := Aside0.mk H
                clear H
                go_wp2_with (first | ((with_reducible refine gate_callee (f := 36) rfl ?_); refine goesL_ (some 45) rfl rfl Try.func36 (by kernel_rfl) rfl #[.string a1, .bool true] rfl xM ?_; (with_reducible refine (turnpikeref2_groups.calls k a1 true t200 true _ A21.out).mono ?_); rintro e w24 ⟨v202, rfl, ho0, hb⟩; refine ⟨_, rfl, ?_⟩; have n0_ := Aside0.mk (Kd.R_lower ho0 (below_size xG)); have n1_ := Aside0.mk (blk_below (g := gb195) (o := .cells #[.int .u64 0, .int .u64 0] 24 (0, 0)) (xK BK195.out) hb); have n2_ := Aside0.mk (below_step xG hb); clear BK195; clear HB; have HO203 := n0_; have BK195 := n1_; have HB := n2_; clear n0_ n1_ n2_; (try clear hb); (try clear hb2); (try clear hk); (try clear hi); (try clear ho0); obtain ⟨Ao25, co25, eo25⟩ := Kd.R_slice HO203.out; subst eo25))
                go_meet
                case rel => exact ⟨_, (t200), (0), (0), H', ⟨by first | omega | exact Nat.le_refl _⟩, ⟨xR HO203.out⟩, ⟨xK BK195.out⟩, ⟨xG⟩⟩
              · rw [if_neg c23] at H
                have c23b0 : ((t200.length : Int) == 8) = false := beq_eq_false_iff_ne.mpr c23
                have c23b1 : ((t200.length : Int) != 8) = true := bne_iff_ne.mpr c23
                simp only [Option.some.injEq, Prod.mk.injEq] at H
                obtain ⟨rfl, rfl, rfl⟩ := H
                go_wp2_with (first | ((with_reducible refine gate_callee (f := 36) rfl ?_); refine goesL_ (some 45) rfl rfl Try.func36 (by kernel_rfl) rfl #[.string a1, .bool true] rfl xM ?_; (with_reducible refine (turnpikeref2_groups.calls k a1 true t200 true _ A21.out).mono ?_); rintro e w26 ⟨v202, rfl, ho0, hb⟩; refine ⟨_, rfl, ?_⟩; have n0_ := Aside0.mk (Kd.R_lower ho0 (below_size xG)); have n1_ := Aside0.mk (blk_below (g := gb195) (o := .cells #[.int .u64 0, .int .u64 0] 24 (0, 0)) (xK BK195.out) hb); have n2_ := Aside0.mk (below_step xG hb); clear BK195; clear HB; have HO203 := n0_; have BK195 := n1_; have HB := n2_; clear n0_ n1_ n2_; (try clear hb); (try clear hb2); (try clear hk); (try clear hi); (try clear ho0); obtain ⟨Ao27, co27, eo27⟩ := Kd.R_slice HO203.out; subst eo27; have hcz28_0 : w26.cell? ⟨gb195, 0, none⟩ = some (.int .u64 0) := (blk_cell BK195.out 0).trans rfl; have hcz28_1 : w26.cell? ⟨gb195, 1, none⟩ = some (.int .u64 0) := (blk_cell BK195.out 1).trans rfl; have hfz28_0 := blk_frozen BK195.out 0; have hfz28_1 := blk_frozen BK195.out 1))
                refine bodyPost_ret (results_ct rfl _ _ gb195 24 #[.int .u64 0, .int .u64 0] (0, 0) _ rfl (by (with_reducible repeat (first | refine blk_drewN ?_ _ | refine blk_drew ?_ | refine blk_alloc ?_ _)); refine blk_put (cs := #[.int .u64 0, .int .u64 0]) ?_ 1 _ rfl; (with_reducible repeat (first | refine blk_drewN ?_ _ | refine blk_drew ?_ | refine blk_alloc ?_ _)); refine blk_put (cs := #[.int .u64 0, .int .u64 0]) ?_ 0 _ rfl; (with_reducible repeat (first | refine blk_drewN ?_ _ | refine blk_drew ?_ | refine blk_alloc ?_ _)); exact BK195.out) Try.underlying24 rfl (by kernel_rfl)) rfl ?_
                exact ⟨xE, xG⟩
            · replace c22 := Bool.eq_false_iff.mpr c22
              subst c22
              have H1 : (some (0, 0, 12)) = some (r1, r2, r3) := by rw [if_neg (show ¬ (false = true) by decide)] at H; exact H
              clear H
              have H := H1
              clear H1
              simp only [Option.some.injEq, Prod.mk.injEq] at H
              obtain ⟨rfl, rfl, rfl⟩ := H
              go_wp2_with (first | ((with_reducible refine gate_callee (f := 36) rfl ?_); refine goesL_ (some 45) rfl rfl Try.func36 (by kernel_rfl) rfl #[.string a1, .bool true] rfl xM ?_; (with_reducible refine (turnpikeref2_groups.calls k a1 true t200 false _ A21.out).mono ?_); rintro e w29 ⟨v202, rfl, ho0, hb⟩; refine ⟨_, rfl, ?_⟩; have n0_ := Aside0.mk (Kd.R_lower ho0 (below_size xG)); have n1_ := Aside0.mk (blk_below (g := gb195) (o := .cells #[.int .u64 0, .int .u64 0] 24 (0, 0)) (xK BK195.out) hb); have n2_ := Aside0.mk (below_step xG hb); clear BK195; clear HB; have HO203 := n0_; have BK195 := n1_; have HB := n2_; clear n0_ n1_ n2_; (try clear hb); (try clear hb2); (try clear hk); (try clear hi); (try clear ho0); have hcz30_0 : w29.cell? ⟨gb195, 0, none⟩ = some (.int .u64 0) := (blk_cell BK195.out 0).trans rfl; have hcz30_1 : w29.cell? ⟨gb195, 1, none⟩ = some (.int .u64 0) := (blk_cell BK195.out 1).trans rfl; have hfz30_0 := blk_frozen BK195.out 0; have hfz30_1 := blk_frozen BK195.out 1))
              refine bodyPost_ret (results_ct rfl _ _ gb195 24 #[.int .u64 0, .int .u64 0] (0, 0) _ rfl (by (with_reducible repeat (first | refine blk_drewN ?_ _ | refine blk_drew ?_ | refine blk_alloc ?_ _)); refine blk_put (cs := #[.int .u64 0, .int .u64 0]) ?_ 1 _ rfl; (with_reducible repeat (first | refine blk_drewN ?_ _ | refine blk_drew ?_ | refine blk_alloc ?_ _)); refine blk_put (cs := #[.int .u64 0, .int .u64 0]) ?_ 0 _ rfl; (with_reducible repeat (first | refine blk_drewN ?_ _ | refine blk_drew ?_ | refine blk_alloc ?_ _)); exact BK195.out) Try.underlying24 rfl (by kernel_rfl)) rfl ?_
              exact ⟨xE, xG⟩
          · rw [if_neg c20] at H
            have c20b0 : decide (t199 < 0) = false := decide_eq_false c20
            clear c20
            (first | rw [c20b0] | (simp only [i64_w, i32_w]; rw [c20b0]) | skip)
            by_cases c31 : 0 ≤ t199
            · rw [if_pos c31] at H
              have c31b0 := eq_true c31
              have c31b1 : decide (0 ≤ t199) = true := decide_eq_true c31
              clear c31
              by_cases c32 : t199 ≤ (a1.size : Int)
              · rw [if_pos c32] at H
                have c32b0 := eq_true c32
                have c32b1 : decide (t199 ≤ (a1.size : Int)) = true := decide_eq_true c32
                clear c32
                replace H := Option.bind_eq_some_iff.mp H
                obtain ⟨⟨t204, t205⟩, A330, H⟩ := H
                replace H : (if 0 ≤ (wrap64 (t199 + 2)) then (if (wrap64 (t199 + 2)) ≤ (a1.size : Int) then ((turnpikeref2_groups.f k (a1.extract ((wrap64 (t199 + 2)) : Int).toNat a1.size) true).bind fun bt208 => (if t205 = true then (if bt208.2 = true then (turnpikeref2_Parse.j0 k ([] : List Int) t204 bt208.1 (decide ((wrap64 ((t204.length : Int) + (bt208.1.length : Int))) > 7))) else (turnpikeref2_Parse.j0 k ([] : List Int) t204 bt208.1 true)) else (turnpikeref2_Parse.j0 k ([] : List Int) t204 bt208.1 true))) else (none)) else (none)) = some (r1, r2, r3) := H
                have A33 := Aside0.mk A330
                clear A330
                obtain ⟨ji34, hji34⟩ : ∃ j_ : Int, (wrap64 (t199 + 2)) = j_ := ⟨_, rfl⟩
                replace H : (if 0 ≤ (ji34) then (if (ji34) ≤ (a1.size : Int) then ((turnpikeref2_groups.f k (a1.extract ((ji34) : Int).toNat a1.size) true).bind fun bt208 => (if t205 = true then (if bt208.2 = true then (turnpikeref2_Parse.j0 k ([] : List Int) t204 bt208.1 (decide ((wrap64 ((t204.length : Int) + (bt208.1.length : Int))) > 7))) else (turnpikeref2_Parse.j0 k ([] : List Int) t204 bt208.1 true)) else (turnpikeref2_Parse.j0 k ([] : List Int) t204 bt208.1 true))) else (none)) else (none)) = some (r1, r2, r3) := by first | (rw [hji34] at H; exact H) | (simp only [hji34] at H ⊢; exact H)
                (try rw [hji34] at A33)
                have hji34w : (IntKind.i64.wrap (t199 + 2)) = ji34 := (i64_w _).trans hji34
                by_cases c35 : 0 ≤ (ji34)
                · rw [if_pos c35] at H
                  have c35b0 := eq_true c35
                  have c35b1 : decide (0 ≤ (ji34)) = true := decide_eq_true c35
                  clear c35
                  by_cases c36 : (ji34) ≤ (a1.size : Int)
                  · rw [if_pos c36] at H
                    have c36b0 := eq_true c36
                    have c36b1 : decide ((ji34) ≤ (a1.size : Int)) = true := decide_eq_true c36
                    clear c36
                    replace H := Option.bind_eq_some_iff.mp H
                    obtain ⟨⟨t208, t209⟩, A370, H⟩ := H
                    replace H : (if t205 = true then (if t209 = true then (turnpikeref2_Parse.j0 k ([] : List Int) t204 t208 (decide ((wrap64 ((t204.length : Int) + (t208.length : Int))) > 7))) else (turnpikeref2_Parse.j0 k ([] : List Int) t204 t208 true)) else (turnpikeref2_Parse.j0 k ([] : List Int) t204 t208 true)) = some (r1, r2, r3) := H
                    have A37 := Aside0.mk A370
                    clear A370
                    have HC38 := Aside0.mk H
                    clear H
                    go_upto_region 19 with (first | ((with_reducible refine gate_callee (f := 36) rfl ?_); refine goesL_ (some 61) rfl rfl Try.func36 (by kernel_rfl) rfl #[.string (a1.extract 0 (t199 : Int).toNat), .bool false] rfl xM ?_; (with_reducible refine (turnpikeref2_groups.calls k (a1.extract 0 (t199 : Int).toNat) false t204 t205 _ A33.out).mono ?_); rintro e w39 ⟨v206, rfl, ho0, hb⟩; refine ⟨_, rfl, ?_⟩; have n0_ := Aside0.mk (Kd.R_lower ho0 (below_size xG)); have n1_ := Aside0.mk (blk_below (g := gb195) (o := .cells #[.int .u64 0, .int .u64 0] 24 (0, 0)) (xK BK195.out) hb); have n2_ := Aside0.mk (below_step xG hb); clear BK195; clear HB; have HO207 := n0_; have BK195 := n1_; have HB := n2_; clear n0_ n1_ n2_; (try clear hb); (try clear hb2); (try clear hk); (try clear hi); (try clear ho0)) | ((with_reducible refine gate_callee (f := 36) rfl ?_); refine goesL_ (some 69) rfl rfl Try.func36 (by kernel_rfl) rfl #[.string (a1.extract ((ji34) : Int).toNat a1.size), .bool true] rfl (by (try simp only [List.map_toArray, List.map_cons, List.map_nil]); first | done | (simp only [hji34]; rfl) | rfl | (simp only [List.length_drop, List.length_take]; rfl)) ?_; (with_reducible refine (turnpikeref2_groups.calls k (a1.extract ((ji34) : Int).toNat a1.size) true t208 t209 _ A37.out).mono ?_); rintro e w40 ⟨v210, rfl, ho0, hb⟩; refine ⟨_, rfl, ?_⟩; have n0_ := Aside0.mk (Kd.R_elder' (xR HO207.out) (Kd.R_base ho0) hb); have n1_ := Aside0.mk (Kd.R_lower (Kd.R_new' ho0 (Kd.R_lt (xR HO207.out))) (below_size xG)); have n2_ := Aside0.mk (blk_below (g := gb195) (o := .cells #[.int .u64 0, .int .u64 0] 24 (0, 0)) (xK BK195.out) hb); have n3_ := Aside0.mk (below_step xG hb); clear HO207; clear BK195; clear HB; have HO207 := n0_; have HO211 := n1_; have BK195 := n2_; have HB := n3_; clear n0_ n1_ n2_ n3_; (try clear hb); (try clear hb2); (try clear hk); (try clear hi); (try clear ho0)))
                    (try simp only [Act.put, List.setIfInBounds_toArray, List.set_cons_zero, List.set_cons_succ])
                    go_cut [85] (fun v85 wc => ∃ (kq : Nat) (x85_37 : Bool), v85 = .bool x85_37 ∧ Aside0 (turnpikeref2_Parse.j0 kq ([] : List Int) t204 t208 x85_37 = some (r1, r2, r3)) ∧ Aside0 (kq ≤ k) ∧ Aside0 (Kd.R (Kd.int .i64) 3 wc w.heap.size (fun k_ => some k_ ≠ (v206 : Value).ownBlock ∧ some k_ ≠ (v210 : Value).ownBlock) (.slice none 0 0) ([] : List Int)) ∧ Aside0 (Kd.R (Kd.int .i64) 3 wc w.heap.size (fun k_ => some k_ ≠ ((.slice none 0 0) : Value).ownBlock ∧ some k_ ≠ (v210 : Value).ownBlock) v206 t204) ∧ Aside0 (Kd.R (Kd.int .i64) 3 wc w.heap.size (fun k_ => some k_ ≠ ((.slice none 0 0) : Value).ownBlock ∧ some k_ ≠ (v206 : Value).ownBlock) v210 t208) ∧ Aside0 (wc.heap[gb195]? = some (.cells #[.int .u64 0, .int .u64 0] 24 (0, 0))) ∧ Aside0 (Below w.heap.size w wc))
                    case first =>
                      have H := HC38.out
                      clear HC38
                      by_cases c41 : t205 = true
                      · subst c41
                        have H1 : (if t209 = true then (turnpikeref2_Parse.j0 k ([] : List Int) t204 t208 (decide ((wrap64 ((t204.length : Int) + (t208.length : Int))) > 7))) else (turnpikeref2_Parse.j0 k ([] : List Int) t204 t208 true)) = some (r1, r2, r3) := by rw [if_pos rfl] at H; exact H
                        clear H
                        have H := H1
                        clear H1
                        by_cases c42 : t209 = true
                        · subst c42
                          have H1 : (turnpikeref2_Parse.j0 k ([] : List Int) t204 t208 (decide ((wrap64 ((t204.length : Int) + (t208.length : Int))) > 7))) = some (r1, r2, r3) := by rw [if_pos rfl] at H; exact H
                          clear H
                          have H := H1
                          clear H1
                          have H' := Aside0.mk H
                          clear H
                          obtain ⟨Ao43, co43, eo43⟩ := Kd.R_slice HO207.out
                          subst eo43
                          obtain ⟨Ao44, co44, eo44⟩ := Kd.R_slice HO211.out
                          subst eo44
                          go_wp2
                          go_meet
                          case rel => exact ⟨_, (decide ((wrap64 ((t204.length : Int) + (t208.length : Int))) > 7)), xV, H', ⟨by first | omega | exact Nat.le_refl _⟩, ⟨by first | exact Kd.R_nil _ _ _ _ _ | exact Kd.N_nil _ _ _ _ _ | exact Kd.V_nil _ _ _ _ _ | exact Kd.Q_nil _ _ _ _ _ | exact Kd.S_nil _ _ _ _ _⟩, ⟨by (with_reducible repeat (first | apply Kd.R_alloc | apply Kd.R_drewN | apply Kd.R_drew)); exact Kd.R_mono HO207.out (fun _ hk => ⟨(by simp [Value.ownBlock]), hk.2⟩)⟩, ⟨by (with_reducible repeat (first | apply Kd.R_alloc | apply Kd.R_drewN | apply Kd.R_drew)); exact Kd.R_mono HO211.out (fun _ hk => ⟨(by simp [Value.ownBlock]), hk.2⟩)⟩, ⟨xK BK195.out⟩, ⟨xG⟩⟩
                        · replace c42 := Bool.eq_false_iff.mpr c42
                          subst c42
                          have H1 : (turnpikeref2_Parse.j0 k ([] : List Int) t204 t208 true) = some (r1, r2, r3) := by rw [if_neg (show ¬ (false = true) by decide)] at H; exact H
                          clear H
                          have H := H1
                          clear H1
                          have H' := Aside0.mk H
                          clear H
                          go_wp2
                          go_meet
                          case rel => exact ⟨_, (true), xV, H', ⟨by first | omega | exact Nat.le_refl _⟩, ⟨by first | exact Kd.R_nil _ _ _ _ _ | exact Kd.N_nil _ _ _ _ _ | exact Kd.V_nil _ _ _ _ _ | exact Kd.Q_nil _ _ _ _ _ | exact Kd.S_nil _ _ _ _ _⟩, ⟨by (with_reducible repeat (first | apply Kd.R_alloc | apply Kd.R_drewN | apply Kd.R_drew)); exact Kd.R_mono HO207.out (fun _ hk => ⟨(by simp [Value.ownBlock]), hk.2⟩)⟩, ⟨by (with_reducible repeat (first | apply Kd.R_alloc | apply Kd.R_drewN | apply Kd.R_drew)); exact Kd.R_mono HO211.out (fun _ hk => ⟨(by simp [Value.ownBlock]), hk.2⟩)⟩, ⟨xK BK195.out⟩, ⟨xG⟩⟩
                      · replace c41 := Bool.eq_false_iff.mpr c41
                        subst c41
                        have H1 : (turnpikeref2_Parse.j0 k ([] : List Int) t204 t208 true) = some (r1, r2, r3) := by rw [if_neg (show ¬ (false = true) by decide)] at H; exact H
                        clear H
                        have H := H1
                        clear H1
                        have H' := Aside0.mk H
                        clear H
                        go_wp2
                        go_meet
                        case rel => exact ⟨_, (true), xV, H', ⟨by first | omega | exact Nat.le_refl _⟩, ⟨by first | exact Kd.R_nil _ _ _ _ _ | exact Kd.N_nil _ _ _ _ _ | exact Kd.V_nil _ _ _ _ _ | exact Kd.Q_nil _ _ _ _ _ | exact Kd.S_nil _ _ _ _ _⟩, ⟨by (with_reducible repeat (first | apply Kd.R_alloc | apply Kd.R_drewN | apply Kd.R_drew)); exact Kd.R_mono HO207.out (fun _ hk => ⟨(by simp [Value.ownBlock]), hk.2⟩)⟩, ⟨by (with_reducible repeat (first | apply Kd.R_alloc | apply Kd.R_drewN | apply Kd.R_drew)); exact Kd.R_mono HO211.out (fun _ hk => ⟨(by simp [Value.ownBlock]), hk.2⟩)⟩, ⟨xK BK195.out⟩, ⟨xG⟩⟩
                    case rest =>
                      clear HC38
                      try clear c1
                      try clear c2
                      try clear p2
                      try clear c3
                      try clear c4
                      try clear c5
                      try clear c5b0
                      try clear c5b1
                      try clear p6
                      try clear c8
                      try clear c8b0
                      try clear c8b1
                      try clear c10
                      try clear c20
                      try clear c20b0
                      try clear c22
                      try clear c23
                      try clear c23b0
                      try clear c23b1
                      try clear c31
                      try clear c31b0
                      try clear c31b1
                      try clear c32
                      try clear c32b0
                      try clear c32b1
                      try clear c33
                      try clear c34
                      try clear c35
                      try clear c35b0
                      try clear c35b1
                      try clear c36
                      try clear c36b0
                      try clear c36b1
                      try clear c41
                      try clear c42
                      try clear hcz13_0
                      try clear hcz13_1
                      try clear hcz16_0
                      try clear hcz16_1
                      try clear hcz28_0
                      try clear hcz28_1
                      try clear hcz30_0
                      try clear hcz30_1
                      try clear hcz7_0
                      try clear hcz7_1
                      try clear hfz13_0
                      try clear hfz13_1
                      try clear hfz16_0
                      try clear hfz16_1
                      try clear hfz28_0
                      try clear hfz28_1
                      try clear hfz30_0
                      try clear hfz30_1
                      try clear hfz7_0
                      try clear hfz7_1
                      obtain ⟨kq, x85_37, rfl, HA, HJ37, HO_8, HO_12, HO_14, BK195, HB⟩ := hcut
                      cases kq with
                      | zero => exact absurd HA.out (by simp [turnpikeref2_Parse.j0])
                      | succ kj37 =>
                        have H := HA.out
                        clear HA
                        simp only [turnpikeref2_Parse.j0] at H
                        by_cases c45 : x85_37 = true
                        · subst c45
                          have H1 : (some (0, 0, 12)) = some (r1, r2, r3) := by rw [if_pos rfl] at H; exact H
                          clear H
                          have H := H1
                          clear H1
                          simp only [Option.some.injEq, Prod.mk.injEq] at H
                          obtain ⟨rfl, rfl, rfl⟩ := H
                          have hcz46_0 : wc.cell? ⟨gb195, 0, none⟩ = some (.int .u64 0) := (blk_cell BK195.out 0).trans rfl
                          have hcz46_1 : wc.cell? ⟨gb195, 1, none⟩ = some (.int .u64 0) := (blk_cell BK195.out 1).trans rfl
                          have hfz46_0 := blk_frozen BK195.out 0
                          have hfz46_1 := blk_frozen BK195.out 1
                          go_wp2
                          refine bodyPost_ret (results_ct rfl _ _ gb195 24 #[.int .u64 0, .int .u64 0] (0, 0) _ rfl (by (with_reducible repeat (first | refine blk_drewN ?_ _ | refine blk_drew ?_ | refine blk_alloc ?_ _)); refine blk_put (cs := #[.int .u64 0, .int .u64 0]) ?_ 1 _ rfl; (with_reducible repeat (first | refine blk_drewN ?_ _ | refine blk_drew ?_ | refine blk_alloc ?_ _)); refine blk_put (cs := #[.int .u64 0, .int .u64 0]) ?_ 0 _ rfl; (with_reducible repeat (first | refine blk_drewN ?_ _ | refine blk_drew ?_ | refine blk_alloc ?_ _)); exact BK195.out) Try.underlying24 rfl (by kernel_rfl)) rfl ?_
                          exact ⟨by first | rfl | (simp [errW_none, errW_some] <;> rfl) | (simp only [← hji34]; first | rfl | (simp [errW_none, errW_some] <;> rfl)) | (simp [*, errW_none, errW_some] <;> rfl), xG⟩
                        · replace c45 := Bool.eq_false_iff.mpr c45
                          subst c45
                          have H1 : (if ([] : List Int).length + t204.length < 17592186044416 then (turnpikeref2_Parse.l0 kj37 (([] : List Int) ++ t204) t208) else (none)) = some (r1, r2, r3) := by rw [if_neg (show ¬ (false = true) by decide)] at H; exact H
                          clear H
                          have H := H1
                          clear H1
                          by_cases c47 : ([] : List Int).length + t204.length < 17592186044416
                          · rw [if_pos c47] at H
                            have LMc47 := Aside0.mk c47
                            clear c47
                            obtain ⟨y212, hy212⟩ : ∃ y_ : List Int, y_ = (([] : List Int) ++ t204) := ⟨_, rfl⟩
                            replace H : (turnpikeref2_Parse.l0 kj37 y212 t208) = some (r1, r2, r3) := by first | (rw [hy212]; with_reducible exact H) | (have H2_ := (Option.bind_some _ _).symm.trans H; rw [hy212]; with_reducible exact H2_) | (have H2_ := (Option.bind_some _ _).symm.trans H; with_reducible exact H2_) | with_reducible exact H | (rw [hy212]; exact H) | exact H
                            have Ny212 := Aside0.mk hy212
                            clear hy212
                            have H' := Aside0.mk H
                            clear H
                            obtain ⟨Ao49, co49, eo49⟩ := Kd.R_slice HO_12.out
                            subst eo49
                            go_wp2_with (first | ((with_reducible refine gate_builtin (b := .append) (xs := #[.tmp 87, .tmp 88]) rfl ?_); (try (refine gate_guard (by rfl) ?_; dsimp only)); at_builtin; refine Kd.R_append_rows (Kd.int .i64) (w0 := w) w.heap.size rfl (.tmp 87) (.tmp 88) 37 3 (.int .i64 0) 8 rfl Try.underlying37 info3 rfl (by decide) (by omega) (.slice none 0 0) ([] : List Int) t204 _ _ _ (fun k_ => some k_ ≠ (.slice Ao49 t204.length co49 : Value).ownBlock ∧ some k_ ≠ (v210 : Value).ownBlock) (fun _ => False) rfl rfl ?aO ?aR (fun _ _ h => h) (fun _ h => h.elim) ?aF ?aB ?aS ?aL ?_; (case aR => repeat (first | exact (Kd.R_reads' HO_12.out).2.2 | (with_reducible refine Kd.C_alloc ?_ _) | (with_reducible refine Kd.C_drewN ?_ _) | (with_reducible refine Kd.C_drew ?_))); (case aB => exact xG); (case aF => exact (fun k_ hk => ⟨Kd.fresh' (Kd.R_lt (xR HO_12.out)) k_ hk, Kd.fresh' (Kd.R_lt (xR HO_14.out)) k_ hk⟩)); (case aO => exact (xR HO_8.out)); (case aS => exact (below_size xG)); (case aL => have := LMc47.out; omega); intro v213 w48 ho hb hg hat; rw [← Ny212.out] at ho; have n0_ := Aside0.mk (Kd.R_after (ok := (fun k_ => some k_ ≠ (v210 : Value).ownBlock)) (by (with_reducible repeat (first | apply Kd.R_alloc | apply Kd.R_drewN | apply Kd.R_drew)); exact Kd.R_mono HO_12.out (fun _ hk => ⟨hk.2, hk.1⟩)) hg hat); have n1_ := Aside0.mk (Kd.R_after (ok := (fun k_ => some k_ ≠ (.slice Ao49 t204.length co49 : Value).ownBlock)) (by (with_reducible repeat (first | apply Kd.R_alloc | apply Kd.R_drewN | apply Kd.R_drew)); exact Kd.R_mono HO_14.out (fun _ hk => ⟨hk.2, hk.1⟩)) hg hat); have n2_ := Aside0.mk (blk_grown (g := gb195) (o := .cells #[.int .u64 0, .int .u64 0] 24 (0, 0)) (xK BK195.out) hg (Kd.R_ne HO_8.out BK195.out (by decide))); have n3_ := Aside0.mk (hb); have n4_ := Aside0.mk (ho); clear HO_12; clear HO_14; clear BK195; clear HB; clear HO_8; have HO_12 := n0_; have HO_14 := n1_; have BK195 := n2_; have HB := n3_; have HO214 := n4_; clear n0_ n1_ n2_ n3_ n4_; clear ho hb hg hat))
                            go_loopg [8] kj37 (fun kq v8 w' => ∃ (x8_2 : List Int), Aside0 (turnpikeref2_Parse.l0 kq x8_2 t208 = some (r1, r2, r3)) ∧ Aside0 (kq ≤ kj37) ∧ Aside0 (Kd.R (Kd.int .i64) 3 w' w.heap.size (fun k_ => some k_ ≠ (v210 : Value).ownBlock) v8 x8_2) ∧ Aside0 (Kd.R (Kd.int .i64) 3 w' w.heap.size (fun k_ => some k_ ≠ (v8 : Value).ownBlock) v210 t208) ∧ Aside0 (w'.heap[gb195]? = some (.cells #[.int .u64 0, .int .u64 0] 24 (0, 0))) ∧ Aside0 (Below w.heap.size w w'))
                            case atStart => exact ⟨(y212), H', ⟨Nat.le_refl _⟩, ⟨by (with_reducible repeat (first | apply Kd.R_alloc | apply Kd.R_drewN | apply Kd.R_drew)); exact Kd.R_mono HO214.out (fun _ hk => hk.2)⟩, ⟨by (with_reducible repeat (first | apply Kd.R_alloc | apply Kd.R_drewN | apply Kd.R_drew)); exact Kd.R_mono HO_14.out (fun _ hk => hk.2)⟩, ⟨xK BK195.out⟩, ⟨xG⟩⟩
                            case round =>
                              clear H'
                              try clear c1
                              try clear c2
                              try clear p2
                              try clear c3
                              try clear c4
                              try clear c5
                              try clear c5b0
                              try clear c5b1
                              try clear p6
                              try clear c8
                              try clear c8b0
                              try clear c8b1
                              try clear c10
                              try clear c20
                              try clear c20b0
                              try clear c22
                              try clear c23
                              try clear c23b0
                              try clear c23b1
                              try clear c31
                              try clear c31b0
                              try clear c31b1
                              try clear c32
                              try clear c32b0
                              try clear c32b1
                              try clear c33
                              try clear c34
                              try clear c35
                              try clear c35b0
                              try clear c35b1
                              try clear c36
                              try clear c36b0
                              try clear c36b1
                              try clear c41
                              try clear c42
                              try clear c45
                              try clear c47
                              try clear hcz13_0
                              try clear hcz13_1
                              try clear hcz16_0
                              try clear hcz16_1
                              try clear hcz28_0
                              try clear hcz28_1
                              try clear hcz30_0
                              try clear hcz30_1
                              try clear hcz46_0
                              try clear hcz46_1
                              try clear hcz7_0
                              try clear hcz7_1
                              try clear hfz13_0
                              try clear hfz13_1
                              try clear hfz16_0
                              try clear hfz16_1
                              try clear hfz28_0
                              try clear hfz28_1
                              try clear hfz30_0
                              try clear hfz30_1
                              try clear hfz46_0
                              try clear hfz46_1
                              try clear hfz7_0
                              try clear hfz7_1
                              try clear p2
                              try clear p6
                              obtain ⟨x8_2, HA, HK2, HO_8, HO_14, BK195, HB⟩ := hrel
                              cases gk with
                              | zero => exact absurd HA.out (by simp [turnpikeref2_Parse.l0])
                              | succ k2 =>
                                have H := HA.out
                                clear HA
                                simp only [turnpikeref2_Parse.l0] at H
                                by_cases c50 : (wrap64 ((x8_2.length : Int) + (t208.length : Int))) < 8
                                · rw [if_pos c50] at H
                                  have c50b0 : decide ((wrap64 ((x8_2.length : Int) + (t208.length : Int))) < 8) = true := decide_eq_true c50
                                  clear c50
                                  by_cases c51 : x8_2.length < 17592186044416
                                  · rw [if_pos c51] at H
                                    have LMc51 := Aside0.mk c51
                                    clear c51
                                    obtain ⟨y215, hy215⟩ : ∃ y_ : List Int, y_ = (x8_2 ++ [0]) := ⟨_, rfl⟩
                                    replace H : (turnpikeref2_Parse.l0 k2 y215 t208) = some (r1, r2, r3) := by first | (rw [hy215]; with_reducible exact H) | (have H2_ := (Option.bind_some _ _).symm.trans H; rw [hy215]; with_reducible exact H2_) | (have H2_ := (Option.bind_some _ _).symm.trans H; with_reducible exact H2_) | with_reducible exact H | (rw [hy215]; exact H) | exact H
                                    have Ny215 := Aside0.mk hy215
                                    clear hy215
                                    have H' := Aside0.mk H
                                    clear H
                                    obtain ⟨Ao52, co52, eo52⟩ := Kd.R_slice HO_8.out
                                    subst eo52
                                    obtain ⟨Ao53, co53, eo53⟩ := Kd.R_slice HO_14.out
                                    subst eo53
                                    go_wp2_with (first | ((with_reducible refine gate_builtin (b := .append) (xs := #[.tmp 96, .tmp 97]) rfl ?_); (try (refine gate_guard (by rfl) ?_; dsimp only)); at_builtin; refine Kd.R_append (Kd.int .i64) (w0 := w) w.heap.size rfl (.tmp 96) (.tmp 97) 37 3 (.int .i64 0) 8 rfl Try.underlying37 info3 rfl (by decide) (by omega) (.slice Ao52 x8_2.length co52) x8_2 0 [.int .i64 0] (fun k_ => some k_ ≠ (.slice Ao53 t208.length co53 : Value).ownBlock) (fun _ => False) rfl rfl ?aP (fun _ hk => hk.elim) ?aF ?aO ?aB ?aS ?aL ?_; (case aP => exact rfl); (case aB => exact xG); (case aF => exact (fun k_ hk => Kd.fresh' (Kd.R_lt (xR HO_14.out)) k_ hk)); (case aO => exact (xR HO_8.out)); (case aS => exact (below_size xG)); (case aL => have := LMc51.out; omega); intro v216 w54 ho hb hg hat; rw [← Ny215.out] at ho; have n0_ := Aside0.mk (Kd.R_after (ok := (fun _ => True)) (by (with_reducible repeat (first | apply Kd.R_alloc | apply Kd.R_drewN | apply Kd.R_drew)); exact Kd.R_mono HO_14.out (fun _ hk => ⟨trivial, hk⟩)) hg hat); have n1_ := Aside0.mk (blk_grown (g := gb195) (o := .cells #[.int .u64 0, .int .u64 0] 24 (0, 0)) (xK BK195.out) hg (Kd.R_ne HO_8.out BK195.out (by decide))); have n2_ := Aside0.mk (hb); have n3_ := Aside0.mk (ho); clear HO_14; clear BK195; clear HB; clear HO_8; have HO_14 := n0_; have BK195 := n1_; have HB := n2_; have HO217 := n3_; clear n0_ n1_ n2_ n3_; clear ho hb hg hat))
                                    go_roundg k2
                                    case measure => have := HJ37.out; have := HK2.out; omega
                                    case rel => exact ⟨(y215), H', ⟨by have := HJ37.out; have := HK2.out; omega⟩, ⟨xR HO217.out⟩, ⟨by (with_reducible repeat (first | apply Kd.R_alloc | apply Kd.R_drewN | apply Kd.R_drew)); exact Kd.R_mono HO_14.out (fun _ hk => hk.2)⟩, ⟨xK BK195.out⟩, ⟨xG⟩⟩
                                  · rw [if_neg c51] at H
                                    exact absurd H (by simp)
                                · rw [if_neg c50] at H
                                  have c50b0 : decide ((wrap64 ((x8_2.length : Int) + (t208.length : Int))) < 8) = false := decide_eq_false c50
                                  clear c50
                                  by_cases c55 : x8_2.length + t208.length < 17592186044416
                                  · rw [if_pos c55] at H
                                    have LMc55 := Aside0.mk c55
                                    clear c55
                                    obtain ⟨y218, hy218⟩ : ∃ y_ : List Int, y_ = (x8_2 ++ t208) := ⟨_, rfl⟩
                                    replace H : (turnpikeref2_Parse.j2 k2 y218) = some (r1, r2, r3) := by first | (rw [hy218]; with_reducible exact H) | (have H2_ := (Option.bind_some _ _).symm.trans H; rw [hy218]; with_reducible exact H2_) | (have H2_ := (Option.bind_some _ _).symm.trans H; with_reducible exact H2_) | with_reducible exact H | (rw [hy218]; exact H) | exact H
                                    have Ny218 := Aside0.mk hy218
                                    clear hy218
                                    have H' := Aside0.mk H
                                    clear H
                                    obtain ⟨Ao56, co56, eo56⟩ := Kd.R_slice HO_8.out
                                    subst eo56
                                    obtain ⟨Ao57, co57, eo57⟩ := Kd.R_slice HO_14.out
                                    subst eo57
                                    go_wp2_with (first | ((with_reducible refine gate_builtin (b := .append) (xs := #[.tmp 99, .tmp 100]) rfl ?_); (try (refine gate_guard (by rfl) ?_; dsimp only)); at_builtin; refine Kd.R_append_rows (Kd.int .i64) (w0 := w) w.heap.size rfl (.tmp 99) (.tmp 100) 37 3 (.int .i64 0) 8 rfl Try.underlying37 info3 rfl (by decide) (by omega) (.slice Ao56 x8_2.length co56) x8_2 t208 _ _ _ (fun k_ => some k_ ≠ (.slice Ao57 t208.length co57 : Value).ownBlock) (fun _ => False) rfl rfl ?aO ?aR (fun _ _ h => h) (fun _ h => h.elim) ?aF ?aB ?aS ?aL ?_; (case aR => repeat (first | exact (Kd.R_reads' HO_14.out).2.2 | (with_reducible refine Kd.C_alloc ?_ _) | (with_reducible refine Kd.C_drewN ?_ _) | (with_reducible refine Kd.C_drew ?_))); (case aB => exact xG); (case aF => exact (fun k_ hk => Kd.fresh' (Kd.R_lt (xR HO_14.out)) k_ hk)); (case aO => exact (xR HO_8.out)); (case aS => exact (below_size xG)); (case aL => have := LMc55.out; omega); intro v219 w58 ho hb hg hat; rw [← Ny218.out] at ho; have n0_ := Aside0.mk (Kd.R_after (ok := (fun _ => True)) (by (with_reducible repeat (first | apply Kd.R_alloc | apply Kd.R_drewN | apply Kd.R_drew)); exact Kd.R_mono HO_14.out (fun _ hk => ⟨trivial, hk⟩)) hg hat); have n1_ := Aside0.mk (blk_grown (g := gb195) (o := .cells #[.int .u64 0, .int .u64 0] 24 (0, 0)) (xK BK195.out) hg (Kd.R_ne HO_8.out BK195.out (by decide))); have n2_ := Aside0.mk (hb); have n3_ := Aside0.mk (ho); clear HO_14; clear BK195; clear HB; clear HO_8; have HO_14 := n0_; have BK195 := n1_; have HB := n2_; have HO220 := n3_; clear n0_ n1_ n2_ n3_; clear ho hb hg hat))
                                    go_meet
                                    case rel => exact ⟨_, (y218), (0), (0), H', ⟨by have := HJ37.out; have := HK2.out; first | omega | exact Nat.le_refl _⟩, ⟨by (with_reducible repeat (first | apply Kd.R_alloc | apply Kd.R_drewN | apply Kd.R_drew)); exact Kd.R_mono HO220.out (fun _ hk => trivial)⟩, ⟨xK BK195.out⟩, ⟨xG⟩⟩
                                  · rw [if_neg c55] at H
                                    exact absurd H (by simp)
                          · rw [if_neg c47] at H
                            exact absurd H (by simp)
                  · rw [if_neg c36] at H
                    exact absurd H (by simp)
                · rw [if_neg c35] at H
                  exact absurd H (by simp)
              · rw [if_neg c32] at H
                exact absurd H (by simp)
            · rw [if_neg c31] at H
              exact absurd H (by simp)
        case rest =>
          clear HC18
          try clear c1
          try clear c2
          try clear p2
          try clear c3
          try clear c4
          try clear c5
          try clear c5b0
          try clear c5b1
          try clear p6
          try clear c8
          try clear c8b0
          try clear c8b1
          try clear c10
          try clear c20
          try clear c20b0
          try clear c22
          try clear c23
          try clear c23b0
          try clear c23b1
          try clear c31
          try clear c31b0
          try clear c31b1
          try clear c32
          try clear c32b0
          try clear c32b1
          try clear c33
          try clear c34
          try clear c35
          try clear c35b0
          try clear c35b1
          try clear c36
          try clear c36b0
          try clear c36b1
          try clear c41
          try clear c42
          try clear c45
          try clear c47
          try clear c50
          try clear c50b0
          try clear c51
          try clear c55
          try clear hcz13_0
          try clear hcz13_1
          try clear hcz16_0
          try clear hcz16_1
          try clear hcz28_0
          try clear hcz28_1
          try clear hcz30_0
          try clear hcz30_1
          try clear hcz46_0
          try clear hcz46_1
          try clear hcz7_0
          try clear hcz7_1
          try clear hfz13_0
          try clear hfz13_1
          try clear hfz16_0
          try clear hfz16_1
          try clear hfz28_0
          try clear hfz28_1
          try clear hfz30_0
          try clear hfz30_1
          try clear hfz46_0
          try clear hfz46_1
          try clear hfz7_0
          try clear hfz7_1
          try clear p2
          try clear p6
          obtain ⟨kq, x8_17, x196000_17, x196001_17, HA, HJ17, HO_8, BK195, HB⟩ := hcut
          cases kq with
          | zero => exact absurd HA.out (by simp [turnpikeref2_Parse.j2])
          | succ kj17 =>
            have H := HA.out
            clear HA
            simp only [turnpikeref2_Parse.j2] at H
            have H' := Aside0.mk H
            clear H
            go_wp2_with (first | ((with_reducible refine gate_dst (N := 16) rfl ?_); (try (refine gate_guard (by rfl) ?_; dsimp only)); refine box_event ?hg (N := 16) ?hd (cs := #[.int .u64 0, .int .u64 0]) (t := 24) ?hr ?_; (case hd => rfl); (case hg => rfl); (case hr => first | (go_simp; done) | (go_simp; rfl)); intro gb221 hg w59 hbox hb; have n0_ := Aside0.mk (Kd.R_below (xR HO_8.out) hb); have n1_ := Aside0.mk (blk_below (g := gb195) (o := .cells #[.int .u64 x196000_17, .int .u64 x196001_17] 24 (0, 0)) (xK BK195.out) hb); have n2_ := Aside0.mk (below_step xG hb); have n3_ := Aside0.mk (hbox); have n4_ := Aside0.mk ((by rw [hg]; exact (below_size xG) : w.heap.size ≤ gb221)); have n5_ := Aside0.mk ((by rw [hg]; exact (below_size xG) : w.heap.size ≤ gb221)); have n6_ := Aside0.mk ((xN BK195.out : gb195 ≠ gb221)); have n7_ := Aside0.mk ((xN BK195.out : gb221 ≠ gb195)); clear HO_8; clear BK195; clear HB; have HO_8 := n0_; have BK195 := n1_; have HB := n2_; have BK221 := n3_; have GW221 := n4_; have GE221 := n5_; have NB195_221 := n6_; have NB221_195 := n7_; clear n0_ n1_ n2_ n3_ n4_ n5_ n6_ n7_; clear hb hbox hg))
            go_loopg [17] kj17 (fun kq v17 w' => ∃ (x17_2 : Int) (x222000_2 : Int) (x222001_2 : Int), v17 = .int .i64 x17_2 ∧ Aside0 (turnpikeref2_Parse.l1 kq x8_17 x17_2 x222000_2 x222001_2 = some (r1, r2, r3)) ∧ Aside0 (kq ≤ kj17) ∧ Aside0 (Kd.R (Kd.int .i64) 3 w' w.heap.size (fun _ => True) u8 x8_17) ∧ Aside0 (w'.heap[gb195]? = some (.cells #[.int .u64 x196000_17, .int .u64 x196001_17] 24 (0, 0))) ∧ Aside0 (w'.heap[gb221]? = some (.cells #[.int .u64 x222000_2, .int .u64 x222001_2] 24 (0, 0))) ∧ Aside0 (Below w.heap.size w w'))
            case atStart => exact ⟨(0), (0), (0), xV, H', ⟨Nat.le_refl _⟩, ⟨xR HO_8.out⟩, ⟨xK BK195.out⟩, ⟨xK BK221.out⟩, ⟨xG⟩⟩
            case round =>
              clear H'
              try clear c1
              try clear c2
              try clear p2
              try clear c3
              try clear c4
              try clear c5
              try clear c5b0
              try clear c5b1
              try clear p6
              try clear c8
              try clear c8b0
              try clear c8b1
              try clear c10
              try clear c20
              try clear c20b0
              try clear c22
              try clear c23
              try clear c23b0
              try clear c23b1
              try clear c31
              try clear c31b0
              try clear c31b1
              try clear c32
              try clear c32b0
              try clear c32b1
              try clear c33
              try clear c34
              try clear c35
              try clear c35b0
              try clear c35b1
              try clear c36
              try clear c36b0
              try clear c36b1
              try clear c41
              try clear c42
              try clear c45
              try clear c47
              try clear c50
              try clear c50b0
              try clear c51
              try clear c55
              try clear hcz13_0
              try clear hcz13_1
              try clear hcz16_0
              try clear hcz16_1
              try clear hcz28_0
              try clear hcz28_1
              try clear hcz30_0
              try clear hcz30_1
              try clear hcz46_0
              try clear hcz46_1
              try clear hcz7_0
              try clear hcz7_1
              try clear hfz13_0
              try clear hfz13_1
              try clear hfz16_0
              try clear hfz16_1
              try clear hfz28_0
              try clear hfz28_1
              try clear hfz30_0
              try clear hfz30_1
              try clear hfz46_0
              try clear hfz46_1
              try clear hfz7_0
              try clear hfz7_1
              try clear p2
              try clear p6
              obtain ⟨x17_2, x222000_2, x222001_2, rfl, HA, HK2, HO_8, BK195, BK221, HB⟩ := hrel
              cases gk with
              | zero => exact absurd HA.out (by simp [turnpikeref2_Parse.l1])
              | succ k2 =>
                have H := HA.out
                clear HA
                simp only [turnpikeref2_Parse.l1] at H
                by_cases c60 : x17_2 < 8
                · rw [if_pos c60] at H
                  have c60b0 : decide (x17_2 < 8) = true := decide_eq_true c60
                  clear c60
                  replace H := Option.bind_eq_some_iff.mp H
                  obtain ⟨⟨t222, t223⟩, A610, H⟩ := H
                  replace H : (if 0 ≤ x17_2 then (if x17_2 < (x8_17.length : Int) then (turnpikeref2_Parse.l1 k2 x8_17 (wrap64 (x17_2 + 1)) t222 (Go.bits .or .u64 t223 (IntKind.u64.wrap (rd x8_17 x17_2)))) else (none)) else (none)) = some (r1, r2, r3) := H
                  have A61 := Aside0.mk A610
                  clear A610
                  by_cases c62 : 0 ≤ x17_2
                  · rw [if_pos c62] at H
                    have c62b0 : decide (0 ≤ x17_2) = true := decide_eq_true c62
                    clear c62
                    by_cases c63 : x17_2 < (x8_17.length : Int)
                    · rw [if_pos c63] at H
                      have c63b0 : decide (x17_2 < (x8_17.length : Int)) = true := decide_eq_true c63
                      clear c63
                      have H' := Aside0.mk H
                      clear H
                      have hnb64 := NB221_195.out
                      have hnc64 := NB195_221.out
                      have hcz65_0 : wr.cell? ⟨gb221, 0, none⟩ = some (.int .u64 x222000_2) := (blk_cell BK221.out 0).trans rfl
                      have hcz65_1 : wr.cell? ⟨gb221, 1, none⟩ = some (.int .u64 x222001_2) := (blk_cell BK221.out 1).trans rfl
                      have hfz65_0 := blk_frozen BK221.out 0
                      have hfz65_1 := blk_frozen BK221.out 1
                      try go_wp2_with (first | ((with_reducible refine gate_callee (f := 15) rfl ?_); refine goesL_ (some 107) rfl rfl Try.func15 (by kernel_rfl) rfl #[.agg #[.int .u64 x222000_2, .int .u64 x222001_2], .int .i64 16] rfl xM ?_; (with_reducible refine (turnpikeref1_Shl.calls x222000_2 x222001_2 16 t222 t223 _ A61.out).mono ?_); rintro e w66 ⟨rfl, hb⟩; refine ⟨_, rfl, ?_⟩; have n0_ := Aside0.mk (Kd.R_below (xR HO_8.out) hb); have n1_ := Aside0.mk (blk_below (g := gb195) (o := .cells #[.int .u64 x196000_17, .int .u64 x196001_17] 24 (0, 0)) (xK BK195.out) hb); have n2_ := Aside0.mk (blk_below (g := gb221) (o := .cells #[.int .u64 x222000_2, .int .u64 x222001_2] 24 (0, 0)) (xK BK221.out) hb); have n3_ := Aside0.mk (below_step xG hb); clear HO_8; clear BK195; clear BK221; clear HB; have HO_8 := n0_; have BK195 := n1_; have BK221 := n2_; have HB := n3_; clear n0_ n1_ n2_ n3_; (try clear hb); (try clear hb2); (try clear hk); (try clear hi); have hcz67_0 : w66.cell? ⟨gb221, 0, none⟩ = some (.int .u64 x222000_2) := (blk_cell BK221.out 0).trans rfl; have hcz67_1 : w66.cell? ⟨gb221, 1, none⟩ = some (.int .u64 x222001_2) := (blk_cell BK221.out 1).trans rfl; have hfz67_0 := blk_frozen BK221.out 0; have hfz67_1 := blk_frozen BK221.out 1))
                      have n0_ : Aside0 (Kd.R (Kd.int .i64) 3 ((w66.setCell ⟨gb221, 0, none⟩ (.int .u64 t222)).setCell ⟨gb221, 1, none⟩ (.int .u64 t223)) w.heap.size (fun _ => True) u8 x8_17) := ⟨by (with_reducible repeat (first | apply Kd.R_alloc | apply Kd.R_drewN | apply Kd.R_drew)); exact Kd.R_mono (Kd.R_far (p := ⟨gb221, 1, none⟩) (Kd.R_far (p := ⟨gb221, 0, none⟩) (Kd.R_types HO_8.out BK221.out (by decide)) (fun _ hk => hk.2) (.int .u64 t222)) (fun _ hk => hk.2) (.int .u64 t223)) (fun _ hk => trivial)⟩
                      have n1_ : Aside0 (((w66.setCell ⟨gb221, 0, none⟩ (.int .u64 t222)).setCell ⟨gb221, 1, none⟩ (.int .u64 t223)).heap[gb195]? = some (.cells #[.int .u64 x196000_17, .int .u64 x196001_17] 24 (0, 0))) := ⟨by (with_reducible repeat (first | refine blk_drewN ?_ _ | refine blk_drew ?_ | refine blk_alloc ?_ _)); refine blk_far ?_ NB195_221.out _; (with_reducible repeat (first | refine blk_drewN ?_ _ | refine blk_drew ?_ | refine blk_alloc ?_ _)); refine blk_far ?_ NB195_221.out _; (with_reducible repeat (first | refine blk_drewN ?_ _ | refine blk_drew ?_ | refine blk_alloc ?_ _)); exact BK195.out⟩
                      have n2_ : Aside0 (((w66.setCell ⟨gb221, 0, none⟩ (.int .u64 t222)).setCell ⟨gb221, 1, none⟩ (.int .u64 t223)).heap[gb221]? = some (.cells #[.int .u64 t222, .int .u64 t223] 24 (0, 0))) := ⟨by (with_reducible repeat (first | refine blk_drewN ?_ _ | refine blk_drew ?_ | refine blk_alloc ?_ _)); refine blk_put (cs := #[.int .u64 t222, .int .u64 x222001_2]) ?_ 1 _ rfl; (with_reducible repeat (first | refine blk_drewN ?_ _ | refine blk_drew ?_ | refine blk_alloc ?_ _)); refine blk_put (cs := #[.int .u64 x222000_2, .int .u64 x222001_2]) ?_ 0 _ rfl; (with_reducible repeat (first | refine blk_drewN ?_ _ | refine blk_drew ?_ | refine blk_alloc ?_ _)); exact BK221.out⟩
                      have n3_ : Aside0 (Below w.heap.size w ((w66.setCell ⟨gb221, 0, none⟩ (.int .u64 t222)).setCell ⟨gb221, 1, none⟩ (.int .u64 t223))) := ⟨xG⟩
                      (try clear HO_8)
                      (try clear BK195)
                      (try clear BK221)
                      (try clear HB)
                      generalize ((w66.setCell ⟨gb221, 0, none⟩ (.int .u64 t222)).setCell ⟨gb221, 1, none⟩ (.int .u64 t223)) = w68 at n0_ n1_ n2_ n3_ ⊢
                      have HO_8 := n0_
                      have BK195 := n1_
                      have BK221 := n2_
                      have HB := n3_
                      clear n0_ n1_ n2_ n3_
                      have n0_ := Aside0.mk (Kd.R_drew HO_8.out)
                      have n1_ := Aside0.mk (blk_drew BK195.out)
                      have n2_ := Aside0.mk (blk_drew BK221.out)
                      have n3_ := Aside0.mk (below_drew1 HB.out)
                      clear HO_8
                      clear BK195
                      clear BK221
                      clear HB
                      have HO_8 := n0_
                      have BK195 := n1_
                      have BK221 := n2_
                      have HB := n3_
                      clear n0_ n1_ n2_ n3_
                      obtain ⟨Ao70, co70, eo70⟩ := Kd.R_slice HO_8.out
                      (first | subst eo70 | (injection eo70 with f1_ f2_ f3_; have f4_ := f1_.symm; have f5_ := f3_.symm; clear f1_ f2_ f3_; subst f4_; subst f5_))
                      have p224 : 0 ≤ (x17_2 : Int) := of_decide_eq_true xA
                      have q224 : x17_2 < (x8_17.length : Int) := of_decide_eq_true xA
                      obtain ⟨ad224, e224, hx224_0⟩ := Kd.at_int (Kd.R_reads' HO_8.out).2.2 x17_2 p224 q224
                      cases e224
                      replace p224 := eq_true p224
                      replace q224 := eq_true q224
                      refine start_ (n := 10) (S := fun w' => w'.cell? ⟨gb221, 0, none⟩ = some (.int .u64 t222) ∧ w'.cell? ⟨gb221, 1, none⟩ = some (.int .u64 t223) ∧ w'.cell? (ad224.add (x17_2).toNat) = some (.int .i64 (rd x8_17 x17_2))) (ds := [9]) #[false, false, false, false, false, false, false, false, false, false] (by kernel_rfl) rfl rfl ⟨(blk_cell BK221.out 0).trans rfl, (blk_cell BK221.out 1).trans rfl, hx224_0⟩ (fun hHeld => ?_); refine with_tabW turnpikeref2_Parse.tab30 turnpikeref2_Parse.bits30 (fun HT_ HW_ => ?_)
                      generalize w68.drew = w69 at HO_8 BK195 BK221 HB hx224_0 hHeld ⊢
                      refine pure_ (i := 0) (N := some 108) (v := ?_) (a' := ?_) #[true, false, false, false, false, false, false, false, false, false] rfl rfl (any_of HT_.out (by kernel_rfl)) (fun _ _ _ h => h) (Or.inl ⟨by rfl, ?_⟩) ?_ ?_
                      rotate_left
                      · intro w'
                        go_simp
                        with_reducible rfl
                      rotate_left
                      · simp only [Act.put, List.setIfInBounds_toArray, List.set_cons_zero, List.set_cons_succ, i64_w, i32_w]
                        rfl
                      refine pure_ (i := 2) (N := some 110) (v := ?_) (a' := ?_) #[true, false, true, false, false, false, false, false, false, false] rfl rfl (any_of HT_.out (by kernel_rfl)) (fun _ _ _ h => h) (Or.inl ⟨by rfl, ?_⟩) ?_ ?_
                      rotate_left
                      · intro w'
                        go_simp
                        with_reducible rfl
                      rotate_left
                      · simp only [Act.put, List.setIfInBounds_toArray, List.set_cons_zero, List.set_cons_succ, i64_w, i32_w]
                        rfl
                      refine pure_ (i := 3) (N := some 111) (v := ?_) (a' := ?_) #[true, false, true, true, false, false, false, false, false, false] rfl rfl (any_of HT_.out (by kernel_rfl)) (fun _ _ _ h => h) (Or.inl ⟨by rfl, ?_⟩) ?_ ?_
                      rotate_left
                      · intro w'
                        go_simp
                        with_reducible rfl
                      rotate_left
                      · simp only [Act.put, List.setIfInBounds_toArray, List.set_cons_zero, List.set_cons_succ, i64_w, i32_w]
                        rfl
                      refine pure_ (i := 4) (N := some 112) (v := ?_) (a' := ?_) #[true, false, true, true, true, false, false, false, false, false] rfl rfl (any_of HT_.out (by kernel_rfl)) (fun _ _ _ h => h) (Or.inl ⟨by rfl, ?_⟩) ?_ ?_
                      rotate_left
                      · intro w'
                        go_simp
                        with_reducible rfl
                      rotate_left
                      · simp only [Act.put, List.setIfInBounds_toArray, List.set_cons_zero, List.set_cons_succ, i64_w, i32_w]
                        rfl
                      refine take_ (i := 1) (N := some 109) (v := ?_) (a' := ?_) #[true, true, true, true, true, false, false, false, false, false] rfl rfl (take_ofW HT_.out HW_.out (by kernel_rfl)) (fun _ _ _ h => h) (Or.inl ⟨by rfl, ?_⟩) hHeld ?_ ?_
                      rotate_left
                      · rintro w' ⟨s0, s1, s2⟩
                        go_simp
                        with_reducible rfl
                      rotate_left
                      · simp only [Act.put, List.setIfInBounds_toArray, List.set_cons_zero, List.set_cons_succ, i64_w, i32_w]
                        rfl
                      refine take_ (i := 5) (N := some 113) (v := ?_) (a' := ?_) #[true, true, true, true, true, true, false, false, false, false] rfl rfl (take_ofW HT_.out HW_.out (by kernel_rfl)) (fun _ _ _ h => h) (Or.inl ⟨by rfl, ?_⟩) hHeld ?_ ?_
                      rotate_left
                      · rintro w' ⟨s0, s1, s2⟩
                        go_simp
                        with_reducible rfl
                      rotate_left
                      · simp only [Act.put, List.setIfInBounds_toArray, List.set_cons_zero, List.set_cons_succ, i64_w, i32_w]
                        rfl
                      refine pure_ (i := 6) (N := some 114) (v := ?_) (a' := ?_) #[true, true, true, true, true, true, true, false, false, false] rfl rfl (any_of HT_.out (by kernel_rfl)) (fun _ _ _ h => h) (Or.inl ⟨by rfl, ?_⟩) ?_ ?_
                      rotate_left
                      · intro w'
                        go_simp
                        with_reducible rfl
                      rotate_left
                      · simp only [Act.put, List.setIfInBounds_toArray, List.set_cons_zero, List.set_cons_succ, i64_w, i32_w]
                        rfl
                      refine pure_ (i := 7) (N := some 115) (v := ?_) (a' := ?_) #[true, true, true, true, true, true, true, true, false, false] rfl rfl (any_of HT_.out (by kernel_rfl)) (fun _ _ _ h => h) (Or.inl ⟨by rfl, ?_⟩) ?_ ?_
                      rotate_left
                      · intro w'
                        go_simp
                        with_reducible rfl
                      rotate_left
                      · simp only [Act.put, List.setIfInBounds_toArray, List.set_cons_zero, List.set_cons_succ, i64_w, i32_w]
                        rfl
                      refine pure_ (i := 8) (N := some 116) (v := ?_) (a' := ?_) #[true, true, true, true, true, true, true, true, true, false] rfl rfl (any_of HT_.out (by kernel_rfl)) (fun _ _ _ h => h) (Or.inl ⟨by rfl, ?_⟩) ?_ ?_
                      rotate_left
                      · intro w'
                        go_simp
                        with_reducible rfl
                      rotate_left
                      · simp only [Act.put, List.setIfInBounds_toArray, List.set_cons_zero, List.set_cons_succ, i64_w, i32_w]
                        rfl
                      refine last_ (i := 9) (N := none) #[true, true, true, true, true, true, true, true, true, true] rfl rfl (one_of HT_.out (by kernel_rfl)) (by decide) (fun K hK => ?_)
                      have hs71 : w69.cell? ⟨gb221, 1, none⟩ = some (.int .u64 t223) := (blk_cell BK221.out 1).trans rfl
                      have hfs71 := blk_frozen BK221.out 1
                      have hns71_0 := NB195_221.out
                      have hms71_0 := NB221_195.out
                      refine skip_ (w1 := ?_) (by rfl) rfl ?_ ?_
                      rotate_left
                      · go_simp
                        rfl
                      refine hK.out _ _ ?_
                      clear hK K
                      refine done_ (done_of HT_.out (by kernel_rfl)) ?_
                      try go_wp2
                      go_roundg k2
                      case measure => have := HJ17.out; have := HK2.out; omega
                      case rel => exact ⟨(wrap64 (x17_2 + 1)), (t222), (Go.bits .or .u64 t223 (IntKind.u64.wrap (rd x8_17 x17_2))), xV, H', ⟨by have := HJ17.out; have := HK2.out; omega⟩, ⟨by (with_reducible repeat (first | apply Kd.R_alloc | apply Kd.R_drewN | apply Kd.R_drew)); exact Kd.R_mono (Kd.R_far (p := ⟨gb221, 1, none⟩) (Kd.R_types HO_8.out BK221.out (by decide)) (fun _ hk => hk.2) (.int .u64 (Go.bits .or .u64 t223 (IntKind.u64.wrap (rd x8_17 x17_2))))) (fun _ hk => trivial)⟩, ⟨by (with_reducible repeat (first | refine blk_drewN ?_ _ | refine blk_drew ?_ | refine blk_alloc ?_ _)); refine blk_far ?_ NB195_221.out _; (with_reducible repeat (first | refine blk_drewN ?_ _ | refine blk_drew ?_ | refine blk_alloc ?_ _)); exact BK195.out⟩, ⟨by (with_reducible repeat (first | refine blk_drewN ?_ _ | refine blk_drew ?_ | refine blk_alloc ?_ _)); refine blk_put (cs := #[.int .u64 t222, .int .u64 t223]) ?_ 1 _ rfl; (with_reducible repeat (first | refine blk_drewN ?_ _ | refine blk_drew ?_ | refine blk_alloc ?_ _)); exact BK221.out⟩, ⟨xG⟩⟩
                    · rw [if_neg c63] at H
                      exact absurd H (by simp)
                  · rw [if_neg c62] at H
                    exact absurd H (by simp)
                · rw [if_neg c60] at H
                  have c60b0 : decide (x17_2 < 8) = false := decide_eq_false c60
                  clear c60
                  simp only [Option.some.injEq, Prod.mk.injEq] at H
                  obtain ⟨rfl, rfl, rfl⟩ := H
                  have hnb72 := NB221_195.out
                  have hnc72 := NB195_221.out
                  have hcz73_0 : wr.cell? ⟨gb221, 0, none⟩ = some (.int .u64 x222000_2) := (blk_cell BK221.out 0).trans rfl
                  have hcz73_1 : wr.cell? ⟨gb221, 1, none⟩ = some (.int .u64 x222001_2) := (blk_cell BK221.out 1).trans rfl
                  have hfz73_0 := blk_frozen BK221.out 0
                  have hfz73_1 := blk_frozen BK221.out 1
                  have hcz74_0 : wr.cell? ⟨gb195, 0, none⟩ = some (.int .u64 x196000_17) := (blk_cell BK195.out 0).trans rfl
                  have hcz74_1 : wr.cell? ⟨gb195, 1, none⟩ = some (.int .u64 x196001_17) := (blk_cell BK195.out 1).trans rfl
                  have hfz74_0 := blk_frozen BK195.out 0
                  have hfz74_1 := blk_frozen BK195.out 1
                  go_wp2
                  refine bodyPost_ret (results_ct rfl _ _ gb195 24 #[.int .u64 x222000_2, .int .u64 x222001_2] (0, 0) _ rfl (by (with_reducible repeat (first | refine blk_drewN ?_ _ | refine blk_drew ?_ | refine blk_alloc ?_ _)); refine blk_put (cs := #[.int .u64 x222000_2, .int .u64 x196001_17]) ?_ 1 _ rfl; (with_reducible repeat (first | refine blk_drewN ?_ _ | refine blk_drew ?_ | refine blk_alloc ?_ _)); refine blk_put (cs := #[.int .u64 x196000_17, .int .u64 x196001_17]) ?_ 0 _ rfl; (with_reducible repeat (first | refine blk_drewN ?_ _ | refine blk_drew ?_ | refine blk_alloc ?_ _)); exact BK195.out) Try.underlying24 rfl (by kernel_rfl)) rfl ?_
                  exact ⟨xE, xG⟩
  · replace c4 := Bool.eq_false_iff.mpr c4
    subst c4
    have H1 : (some (0, 0, 11)) = some (r1, r2, r3) := by rw [if_neg (show ¬ (false = true) by decide)] at H; exact H
    clear H
    have H := H1
    clear H1
    simp only [Option.some.injEq, Prod.mk.injEq] at H
    obtain ⟨rfl, rfl, rfl⟩ := H
    go_enter Try.func10, Try.ntmps10
    go_wp2_with (first | ((with_reducible refine gate_dst (N := 4) rfl ?_); (try (refine gate_guard (by rfl) ?_; dsimp only)); refine box_event ?hg (N := 4) ?hd (cs := #[.int .u64 0, .int .u64 0]) (t := 24) ?hr ?_; (case hd => rfl); (case hg => rfl); (case hr => first | (go_simp; done) | (go_simp; rfl)); intro gb195 hg w75 hbox hb; have n0_ := Aside0.mk (below_step xB hb); have n1_ := Aside0.mk (hbox); have n2_ := Aside0.mk ((by rw [hg]; exact (below_size xB) : w.heap.size ≤ gb195)); have n3_ := Aside0.mk ((by rw [hg]; exact (below_size xB) : w.heap.size ≤ gb195)); clear HB; have HB := n0_; have BK195 := n1_; have GW195 := n2_; have GE195 := n3_; clear n0_ n1_ n2_ n3_; clear hb hbox hg) | ((with_reducible refine gate_callee (f := 33) rfl ?_); refine goesL_ (some 19) rfl rfl Try.func33 (by kernel_rfl) rfl #[.int .i64 a0] rfl xM ?_; (with_reducible refine (turnpikeref2_IsFamily.calls a0 false _ A3.out).mono ?_); rintro e w' ⟨rfl, ⟨nd, rfl⟩⟩; refine ⟨_, rfl, ?_⟩; (try (rw [drewN_self w75]; generalize hq_ : World.drewN w75 _ = w75; have n0_ : Aside0 (w75.heap[gb195]? = some (.cells #[.int .u64 0, .int .u64 0] 24 (0, 0))) := ⟨by rw [← hq_]; exact (xK BK195.out)⟩; have n1_ : Aside0 (Below w.heap.size w w75) := ⟨by rw [← hq_]; exact xG⟩; clear BK195 HB hq_; have BK195 := n0_; have HB := n1_; clear n0_ n1_)); have hcz76_0 : w75.cell? ⟨gb195, 0, none⟩ = some (.int .u64 0) := (blk_cell BK195.out 0).trans rfl; have hcz76_1 : w75.cell? ⟨gb195, 1, none⟩ = some (.int .u64 0) := (blk_cell BK195.out 1).trans rfl; have hfz76_0 := blk_frozen BK195.out 0; have hfz76_1 := blk_frozen BK195.out 1))
    refine bodyPost_ret (results_ct rfl _ _ gb195 24 #[.int .u64 0, .int .u64 0] (0, 0) _ rfl (by (with_reducible repeat (first | refine blk_drewN ?_ _ | refine blk_drew ?_ | refine blk_alloc ?_ _)); refine blk_put (cs := #[.int .u64 0, .int .u64 0]) ?_ 1 _ rfl; (with_reducible repeat (first | refine blk_drewN ?_ _ | refine blk_drew ?_ | refine blk_alloc ?_ _)); refine blk_put (cs := #[.int .u64 0, .int .u64 0]) ?_ 0 _ rfl; (with_reducible repeat (first | refine blk_drewN ?_ _ | refine blk_drew ?_ | refine blk_alloc ?_ _)); exact BK195.out) Try.underlying24 rfl (by kernel_rfl)) rfl ?_
    exact ⟨xE, xG⟩
def turnpikelaw2_AddrReads.f (k : Nat) (a0 : Int) (a1 : ByteArray) : Option (Bool) := (addr_Parse.f k a0 a1).bind fun bt233 => ((turnpikeref2_Parse.f k a0 a1).bind fun bt237 => ((turnpikelaw2_known.f k).bind fun t241 => (if t241 = true then (if (bt233.1 == bt237.1 && (bt233.2.1 == bt237.2.1)) = true then (some (bt233.2.2 == bt237.2.2)) else (some false)) else (some false))))
theorem turnpikelaw2_AddrReads.mono : ∀ a0 a1 k, LeO (turnpikelaw2_AddrReads.f k a0 a1) (turnpikelaw2_AddrReads.f (k + 1) a0 a1) := by
  intro a0 a1 k
  unfold turnpikelaw2_AddrReads.f
  have m0 := @addr_Parse.mono
  have m1 := @turnpikelaw2_known.mono
  have m2 := @turnpikeref2_Parse.mono
  exact xO
set_option maxHeartbeats 8000000 in
set_option maxRecDepth 100000 in
theorem turnpikelaw2_AddrReads.calls (k : Nat) (a0 : Int) (a1 : ByteArray) (r : Bool) (w : World) (hML : MLOk w) (h : turnpikelaw2_AddrReads.f k a0 a1 = some r) :
    Calls Try.prog 3 #[.int .i64 a0, .string a1] w fun e w' => e = .returned (.bool r) ∧ Below w.heap.size w w' := by
  have hu24 := Try.underlying24
  have HML := Aside0.mk hML
  clear hML
  have HB := Aside0.mk (Below.refl w.heap.size w)
  have H : ((addr_Parse.f k a0 a1).bind fun bt233 => ((turnpikeref2_Parse.f k a0 a1).bind fun bt237 => ((turnpikelaw2_known.f k).bind fun t241 => (if t241 = true then (if (bt233.1 == bt237.1 && (bt233.2.1 == bt237.2.1)) = true then (some (bt233.2.2 == bt237.2.2)) else (some false)) else (some false))))) = some r := h
  clear h
  replace H := Option.bind_eq_some_iff.mp H
  obtain ⟨⟨t233, t234, t235⟩, A30, H⟩ := H
  replace H : ((turnpikeref2_Parse.f k a0 a1).bind fun bt237 => ((turnpikelaw2_known.f k).bind fun t241 => (if t241 = true then (if (t233 == bt237.1 && (t234 == bt237.2.1)) = true then (some (t235 == bt237.2.2)) else (some false)) else (some false)))) = some r := H
  have A3 := Aside0.mk A30
  clear A30
  replace H := Option.bind_eq_some_iff.mp H
  obtain ⟨⟨t237, t238, t239⟩, A40, H⟩ := H
  replace H : ((turnpikelaw2_known.f k).bind fun t241 => (if t241 = true then (if (t233 == t237 && (t234 == t238)) = true then (some (t235 == t239)) else (some false)) else (some false))) = some r := H
  have A4 := Aside0.mk A40
  clear A40
  replace H := Option.bind_eq_some_iff.mp H
  obtain ⟨t241, A50, H⟩ := H
  replace H : (if t241 = true then (if (t233 == t237 && (t234 == t238)) = true then (some (t235 == t239)) else (some false)) else (some false)) = some r := H
  have A5 := Aside0.mk A50
  clear A50
  by_cases c6 : t241 = true
  · subst c6
    have H1 : (if (t233 == t237 && (t234 == t238)) = true then (some (t235 == t239)) else (some false)) = some r := by rw [if_pos rfl] at H; exact H
    clear H
    have H := H1
    clear H1
    by_cases c7 : (t233 == t237 && (t234 == t238)) = true
    · rw [if_pos c7] at H
      have c7b0 : (t233 == t237 && (t234 == t238)) = true := c7
      (try (have c7b1 : decide (t233 = t237 && (t234 == t238)) = true := by simpa using c7))
      (try (have c7b2 : (t233 == t237 && (t234 == t238)) = true := by simpa using c7))
      clear c7
      obtain rfl := Option.some.inj H
      go_enter Try.func3, Try.ntmps3
      go_wp2_with (first | ((with_reducible refine gate_callee (f := 9) rfl ?_); refine goesL_ (some 12) rfl rfl Try.func9 (by kernel_rfl) rfl #[.int .i64 a0, .string a1] rfl xM ?_; (with_reducible refine (addr_Parse.calls k a0 a1 t233 t234 t235 _ ?side1 A3.out).mono ?_); (case side1 => first | exact MLOk.below HML.out xB | (repeat (first | exact HML.out | (with_reducible refine MLOk.alloc ?_ _) | (with_reducible refine MLOk.drewN ?_ _) | (with_reducible refine MLOk.drew ?_)))); rintro e w8 ⟨rfl, hb⟩; refine ⟨_, rfl, ?_⟩; have n0_ := Aside0.mk (below_step xB hb); clear HB; have HB := n0_; clear n0_; (try clear hb); (try clear hb2); (try clear hk); (try clear hi)) | ((with_reducible refine gate_dst (N := 5) rfl ?_); refine box_event ?hg (N := 5) ?hd (cs := #[.int .u64 0, .int .u64 0]) (t := 24) ?hr ?_; (case hd => rfl); (case hg => rfl); (case hr => first | (go_simp; done) | (go_simp; rfl)); intro gb236 hg w9 hbox hb; have n0_ := Aside0.mk (below_step xB hb); have n1_ := Aside0.mk (hbox); have n2_ := Aside0.mk ((by rw [hg]; exact (below_size xB) : w.heap.size ≤ gb236)); have n3_ := Aside0.mk ((by rw [hg]; exact (below_size xB) : w.heap.size ≤ gb236)); clear HB; have HB := n0_; have BK236 := n1_; have GW236 := n2_; have GE236 := n3_; clear n0_ n1_ n2_ n3_; clear hb hbox hg; have hcz10_0 : w9.cell? ⟨gb236, 0, none⟩ = some (.int .u64 0) := (blk_cell BK236.out 0).trans rfl; have hcz10_1 : w9.cell? ⟨gb236, 1, none⟩ = some (.int .u64 0) := (blk_cell BK236.out 1).trans rfl; have hfz10_0 := blk_frozen BK236.out 0; have hfz10_1 := blk_frozen BK236.out 1) | ((with_reducible refine gate_callee (f := 10) rfl ?_); refine goesL_ (some 18) rfl rfl Try.func10 (by kernel_rfl) rfl #[.int .i64 a0, .string a1] rfl xM ?_; (with_reducible refine (turnpikeref2_Parse.calls k a0 a1 t237 t238 t239 _ A4.out).mono ?_); rintro e w11 ⟨rfl, hb⟩; refine ⟨_, rfl, ?_⟩; have n0_ := Aside0.mk (blk_below (g := gb236) (o := .cells #[.int .u64 t233, .int .u64 t234] 24 (0, 0)) (by (with_reducible repeat (first | refine blk_drewN ?_ _ | refine blk_drew ?_ | refine blk_alloc ?_ _)); refine blk_put (cs := #[.int .u64 t233, .int .u64 0]) ?_ 1 _ rfl; (with_reducible repeat (first | refine blk_drewN ?_ _ | refine blk_drew ?_ | refine blk_alloc ?_ _)); refine blk_put (cs := #[.int .u64 0, .int .u64 0]) ?_ 0 _ rfl; (with_reducible repeat (first | refine blk_drewN ?_ _ | refine blk_drew ?_ | refine blk_alloc ?_ _)); exact BK236.out) hb); have n1_ := Aside0.mk (below_step xG hb); clear BK236; clear HB; have BK236 := n0_; have HB := n1_; clear n0_ n1_; (try clear hb); (try clear hb2); (try clear hk); (try clear hi)) | ((with_reducible refine gate_dst (N := 7) rfl ?_); refine box_event ?hg (N := 7) ?hd (cs := #[.int .u64 0, .int .u64 0]) (t := 24) ?hr ?_; (case hd => rfl); (case hg => rfl); (case hr => first | (go_simp; done) | (go_simp; rfl)); intro gb240 hg w12 hbox hb; have n0_ := Aside0.mk (blk_below (g := gb236) (o := .cells #[.int .u64 t233, .int .u64 t234] 24 (0, 0)) (xK BK236.out) hb); have n1_ := Aside0.mk (below_step xG hb); have n2_ := Aside0.mk (hbox); have n3_ := Aside0.mk ((by rw [hg]; exact (below_size xG) : w.heap.size ≤ gb240)); have n4_ := Aside0.mk ((by rw [hg]; exact (below_size xG) : w.heap.size ≤ gb240)); have n5_ := Aside0.mk ((xN BK236.out : gb236 ≠ gb240)); have n6_ := Aside0.mk ((xN BK236.out : gb240 ≠ gb236)); clear BK236; clear HB; have BK236 := n0_; have HB := n1_; have BK240 := n2_; have GW240 := n3_; have GE240 := n4_; have NB236_240 := n5_; have NB240_236 := n6_; clear n0_ n1_ n2_ n3_ n4_ n5_ n6_; clear hb hbox hg; have hnb13 := NB240_236.out; have hnc13 := NB236_240.out; have hcz14_0 : w12.cell? ⟨gb240, 0, none⟩ = some (.int .u64 0) := (blk_cell BK240.out 0).trans rfl; have hcz14_1 : w12.cell? ⟨gb240, 1, none⟩ = some (.int .u64 0) := (blk_cell BK240.out 1).trans rfl; have hfz14_0 := blk_frozen BK240.out 0; have hfz14_1 := blk_frozen BK240.out 1) | ((with_reducible refine gate_callee (f := 11) rfl ?_); refine goesL_ (some 21) rfl rfl Try.func11 (by kernel_rfl) rfl #[] rfl xM ?_; (with_reducible refine (turnpikelaw2_known.calls k  true _ ?side1 A5.out).mono ?_); (case side1 => first | exact MLOk.below HML.out xG | (repeat (first | exact HML.out | (with_reducible refine MLOk.alloc ?_ _) | (with_reducible refine MLOk.drewN ?_ _) | (with_reducible refine MLOk.drew ?_)))); rintro e w15 ⟨rfl, hb⟩; refine ⟨_, rfl, ?_⟩; have n0_ := Aside0.mk (blk_below (g := gb236) (o := .cells #[.int .u64 t233, .int .u64 t234] 24 (0, 0)) (by (with_reducible repeat (first | refine blk_drewN ?_ _ | refine blk_drew ?_ | refine blk_alloc ?_ _)); refine blk_far ?_ NB236_240.out _; (with_reducible repeat (first | refine blk_drewN ?_ _ | refine blk_drew ?_ | refine blk_alloc ?_ _)); refine blk_far ?_ NB236_240.out _; (with_reducible repeat (first | refine blk_drewN ?_ _ | refine blk_drew ?_ | refine blk_alloc ?_ _)); exact BK236.out) hb); have n1_ := Aside0.mk (blk_below (g := gb240) (o := .cells #[.int .u64 t237, .int .u64 t238] 24 (0, 0)) (by (with_reducible repeat (first | refine blk_drewN ?_ _ | refine blk_drew ?_ | refine blk_alloc ?_ _)); refine blk_put (cs := #[.int .u64 t237, .int .u64 0]) ?_ 1 _ rfl; (with_reducible repeat (first | refine blk_drewN ?_ _ | refine blk_drew ?_ | refine blk_alloc ?_ _)); refine blk_put (cs := #[.int .u64 0, .int .u64 0]) ?_ 0 _ rfl; (with_reducible repeat (first | refine blk_drewN ?_ _ | refine blk_drew ?_ | refine blk_alloc ?_ _)); exact BK240.out) hb); have n2_ := Aside0.mk (below_step xG hb); clear BK236; clear BK240; clear HB; have BK236 := n0_; have BK240 := n1_; have HB := n2_; clear n0_ n1_ n2_; (try clear hb); (try clear hb2); (try clear hk); (try clear hi); have hcz16_0 : w15.cell? ⟨gb236, 0, none⟩ = some (.int .u64 t233) := (blk_cell BK236.out 0).trans rfl; have hcz16_1 : w15.cell? ⟨gb236, 1, none⟩ = some (.int .u64 t234) := (blk_cell BK236.out 1).trans rfl; have hfz16_0 := blk_frozen BK236.out 0; have hfz16_1 := blk_frozen BK236.out 1; have hcz17_0 : w15.cell? ⟨gb240, 0, none⟩ = some (.int .u64 t237) := (blk_cell BK240.out 0).trans rfl; have hcz17_1 : w15.cell? ⟨gb240, 1, none⟩ = some (.int .u64 t238) := (blk_cell BK240.out 1).trans rfl; have hfz17_0 := blk_frozen BK240.out 0; have hfz17_1 := blk_frozen BK240.out 1))
      go_ret
      exact ⟨xE, xG⟩
    · rw [if_neg c7] at H
      have c7b0 : (t233 == t237 && (t234 == t238)) = false := by simpa using c7
      (try (have c7b1 : decide (t233 = t237 && (t234 == t238)) = false := by simpa using c7))
      (try (have c7b2 : (t233 == t237 && (t234 == t238)) = false := by simpa using c7))
      (try (have c7b3 : ¬ (t233 = t237 && (t234 == t238)) := by simpa using c7))
      clear c7
      obtain rfl := Option.some.inj H
      go_enter Try.func3, Try.ntmps3
      go_wp2_with (first | ((with_reducible refine gate_callee (f := 9) rfl ?_); refine goesL_ (some 12) rfl rfl Try.func9 (by kernel_rfl) rfl #[.int .i64 a0, .string a1] rfl xM ?_; (with_reducible refine (addr_Parse.calls k a0 a1 t233 t234 t235 _ ?side1 A3.out).mono ?_); (case side1 => first | exact MLOk.below HML.out xB | (repeat (first | exact HML.out | (with_reducible refine MLOk.alloc ?_ _) | (with_reducible refine MLOk.drewN ?_ _) | (with_reducible refine MLOk.drew ?_)))); rintro e w18 ⟨rfl, hb⟩; refine ⟨_, rfl, ?_⟩; have n0_ := Aside0.mk (below_step xB hb); clear HB; have HB := n0_; clear n0_; (try clear hb); (try clear hb2); (try clear hk); (try clear hi)) | ((with_reducible refine gate_dst (N := 5) rfl ?_); refine box_event ?hg (N := 5) ?hd (cs := #[.int .u64 0, .int .u64 0]) (t := 24) ?hr ?_; (case hd => rfl); (case hg => rfl); (case hr => first | (go_simp; done) | (go_simp; rfl)); intro gb236 hg w19 hbox hb; have n0_ := Aside0.mk (below_step xB hb); have n1_ := Aside0.mk (hbox); have n2_ := Aside0.mk ((by rw [hg]; exact (below_size xB) : w.heap.size ≤ gb236)); have n3_ := Aside0.mk ((by rw [hg]; exact (below_size xB) : w.heap.size ≤ gb236)); clear HB; have HB := n0_; have BK236 := n1_; have GW236 := n2_; have GE236 := n3_; clear n0_ n1_ n2_ n3_; clear hb hbox hg; have hcz20_0 : w19.cell? ⟨gb236, 0, none⟩ = some (.int .u64 0) := (blk_cell BK236.out 0).trans rfl; have hcz20_1 : w19.cell? ⟨gb236, 1, none⟩ = some (.int .u64 0) := (blk_cell BK236.out 1).trans rfl; have hfz20_0 := blk_frozen BK236.out 0; have hfz20_1 := blk_frozen BK236.out 1) | ((with_reducible refine gate_callee (f := 10) rfl ?_); refine goesL_ (some 18) rfl rfl Try.func10 (by kernel_rfl) rfl #[.int .i64 a0, .string a1] rfl xM ?_; (with_reducible refine (turnpikeref2_Parse.calls k a0 a1 t237 t238 t239 _ A4.out).mono ?_); rintro e w21 ⟨rfl, hb⟩; refine ⟨_, rfl, ?_⟩; have n0_ := Aside0.mk (blk_below (g := gb236) (o := .cells #[.int .u64 t233, .int .u64 t234] 24 (0, 0)) (by (with_reducible repeat (first | refine blk_drewN ?_ _ | refine blk_drew ?_ | refine blk_alloc ?_ _)); refine blk_put (cs := #[.int .u64 t233, .int .u64 0]) ?_ 1 _ rfl; (with_reducible repeat (first | refine blk_drewN ?_ _ | refine blk_drew ?_ | refine blk_alloc ?_ _)); refine blk_put (cs := #[.int .u64 0, .int .u64 0]) ?_ 0 _ rfl; (with_reducible repeat (first | refine blk_drewN ?_ _ | refine blk_drew ?_ | refine blk_alloc ?_ _)); exact BK236.out) hb); have n1_ := Aside0.mk (below_step xG hb); clear BK236; clear HB; have BK236 := n0_; have HB := n1_; clear n0_ n1_; (try clear hb); (try clear hb2); (try clear hk); (try clear hi)) | ((with_reducible refine gate_dst (N := 7) rfl ?_); refine box_event ?hg (N := 7) ?hd (cs := #[.int .u64 0, .int .u64 0]) (t := 24) ?hr ?_; (case hd => rfl); (case hg => rfl); (case hr => first | (go_simp; done) | (go_simp; rfl)); intro gb240 hg w22 hbox hb; have n0_ := Aside0.mk (blk_below (g := gb236) (o := .cells #[.int .u64 t233, .int .u64 t234] 24 (0, 0)) (xK BK236.out) hb); have n1_ := Aside0.mk (below_step xG hb); have n2_ := Aside0.mk (hbox); have n3_ := Aside0.mk ((by rw [hg]; exact (below_size xG) : w.heap.size ≤ gb240)); have n4_ := Aside0.mk ((by rw [hg]; exact (below_size xG) : w.heap.size ≤ gb240)); have n5_ := Aside0.mk ((xN BK236.out : gb236 ≠ gb240)); have n6_ := Aside0.mk ((xN BK236.out : gb240 ≠ gb236)); clear BK236; clear HB; have BK236 := n0_; have HB := n1_; have BK240 := n2_; have GW240 := n3_; have GE240 := n4_; have NB236_240 := n5_; have NB240_236 := n6_; clear n0_ n1_ n2_ n3_ n4_ n5_ n6_; clear hb hbox hg; have hnb23 := NB240_236.out; have hnc23 := NB236_240.out; have hcz24_0 : w22.cell? ⟨gb240, 0, none⟩ = some (.int .u64 0) := (blk_cell BK240.out 0).trans rfl; have hcz24_1 : w22.cell? ⟨gb240, 1, none⟩ = some (.int .u64 0) := (blk_cell BK240.out 1).trans rfl; have hfz24_0 := blk_frozen BK240.out 0; have hfz24_1 := blk_frozen BK240.out 1) | ((with_reducible refine gate_callee (f := 11) rfl ?_); refine goesL_ (some 21) rfl rfl Try.func11 (by kernel_rfl) rfl #[] rfl xM ?_; (with_reducible refine (turnpikelaw2_known.calls k  true _ ?side1 A5.out).mono ?_); (case side1 => first | exact MLOk.below HML.out xG | (repeat (first | exact HML.out | (with_reducible refine MLOk.alloc ?_ _) | (with_reducible refine MLOk.drewN ?_ _) | (with_reducible refine MLOk.drew ?_)))); rintro e w25 ⟨rfl, hb⟩; refine ⟨_, rfl, ?_⟩; have n0_ := Aside0.mk (blk_below (g := gb236) (o := .cells #[.int .u64 t233, .int .u64 t234] 24 (0, 0)) (by (with_reducible repeat (first | refine blk_drewN ?_ _ | refine blk_drew ?_ | refine blk_alloc ?_ _)); refine blk_far ?_ NB236_240.out _; (with_reducible repeat (first | refine blk_drewN ?_ _ | refine blk_drew ?_ | refine blk_alloc ?_ _)); refine blk_far ?_ NB236_240.out _; (with_reducible repeat (first | refine blk_drewN ?_ _ | refine blk_drew ?_ | refine blk_alloc ?_ _)); exact BK236.out) hb); have n1_ := Aside0.mk (blk_below (g := gb240) (o := .cells #[.int .u64 t237, .int .u64 t238] 24 (0, 0)) (by (with_reducible repeat (first | refine blk_drewN ?_ _ | refine blk_drew ?_ | refine blk_alloc ?_ _)); refine blk_put (cs := #[.int .u64 t237, .int .u64 0]) ?_ 1 _ rfl; (with_reducible repeat (first | refine blk_drewN ?_ _ | refine blk_drew ?_ | refine blk_alloc ?_ _)); refine blk_put (cs := #[.int .u64 0, .int .u64 0]) ?_ 0 _ rfl; (with_reducible repeat (first | refine blk_drewN ?_ _ | refine blk_drew ?_ | refine blk_alloc ?_ _)); exact BK240.out) hb); have n2_ := Aside0.mk (below_step xG hb); clear BK236; clear BK240; clear HB; have BK236 := n0_; have BK240 := n1_; have HB := n2_; clear n0_ n1_ n2_; (try clear hb); (try clear hb2); (try clear hk); (try clear hi); have hcz26_0 : w25.cell? ⟨gb236, 0, none⟩ = some (.int .u64 t233) := (blk_cell BK236.out 0).trans rfl; have hcz26_1 : w25.cell? ⟨gb236, 1, none⟩ = some (.int .u64 t234) := (blk_cell BK236.out 1).trans rfl; have hfz26_0 := blk_frozen BK236.out 0; have hfz26_1 := blk_frozen BK236.out 1; have hcz27_0 : w25.cell? ⟨gb240, 0, none⟩ = some (.int .u64 t237) := (blk_cell BK240.out 0).trans rfl; have hcz27_1 : w25.cell? ⟨gb240, 1, none⟩ = some (.int .u64 t238) := (blk_cell BK240.out 1).trans rfl; have hfz27_0 := blk_frozen BK240.out 0; have hfz27_1 := blk_frozen BK240.out 1))
      go_ret
      exact ⟨xE, xG⟩
  · replace c6 := Bool.eq_false_iff.mpr c6
    subst c6
    have H1 : (some false) = some r := by rw [if_neg (show ¬ (false = true) by decide)] at H; exact H
    clear H
    have H := H1
    clear H1
    obtain rfl := Option.some.inj H
    go_enter Try.func3, Try.ntmps3
    go_wp2_with (first | ((with_reducible refine gate_callee (f := 9) rfl ?_); refine goesL_ (some 12) rfl rfl Try.func9 (by kernel_rfl) rfl #[.int .i64 a0, .string a1] rfl xM ?_; (with_reducible refine (addr_Parse.calls k a0 a1 t233 t234 t235 _ ?side1 A3.out).mono ?_); (case side1 => first | exact MLOk.below HML.out xB | (repeat (first | exact HML.out | (with_reducible refine MLOk.alloc ?_ _) | (with_reducible refine MLOk.drewN ?_ _) | (with_reducible refine MLOk.drew ?_)))); rintro e w28 ⟨rfl, hb⟩; refine ⟨_, rfl, ?_⟩; have n0_ := Aside0.mk (below_step xB hb); clear HB; have HB := n0_; clear n0_; (try clear hb); (try clear hb2); (try clear hk); (try clear hi)) | ((with_reducible refine gate_dst (N := 5) rfl ?_); refine box_event ?hg (N := 5) ?hd (cs := #[.int .u64 0, .int .u64 0]) (t := 24) ?hr ?_; (case hd => rfl); (case hg => rfl); (case hr => first | (go_simp; done) | (go_simp; rfl)); intro gb236 hg w29 hbox hb; have n0_ := Aside0.mk (below_step xB hb); have n1_ := Aside0.mk (hbox); have n2_ := Aside0.mk ((by rw [hg]; exact (below_size xB) : w.heap.size ≤ gb236)); have n3_ := Aside0.mk ((by rw [hg]; exact (below_size xB) : w.heap.size ≤ gb236)); clear HB; have HB := n0_; have BK236 := n1_; have GW236 := n2_; have GE236 := n3_; clear n0_ n1_ n2_ n3_; clear hb hbox hg; have hcz30_0 : w29.cell? ⟨gb236, 0, none⟩ = some (.int .u64 0) := (blk_cell BK236.out 0).trans rfl; have hcz30_1 : w29.cell? ⟨gb236, 1, none⟩ = some (.int .u64 0) := (blk_cell BK236.out 1).trans rfl; have hfz30_0 := blk_frozen BK236.out 0; have hfz30_1 := blk_frozen BK236.out 1) | ((with_reducible refine gate_callee (f := 10) rfl ?_); refine goesL_ (some 18) rfl rfl Try.func10 (by kernel_rfl) rfl #[.int .i64 a0, .string a1] rfl xM ?_; (with_reducible refine (turnpikeref2_Parse.calls k a0 a1 t237 t238 t239 _ A4.out).mono ?_); rintro e w31 ⟨rfl, hb⟩; refine ⟨_, rfl, ?_⟩; have n0_ := Aside0.mk (blk_below (g := gb236) (o := .cells #[.int .u64 t233, .int .u64 t234] 24 (0, 0)) (by (with_reducible repeat (first | refine blk_drewN ?_ _ | refine blk_drew ?_ | refine blk_alloc ?_ _)); refine blk_put (cs := #[.int .u64 t233, .int .u64 0]) ?_ 1 _ rfl; (with_reducible repeat (first | refine blk_drewN ?_ _ | refine blk_drew ?_ | refine blk_alloc ?_ _)); refine blk_put (cs := #[.int .u64 0, .int .u64 0]) ?_ 0 _ rfl; (with_reducible repeat (first | refine blk_drewN ?_ _ | refine blk_drew ?_ | refine blk_alloc ?_ _)); exact BK236.out) hb); have n1_ := Aside0.mk (below_step xG hb); clear BK236; clear HB; have BK236 := n0_; have HB := n1_; clear n0_ n1_; (try clear hb); (try clear hb2); (try clear hk); (try clear hi)) | ((with_reducible refine gate_dst (N := 7) rfl ?_); refine box_event ?hg (N := 7) ?hd (cs := #[.int .u64 0, .int .u64 0]) (t := 24) ?hr ?_; (case hd => rfl); (case hg => rfl); (case hr => first | (go_simp; done) | (go_simp; rfl)); intro gb240 hg w32 hbox hb; have n0_ := Aside0.mk (blk_below (g := gb236) (o := .cells #[.int .u64 t233, .int .u64 t234] 24 (0, 0)) (xK BK236.out) hb); have n1_ := Aside0.mk (below_step xG hb); have n2_ := Aside0.mk (hbox); have n3_ := Aside0.mk ((by rw [hg]; exact (below_size xG) : w.heap.size ≤ gb240)); have n4_ := Aside0.mk ((by rw [hg]; exact (below_size xG) : w.heap.size ≤ gb240)); have n5_ := Aside0.mk ((xN BK236.out : gb236 ≠ gb240)); have n6_ := Aside0.mk ((xN BK236.out : gb240 ≠ gb236)); clear BK236; clear HB; have BK236 := n0_; have HB := n1_; have BK240 := n2_; have GW240 := n3_; have GE240 := n4_; have NB236_240 := n5_; have NB240_236 := n6_; clear n0_ n1_ n2_ n3_ n4_ n5_ n6_; clear hb hbox hg; have hnb33 := NB240_236.out; have hnc33 := NB236_240.out; have hcz34_0 : w32.cell? ⟨gb240, 0, none⟩ = some (.int .u64 0) := (blk_cell BK240.out 0).trans rfl; have hcz34_1 : w32.cell? ⟨gb240, 1, none⟩ = some (.int .u64 0) := (blk_cell BK240.out 1).trans rfl; have hfz34_0 := blk_frozen BK240.out 0; have hfz34_1 := blk_frozen BK240.out 1) | ((with_reducible refine gate_callee (f := 11) rfl ?_); refine goesL_ (some 21) rfl rfl Try.func11 (by kernel_rfl) rfl #[] rfl xM ?_; (with_reducible refine (turnpikelaw2_known.calls k  false _ ?side1 A5.out).mono ?_); (case side1 => first | exact MLOk.below HML.out xG | (repeat (first | exact HML.out | (with_reducible refine MLOk.alloc ?_ _) | (with_reducible refine MLOk.drewN ?_ _) | (with_reducible refine MLOk.drew ?_)))); rintro e w35 ⟨rfl, hb⟩; refine ⟨_, rfl, ?_⟩; have n0_ := Aside0.mk (blk_below (g := gb236) (o := .cells #[.int .u64 t233, .int .u64 t234] 24 (0, 0)) (by (with_reducible repeat (first | refine blk_drewN ?_ _ | refine blk_drew ?_ | refine blk_alloc ?_ _)); refine blk_far ?_ NB236_240.out _; (with_reducible repeat (first | refine blk_drewN ?_ _ | refine blk_drew ?_ | refine blk_alloc ?_ _)); refine blk_far ?_ NB236_240.out _; (with_reducible repeat (first | refine blk_drewN ?_ _ | refine blk_drew ?_ | refine blk_alloc ?_ _)); exact BK236.out) hb); have n1_ := Aside0.mk (blk_below (g := gb240) (o := .cells #[.int .u64 t237, .int .u64 t238] 24 (0, 0)) (by (with_reducible repeat (first | refine blk_drewN ?_ _ | refine blk_drew ?_ | refine blk_alloc ?_ _)); refine blk_put (cs := #[.int .u64 t237, .int .u64 0]) ?_ 1 _ rfl; (with_reducible repeat (first | refine blk_drewN ?_ _ | refine blk_drew ?_ | refine blk_alloc ?_ _)); refine blk_put (cs := #[.int .u64 0, .int .u64 0]) ?_ 0 _ rfl; (with_reducible repeat (first | refine blk_drewN ?_ _ | refine blk_drew ?_ | refine blk_alloc ?_ _)); exact BK240.out) hb); have n2_ := Aside0.mk (below_step xG hb); clear BK236; clear BK240; clear HB; have BK236 := n0_; have BK240 := n1_; have HB := n2_; clear n0_ n1_ n2_; (try clear hb); (try clear hb2); (try clear hk); (try clear hi)))
    go_ret
    exact ⟨xE, xG⟩
def turnpikelaw2_AddrReads.Pure : Prop := ∀ (a0 : Int) (a1 : ByteArray), (Lit.int .i64 a0).wf = true → a1.size ≤ 1048576 → ∃ k, turnpikelaw2_AddrReads.f k a0 a1 = some true
theorem turnpikelaw2_AddrReads.walk (P : turnpikelaw2_AddrReads.Pure) (a0 : Int) (a1 : ByteArray) (w : World) (hML : MLOk w) (wa0 : (Lit.int .i64 a0).wf = true) (wa1 : a1.size ≤ 1048576) :
    Calls Try.prog 3 #[.int .i64 a0, .string a1] w fun e w' => e = .returned (.bool true) ∧ Below w.heap.size w w' := by
  obtain ⟨k, h⟩ := P a0 a1 wa0 wa1
  refine (turnpikelaw2_AddrReads.calls k a0 a1 true w hML h).mono ?_
  rintro e w' ⟨rfl, hd⟩
  exact ⟨rfl, hd⟩
end Go.Proofs.Ytamiaaeaehdahaa.X
