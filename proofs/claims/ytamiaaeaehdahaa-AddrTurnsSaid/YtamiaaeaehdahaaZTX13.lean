-- Printed by a program of this session (xprint.py, over the kit's printer)
import Derived.Test.YtamiaaeaehdahaaX0
import Derived.Test.YtamiaaeaehdahaaZTX3
import Derived.Test.YtamiaaeaehdahaaZTX7
import Derived.Test.YtamiaaeaehdahaaZTX12
import Derived.Test.YtamiaaeaehdahaaZTX14
import Derived.Test.YtamiaaeaehdahaaFb
import Derived.Test.YtamiaaeaehdahaaSh
namespace Go.Proofs.Ytamiaaeaehdahaa.X
open Go.RowKit Go.Proofs.YtamiaaeaehdahaaW.PrintWords Go.Proofs.YtamiaaeaehdahaaW.PrintLast Go.Proofs.Ytamiaaeaehdahaa.Sm Go.Proofs.Ytamiaaeaehdahaa.Sh
set_option linter.unusedVariables false
set_option linter.unusedSimpArgs false
def turnpikelaw2_AddrTurns.j0 : Nat → Int → Int → Int → Int → ByteArray → ByteArray → Option (Bool)
  | 0, _, _, _, _, _, _ => none
  | k + 1, x0, x2, x3, x4, x5, x13 => (turnpikelaw2_within.f x2 (x13.size : Int)).bind fun t301 => ((some (bytesOf x13 : List Int)).bind fun y302 => (if 0 ≤ t301 then (if t301 < (y302.length : Int) then ((turnpikelaw2_AddrReads.f k x0 (strOfNums (y302.set (t301 : Int).toNat (((rd y302 t301) + x3) % 256)))).bind fun t307 => (if t307 = true then ((turnpikelaw2_within.f x4 (wrap64 ((x13.size : Int) + 1))).bind fun t308 => (if 0 ≤ t308 then (if t308 ≤ (x13.size : Int) then ((turnpikelaw2_AddrReads.f k x0 (x13.extract 0 (t308 : Int).toNat)).bind fun t309 => (if t309 = true then (if t301 ≤ (x13.size : Int) then (if (x13.extract 0 (t301 : Int).toNat).size + x5.size ≤ 9223372036854775807 then (if ((x13.extract 0 (t301 : Int).toNat) ++ x5).size + (x13.extract (t301 : Int).toNat x13.size).size ≤ 9223372036854775807 then ((turnpikelaw2_AddrReads.f k x0 (((x13.extract 0 (t301 : Int).toNat) ++ x5) ++ (x13.extract (t301 : Int).toNat x13.size))).bind fun t310 => (some t310)) else (none)) else (none)) else (none)) else (some false))) else (none)) else (none))) else (some false))) else (none)) else (none)))
def turnpikelaw2_AddrTurns.f (k : Nat) (a0 : Int) (a1_0 : Int) (a1_1 : Int) (a2 : Int) (a3 : Int) (a4 : Int) (a5 : ByteArray) : Option (Bool) := (turnpikelaw2_known.f k).bind fun t298 => (if t298 = true then ((turnpikeref2_Text.f k a0 a1_0 a1_1).bind fun bt299 => (if bt299.2 = 0 then (if (a5.size : Int) > 40 then (if 0 ≤ 40 then (if 40 ≤ (a5.size : Int) then (turnpikelaw2_AddrTurns.j0 k a0 a2 a3 a4 (a5.extract 0 40) bt299.1) else (none)) else (none)) else (turnpikelaw2_AddrTurns.j0 k a0 a2 a3 a4 a5 bt299.1)) else (some true))) else (some false))
theorem turnpikelaw2_AddrTurns.mono_l : ∀ k, (∀ y0 y1 y2 y3 y4 y5, LeO (turnpikelaw2_AddrTurns.j0 k y0 y1 y2 y3 y4 y5) (turnpikelaw2_AddrTurns.j0 (k + 1) y0 y1 y2 y3 y4 y5))
  | 0 => fun _ _ _ _ _ _ r h => by simp [turnpikelaw2_AddrTurns.j0] at h
  | k + 1 => by
    have ih0 := turnpikelaw2_AddrTurns.mono_l k
    · intro y0 y1 y2 y3 y4 y5
      unfold turnpikelaw2_AddrTurns.j0
      have m0 := @turnpikelaw2_AddrReads.mono
      have m1 := @turnpikelaw2_known.mono
      have m2 := @turnpikeref2_Text.mono
      exact xO
theorem turnpikelaw2_AddrTurns.mono : ∀ a0 a1 a2 a3 a4 a5 a6 k, LeO (turnpikelaw2_AddrTurns.f k a0 a1 a2 a3 a4 a5 a6) (turnpikelaw2_AddrTurns.f (k + 1) a0 a1 a2 a3 a4 a5 a6) := by
  intro a0 a1 a2 a3 a4 a5 a6 k
  have ih0 := turnpikelaw2_AddrTurns.mono_l k
  unfold turnpikelaw2_AddrTurns.f
  have m0 := @turnpikelaw2_AddrReads.mono
  have m1 := @turnpikelaw2_known.mono
  have m2 := @turnpikeref2_Text.mono
  exact xO
def turnpikelaw2_AddrTurns.T11 : Bool × List (List Nat × List Nat) := (true, [([], []), ([], []), ([1], [1]), ([0, 2], [0, 2]), ([3, 3], [3]), ([4], [4]), ([4], [4]), ([4], [4]), ([4], [4]), ([8, 4], [4, 8]), ([9, 4], [4, 9]), ([7, 10, 4, 4], [4, 7, 10]), ([6, 11, 4], [4, 6, 11]), ([5, 12, 11, 4], [4, 5, 12]), ([4, 13], [4, 13]), ([14, 13], [14]), ([15], [15]), ([15], [15]), ([15], [15]), ([17, 18, 15], [15, 17, 18]), ([15], [15]), ([19, 20, 15], [15, 19, 20]), ([15], [15]), ([15], [15]), ([22, 23, 15], [15, 22, 23]), ([21, 24, 15], [15, 21, 24]), ([16, 25, 15, 15], [15, 16, 25]), ([15, 26], [15, 26]), ([27, 26, 0, 1, 2, 3, 4, 5, 6, 7, 8, 9, 10, 11, 12, 13, 14, 15, 16, 17, 18, 19, 20, 21, 22, 23, 24, 25, 26, 27], [27])])
def turnpikelaw2_AddrTurns.B11 : List Nat := [0, 0, 2, 7, 15, 31, 31, 31, 31, 287, 799, 1951, 4063, 8191, 16383, 32767, 65535, 65535, 65535, 458751, 65535, 2031615, 65535, 65535, 12648447, 33488895, 67108863, 134217727, 268435455]
theorem turnpikelaw2_AddrTurns.tab11 : rtab .any (opsOf Try.f4 11) = turnpikelaw2_AddrTurns.T11 := by kernel_rfl
theorem turnpikelaw2_AddrTurns.bits11 : waitsOk turnpikelaw2_AddrTurns.T11.2 turnpikelaw2_AddrTurns.B11 = true := by kernel_rfl
set_option maxHeartbeats 8000000 in
set_option maxRecDepth 100000 in
theorem turnpikelaw2_AddrTurns.calls (k : Nat) (a0 : Int) (a1_0 : Int) (a1_1 : Int) (a2 : Int) (a3 : Int) (a4 : Int) (a5 : ByteArray) (r : Bool) (w : World) (hML : MLOk w) (hr_ : Aside0 (r = true)) (h : turnpikelaw2_AddrTurns.f k a0 a1_0 a1_1 a2 a3 a4 a5 = some r) :
    Calls Try.prog 4 #[.int .i64 a0, .agg #[.int .u64 a1_0, .int .u64 a1_1], .int .i64 a2, .int .u8 a3, .int .i64 a4, .string a5] w fun e w' => e = .returned (.bool r) ∧ Below w.heap.size w w' := by
  have hu24 := Try.underlying24
  have HML := Aside0.mk hML
  clear hML
  have HB := Aside0.mk (Below.refl w.heap.size w)
  have H : ((turnpikelaw2_known.f k).bind fun t298 => (if t298 = true then ((turnpikeref2_Text.f k a0 a1_0 a1_1).bind fun bt299 => (if bt299.2 = 0 then (if (a5.size : Int) > 40 then (if 0 ≤ 40 then (if 40 ≤ (a5.size : Int) then (turnpikelaw2_AddrTurns.j0 k a0 a2 a3 a4 (a5.extract 0 40) bt299.1) else (none)) else (none)) else (turnpikelaw2_AddrTurns.j0 k a0 a2 a3 a4 a5 bt299.1)) else (some true))) else (some false))) = some r := h
  clear h
  replace H := Option.bind_eq_some_iff.mp H
  obtain ⟨t298, A70, H⟩ := H
  replace H : (if t298 = true then ((turnpikeref2_Text.f k a0 a1_0 a1_1).bind fun bt299 => (if bt299.2 = 0 then (if (a5.size : Int) > 40 then (if 0 ≤ 40 then (if 40 ≤ (a5.size : Int) then (turnpikelaw2_AddrTurns.j0 k a0 a2 a3 a4 (a5.extract 0 40) bt299.1) else (none)) else (none)) else (turnpikelaw2_AddrTurns.j0 k a0 a2 a3 a4 a5 bt299.1)) else (some true))) else (some false)) = some r := H
  have A7 := Aside0.mk A70
  clear A70
  by_cases c8 : t298 = true
  · subst c8
    have H1 : ((turnpikeref2_Text.f k a0 a1_0 a1_1).bind fun bt299 => (if bt299.2 = 0 then (if (a5.size : Int) > 40 then (if 0 ≤ 40 then (if 40 ≤ (a5.size : Int) then (turnpikelaw2_AddrTurns.j0 k a0 a2 a3 a4 (a5.extract 0 40) bt299.1) else (none)) else (none)) else (turnpikelaw2_AddrTurns.j0 k a0 a2 a3 a4 a5 bt299.1)) else (some true))) = some r := by rw [if_pos rfl] at H; exact H
    clear H
    have H := H1
    clear H1
    replace H := Option.bind_eq_some_iff.mp H
    obtain ⟨⟨t299, t300⟩, A90, H⟩ := H
    replace H : (if t300 = 0 then (if (a5.size : Int) > 40 then (if 0 ≤ 40 then (if 40 ≤ (a5.size : Int) then (turnpikelaw2_AddrTurns.j0 k a0 a2 a3 a4 (a5.extract 0 40) t299) else (none)) else (none)) else (turnpikelaw2_AddrTurns.j0 k a0 a2 a3 a4 a5 t299)) else (some true)) = some r := H
    have A9 := Aside0.mk A90
    clear A90
    by_cases c10 : t300 = 0
    · rw [if_pos c10] at H
      have c10b0 : (t300 == 0) = true := beq_iff_eq.mpr c10
      have c10b1 : (t300 != 0) = false := bne_eq_false_iff_eq.mpr c10
      clear c10
      have HC11 := Aside0.mk H
      clear H
      go_enter Try.func4, Try.ntmps4
      go_upto_if 29 with (first | ((with_reducible refine gate_dst (N := 7) rfl ?_); (try (refine gate_guard (by rfl) ?_; dsimp only)); refine box_event ?hg (N := 7) ?hd (cs := #[.int .u64 a1_0, .int .u64 a1_1]) (t := 24) ?hr ?_; (case hd => rfl); (case hg => rfl); (case hr => first | (go_simp; done) | (go_simp; rfl)); intro gb297 hg w12 hbox hb; have n0_ := Aside0.mk (below_step xB hb); have n1_ := Aside0.mk (hbox); have n2_ := Aside0.mk ((by rw [hg]; exact (below_size xB) : w.heap.size ≤ gb297)); have n3_ := Aside0.mk ((by rw [hg]; exact (below_size xB) : w.heap.size ≤ gb297)); clear HB; have HB := n0_; have BK297 := n1_; have GW297 := n2_; have GE297 := n3_; clear n0_ n1_ n2_ n3_; clear hb hbox hg) | ((with_reducible refine gate_callee (f := 11) rfl ?_); refine goesL_ (some 17) rfl rfl Try.func11 (by kernel_rfl) rfl #[] rfl xM ?_; (with_reducible refine (turnpikelaw2_known.calls k  true _ ?side1 A7.out).mono ?_); (case side1 => first | exact MLOk.below HML.out xG | (repeat (first | exact HML.out | (with_reducible refine MLOk.alloc ?_ _) | (with_reducible refine MLOk.drewN ?_ _) | (with_reducible refine MLOk.drew ?_)))); rintro e w13 ⟨rfl, hb⟩; refine ⟨_, rfl, ?_⟩; have n0_ := Aside0.mk (blk_below (g := gb297) (o := .cells #[.int .u64 a1_0, .int .u64 a1_1] 24 (0, 0)) (xK BK297.out) hb); have n1_ := Aside0.mk (below_step xG hb); clear BK297; clear HB; have BK297 := n0_; have HB := n1_; clear n0_ n1_; (try clear hb); (try clear hb2); (try clear hk); (try clear hi); have hcz14_0 : w13.cell? ⟨gb297, 0, none⟩ = some (.int .u64 a1_0) := (blk_cell BK297.out 0).trans rfl; have hcz14_1 : w13.cell? ⟨gb297, 1, none⟩ = some (.int .u64 a1_1) := (blk_cell BK297.out 1).trans rfl; have hfz14_0 := blk_frozen BK297.out 0; have hfz14_1 := blk_frozen BK297.out 1) | ((with_reducible refine gate_callee (f := 12) rfl ?_); refine goesL_ (some 22) rfl rfl Try.func12 (by kernel_rfl) rfl #[.int .i64 a0, .agg #[.int .u64 a1_0, .int .u64 a1_1]] rfl xM ?_; (with_reducible refine (turnpikeref2_Text.calls k a0 a1_0 a1_1 t299 t300 _ A9.out).mono ?_); rintro e w15 ⟨rfl, hb⟩; refine ⟨_, rfl, ?_⟩; have n0_ := Aside0.mk (blk_below (g := gb297) (o := .cells #[.int .u64 a1_0, .int .u64 a1_1] 24 (0, 0)) (xK BK297.out) hb); have n1_ := Aside0.mk (below_step xG hb); clear BK297; clear HB; have BK297 := n0_; have HB := n1_; clear n0_ n1_; (try clear hb); (try clear hb2); (try clear hk); (try clear hi)))
      (try simp only [Act.put, List.setIfInBounds_toArray, List.set_cons_zero, List.set_cons_succ])
      go_cut [5] (fun v5 wc => ∃ (kq : Nat) (x5_10 : ByteArray), v5 = .string x5_10 ∧ Aside0 (turnpikelaw2_AddrTurns.j0 kq a0 a2 a3 a4 x5_10 t299 = some r) ∧ Aside0 (kq ≤ k) ∧ Aside0 (wc.heap[gb297]? = some (.cells #[.int .u64 a1_0, .int .u64 a1_1] 24 (0, 0))) ∧ Aside0 (Below w.heap.size w wc))
      case first =>
        have H := HC11.out
        clear HC11
        by_cases c16 : (a5.size : Int) > 40
        · rw [if_pos c16] at H
          have c16b0 : decide (40 < (a5.size : Int)) = true := decide_eq_true c16
          have c16b1 : decide (40 < a5.size) = true := decide_eq_true (by omega)
          clear c16
          (first | rw [c16b0] | (simp only [i64_w, i32_w]; rw [c16b0]) | skip)
          by_cases c17 : 0 ≤ 40
          · rw [if_pos c17] at H
            have c17b0 := eq_true c17
            have c17b1 : decide (0 ≤ 40) = true := decide_eq_true c17
            clear c17
            by_cases c18 : 40 ≤ (a5.size : Int)
            · rw [if_pos c18] at H
              have c18b0 := eq_true c18
              have c18b1 : decide (40 ≤ (a5.size : Int)) = true := decide_eq_true c18
              clear c18
              have H' := Aside0.mk H
              clear H
              go_wp2
              go_meet
              case rel => exact ⟨_, (a5.extract 0 40), xV, H', ⟨by first | omega | exact Nat.le_refl _⟩, ⟨xK BK297.out⟩, ⟨xG⟩⟩
            · rw [if_neg c18] at H
              exact absurd H (by simp)
          · rw [if_neg c17] at H
            exact absurd H (by simp)
        · rw [if_neg c16] at H
          have c16b0 : decide (40 < (a5.size : Int)) = false := decide_eq_false c16
          have c16b1 : decide (40 < a5.size) = false := decide_eq_false (by omega)
          clear c16
          (first | rw [c16b0] | (simp only [i64_w, i32_w]; rw [c16b0]) | skip)
          have H' := Aside0.mk H
          clear H
          go_wp2
          go_meet
          case rel => exact ⟨_, (a5), xV, H', ⟨by first | omega | exact Nat.le_refl _⟩, ⟨xK BK297.out⟩, ⟨xG⟩⟩
      case rest =>
        clear HC11
        try clear c1
        try clear p2
        try clear c4
        try clear c8
        try clear c10
        try clear c10b0
        try clear c10b1
        try clear c11
        try clear c12
        try clear c16
        try clear c16b0
        try clear c16b1
        try clear c17
        try clear c17b0
        try clear c17b1
        try clear c18
        try clear c18b0
        try clear c18b1
        try clear hcz14_0
        try clear hcz14_1
        try clear hfz14_0
        try clear hfz14_1
        obtain ⟨kq, x5_10, rfl, HA, HJ10, BK297, HB⟩ := hcut
        cases kq with
        | zero => exact absurd HA.out (by simp [turnpikelaw2_AddrTurns.j0])
        | succ kj10 =>
          have H := HA.out
          clear HA
          simp only [turnpikelaw2_AddrTurns.j0] at H
          replace H := Option.bind_eq_some_iff.mp H
          obtain ⟨t301, A190, H⟩ := H
          replace H : ((some (bytesOf t299 : List Int)).bind fun y302 => (if 0 ≤ t301 then (if t301 < (y302.length : Int) then ((turnpikelaw2_AddrReads.f kj10 a0 (strOfNums (y302.set (t301 : Int).toNat (((rd y302 t301) + a3) % 256)))).bind fun t307 => (if t307 = true then ((turnpikelaw2_within.f a4 (wrap64 ((t299.size : Int) + 1))).bind fun t308 => (if 0 ≤ t308 then (if t308 ≤ (t299.size : Int) then ((turnpikelaw2_AddrReads.f kj10 a0 (t299.extract 0 (t308 : Int).toNat)).bind fun t309 => (if t309 = true then (if t301 ≤ (t299.size : Int) then (if (t299.extract 0 (t301 : Int).toNat).size + x5_10.size ≤ 9223372036854775807 then (if ((t299.extract 0 (t301 : Int).toNat) ++ x5_10).size + (t299.extract (t301 : Int).toNat t299.size).size ≤ 9223372036854775807 then ((turnpikelaw2_AddrReads.f kj10 a0 (((t299.extract 0 (t301 : Int).toNat) ++ x5_10) ++ (t299.extract (t301 : Int).toNat t299.size))).bind fun t310 => (some t310)) else (none)) else (none)) else (none)) else (some false))) else (none)) else (none))) else (some false))) else (none)) else (none))) = some r := H
          have A19 := Aside0.mk A190
          clear A190
          obtain ⟨y302, hy302⟩ : ∃ y_ : List Int, y_ = (bytesOf t299) := ⟨_, rfl⟩
          replace H : (if 0 ≤ t301 then (if t301 < (y302.length : Int) then ((turnpikelaw2_AddrReads.f kj10 a0 (strOfNums (y302.set (t301 : Int).toNat (((rd y302 t301) + a3) % 256)))).bind fun t307 => (if t307 = true then ((turnpikelaw2_within.f a4 (wrap64 ((t299.size : Int) + 1))).bind fun t308 => (if 0 ≤ t308 then (if t308 ≤ (t299.size : Int) then ((turnpikelaw2_AddrReads.f kj10 a0 (t299.extract 0 (t308 : Int).toNat)).bind fun t309 => (if t309 = true then (if t301 ≤ (t299.size : Int) then (if (t299.extract 0 (t301 : Int).toNat).size + x5_10.size ≤ 9223372036854775807 then (if ((t299.extract 0 (t301 : Int).toNat) ++ x5_10).size + (t299.extract (t301 : Int).toNat t299.size).size ≤ 9223372036854775807 then ((turnpikelaw2_AddrReads.f kj10 a0 (((t299.extract 0 (t301 : Int).toNat) ++ x5_10) ++ (t299.extract (t301 : Int).toNat t299.size))).bind fun t310 => (some t310)) else (none)) else (none)) else (none)) else (some false))) else (none)) else (none))) else (some false))) else (none)) else (none)) = some r := by first | (rw [hy302]; with_reducible exact H) | (have H2_ := (Option.bind_some _ _).symm.trans H; rw [hy302]; with_reducible exact H2_) | (have H2_ := (Option.bind_some _ _).symm.trans H; with_reducible exact H2_) | with_reducible exact H | (rw [hy302]; exact H) | exact H
          have Ny302 := Aside0.mk hy302
          clear hy302
          by_cases c20 : 0 ≤ t301
          · rw [if_pos c20] at H
            have c20b0 : decide (0 ≤ t301) = true := decide_eq_true c20
            clear c20
            by_cases c21 : t301 < (y302.length : Int)
            · rw [if_pos c21] at H
              have c21b0 : decide (t301 < (y302.length : Int)) = true := decide_eq_true c21
              clear c21
              obtain ⟨y306, hy306⟩ : ∃ y_ : List Int, y_ = (y302.set (t301 : Int).toNat (((rd y302 t301) + a3) % 256)) := ⟨_, rfl⟩
              replace H : ((turnpikelaw2_AddrReads.f kj10 a0 (strOfNums y306)).bind fun t307 => (if t307 = true then ((turnpikelaw2_within.f a4 (wrap64 ((t299.size : Int) + 1))).bind fun t308 => (if 0 ≤ t308 then (if t308 ≤ (t299.size : Int) then ((turnpikelaw2_AddrReads.f kj10 a0 (t299.extract 0 (t308 : Int).toNat)).bind fun t309 => (if t309 = true then (if t301 ≤ (t299.size : Int) then (if (t299.extract 0 (t301 : Int).toNat).size + x5_10.size ≤ 9223372036854775807 then (if ((t299.extract 0 (t301 : Int).toNat) ++ x5_10).size + (t299.extract (t301 : Int).toNat t299.size).size ≤ 9223372036854775807 then ((turnpikelaw2_AddrReads.f kj10 a0 (((t299.extract 0 (t301 : Int).toNat) ++ x5_10) ++ (t299.extract (t301 : Int).toNat t299.size))).bind fun t310 => (some t310)) else (none)) else (none)) else (none)) else (some false))) else (none)) else (none))) else (some false))) = some r := by first | (rw [hy306]; with_reducible exact H) | (have H2_ := (Option.bind_some _ _).symm.trans H; rw [hy306]; with_reducible exact H2_) | (have H2_ := (Option.bind_some _ _).symm.trans H; with_reducible exact H2_) | with_reducible exact H | (rw [hy306]; exact H) | exact H
              have Ny306 := Aside0.mk hy306
              clear hy306
              replace H := Option.bind_eq_some_iff.mp H
              obtain ⟨t307, A230, H⟩ := H
              replace H : (if t307 = true then ((turnpikelaw2_within.f a4 (wrap64 ((t299.size : Int) + 1))).bind fun t308 => (if 0 ≤ t308 then (if t308 ≤ (t299.size : Int) then ((turnpikelaw2_AddrReads.f kj10 a0 (t299.extract 0 (t308 : Int).toNat)).bind fun t309 => (if t309 = true then (if t301 ≤ (t299.size : Int) then (if (t299.extract 0 (t301 : Int).toNat).size + x5_10.size ≤ 9223372036854775807 then (if ((t299.extract 0 (t301 : Int).toNat) ++ x5_10).size + (t299.extract (t301 : Int).toNat t299.size).size ≤ 9223372036854775807 then ((turnpikelaw2_AddrReads.f kj10 a0 (((t299.extract 0 (t301 : Int).toNat) ++ x5_10) ++ (t299.extract (t301 : Int).toNat t299.size))).bind fun t310 => (some t310)) else (none)) else (none)) else (none)) else (some false))) else (none)) else (none))) else (some false)) = some r := H
              have A23 := Aside0.mk A230
              clear A230
              by_cases c24 : t307 = true
              · subst c24
                have H1 : ((turnpikelaw2_within.f a4 (wrap64 ((t299.size : Int) + 1))).bind fun t308 => (if 0 ≤ t308 then (if t308 ≤ (t299.size : Int) then ((turnpikelaw2_AddrReads.f kj10 a0 (t299.extract 0 (t308 : Int).toNat)).bind fun t309 => (if t309 = true then (if t301 ≤ (t299.size : Int) then (if (t299.extract 0 (t301 : Int).toNat).size + x5_10.size ≤ 9223372036854775807 then (if ((t299.extract 0 (t301 : Int).toNat) ++ x5_10).size + (t299.extract (t301 : Int).toNat t299.size).size ≤ 9223372036854775807 then ((turnpikelaw2_AddrReads.f kj10 a0 (((t299.extract 0 (t301 : Int).toNat) ++ x5_10) ++ (t299.extract (t301 : Int).toNat t299.size))).bind fun t310 => (some t310)) else (none)) else (none)) else (none)) else (some false))) else (none)) else (none))) = some r := by rw [if_pos rfl] at H; exact H
                clear H
                have H := H1
                clear H1
                replace H := Option.bind_eq_some_iff.mp H
                obtain ⟨t308, A250, H⟩ := H
                replace H : (if 0 ≤ t308 then (if t308 ≤ (t299.size : Int) then ((turnpikelaw2_AddrReads.f kj10 a0 (t299.extract 0 (t308 : Int).toNat)).bind fun t309 => (if t309 = true then (if t301 ≤ (t299.size : Int) then (if (t299.extract 0 (t301 : Int).toNat).size + x5_10.size ≤ 9223372036854775807 then (if ((t299.extract 0 (t301 : Int).toNat) ++ x5_10).size + (t299.extract (t301 : Int).toNat t299.size).size ≤ 9223372036854775807 then ((turnpikelaw2_AddrReads.f kj10 a0 (((t299.extract 0 (t301 : Int).toNat) ++ x5_10) ++ (t299.extract (t301 : Int).toNat t299.size))).bind fun t310 => (some t310)) else (none)) else (none)) else (none)) else (some false))) else (none)) else (none)) = some r := H
                have A25 := Aside0.mk A250
                clear A250
                by_cases c26 : 0 ≤ t308
                · rw [if_pos c26] at H
                  have c26b0 := eq_true c26
                  have c26b1 : decide (0 ≤ t308) = true := decide_eq_true c26
                  clear c26
                  by_cases c27 : t308 ≤ (t299.size : Int)
                  · rw [if_pos c27] at H
                    have c27b0 := eq_true c27
                    have c27b1 : decide (t308 ≤ (t299.size : Int)) = true := decide_eq_true c27
                    clear c27
                    replace H := Option.bind_eq_some_iff.mp H
                    obtain ⟨t309, A280, H⟩ := H
                    replace H : (if t309 = true then (if t301 ≤ (t299.size : Int) then (if (t299.extract 0 (t301 : Int).toNat).size + x5_10.size ≤ 9223372036854775807 then (if ((t299.extract 0 (t301 : Int).toNat) ++ x5_10).size + (t299.extract (t301 : Int).toNat t299.size).size ≤ 9223372036854775807 then ((turnpikelaw2_AddrReads.f kj10 a0 (((t299.extract 0 (t301 : Int).toNat) ++ x5_10) ++ (t299.extract (t301 : Int).toNat t299.size))).bind fun t310 => (some t310)) else (none)) else (none)) else (none)) else (some false)) = some r := H
                    have A28 := Aside0.mk A280
                    clear A280
                    by_cases c29 : t309 = true
                    · subst c29
                      have H1 : (if t301 ≤ (t299.size : Int) then (if (t299.extract 0 (t301 : Int).toNat).size + x5_10.size ≤ 9223372036854775807 then (if ((t299.extract 0 (t301 : Int).toNat) ++ x5_10).size + (t299.extract (t301 : Int).toNat t299.size).size ≤ 9223372036854775807 then ((turnpikelaw2_AddrReads.f kj10 a0 (((t299.extract 0 (t301 : Int).toNat) ++ x5_10) ++ (t299.extract (t301 : Int).toNat t299.size))).bind fun t310 => (some t310)) else (none)) else (none)) else (none)) = some r := by rw [if_pos rfl] at H; exact H
                      clear H
                      have H := H1
                      clear H1
                      have c30b0 := eq_true (of_decide_eq_true xA : 0 ≤ t301)
                      by_cases c31 : t301 ≤ (t299.size : Int)
                      · rw [if_pos c31] at H
                        have c31b0 := eq_true c31
                        have c31b1 : decide (t301 ≤ (t299.size : Int)) = true := decide_eq_true c31
                        clear c31
                        by_cases c32 : (t299.extract 0 (t301 : Int).toNat).size + x5_10.size ≤ 9223372036854775807
                        · rw [if_pos c32] at H
                          have c32b0 := eq_true c32
                          have c32b1 : decide ((t299.extract 0 (t301 : Int).toNat).size + x5_10.size ≤ 9223372036854775807) = true := decide_eq_true c32
                          try have c32e : (9223372036854775807 < (t301 : Int).toNat + x5_10.size) = False := eq_false (Nat.not_lt.2 (by have h_ := c32; simp only [ByteArray.size_append, ByteArray.size_extract] at h_; have e0_ : t301 ≤ (t299.size : Int) := (by first | (with_reducible assumption) | exact of_eq_true (by with_reducible assumption) | exact of_decide_eq_true (by with_reducible assumption)); omega))
                          try have c32b2 : (9223372036854775807 < (t299.extract 0 (t301 : Int).toNat).size + x5_10.size) = False := eq_false (Nat.not_lt.2 c32)
                          have c33b0 := eq_true (of_decide_eq_true xA : 0 ≤ t301)
                          have c34b0 := eq_true (of_decide_eq_true xA : t301 ≤ (t299.size : Int))
                          by_cases c35 : ((t299.extract 0 (t301 : Int).toNat) ++ x5_10).size + (t299.extract (t301 : Int).toNat t299.size).size ≤ 9223372036854775807
                          · rw [if_pos c35] at H
                            have c35b0 := eq_true c35
                            have c35b1 : decide (((t299.extract 0 (t301 : Int).toNat) ++ x5_10).size + (t299.extract (t301 : Int).toNat t299.size).size ≤ 9223372036854775807) = true := decide_eq_true c35
                            try have c35e : (9223372036854775807 < (t301 : Int).toNat + x5_10.size + (t299.size - (t301 : Int).toNat)) = False := eq_false (Nat.not_lt.2 (by have h_ := c35; simp only [ByteArray.size_append, ByteArray.size_extract] at h_; have e0_ : t301 ≤ (t299.size : Int) := (by first | (with_reducible assumption) | exact of_eq_true (by with_reducible assumption) | exact of_decide_eq_true (by with_reducible assumption)); omega))
                            try have c35s : (9223372036854775807 < (t299.extract 0 (t301 : Int).toNat).size + x5_10.size + (t299.extract (t301 : Int).toNat t299.size).size) = False := eq_false (Nat.not_lt.2 (by have h_ := c35; simp only [ByteArray.size_append] at h_; exact h_))
                            try have c35b2 : (9223372036854775807 < ((t299.extract 0 (t301 : Int).toNat) ++ x5_10).size + (t299.extract (t301 : Int).toNat t299.size).size) = False := eq_false (Nat.not_lt.2 c35)
                            replace H := Option.bind_eq_some_iff.mp H
                            obtain ⟨t310, A360, H⟩ := H
                            replace H : (some t310) = some r := H
                            have A36 := Aside0.mk A360
                            clear A360
                            obtain rfl := Option.some.inj H
                            try go_wp2_with (first | ((with_reducible refine gate_callee (f := 13) rfl ?_); refine goesL_ (some 35) rfl rfl Try.func13 (by kernel_rfl) rfl #[.int .i64 a2, .int .i64 (t299.size : Int)] rfl xM ?_; (with_reducible refine (turnpikelaw2_within.calls a2 (t299.size : Int) t301 _ A19.out).mono ?_); rintro e w' ⟨rfl, ⟨nd, rfl⟩⟩; refine ⟨_, rfl, ?_⟩; (try (rw [drewN_self wc]; generalize hq_ : World.drewN wc _ = wc; have n0_ : Aside0 (wc.heap[gb297]? = some (.cells #[.int .u64 a1_0, .int .u64 a1_1] 24 (0, 0))) := ⟨by rw [← hq_]; exact (xK BK297.out)⟩; have n1_ : Aside0 (Below w.heap.size w wc) := ⟨by rw [← hq_]; exact xG⟩; clear BK297 HB hq_; have BK297 := n0_; have HB := n1_; clear n0_ n1_))) | ((with_reducible refine gate_dst (N := 37) rfl ?_); (try (refine gate_guard (by rfl) ?_; dsimp only)); refine Kd.F_bytes (Kd.int .u8) _ 5 rfl (N := 37) rfl 9 35 _ rfl t299 rfl Try.underlying9 Try.underlying35 Try.underlying5 (Below.refl _ _) (Nat.le_refl _) ?_; intro v303 w37 ho38 hb hg_ hnew_; clear hg_ hnew_; (first | rw [← Ny302.out] at ho38 | (simp only [Int.reduceToNat] at ho38; rw [← Ny302.out] at ho38)); have n0_ := Aside0.mk (Kd.F_lower ho38 (below_size xG)); have n1_ := Aside0.mk (blk_below (g := gb297) (o := .cells #[.int .u64 a1_0, .int .u64 a1_1] 24 (0, 0)) (xK BK297.out) hb); have n2_ := Aside0.mk (below_step xG hb); clear BK297; clear HB; have HO304 := n0_; have BK297 := n1_; have HB := n2_; clear n0_ n1_ n2_; clear hb ho38; obtain ⟨Ao39, co39, eo39⟩ := Kd.F_slice HO304.out; subst eo39; have p305 : 0 ≤ (t301 : Int) := of_decide_eq_true xA; have q305 : t301 < (y302.length : Int) := of_decide_eq_true xA; obtain ⟨ad305, e305, hx305_0⟩ := Kd.F_at HO304.out t301 p305 q305; cases e305; replace p305 := eq_true p305; replace q305 := eq_true q305; have p22 : 0 ≤ (t301 : Int) := of_decide_eq_true xA; have q22 : (t301 : Int) < ((y302.length : Int) : Int) := of_decide_eq_true xA; obtain ⟨go22, co22, eo22, gb22, gl22, cl22, HG22⟩ := Kd.F_form HO304.out (by omega); (first | cases eo22 | (injection eo22 with ea_ en_ ec_; (first | subst ea_ | (injection ea_ with ea_; subst ea_)); subst ec_; clear en_)); have GB22 := Aside0.mk gb22; have GG22 := Aside0.mk HG22; clear gb22 gl22 HG22; (first | simp only [add_plain] at hx305_0 | skip); obtain ⟨hx22_0, hf22_0⟩ := Kd.F_celln 0 HO304.out (t301 : Int) p22 q22; replace p22 := eq_true p22; replace q22 := eq_true q22; obtain ⟨hy40_, hz40_⟩ := Kd.F_celln 0 HO304.out (t301 : Int) (of_decide_eq_true xA) (of_decide_eq_true xA); have HP40 := Kd.F_putg HO304.out (t301 : Int) (((rd y302 t301) + a3) % 256)) | ((with_reducible refine gate_store (t := 5) (p := 46) rfl ?_); refine store_event (t := 5) (p := 46) (v := ?vo_w41) (w1 := (w37.setCell ⟨go22, (t301 : Int).toNat, none⟩ (.int .u8 (((rd y302 t301) + a3) % 256)))) ?hg ?ho ?hn ?hr ?_; (case ho => rfl); (case hg => rfl); (case hn => rfl); (case hr => first | (go_simp; done) | (go_simp; rfl)); intro w41 hw; have hg : w37.grownBy w41 (some go22) := (by rw [hw]; exact HP40.2); have hp_ : Kd.F (Kd.int .u8) 5 w41 w.heap.size (fun _ => True) (.slice (some ⟨go22, 0, none⟩) y302.length co39) y306 := (by rw [hw, Ny306.out]; exact HP40.1); clear HP40; have n0_ := Aside0.mk (blk_grown (g := gb297) (o := .cells #[.int .u64 a1_0, .int .u64 a1_1] 24 (0, 0)) (xK BK297.out) hg (Kd.F_ne HO304.out BK297.out (by decide))); have n1_ := Aside0.mk (hp_); have n2_ := Aside0.mk ((by rw [hw]; exact below_set (HB.out) GB22.out : Below w.heap.size w w41)); clear BK297; clear HO304; clear HB; have BK297 := n0_; have HO304 := n1_; have HB := n2_; clear n0_ n1_ n2_; clear hg hw hp_))
                            have n0_ := Aside0.mk (Kd.F_drew HO304.out)
                            have n1_ := Aside0.mk (blk_drew BK297.out)
                            have n2_ := Aside0.mk (below_drew1 HB.out)
                            clear HO304
                            clear BK297
                            clear HB
                            have HO304 := n0_
                            have BK297 := n1_
                            have HB := n2_
                            clear n0_ n1_ n2_
                            have hcv43 := Kd.string_F (P := Try.prog) Try.underlying35 Try.underlying5 Try.underlying9 HO304.out
                            refine start_ (n := 29) (S := Kd.ConvS Try.prog 35 9 _ _) (ds := []) #[false, false, false, false, false, false, false, false, false, false, false, false, false, false, false, false, false, false, false, false, false, false, false, false, false, false, false, false, false] (by kernel_rfl) rfl rfl (Kd.string_F (P := Try.prog) Try.underlying35 Try.underlying5 Try.underlying9 HO304.out) (fun hHeld => ?_); refine with_tabW turnpikelaw2_AddrTurns.tab11 turnpikelaw2_AddrTurns.bits11 (fun HT_ HW_ => ?_)
                            generalize w41.drew = w42 at HO304 BK297 HB hHeld ⊢
                            refine pure_ (i := 0) (N := some 47) (v := ?_) (a' := ?_) #[true, false, false, false, false, false, false, false, false, false, false, false, false, false, false, false, false, false, false, false, false, false, false, false, false, false, false, false, false] rfl rfl (any_of HT_.out (by kernel_rfl)) (fun _ _ _ h => h) (Or.inl ⟨by rfl, ?_⟩) ?_ ?_
                            rotate_left
                            · intro w'
                              go_simp
                              with_reducible rfl
                            rotate_left
                            · simp only [Act.put, List.setIfInBounds_toArray, List.set_cons_zero, List.set_cons_succ, i64_w, i32_w]
                              rfl
                            refine pure_ (i := 1) (N := some 48) (v := ?_) (a' := ?_) #[true, true, false, false, false, false, false, false, false, false, false, false, false, false, false, false, false, false, false, false, false, false, false, false, false, false, false, false, false] rfl rfl (any_of HT_.out (by kernel_rfl)) (fun _ _ _ h => h) (Or.inl ⟨by rfl, ?_⟩) ?_ ?_
                            rotate_left
                            · intro w'
                              go_simp
                              with_reducible rfl
                            rotate_left
                            · simp only [Act.put, List.setIfInBounds_toArray, List.set_cons_zero, List.set_cons_succ, i64_w, i32_w]
                              rfl
                            refine take_ (i := 2) (N := some 49) (v := ?_) (a' := ?_) #[true, true, true, false, false, false, false, false, false, false, false, false, false, false, false, false, false, false, false, false, false, false, false, false, false, false, false, false, false] rfl rfl (take_ofW HT_.out HW_.out (by kernel_rfl)) (fun _ _ _ h => h) (Or.inl ⟨by rfl, ?_⟩) hHeld ?_ ?_
                            rotate_left
                            · intro w' s0; have s0 := Kd.ConvS.run s0
                              go_simp
                              with_reducible rfl
                            rotate_left
                            · simp only [Act.put, List.setIfInBounds_toArray, List.set_cons_zero, List.set_cons_succ, i64_w, i32_w]
                              rfl
                            refine one_ (i := 3) (N := some 50) #[true, true, true, true, false, false, false, false, false, false, false, false, false, false, false, false, false, false, false, false, false, false, false, false, false, false, false, false, false] rfl rfl (one_of HT_.out (by kernel_rfl)) (by decide) (fun K hK => ?_)
                            refine goes_ Try.func3 (by kernel_rfl) rfl #[.int .i64 a0, .string (strOfNums y306)] (by rfl) rfl rfl xM ?_
                            with_reducible refine (turnpikelaw2_AddrReads.calls kj10 a0 (strOfNums y306) true _ ?side1 A23.out).mono ?_
                            (case side1 => first | exact MLOk.below HML.out xG | (repeat (first | exact HML.out | (with_reducible refine MLOk.alloc ?_ _) | (with_reducible refine MLOk.drewN ?_ _) | (with_reducible refine MLOk.drew ?_))))
                            rintro e w44 ⟨rfl, hb⟩
                            refine ⟨_, rfl, ?_⟩
                            have n0_ := Aside0.mk (Kd.F_below (by (with_reducible repeat (first | apply Kd.F_alloc | apply Kd.F_drewN | apply Kd.F_drew)); exact HO304.out) hb)
                            have n1_ := Aside0.mk (blk_below (g := gb297) (o := .cells #[.int .u64 a1_0, .int .u64 a1_1] 24 (0, 0)) (xK BK297.out) hb)
                            have n2_ := Aside0.mk (below_step xG hb)
                            clear HO304
                            clear BK297
                            clear HB
                            have HO304 := n0_
                            have BK297 := n1_
                            have HB := n2_
                            clear n0_ n1_ n2_
                            (try clear hb)
                            (try clear hb2)
                            (try clear hk)
                            (try clear hi)
                            refine hK.out _ _ (Kd.string_F (P := Try.prog) Try.underlying35 Try.underlying5 Try.underlying9 HO304.out) (fun hHeld => ?_)
                            clear hK K
                            refine norm_ (a' := ?_) ?_ ?_
                            rotate_left
                            · show Act.put _ (some 50) _ = _
                              simp only [Act.put, List.setIfInBounds_toArray, List.set_cons_zero, List.set_cons_succ, i64_w, i32_w]
                              rfl
                            refine pure_ (i := 4) (N := some 51) (v := ?_) (a' := ?_) #[true, true, true, true, true, false, false, false, false, false, false, false, false, false, false, false, false, false, false, false, false, false, false, false, false, false, false, false, false] rfl rfl (any_of HT_.out (by kernel_rfl)) (fun _ _ _ h => h) (Or.inl ⟨by rfl, ?_⟩) ?_ ?_
                            rotate_left
                            · intro w'
                              go_simp
                              with_reducible rfl
                            rotate_left
                            · simp only [Act.put, List.setIfInBounds_toArray, List.set_cons_zero, List.set_cons_succ, i64_w, i32_w]
                              rfl
                            refine pure_ (i := 5) (N := some 52) (v := ?_) (a' := ?_) #[true, true, true, true, true, true, false, false, false, false, false, false, false, false, false, false, false, false, false, false, false, false, false, false, false, false, false, false, false] rfl rfl (any_of HT_.out (by kernel_rfl)) (fun _ _ _ h => h) (Or.inl ⟨by rfl, ?_⟩) ?_ ?_
                            rotate_left
                            · intro w'
                              go_simp
                              with_reducible rfl
                            rotate_left
                            · simp only [Act.put, List.setIfInBounds_toArray, List.set_cons_zero, List.set_cons_succ, i64_w, i32_w]
                              rfl
                            refine pure_ (i := 6) (N := some 53) (v := ?_) (a' := ?_) #[true, true, true, true, true, true, true, false, false, false, false, false, false, false, false, false, false, false, false, false, false, false, false, false, false, false, false, false, false] rfl rfl (any_of HT_.out (by kernel_rfl)) (fun _ _ _ h => h) (Or.inl ⟨by rfl, ?_⟩) ?_ ?_
                            rotate_left
                            · intro w'
                              go_simp
                              with_reducible rfl
                            rotate_left
                            · simp only [Act.put, List.setIfInBounds_toArray, List.set_cons_zero, List.set_cons_succ, i64_w, i32_w]
                              rfl
                            refine pure_ (i := 7) (N := some 54) (v := ?_) (a' := ?_) #[true, true, true, true, true, true, true, true, false, false, false, false, false, false, false, false, false, false, false, false, false, false, false, false, false, false, false, false, false] rfl rfl (any_of HT_.out (by kernel_rfl)) (fun _ _ _ h => h) (Or.inl ⟨by rfl, ?_⟩) ?_ ?_
                            rotate_left
                            · intro w'
                              go_simp
                              with_reducible rfl
                            rotate_left
                            · simp only [Act.put, List.setIfInBounds_toArray, List.set_cons_zero, List.set_cons_succ, i64_w, i32_w]
                              rfl
                            refine pure_ (i := 8) (N := some 55) (v := ?_) (a' := ?_) #[true, true, true, true, true, true, true, true, true, false, false, false, false, false, false, false, false, false, false, false, false, false, false, false, false, false, false, false, false] rfl rfl (any_of HT_.out (by kernel_rfl)) (fun _ _ _ h => h) (Or.inl ⟨by rfl, ?_⟩) ?_ ?_
                            rotate_left
                            · intro w'
                              go_simp
                              with_reducible rfl
                            rotate_left
                            · simp only [Act.put, List.setIfInBounds_toArray, List.set_cons_zero, List.set_cons_succ, i64_w, i32_w]
                              rfl
                            refine pure_ (i := 9) (N := some 56) (v := ?_) (a' := ?_) #[true, true, true, true, true, true, true, true, true, true, false, false, false, false, false, false, false, false, false, false, false, false, false, false, false, false, false, false, false] rfl rfl (any_of HT_.out (by kernel_rfl)) (fun _ _ _ h => h) (Or.inl ⟨by rfl, ?_⟩) ?_ ?_
                            rotate_left
                            · intro w'
                              go_simp
                              with_reducible rfl
                            rotate_left
                            · simp only [Act.put, List.setIfInBounds_toArray, List.set_cons_zero, List.set_cons_succ, i64_w, i32_w]
                              rfl
                            refine pure_ (i := 10) (N := some 57) (v := ?_) (a' := ?_) #[true, true, true, true, true, true, true, true, true, true, true, false, false, false, false, false, false, false, false, false, false, false, false, false, false, false, false, false, false] rfl rfl (any_of HT_.out (by kernel_rfl)) (fun _ _ _ h => h) (Or.inl ⟨by rfl, ?_⟩) ?_ ?_
                            rotate_left
                            · intro w'
                              go_simp
                              with_reducible rfl
                            rotate_left
                            · simp only [Act.put, List.setIfInBounds_toArray, List.set_cons_zero, List.set_cons_succ, i64_w, i32_w]
                              rfl
                            refine one_ (i := 11) (N := some 58) #[true, true, true, true, true, true, true, true, true, true, true, true, false, false, false, false, false, false, false, false, false, false, false, false, false, false, false, false, false] rfl rfl (one_of HT_.out (by kernel_rfl)) (by decide) (fun K hK => ?_)
                            refine goes_ Try.func13 (by kernel_rfl) rfl #[.int .i64 a4, .int .i64 (wrap64 ((t299.size : Int) + 1))] (by rfl) rfl rfl xM ?_
                            with_reducible refine (turnpikelaw2_within.calls a4 (wrap64 ((t299.size : Int) + 1)) t308 _ A25.out).mono ?_
                            rintro e w' ⟨rfl, ⟨nd, rfl⟩⟩
                            refine ⟨_, rfl, ?_⟩
                            refine hK.out _ _ (Kd.string_F (P := Try.prog) Try.underlying35 Try.underlying5 Try.underlying9 HO304.out) (fun hHeld => ?_)
                            clear hK K
                            refine norm_ (a' := ?_) ?_ ?_
                            rotate_left
                            · show Act.put _ (some 58) _ = _
                              simp only [Act.put, List.setIfInBounds_toArray, List.set_cons_zero, List.set_cons_succ, i64_w, i32_w]
                              rfl
                            refine pure_ (i := 12) (N := some 59) (v := ?_) (a' := ?_) #[true, true, true, true, true, true, true, true, true, true, true, true, true, false, false, false, false, false, false, false, false, false, false, false, false, false, false, false, false] rfl rfl (any_of HT_.out (by kernel_rfl)) (fun _ _ _ h => h) (Or.inl ⟨by rfl, ?_⟩) ?_ ?_
                            rotate_left
                            · intro w'
                              go_simp
                              with_reducible rfl
                            rotate_left
                            · simp only [Act.put, List.setIfInBounds_toArray, List.set_cons_zero, List.set_cons_succ, i64_w, i32_w]
                              rfl
                            refine one_ (i := 13) (N := some 60) #[true, true, true, true, true, true, true, true, true, true, true, true, true, true, false, false, false, false, false, false, false, false, false, false, false, false, false, false, false] rfl rfl (one_of HT_.out (by kernel_rfl)) (by decide) (fun K hK => ?_)
                            refine goes_ Try.func3 (by kernel_rfl) rfl #[.int .i64 a0, .string (t299.extract 0 (t308 : Int).toNat)] (by rfl) rfl rfl xM ?_
                            with_reducible refine (turnpikelaw2_AddrReads.calls kj10 a0 (t299.extract 0 (t308 : Int).toNat) true _ ?side1 A28.out).mono ?_
                            (case side1 => first | exact MLOk.below HML.out xG | (repeat (first | exact HML.out | (with_reducible refine MLOk.alloc ?_ _) | (with_reducible refine MLOk.drewN ?_ _) | (with_reducible refine MLOk.drew ?_))))
                            rintro e w45 ⟨rfl, hb⟩
                            refine ⟨_, rfl, ?_⟩
                            have n0_ := Aside0.mk (Kd.F_below (by (with_reducible repeat (first | apply Kd.F_alloc | apply Kd.F_drewN | apply Kd.F_drew)); exact HO304.out) hb)
                            have n1_ := Aside0.mk (blk_below (g := gb297) (o := .cells #[.int .u64 a1_0, .int .u64 a1_1] 24 (0, 0)) (xK BK297.out) hb)
                            have n2_ := Aside0.mk (below_step xG hb)
                            clear HO304
                            clear BK297
                            clear HB
                            have HO304 := n0_
                            have BK297 := n1_
                            have HB := n2_
                            clear n0_ n1_ n2_
                            (try clear hb)
                            (try clear hb2)
                            (try clear hk)
                            (try clear hi)
                            refine hK.out _ _ (Kd.string_F (P := Try.prog) Try.underlying35 Try.underlying5 Try.underlying9 HO304.out) (fun hHeld => ?_)
                            clear hK K
                            refine norm_ (a' := ?_) ?_ ?_
                            rotate_left
                            · show Act.put _ (some 60) _ = _
                              simp only [Act.put, List.setIfInBounds_toArray, List.set_cons_zero, List.set_cons_succ, i64_w, i32_w]
                              rfl
                            refine pure_ (i := 14) (N := some 61) (v := ?_) (a' := ?_) #[true, true, true, true, true, true, true, true, true, true, true, true, true, true, true, false, false, false, false, false, false, false, false, false, false, false, false, false, false] rfl rfl (any_of HT_.out (by kernel_rfl)) (fun _ _ _ h => h) (Or.inl ⟨by rfl, ?_⟩) ?_ ?_
                            rotate_left
                            · intro w'
                              go_simp
                              with_reducible rfl
                            rotate_left
                            · simp only [Act.put, List.setIfInBounds_toArray, List.set_cons_zero, List.set_cons_succ, i64_w, i32_w]
                              rfl
                            refine pure_ (i := 15) (N := some 62) (v := ?_) (a' := ?_) #[true, true, true, true, true, true, true, true, true, true, true, true, true, true, true, true, false, false, false, false, false, false, false, false, false, false, false, false, false] rfl rfl (any_of HT_.out (by kernel_rfl)) (fun _ _ _ h => h) (Or.inl ⟨by rfl, ?_⟩) ?_ ?_
                            rotate_left
                            · intro w'
                              go_simp
                              with_reducible rfl
                            rotate_left
                            · simp only [Act.put, List.setIfInBounds_toArray, List.set_cons_zero, List.set_cons_succ, i64_w, i32_w]
                              rfl
                            refine pure_ (i := 16) (N := some 63) (v := ?_) (a' := ?_) #[true, true, true, true, true, true, true, true, true, true, true, true, true, true, true, true, true, false, false, false, false, false, false, false, false, false, false, false, false] rfl rfl (any_of HT_.out (by kernel_rfl)) (fun _ _ _ h => h) (Or.inl ⟨by rfl, ?_⟩) ?_ ?_
                            rotate_left
                            · intro w'
                              go_simp
                              with_reducible rfl
                            rotate_left
                            · simp only [Act.put, List.setIfInBounds_toArray, List.set_cons_zero, List.set_cons_succ, i64_w, i32_w]
                              rfl
                            refine pure_ (i := 17) (N := some 64) (v := ?_) (a' := ?_) #[true, true, true, true, true, true, true, true, true, true, true, true, true, true, true, true, true, true, false, false, false, false, false, false, false, false, false, false, false] rfl rfl (any_of HT_.out (by kernel_rfl)) (fun _ _ _ h => h) (Or.inl ⟨by rfl, ?_⟩) ?_ ?_
                            rotate_left
                            · intro w'
                              go_simp
                              with_reducible rfl
                            rotate_left
                            · simp only [Act.put, List.setIfInBounds_toArray, List.set_cons_zero, List.set_cons_succ, i64_w, i32_w]
                              rfl
                            refine pure_ (i := 18) (N := some 65) (v := ?_) (a' := ?_) #[true, true, true, true, true, true, true, true, true, true, true, true, true, true, true, true, true, true, true, false, false, false, false, false, false, false, false, false, false] rfl rfl (any_of HT_.out (by kernel_rfl)) (fun _ _ _ h => h) (Or.inl ⟨by rfl, ?_⟩) ?_ ?_
                            rotate_left
                            · intro w'
                              go_simp
                              with_reducible rfl
                            rotate_left
                            · simp only [Act.put, List.setIfInBounds_toArray, List.set_cons_zero, List.set_cons_succ, i64_w, i32_w]
                              rfl
                            refine pure_ (i := 19) (N := some 66) (v := ?_) (a' := ?_) #[true, true, true, true, true, true, true, true, true, true, true, true, true, true, true, true, true, true, true, true, false, false, false, false, false, false, false, false, false] rfl rfl (any_of HT_.out (by kernel_rfl)) (fun _ _ _ h => h) (Or.inl ⟨by rfl, ?_⟩) ?_ ?_
                            rotate_left
                            · intro w'
                              go_simp
                              with_reducible rfl
                            rotate_left
                            · simp only [Act.put, List.setIfInBounds_toArray, List.set_cons_zero, List.set_cons_succ, i64_w, i32_w]
                              rfl
                            refine pure_ (i := 20) (N := some 67) (v := ?_) (a' := ?_) #[true, true, true, true, true, true, true, true, true, true, true, true, true, true, true, true, true, true, true, true, true, false, false, false, false, false, false, false, false] rfl rfl (any_of HT_.out (by kernel_rfl)) (fun _ _ _ h => h) (Or.inl ⟨by rfl, ?_⟩) ?_ ?_
                            rotate_left
                            · intro w'
                              go_simp
                              with_reducible rfl
                            rotate_left
                            · simp only [Act.put, List.setIfInBounds_toArray, List.set_cons_zero, List.set_cons_succ, i64_w, i32_w]
                              rfl
                            refine pure_ (i := 21) (N := some 68) (v := ?_) (a' := ?_) #[true, true, true, true, true, true, true, true, true, true, true, true, true, true, true, true, true, true, true, true, true, true, false, false, false, false, false, false, false] rfl rfl (any_of HT_.out (by kernel_rfl)) (fun _ _ _ h => h) (Or.inl ⟨by rfl, ?_⟩) ?_ ?_
                            rotate_left
                            · intro w'
                              go_simp
                              with_reducible rfl
                            rotate_left
                            · simp only [Act.put, List.setIfInBounds_toArray, List.set_cons_zero, List.set_cons_succ, i64_w, i32_w]
                              rfl
                            refine pure_ (i := 22) (N := some 69) (v := ?_) (a' := ?_) #[true, true, true, true, true, true, true, true, true, true, true, true, true, true, true, true, true, true, true, true, true, true, true, false, false, false, false, false, false] rfl rfl (any_of HT_.out (by kernel_rfl)) (fun _ _ _ h => h) (Or.inl ⟨by rfl, ?_⟩) ?_ ?_
                            rotate_left
                            · intro w'
                              go_simp
                              with_reducible rfl
                            rotate_left
                            · simp only [Act.put, List.setIfInBounds_toArray, List.set_cons_zero, List.set_cons_succ, i64_w, i32_w]
                              rfl
                            refine pure_ (i := 23) (N := some 70) (v := ?_) (a' := ?_) #[true, true, true, true, true, true, true, true, true, true, true, true, true, true, true, true, true, true, true, true, true, true, true, true, false, false, false, false, false] rfl rfl (any_of HT_.out (by kernel_rfl)) (fun _ _ _ h => h) (Or.inl ⟨by rfl, ?_⟩) ?_ ?_
                            rotate_left
                            · intro w'
                              go_simp
                              with_reducible rfl
                            rotate_left
                            · simp only [Act.put, List.setIfInBounds_toArray, List.set_cons_zero, List.set_cons_succ, i64_w, i32_w]
                              rfl
                            refine pure_ (i := 24) (N := some 71) (v := ?_) (a' := ?_) #[true, true, true, true, true, true, true, true, true, true, true, true, true, true, true, true, true, true, true, true, true, true, true, true, true, false, false, false, false] rfl rfl (any_of HT_.out (by kernel_rfl)) (fun _ _ _ h => h) (Or.inl ⟨by rfl, ?_⟩) ?_ ?_
                            rotate_left
                            · intro w'
                              go_simp
                              with_reducible rfl
                            rotate_left
                            · simp only [Act.put, List.setIfInBounds_toArray, List.set_cons_zero, List.set_cons_succ, i64_w, i32_w]
                              rfl
                            refine pure_ (i := 25) (N := some 72) (v := ?_) (a' := ?_) #[true, true, true, true, true, true, true, true, true, true, true, true, true, true, true, true, true, true, true, true, true, true, true, true, true, true, false, false, false] rfl rfl (any_of HT_.out (by kernel_rfl)) (fun _ _ _ h => h) (Or.inl ⟨by rfl, ?_⟩) ?_ ?_
                            rotate_left
                            · intro w'
                              go_simp
                              with_reducible rfl
                            rotate_left
                            · simp only [Act.put, List.setIfInBounds_toArray, List.set_cons_zero, List.set_cons_succ, i64_w, i32_w]
                              rfl
                            refine one_ (i := 26) (N := some 73) #[true, true, true, true, true, true, true, true, true, true, true, true, true, true, true, true, true, true, true, true, true, true, true, true, true, true, true, false, false] rfl rfl (one_of HT_.out (by kernel_rfl)) (by decide) (fun K hK => ?_)
                            refine goes_ Try.func3 (by kernel_rfl) rfl #[.int .i64 a0, .string (((t299.extract 0 (t301 : Int).toNat) ++ x5_10) ++ (t299.extract (t301 : Int).toNat t299.size))] (by rfl) rfl rfl xM ?_
                            with_reducible refine (turnpikelaw2_AddrReads.calls kj10 a0 (((t299.extract 0 (t301 : Int).toNat) ++ x5_10) ++ (t299.extract (t301 : Int).toNat t299.size)) t310 _ ?side1 A36.out).mono ?_
                            (case side1 => first | exact MLOk.below HML.out xG | (repeat (first | exact HML.out | (with_reducible refine MLOk.alloc ?_ _) | (with_reducible refine MLOk.drewN ?_ _) | (with_reducible refine MLOk.drew ?_))))
                            rintro e w46 ⟨rfl, hb⟩
                            refine ⟨_, rfl, ?_⟩
                            have n0_ := Aside0.mk (Kd.F_below (by (with_reducible repeat (first | apply Kd.F_alloc | apply Kd.F_drewN | apply Kd.F_drew)); exact HO304.out) hb)
                            have n1_ := Aside0.mk (blk_below (g := gb297) (o := .cells #[.int .u64 a1_0, .int .u64 a1_1] 24 (0, 0)) (xK BK297.out) hb)
                            have n2_ := Aside0.mk (below_step xG hb)
                            clear HO304
                            clear BK297
                            clear HB
                            have HO304 := n0_
                            have BK297 := n1_
                            have HB := n2_
                            clear n0_ n1_ n2_
                            (try clear hb)
                            (try clear hb2)
                            (try clear hk)
                            (try clear hi)
                            refine hK.out _ _ (Kd.string_F (P := Try.prog) Try.underlying35 Try.underlying5 Try.underlying9 HO304.out) (fun hHeld => ?_)
                            clear hK K
                            refine norm_ (a' := ?_) ?_ ?_
                            rotate_left
                            · show Act.put _ (some 73) _ = _
                              simp only [Act.put, List.setIfInBounds_toArray, List.set_cons_zero, List.set_cons_succ, i64_w, i32_w]
                              rfl
                            refine pure_ (i := 27) (N := some 74) (v := ?_) (a' := ?_) #[true, true, true, true, true, true, true, true, true, true, true, true, true, true, true, true, true, true, true, true, true, true, true, true, true, true, true, true, false] rfl rfl (any_of HT_.out (by kernel_rfl)) (fun _ _ _ h => h) (Or.inl ⟨by rfl, ?_⟩) ?_ ?_
                            rotate_left
                            · intro w'
                              go_simp
                              with_reducible rfl
                            rotate_left
                            · simp only [Act.put, List.setIfInBounds_toArray, List.set_cons_zero, List.set_cons_succ, i64_w, i32_w]
                              rfl
                            refine pure_ (i := 28) (N := some 12) (v := ?_) (a' := ?_) #[true, true, true, true, true, true, true, true, true, true, true, true, true, true, true, true, true, true, true, true, true, true, true, true, true, true, true, true, true] rfl rfl (any_of HT_.out (by kernel_rfl)) (fun _ _ _ h => h) (Or.inl ⟨by rfl, ?_⟩) ?_ ?_
                            rotate_left
                            · intro w'
                              go_simp
                              with_reducible rfl
                            rotate_left
                            · simp only [Act.put, List.setIfInBounds_toArray, List.set_cons_zero, List.set_cons_succ, i64_w, i32_w]
                              rfl
                            refine done_ (done_of HT_.out (by kernel_rfl)) ?_
                            try go_wp2
                            go_ret
                            exact ⟨xE, xG⟩
                          · rw [if_neg c35] at H
                            exact absurd H (by simp)
                        · rw [if_neg c32] at H
                          exact absurd H (by simp)
                      · rw [if_neg c31] at H
                        exact absurd H (by simp)
                    · replace c29 := Bool.eq_false_iff.mpr c29
                      subst c29
                      have H1 : (some false) = some r := by rw [if_neg (show ¬ (false = true) by decide)] at H; exact H
                      clear H
                      have H := H1
                      clear H1
                      obtain rfl := Option.some.inj H
                      exact absurd hr_.out (by decide)
                  · rw [if_neg c27] at H
                    exact absurd H (by simp)
                · rw [if_neg c26] at H
                  exact absurd H (by simp)
              · replace c24 := Bool.eq_false_iff.mpr c24
                subst c24
                have H1 : (some false) = some r := by rw [if_neg (show ¬ (false = true) by decide)] at H; exact H
                clear H
                have H := H1
                clear H1
                obtain rfl := Option.some.inj H
                exact absurd hr_.out (by decide)
            · rw [if_neg c21] at H
              exact absurd H (by simp)
          · rw [if_neg c20] at H
            exact absurd H (by simp)
    · rw [if_neg c10] at H
      have c10b0 : (t300 == 0) = false := beq_eq_false_iff_ne.mpr c10
      have c10b1 : (t300 != 0) = true := bne_iff_ne.mpr c10
      obtain rfl := Option.some.inj H
      go_enter Try.func4, Try.ntmps4
      go_wp2_with (first | ((with_reducible refine gate_dst (N := 7) rfl ?_); (try (refine gate_guard (by rfl) ?_; dsimp only)); refine box_event ?hg (N := 7) ?hd (cs := #[.int .u64 a1_0, .int .u64 a1_1]) (t := 24) ?hr ?_; (case hd => rfl); (case hg => rfl); (case hr => first | (go_simp; done) | (go_simp; rfl)); intro gb297 hg w47 hbox hb; have n0_ := Aside0.mk (below_step xB hb); have n1_ := Aside0.mk (hbox); have n2_ := Aside0.mk ((by rw [hg]; exact (below_size xB) : w.heap.size ≤ gb297)); have n3_ := Aside0.mk ((by rw [hg]; exact (below_size xB) : w.heap.size ≤ gb297)); clear HB; have HB := n0_; have BK297 := n1_; have GW297 := n2_; have GE297 := n3_; clear n0_ n1_ n2_ n3_; clear hb hbox hg) | ((with_reducible refine gate_callee (f := 11) rfl ?_); refine goesL_ (some 17) rfl rfl Try.func11 (by kernel_rfl) rfl #[] rfl xM ?_; (with_reducible refine (turnpikelaw2_known.calls k  true _ ?side1 A7.out).mono ?_); (case side1 => first | exact MLOk.below HML.out xG | (repeat (first | exact HML.out | (with_reducible refine MLOk.alloc ?_ _) | (with_reducible refine MLOk.drewN ?_ _) | (with_reducible refine MLOk.drew ?_)))); rintro e w48 ⟨rfl, hb⟩; refine ⟨_, rfl, ?_⟩; have n0_ := Aside0.mk (blk_below (g := gb297) (o := .cells #[.int .u64 a1_0, .int .u64 a1_1] 24 (0, 0)) (xK BK297.out) hb); have n1_ := Aside0.mk (below_step xG hb); clear BK297; clear HB; have BK297 := n0_; have HB := n1_; clear n0_ n1_; (try clear hb); (try clear hb2); (try clear hk); (try clear hi); have hcz49_0 : w48.cell? ⟨gb297, 0, none⟩ = some (.int .u64 a1_0) := (blk_cell BK297.out 0).trans rfl; have hcz49_1 : w48.cell? ⟨gb297, 1, none⟩ = some (.int .u64 a1_1) := (blk_cell BK297.out 1).trans rfl; have hfz49_0 := blk_frozen BK297.out 0; have hfz49_1 := blk_frozen BK297.out 1) | ((with_reducible refine gate_callee (f := 12) rfl ?_); refine goesL_ (some 22) rfl rfl Try.func12 (by kernel_rfl) rfl #[.int .i64 a0, .agg #[.int .u64 a1_0, .int .u64 a1_1]] rfl xM ?_; (with_reducible refine (turnpikeref2_Text.calls k a0 a1_0 a1_1 t299 t300 _ A9.out).mono ?_); rintro e w50 ⟨rfl, hb⟩; refine ⟨_, rfl, ?_⟩; have n0_ := Aside0.mk (blk_below (g := gb297) (o := .cells #[.int .u64 a1_0, .int .u64 a1_1] 24 (0, 0)) (xK BK297.out) hb); have n1_ := Aside0.mk (below_step xG hb); clear BK297; clear HB; have BK297 := n0_; have HB := n1_; clear n0_ n1_; (try clear hb); (try clear hb2); (try clear hk); (try clear hi)))
      go_ret
      exact ⟨xE, xG⟩
  · replace c8 := Bool.eq_false_iff.mpr c8
    subst c8
    have H1 : (some false) = some r := by rw [if_neg (show ¬ (false = true) by decide)] at H; exact H
    clear H
    have H := H1
    clear H1
    obtain rfl := Option.some.inj H
    exact absurd hr_.out (by decide)
def turnpikelaw2_AddrTurns.Pure : Prop := ∀ (a0 : Int) (a1_0 : Int) (a1_1 : Int) (a2 : Int) (a3 : Int) (a4 : Int) (a5 : ByteArray), (Lit.int .i64 a0).wf = true → (Lit.int .u64 a1_0).wf = true → (Lit.int .u64 a1_1).wf = true → (Lit.int .i64 a2).wf = true → (Lit.int .u8 a3).wf = true → (Lit.int .i64 a4).wf = true → a5.size ≤ 140737488351232 → ∃ k, turnpikelaw2_AddrTurns.f k a0 a1_0 a1_1 a2 a3 a4 a5 = some true
theorem turnpikelaw2_AddrTurns.walk (P : turnpikelaw2_AddrTurns.Pure) (a0 : Int) (a1_0 : Int) (a1_1 : Int) (a2 : Int) (a3 : Int) (a4 : Int) (a5 : ByteArray) (w : World) (hML : MLOk w) (wa0 : (Lit.int .i64 a0).wf = true) (wa1_0 : (Lit.int .u64 a1_0).wf = true) (wa1_1 : (Lit.int .u64 a1_1).wf = true) (wa2 : (Lit.int .i64 a2).wf = true) (wa3 : (Lit.int .u8 a3).wf = true) (wa4 : (Lit.int .i64 a4).wf = true) (wa5 : a5.size ≤ 140737488351232) :
    Calls Try.prog 4 #[.int .i64 a0, .agg #[.int .u64 a1_0, .int .u64 a1_1], .int .i64 a2, .int .u8 a3, .int .i64 a4, .string a5] w fun e w' => e = .returned (.bool true) ∧ Below w.heap.size w w' := by
  obtain ⟨k, h⟩ := P a0 a1_0 a1_1 a2 a3 a4 a5 wa0 wa1_0 wa1_1 wa2 wa3 wa4 wa5
  refine (turnpikelaw2_AddrTurns.calls k a0 a1_0 a1_1 a2 a3 a4 a5 true w hML ⟨rfl⟩ h).mono ?_
  rintro e w' ⟨rfl, hd⟩
  exact ⟨rfl, hd⟩
end Go.Proofs.Ytamiaaeaehdahaa.X
