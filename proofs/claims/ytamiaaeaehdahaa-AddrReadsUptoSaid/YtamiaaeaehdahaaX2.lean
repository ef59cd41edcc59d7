-- Printed by a program of this session (xprint.py, over the kit's printer)
import Derived.Test.YtamiaaeaehdahaaX0
namespace Go.Proofs.Ytamiaaeaehdahaa.X
open Go.RowKit Go.Proofs.YtamiaaeaehdahaaW.PrintWords Go.Proofs.YtamiaaeaehdahaaW.PrintLast Go.Proofs.YtamiaaeaehdahaaW.PrintMore
attribute [local go_sem] max2_int min2_int max_two min_two max_three min_three max_four min_four   -- for this text's walks alone
set_option linter.unusedVariables false
set_option linter.unusedSimpArgs false

/-! ### addr_quad: function 31 -/
mutual
def addr_quad.l0 : Nat → ByteArray → Int → Int → Int → Option (Int × Bool)
  | 0, _, _, _, _ => none
  | k + 1, x0, x4, x5, x9 => if x9 < 4 then (addr_quad.l1 k x0 x4 x5 x9 x5 0 x9) else (some (x4, (x5 == (x0.size : Int))))
def addr_quad.l1 : Nat → ByteArray → Int → Int → Int → Int → Int → Int → Option (Int × Bool)
  | 0, _, _, _, _, _, _, _ => none
  | k + 1, x0, x4, x5, x6, x7, x8, x9 => if x5 < (x0.size : Int) then (if 0 ≤ x5 then (if (bt x0 x5) ≥ 48 then (addr_quad.j2 k x0 x4 x5 x6 x7 x8 x9 (decide ((bt x0 x5) ≤ 57))) else (addr_quad.j2 k x0 x4 x5 x6 x7 x8 x9 false)) else (none)) else (addr_quad.j2 k x0 x4 x5 x6 x7 x8 x9 false)
def addr_quad.j2 : Nat → ByteArray → Int → Int → Int → Int → Int → Int → Bool → Option (Int × Bool)
  | 0, _, _, _, _, _, _, _, _ => none
  | k + 1, x0, x4, x5, x6, x7, x8, x9, x28 => if x28 = true then (if 0 ≤ x5 then (if x5 < (x0.size : Int) then (if (IntKind.u64.wrap ((IntKind.u64.wrap (x8 * 10)) + (((bt x0 x5) - 48) % 256))) > 255 then (some (0, false)) else (if (wrap64 ((wrap64 (x5 + 1)) - x7)) > 1 then (if 0 ≤ x7 then (if x7 < (x0.size : Int) then (if (bt x0 x7) = 48 then (some (0, false)) else (addr_quad.l1 k x0 x4 (wrap64 (x5 + 1)) x6 x7 (IntKind.u64.wrap ((IntKind.u64.wrap (x8 * 10)) + (((bt x0 x5) - 48) % 256))) x9)) else (none)) else (none)) else (addr_quad.l1 k x0 x4 (wrap64 (x5 + 1)) x6 x7 (IntKind.u64.wrap ((IntKind.u64.wrap (x8 * 10)) + (((bt x0 x5) - 48) % 256))) x9))) else (none)) else (none)) else (if x5 = x7 then (some (0, false)) else (if x6 = 3 then (some (Go.bits .or .u64 (IntKind.u64.wrap (x4 * 256)) x8, (x5 == (x0.size : Int)))) else (if x5 = (x0.size : Int) then (some (0, false)) else (if 0 ≤ x5 then (if x5 < (x0.size : Int) then (if (bt x0 x5) = 46 then (addr_quad.l0 k x0 (Go.bits .or .u64 (IntKind.u64.wrap (x4 * 256)) x8) (wrap64 (x5 + 1)) (wrap64 (x9 + 1))) else (some (0, false))) else (none)) else (none)))))
end
def addr_quad.f (k : Nat) (a0 : ByteArray) : Option (Int × Bool) := addr_quad.l0 k a0 0 0 0
theorem addr_quad.mono_l : ∀ k, (∀ y0 y1 y2 y3, LeO (addr_quad.l0 k y0 y1 y2 y3) (addr_quad.l0 (k + 1) y0 y1 y2 y3)) ∧ (∀ y0 y1 y2 y3 y4 y5 y6, LeO (addr_quad.l1 k y0 y1 y2 y3 y4 y5 y6) (addr_quad.l1 (k + 1) y0 y1 y2 y3 y4 y5 y6)) ∧ (∀ y0 y1 y2 y3 y4 y5 y6 y7, LeO (addr_quad.j2 k y0 y1 y2 y3 y4 y5 y6 y7) (addr_quad.j2 (k + 1) y0 y1 y2 y3 y4 y5 y6 y7))
  | 0 => ⟨fun _ _ _ _ r h => by simp [addr_quad.l0] at h, fun _ _ _ _ _ _ _ r h => by simp [addr_quad.l1] at h, fun _ _ _ _ _ _ _ _ r h => by simp [addr_quad.j2] at h⟩
  | k + 1 => by
    obtain ⟨ih0, ih1, ih2⟩ := addr_quad.mono_l k
    refine ⟨?_, ?_, ?_⟩
    · intro y0 y1 y2 y3
      unfold addr_quad.l0
      repeat' first
      | (with_reducible exact ih0 _ _ _ _)
      | (with_reducible exact ih1 _ _ _ _ _ _ _)
      | (with_reducible exact ih2 _ _ _ _ _ _ _ _)
      | (with_reducible exact LeO.refl _)
      | (with_reducible exact LeO.none _)
      | (with_reducible refine LeO.ite ?_ ?_)
      | (with_reducible refine LeO.bind ?_ (fun _ => ?_))
      | exact ih0 _ _ _ _
      | exact ih1 _ _ _ _ _ _ _
      | exact ih2 _ _ _ _ _ _ _ _
      | exact LeO.none _
      | refine LeO.ite ?_ ?_
      | refine LeO.bind ?_ (fun _ => ?_)
    · intro y0 y1 y2 y3 y4 y5 y6
      unfold addr_quad.l1
      repeat' first
      | (with_reducible exact ih0 _ _ _ _)
      | (with_reducible exact ih1 _ _ _ _ _ _ _)
      | (with_reducible exact ih2 _ _ _ _ _ _ _ _)
      | (with_reducible exact LeO.refl _)
      | (with_reducible exact LeO.none _)
      | (with_reducible refine LeO.ite ?_ ?_)
      | (with_reducible refine LeO.bind ?_ (fun _ => ?_))
      | exact ih0 _ _ _ _
      | exact ih1 _ _ _ _ _ _ _
      | exact ih2 _ _ _ _ _ _ _ _
      | exact LeO.none _
      | refine LeO.ite ?_ ?_
      | refine LeO.bind ?_ (fun _ => ?_)
    · intro y0 y1 y2 y3 y4 y5 y6 y7
      unfold addr_quad.j2
      repeat' first
      | (with_reducible exact ih0 _ _ _ _)
      | (with_reducible exact ih1 _ _ _ _ _ _ _)
      | (with_reducible exact ih2 _ _ _ _ _ _ _ _)
      | (with_reducible exact LeO.refl _)
      | (with_reducible exact LeO.none _)
      | (with_reducible refine LeO.ite ?_ ?_)
      | (with_reducible refine LeO.bind ?_ (fun _ => ?_))
      | exact ih0 _ _ _ _
      | exact ih1 _ _ _ _ _ _ _
      | exact ih2 _ _ _ _ _ _ _ _
      | exact LeO.none _
      | refine LeO.ite ?_ ?_
      | refine LeO.bind ?_ (fun _ => ?_)
theorem addr_quad.mono : ∀ a0 k, LeO (addr_quad.f k a0) (addr_quad.f (k + 1) a0) := by
  intro a0 k
  obtain ⟨ih0, ih1, ih2⟩ := addr_quad.mono_l k
  unfold addr_quad.f
  repeat' first
      | (with_reducible exact ih0 _ _ _ _)
      | (with_reducible exact ih1 _ _ _ _ _ _ _)
      | (with_reducible exact ih2 _ _ _ _ _ _ _ _)
      | (with_reducible exact LeO.refl _)
      | (with_reducible exact LeO.none _)
      | (with_reducible refine LeO.ite ?_ ?_)
      | (with_reducible refine LeO.bind ?_ (fun _ => ?_))
      | exact ih0 _ _ _ _
      | exact ih1 _ _ _ _ _ _ _
      | exact ih2 _ _ _ _ _ _ _ _
      | exact LeO.none _
      | refine LeO.ite ?_ ?_
      | refine LeO.bind ?_ (fun _ => ?_)
set_option maxHeartbeats 8000000 in
set_option maxRecDepth 100000 in
theorem addr_quad.calls (k : Nat) (a0 : ByteArray) (r1 : Int) (r2 : Bool) (w : World) (h : addr_quad.f k a0 = some (r1, r2)) :
    Calls Try.prog 31 #[.string a0] w fun e w' => e = .returned (.tuple #[.int .u64 r1, .bool r2]) ∧ Drawn0 w w' := by
  have H : (addr_quad.l0 k a0 0 0 0) = some (r1, r2) := h
  clear h
  have H' := Aside0.mk H
  clear H
  go_enter Try.func31, Try.ntmps31
  go_wp2
  repeat (go_step3; go_wp2)
  go_loopg [4, 5, 9] k (fun kq v4 v5 v9 w' => ∃ (x4_1 : Int) (x5_1 : Int) (x9_1 : Int), v4 = .int .u64 x4_1 ∧ v5 = .int .i64 x5_1 ∧ v9 = .int .i64 x9_1 ∧ Aside0 (addr_quad.l0 kq a0 x4_1 x5_1 x9_1 = some (r1, r2)) ∧ Aside0 (kq ≤ k) ∧ Drawn0 w w')
  case atStart => exact ⟨(0), (0), (0), (by first | rfl | (simp; done) | (simp [*]; done) | exact congrArg Value.bool (isEmpty_bne _)), (by first | rfl | (simp; done) | (simp [*]; done) | exact congrArg Value.bool (isEmpty_bne _)), (by first | rfl | (simp; done) | (simp [*]; done) | exact congrArg Value.bool (isEmpty_bne _)), H', ⟨Nat.le_refl _⟩, by repeat (first | exact Drawn0.refl _ | apply Drawn0.step)⟩
  case round =>
    clear H'
    obtain ⟨x4_1, x5_1, x9_1, rfl, rfl, rfl, HA, HK1, ⟨m1, rfl⟩⟩ := hrel
    cases gk with
    | zero => exact absurd HA.out (by simp [addr_quad.l0])
    | succ k1 =>
      have H := HA.out
      clear HA
      simp only [addr_quad.l0] at H
      by_cases c2 : x9_1 < 4
      · rw [if_pos c2] at H
        have c2b0 : decide (x9_1 < 4) = true := decide_eq_true c2
        clear c2
        have H' := Aside0.mk H
        clear H
        go_wp2
        repeat (go_step3; go_wp2)
        go_loopg [5, 8] k1 (fun kq v5 v8 w' => ∃ (x5_2 : Int) (x8_2 : Int), v5 = .int .i64 x5_2 ∧ v8 = .int .u64 x8_2 ∧ Aside0 (addr_quad.l1 kq a0 x4_1 x5_2 x9_1 x5_1 x8_2 x9_1 = some (r1, r2)) ∧ Aside0 (kq ≤ k1) ∧ Drawn0 w w')
        case atStart => exact ⟨(x5_1), (0), (by first | rfl | (simp; done) | (simp [*]; done) | exact congrArg Value.bool (isEmpty_bne _)), (by first | rfl | (simp; done) | (simp [*]; done) | exact congrArg Value.bool (isEmpty_bne _)), H', ⟨Nat.le_refl _⟩, by repeat (first | exact Drawn0.refl _ | apply Drawn0.step)⟩
        case round =>
          clear H'
          try clear c2
          try clear c2b0
          try clear p2
          obtain ⟨x5_2, x8_2, rfl, rfl, HA, HK2, ⟨m2, rfl⟩⟩ := hrel
          cases gk with
          | zero => exact absurd HA.out (by simp [addr_quad.l1])
          | succ k2 =>
            have H := HA.out
            clear HA
            simp only [addr_quad.l1] at H
            have HC3 := Aside0.mk H
            clear H
            go_upto_region 8 with (fail)
            go_cut [28] (fun v28 wc => ∃ (kq : Nat) (x28_2 : Bool), v28 = .bool x28_2 ∧ Aside0 (addr_quad.j2 kq a0 x4_1 x5_2 x9_1 x5_1 x8_2 x9_1 x28_2 = some (r1, r2)) ∧ Aside0 (kq ≤ k2) ∧ Drawn0 w wc)
            case first =>
              have H := HC3.out
              clear HC3
              by_cases c4 : x5_2 < (a0.size : Int)
              · rw [if_pos c4] at H
                have c4b0 : decide (x5_2 < (a0.size : Int)) = true := decide_eq_true c4
                clear c4
                (first | rw [c4b0] | (simp only [i64_w, i32_w]; rw [c4b0]) | skip)
                by_cases c5 : 0 ≤ x5_2
                · rw [if_pos c5] at H
                  have c5b0 : decide (0 ≤ x5_2) = true := decide_eq_true c5
                  clear c5
                  by_cases c7 : (bt a0 x5_2) ≥ 48
                  · rw [if_pos c7] at H
                    have c7b0 : decide (48 ≤ (bt a0 x5_2)) = true := decide_eq_true c7
                    clear c7
                    have H' := Aside0.mk H
                    clear H
                    have p6 : 0 ≤ (x5_2 : Int) := of_decide_eq_true (by first | (with_reducible assumption) | assumption)
                    have q6 : x5_2 < (a0.size : Int) := of_decide_eq_true (by first | (with_reducible assumption) | assumption)
                    have hx6 := bt_at a0 x5_2
                    replace p6 := eq_true p6
                    replace q6 := eq_true q6
                    have p8 : 0 ≤ (x5_2 : Int) := of_decide_eq_true (by first | (with_reducible assumption) | assumption)
                    have q8 : x5_2 < (a0.size : Int) := of_decide_eq_true (by first | (with_reducible assumption) | assumption)
                    have hx8 := bt_at a0 x5_2
                    replace p8 := eq_true p8
                    replace q8 := eq_true q8
                    go_wp2
                    repeat (go_step3; go_wp2)
                    go_meet
                    case rel => exact ⟨_, (decide ((bt a0 x5_2) ≤ 57)), (by first | rfl | (simp; done) | (simp [*]; done) | exact congrArg Value.bool (isEmpty_bne _)), H', ⟨by have := HK1.out; have := HK2.out; first | omega | exact Nat.le_refl _⟩, by repeat (first | exact Drawn0.refl _ | apply Drawn0.step)⟩
                  · rw [if_neg c7] at H
                    have c7b0 : decide (48 ≤ (bt a0 x5_2)) = false := decide_eq_false c7
                    clear c7
                    have H' := Aside0.mk H
                    clear H
                    have p6 : 0 ≤ (x5_2 : Int) := of_decide_eq_true (by first | (with_reducible assumption) | assumption)
                    have q6 : x5_2 < (a0.size : Int) := of_decide_eq_true (by first | (with_reducible assumption) | assumption)
                    have hx6 := bt_at a0 x5_2
                    replace p6 := eq_true p6
                    replace q6 := eq_true q6
                    go_wp2
                    repeat (go_step3; go_wp2)
                    go_meet
                    case rel => exact ⟨_, (false), (by first | rfl | (simp; done) | (simp [*]; done) | exact congrArg Value.bool (isEmpty_bne _)), H', ⟨by have := HK1.out; have := HK2.out; first | omega | exact Nat.le_refl _⟩, by repeat (first | exact Drawn0.refl _ | apply Drawn0.step)⟩
                · rw [if_neg c5] at H
                  exact absurd H (by simp)
              · rw [if_neg c4] at H
                have c4b0 : decide (x5_2 < (a0.size : Int)) = false := decide_eq_false c4
                clear c4
                (first | rw [c4b0] | (simp only [i64_w, i32_w]; rw [c4b0]) | skip)
                have H' := Aside0.mk H
                clear H
                go_wp2
                repeat (go_step3; go_wp2)
                go_meet
                case rel => exact ⟨_, (false), (by first | rfl | (simp; done) | (simp [*]; done) | exact congrArg Value.bool (isEmpty_bne _)), H', ⟨by have := HK1.out; have := HK2.out; first | omega | exact Nat.le_refl _⟩, by repeat (first | exact Drawn0.refl _ | apply Drawn0.step)⟩
            case rest =>
              clear HC3
              try clear c2
              try clear c2b0
              try clear p2
              try clear c3
              try clear p3
              try clear c4
              try clear c4b0
              try clear c5
              try clear c5b0
              try clear p6
              try clear q6
              try clear hx6
              try clear c7
              try clear c7b0
              try clear p8
              try clear q8
              try clear hx8
              try clear p2
              try clear p6
              try clear p8
              try clear q6
              try clear q8
              obtain ⟨kq, x28_2, rfl, HA, HJ2, ⟨mc2, rfl⟩⟩ := hcut
              cases kq with
              | zero => exact absurd HA.out (by simp [addr_quad.j2])
              | succ kj2 =>
                have H := HA.out
                clear HA
                simp only [addr_quad.j2] at H
                by_cases c9 : x28_2 = true
                · subst c9
                  have H1 : (if 0 ≤ x5_2 then (if x5_2 < (a0.size : Int) then (if (IntKind.u64.wrap ((IntKind.u64.wrap (x8_2 * 10)) + (((bt a0 x5_2) - 48) % 256))) > 255 then (some (0, false)) else (if (wrap64 ((wrap64 (x5_2 + 1)) - x5_1)) > 1 then (if 0 ≤ x5_1 then (if x5_1 < (a0.size : Int) then (if (bt a0 x5_1) = 48 then (some (0, false)) else (addr_quad.l1 kj2 a0 x4_1 (wrap64 (x5_2 + 1)) x9_1 x5_1 (IntKind.u64.wrap ((IntKind.u64.wrap (x8_2 * 10)) + (((bt a0 x5_2) - 48) % 256))) x9_1)) else (none)) else (none)) else (addr_quad.l1 kj2 a0 x4_1 (wrap64 (x5_2 + 1)) x9_1 x5_1 (IntKind.u64.wrap ((IntKind.u64.wrap (x8_2 * 10)) + (((bt a0 x5_2) - 48) % 256))) x9_1))) else (none)) else (none)) = some (r1, r2) := by rw [if_pos rfl] at H; exact H
                  clear H
                  have H := H1
                  clear H1
                  by_cases c10 : 0 ≤ x5_2
                  · rw [if_pos c10] at H
                    have c10b0 : decide (0 ≤ x5_2) = true := decide_eq_true c10
                    clear c10
                    by_cases c11 : x5_2 < (a0.size : Int)
                    · rw [if_pos c11] at H
                      have c11b0 : decide (x5_2 < (a0.size : Int)) = true := decide_eq_true c11
                      clear c11
                      by_cases c13 : (IntKind.u64.wrap ((IntKind.u64.wrap (x8_2 * 10)) + (((bt a0 x5_2) - 48) % 256))) > 255
                      · rw [if_pos c13] at H
                        have c13b0 : decide (255 < (IntKind.u64.wrap ((IntKind.u64.wrap (x8_2 * 10)) + (((bt a0 x5_2) - 48) % 256)))) = true := decide_eq_true c13
                        clear c13
                        simp only [Option.some.injEq, Prod.mk.injEq] at H
                        obtain ⟨rfl, rfl⟩ := H
                        have p12 : 0 ≤ (x5_2 : Int) := of_decide_eq_true (by first | (with_reducible assumption) | assumption)
                        have q12 : x5_2 < (a0.size : Int) := of_decide_eq_true (by first | (with_reducible assumption) | assumption)
                        have hx12 := bt_at a0 x5_2
                        replace p12 := eq_true p12
                        replace q12 := eq_true q12
                        go_wp2
                        repeat (go_step3; go_wp2)
                        (try rw [Exit.noGoto_ret])
                        go_ret2
                        exact ⟨by first | rfl | (simp; done) | (simp [*]; done), by repeat (first | exact Drawn0.refl _ | apply Drawn0.step)⟩
                      · rw [if_neg c13] at H
                        have c13b0 : decide (255 < (IntKind.u64.wrap ((IntKind.u64.wrap (x8_2 * 10)) + (((bt a0 x5_2) - 48) % 256)))) = false := decide_eq_false c13
                        clear c13
                        by_cases c14 : (wrap64 ((wrap64 (x5_2 + 1)) - x5_1)) > 1
                        · rw [if_pos c14] at H
                          have c14b0 : decide (1 < (wrap64 ((wrap64 (x5_2 + 1)) - x5_1))) = true := decide_eq_true c14
                          clear c14
                          by_cases c15 : 0 ≤ x5_1
                          · rw [if_pos c15] at H
                            have c15b0 : decide (0 ≤ x5_1) = true := decide_eq_true c15
                            clear c15
                            by_cases c16 : x5_1 < (a0.size : Int)
                            · rw [if_pos c16] at H
                              have c16b0 : decide (x5_1 < (a0.size : Int)) = true := decide_eq_true c16
                              clear c16
                              by_cases c18 : (bt a0 x5_1) = 48
                              · rw [if_pos c18] at H
                                have c18b0 : ((bt a0 x5_1) == 48) = true := beq_iff_eq.mpr c18
                                have c18b1 : ((bt a0 x5_1) != 48) = false := bne_eq_false_iff_eq.mpr c18
                                clear c18
                                simp only [Option.some.injEq, Prod.mk.injEq] at H
                                obtain ⟨rfl, rfl⟩ := H
                                have p12 : 0 ≤ (x5_2 : Int) := of_decide_eq_true (by first | (with_reducible assumption) | assumption)
                                have q12 : x5_2 < (a0.size : Int) := of_decide_eq_true (by first | (with_reducible assumption) | assumption)
                                have hx12 := bt_at a0 x5_2
                                replace p12 := eq_true p12
                                replace q12 := eq_true q12
                                have p17 : 0 ≤ (x5_1 : Int) := of_decide_eq_true (by first | (with_reducible assumption) | assumption)
                                have q17 : x5_1 < (a0.size : Int) := of_decide_eq_true (by first | (with_reducible assumption) | assumption)
                                have hx17 := bt_at a0 x5_1
                                replace p17 := eq_true p17
                                replace q17 := eq_true q17
                                go_wp2
                                repeat (go_step3; go_wp2)
                                (try rw [Exit.noGoto_ret])
                                go_ret2
                                exact ⟨by first | rfl | (simp; done) | (simp [*]; done), by repeat (first | exact Drawn0.refl _ | apply Drawn0.step)⟩
                              · rw [if_neg c18] at H
                                have c18b0 : ((bt a0 x5_1) == 48) = false := beq_eq_false_iff_ne.mpr c18
                                have c18b1 : ((bt a0 x5_1) != 48) = true := bne_iff_ne.mpr c18
                                have H' := Aside0.mk H
                                clear H
                                have p12 : 0 ≤ (x5_2 : Int) := of_decide_eq_true (by first | (with_reducible assumption) | assumption)
                                have q12 : x5_2 < (a0.size : Int) := of_decide_eq_true (by first | (with_reducible assumption) | assumption)
                                have hx12 := bt_at a0 x5_2
                                replace p12 := eq_true p12
                                replace q12 := eq_true q12
                                have p17 : 0 ≤ (x5_1 : Int) := of_decide_eq_true (by first | (with_reducible assumption) | assumption)
                                have q17 : x5_1 < (a0.size : Int) := of_decide_eq_true (by first | (with_reducible assumption) | assumption)
                                have hx17 := bt_at a0 x5_1
                                replace p17 := eq_true p17
                                replace q17 := eq_true q17
                                go_wp2
                                repeat (go_step3; go_wp2)
                                go_roundg kj2
                                case measure => have := HK1.out; have := HK2.out; have := HJ2.out; omega
                                case rel => exact ⟨(wrap64 (x5_2 + 1)), (IntKind.u64.wrap ((IntKind.u64.wrap (x8_2 * 10)) + (((bt a0 x5_2) - 48) % 256))), (by first | rfl | (simp; done) | (simp [*]; done) | exact congrArg Value.bool (isEmpty_bne _)), (by first | rfl | (simp; done) | (simp [*]; done) | exact congrArg Value.bool (isEmpty_bne _)), H', ⟨by have := HK1.out; have := HK2.out; have := HJ2.out; omega⟩, by repeat (first | exact Drawn0.refl _ | apply Drawn0.step)⟩
                            · rw [if_neg c16] at H
                              exact absurd H (by simp)
                          · rw [if_neg c15] at H
                            exact absurd H (by simp)
                        · rw [if_neg c14] at H
                          have c14b0 : decide (1 < (wrap64 ((wrap64 (x5_2 + 1)) - x5_1))) = false := decide_eq_false c14
                          clear c14
                          have H' := Aside0.mk H
                          clear H
                          have p12 : 0 ≤ (x5_2 : Int) := of_decide_eq_true (by first | (with_reducible assumption) | assumption)
                          have q12 : x5_2 < (a0.size : Int) := of_decide_eq_true (by first | (with_reducible assumption) | assumption)
                          have hx12 := bt_at a0 x5_2
                          replace p12 := eq_true p12
                          replace q12 := eq_true q12
                          go_wp2
                          repeat (go_step3; go_wp2)
                          go_roundg kj2
                          case measure => have := HK1.out; have := HK2.out; have := HJ2.out; omega
                          case rel => exact ⟨(wrap64 (x5_2 + 1)), (IntKind.u64.wrap ((IntKind.u64.wrap (x8_2 * 10)) + (((bt a0 x5_2) - 48) % 256))), (by first | rfl | (simp; done) | (simp [*]; done) | exact congrArg Value.bool (isEmpty_bne _)), (by first | rfl | (simp; done) | (simp [*]; done) | exact congrArg Value.bool (isEmpty_bne _)), H', ⟨by have := HK1.out; have := HK2.out; have := HJ2.out; omega⟩, by repeat (first | exact Drawn0.refl _ | apply Drawn0.step)⟩
                    · rw [if_neg c11] at H
                      exact absurd H (by simp)
                  · rw [if_neg c10] at H
                    exact absurd H (by simp)
                · replace c9 := Bool.eq_false_iff.mpr c9
                  subst c9
                  have H1 : (if x5_2 = x5_1 then (some (0, false)) else (if x9_1 = 3 then (some (Go.bits .or .u64 (IntKind.u64.wrap (x4_1 * 256)) x8_2, (x5_2 == (a0.size : Int)))) else (if x5_2 = (a0.size : Int) then (some (0, false)) else (if 0 ≤ x5_2 then (if x5_2 < (a0.size : Int) then (if (bt a0 x5_2) = 46 then (addr_quad.l0 kj2 a0 (Go.bits .or .u64 (IntKind.u64.wrap (x4_1 * 256)) x8_2) (wrap64 (x5_2 + 1)) (wrap64 (x9_1 + 1))) else (some (0, false))) else (none)) else (none))))) = some (r1, r2) := by rw [if_neg (show ¬ (false = true) by decide)] at H; exact H
                  clear H
                  have H := H1
                  clear H1
                  by_cases c19 : x5_2 = x5_1
                  · rw [if_pos c19] at H
                    have c19b0 : (x5_2 == x5_1) = true := beq_iff_eq.mpr c19
                    have c19b1 : (x5_2 != x5_1) = false := bne_eq_false_iff_eq.mpr c19
                    clear c19
                    simp only [Option.some.injEq, Prod.mk.injEq] at H
                    obtain ⟨rfl, rfl⟩ := H
                    go_wp2
                    repeat (go_step3; go_wp2)
                    (try rw [Exit.noGoto_ret])
                    go_ret2
                    exact ⟨by first | rfl | (simp; done) | (simp [*]; done), by repeat (first | exact Drawn0.refl _ | apply Drawn0.step)⟩
                  · rw [if_neg c19] at H
                    have c19b0 : (x5_2 == x5_1) = false := beq_eq_false_iff_ne.mpr c19
                    have c19b1 : (x5_2 != x5_1) = true := bne_iff_ne.mpr c19
                    by_cases c20 : x9_1 = 3
                    · rw [if_pos c20] at H
                      have c20b0 : (x9_1 == 3) = true := beq_iff_eq.mpr c20
                      have c20b1 : (x9_1 != 3) = false := bne_eq_false_iff_eq.mpr c20
                      clear c20
                      simp only [Option.some.injEq, Prod.mk.injEq] at H
                      obtain ⟨rfl, rfl⟩ := H
                      go_wp2
                      repeat (go_step3; go_wp2)
                      (try rw [Exit.noGoto_ret])
                      go_ret2
                      exact ⟨by first | rfl | (simp; done) | (simp [*]; done), by repeat (first | exact Drawn0.refl _ | apply Drawn0.step)⟩
                    · rw [if_neg c20] at H
                      have c20b0 : (x9_1 == 3) = false := beq_eq_false_iff_ne.mpr c20
                      have c20b1 : (x9_1 != 3) = true := bne_iff_ne.mpr c20
                      by_cases c21 : x5_2 = (a0.size : Int)
                      · rw [if_pos c21] at H
                        have c21b0 : (x5_2 == (a0.size : Int)) = true := beq_iff_eq.mpr c21
                        have c21b1 : (x5_2 != (a0.size : Int)) = false := bne_eq_false_iff_eq.mpr c21
                        clear c21
                        simp only [Option.some.injEq, Prod.mk.injEq] at H
                        obtain ⟨rfl, rfl⟩ := H
                        go_wp2
                        repeat (go_step3; go_wp2)
                        (try rw [Exit.noGoto_ret])
                        go_ret2
                        exact ⟨by first | rfl | (simp; done) | (simp [*]; done), by repeat (first | exact Drawn0.refl _ | apply Drawn0.step)⟩
                      · rw [if_neg c21] at H
                        have c21b0 : (x5_2 == (a0.size : Int)) = false := beq_eq_false_iff_ne.mpr c21
                        have c21b1 : (x5_2 != (a0.size : Int)) = true := bne_iff_ne.mpr c21
                        by_cases c22 : 0 ≤ x5_2
                        · rw [if_pos c22] at H
                          have c22b0 : decide (0 ≤ x5_2) = true := decide_eq_true c22
                          clear c22
                          by_cases c23 : x5_2 < (a0.size : Int)
                          · rw [if_pos c23] at H
                            have c23b0 : decide (x5_2 < (a0.size : Int)) = true := decide_eq_true c23
                            clear c23
                            by_cases c25 : (bt a0 x5_2) = 46
                            · rw [if_pos c25] at H
                              have c25b0 : ((bt a0 x5_2) == 46) = true := beq_iff_eq.mpr c25
                              have c25b1 : ((bt a0 x5_2) != 46) = false := bne_eq_false_iff_eq.mpr c25
                              clear c25
                              have H' := Aside0.mk H
                              clear H
                              have p24 : 0 ≤ (x5_2 : Int) := of_decide_eq_true (by first | (with_reducible assumption) | assumption)
                              have q24 : x5_2 < (a0.size : Int) := of_decide_eq_true (by first | (with_reducible assumption) | assumption)
                              have hx24 := bt_at a0 x5_2
                              replace p24 := eq_true p24
                              replace q24 := eq_true q24
                              go_wp2
                              repeat (go_step3; go_wp2)
                              go_roundg kj2
                              case measure => have := HK1.out; have := HK2.out; have := HJ2.out; omega
                              case rel => exact ⟨(Go.bits .or .u64 (IntKind.u64.wrap (x4_1 * 256)) x8_2), (wrap64 (x5_2 + 1)), (wrap64 (x9_1 + 1)), (by first | rfl | (simp; done) | (simp [*]; done) | exact congrArg Value.bool (isEmpty_bne _)), (by first | rfl | (simp; done) | (simp [*]; done) | exact congrArg Value.bool (isEmpty_bne _)), (by first | rfl | (simp; done) | (simp [*]; done) | exact congrArg Value.bool (isEmpty_bne _)), H', ⟨by have := HK1.out; have := HK2.out; have := HJ2.out; omega⟩, by repeat (first | exact Drawn0.refl _ | apply Drawn0.step)⟩
                            · rw [if_neg c25] at H
                              have c25b0 : ((bt a0 x5_2) == 46) = false := beq_eq_false_iff_ne.mpr c25
                              have c25b1 : ((bt a0 x5_2) != 46) = true := bne_iff_ne.mpr c25
                              simp only [Option.some.injEq, Prod.mk.injEq] at H
                              obtain ⟨rfl, rfl⟩ := H
                              have p24 : 0 ≤ (x5_2 : Int) := of_decide_eq_true (by first | (with_reducible assumption) | assumption)
                              have q24 : x5_2 < (a0.size : Int) := of_decide_eq_true (by first | (with_reducible assumption) | assumption)
                              have hx24 := bt_at a0 x5_2
                              replace p24 := eq_true p24
                              replace q24 := eq_true q24
                              go_wp2
                              repeat (go_step3; go_wp2)
                              (try rw [Exit.noGoto_ret])
                              go_ret2
                              exact ⟨by first | rfl | (simp; done) | (simp [*]; done), by repeat (first | exact Drawn0.refl _ | apply Drawn0.step)⟩
                          · rw [if_neg c23] at H
                            exact absurd H (by simp)
                        · rw [if_neg c22] at H
                          exact absurd H (by simp)
      · rw [if_neg c2] at H
        have c2b0 : decide (x9_1 < 4) = false := decide_eq_false c2
        clear c2
        simp only [Option.some.injEq, Prod.mk.injEq] at H
        obtain ⟨rfl, rfl⟩ := H
        go_wp2
        repeat (go_step3; go_wp2)
        (try rw [Exit.noGoto_ret])
        go_ret2
        exact ⟨by first | rfl | (simp; done) | (simp [*]; done), by repeat (first | exact Drawn0.refl _ | apply Drawn0.step)⟩

end Go.Proofs.Ytamiaaeaehdahaa.X
