-- Printed by a program of this session (xprint.py, over the kit's printer)
import Derived.Test.YtdjhmapmhajkcaaDoorZRX0
import Derived.Test.YtdjhmapmhajkcaaDoorZRSh
namespace Go.Proofs.YtdjhmapmhajkcaaDoor.X
open Go.RowKit Go.Proofs.YtdjhmapmhajkcaaDoorW.PrintWords Go.Proofs.YtdjhmapmhajkcaaDoorW.PrintLast Go.Proofs.YtdjhmapmhajkcaaDoor.Sm Go.Proofs.YtdjhmapmhajkcaaDoor.Sh
set_option linter.unusedVariables false
set_option linter.unusedSimpArgs false
def turnpikeref2_split.l0 : Nat → ByteArray → Int → List ByteArray → Int → Int → Option (List ByteArray)
 | 0, _, _, _, _, _ => none
 | k + 1, x0, x1, x5, x6, x7 => if x7 < (x0.size : Int) then (if 0 ≤ x7 then (if (bt x0 x7) = x1 then (if 0 ≤ x6 then (if x6 ≤ x7 then (if x7 ≤ (x0.size : Int) then (if x5.length < 8796093022208 then (turnpikeref2_split.l0 k x0 x1 (x5 ++ [x0.extract (x6 : Int).toNat (x7 : Int).toNat]) (wrap64 (x7 + 1)) (wrap64 (x7 + 1))) else (none)) else (none)) else (none)) else (none)) else (turnpikeref2_split.l0 k x0 x1 x5 x6 (wrap64 (x7 + 1)))) else (none)) else (if 0 ≤ x6 then (if x6 ≤ (x0.size : Int) then (if x5.length < 8796093022208 then (some (x5 ++ [x0.extract (x6 : Int).toNat x0.size])) else (none)) else (none)) else (none))
def turnpikeref2_split.f (k : Nat) (a0 : ByteArray) (a1 : Int) : Option (List ByteArray) := turnpikeref2_split.l0 k a0 a1 ([] : List ByteArray) 0 0
theorem turnpikeref2_split.mono_l : ∀ k, (∀ y0 y1 y2 y3 y4, LeO (turnpikeref2_split.l0 k y0 y1 y2 y3 y4) (turnpikeref2_split.l0 (k + 1) y0 y1 y2 y3 y4))
 | 0 => fun _ _ _ _ _ r h => by simp [turnpikeref2_split.l0] at h
 | k + 1 => by
  have ih0 := turnpikeref2_split.mono_l k
  ·intro y0 y1 y2 y3 y4
   unfold turnpikeref2_split.l0
   exact xO
theorem turnpikeref2_split.mono : ∀ a0 a1 k, LeO (turnpikeref2_split.f k a0 a1) (turnpikeref2_split.f (k + 1) a0 a1) := by
 intro a0 a1 k
 have ih0 := turnpikeref2_split.mono_l k
 unfold turnpikeref2_split.f
 exact xO
set_option maxHeartbeats 8000000 in
set_option maxRecDepth 100000 in
theorem turnpikeref2_split.calls (k : Nat) (a0 : ByteArray) (a1 : Int) (r : List ByteArray) (w : World) (h : turnpikeref2_split.f k a0 a1 = some r) :
  Calls Tryd.prog 106 #[.string a0, .int .u8 a1] w fun e w' => ∃ v0_ : Value, e = .returned (v0_) ∧ Kd.R Kd.string 9 w' w.heap.size (fun _ => True) v0_ r ∧ Below w.heap.size w w' := by
 have HB := Aside0.mk (Below.refl w.heap.size w)
 have H : (turnpikeref2_split.l0 k a0 a1 ([] : List ByteArray) 0 0) = some r := h
 clear h
 have H' := Aside0.mk H
 clear H
 go_enter Tryd.func106, Tryd.ntmps106
 go_wp2
 go_loopg [5, 6, 7] k (fun kq v5 v6 v7 w' => ∃ (x5_1 : List ByteArray) (x6_1 : Int) (x7_1 : Int), v6 = .int .i64 x6_1 ∧ v7 = .int .i64 x7_1 ∧ Aside0 (turnpikeref2_split.l0 kq a0 a1 x5_1 x6_1 x7_1 = some r) ∧ Aside0 (kq ≤ k) ∧ Aside0 (Kd.R Kd.string 9 w' w.heap.size (fun _ => True) v5 x5_1) ∧ Aside0 (Below w.heap.size w w'))
 case atStart => exact ⟨(([] : List ByteArray)), (0), (0), xV, xV, H', ⟨Nat.le_refl _⟩, ⟨by first | exact Kd.R_nil _ _ _ _ _ | exact Kd.N_nil _ _ _ _ _ | exact Kd.V_nil _ _ _ _ _ | exact Kd.Q_nil _ _ _ _ _ | exact Kd.S_nil _ _ _ _ _⟩, ⟨xB⟩⟩
 case round =>
  clear H'
  try clear c1
  try clear p2
  obtain ⟨x5_1, x6_1, x7_1, rfl, rfl, HA, HK1, HO_5, HB⟩ := hrel
  cases gk with
  | zero => exact absurd HA.out (by simp [turnpikeref2_split.l0])
  | succ k1 =>
   have H := HA.out
   clear HA
   simp only [turnpikeref2_split.l0] at H
   by_cases c3 : x7_1 < (a0.size : Int)
   ·rw [if_pos c3] at H
    have c3b0 : decide (x7_1 < (a0.size : Int)) = true := decide_eq_true c3
    clear c3
    by_cases c4 : 0 ≤ x7_1
    ·rw [if_pos c4] at H
     have c4b0 : decide (0 ≤ x7_1) = true := decide_eq_true c4
     clear c4
     by_cases c6 : (bt a0 x7_1) = a1
     ·rw [if_pos c6] at H
      have c6b0 : ((bt a0 x7_1) == a1) = true := beq_iff_eq.mpr c6
      have c6b1 : ((bt a0 x7_1) != a1) = false := bne_eq_false_iff_eq.mpr c6
      clear c6
      by_cases c7 : 0 ≤ x6_1
      ·rw [if_pos c7] at H
       have c7b0 := eq_true c7
       have c7b1 : decide (0 ≤ x6_1) = true := decide_eq_true c7
       clear c7
       by_cases c8 : x6_1 ≤ x7_1
       ·rw [if_pos c8] at H
        have c8b0 := eq_true c8
        have c8b1 : decide (x6_1 ≤ x7_1) = true := decide_eq_true c8
        clear c8
        by_cases c9 : x7_1 ≤ (a0.size : Int)
        ·rw [if_pos c9] at H
         have c9b0 := eq_true c9
         have c9b1 : decide (x7_1 ≤ (a0.size : Int)) = true := decide_eq_true c9
         clear c9
         by_cases c10 : x5_1.length < 8796093022208
         ·rw [if_pos c10] at H
          have LMc10 := Aside0.mk c10
          clear c10
          obtain ⟨y672, hy672⟩ : ∃ y_ : List ByteArray, y_ = (x5_1 ++ [a0.extract (x6_1 : Int).toNat (x7_1 : Int).toNat]) := ⟨_, rfl⟩
          replace H : (turnpikeref2_split.l0 k1 a0 a1 y672 (wrap64 (x7_1 + 1)) (wrap64 (x7_1 + 1))) = some r := by first | (rw [hy672]; with_reducible exact H) | (have H2_ := (Option.bind_some _ _).symm.trans H; rw [hy672]; with_reducible exact H2_) | (have H2_ := (Option.bind_some _ _).symm.trans H; with_reducible exact H2_) | with_reducible exact H | (rw [hy672]; exact H) | exact H
          have Ny672 := Aside0.mk hy672
          clear hy672
          have H' := Aside0.mk H
          clear H
          have p5 : 0 ≤ (x7_1 : Int) := of_decide_eq_true xA
          have q5 : x7_1 < (a0.size : Int) := of_decide_eq_true xA
          have hx5 := bt_at a0 x7_1
          replace p5 := eq_true p5
          replace q5 := eq_true q5
          go_wp2_with (first | ((with_reducible refine gate_builtin (b := .append) (xs := #[.tmp 19, .tmp 24]) rfl ?_); at_builtin; refine Kd.R_append Kd.string (w0 := w) w.heap.size rfl (.tmp 19) (.tmp 24) 122 9 (.string ⟨#[]⟩) 16 rfl Tryd.underlying122 info9 rfl (by decide) (by omega) u5 x5_1 (a0.extract (x6_1 : Int).toNat (x7_1 : Int).toNat) [.string (a0.extract (x6_1 : Int).toNat (x7_1 : Int).toNat)] (fun _ => True) (fun _ => False) rfl rfl ?aP (fun _ hk => hk.elim) ?aF ?aO ?aB ?aS ?aL ?_; (case aP => exact rfl); (case aB => exact xB); (case aF => exact (fun _ _ => trivial)); (case aO => exact (xR HO_5.out)); (case aS => exact (below_size xB)); (case aL => have := LMc10.out; omega); intro v673 w11 ho hb hg hat; rw [← Ny672.out] at ho; have n0_ := Aside0.mk (hb); have n1_ := Aside0.mk (ho); clear HB; clear HO_5; have HB := n0_; have HO674 := n1_; clear n0_ n1_; clear ho hb hg hat))
          go_roundg k1
          case measure => have := HK1.out; omega
          case rel => exact ⟨(y672), (wrap64 (x7_1 + 1)), (wrap64 (x7_1 + 1)), xV, xV, H', ⟨by have := HK1.out; omega⟩, ⟨xR HO674.out⟩, ⟨xB⟩⟩
         ·rw [if_neg c10] at H
          exact absurd H (by simp)
        ·rw [if_neg c9] at H
         exact absurd H (by simp)
       ·rw [if_neg c8] at H
        exact absurd H (by simp)
      ·rw [if_neg c7] at H
       exact absurd H (by simp)
     ·rw [if_neg c6] at H
      have c6b0 : ((bt a0 x7_1) == a1) = false := beq_eq_false_iff_ne.mpr c6
      have c6b1 : ((bt a0 x7_1) != a1) = true := bne_iff_ne.mpr c6
      have H' := Aside0.mk H
      clear H
      have p5 : 0 ≤ (x7_1 : Int) := of_decide_eq_true xA
      have q5 : x7_1 < (a0.size : Int) := of_decide_eq_true xA
      have hx5 := bt_at a0 x7_1
      replace p5 := eq_true p5
      replace q5 := eq_true q5
      go_wp2
      go_roundg k1
      case measure => have := HK1.out; omega
      case rel => exact ⟨(x5_1), (x6_1), (wrap64 (x7_1 + 1)), xV, xV, H', ⟨by have := HK1.out; omega⟩, ⟨xR HO_5.out⟩, ⟨xB⟩⟩
    ·rw [if_neg c4] at H
     exact absurd H (by simp)
   ·rw [if_neg c3] at H
    have c3b0 : decide (x7_1 < (a0.size : Int)) = false := decide_eq_false c3
    clear c3
    by_cases c12 : 0 ≤ x6_1
    ·rw [if_pos c12] at H
     have c12b0 := eq_true c12
     have c12b1 : decide (0 ≤ x6_1) = true := decide_eq_true c12
     clear c12
     by_cases c13 : x6_1 ≤ (a0.size : Int)
     ·rw [if_pos c13] at H
      have c13b0 := eq_true c13
      have c13b1 : decide (x6_1 ≤ (a0.size : Int)) = true := decide_eq_true c13
      clear c13
      by_cases c14 : x5_1.length < 8796093022208
      ·rw [if_pos c14] at H
       have LMc14 := Aside0.mk c14
       clear c14
       obtain ⟨y675, hy675⟩ : ∃ y_ : List ByteArray, y_ = (x5_1 ++ [a0.extract (x6_1 : Int).toNat a0.size]) := ⟨_, rfl⟩
       replace H : (some y675) = some r := by first | (rw [hy675]; with_reducible exact H) | (have H2_ := (Option.bind_some _ _).symm.trans H; rw [hy675]; with_reducible exact H2_) | (have H2_ := (Option.bind_some _ _).symm.trans H; with_reducible exact H2_) | with_reducible exact H | (rw [hy675]; exact H) | exact H
       have Ny675 := Aside0.mk hy675
       clear hy675
       obtain rfl := Option.some.inj H
       go_wp2_with (first | ((with_reducible refine gate_builtin (b := .append) (xs := #[.tmp 28, .tmp 32]) rfl ?_); at_builtin; refine Kd.R_append Kd.string (w0 := w) w.heap.size rfl (.tmp 28) (.tmp 32) 122 9 (.string ⟨#[]⟩) 16 rfl Tryd.underlying122 info9 rfl (by decide) (by omega) u5 x5_1 (a0.extract (x6_1 : Int).toNat a0.size) [.string (a0.extract (x6_1 : Int).toNat a0.size)] (fun _ => True) (fun _ => False) rfl rfl ?aP (fun _ hk => hk.elim) ?aF ?aO ?aB ?aS ?aL ?_; (case aP => exact rfl); (case aB => exact xB); (case aF => exact (fun _ _ => trivial)); (case aO => exact (xR HO_5.out)); (case aS => exact (below_size xB)); (case aL => have := LMc14.out; omega); intro v676 w15 ho hb hg hat; rw [← Ny675.out] at ho; have n0_ := Aside0.mk (hb); have n1_ := Aside0.mk (ho); clear HB; clear HO_5; have HB := n0_; have HO677 := n1_; clear n0_ n1_; clear ho hb hg hat))
       go_ret
       exact ⟨_, xE, xR HO677.out, xB⟩
      ·rw [if_neg c14] at H
       exact absurd H (by simp)
     ·rw [if_neg c13] at H
      exact absurd H (by simp)
    ·rw [if_neg c12] at H
     exact absurd H (by simp)
mutual
def turnpikeref2_octet.j0 : Nat → ByteArray → Bool → Option (Int)
 | 0, _, _ => none
 | k + 1, x0, x22 => if x22 = true then (some (-1)) else (turnpikeref2_octet.l0 k x0 0 0)
def turnpikeref2_octet.l0 : Nat → ByteArray → Int → Int → Option (Int)
 | 0, _, _, _ => none
 | k + 1, x0, x3, x4 => if x4 < (x0.size : Int) then (if 0 ≤ x4 then (if (bt x0 x4) < 48 then (some (-1)) else (if (bt x0 x4) > 57 then (some (-1)) else (turnpikeref2_octet.l0 k x0 (wrap64 ((wrap64 (10 * x3)) + (((bt x0 x4) - 48) % 256))) (wrap64 (x4 + 1))))) else (none)) else (if x3 > 255 then (some (-1)) else (some x3))
end
def turnpikeref2_octet.f (k : Nat) (a0 : ByteArray) : Option (Int) := if (a0.size : Int) < 1 then (turnpikeref2_octet.j0 k a0 true) else (if (a0.size : Int) > 3 then (turnpikeref2_octet.j0 k a0 true) else (if (a0.size : Int) > 1 then (if 0 < (a0.size : Int) then (turnpikeref2_octet.j0 k a0 ((bt a0 0) == 48)) else (none)) else (turnpikeref2_octet.j0 k a0 false)))
theorem turnpikeref2_octet.mono_l : ∀ k, (∀ y0 y1, LeO (turnpikeref2_octet.j0 k y0 y1) (turnpikeref2_octet.j0 (k + 1) y0 y1)) ∧ (∀ y0 y1 y2, LeO (turnpikeref2_octet.l0 k y0 y1 y2) (turnpikeref2_octet.l0 (k + 1) y0 y1 y2))
 | 0 => ⟨fun _ _ r h => by simp [turnpikeref2_octet.j0] at h, fun _ _ _ r h => by simp [turnpikeref2_octet.l0] at h⟩
 | k + 1 => by
  obtain ⟨ih0, ih1⟩ := turnpikeref2_octet.mono_l k
  refine ⟨?_, ?_⟩
  ·intro y0 y1
   unfold turnpikeref2_octet.j0
   exact xO
  ·intro y0 y1 y2
   unfold turnpikeref2_octet.l0
   exact xO
theorem turnpikeref2_octet.mono : ∀ a0 k, LeO (turnpikeref2_octet.f k a0) (turnpikeref2_octet.f (k + 1) a0) := by
 intro a0 k
 obtain ⟨ih0, ih1⟩ := turnpikeref2_octet.mono_l k
 unfold turnpikeref2_octet.f
 exact xO
set_option maxHeartbeats 8000000 in
set_option maxRecDepth 100000 in
theorem turnpikeref2_octet.calls (k : Nat) (a0 : ByteArray) (r : Int) (w : World) (h : turnpikeref2_octet.f k a0 = some r) :
  Calls Tryd.prog 107 #[.string a0] w fun e w' => e = .returned (.int .i64 r) ∧ Drawn0 w w' := by
 have H : (if (a0.size : Int) < 1 then (turnpikeref2_octet.j0 k a0 true) else (if (a0.size : Int) > 3 then (turnpikeref2_octet.j0 k a0 true) else (if (a0.size : Int) > 1 then (if 0 < (a0.size : Int) then (turnpikeref2_octet.j0 k a0 ((bt a0 0) == 48)) else (none)) else (turnpikeref2_octet.j0 k a0 false)))) = some r := h
 clear h
 have HC2 := Aside0.mk H
 clear H
 go_enter Tryd.func107, Tryd.ntmps107
 go_upto_region 1 with (fail)
 go_cut [22] (fun v22 wc => ∃ (kq : Nat) (x22_1 : Bool), v22 = .bool x22_1 ∧ Aside0 (turnpikeref2_octet.j0 kq a0 x22_1 = some r) ∧ Aside0 (kq ≤ k) ∧ Drawn0 w wc)
 case first =>
  have H := HC2.out
  clear HC2
  by_cases c3 : (a0.size : Int) < 1
  ·rw [if_pos c3] at H
   have c3b0 : decide ((a0.size : Int) < 1) = true := decide_eq_true c3
   have c3b1 : decide (a0.size < 1) = true := decide_eq_true (by omega)
   clear c3
   (first | rw [c3b0] | (simp only [i64_w, i32_w]; rw [c3b0]) | skip)
   have H' := Aside0.mk H
   clear H
   go_wp2
   go_meet
   case rel => exact ⟨_, (true), xV, H', ⟨by first | omega | exact Nat.le_refl _⟩, xD⟩
  ·rw [if_neg c3] at H
   have c3b0 : decide ((a0.size : Int) < 1) = false := decide_eq_false c3
   have c3b1 : decide (a0.size < 1) = false := decide_eq_false (by omega)
   clear c3
   (first | rw [c3b0] | (simp only [i64_w, i32_w]; rw [c3b0]) | skip)
   by_cases c4 : (a0.size : Int) > 3
   ·rw [if_pos c4] at H
    have c4b0 : decide (3 < (a0.size : Int)) = true := decide_eq_true c4
    have c4b1 : decide (3 < a0.size) = true := decide_eq_true (by omega)
    clear c4
    have H' := Aside0.mk H
    clear H
    go_wp2
    go_meet
    case rel => exact ⟨_, (true), xV, H', ⟨by first | omega | exact Nat.le_refl _⟩, xD⟩
   ·rw [if_neg c4] at H
    have c4b0 : decide (3 < (a0.size : Int)) = false := decide_eq_false c4
    have c4b1 : decide (3 < a0.size) = false := decide_eq_false (by omega)
    clear c4
    by_cases c5 : (a0.size : Int) > 1
    ·rw [if_pos c5] at H
     have c5b0 : decide (1 < (a0.size : Int)) = true := decide_eq_true c5
     have c5b1 : decide (1 < a0.size) = true := decide_eq_true (by omega)
     clear c5
     by_cases c6 : 0 < (a0.size : Int)
     ·rw [if_pos c6] at H
      have c6b0 : decide (0 < (a0.size : Int)) = true := decide_eq_true c6
      have c6b1 : decide (0 < a0.size) = true := decide_eq_true (by omega)
      clear c6
      have H' := Aside0.mk H
      clear H
      have p7 : 0 ≤ (0 : Int) := (by omega)
      have q7 : 0 < a0.size := (by have : (0 : Int) < (a0.size : Int) := of_decide_eq_true xA; omega)
      have hx7 : ∀ h : 0 < a0.size, ((a0[0]'h).toNat : Int) = bt a0 0 := bt_at a0 0
      clear p7
      have qi7 : (0 < (a0.size : Int)) = True := eq_true (of_decide_eq_true xA)
      replace q7 := eq_true q7
      go_wp2
      go_meet
      case rel => exact ⟨_, (((bt a0 0) == 48)), xV, H', ⟨by first | omega | exact Nat.le_refl _⟩, xD⟩
     ·rw [if_neg c6] at H
      exact absurd H (by simp)
    ·rw [if_neg c5] at H
     have c5b0 : decide (1 < (a0.size : Int)) = false := decide_eq_false c5
     have c5b1 : decide (1 < a0.size) = false := decide_eq_false (by omega)
     clear c5
     have H' := Aside0.mk H
     clear H
     go_wp2
     go_meet
     case rel => exact ⟨_, (false), xV, H', ⟨by first | omega | exact Nat.le_refl _⟩, xD⟩
 case rest =>
  clear HC2
  try clear c1
  try clear p2
  try clear c3
  try clear c3b0
  try clear c3b1
  try clear c4
  try clear c4b0
  try clear c4b1
  try clear c5
  try clear c5b0
  try clear c5b1
  try clear c6
  try clear c6b0
  try clear c6b1
  try clear p7
  try clear q7
  try clear hx7
  try clear qi7
  try clear p7
  try clear q7
  obtain ⟨kq, x22_1, rfl, HA, HJ1, ⟨mc1, rfl⟩⟩ := hcut
  cases kq with
  | zero => exact absurd HA.out (by simp [turnpikeref2_octet.j0])
  | succ kj1 =>
   have H := HA.out
   clear HA
   simp only [turnpikeref2_octet.j0] at H
   by_cases c8 : x22_1 = true
   ·subst c8
    have H1 : (some (-1)) = some r := by rw [if_pos rfl] at H; exact H
    clear H
    have H := H1
    clear H1
    obtain rfl := Option.some.inj H
    go_wp2
    go_ret
    exact ⟨by first | rfl | (simp; done) | (simp [*]; done), xD⟩
   ·replace c8 := Bool.eq_false_iff.mpr c8
    subst c8
    have H1 : (turnpikeref2_octet.l0 kj1 a0 0 0) = some r := by rw [if_neg (show ¬ (false = true) by decide)] at H; exact H
    clear H
    have H := H1
    clear H1
    have H' := Aside0.mk H
    clear H
    go_wp2
    go_loopg [3, 4] kj1 (fun kq v3 v4 w' => ∃ (x3_2 : Int) (x4_2 : Int), v3 = .int .i64 x3_2 ∧ v4 = .int .i64 x4_2 ∧ Aside0 (turnpikeref2_octet.l0 kq a0 x3_2 x4_2 = some r) ∧ Aside0 (kq ≤ kj1) ∧ Drawn0 w w')
    case atStart => exact ⟨(0), (0), xV, xV, H', ⟨Nat.le_refl _⟩, xD⟩
    case round =>
     clear H'
     try clear c1
     try clear p2
     try clear c3
     try clear c3b0
     try clear c3b1
     try clear c4
     try clear c4b0
     try clear c4b1
     try clear c5
     try clear c5b0
     try clear c5b1
     try clear c6
     try clear c6b0
     try clear c6b1
     try clear p7
     try clear q7
     try clear hx7
     try clear qi7
     try clear c8
     try clear p2
     try clear p7
     try clear q7
     obtain ⟨x3_2, x4_2, rfl, rfl, HA, HK2, ⟨m2, rfl⟩⟩ := hrel
     cases gk with
     | zero => exact absurd HA.out (by simp [turnpikeref2_octet.l0])
     | succ k2 =>
      have H := HA.out
      clear HA
      simp only [turnpikeref2_octet.l0] at H
      by_cases c9 : x4_2 < (a0.size : Int)
      ·rw [if_pos c9] at H
       have c9b0 : decide (x4_2 < (a0.size : Int)) = true := decide_eq_true c9
       clear c9
       by_cases c10 : 0 ≤ x4_2
       ·rw [if_pos c10] at H
        have c10b0 : decide (0 ≤ x4_2) = true := decide_eq_true c10
        clear c10
        by_cases c12 : (bt a0 x4_2) < 48
        ·rw [if_pos c12] at H
         have c12b0 : decide ((bt a0 x4_2) < 48) = true := decide_eq_true c12
         clear c12
         obtain rfl := Option.some.inj H
         have p11 : 0 ≤ (x4_2 : Int) := of_decide_eq_true xA
         have q11 : x4_2 < (a0.size : Int) := of_decide_eq_true xA
         have hx11 := bt_at a0 x4_2
         replace p11 := eq_true p11
         replace q11 := eq_true q11
         go_wp2
         go_ret
         exact ⟨by first | rfl | (simp; done) | (simp [*]; done), xD⟩
        ·rw [if_neg c12] at H
         have c12b0 : decide ((bt a0 x4_2) < 48) = false := decide_eq_false c12
         clear c12
         by_cases c14 : (bt a0 x4_2) > 57
         ·rw [if_pos c14] at H
          have c14b0 : decide (57 < (bt a0 x4_2)) = true := decide_eq_true c14
          clear c14
          obtain rfl := Option.some.inj H
          have p11 : 0 ≤ (x4_2 : Int) := of_decide_eq_true xA
          have q11 : x4_2 < (a0.size : Int) := of_decide_eq_true xA
          have hx11 := bt_at a0 x4_2
          replace p11 := eq_true p11
          replace q11 := eq_true q11
          have p13 : 0 ≤ (x4_2 : Int) := of_decide_eq_true xA
          have q13 : x4_2 < (a0.size : Int) := of_decide_eq_true xA
          have hx13 := bt_at a0 x4_2
          replace p13 := eq_true p13
          replace q13 := eq_true q13
          go_wp2
          go_ret
          exact ⟨by first | rfl | (simp; done) | (simp [*]; done), xD⟩
         ·rw [if_neg c14] at H
          have c14b0 : decide (57 < (bt a0 x4_2)) = false := decide_eq_false c14
          clear c14
          have H' := Aside0.mk H
          clear H
          have p11 : 0 ≤ (x4_2 : Int) := of_decide_eq_true xA
          have q11 : x4_2 < (a0.size : Int) := of_decide_eq_true xA
          have hx11 := bt_at a0 x4_2
          replace p11 := eq_true p11
          replace q11 := eq_true q11
          have p13 : 0 ≤ (x4_2 : Int) := of_decide_eq_true xA
          have q13 : x4_2 < (a0.size : Int) := of_decide_eq_true xA
          have hx13 := bt_at a0 x4_2
          replace p13 := eq_true p13
          replace q13 := eq_true q13
          have p15 : 0 ≤ (x4_2 : Int) := of_decide_eq_true xA
          have q15 : x4_2 < (a0.size : Int) := of_decide_eq_true xA
          have hx15 := bt_at a0 x4_2
          replace p15 := eq_true p15
          replace q15 := eq_true q15
          go_wp2
          go_roundg k2
          case measure => have := HJ1.out; have := HK2.out; omega
          case rel => exact ⟨(wrap64 ((wrap64 (10 * x3_2)) + (((bt a0 x4_2) - 48) % 256))), (wrap64 (x4_2 + 1)), xV, xV, H', ⟨by have := HJ1.out; have := HK2.out; omega⟩, xD⟩
       ·rw [if_neg c10] at H
        exact absurd H (by simp)
      ·rw [if_neg c9] at H
       have c9b0 : decide (x4_2 < (a0.size : Int)) = false := decide_eq_false c9
       clear c9
       by_cases c16 : x3_2 > 255
       ·rw [if_pos c16] at H
        have c16b0 : decide (255 < x3_2) = true := decide_eq_true c16
        clear c16
        obtain rfl := Option.some.inj H
        go_wp2
        go_ret
        exact ⟨by first | rfl | (simp; done) | (simp [*]; done), xD⟩
       ·rw [if_neg c16] at H
        have c16b0 : decide (255 < x3_2) = false := decide_eq_false c16
        clear c16
        obtain rfl := Option.some.inj H
        go_wp2
        go_ret
        exact ⟨by first | rfl | (simp; done) | (simp [*]; done), xD⟩
def turnpikeref2_dotted.l0 : Nat → List ByteArray → Int → Int → Option (Int × Bool)
 | 0, _, _, _ => none
 | k + 1, x4, x5, x6 => if x6 < 4 then (if 0 ≤ x6 then (if x6 < (x4.length : Int) then ((turnpikeref2_octet.f k (rdOf ByteArray.empty x4 x6)).bind fun t682 => (if t682 < 0 then (some (0, false)) else (turnpikeref2_dotted.l0 k x4 (IntKind.u64.wrap ((IntKind.u64.wrap (256 * x5)) + (IntKind.u64.wrap (t682)))) (wrap64 (x6 + 1))))) else (none)) else (none)) else (some (x5, true))
def turnpikeref2_dotted.f (k : Nat) (a0 : ByteArray) : Option (Int × Bool) := (turnpikeref2_split.f k a0 46).bind fun t678 => (if (t678.length : Int) = 4 then (turnpikeref2_dotted.l0 k t678 0 0) else (some (0, false)))
theorem turnpikeref2_dotted.mono_l : ∀ k, (∀ y0 y1 y2, LeO (turnpikeref2_dotted.l0 k y0 y1 y2) (turnpikeref2_dotted.l0 (k + 1) y0 y1 y2))
 | 0 => fun _ _ _ r h => by simp [turnpikeref2_dotted.l0] at h
 | k + 1 => by
  have ih0 := turnpikeref2_dotted.mono_l k
  ·intro y0 y1 y2
   unfold turnpikeref2_dotted.l0
   have m0 := @turnpikeref2_octet.mono
   have m1 := @turnpikeref2_split.mono
   exact xO
theorem turnpikeref2_dotted.mono : ∀ a0 k, LeO (turnpikeref2_dotted.f k a0) (turnpikeref2_dotted.f (k + 1) a0) := by
 intro a0 k
 have ih0 := turnpikeref2_dotted.mono_l k
 unfold turnpikeref2_dotted.f
 have m0 := @turnpikeref2_octet.mono
 have m1 := @turnpikeref2_split.mono
 exact xO
set_option maxHeartbeats 8000000 in
set_option maxRecDepth 100000 in
theorem turnpikeref2_dotted.calls (k : Nat) (a0 : ByteArray) (r1 : Int) (r2 : Bool) (w : World) (h : turnpikeref2_dotted.f k a0 = some (r1, r2)) :
  Calls Tryd.prog 91 #[.string a0] w fun e w' => e = .returned (.tuple #[.int .u64 r1, .bool r2]) ∧ Below w.heap.size w w' := by
 have HB := Aside0.mk (Below.refl w.heap.size w)
 have H : ((turnpikeref2_split.f k a0 46).bind fun t678 => (if (t678.length : Int) = 4 then (turnpikeref2_dotted.l0 k t678 0 0) else (some (0, false)))) = some (r1, r2) := h
 clear h
 replace H := Option.bind_eq_some_iff.mp H
 obtain ⟨t678, A20, H⟩ := H
 replace H : (if (t678.length : Int) = 4 then (turnpikeref2_dotted.l0 k t678 0 0) else (some (0, false))) = some (r1, r2) := H
 have A2 := Aside0.mk A20
 clear A20
 by_cases c3 : (t678.length : Int) = 4
 ·rw [if_pos c3] at H
  have c3b0 : ((t678.length : Int) == 4) = true := beq_iff_eq.mpr c3
  have c3b1 : ((t678.length : Int) != 4) = false := bne_eq_false_iff_eq.mpr c3
  clear c3
  have H' := Aside0.mk H
  clear H
  go_enter Tryd.func91, Tryd.ntmps91
  go_wp2_with (first | ((with_reducible refine gate_callee (f := 106) rfl ?_); refine goesL_ (some 9) rfl rfl Tryd.func106 (by kernel_rfl) rfl #[.string a0, .int .u8 46] rfl xM ?_; (with_reducible refine (turnpikeref2_split.calls k a0 46 t678 _ A2.out).mono ?_); rintro e w4 ⟨v679, rfl, ho0, hb⟩; refine ⟨_, rfl, ?_⟩; have n0_ := Aside0.mk (Kd.R_lower ho0 (below_size xB)); have n1_ := Aside0.mk (below_step xB hb); clear HB; have HO680 := n0_; have HB := n1_; clear n0_ n1_; (try clear hb); (try clear hb2); (try clear hk); (try clear hi); (try clear ho0); obtain ⟨Ao5, co5, eo5⟩ := Kd.R_slice HO680.out; subst eo5))
  go_loopg [5, 6] k (fun kq v5 v6 w' => ∃ (x5_1 : Int) (x6_1 : Int), v5 = .int .u64 x5_1 ∧ v6 = .int .i64 x6_1 ∧ Aside0 (turnpikeref2_dotted.l0 kq t678 x5_1 x6_1 = some (r1, r2)) ∧ Aside0 (kq ≤ k) ∧ Aside0 (Kd.R Kd.string 9 w' w.heap.size (fun _ => True) (.slice Ao5 t678.length co5) t678) ∧ Aside0 (Below w.heap.size w w'))
  case atStart => exact ⟨(0), (0), xV, xV, H', ⟨Nat.le_refl _⟩, ⟨xR HO680.out⟩, ⟨xB⟩⟩
  case round =>
   clear H'
   try clear c1
   try clear p2
   try clear c3
   try clear c3b0
   try clear c3b1
   obtain ⟨x5_1, x6_1, rfl, rfl, HA, HK1, HO_4, HB⟩ := hrel
   cases gk with
   | zero => exact absurd HA.out (by simp [turnpikeref2_dotted.l0])
   | succ k1 =>
    have H := HA.out
    clear HA
    simp only [turnpikeref2_dotted.l0] at H
    by_cases c6 : x6_1 < 4
    ·rw [if_pos c6] at H
     have c6b0 : decide (x6_1 < 4) = true := decide_eq_true c6
     clear c6
     by_cases c7 : 0 ≤ x6_1
     ·rw [if_pos c7] at H
      have c7b0 : decide (0 ≤ x6_1) = true := decide_eq_true c7
      clear c7
      by_cases c8 : x6_1 < (t678.length : Int)
      ·rw [if_pos c8] at H
       have c8b0 : decide (x6_1 < (t678.length : Int)) = true := decide_eq_true c8
       clear c8
       replace H := Option.bind_eq_some_iff.mp H
       obtain ⟨t682, A90, H⟩ := H
       replace H : (if t682 < 0 then (some (0, false)) else (turnpikeref2_dotted.l0 k1 t678 (IntKind.u64.wrap ((IntKind.u64.wrap (256 * x5_1)) + (IntKind.u64.wrap (t682)))) (wrap64 (x6_1 + 1)))) = some (r1, r2) := H
       have A9 := Aside0.mk A90
       clear A90
       by_cases c10 : t682 < 0
       ·rw [if_pos c10] at H
        have c10b0 : decide (t682 < 0) = true := decide_eq_true c10
        clear c10
        simp only [Option.some.injEq, Prod.mk.injEq] at H
        obtain ⟨rfl, rfl⟩ := H
        have p681 : 0 ≤ (x6_1 : Int) := of_decide_eq_true xA
        have q681 : x6_1 < (t678.length : Int) := of_decide_eq_true xA
        obtain ⟨ad681, e681, hx681_0⟩ := Kd.at_string (Kd.R_reads' HO_4.out).2.2 x6_1 p681 q681
        cases e681
        replace p681 := eq_true p681
        replace q681 := eq_true q681
        go_wp2_with (first | ((with_reducible refine gate_callee (f := 107) rfl ?_); refine goesL_ (some 21) rfl rfl Tryd.func107 (by kernel_rfl) rfl #[.string (rdOf ByteArray.empty t678 x6_1)] rfl xM ?_; (with_reducible refine (turnpikeref2_octet.calls k1 (rdOf ByteArray.empty t678 x6_1) t682 _ A9.out).mono ?_); rintro e w' ⟨rfl, ⟨nd, rfl⟩⟩; refine ⟨_, rfl, ?_⟩))
        go_ret2
        exact ⟨xE, xB⟩
       ·rw [if_neg c10] at H
        have c10b0 : decide (t682 < 0) = false := decide_eq_false c10
        clear c10
        have H' := Aside0.mk H
        clear H
        have p681 : 0 ≤ (x6_1 : Int) := of_decide_eq_true xA
        have q681 : x6_1 < (t678.length : Int) := of_decide_eq_true xA
        obtain ⟨ad681, e681, hx681_0⟩ := Kd.at_string (Kd.R_reads' HO_4.out).2.2 x6_1 p681 q681
        cases e681
        replace p681 := eq_true p681
        replace q681 := eq_true q681
        go_wp2_with (first | ((with_reducible refine gate_callee (f := 107) rfl ?_); refine goesL_ (some 21) rfl rfl Tryd.func107 (by kernel_rfl) rfl #[.string (rdOf ByteArray.empty t678 x6_1)] rfl xM ?_; (with_reducible refine (turnpikeref2_octet.calls k1 (rdOf ByteArray.empty t678 x6_1) t682 _ A9.out).mono ?_); rintro e w' ⟨rfl, ⟨nd, rfl⟩⟩; refine ⟨_, rfl, ?_⟩))
        go_roundg k1
        case measure => have := HK1.out; omega
        case rel => exact ⟨(IntKind.u64.wrap ((IntKind.u64.wrap (256 * x5_1)) + (IntKind.u64.wrap (t682)))), (wrap64 (x6_1 + 1)), xV, xV, H', ⟨by have := HK1.out; omega⟩, ⟨xR HO_4.out⟩, ⟨xB⟩⟩
      ·rw [if_neg c8] at H
       exact absurd H (by simp)
     ·rw [if_neg c7] at H
      exact absurd H (by simp)
    ·rw [if_neg c6] at H
     have c6b0 : decide (x6_1 < 4) = false := decide_eq_false c6
     clear c6
     simp only [Option.some.injEq, Prod.mk.injEq] at H
     obtain ⟨rfl, rfl⟩ := H
     go_wp2
     go_ret2
     exact ⟨xE, xB⟩
 ·rw [if_neg c3] at H
  have c3b0 : ((t678.length : Int) == 4) = false := beq_eq_false_iff_ne.mpr c3
  have c3b1 : ((t678.length : Int) != 4) = true := bne_iff_ne.mpr c3
  simp only [Option.some.injEq, Prod.mk.injEq] at H
  obtain ⟨rfl, rfl⟩ := H
  go_enter Tryd.func91, Tryd.ntmps91
  go_wp2_with (first | ((with_reducible refine gate_callee (f := 106) rfl ?_); refine goesL_ (some 9) rfl rfl Tryd.func106 (by kernel_rfl) rfl #[.string a0, .int .u8 46] rfl xM ?_; (with_reducible refine (turnpikeref2_split.calls k a0 46 t678 _ A2.out).mono ?_); rintro e w11 ⟨v679, rfl, ho0, hb⟩; refine ⟨_, rfl, ?_⟩; have n0_ := Aside0.mk (Kd.R_lower ho0 (below_size xB)); have n1_ := Aside0.mk (below_step xB hb); clear HB; have HO680 := n0_; have HB := n1_; clear n0_ n1_; (try clear hb); (try clear hb2); (try clear hk); (try clear hi); (try clear ho0); obtain ⟨Ao12, co12, eo12⟩ := Kd.R_slice HO680.out; subst eo12))
  go_ret2
  exact ⟨xE, xB⟩
def turnpikeref2_gap.l0 : Nat → ByteArray → Int → Option (Int)
 | 0, _, _ => none
 | k + 1, x0, x3 => if (wrap64 (x3 + 1)) < (x0.size : Int) then (if 0 ≤ x3 then (if x3 < (x0.size : Int) then (if (bt x0 x3) = 58 then (if 0 ≤ (wrap64 (x3 + 1)) then (if (bt x0 (wrap64 (x3 + 1))) = 58 then (some x3) else (turnpikeref2_gap.l0 k x0 (wrap64 (x3 + 1)))) else (none)) else (turnpikeref2_gap.l0 k x0 (wrap64 (x3 + 1)))) else (none)) else (none)) else (some (-1))
def turnpikeref2_gap.f (k : Nat) (a0 : ByteArray) : Option (Int) := turnpikeref2_gap.l0 k a0 0
theorem turnpikeref2_gap.mono_l : ∀ k, (∀ y0 y1, LeO (turnpikeref2_gap.l0 k y0 y1) (turnpikeref2_gap.l0 (k + 1) y0 y1))
 | 0 => fun _ _ r h => by simp [turnpikeref2_gap.l0] at h
 | k + 1 => by
  have ih0 := turnpikeref2_gap.mono_l k
  ·intro y0 y1
   unfold turnpikeref2_gap.l0
   exact xO
theorem turnpikeref2_gap.mono : ∀ a0 k, LeO (turnpikeref2_gap.f k a0) (turnpikeref2_gap.f (k + 1) a0) := by
 intro a0 k
 have ih0 := turnpikeref2_gap.mono_l k
 unfold turnpikeref2_gap.f
 exact xO
set_option maxHeartbeats 8000000 in
set_option maxRecDepth 100000 in
theorem turnpikeref2_gap.calls (k : Nat) (a0 : ByteArray) (r : Int) (w : World) (h : turnpikeref2_gap.f k a0 = some r) :
  Calls Tryd.prog 92 #[.string a0] w fun e w' => e = .returned (.int .i64 r) ∧ Drawn0 w w' := by
 have H : (turnpikeref2_gap.l0 k a0 0) = some r := h
 clear h
 have H' := Aside0.mk H
 clear H
 go_enter Tryd.func92, Tryd.ntmps92
 go_wp2
 go_loopg [3] k (fun kq v3 w' => ∃ (x3_1 : Int), v3 = .int .i64 x3_1 ∧ Aside0 (turnpikeref2_gap.l0 kq a0 x3_1 = some r) ∧ Aside0 (kq ≤ k) ∧ Drawn0 w w')
 case atStart => exact ⟨(0), xV, H', ⟨Nat.le_refl _⟩, xD⟩
 case round =>
  clear H'
  obtain ⟨x3_1, rfl, HA, HK1, ⟨m1, rfl⟩⟩ := hrel
  cases gk with
  | zero => exact absurd HA.out (by simp [turnpikeref2_gap.l0])
  | succ k1 =>
   have H := HA.out
   clear HA
   simp only [turnpikeref2_gap.l0] at H
   by_cases c2 : (wrap64 (x3_1 + 1)) < (a0.size : Int)
   ·rw [if_pos c2] at H
    have c2b0 : decide ((wrap64 (x3_1 + 1)) < (a0.size : Int)) = true := decide_eq_true c2
    clear c2
    by_cases c3 : 0 ≤ x3_1
    ·rw [if_pos c3] at H
     have c3b0 : decide (0 ≤ x3_1) = true := decide_eq_true c3
     clear c3
     by_cases c4 : x3_1 < (a0.size : Int)
     ·rw [if_pos c4] at H
      have c4b0 : decide (x3_1 < (a0.size : Int)) = true := decide_eq_true c4
      clear c4
      by_cases c6 : (bt a0 x3_1) = 58
      ·rw [if_pos c6] at H
       have c6b0 : ((bt a0 x3_1) == 58) = true := beq_iff_eq.mpr c6
       have c6b1 : ((bt a0 x3_1) != 58) = false := bne_eq_false_iff_eq.mpr c6
       clear c6
       obtain ⟨ji7, hji7⟩ : ∃ j_ : Int, (wrap64 (x3_1 + 1)) = j_ := ⟨_, rfl⟩
       replace H : (if 0 ≤ (ji7) then (if (bt a0 (ji7)) = 58 then (some x3_1) else (turnpikeref2_gap.l0 k1 a0 ji7)) else (none)) = some r := by first | (rw [hji7] at H; exact H) | (simp only [hji7] at H ⊢; exact H)
       (try rw [hji7] at c2b0)
       have hji7w : (IntKind.i64.wrap (x3_1 + 1)) = ji7 := (i64_w _).trans hji7
       by_cases c8 : 0 ≤ (ji7)
       ·rw [if_pos c8] at H
        have c8b0 : decide (0 ≤ (ji7)) = true := decide_eq_true c8
        clear c8
        by_cases c10 : (bt a0 (ji7)) = 58
        ·rw [if_pos c10] at H
         have c10b0 : ((bt a0 (ji7)) == 58) = true := beq_iff_eq.mpr c10
         have c10b1 : ((bt a0 (ji7)) != 58) = false := bne_eq_false_iff_eq.mpr c10
         clear c10
         obtain rfl := Option.some.inj H
         have p5 : 0 ≤ (x3_1 : Int) := of_decide_eq_true xA
         have q5 : x3_1 < (a0.size : Int) := of_decide_eq_true xA
         have hx5 := bt_at a0 x3_1
         replace p5 := eq_true p5
         replace q5 := eq_true q5
         have p9 : 0 ≤ ((ji7) : Int) := of_decide_eq_true xA
         have q9 : (ji7) < (a0.size : Int) := of_decide_eq_true xA
         have hx9 := bt_at a0 (ji7)
         replace p9 := eq_true p9
         replace q9 := eq_true q9
         go_wp2
         go_ret
         exact ⟨by first | rfl | (simp; done) | (simp only [← hji7] <;> (first | rfl | simp)) | (simp [*]; done), xD⟩
        ·rw [if_neg c10] at H
         have c10b0 : ((bt a0 (ji7)) == 58) = false := beq_eq_false_iff_ne.mpr c10
         have c10b1 : ((bt a0 (ji7)) != 58) = true := bne_iff_ne.mpr c10
         have H' := Aside0.mk H
         clear H
         have p5 : 0 ≤ (x3_1 : Int) := of_decide_eq_true xA
         have q5 : x3_1 < (a0.size : Int) := of_decide_eq_true xA
         have hx5 := bt_at a0 x3_1
         replace p5 := eq_true p5
         replace q5 := eq_true q5
         have p9 : 0 ≤ ((ji7) : Int) := of_decide_eq_true xA
         have q9 : (ji7) < (a0.size : Int) := of_decide_eq_true xA
         have hx9 := bt_at a0 (ji7)
         replace p9 := eq_true p9
         replace q9 := eq_true q9
         go_wp2
         go_roundg k1
         case measure => have := HK1.out; omega
         case rel => exact ⟨(ji7), (by first | rfl | (simp; done) | (simp only [← hji7] <;> (first | rfl | simp)) | (simp [*]; done)), H', ⟨by have := HK1.out; omega⟩, xD⟩
       ·rw [if_neg c8] at H
        exact absurd H (by simp)
      ·rw [if_neg c6] at H
       have c6b0 : ((bt a0 x3_1) == 58) = false := beq_eq_false_iff_ne.mpr c6
       have c6b1 : ((bt a0 x3_1) != 58) = true := bne_iff_ne.mpr c6
       have H' := Aside0.mk H
       clear H
       have p5 : 0 ≤ (x3_1 : Int) := of_decide_eq_true xA
       have q5 : x3_1 < (a0.size : Int) := of_decide_eq_true xA
       have hx5 := bt_at a0 x3_1
       replace p5 := eq_true p5
       replace q5 := eq_true q5
       go_wp2
       go_roundg k1
       case measure => have := HK1.out; omega
       case rel => exact ⟨(wrap64 (x3_1 + 1)), xV, H', ⟨by have := HK1.out; omega⟩, xD⟩
     ·rw [if_neg c4] at H
      exact absurd H (by simp)
    ·rw [if_neg c3] at H
     exact absurd H (by simp)
   ·rw [if_neg c2] at H
    have c2b0 : decide ((wrap64 (x3_1 + 1)) < (a0.size : Int)) = false := decide_eq_false c2
    clear c2
    obtain rfl := Option.some.inj H
    go_wp2
    go_ret
    exact ⟨by first | rfl | (simp; done) | (simp [*]; done), xD⟩
mutual
def turnpikeref2_group.j0 : Nat → ByteArray → Bool → Option (Int)
 | 0, _, _ => none
 | k + 1, x0, x13 => if x13 = true then (some (-1)) else (turnpikeref2_group.l0 k x0 0 0)
def turnpikeref2_group.l0 : Nat → ByteArray → Int → Int → Option (Int)
 | 0, _, _, _ => none
 | k + 1, x0, x3, x4 => if x4 < (x0.size : Int) then (if 0 ≤ x4 then (if (bt x0 x4) ≥ 48 then (turnpikeref2_group.j2 k x0 x3 x4 (bt x0 x4) (decide ((bt x0 x4) ≤ 57))) else (turnpikeref2_group.j2 k x0 x3 x4 (bt x0 x4) false)) else (none)) else (some x3)
def turnpikeref2_group.j2 : Nat → ByteArray → Int → Int → Int → Bool → Option (Int)
 | 0, _, _, _, _, _ => none
 | k + 1, x0, x3, x4, x5, x23 => if x23 = true then (turnpikeref2_group.l0 k x0 (wrap64 ((wrap64 (16 * x3)) + ((x5 - 48) % 256))) (wrap64 (x4 + 1))) else (if x5 ≥ 97 then (turnpikeref2_group.j3 k x0 x3 x4 x5 (decide (x5 ≤ 102))) else (turnpikeref2_group.j3 k x0 x3 x4 x5 false))
def turnpikeref2_group.j3 : Nat → ByteArray → Int → Int → Int → Bool → Option (Int)
 | 0, _, _, _, _, _ => none
 | k + 1, x0, x3, x4, x5, x36 => if x36 = true then (turnpikeref2_group.l0 k x0 (wrap64 ((wrap64 ((wrap64 (16 * x3)) + ((x5 - 97) % 256))) + 10)) (wrap64 (x4 + 1))) else (if x5 ≥ 65 then (if x5 ≤ 70 then (turnpikeref2_group.l0 k x0 (wrap64 ((wrap64 ((wrap64 (16 * x3)) + ((x5 - 65) % 256))) + 10)) (wrap64 (x4 + 1))) else (some (-1))) else (some (-1)))
end
def turnpikeref2_group.f (k : Nat) (a0 : ByteArray) : Option (Int) := if (a0.size : Int) < 1 then (turnpikeref2_group.j0 k a0 true) else (turnpikeref2_group.j0 k a0 (decide ((a0.size : Int) > 4)))
theorem turnpikeref2_group.mono_l : ∀ k, (∀ y0 y1, LeO (turnpikeref2_group.j0 k y0 y1) (turnpikeref2_group.j0 (k + 1) y0 y1)) ∧ (∀ y0 y1 y2, LeO (turnpikeref2_group.l0 k y0 y1 y2) (turnpikeref2_group.l0 (k + 1) y0 y1 y2)) ∧ (∀ y0 y1 y2 y3 y4, LeO (turnpikeref2_group.j2 k y0 y1 y2 y3 y4) (turnpikeref2_group.j2 (k + 1) y0 y1 y2 y3 y4)) ∧ (∀ y0 y1 y2 y3 y4, LeO (turnpikeref2_group.j3 k y0 y1 y2 y3 y4) (turnpikeref2_group.j3 (k + 1) y0 y1 y2 y3 y4))
 | 0 => ⟨fun _ _ r h => by simp [turnpikeref2_group.j0] at h, fun _ _ _ r h => by simp [turnpikeref2_group.l0] at h, fun _ _ _ _ _ r h => by simp [turnpikeref2_group.j2] at h, fun _ _ _ _ _ r h => by simp [turnpikeref2_group.j3] at h⟩
 | k + 1 => by
  obtain ⟨ih0, ih1, ih2, ih3⟩ := turnpikeref2_group.mono_l k
  refine ⟨?_, ?_, ?_, ?_⟩
  ·intro y0 y1
   unfold turnpikeref2_group.j0
   exact xO
  ·intro y0 y1 y2
   unfold turnpikeref2_group.l0
   exact xO
  ·intro y0 y1 y2 y3 y4
   unfold turnpikeref2_group.j2
   exact xO
  ·intro y0 y1 y2 y3 y4
   unfold turnpikeref2_group.j3
   exact xO
theorem turnpikeref2_group.mono : ∀ a0 k, LeO (turnpikeref2_group.f k a0) (turnpikeref2_group.f (k + 1) a0) := by
 intro a0 k
 obtain ⟨ih0, ih1, ih2, ih3⟩ := turnpikeref2_group.mono_l k
 unfold turnpikeref2_group.f
 exact xO
set_option maxHeartbeats 8000000 in
set_option maxRecDepth 100000 in
theorem turnpikeref2_group.calls (k : Nat) (a0 : ByteArray) (r : Int) (w : World) (h : turnpikeref2_group.f k a0 = some r) :
  Calls Tryd.prog 108 #[.string a0] w fun e w' => e = .returned (.int .i64 r) ∧ Drawn0 w w' := by
 have H : (if (a0.size : Int) < 1 then (turnpikeref2_group.j0 k a0 true) else (turnpikeref2_group.j0 k a0 (decide ((a0.size : Int) > 4)))) = some r := h
 clear h
 have HC2 := Aside0.mk H
 clear H
 go_enter Tryd.func108, Tryd.ntmps108
 go_upto_region 1 with (fail)
 go_cut [13] (fun v13 wc => ∃ (kq : Nat) (x13_1 : Bool), v13 = .bool x13_1 ∧ Aside0 (turnpikeref2_group.j0 kq a0 x13_1 = some r) ∧ Aside0 (kq ≤ k) ∧ Drawn0 w wc)
 case first =>
  have H := HC2.out
  clear HC2
  by_cases c3 : (a0.size : Int) < 1
  ·rw [if_pos c3] at H
   have c3b0 : decide ((a0.size : Int) < 1) = true := decide_eq_true c3
   have c3b1 : decide (a0.size < 1) = true := decide_eq_true (by omega)
   clear c3
   (first | rw [c3b0] | (simp only [i64_w, i32_w]; rw [c3b0]) | skip)
   have H' := Aside0.mk H
   clear H
   go_wp2
   go_meet
   case rel => exact ⟨_, (true), xV, H', ⟨by first | omega | exact Nat.le_refl _⟩, xD⟩
  ·rw [if_neg c3] at H
   have c3b0 : decide ((a0.size : Int) < 1) = false := decide_eq_false c3
   have c3b1 : decide (a0.size < 1) = false := decide_eq_false (by omega)
   clear c3
   (first | rw [c3b0] | (simp only [i64_w, i32_w]; rw [c3b0]) | skip)
   have H' := Aside0.mk H
   clear H
   go_wp2
   go_meet
   case rel => exact ⟨_, (decide ((a0.size : Int) > 4)), xV, H', ⟨by first | omega | exact Nat.le_refl _⟩, xD⟩
 case rest =>
  clear HC2
  try clear c1
  try clear p2
  try clear c3
  try clear c3b0
  try clear c3b1
  obtain ⟨kq, x13_1, rfl, HA, HJ1, ⟨mc1, rfl⟩⟩ := hcut
  cases kq with
  | zero => exact absurd HA.out (by simp [turnpikeref2_group.j0])
  | succ kj1 =>
   have H := HA.out
   clear HA
   simp only [turnpikeref2_group.j0] at H
   by_cases c4 : x13_1 = true
   ·subst c4
    have H1 : (some (-1)) = some r := by rw [if_pos rfl] at H; exact H
    clear H
    have H := H1
    clear H1
    obtain rfl := Option.some.inj H
    go_wp2
    go_ret
    exact ⟨by first | rfl | (simp; done) | (simp [*]; done), xD⟩
   ·replace c4 := Bool.eq_false_iff.mpr c4
    subst c4
    have H1 : (turnpikeref2_group.l0 kj1 a0 0 0) = some r := by rw [if_neg (show ¬ (false = true) by decide)] at H; exact H
    clear H
    have H := H1
    clear H1
    have H' := Aside0.mk H
    clear H
    go_wp2
    go_loopg [3, 4] kj1 (fun kq v3 v4 w' => ∃ (x3_2 : Int) (x4_2 : Int), v3 = .int .i64 x3_2 ∧ v4 = .int .i64 x4_2 ∧ Aside0 (turnpikeref2_group.l0 kq a0 x3_2 x4_2 = some r) ∧ Aside0 (kq ≤ kj1) ∧ Drawn0 w w')
    case atStart => exact ⟨(0), (0), xV, xV, H', ⟨Nat.le_refl _⟩, xD⟩
    case round =>
     clear H'
     try clear c1
     try clear p2
     try clear c3
     try clear c3b0
     try clear c3b1
     try clear c4
     try clear p2
     obtain ⟨x3_2, x4_2, rfl, rfl, HA, HK2, ⟨m2, rfl⟩⟩ := hrel
     cases gk with
     | zero => exact absurd HA.out (by simp [turnpikeref2_group.l0])
     | succ k2 =>
      have H := HA.out
      clear HA
      simp only [turnpikeref2_group.l0] at H
      by_cases c5 : x4_2 < (a0.size : Int)
      ·rw [if_pos c5] at H
       have c5b0 : decide (x4_2 < (a0.size : Int)) = true := decide_eq_true c5
       clear c5
       by_cases c6 : 0 ≤ x4_2
       ·rw [if_pos c6] at H
        have c6b0 : decide (0 ≤ x4_2) = true := decide_eq_true c6
        clear c6
        have HC8 := Aside0.mk H
        clear H
        have p7 : 0 ≤ (x4_2 : Int) := of_decide_eq_true xA
        have q7 : x4_2 < (a0.size : Int) := of_decide_eq_true xA
        have hx7 := bt_at a0 x4_2
        replace p7 := eq_true p7
        replace q7 := eq_true q7
        go_upto_region 9 with (fail)
        go_cut [23] (fun v23 wc => ∃ (kq : Nat) (x23_7 : Bool), v23 = .bool x23_7 ∧ Aside0 (turnpikeref2_group.j2 kq a0 x3_2 x4_2 (bt a0 x4_2) x23_7 = some r) ∧ Aside0 (kq ≤ k2) ∧ Drawn0 w wc)
        case first =>
         have H := HC8.out
         clear HC8
         by_cases c9 : (bt a0 x4_2) ≥ 48
         ·rw [if_pos c9] at H
          have c9b0 : decide (48 ≤ (bt a0 x4_2)) = true := decide_eq_true c9
          clear c9
          (first | rw [c9b0] | (simp only [i64_w, i32_w]; rw [c9b0]) | skip)
          have H' := Aside0.mk H
          clear H
          go_wp2
          go_meet
          case rel => exact ⟨_, (decide ((bt a0 x4_2) ≤ 57)), xV, H', ⟨by have := HJ1.out; have := HK2.out; first | omega | exact Nat.le_refl _⟩, xD⟩
         ·rw [if_neg c9] at H
          have c9b0 : decide (48 ≤ (bt a0 x4_2)) = false := decide_eq_false c9
          clear c9
          (first | rw [c9b0] | (simp only [i64_w, i32_w]; rw [c9b0]) | skip)
          have H' := Aside0.mk H
          clear H
          go_wp2
          go_meet
          case rel => exact ⟨_, (false), xV, H', ⟨by have := HJ1.out; have := HK2.out; first | omega | exact Nat.le_refl _⟩, xD⟩
        case rest =>
         clear HC8
         try clear c1
         try clear p2
         try clear c3
         try clear c3b0
         try clear c3b1
         try clear c4
         try clear c5
         try clear c5b0
         try clear c6
         try clear c6b0
         try clear p7
         try clear q7
         try clear hx7
         try clear c9
         try clear c9b0
         try clear p2
         try clear p7
         try clear q7
         obtain ⟨kq, x23_7, rfl, HA, HJ7, ⟨mc7, rfl⟩⟩ := hcut
         cases kq with
         | zero => exact absurd HA.out (by simp [turnpikeref2_group.j2])
         | succ kj7 =>
          have H := HA.out
          clear HA
          simp only [turnpikeref2_group.j2] at H
          by_cases c10 : x23_7 = true
          ·subst c10
           have H1 : (turnpikeref2_group.l0 kj7 a0 (wrap64 ((wrap64 (16 * x3_2)) + (((bt a0 x4_2) - 48) % 256))) (wrap64 (x4_2 + 1))) = some r := by rw [if_pos rfl] at H; exact H
           clear H
           have H := H1
           clear H1
           have H' := Aside0.mk H
           clear H
           go_wp2
           go_roundg kj7
           case measure => have := HJ1.out; have := HK2.out; have := HJ7.out; omega
           case rel => exact ⟨(wrap64 ((wrap64 (16 * x3_2)) + (((bt a0 x4_2) - 48) % 256))), (wrap64 (x4_2 + 1)), xV, xV, H', ⟨by have := HJ1.out; have := HK2.out; have := HJ7.out; omega⟩, xD⟩
          ·replace c10 := Bool.eq_false_iff.mpr c10
           subst c10
           have H1 : (if (bt a0 x4_2) ≥ 97 then (turnpikeref2_group.j3 kj7 a0 x3_2 x4_2 (bt a0 x4_2) (decide ((bt a0 x4_2) ≤ 102))) else (turnpikeref2_group.j3 kj7 a0 x3_2 x4_2 (bt a0 x4_2) false)) = some r := by rw [if_neg (show ¬ (false = true) by decide)] at H; exact H
           clear H
           have H := H1
           clear H1
           have HC11 := Aside0.mk H
           clear H
           go_upto_region 11 with (fail)
           go_cut [36] (fun v36 wc => ∃ (kq : Nat) (x36_10 : Bool), v36 = .bool x36_10 ∧ Aside0 (turnpikeref2_group.j3 kq a0 x3_2 x4_2 (bt a0 x4_2) x36_10 = some r) ∧ Aside0 (kq ≤ kj7) ∧ Drawn0 w wc)
           case first =>
            have H := HC11.out
            clear HC11
            by_cases c12 : (bt a0 x4_2) ≥ 97
            ·rw [if_pos c12] at H
             have c12b0 : decide (97 ≤ (bt a0 x4_2)) = true := decide_eq_true c12
             clear c12
             (first | rw [c12b0] | (simp only [i64_w, i32_w]; rw [c12b0]) | skip)
             have H' := Aside0.mk H
             clear H
             go_wp2
             go_meet
             case rel => exact ⟨_, (decide ((bt a0 x4_2) ≤ 102)), xV, H', ⟨by have := HJ1.out; have := HK2.out; have := HJ7.out; first | omega | exact Nat.le_refl _⟩, xD⟩
            ·rw [if_neg c12] at H
             have c12b0 : decide (97 ≤ (bt a0 x4_2)) = false := decide_eq_false c12
             clear c12
             (first | rw [c12b0] | (simp only [i64_w, i32_w]; rw [c12b0]) | skip)
             have H' := Aside0.mk H
             clear H
             go_wp2
             go_meet
             case rel => exact ⟨_, (false), xV, H', ⟨by have := HJ1.out; have := HK2.out; have := HJ7.out; first | omega | exact Nat.le_refl _⟩, xD⟩
           case rest =>
            clear HC11
            try clear c1
            try clear p2
            try clear c3
            try clear c3b0
            try clear c3b1
            try clear c4
            try clear c5
            try clear c5b0
            try clear c6
            try clear c6b0
            try clear p6
            try clear c7
            try clear p7
            try clear q7
            try clear hx7
            try clear c9
            try clear c9b0
            try clear c10
            try clear c12
            try clear c12b0
            try clear p2
            try clear p7
            try clear q7
            obtain ⟨kq, x36_10, rfl, HA, HJ10, ⟨mc10, rfl⟩⟩ := hcut
            cases kq with
            | zero => exact absurd HA.out (by simp [turnpikeref2_group.j3])
            | succ kj10 =>
             have H := HA.out
             clear HA
             simp only [turnpikeref2_group.j3] at H
             by_cases c13 : x36_10 = true
             ·subst c13
              have H1 : (turnpikeref2_group.l0 kj10 a0 (wrap64 ((wrap64 ((wrap64 (16 * x3_2)) + (((bt a0 x4_2) - 97) % 256))) + 10)) (wrap64 (x4_2 + 1))) = some r := by rw [if_pos rfl] at H; exact H
              clear H
              have H := H1
              clear H1
              have H' := Aside0.mk H
              clear H
              go_wp2
              go_roundg kj10
              case measure => have := HJ1.out; have := HK2.out; have := HJ7.out; have := HJ10.out; omega
              case rel => exact ⟨(wrap64 ((wrap64 ((wrap64 (16 * x3_2)) + (((bt a0 x4_2) - 97) % 256))) + 10)), (wrap64 (x4_2 + 1)), xV, xV, H', ⟨by have := HJ1.out; have := HK2.out; have := HJ7.out; have := HJ10.out; omega⟩, xD⟩
             ·replace c13 := Bool.eq_false_iff.mpr c13
              subst c13
              have H1 : (if (bt a0 x4_2) ≥ 65 then (if (bt a0 x4_2) ≤ 70 then (turnpikeref2_group.l0 kj10 a0 (wrap64 ((wrap64 ((wrap64 (16 * x3_2)) + (((bt a0 x4_2) - 65) % 256))) + 10)) (wrap64 (x4_2 + 1))) else (some (-1))) else (some (-1))) = some r := by rw [if_neg (show ¬ (false = true) by decide)] at H; exact H
              clear H
              have H := H1
              clear H1
              by_cases c14 : (bt a0 x4_2) ≥ 65
              ·rw [if_pos c14] at H
               have c14b0 : decide (65 ≤ (bt a0 x4_2)) = true := decide_eq_true c14
               clear c14
               by_cases c15 : (bt a0 x4_2) ≤ 70
               ·rw [if_pos c15] at H
                have c15b0 : decide ((bt a0 x4_2) ≤ 70) = true := decide_eq_true c15
                clear c15
                have H' := Aside0.mk H
                clear H
                go_wp2
                go_roundg kj10
                case measure => have := HJ1.out; have := HK2.out; have := HJ7.out; have := HJ10.out; omega
                case rel => exact ⟨(wrap64 ((wrap64 ((wrap64 (16 * x3_2)) + (((bt a0 x4_2) - 65) % 256))) + 10)), (wrap64 (x4_2 + 1)), xV, xV, H', ⟨by have := HJ1.out; have := HK2.out; have := HJ7.out; have := HJ10.out; omega⟩, xD⟩
               ·rw [if_neg c15] at H
                have c15b0 : decide ((bt a0 x4_2) ≤ 70) = false := decide_eq_false c15
                clear c15
                obtain rfl := Option.some.inj H
                go_wp2
                go_ret
                exact ⟨by first | rfl | (simp; done) | (simp [*]; done), xD⟩
              ·rw [if_neg c14] at H
               have c14b0 : decide (65 ≤ (bt a0 x4_2)) = false := decide_eq_false c14
               clear c14
               obtain rfl := Option.some.inj H
               go_wp2
               go_ret
               exact ⟨by first | rfl | (simp; done) | (simp [*]; done), xD⟩
       ·rw [if_neg c6] at H
        exact absurd H (by simp)
      ·rw [if_neg c5] at H
       have c5b0 : decide (x4_2 < (a0.size : Int)) = false := decide_eq_false c5
       clear c5
       obtain rfl := Option.some.inj H
       go_wp2
       go_ret
       exact ⟨by first | rfl | (simp; done) | (simp [*]; done), xD⟩
mutual
def turnpikeref2_groups.l0 : Nat → Bool → List Int → List ByteArray → Int → Option (List Int × Bool)
 | 0, _, _, _, _ => none
 | k + 1, x1, x6, x7, x8 => if x8 < (x7.length : Int) then (if x1 = true then (turnpikeref2_groups.j1 k x1 x6 x7 x8 (x8 == (wrap64 ((x7.length : Int) - 1)))) else (turnpikeref2_groups.j1 k x1 x6 x7 x8 false)) else (some (x6, true))
def turnpikeref2_groups.j1 : Nat → Bool → List Int → List ByteArray → Int → Bool → Option (List Int × Bool)
 | 0, _, _, _, _, _ => none
 | k + 1, x1, x6, x7, x8, x30 => if x30 = true then (if 0 ≤ x8 then (if x8 < (x7.length : Int) then ((turnpikeref2_dotted.f k (rdOf ByteArray.empty x7 x8)).bind fun bt687 => (if bt687.2 = true then ((some (([wrap64 (bt687.1 / 65536), wrap64 (Go.bits .and .u64 bt687.1 65535)] : List Int) : List Int)).bind fun y689 => (if x6.length + y689.length < 17592186044416 then (some ((x6 ++ y689), true)) else (none))) else ((turnpikeref2_group.f k (rdOf ByteArray.empty x7 x8)).bind fun t696 => (if t696 < 0 then (some (([] : List Int), false)) else (if x6.length < 17592186044416 then (turnpikeref2_groups.l0 k x1 (x6 ++ [t696]) x7 (wrap64 (x8 + 1))) else (none)))))) else (none)) else (none)) else (if 0 ≤ x8 then (if x8 < (x7.length : Int) then ((turnpikeref2_group.f k (rdOf ByteArray.empty x7 x8)).bind fun t701 => (if t701 < 0 then (some (([] : List Int), false)) else (if x6.length < 17592186044416 then (turnpikeref2_groups.l0 k x1 (x6 ++ [t701]) x7 (wrap64 (x8 + 1))) else (none)))) else (none)) else (none))
end
def turnpikeref2_groups.f (k : Nat) (a0 : ByteArray) (a1 : Bool) : Option (List Int × Bool) := if a0.toList = ([] : List UInt8) then (some (([] : List Int), true)) else ((turnpikeref2_split.f k a0 58).bind fun t683 => (turnpikeref2_groups.l0 k a1 ([] : List Int) t683 0))
theorem turnpikeref2_groups.mono_l : ∀ k, (∀ y0 y1 y2 y3, LeO (turnpikeref2_groups.l0 k y0 y1 y2 y3) (turnpikeref2_groups.l0 (k + 1) y0 y1 y2 y3)) ∧ (∀ y0 y1 y2 y3 y4, LeO (turnpikeref2_groups.j1 k y0 y1 y2 y3 y4) (turnpikeref2_groups.j1 (k + 1) y0 y1 y2 y3 y4))
 | 0 => ⟨fun _ _ _ _ r h => by simp [turnpikeref2_groups.l0] at h, fun _ _ _ _ _ r h => by simp [turnpikeref2_groups.j1] at h⟩
 | k + 1 => by
  obtain ⟨ih0, ih1⟩ := turnpikeref2_groups.mono_l k
  refine ⟨?_, ?_⟩
  ·intro y0 y1 y2 y3
   unfold turnpikeref2_groups.l0
   have m0 := @turnpikeref2_dotted.mono
   have m1 := @turnpikeref2_group.mono
   have m2 := @turnpikeref2_split.mono
   exact xO
  ·intro y0 y1 y2 y3 y4
   unfold turnpikeref2_groups.j1
   have m0 := @turnpikeref2_dotted.mono
   have m1 := @turnpikeref2_group.mono
   have m2 := @turnpikeref2_split.mono
   exact xO
theorem turnpikeref2_groups.mono : ∀ a0 a1 k, LeO (turnpikeref2_groups.f k a0 a1) (turnpikeref2_groups.f (k + 1) a0 a1) := by
 intro a0 a1 k
 obtain ⟨ih0, ih1⟩ := turnpikeref2_groups.mono_l k
 unfold turnpikeref2_groups.f
 have m0 := @turnpikeref2_dotted.mono
 have m1 := @turnpikeref2_group.mono
 have m2 := @turnpikeref2_split.mono
 exact xO
set_option maxHeartbeats 8000000 in
set_option maxRecDepth 100000 in
theorem turnpikeref2_groups.calls (k : Nat) (a0 : ByteArray) (a1 : Bool) (r1 : List Int) (r2 : Bool) (w : World) (h : turnpikeref2_groups.f k a0 a1 = some (r1, r2)) :
  Calls Tryd.prog 93 #[.string a0, .bool a1] w fun e w' => ∃ v0_ : Value, e = .returned (.tuple #[v0_, .bool r2]) ∧ Kd.R (Kd.int .i64) 3 w' w.heap.size (fun _ => True) v0_ r1 ∧ Below w.heap.size w w' := by
 have HB := Aside0.mk (Below.refl w.heap.size w)
 have H : (if a0.toList = ([] : List UInt8) then (some (([] : List Int), true)) else ((turnpikeref2_split.f k a0 58).bind fun t683 => (turnpikeref2_groups.l0 k a1 ([] : List Int) t683 0))) = some (r1, r2) := h
 clear h
 by_cases c3 : a0.toList = ([] : List UInt8)
 ·rw [if_pos c3] at H
  have c3b0 : (a0.toList == ([] : List UInt8)) = true := beq_iff_eq.mpr c3
  have c3b1 : (a0.toList != ([] : List UInt8)) = false := bne_eq_false_iff_eq.mpr c3
  clear c3
  simp only [Option.some.injEq, Prod.mk.injEq] at H
  obtain ⟨rfl, rfl⟩ := H
  go_enter Tryd.func93, Tryd.ntmps93
  go_wp2
  go_ret2
  exact ⟨_, xE, by first | exact Kd.R_nil _ _ _ _ _ | exact Kd.N_nil _ _ _ _ _ | exact Kd.V_nil _ _ _ _ _ | exact Kd.Q_nil _ _ _ _ _ | exact Kd.S_nil _ _ _ _ _, xB⟩
 ·rw [if_neg c3] at H
  have c3b0 : (a0.toList == ([] : List UInt8)) = false := beq_eq_false_iff_ne.mpr c3
  have c3b1 : (a0.toList != ([] : List UInt8)) = true := bne_iff_ne.mpr c3
  replace H := Option.bind_eq_some_iff.mp H
  obtain ⟨t683, A40, H⟩ := H
  replace H : (turnpikeref2_groups.l0 k a1 ([] : List Int) t683 0) = some (r1, r2) := H
  have A4 := Aside0.mk A40
  clear A40
  have H' := Aside0.mk H
  clear H
  go_enter Tryd.func93, Tryd.ntmps93
  go_wp2_with (first | ((with_reducible refine gate_callee (f := 106) rfl ?_); refine goesL_ (some 16) rfl rfl Tryd.func106 (by kernel_rfl) rfl #[.string a0, .int .u8 58] rfl xM ?_; (with_reducible refine (turnpikeref2_split.calls k a0 58 t683 _ A4.out).mono ?_); rintro e w5 ⟨v684, rfl, ho0, hb⟩; refine ⟨_, rfl, ?_⟩; have n0_ := Aside0.mk (Kd.R_lower ho0 (below_size xB)); have n1_ := Aside0.mk (below_step xB hb); clear HB; have HO685 := n0_; have HB := n1_; clear n0_ n1_; (try clear hb); (try clear hb2); (try clear hk); (try clear hi); (try clear ho0)))
  go_loopg [6, 8] k (fun kq v6 v8 w' => ∃ (x6_1 : List Int) (x8_1 : Int), v8 = .int .i64 x8_1 ∧ Aside0 (turnpikeref2_groups.l0 kq a1 x6_1 t683 x8_1 = some (r1, r2)) ∧ Aside0 (kq ≤ k) ∧ Aside0 (Kd.R (Kd.int .i64) 3 w' w.heap.size (fun _ => True) v6 x6_1) ∧ Aside0 (Kd.R Kd.string 9 w' w.heap.size (fun _ => True) v684 t683) ∧ Aside0 (Below w.heap.size w w'))
  case atStart => exact ⟨(([] : List Int)), (0), xV, H', ⟨Nat.le_refl _⟩, ⟨by first | exact Kd.R_nil _ _ _ _ _ | exact Kd.N_nil _ _ _ _ _ | exact Kd.V_nil _ _ _ _ _ | exact Kd.Q_nil _ _ _ _ _ | exact Kd.S_nil _ _ _ _ _⟩, ⟨xR HO685.out⟩, ⟨xB⟩⟩
  case round =>
   clear H'
   try clear c1
   try clear p2
   try clear c3
   try clear c3b0
   try clear c3b1
   obtain ⟨x6_1, x8_1, rfl, HA, HK1, HO_6, HO_7, HB⟩ := hrel
   cases gk with
   | zero => exact absurd HA.out (by simp [turnpikeref2_groups.l0])
   | succ k1 =>
    have H := HA.out
    clear HA
    simp only [turnpikeref2_groups.l0] at H
    by_cases c6 : x8_1 < (t683.length : Int)
    ·rw [if_pos c6] at H
     have c6b0 : decide (x8_1 < (t683.length : Int)) = true := decide_eq_true c6
     clear c6
     have HC7 := Aside0.mk H
     clear H
     obtain ⟨Ao8, co8, eo8⟩ := Kd.R_slice HO_7.out
     subst eo8
     go_upto_region 8 with (fail)
     go_cut [30] (fun v30 wc => ∃ (kq : Nat) (x30_6 : Bool), v30 = .bool x30_6 ∧ Aside0 (turnpikeref2_groups.j1 kq a1 x6_1 t683 x8_1 x30_6 = some (r1, r2)) ∧ Aside0 (kq ≤ k1) ∧ Aside0 (Kd.R (Kd.int .i64) 3 wc w.heap.size (fun _ => True) u6 x6_1) ∧ Aside0 (Kd.R Kd.string 9 wc w.heap.size (fun _ => True) (.slice Ao8 t683.length co8) t683) ∧ Aside0 (Below w.heap.size w wc))
     case first =>
      have H := HC7.out
      clear HC7
      by_cases c9 : a1 = true
      ·subst c9
       have H1 : (turnpikeref2_groups.j1 k1 true x6_1 t683 x8_1 (x8_1 == (wrap64 ((t683.length : Int) - 1)))) = some (r1, r2) := by rw [if_pos rfl] at H; exact H
       clear H
       have H := H1
       clear H1
       have H' := Aside0.mk H
       clear H
       go_wp2
       go_meet
       case rel => exact ⟨_, ((x8_1 == (wrap64 ((t683.length : Int) - 1)))), xV, H', ⟨by have := HK1.out; first | omega | exact Nat.le_refl _⟩, ⟨xR HO_6.out⟩, ⟨xR HO_7.out⟩, ⟨xB⟩⟩
      ·replace c9 := Bool.eq_false_iff.mpr c9
       subst c9
       have H1 : (turnpikeref2_groups.j1 k1 false x6_1 t683 x8_1 false) = some (r1, r2) := by rw [if_neg (show ¬ (false = true) by decide)] at H; exact H
       clear H
       have H := H1
       clear H1
       have H' := Aside0.mk H
       clear H
       go_wp2
       go_meet
       case rel => exact ⟨_, (false), xV, H', ⟨by have := HK1.out; first | omega | exact Nat.le_refl _⟩, ⟨xR HO_6.out⟩, ⟨xR HO_7.out⟩, ⟨xB⟩⟩
     case rest =>
      clear HC7
      try clear c1
      try clear p2
      try clear c3
      try clear c3b0
      try clear c3b1
      try clear c6
      try clear c6b0
      try clear p6
      try clear c9
      try clear p2
      obtain ⟨kq, x30_6, rfl, HA, HJ6, HO_6, HO_7, HB⟩ := hcut
      cases kq with
      | zero => exact absurd HA.out (by simp [turnpikeref2_groups.j1])
      | succ kj6 =>
       have H := HA.out
       clear HA
       simp only [turnpikeref2_groups.j1] at H
       by_cases c10 : x30_6 = true
       ·subst c10
        have H1 : (if 0 ≤ x8_1 then (if x8_1 < (t683.length : Int) then ((turnpikeref2_dotted.f kj6 (rdOf ByteArray.empty t683 x8_1)).bind fun bt687 => (if bt687.2 = true then ((some (([wrap64 (bt687.1 / 65536), wrap64 (Go.bits .and .u64 bt687.1 65535)] : List Int) : List Int)).bind fun y689 => (if x6_1.length + y689.length < 17592186044416 then (some ((x6_1 ++ y689), true)) else (none))) else ((turnpikeref2_group.f kj6 (rdOf ByteArray.empty t683 x8_1)).bind fun t696 => (if t696 < 0 then (some (([] : List Int), false)) else (if x6_1.length < 17592186044416 then (turnpikeref2_groups.l0 kj6 a1 (x6_1 ++ [t696]) t683 (wrap64 (x8_1 + 1))) else (none)))))) else (none)) else (none)) = some (r1, r2) := by rw [if_pos rfl] at H; exact H
        clear H
        have H := H1
        clear H1
        by_cases c11 : 0 ≤ x8_1
        ·rw [if_pos c11] at H
         have c11b0 : decide (0 ≤ x8_1) = true := decide_eq_true c11
         clear c11
         by_cases c12 : x8_1 < (t683.length : Int)
         ·rw [if_pos c12] at H
          have c12b0 : decide (x8_1 < (t683.length : Int)) = true := decide_eq_true c12
          clear c12
          replace H := Option.bind_eq_some_iff.mp H
          obtain ⟨⟨t687, t688⟩, A130, H⟩ := H
          replace H : (if t688 = true then ((some (([wrap64 (t687 / 65536), wrap64 (Go.bits .and .u64 t687 65535)] : List Int) : List Int)).bind fun y689 => (if x6_1.length + y689.length < 17592186044416 then (some ((x6_1 ++ y689), true)) else (none))) else ((turnpikeref2_group.f kj6 (rdOf ByteArray.empty t683 x8_1)).bind fun t696 => (if t696 < 0 then (some (([] : List Int), false)) else (if x6_1.length < 17592186044416 then (turnpikeref2_groups.l0 kj6 a1 (x6_1 ++ [t696]) t683 (wrap64 (x8_1 + 1))) else (none))))) = some (r1, r2) := H
          have A13 := Aside0.mk A130
          clear A130
          by_cases c14 : t688 = true
          ·subst c14
           have H1 : ((some (([wrap64 (t687 / 65536), wrap64 (Go.bits .and .u64 t687 65535)] : List Int) : List Int)).bind fun y689 => (if x6_1.length + y689.length < 17592186044416 then (some ((x6_1 ++ y689), true)) else (none))) = some (r1, r2) := by rw [if_pos rfl] at H; exact H
           clear H
           have H := H1
           clear H1
           obtain ⟨y689, hy689⟩ : ∃ y_ : List Int, y_ = (([wrap64 (t687 / 65536), wrap64 (Go.bits .and .u64 t687 65535)] : List Int)) := ⟨_, rfl⟩
           replace H : (if x6_1.length + y689.length < 17592186044416 then (some ((x6_1 ++ y689), true)) else (none)) = some (r1, r2) := by first | (rw [hy689]; with_reducible exact H) | (have H2_ := (Option.bind_some _ _).symm.trans H; rw [hy689]; with_reducible exact H2_) | (have H2_ := (Option.bind_some _ _).symm.trans H; with_reducible exact H2_) | with_reducible exact H | (rw [hy689]; exact H) | exact H
           have Ny689 := Aside0.mk hy689
           clear hy689
           by_cases c15 : x6_1.length + y689.length < 17592186044416
           ·rw [if_pos c15] at H
            have LMc15 := Aside0.mk c15
            clear c15
            obtain ⟨y692, hy692⟩ : ∃ y_ : List Int, y_ = (x6_1 ++ y689) := ⟨_, rfl⟩
            replace H : (some (y692, true)) = some (r1, r2) := by first | (rw [hy692]; with_reducible exact H) | (have H2_ := (Option.bind_some _ _).symm.trans H; rw [hy692]; with_reducible exact H2_) | (have H2_ := (Option.bind_some _ _).symm.trans H; with_reducible exact H2_) | with_reducible exact H | (rw [hy692]; exact H) | exact H
            have Ny692 := Aside0.mk hy692
            clear hy692
            simp only [Option.some.injEq, Prod.mk.injEq] at H
            obtain ⟨rfl, rfl⟩ := H
            have p686 : 0 ≤ (x8_1 : Int) := of_decide_eq_true xA
            have q686 : x8_1 < (t683.length : Int) := of_decide_eq_true xA
            obtain ⟨ad686, e686, hx686_0⟩ := Kd.at_string (Kd.R_reads' HO_7.out).2.2 x8_1 p686 q686
            cases e686
            replace p686 := eq_true p686
            replace q686 := eq_true q686
            go_wp2_with (first | ((with_reducible refine gate_callee (f := 91) rfl ?_); refine goesL_ (some 36) rfl rfl Tryd.func91 (by kernel_rfl) rfl #[.string (rdOf ByteArray.empty t683 x8_1)] rfl xM ?_; (with_reducible refine (turnpikeref2_dotted.calls kj6 (rdOf ByteArray.empty t683 x8_1) t687 true _ A13.out).mono ?_); rintro e w16 ⟨rfl, hb⟩; refine ⟨_, rfl, ?_⟩; have n0_ := Aside0.mk (Kd.R_below (xR HO_6.out) hb); have n1_ := Aside0.mk (Kd.R_below (xR HO_7.out) hb); have n2_ := Aside0.mk (below_step xB hb); clear HO_6; clear HO_7; clear HB; have HO_6 := n0_; have HO_7 := n1_; have HB := n2_; clear n0_ n1_ n2_; (try clear hb); (try clear hb2); (try clear hk); (try clear hi)) | ((with_reducible refine gate_dst (N := 47) rfl ?_); (try (refine gate_guard (by rfl) ?_; dsimp only)); refine Kd.R_lit (Kd.int .i64) _ 3 ?hg (N := 47) ?hd (xs := ([wrap64 (t687 / 65536), wrap64 (Go.bits .and .u64 t687 65535)] : List Int)) (inner := [.int .i64 (wrap64 (t687 / 65536)), .int .i64 (wrap64 (Go.bits .and .u64 t687 65535))]) (ok := fun _ => True) (okp := fun _ => True) ?hr ?hp (fun _ hk => hk) trivial (Below.refl _ _) (Nat.le_refl _) (by simp) ?_; (case hd => rfl); (case hg => rfl); (case hr => first | (go_simp; done) | (go_simp; rfl)); (case hp => exact (Reps.one (show Kd.M (Kd.int .i64) _ _ _ (wrap64 (t687 / 65536)) [.int .i64 (wrap64 (t687 / 65536))] from rfl) (Reps.one (show Kd.M (Kd.int .i64) _ _ _ (wrap64 (Go.bits .and .u64 t687 65535)) [.int .i64 (wrap64 (Go.bits .and .u64 t687 65535))] from rfl) (Reps.none _ _)))); intro v690 w17 ho18 hb hg_ hnew_; clear hg_ hnew_; (first | rw [← Ny689.out] at ho18 | (simp only [Int.reduceToNat] at ho18; rw [← Ny689.out] at ho18)); have n0_ := Aside0.mk (Kd.R_elder' (xR HO_6.out) (Kd.R_base ho18) hb); have n1_ := Aside0.mk (Kd.R_below (xR HO_7.out) hb); have n2_ := Aside0.mk (Kd.R_lower (Kd.R_new' ho18 (Kd.R_lt (xR HO_6.out))) (below_size xB)); have n3_ := Aside0.mk (below_step xB hb); clear HO_6; clear HO_7; clear HB; have HO_6 := n0_; have HO_7 := n1_; have HO691 := n2_; have HB := n3_; clear n0_ n1_ n2_ n3_; clear hb ho18; obtain ⟨Ao20, co20, eo20⟩ := Kd.R_slice HO691.out; subst eo20) | ((with_reducible refine gate_builtin (b := .append) (xs := #[.tmp 40, .tmp 47]) rfl ?_); (try (refine gate_guard (by rfl) ?_; dsimp only)); at_builtin; refine Kd.R_append_rows (Kd.int .i64) (w0 := w) w.heap.size rfl (.tmp 40) (.tmp 47) 107 3 (.int .i64 0) 8 rfl Tryd.underlying107 info3 rfl (by decide) (by omega) u6 x6_1 y689 _ _ _ (fun k_ => some k_ ≠ (.slice Ao20 y689.length co20 : Value).ownBlock) (fun _ => False) rfl rfl ?aO ?aR (fun _ _ h => h) (fun _ h => h.elim) ?aF ?aB ?aS ?aL ?_; (case aR => repeat (first | exact (Kd.R_reads' HO691.out).2.2 | (with_reducible refine Kd.C_alloc ?_ _) | (with_reducible refine Kd.C_drewN ?_ _) | (with_reducible refine Kd.C_drew ?_))); (case aB => exact xB); (case aF => exact (fun k_ hk => Kd.fresh' (Kd.R_lt (xR HO691.out)) k_ hk)); (case aO => exact (by (with_reducible repeat (first | apply Kd.R_alloc | apply Kd.R_drewN | apply Kd.R_drew)); exact Kd.R_mono HO_6.out (fun _ hk => hk.2))); (case aS => exact (below_size xB)); (case aL => have := LMc15.out; omega); intro v693 w19 ho hb hg hat; rw [← Ny692.out] at ho; have n0_ := Aside0.mk (Kd.R_over' (xR HO_7.out) (Kd.R_typed (xR HO_6.out)) (by decide) hg); have n1_ := Aside0.mk (Kd.R_after (ok := (fun _ => True)) (xR HO691.out) hg hat); have n2_ := Aside0.mk (hb); have n3_ := Aside0.mk (ho); clear HO_7; clear HO691; clear HB; clear HO_6; have HO_7 := n0_; have HO691 := n1_; have HB := n2_; have HO694 := n3_; clear n0_ n1_ n2_ n3_; clear ho hb hg hat))
            go_ret2
            exact ⟨_, xE, by (with_reducible repeat (first | apply Kd.R_alloc | apply Kd.R_drewN | apply Kd.R_drew)); exact Kd.R_mono HO694.out (fun _ hk => trivial), xB⟩
           ·rw [if_neg c15] at H
            exact absurd H (by simp)
          ·replace c14 := Bool.eq_false_iff.mpr c14
           subst c14
           have H1 : ((turnpikeref2_group.f kj6 (rdOf ByteArray.empty t683 x8_1)).bind fun t696 => (if t696 < 0 then (some (([] : List Int), false)) else (if x6_1.length < 17592186044416 then (turnpikeref2_groups.l0 kj6 a1 (x6_1 ++ [t696]) t683 (wrap64 (x8_1 + 1))) else (none)))) = some (r1, r2) := by rw [if_neg (show ¬ (false = true) by decide)] at H; exact H
           clear H
           have H := H1
           clear H1
           replace H := Option.bind_eq_some_iff.mp H
           obtain ⟨t696, A210, H⟩ := H
           replace H : (if t696 < 0 then (some (([] : List Int), false)) else (if x6_1.length < 17592186044416 then (turnpikeref2_groups.l0 kj6 a1 (x6_1 ++ [t696]) t683 (wrap64 (x8_1 + 1))) else (none))) = some (r1, r2) := H
           have A21 := Aside0.mk A210
           clear A210
           by_cases c22 : t696 < 0
           ·rw [if_pos c22] at H
            have c22b0 : decide (t696 < 0) = true := decide_eq_true c22
            clear c22
            simp only [Option.some.injEq, Prod.mk.injEq] at H
            obtain ⟨rfl, rfl⟩ := H
            have p686 : 0 ≤ (x8_1 : Int) := of_decide_eq_true xA
            have q686 : x8_1 < (t683.length : Int) := of_decide_eq_true xA
            obtain ⟨ad686, e686, hx686_0⟩ := Kd.at_string (Kd.R_reads' HO_7.out).2.2 x8_1 p686 q686
            cases e686
            replace p686 := eq_true p686
            replace q686 := eq_true q686
            go_wp2_with (first | ((with_reducible refine gate_callee (f := 91) rfl ?_); refine goesL_ (some 36) rfl rfl Tryd.func91 (by kernel_rfl) rfl #[.string (rdOf ByteArray.empty t683 x8_1)] rfl xM ?_; (with_reducible refine (turnpikeref2_dotted.calls kj6 (rdOf ByteArray.empty t683 x8_1) t687 false _ A13.out).mono ?_); rintro e w23 ⟨rfl, hb⟩; refine ⟨_, rfl, ?_⟩; have n0_ := Aside0.mk (Kd.R_below (xR HO_6.out) hb); have n1_ := Aside0.mk (Kd.R_below (xR HO_7.out) hb); have n2_ := Aside0.mk (below_step xB hb); clear HO_6; clear HO_7; clear HB; have HO_6 := n0_; have HO_7 := n1_; have HB := n2_; clear n0_ n1_ n2_; (try clear hb); (try clear hb2); (try clear hk); (try clear hi); have p695 : 0 ≤ (x8_1 : Int) := of_decide_eq_true xA; have q695 : x8_1 < (t683.length : Int) := of_decide_eq_true xA; obtain ⟨ad695, e695, hx695_0⟩ := Kd.at_string (Kd.R_reads' HO_7.out).2.2 x8_1 p695 q695; obtain rfl : ad686 = ad695 := (by injection e695); replace p695 := eq_true p695; replace q695 := eq_true q695) | ((with_reducible refine gate_callee (f := 108) rfl ?_); refine goesL_ (some 53) rfl rfl Tryd.func108 (by kernel_rfl) rfl #[.string (rdOf ByteArray.empty t683 x8_1)] rfl xM ?_; (with_reducible refine (turnpikeref2_group.calls kj6 (rdOf ByteArray.empty t683 x8_1) t696 _ A21.out).mono ?_); rintro e w' ⟨rfl, ⟨nd, rfl⟩⟩; refine ⟨_, rfl, ?_⟩))
            go_ret2
            exact ⟨_, xE, by first | exact Kd.R_nil _ _ _ _ _ | exact Kd.N_nil _ _ _ _ _ | exact Kd.V_nil _ _ _ _ _ | exact Kd.Q_nil _ _ _ _ _ | exact Kd.S_nil _ _ _ _ _, xB⟩
           ·rw [if_neg c22] at H
            have c22b0 : decide (t696 < 0) = false := decide_eq_false c22
            clear c22
            by_cases c24 : x6_1.length < 17592186044416
            ·rw [if_pos c24] at H
             have LMc24 := Aside0.mk c24
             clear c24
             obtain ⟨y697, hy697⟩ : ∃ y_ : List Int, y_ = (x6_1 ++ [t696]) := ⟨_, rfl⟩
             replace H : (turnpikeref2_groups.l0 kj6 a1 y697 t683 (wrap64 (x8_1 + 1))) = some (r1, r2) := by first | (rw [hy697]; with_reducible exact H) | (have H2_ := (Option.bind_some _ _).symm.trans H; rw [hy697]; with_reducible exact H2_) | (have H2_ := (Option.bind_some _ _).symm.trans H; with_reducible exact H2_) | with_reducible exact H | (rw [hy697]; exact H) | exact H
             have Ny697 := Aside0.mk hy697
             clear hy697
             have H' := Aside0.mk H
             clear H
             have p686 : 0 ≤ (x8_1 : Int) := of_decide_eq_true xA
             have q686 : x8_1 < (t683.length : Int) := of_decide_eq_true xA
             obtain ⟨ad686, e686, hx686_0⟩ := Kd.at_string (Kd.R_reads' HO_7.out).2.2 x8_1 p686 q686
             cases e686
             replace p686 := eq_true p686
             replace q686 := eq_true q686
             go_wp2_with (first | ((with_reducible refine gate_callee (f := 91) rfl ?_); refine goesL_ (some 36) rfl rfl Tryd.func91 (by kernel_rfl) rfl #[.string (rdOf ByteArray.empty t683 x8_1)] rfl xM ?_; (with_reducible refine (turnpikeref2_dotted.calls kj6 (rdOf ByteArray.empty t683 x8_1) t687 false _ A13.out).mono ?_); rintro e w25 ⟨rfl, hb⟩; refine ⟨_, rfl, ?_⟩; have n0_ := Aside0.mk (Kd.R_below (xR HO_6.out) hb); have n1_ := Aside0.mk (Kd.R_below (xR HO_7.out) hb); have n2_ := Aside0.mk (below_step xB hb); clear HO_6; clear HO_7; clear HB; have HO_6 := n0_; have HO_7 := n1_; have HB := n2_; clear n0_ n1_ n2_; (try clear hb); (try clear hb2); (try clear hk); (try clear hi); have p695 : 0 ≤ (x8_1 : Int) := of_decide_eq_true xA; have q695 : x8_1 < (t683.length : Int) := of_decide_eq_true xA; obtain ⟨ad695, e695, hx695_0⟩ := Kd.at_string (Kd.R_reads' HO_7.out).2.2 x8_1 p695 q695; obtain rfl : ad686 = ad695 := (by injection e695); replace p695 := eq_true p695; replace q695 := eq_true q695) | ((with_reducible refine gate_callee (f := 108) rfl ?_); refine goesL_ (some 53) rfl rfl Tryd.func108 (by kernel_rfl) rfl #[.string (rdOf ByteArray.empty t683 x8_1)] rfl xM ?_; (with_reducible refine (turnpikeref2_group.calls kj6 (rdOf ByteArray.empty t683 x8_1) t696 _ A21.out).mono ?_); rintro e w' ⟨rfl, ⟨nd, rfl⟩⟩; refine ⟨_, rfl, ?_⟩) | ((with_reducible refine gate_builtin (b := .append) (xs := #[.tmp 56, .tmp 58]) rfl ?_); (try (refine gate_guard (by rfl) ?_; dsimp only)); at_builtin; refine Kd.R_append (Kd.int .i64) (w0 := w) w.heap.size rfl (.tmp 56) (.tmp 58) 107 3 (.int .i64 0) 8 rfl Tryd.underlying107 info3 rfl (by decide) (by omega) u6 x6_1 t696 [.int .i64 t696] (fun _ => True) (fun _ => False) rfl rfl ?aP (fun _ hk => hk.elim) ?aF ?aO ?aB ?aS ?aL ?_; (case aP => exact rfl); (case aB => exact xB); (case aF => exact (fun _ _ => trivial)); (case aO => exact (xR HO_6.out)); (case aS => exact (below_size xB)); (case aL => have := LMc24.out; omega); intro v698 w26 ho hb hg hat; rw [← Ny697.out] at ho; have n0_ := Aside0.mk (Kd.R_over' (xR HO_7.out) (Kd.R_typed (xR HO_6.out)) (by decide) hg); have n1_ := Aside0.mk (hb); have n2_ := Aside0.mk (ho); clear HO_7; clear HB; clear HO_6; have HO_7 := n0_; have HB := n1_; have HO699 := n2_; clear n0_ n1_ n2_; clear ho hb hg hat))
             go_roundg kj6
             case measure => have := HK1.out; have := HJ6.out; omega
             case rel => exact ⟨(y697), (wrap64 (x8_1 + 1)), xV, H', ⟨by have := HK1.out; have := HJ6.out; omega⟩, ⟨xR HO699.out⟩, ⟨xR HO_7.out⟩, ⟨xB⟩⟩
            ·rw [if_neg c24] at H
             exact absurd H (by simp)
         ·rw [if_neg c12] at H
          exact absurd H (by simp)
        ·rw [if_neg c11] at H
         exact absurd H (by simp)
       ·replace c10 := Bool.eq_false_iff.mpr c10
        subst c10
        have H1 : (if 0 ≤ x8_1 then (if x8_1 < (t683.length : Int) then ((turnpikeref2_group.f kj6 (rdOf ByteArray.empty t683 x8_1)).bind fun t701 => (if t701 < 0 then (some (([] : List Int), false)) else (if x6_1.length < 17592186044416 then (turnpikeref2_groups.l0 kj6 a1 (x6_1 ++ [t701]) t683 (wrap64 (x8_1 + 1))) else (none)))) else (none)) else (none)) = some (r1, r2) := by rw [if_neg (show ¬ (false = true) by decide)] at H; exact H
        clear H
        have H := H1
        clear H1
        by_cases c27 : 0 ≤ x8_1
        ·rw [if_pos c27] at H
         have c27b0 : decide (0 ≤ x8_1) = true := decide_eq_true c27
         clear c27
         by_cases c28 : x8_1 < (t683.length : Int)
         ·rw [if_pos c28] at H
          have c28b0 : decide (x8_1 < (t683.length : Int)) = true := decide_eq_true c28
          clear c28
          replace H := Option.bind_eq_some_iff.mp H
          obtain ⟨t701, A290, H⟩ := H
          replace H : (if t701 < 0 then (some (([] : List Int), false)) else (if x6_1.length < 17592186044416 then (turnpikeref2_groups.l0 kj6 a1 (x6_1 ++ [t701]) t683 (wrap64 (x8_1 + 1))) else (none))) = some (r1, r2) := H
          have A29 := Aside0.mk A290
          clear A290
          by_cases c30 : t701 < 0
          ·rw [if_pos c30] at H
           have c30b0 : decide (t701 < 0) = true := decide_eq_true c30
           clear c30
           simp only [Option.some.injEq, Prod.mk.injEq] at H
           obtain ⟨rfl, rfl⟩ := H
           have p700 : 0 ≤ (x8_1 : Int) := of_decide_eq_true xA
           have q700 : x8_1 < (t683.length : Int) := of_decide_eq_true xA
           obtain ⟨ad700, e700, hx700_0⟩ := Kd.at_string (Kd.R_reads' HO_7.out).2.2 x8_1 p700 q700
           cases e700
           replace p700 := eq_true p700
           replace q700 := eq_true q700
           go_wp2_with (first | ((with_reducible refine gate_callee (f := 108) rfl ?_); refine goesL_ (some 53) rfl rfl Tryd.func108 (by kernel_rfl) rfl #[.string (rdOf ByteArray.empty t683 x8_1)] rfl xM ?_; (with_reducible refine (turnpikeref2_group.calls kj6 (rdOf ByteArray.empty t683 x8_1) t701 _ A29.out).mono ?_); rintro e w' ⟨rfl, ⟨nd, rfl⟩⟩; refine ⟨_, rfl, ?_⟩))
           go_ret2
           exact ⟨_, xE, by first | exact Kd.R_nil _ _ _ _ _ | exact Kd.N_nil _ _ _ _ _ | exact Kd.V_nil _ _ _ _ _ | exact Kd.Q_nil _ _ _ _ _ | exact Kd.S_nil _ _ _ _ _, xB⟩
          ·rw [if_neg c30] at H
           have c30b0 : decide (t701 < 0) = false := decide_eq_false c30
           clear c30
           by_cases c31 : x6_1.length < 17592186044416
           ·rw [if_pos c31] at H
            have LMc31 := Aside0.mk c31
            clear c31
            obtain ⟨y702, hy702⟩ : ∃ y_ : List Int, y_ = (x6_1 ++ [t701]) := ⟨_, rfl⟩
            replace H : (turnpikeref2_groups.l0 kj6 a1 y702 t683 (wrap64 (x8_1 + 1))) = some (r1, r2) := by first | (rw [hy702]; with_reducible exact H) | (have H2_ := (Option.bind_some _ _).symm.trans H; rw [hy702]; with_reducible exact H2_) | (have H2_ := (Option.bind_some _ _).symm.trans H; with_reducible exact H2_) | with_reducible exact H | (rw [hy702]; exact H) | exact H
            have Ny702 := Aside0.mk hy702
            clear hy702
            have H' := Aside0.mk H
            clear H
            have p700 : 0 ≤ (x8_1 : Int) := of_decide_eq_true xA
            have q700 : x8_1 < (t683.length : Int) := of_decide_eq_true xA
            obtain ⟨ad700, e700, hx700_0⟩ := Kd.at_string (Kd.R_reads' HO_7.out).2.2 x8_1 p700 q700
            cases e700
            replace p700 := eq_true p700
            replace q700 := eq_true q700
            go_wp2_with (first | ((with_reducible refine gate_callee (f := 108) rfl ?_); refine goesL_ (some 53) rfl rfl Tryd.func108 (by kernel_rfl) rfl #[.string (rdOf ByteArray.empty t683 x8_1)] rfl xM ?_; (with_reducible refine (turnpikeref2_group.calls kj6 (rdOf ByteArray.empty t683 x8_1) t701 _ A29.out).mono ?_); rintro e w' ⟨rfl, ⟨nd, rfl⟩⟩; refine ⟨_, rfl, ?_⟩) | ((with_reducible refine gate_builtin (b := .append) (xs := #[.tmp 56, .tmp 58]) rfl ?_); (try (refine gate_guard (by rfl) ?_; dsimp only)); at_builtin; refine Kd.R_append (Kd.int .i64) (w0 := w) w.heap.size rfl (.tmp 56) (.tmp 58) 107 3 (.int .i64 0) 8 rfl Tryd.underlying107 info3 rfl (by decide) (by omega) u6 x6_1 t701 [.int .i64 t701] (fun _ => True) (fun _ => False) rfl rfl ?aP (fun _ hk => hk.elim) ?aF ?aO ?aB ?aS ?aL ?_; (case aP => exact rfl); (case aB => exact xB); (case aF => exact (fun _ _ => trivial)); (case aO => exact (xR HO_6.out)); (case aS => exact (below_size xB)); (case aL => have := LMc31.out; omega); intro v703 w32 ho hb hg hat; rw [← Ny702.out] at ho; have n0_ := Aside0.mk (Kd.R_over' (xR HO_7.out) (Kd.R_typed (xR HO_6.out)) (by decide) hg); have n1_ := Aside0.mk (hb); have n2_ := Aside0.mk (ho); clear HO_7; clear HB; clear HO_6; have HO_7 := n0_; have HB := n1_; have HO704 := n2_; clear n0_ n1_ n2_; clear ho hb hg hat))
            go_roundg kj6
            case measure => have := HK1.out; have := HJ6.out; omega
            case rel => exact ⟨(y702), (wrap64 (x8_1 + 1)), xV, H', ⟨by have := HK1.out; have := HJ6.out; omega⟩, ⟨xR HO704.out⟩, ⟨xR HO_7.out⟩, ⟨xB⟩⟩
           ·rw [if_neg c31] at H
            exact absurd H (by simp)
         ·rw [if_neg c28] at H
          exact absurd H (by simp)
        ·rw [if_neg c27] at H
         exact absurd H (by simp)
    ·rw [if_neg c6] at H
     have c6b0 : decide (x8_1 < (t683.length : Int)) = false := decide_eq_false c6
     clear c6
     simp only [Option.some.injEq, Prod.mk.injEq] at H
     obtain ⟨rfl, rfl⟩ := H
     obtain ⟨Ao33, co33, eo33⟩ := Kd.R_slice HO_7.out
     subst eo33
     go_wp2
     go_ret2
     exact ⟨_, xE, xR HO_6.out, xB⟩
end Go.Proofs.YtdjhmapmhajkcaaDoor.X
