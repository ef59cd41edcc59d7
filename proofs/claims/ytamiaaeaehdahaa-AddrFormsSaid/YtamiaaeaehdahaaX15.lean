-- Printed by a program of this session (xprint.py, over the kit's printer)
import Derived.Test.YtamiaaeaehdahaaX0
import Derived.Test.YtamiaaeaehdahaaX14
namespace Go.Proofs.Ytamiaaeaehdahaa.X
open Go.RowKit Go.Proofs.YtamiaaeaehdahaaW.PrintWords Go.Proofs.YtamiaaeaehdahaaW.PrintLast Go.Proofs.Ytamiaaeaehdahaa.Sm
set_option linter.unusedVariables false
set_option linter.unusedSimpArgs false

/-! ### turnpikelaw2_octets: function 16 -/
def turnpikelaw2_octets.f (k : Nat) (a0 : Int) (a1 : Int) : Option (ByteArray) := (turnpikelaw2_decimal.f k (wrap64 (Int.tdiv a0 256))).bind fun t308 => (if t308.size + 1 ≤ 9223372036854775807 then ((turnpikelaw2_decimal.f k (Int.tmod a0 256)).bind fun t309 => (if (t308 ++ (⟨#[46]⟩ : ByteArray)).size + t309.size ≤ 9223372036854775807 then (if ((t308 ++ (⟨#[46]⟩ : ByteArray)) ++ t309).size + 1 ≤ 9223372036854775807 then ((turnpikelaw2_decimal.f k (wrap64 (Int.tdiv a1 256))).bind fun t310 => (if (((t308 ++ (⟨#[46]⟩ : ByteArray)) ++ t309) ++ (⟨#[46]⟩ : ByteArray)).size + t310.size ≤ 9223372036854775807 then (if ((((t308 ++ (⟨#[46]⟩ : ByteArray)) ++ t309) ++ (⟨#[46]⟩ : ByteArray)) ++ t310).size + 1 ≤ 9223372036854775807 then ((turnpikelaw2_decimal.f k (Int.tmod a1 256)).bind fun t311 => (if (((((t308 ++ (⟨#[46]⟩ : ByteArray)) ++ t309) ++ (⟨#[46]⟩ : ByteArray)) ++ t310) ++ (⟨#[46]⟩ : ByteArray)).size + t311.size ≤ 9223372036854775807 then (some ((((((t308 ++ (⟨#[46]⟩ : ByteArray)) ++ t309) ++ (⟨#[46]⟩ : ByteArray)) ++ t310) ++ (⟨#[46]⟩ : ByteArray)) ++ t311)) else (none))) else (none)) else (none))) else (none)) else (none))) else (none))
theorem turnpikelaw2_octets.mono : ∀ a0 a1 k, LeO (turnpikelaw2_octets.f k a0 a1) (turnpikelaw2_octets.f (k + 1) a0 a1) := by
  intro a0 a1 k
  unfold turnpikelaw2_octets.f
  repeat' first
      | (with_reducible exact turnpikelaw2_decimal.mono _ _)
      | (with_reducible exact LeO.refl _)
      | (with_reducible exact LeO.none _)
      | (with_reducible refine LeO.ite ?_ ?_)
      | (with_reducible refine LeO.bind ?_ (fun _ => ?_))
      | exact turnpikelaw2_decimal.mono _ _
      | exact LeO.none _
      | refine LeO.ite ?_ ?_
      | refine LeO.bind ?_ (fun _ => ?_)
set_option maxHeartbeats 8000000 in
set_option maxRecDepth 100000 in
theorem turnpikelaw2_octets.calls (k : Nat) (a0 : Int) (a1 : Int) (r : ByteArray) (w : World) (h : turnpikelaw2_octets.f k a0 a1 = some r) :
    Calls Try.prog 16 #[.int .i64 a0, .int .i64 a1] w fun e w' => e = .returned (.string r) ∧ Below w.heap.size w w' := by
  have HB := Aside0.mk (Below.refl w.heap.size w)
  have H : ((turnpikelaw2_decimal.f k (wrap64 (Int.tdiv a0 256))).bind fun t308 => (if t308.size + 1 ≤ 9223372036854775807 then ((turnpikelaw2_decimal.f k (Int.tmod a0 256)).bind fun t309 => (if (t308 ++ (⟨#[46]⟩ : ByteArray)).size + t309.size ≤ 9223372036854775807 then (if ((t308 ++ (⟨#[46]⟩ : ByteArray)) ++ t309).size + 1 ≤ 9223372036854775807 then ((turnpikelaw2_decimal.f k (wrap64 (Int.tdiv a1 256))).bind fun t310 => (if (((t308 ++ (⟨#[46]⟩ : ByteArray)) ++ t309) ++ (⟨#[46]⟩ : ByteArray)).size + t310.size ≤ 9223372036854775807 then (if ((((t308 ++ (⟨#[46]⟩ : ByteArray)) ++ t309) ++ (⟨#[46]⟩ : ByteArray)) ++ t310).size + 1 ≤ 9223372036854775807 then ((turnpikelaw2_decimal.f k (Int.tmod a1 256)).bind fun t311 => (if (((((t308 ++ (⟨#[46]⟩ : ByteArray)) ++ t309) ++ (⟨#[46]⟩ : ByteArray)) ++ t310) ++ (⟨#[46]⟩ : ByteArray)).size + t311.size ≤ 9223372036854775807 then (some ((((((t308 ++ (⟨#[46]⟩ : ByteArray)) ++ t309) ++ (⟨#[46]⟩ : ByteArray)) ++ t310) ++ (⟨#[46]⟩ : ByteArray)) ++ t311)) else (none))) else (none)) else (none))) else (none)) else (none))) else (none))) = some r := h
  clear h
  replace H := Option.bind_eq_some_iff.mp H
  obtain ⟨t308, A30, H⟩ := H
  replace H : (if t308.size + 1 ≤ 9223372036854775807 then ((turnpikelaw2_decimal.f k (Int.tmod a0 256)).bind fun t309 => (if (t308 ++ (⟨#[46]⟩ : ByteArray)).size + t309.size ≤ 9223372036854775807 then (if ((t308 ++ (⟨#[46]⟩ : ByteArray)) ++ t309).size + 1 ≤ 9223372036854775807 then ((turnpikelaw2_decimal.f k (wrap64 (Int.tdiv a1 256))).bind fun t310 => (if (((t308 ++ (⟨#[46]⟩ : ByteArray)) ++ t309) ++ (⟨#[46]⟩ : ByteArray)).size + t310.size ≤ 9223372036854775807 then (if ((((t308 ++ (⟨#[46]⟩ : ByteArray)) ++ t309) ++ (⟨#[46]⟩ : ByteArray)) ++ t310).size + 1 ≤ 9223372036854775807 then ((turnpikelaw2_decimal.f k (Int.tmod a1 256)).bind fun t311 => (if (((((t308 ++ (⟨#[46]⟩ : ByteArray)) ++ t309) ++ (⟨#[46]⟩ : ByteArray)) ++ t310) ++ (⟨#[46]⟩ : ByteArray)).size + t311.size ≤ 9223372036854775807 then (some ((((((t308 ++ (⟨#[46]⟩ : ByteArray)) ++ t309) ++ (⟨#[46]⟩ : ByteArray)) ++ t310) ++ (⟨#[46]⟩ : ByteArray)) ++ t311)) else (none))) else (none)) else (none))) else (none)) else (none))) else (none)) = some r := H
  have A3 := Aside0.mk A30
  clear A30
  by_cases c4 : t308.size + 1 ≤ 9223372036854775807
  · rw [if_pos c4] at H
    have c4b0 := eq_true c4
    have c4b1 : decide (t308.size + 1 ≤ 9223372036854775807) = true := decide_eq_true c4
    try have c4b2 : (9223372036854775807 < t308.size + 1) = False := eq_false (Nat.not_lt.2 c4)
    replace H := Option.bind_eq_some_iff.mp H
    obtain ⟨t309, A50, H⟩ := H
    replace H : (if (t308 ++ (⟨#[46]⟩ : ByteArray)).size + t309.size ≤ 9223372036854775807 then (if ((t308 ++ (⟨#[46]⟩ : ByteArray)) ++ t309).size + 1 ≤ 9223372036854775807 then ((turnpikelaw2_decimal.f k (wrap64 (Int.tdiv a1 256))).bind fun t310 => (if (((t308 ++ (⟨#[46]⟩ : ByteArray)) ++ t309) ++ (⟨#[46]⟩ : ByteArray)).size + t310.size ≤ 9223372036854775807 then (if ((((t308 ++ (⟨#[46]⟩ : ByteArray)) ++ t309) ++ (⟨#[46]⟩ : ByteArray)) ++ t310).size + 1 ≤ 9223372036854775807 then ((turnpikelaw2_decimal.f k (Int.tmod a1 256)).bind fun t311 => (if (((((t308 ++ (⟨#[46]⟩ : ByteArray)) ++ t309) ++ (⟨#[46]⟩ : ByteArray)) ++ t310) ++ (⟨#[46]⟩ : ByteArray)).size + t311.size ≤ 9223372036854775807 then (some ((((((t308 ++ (⟨#[46]⟩ : ByteArray)) ++ t309) ++ (⟨#[46]⟩ : ByteArray)) ++ t310) ++ (⟨#[46]⟩ : ByteArray)) ++ t311)) else (none))) else (none)) else (none))) else (none)) else (none)) = some r := H
    have A5 := Aside0.mk A50
    clear A50
    by_cases c6 : (t308 ++ (⟨#[46]⟩ : ByteArray)).size + t309.size ≤ 9223372036854775807
    · rw [if_pos c6] at H
      have c6b0 := eq_true c6
      have c6b1 : decide ((t308 ++ (⟨#[46]⟩ : ByteArray)).size + t309.size ≤ 9223372036854775807) = true := decide_eq_true c6
      try have c6s : (9223372036854775807 < t308.size + 1 + t309.size) = False := eq_false (Nat.not_lt.2 (by have h_ := c6; simp only [ByteArray.size_append] at h_; exact h_))
      try have c6b2 : (9223372036854775807 < (t308 ++ (⟨#[46]⟩ : ByteArray)).size + t309.size) = False := eq_false (Nat.not_lt.2 c6)
      by_cases c7 : ((t308 ++ (⟨#[46]⟩ : ByteArray)) ++ t309).size + 1 ≤ 9223372036854775807
      · rw [if_pos c7] at H
        have c7b0 := eq_true c7
        have c7b1 : decide (((t308 ++ (⟨#[46]⟩ : ByteArray)) ++ t309).size + 1 ≤ 9223372036854775807) = true := decide_eq_true c7
        try have c7s : (9223372036854775807 < t308.size + 1 + t309.size + 1) = False := eq_false (Nat.not_lt.2 (by have h_ := c7; simp only [ByteArray.size_append] at h_; exact h_))
        try have c7b2 : (9223372036854775807 < ((t308 ++ (⟨#[46]⟩ : ByteArray)) ++ t309).size + 1) = False := eq_false (Nat.not_lt.2 c7)
        replace H := Option.bind_eq_some_iff.mp H
        obtain ⟨t310, A80, H⟩ := H
        replace H : (if (((t308 ++ (⟨#[46]⟩ : ByteArray)) ++ t309) ++ (⟨#[46]⟩ : ByteArray)).size + t310.size ≤ 9223372036854775807 then (if ((((t308 ++ (⟨#[46]⟩ : ByteArray)) ++ t309) ++ (⟨#[46]⟩ : ByteArray)) ++ t310).size + 1 ≤ 9223372036854775807 then ((turnpikelaw2_decimal.f k (Int.tmod a1 256)).bind fun t311 => (if (((((t308 ++ (⟨#[46]⟩ : ByteArray)) ++ t309) ++ (⟨#[46]⟩ : ByteArray)) ++ t310) ++ (⟨#[46]⟩ : ByteArray)).size + t311.size ≤ 9223372036854775807 then (some ((((((t308 ++ (⟨#[46]⟩ : ByteArray)) ++ t309) ++ (⟨#[46]⟩ : ByteArray)) ++ t310) ++ (⟨#[46]⟩ : ByteArray)) ++ t311)) else (none))) else (none)) else (none)) = some r := H
        have A8 := Aside0.mk A80
        clear A80
        by_cases c9 : (((t308 ++ (⟨#[46]⟩ : ByteArray)) ++ t309) ++ (⟨#[46]⟩ : ByteArray)).size + t310.size ≤ 9223372036854775807
        · rw [if_pos c9] at H
          have c9b0 := eq_true c9
          have c9b1 : decide ((((t308 ++ (⟨#[46]⟩ : ByteArray)) ++ t309) ++ (⟨#[46]⟩ : ByteArray)).size + t310.size ≤ 9223372036854775807) = true := decide_eq_true c9
          try have c9s : (9223372036854775807 < t308.size + 1 + t309.size + 1 + t310.size) = False := eq_false (Nat.not_lt.2 (by have h_ := c9; simp only [ByteArray.size_append] at h_; exact h_))
          try have c9b2 : (9223372036854775807 < (((t308 ++ (⟨#[46]⟩ : ByteArray)) ++ t309) ++ (⟨#[46]⟩ : ByteArray)).size + t310.size) = False := eq_false (Nat.not_lt.2 c9)
          by_cases c10 : ((((t308 ++ (⟨#[46]⟩ : ByteArray)) ++ t309) ++ (⟨#[46]⟩ : ByteArray)) ++ t310).size + 1 ≤ 9223372036854775807
          · rw [if_pos c10] at H
            have c10b0 := eq_true c10
            have c10b1 : decide (((((t308 ++ (⟨#[46]⟩ : ByteArray)) ++ t309) ++ (⟨#[46]⟩ : ByteArray)) ++ t310).size + 1 ≤ 9223372036854775807) = true := decide_eq_true c10
            try have c10s : (9223372036854775807 < t308.size + 1 + t309.size + 1 + t310.size + 1) = False := eq_false (Nat.not_lt.2 (by have h_ := c10; simp only [ByteArray.size_append] at h_; exact h_))
            try have c10b2 : (9223372036854775807 < ((((t308 ++ (⟨#[46]⟩ : ByteArray)) ++ t309) ++ (⟨#[46]⟩ : ByteArray)) ++ t310).size + 1) = False := eq_false (Nat.not_lt.2 c10)
            replace H := Option.bind_eq_some_iff.mp H
            obtain ⟨t311, A110, H⟩ := H
            replace H : (if (((((t308 ++ (⟨#[46]⟩ : ByteArray)) ++ t309) ++ (⟨#[46]⟩ : ByteArray)) ++ t310) ++ (⟨#[46]⟩ : ByteArray)).size + t311.size ≤ 9223372036854775807 then (some ((((((t308 ++ (⟨#[46]⟩ : ByteArray)) ++ t309) ++ (⟨#[46]⟩ : ByteArray)) ++ t310) ++ (⟨#[46]⟩ : ByteArray)) ++ t311)) else (none)) = some r := H
            have A11 := Aside0.mk A110
            clear A110
            by_cases c12 : (((((t308 ++ (⟨#[46]⟩ : ByteArray)) ++ t309) ++ (⟨#[46]⟩ : ByteArray)) ++ t310) ++ (⟨#[46]⟩ : ByteArray)).size + t311.size ≤ 9223372036854775807
            · rw [if_pos c12] at H
              have c12b0 := eq_true c12
              have c12b1 : decide ((((((t308 ++ (⟨#[46]⟩ : ByteArray)) ++ t309) ++ (⟨#[46]⟩ : ByteArray)) ++ t310) ++ (⟨#[46]⟩ : ByteArray)).size + t311.size ≤ 9223372036854775807) = true := decide_eq_true c12
              try have c12s : (9223372036854775807 < t308.size + 1 + t309.size + 1 + t310.size + 1 + t311.size) = False := eq_false (Nat.not_lt.2 (by have h_ := c12; simp only [ByteArray.size_append] at h_; exact h_))
              try have c12b2 : (9223372036854775807 < (((((t308 ++ (⟨#[46]⟩ : ByteArray)) ++ t309) ++ (⟨#[46]⟩ : ByteArray)) ++ t310) ++ (⟨#[46]⟩ : ByteArray)).size + t311.size) = False := eq_false (Nat.not_lt.2 c12)
              obtain rfl := Option.some.inj H
              go_enter Try.func16, Try.ntmps16
              go_wp2_with (first | ((with_reducible refine gate_callee (f := 18) rfl ?_); refine goesL_ (some 7) rfl rfl Try.func18 (by kernel_rfl) rfl #[.int .i64 (wrap64 (Int.tdiv a0 256))] rfl (by (try simp only [List.map_toArray, List.map_cons, List.map_nil]); first | done | rfl | (simp only [List.length_drop, List.length_take]; rfl)) ?_; (with_reducible refine (turnpikelaw2_decimal.calls k (wrap64 (Int.tdiv a0 256)) t308 _ A3.out).mono ?_); rintro e w13 ⟨rfl, hb⟩; refine ⟨_, rfl, ?_⟩; have n0_ := Aside0.mk (below_step (by repeat (first | (with_reducible first | exact HB.out | apply below_alloc | apply pw_below_drewN | apply below_drew1) | exact HB.out)) hb); clear HB; have HB := n0_; clear n0_; (try clear hb); (try clear hb2); (try clear hk); (try clear hi)) | ((with_reducible refine gate_callee (f := 18) rfl ?_); refine goesL_ (some 11) rfl rfl Try.func18 (by kernel_rfl) rfl #[.int .i64 (Int.tmod a0 256)] rfl (by (try simp only [List.map_toArray, List.map_cons, List.map_nil]); first | done | rfl | (simp only [List.length_drop, List.length_take]; rfl)) ?_; (with_reducible refine (turnpikelaw2_decimal.calls k (Int.tmod a0 256) t309 _ A5.out).mono ?_); rintro e w14 ⟨rfl, hb⟩; refine ⟨_, rfl, ?_⟩; have n0_ := Aside0.mk (below_step (by repeat (first | (with_reducible first | exact HB.out | apply below_alloc | apply pw_below_drewN | apply below_drew1) | exact HB.out)) hb); clear HB; have HB := n0_; clear n0_; (try clear hb); (try clear hb2); (try clear hk); (try clear hi)) | ((with_reducible refine gate_callee (f := 18) rfl ?_); refine goesL_ (some 16) rfl rfl Try.func18 (by kernel_rfl) rfl #[.int .i64 (wrap64 (Int.tdiv a1 256))] rfl (by (try simp only [List.map_toArray, List.map_cons, List.map_nil]); first | done | rfl | (simp only [List.length_drop, List.length_take]; rfl)) ?_; (with_reducible refine (turnpikelaw2_decimal.calls k (wrap64 (Int.tdiv a1 256)) t310 _ A8.out).mono ?_); rintro e w15 ⟨rfl, hb⟩; refine ⟨_, rfl, ?_⟩; have n0_ := Aside0.mk (below_step (by repeat (first | (with_reducible first | exact HB.out | apply below_alloc | apply pw_below_drewN | apply below_drew1) | exact HB.out)) hb); clear HB; have HB := n0_; clear n0_; (try clear hb); (try clear hb2); (try clear hk); (try clear hi)) | ((with_reducible refine gate_callee (f := 18) rfl ?_); refine goesL_ (some 21) rfl rfl Try.func18 (by kernel_rfl) rfl #[.int .i64 (Int.tmod a1 256)] rfl (by (try simp only [List.map_toArray, List.map_cons, List.map_nil]); first | done | rfl | (simp only [List.length_drop, List.length_take]; rfl)) ?_; (with_reducible refine (turnpikelaw2_decimal.calls k (Int.tmod a1 256) t311 _ A11.out).mono ?_); rintro e w16 ⟨rfl, hb⟩; refine ⟨_, rfl, ?_⟩; have n0_ := Aside0.mk (below_step (by repeat (first | (with_reducible first | exact HB.out | apply below_alloc | apply pw_below_drewN | apply below_drew1) | exact HB.out)) hb); clear HB; have HB := n0_; clear n0_; (try clear hb); (try clear hb2); (try clear hk); (try clear hi)))
              go_ret
              exact ⟨by first | rfl | (simp [errW_none, errW_some] <;> rfl) | (simp [*, errW_none, errW_some] <;> rfl), by repeat (first | (with_reducible first | exact HB.out | apply below_alloc | apply pw_below_drewN | apply below_drew1) | exact HB.out)⟩
            · rw [if_neg c12] at H
              exact absurd H (by simp)
          · rw [if_neg c10] at H
            exact absurd H (by simp)
        · rw [if_neg c9] at H
          exact absurd H (by simp)
      · rw [if_neg c7] at H
        exact absurd H (by simp)
    · rw [if_neg c6] at H
      exact absurd H (by simp)
  · rw [if_neg c4] at H
    exact absurd H (by simp)

/-! ### turnpikelaw2_digits: function 17 -/
mutual
def turnpikelaw2_digits.j0 : Nat → Int → Int → ByteArray → Option (ByteArray)
  | 0, _, _, _ => none
  | k + 1, x0, x1, x7 => turnpikelaw2_digits.l0 k x0 x1 x7 (⟨#[]⟩ : ByteArray)
def turnpikelaw2_digits.l0 : Nat → Int → Int → ByteArray → ByteArray → Option (ByteArray)
  | 0, _, _, _, _ => none
  | k + 1, x0, x1, x7, x8 => if x0 > 0 then (if 0 ≤ (Int.tmod x0 16) then (if (Int.tmod x0 16) ≤ (wrap64 ((Int.tmod x0 16) + 1)) then (if (wrap64 ((Int.tmod x0 16) + 1)) ≤ (x7.size : Int) then (if (x7.extract ((Int.tmod x0 16) : Int).toNat ((wrap64 ((Int.tmod x0 16) + 1)) : Int).toNat).size + x8.size ≤ 9223372036854775807 then (turnpikelaw2_digits.l0 k (wrap64 (Int.tdiv x0 16)) x1 x7 ((x7.extract ((Int.tmod x0 16) : Int).toNat ((wrap64 ((Int.tmod x0 16) + 1)) : Int).toNat) ++ x8)) else (none)) else (none)) else (none)) else (none)) else (if (x8.size : Int) < x1 then (if 0 ≤ (Int.tmod x0 16) then (if (Int.tmod x0 16) ≤ (wrap64 ((Int.tmod x0 16) + 1)) then (if (wrap64 ((Int.tmod x0 16) + 1)) ≤ (x7.size : Int) then (if (x7.extract ((Int.tmod x0 16) : Int).toNat ((wrap64 ((Int.tmod x0 16) + 1)) : Int).toNat).size + x8.size ≤ 9223372036854775807 then (turnpikelaw2_digits.l0 k (wrap64 (Int.tdiv x0 16)) x1 x7 ((x7.extract ((Int.tmod x0 16) : Int).toNat ((wrap64 ((Int.tmod x0 16) + 1)) : Int).toNat) ++ x8)) else (none)) else (none)) else (none)) else (none)) else (if x8.toList = ([] : List UInt8) then (if 0 ≤ (Int.tmod x0 16) then (if (Int.tmod x0 16) ≤ (wrap64 ((Int.tmod x0 16) + 1)) then (if (wrap64 ((Int.tmod x0 16) + 1)) ≤ (x7.size : Int) then (if (x7.extract ((Int.tmod x0 16) : Int).toNat ((wrap64 ((Int.tmod x0 16) + 1)) : Int).toNat).size + x8.size ≤ 9223372036854775807 then (turnpikelaw2_digits.l0 k (wrap64 (Int.tdiv x0 16)) x1 x7 ((x7.extract ((Int.tmod x0 16) : Int).toNat ((wrap64 ((Int.tmod x0 16) + 1)) : Int).toNat) ++ x8)) else (none)) else (none)) else (none)) else (none)) else (some x8)))
end
def turnpikelaw2_digits.f (k : Nat) (a0 : Int) (a1 : Int) (a2 : Bool) : Option (ByteArray) := if a2 = true then (turnpikelaw2_digits.j0 k a0 a1 (⟨#[48, 49, 50, 51, 52, 53, 54, 55, 56, 57, 65, 66, 67, 68, 69, 70]⟩ : ByteArray)) else (turnpikelaw2_digits.j0 k a0 a1 (⟨#[48, 49, 50, 51, 52, 53, 54, 55, 56, 57, 97, 98, 99, 100, 101, 102]⟩ : ByteArray))
theorem turnpikelaw2_digits.mono_l : ∀ k, (∀ y0 y1 y2, LeO (turnpikelaw2_digits.j0 k y0 y1 y2) (turnpikelaw2_digits.j0 (k + 1) y0 y1 y2)) ∧ (∀ y0 y1 y2 y3, LeO (turnpikelaw2_digits.l0 k y0 y1 y2 y3) (turnpikelaw2_digits.l0 (k + 1) y0 y1 y2 y3))
  | 0 => ⟨fun _ _ _ r h => by simp [turnpikelaw2_digits.j0] at h, fun _ _ _ _ r h => by simp [turnpikelaw2_digits.l0] at h⟩
  | k + 1 => by
    obtain ⟨ih0, ih1⟩ := turnpikelaw2_digits.mono_l k
    refine ⟨?_, ?_⟩
    · intro y0 y1 y2
      unfold turnpikelaw2_digits.j0
      repeat' first
      | (with_reducible exact ih0 _ _ _)
      | (with_reducible exact ih1 _ _ _ _)
      | (with_reducible exact LeO.refl _)
      | (with_reducible exact LeO.none _)
      | (with_reducible refine LeO.ite ?_ ?_)
      | (with_reducible refine LeO.bind ?_ (fun _ => ?_))
      | exact ih0 _ _ _
      | exact ih1 _ _ _ _
      | exact LeO.none _
      | refine LeO.ite ?_ ?_
      | refine LeO.bind ?_ (fun _ => ?_)
    · intro y0 y1 y2 y3
      unfold turnpikelaw2_digits.l0
      repeat' first
      | (with_reducible exact ih0 _ _ _)
      | (with_reducible exact ih1 _ _ _ _)
      | (with_reducible exact LeO.refl _)
      | (with_reducible exact LeO.none _)
      | (with_reducible refine LeO.ite ?_ ?_)
      | (with_reducible refine LeO.bind ?_ (fun _ => ?_))
      | exact ih0 _ _ _
      | exact ih1 _ _ _ _
      | exact LeO.none _
      | refine LeO.ite ?_ ?_
      | refine LeO.bind ?_ (fun _ => ?_)
theorem turnpikelaw2_digits.mono : ∀ a0 a1 a2 k, LeO (turnpikelaw2_digits.f k a0 a1 a2) (turnpikelaw2_digits.f (k + 1) a0 a1 a2) := by
  intro a0 a1 a2 k
  obtain ⟨ih0, ih1⟩ := turnpikelaw2_digits.mono_l k
  unfold turnpikelaw2_digits.f
  repeat' first
      | (with_reducible exact ih0 _ _ _)
      | (with_reducible exact ih1 _ _ _ _)
      | (with_reducible exact LeO.refl _)
      | (with_reducible exact LeO.none _)
      | (with_reducible refine LeO.ite ?_ ?_)
      | (with_reducible refine LeO.bind ?_ (fun _ => ?_))
      | exact ih0 _ _ _
      | exact ih1 _ _ _ _
      | exact LeO.none _
      | refine LeO.ite ?_ ?_
      | refine LeO.bind ?_ (fun _ => ?_)
set_option maxHeartbeats 8000000 in
set_option maxRecDepth 100000 in
theorem turnpikelaw2_digits.calls (k : Nat) (a0 : Int) (a1 : Int) (a2 : Bool) (r : ByteArray) (w : World) (h : turnpikelaw2_digits.f k a0 a1 a2 = some r) :
    Calls Try.prog 17 #[.int .i64 a0, .int .i64 a1, .bool a2] w fun e w' => e = .returned (.string r) ∧ Drawn0 w w' := by
  have H : (if a2 = true then (turnpikelaw2_digits.j0 k a0 a1 (⟨#[48, 49, 50, 51, 52, 53, 54, 55, 56, 57, 65, 66, 67, 68, 69, 70]⟩ : ByteArray)) else (turnpikelaw2_digits.j0 k a0 a1 (⟨#[48, 49, 50, 51, 52, 53, 54, 55, 56, 57, 97, 98, 99, 100, 101, 102]⟩ : ByteArray))) = some r := h
  clear h
  have HC4 := Aside0.mk H
  clear H
  go_enter Try.func17, Try.ntmps17
  go_upto_if 9 with (fail)
  go_cut [7] (fun v7 wc => ∃ (kq : Nat) (x7_3 : ByteArray), v7 = .string x7_3 ∧ Aside0 (turnpikelaw2_digits.j0 kq a0 a1 x7_3 = some r) ∧ Aside0 (kq ≤ k) ∧ Drawn0 w wc)
  case first =>
    have H := HC4.out
    clear HC4
    by_cases c5 : a2 = true
    · subst c5
      have H1 : (turnpikelaw2_digits.j0 k a0 a1 (⟨#[48, 49, 50, 51, 52, 53, 54, 55, 56, 57, 65, 66, 67, 68, 69, 70]⟩ : ByteArray)) = some r := by rw [if_pos rfl] at H; exact H
      clear H
      have H := H1
      clear H1
      have H' := Aside0.mk H
      clear H
      go_wp2
      go_meet
      case rel => exact ⟨_, ((⟨#[48, 49, 50, 51, 52, 53, 54, 55, 56, 57, 65, 66, 67, 68, 69, 70]⟩ : ByteArray)), (by first | rfl | (simp; done) | (simp [*]; done) | exact congrArg Value.bool (isEmpty_bne _)), H', ⟨by first | omega | exact Nat.le_refl _⟩, by repeat (first | exact Drawn0.refl _ | apply Drawn0.step)⟩
    · replace c5 := Bool.eq_false_iff.mpr c5
      subst c5
      have H1 : (turnpikelaw2_digits.j0 k a0 a1 (⟨#[48, 49, 50, 51, 52, 53, 54, 55, 56, 57, 97, 98, 99, 100, 101, 102]⟩ : ByteArray)) = some r := by rw [if_neg (show ¬ (false = true) by decide)] at H; exact H
      clear H
      have H := H1
      clear H1
      have H' := Aside0.mk H
      clear H
      go_wp2
      go_meet
      case rel => exact ⟨_, ((⟨#[48, 49, 50, 51, 52, 53, 54, 55, 56, 57, 97, 98, 99, 100, 101, 102]⟩ : ByteArray)), (by first | rfl | (simp; done) | (simp [*]; done) | exact congrArg Value.bool (isEmpty_bne _)), H', ⟨by first | omega | exact Nat.le_refl _⟩, by repeat (first | exact Drawn0.refl _ | apply Drawn0.step)⟩
  case rest =>
    clear HC4
    try clear c1
    try clear p2
    try clear c5
    obtain ⟨kq, x7_3, rfl, HA, HJ3, ⟨mc3, rfl⟩⟩ := hcut
    cases kq with
    | zero => exact absurd HA.out (by simp [turnpikelaw2_digits.j0])
    | succ kj3 =>
      have H := HA.out
      clear HA
      simp only [turnpikelaw2_digits.j0] at H
      have H' := Aside0.mk H
      clear H
      go_wp2
      go_loopg [0, 8] kj3 (fun kq v0 v8 w' => ∃ (x0_2 : Int) (x8_2 : ByteArray), v0 = .int .i64 x0_2 ∧ v8 = .string x8_2 ∧ Aside0 (turnpikelaw2_digits.l0 kq x0_2 a1 x7_3 x8_2 = some r) ∧ Aside0 (kq ≤ kj3) ∧ Drawn0 w w')
      case atStart => exact ⟨(a0), ((⟨#[]⟩ : ByteArray)), (by first | rfl | (simp; done) | (simp [*]; done) | exact congrArg Value.bool (isEmpty_bne _)), (by first | rfl | (simp; done) | (simp [*]; done) | exact congrArg Value.bool (isEmpty_bne _)), H', ⟨Nat.le_refl _⟩, by repeat (first | exact Drawn0.refl _ | apply Drawn0.step)⟩
      case round =>
        clear H'
        try clear c1
        try clear p2
        try clear c3
        try clear c5
        try clear p2
        obtain ⟨x0_2, x8_2, rfl, rfl, HA, HK2, ⟨m2, rfl⟩⟩ := hrel
        cases gk with
        | zero => exact absurd HA.out (by simp [turnpikelaw2_digits.l0])
        | succ k2 =>
          have H := HA.out
          clear HA
          simp only [turnpikelaw2_digits.l0] at H
          by_cases c6 : x0_2 > 0
          · rw [if_pos c6] at H
            have c6b0 : decide (0 < x0_2) = true := decide_eq_true c6
            clear c6
            obtain ⟨ji7, hji7⟩ : ∃ j_ : Int, (Int.tmod x0_2 16) = j_ := ⟨_, rfl⟩
            replace H : (if 0 ≤ (ji7) then (if (ji7) ≤ (wrap64 ((ji7) + 1)) then (if (wrap64 ((ji7) + 1)) ≤ (x7_3.size : Int) then (if (x7_3.extract ((ji7) : Int).toNat ((wrap64 ((ji7) + 1)) : Int).toNat).size + x8_2.size ≤ 9223372036854775807 then (turnpikelaw2_digits.l0 k2 (wrap64 (Int.tdiv x0_2 16)) a1 x7_3 ((x7_3.extract ((ji7) : Int).toNat ((wrap64 ((ji7) + 1)) : Int).toNat) ++ x8_2)) else (none)) else (none)) else (none)) else (none)) = some r := by first | (rw [hji7] at H; exact H) | (simp only [hji7] at H ⊢; exact H)
            by_cases c8 : 0 ≤ (ji7)
            · rw [if_pos c8] at H
              have c8b0 := eq_true c8
              have c8b1 : decide (0 ≤ (ji7)) = true := decide_eq_true c8
              clear c8
              by_cases c9 : (ji7) ≤ (wrap64 ((ji7) + 1))
              · rw [if_pos c9] at H
                have c9b0 := eq_true c9
                have c9b1 : decide ((ji7) ≤ (wrap64 ((ji7) + 1))) = true := decide_eq_true c9
                by_cases c10 : (wrap64 ((ji7) + 1)) ≤ (x7_3.size : Int)
                · rw [if_pos c10] at H
                  have c10b0 := eq_true c10
                  have c10b1 : decide ((wrap64 ((ji7) + 1)) ≤ (x7_3.size : Int)) = true := decide_eq_true c10
                  by_cases c11 : (x7_3.extract ((ji7) : Int).toNat ((wrap64 ((ji7) + 1)) : Int).toNat).size + x8_2.size ≤ 9223372036854775807
                  · rw [if_pos c11] at H
                    have c11b0 := eq_true c11
                    have c11b1 : decide ((x7_3.extract ((ji7) : Int).toNat ((wrap64 ((ji7) + 1)) : Int).toNat).size + x8_2.size ≤ 9223372036854775807) = true := decide_eq_true c11
                    try have c11b2 : (9223372036854775807 < (x7_3.extract ((ji7) : Int).toNat ((wrap64 ((ji7) + 1)) : Int).toNat).size + x8_2.size) = False := eq_false (Nat.not_lt.2 c11)
                    have H' := Aside0.mk H
                    clear H
                    go_wp2
                    go_roundg k2
                    case measure => have := HJ3.out; have := HK2.out; omega
                    case rel => exact ⟨(wrap64 (Int.tdiv x0_2 16)), ((x7_3.extract ((ji7) : Int).toNat ((wrap64 ((ji7) + 1)) : Int).toNat) ++ x8_2), (by first | rfl | (simp; done) | (simp [*]; done) | exact congrArg Value.bool (isEmpty_bne _)), (by first | rfl | (simp; done) | (simp only [← hji7] <;> (first | rfl | simp)) | (simp [*]; done)), H', ⟨by have := HJ3.out; have := HK2.out; omega⟩, by repeat (first | exact Drawn0.refl _ | apply Drawn0.step)⟩
                  · rw [if_neg c11] at H
                    exact absurd H (by simp)
                · rw [if_neg c10] at H
                  exact absurd H (by simp)
              · rw [if_neg c9] at H
                exact absurd H (by simp)
            · rw [if_neg c8] at H
              exact absurd H (by simp)
          · rw [if_neg c6] at H
            have c6b0 : decide (0 < x0_2) = false := decide_eq_false c6
            clear c6
            by_cases c12 : (x8_2.size : Int) < a1
            · rw [if_pos c12] at H
              have c12b0 : decide ((x8_2.size : Int) < a1) = true := decide_eq_true c12
              clear c12
              obtain ⟨ji13, hji13⟩ : ∃ j_ : Int, (Int.tmod x0_2 16) = j_ := ⟨_, rfl⟩
              replace H : (if 0 ≤ (ji13) then (if (ji13) ≤ (wrap64 ((ji13) + 1)) then (if (wrap64 ((ji13) + 1)) ≤ (x7_3.size : Int) then (if (x7_3.extract ((ji13) : Int).toNat ((wrap64 ((ji13) + 1)) : Int).toNat).size + x8_2.size ≤ 9223372036854775807 then (turnpikelaw2_digits.l0 k2 (wrap64 (Int.tdiv x0_2 16)) a1 x7_3 ((x7_3.extract ((ji13) : Int).toNat ((wrap64 ((ji13) + 1)) : Int).toNat) ++ x8_2)) else (none)) else (none)) else (none)) else (none)) = some r := by first | (rw [hji13] at H; exact H) | (simp only [hji13] at H ⊢; exact H)
              by_cases c14 : 0 ≤ (ji13)
              · rw [if_pos c14] at H
                have c14b0 := eq_true c14
                have c14b1 : decide (0 ≤ (ji13)) = true := decide_eq_true c14
                clear c14
                by_cases c15 : (ji13) ≤ (wrap64 ((ji13) + 1))
                · rw [if_pos c15] at H
                  have c15b0 := eq_true c15
                  have c15b1 : decide ((ji13) ≤ (wrap64 ((ji13) + 1))) = true := decide_eq_true c15
                  by_cases c16 : (wrap64 ((ji13) + 1)) ≤ (x7_3.size : Int)
                  · rw [if_pos c16] at H
                    have c16b0 := eq_true c16
                    have c16b1 : decide ((wrap64 ((ji13) + 1)) ≤ (x7_3.size : Int)) = true := decide_eq_true c16
                    by_cases c17 : (x7_3.extract ((ji13) : Int).toNat ((wrap64 ((ji13) + 1)) : Int).toNat).size + x8_2.size ≤ 9223372036854775807
                    · rw [if_pos c17] at H
                      have c17b0 := eq_true c17
                      have c17b1 : decide ((x7_3.extract ((ji13) : Int).toNat ((wrap64 ((ji13) + 1)) : Int).toNat).size + x8_2.size ≤ 9223372036854775807) = true := decide_eq_true c17
                      try have c17b2 : (9223372036854775807 < (x7_3.extract ((ji13) : Int).toNat ((wrap64 ((ji13) + 1)) : Int).toNat).size + x8_2.size) = False := eq_false (Nat.not_lt.2 c17)
                      have H' := Aside0.mk H
                      clear H
                      go_wp2
                      go_roundg k2
                      case measure => have := HJ3.out; have := HK2.out; omega
                      case rel => exact ⟨(wrap64 (Int.tdiv x0_2 16)), ((x7_3.extract ((ji13) : Int).toNat ((wrap64 ((ji13) + 1)) : Int).toNat) ++ x8_2), (by first | rfl | (simp; done) | (simp [*]; done) | exact congrArg Value.bool (isEmpty_bne _)), (by first | rfl | (simp; done) | (simp only [← hji13] <;> (first | rfl | simp)) | (simp [*]; done)), H', ⟨by have := HJ3.out; have := HK2.out; omega⟩, by repeat (first | exact Drawn0.refl _ | apply Drawn0.step)⟩
                    · rw [if_neg c17] at H
                      exact absurd H (by simp)
                  · rw [if_neg c16] at H
                    exact absurd H (by simp)
                · rw [if_neg c15] at H
                  exact absurd H (by simp)
              · rw [if_neg c14] at H
                exact absurd H (by simp)
            · rw [if_neg c12] at H
              have c12b0 : decide ((x8_2.size : Int) < a1) = false := decide_eq_false c12
              clear c12
              by_cases c18 : x8_2.toList = ([] : List UInt8)
              · rw [if_pos c18] at H
                have c18b0 : (x8_2.toList == ([] : List UInt8)) = true := beq_iff_eq.mpr c18
                have c18b1 : (x8_2.toList != ([] : List UInt8)) = false := bne_eq_false_iff_eq.mpr c18
                clear c18
                obtain ⟨ji19, hji19⟩ : ∃ j_ : Int, (Int.tmod x0_2 16) = j_ := ⟨_, rfl⟩
                replace H : (if 0 ≤ (ji19) then (if (ji19) ≤ (wrap64 ((ji19) + 1)) then (if (wrap64 ((ji19) + 1)) ≤ (x7_3.size : Int) then (if (x7_3.extract ((ji19) : Int).toNat ((wrap64 ((ji19) + 1)) : Int).toNat).size + x8_2.size ≤ 9223372036854775807 then (turnpikelaw2_digits.l0 k2 (wrap64 (Int.tdiv x0_2 16)) a1 x7_3 ((x7_3.extract ((ji19) : Int).toNat ((wrap64 ((ji19) + 1)) : Int).toNat) ++ x8_2)) else (none)) else (none)) else (none)) else (none)) = some r := by first | (rw [hji19] at H; exact H) | (simp only [hji19] at H ⊢; exact H)
                by_cases c20 : 0 ≤ (ji19)
                · rw [if_pos c20] at H
                  have c20b0 := eq_true c20
                  have c20b1 : decide (0 ≤ (ji19)) = true := decide_eq_true c20
                  clear c20
                  by_cases c21 : (ji19) ≤ (wrap64 ((ji19) + 1))
                  · rw [if_pos c21] at H
                    have c21b0 := eq_true c21
                    have c21b1 : decide ((ji19) ≤ (wrap64 ((ji19) + 1))) = true := decide_eq_true c21
                    by_cases c22 : (wrap64 ((ji19) + 1)) ≤ (x7_3.size : Int)
                    · rw [if_pos c22] at H
                      have c22b0 := eq_true c22
                      have c22b1 : decide ((wrap64 ((ji19) + 1)) ≤ (x7_3.size : Int)) = true := decide_eq_true c22
                      by_cases c23 : (x7_3.extract ((ji19) : Int).toNat ((wrap64 ((ji19) + 1)) : Int).toNat).size + x8_2.size ≤ 9223372036854775807
                      · rw [if_pos c23] at H
                        have c23b0 := eq_true c23
                        have c23b1 : decide ((x7_3.extract ((ji19) : Int).toNat ((wrap64 ((ji19) + 1)) : Int).toNat).size + x8_2.size ≤ 9223372036854775807) = true := decide_eq_true c23
                        try have c23b2 : (9223372036854775807 < (x7_3.extract ((ji19) : Int).toNat ((wrap64 ((ji19) + 1)) : Int).toNat).size + x8_2.size) = False := eq_false (Nat.not_lt.2 c23)
                        have H' := Aside0.mk H
                        clear H
                        go_wp2
                        go_roundg k2
                        case measure => have := HJ3.out; have := HK2.out; omega
                        case rel => exact ⟨(wrap64 (Int.tdiv x0_2 16)), ((x7_3.extract ((ji19) : Int).toNat ((wrap64 ((ji19) + 1)) : Int).toNat) ++ x8_2), (by first | rfl | (simp; done) | (simp [*]; done) | exact congrArg Value.bool (isEmpty_bne _)), (by first | rfl | (simp; done) | (simp only [← hji19] <;> (first | rfl | simp)) | (simp [*]; done)), H', ⟨by have := HJ3.out; have := HK2.out; omega⟩, by repeat (first | exact Drawn0.refl _ | apply Drawn0.step)⟩
                      · rw [if_neg c23] at H
                        exact absurd H (by simp)
                    · rw [if_neg c22] at H
                      exact absurd H (by simp)
                  · rw [if_neg c21] at H
                    exact absurd H (by simp)
                · rw [if_neg c20] at H
                  exact absurd H (by simp)
              · rw [if_neg c18] at H
                have c18b0 : (x8_2.toList == ([] : List UInt8)) = false := beq_eq_false_iff_ne.mpr c18
                have c18b1 : (x8_2.toList != ([] : List UInt8)) = true := bne_iff_ne.mpr c18
                obtain rfl := Option.some.inj H
                go_wp2
                go_ret
                exact ⟨by first | rfl | (simp; done) | (simp [*]; done), by repeat (first | exact Drawn0.refl _ | apply Drawn0.step)⟩

end Go.Proofs.Ytamiaaeaehdahaa.X
