/- So many steps on from any address, and as many back: each is above the one ahead, and the first is come to again. -/
import Derived.Test.YtamiaaeaehdahaaLw
import Derived.Test.YtamiaaeaehdahaaX13
import Derived.Test.YtamiaaeaehdahaaX23
namespace Go.Proofs.Ytamiaaeaehdahaa.Pure
open Go.RowKit Go.Proofs.Ytamiaaeaehdahaa.X Go.Proofs.YtamiaaeaehdahaaW.PrintWords Go.Proofs.Ytamiaaeaehdahaa.Th
set_option linter.unusedVariables false
set_option linter.unusedSimpArgs false

theorem and_low (x k : Nat) (hk : k ≤ 128) (hx : x < 2 ^ 128) : x &&& nt (mk (128 - k)) = x % 2 ^ k := by
  apply Nat.eq_of_testBit_eq
  intro i
  rw [Nat.testBit_and, nt_bit (mk_lt _), mk_bit, Nat.testBit_mod_two_pow]
  by_cases h : i < 128
  · by_cases h2 : i < k
    · simp [h, h2, show ¬ 128 ≤ i + (128 - k) by omega]
    · simp [h, h2, show 128 ≤ i + (128 - k) by omega]
  · simp [h, show ¬ i < k by omega]
theorem right_mod {f : Int} (hf : fam f = true) {x : Nat} (hx : x < 2 ^ 128) : rightV f x = if x % unitV f = 0 then 0 else 6 := by
  unfold rightV unitV
  rw [if_pos hf]
  have : f.toNat ≤ 128 := by rcases fam_cases hf with e | e <;> (subst e; decide)
  have h := and_low x (128 - f.toNat) (by omega) hx
  rw [show 128 - (128 - f.toNat) = f.toNat by omega] at h
  rw [h]
/-- numbers of a family: multiples of its unit below 2^128 -/
theorem unit_mul {f : Int} (hf : fam f = true) : unitV f * 2 ^ f.toNat = 2 ^ 128 ∧ 0 < unitV f := by
  rcases fam_cases hf with e | e <;> (subst e; decide)
theorem mk_last {f : Int} (hf : fam f = true) : mk f.toNat = 2 ^ 128 - unitV f := by
  rcases fam_cases hf with e | e <;> (subst e; decide)
theorem mod_and {f : Int} (hf : fam f = true) {w : Nat} (hw : w < 2 ^ 128) : (w &&& mk f.toNat) % unitV f = 0 := by
  have h := and_low (w &&& mk f.toNat) (128 - f.toNat) (by omega) (Nat.lt_of_le_of_lt Nat.and_le_left hw)
  have h128 : f.toNat ≤ 128 := by rcases fam_cases hf with e | e <;> (subst e; decide)
  rw [show 128 - (128 - f.toNat) = f.toNat by omega] at h
  unfold unitV
  rw [← h]
  apply Nat.eq_of_testBit_eq
  intro i
  rw [Nat.testBit_and, Nat.testBit_and, nt_bit (mk_lt _)]
  cases w.testBit i <;> cases (mk f.toNat).testBit i <;> simp
theorem walk_l1 (f : Int) (hf : fam f = true) (w n : Nat) (hn : n ≤ 300) (hw : w % unitV f = 0) (hlt : w + n * unitV f < 2 ^ 128) : ∀ (d i x : Nat), i + d = n → x = w + d * unitV f →
    Ev (fun k => turnpikelaw2_AddrWalk.l1 k f (n : Int) (i : Int) (hi w) (lo w) (hi x) (lo x)) true
  | 0, i, x, hd, hx => by
    subst hx
    rw [Nat.zero_mul, Nat.add_zero]
    have hw' : w < 2 ^ 128 := by omega
    have e0 : prevV f 0 = (0, 0, false) := by unfold prevV; rw [if_neg (fun h => h.2 rfl)]
    have hp := pprev f 0 (by decide)
    rw [e0, hi0z, lo0z] at hp
    have hm := rmask f.toNat
    rw [fam_nat hf] at hm
    refine Ev.step (fun k => turnpikelaw2_AddrWalk.l1.eq_2 _ _ _ _ _ _ _ _) ?_
    simp only [if_neg (show ¬ (i : Int) < (n : Int) by omega)]
    refine Ev.bind hp (Ev.bind (plast f) ?_)
    unfold lastV
    simp only [if_pos hf, beq_self_eq_true, Bool.and_self, if_true, Bool.false_eq_true, if_false]
    refine Ev.bind hm ?_
    simp only [beq_self_eq_true, Bool.and_self]
    exact Ev.now _
  | d + 1, i, x, hd, hx => by
    have hU := (unit_mul hf).2
    have hle : (d + 1) * unitV f ≤ n * unitV f := Nat.mul_le_mul_right _ (by omega)
    have hsucc : (d + 1) * unitV f = d * unitV f + unitV f := Nat.succ_mul ..
    have hx' : x < 2 ^ 128 := by omega
    have hmod : x % unitV f = 0 := by rw [hx, Nat.add_mul_mod_self_right]; exact hw
    have e : prevV f x = (hi (w + d * unitV f), lo (w + d * unitV f), true) := by
      unfold prevV
      rw [right_mod hf hx', if_pos hmod, if_pos ⟨rfl, by omega⟩]
      have : sb x (unitV f) = w + d * unitV f := by
        unfold sb
        rw [show x + 2 ^ 128 - unitV f = (w + d * unitV f) + 2 ^ 128 by omega, Nat.add_mod_right, Nat.mod_eq_of_lt (by omega)]
      rw [this]
    have hp := pprev f x hx'
    rw [e] at hp
    refine Ev.step (fun k => turnpikelaw2_AddrWalk.l1.eq_2 _ _ _ _ _ _ _ _) ?_
    simp only [if_pos (show (i : Int) < (n : Int) by omega)]
    refine Ev.bind hp ?_
    simp only [if_true, wr1 (show i ≤ 1000000000 by omega)]
    exact walk_l1 f hf w n hn hw hlt d (i + 1) _ (by omega) rfl
theorem walk_j1 (f : Int) (hf : fam f = true) (w n : Nat) (hn : n ≤ 300) (hw : w % unitV f = 0) (hlt : w + n * unitV f < 2 ^ 128) :
    Ev (fun k => turnpikelaw2_AddrWalk.j1 k f (n : Int) (hi w) (lo w) (hi (w + n * unitV f)) (lo (w + n * unitV f))) true := by
  refine Ev.step (fun k => turnpikelaw2_AddrWalk.j1.eq_2 _ _ _ _ _ _ _) ?_
  exact walk_l1 f hf w n hn hw hlt n 0 _ (by omega) rfl
theorem walk_l0 (f : Int) (hf : fam f = true) (w n : Nat) (hn : n ≤ 300) (hw : w % unitV f = 0) (hw' : w < 2 ^ 128) : ∀ (d i : Nat), i + d = n → w + i * unitV f < 2 ^ 128 →
    Ev (fun k => turnpikelaw2_AddrWalk.l0 k (n : Int) f (i : Int) (hi w) (lo w) (hi (w + i * unitV f)) (lo (w + i * unitV f))) true
  | 0, i, hd, hlt => by
    refine Ev.step (fun k => turnpikelaw2_AddrWalk.l0.eq_2 _ _ _ _ _ _ _ _) ?_
    simp only [if_neg (show ¬ (i : Int) < (n : Int) by omega)]
    obtain rfl : i = n := by omega
    exact walk_j1 f hf w i hn hw hlt
  | d + 1, i, hd, hlt => by
    obtain ⟨hmul, hU⟩ := unit_mul hf
    have hlast := mk_last hf
    have hmod : (w + i * unitV f) % unitV f = 0 := by rw [Nat.add_mul_mod_self_right]; exact hw
    have hn' := pnext f (w + i * unitV f) hlt
    refine Ev.step (fun k => turnpikelaw2_AddrWalk.l0.eq_2 _ _ _ _ _ _ _ _) ?_
    simp only [if_pos (show (i : Int) < (n : Int) by omega)]
    by_cases he : w + i * unitV f = mk f.toNat
    · have e : nextV f (w + i * unitV f) = (0, 0, false) := by unfold nextV; rw [if_neg (fun h => h.2 he)]
      rw [e] at hn'
      refine Ev.bind hn' ?_
      have hm := rmask f.toNat
      rw [fam_nat hf] at hm
      simp only [Bool.false_eq_true, if_false]
      refine Ev.bind hm ?_
      simp only [ne_iff, he, ne_eq, not_true_eq_false, decide_false, Bool.false_eq_true, if_false]
      have := walk_j1 f hf w i (by omega) hw hlt
      rw [he] at this
      exact this
    · have hle : w + i * unitV f + unitV f ≤ mk f.toNat := by
        -- both are multiples of the unit
        have h1 : w + i * unitV f = unitV f * ((w + i * unitV f) / unitV f) := (Nat.mul_div_cancel' (Nat.dvd_of_mod_eq_zero hmod)).symm
        have h2 : mk f.toNat = unitV f * (2 ^ f.toNat - 1) := by rw [hlast, Nat.mul_sub, hmul, Nat.mul_one]
        have h3 : (w + i * unitV f) / unitV f < 2 ^ f.toNat := by
          rw [Nat.div_lt_iff_lt_mul hU, Nat.mul_comm (2 ^ f.toNat), hmul]; exact hlt
        have h4 : (w + i * unitV f) / unitV f ≠ 2 ^ f.toNat - 1 := by
          intro h; apply he; rw [h1, h2, h]
        rw [h1, h2, ← Nat.mul_succ]
        exact Nat.mul_le_mul_left _ (by omega)
      have hmk := mk_lt f.toNat
      have had : ad (w + i * unitV f) (unitV f) = w + (i + 1) * unitV f := by
        unfold ad
        rw [Nat.mod_eq_of_lt (by omega), Nat.succ_mul]; omega
      have e : nextV f (w + i * unitV f) = (hi (w + (i + 1) * unitV f), lo (w + (i + 1) * unitV f), true) := by
        unfold nextV
        rw [right_mod hf hlt, if_pos hmod, if_pos ⟨rfl, he⟩, had]
      rw [e] at hn'
      have hlt' : w + (i + 1) * unitV f < 2 ^ 128 := by rw [Nat.succ_mul]; omega
      have hsb : sb (w + (i + 1) * unitV f) (w + i * unitV f) = unitV f := by
        unfold sb
        have hu := unit_lt f hf
        rw [Nat.succ_mul, show w + (i * unitV f + unitV f) + 2 ^ 128 - (w + i * unitV f) = unitV f + 2 ^ 128 by omega, Nat.add_mod_right, Nat.mod_eq_of_lt hu]
      have hc : cmpV (w + i * unitV f) (w + (i + 1) * unitV f) = -1 := by
        unfold cmpV; rw [if_pos (by rw [Nat.succ_mul]; omega)]
      have hs := rsub _ _ hlt' hlt
      rw [hsb] at hs
      have hcm := rcmp _ _ hlt hlt'
      rw [hc] at hcm
      refine Ev.bind hn' ?_
      simp only [if_true]
      refine Ev.bind hs (Ev.bind hcm ?_)
      simp only [if_neg (show ¬ (-1 : Int) ≥ 0 by decide)]
      refine Ev.bind (ev_eq (rput_unit f hf)) ?_
      simp only [ne_iff, ne_eq, not_true_eq_false, decide_false, Bool.false_eq_true, if_false, wr1 (show i ≤ 1000000000 by omega)]
      exact walk_l0 f hf w n hn hw hw' d (i + 1) (by omega) hlt'
theorem lwithin300 (a n : Int) (h1 : 0 < n) (h2 : n ≤ 1048600) : ∃ m : Nat, (m : Int) < n ∧ turnpikelaw2_within.f a n = some (m : Int) := by
  unfold turnpikelaw2_within.f
  rw [if_neg (by omega)]
  have hlo := Int.tmod_lt_of_pos a h1
  have hneg : -n < Int.tmod a n := by
    have := Int.lt_tmod_of_pos a h1
    omega
  by_cases h : Int.tmod a n < 0
  · rw [if_pos h]
    refine ⟨(Int.tmod a n + n).toNat, by omega, ?_⟩
    rw [w64 (by omega) (by omega)]
    congr 1; omega
  · rw [if_neg h]
    exact ⟨(Int.tmod a n).toNat, by omega, by congr 1; omega⟩
theorem family_f (six : Bool) : ∃ f, fam f = true ∧ turnpikelaw2_family.f six = some f := by
  cases six
  · exact ⟨32, rfl, rfl⟩
  · exact ⟨128, rfl, rfl⟩
theorem AddrWalk : turnpikelaw2_AddrWalk.Pure := by
  intro a0 a1_0 a1_1 a2 h1 h2 _
  obtain ⟨v, hv, rfl, rfl⟩ := as_word h1 h2
  obtain ⟨f, hf, ef⟩ := family_f a0
  obtain ⟨n, hn, en⟩ := lwithin300 a2 300 (by decide) (by decide)
  refine Ev.rounds ?_
  unfold turnpikelaw2_AddrWalk.f
  have hm := rmask f.toNat
  rw [fam_nat hf] at hm
  refine Ev.bind known_f ?_
  simp only [if_true]
  refine Ev.bind (ev_eq ef) (Ev.bind hm (Ev.bind (ev_eq (rand_ v _ hv (mk_lt _))) (Ev.bind (ev_eq en) ?_)))
  have hw' : v &&& mk f.toNat < 2 ^ 128 := Nat.lt_of_le_of_lt Nat.and_le_left hv
  have := walk_l0 f hf (v &&& mk f.toNat) n (by omega) (mod_and hf hv) hw' n 0 (by omega) (by omega)
  rw [Nat.zero_mul, Nat.add_zero] at this
  exact this
end Go.Proofs.Ytamiaaeaehdahaa.Pure
