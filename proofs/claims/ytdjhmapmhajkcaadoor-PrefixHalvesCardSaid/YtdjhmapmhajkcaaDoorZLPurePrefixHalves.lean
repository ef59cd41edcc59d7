/- The halves of a right prefix. -/
import Derived.Test.YtdjhmapmhajkcaaDoorZLIv
import Derived.Test.YtdjhmapmhajkcaaDoorZLKp
import Derived.Test.YtdjhmapmhajkcaaDoorZLLs
import Derived.Test.YtdjhmapmhajkcaaDoorZLPurePrefixKin
import Derived.Test.YtdjhmapmhajkcaaDoorZLX6
import Derived.Test.YtdjhmapmhajkcaaDoorZLX14
import Derived.Test.YtdjhmapmhajkcaaDoorZLX22
namespace Go.Proofs.YtdjhmapmhajkcaaDoor.Pure
open Go.RowKit Go.Proofs.YtdjhmapmhajkcaaDoor.X Go.Proofs.YtdjhmapmhajkcaaDoorW.PrintWords Go.Proofs.YtdjhmapmhajkcaaDoor.Th
set_option linter.unusedVariables false
set_option linter.unusedSimpArgs false
theorem firstp (w : Nat) (n : Int) : prefix_First.f (hi w) (lo w) n = some (hi w, lo w) := rfl
theorem word_eq (u v : Nat) : (hi u == hi v && lo u == lo v) = decide (u = v) := eq_iff u v
theorem ne2 {u v : Nat} (h : u = v) : (!(hi u == hi v) || (!(lo u == lo v))) = false := by
  subst h; simp
theorem Halves_j0 (f w n y : Nat) (hw : w < 2 ^ 128) (hy : y < 2 ^ 128) (hf : f = 32 ∨ f = 128) (hn : n < f) (hc : w &&& mk n = w)
    (ey : y = w ^^^ 2 ^ (127 - n)) (e1 : y = w + H (n + 1)) (e2 : y &&& mk n = w) :
    Ev (fun k => turnpikelaw3_PrefixHalves.j0 k (f : Int) false (hi w) (lo w) (n : Int) (hi w) (lo w) ((n + 1 : Nat) : Int) (hi y) (lo y) ((n + 1 : Nat) : Int)) true := by
  have hf128 : f ≤ 128 := by omega
  have dw := cut_dvd hw hc
  have dw1 : H (n + 1) ∣ w := Nat.dvd_trans (H_dvd (by omega)) dw
  have l1 := lst_span hw (show n + 1 ≤ f by omega) hf128 dw1
  have hL := lst_lt f (n + 1) hw
  have ep : turnpikeref1_Put.f 0 0 (wrap64 ((f : Int) - 1)) 1 = some (hi (H f), lo (H f)) := by
    have h0 := rput 0 (f - 1) 1 (by decide) (by omega) (by decide)
    rw [← or_put 0 (f - 1) (by decide) (by omega), Nat.zero_or, show 2 ^ (127 - (f - 1)) = H f by unfold H; congr 1; omega] at h0
    rw [show wrap64 ((f : Int) - 1) = ((f - 1 : Nat) : Int) by rw [w64 (by omega) (by omega)]; omega]
    exact h0
  have hH : H f < 2 ^ 128 := Nat.pow_lt_pow_right (by decide) (by omega)
  refine Ev.step (fun k => turnpikelaw3_PrefixHalves.j0.eq_2 _ _ _ _ _ _ _ _ _ _ _ _) ?_
  simp only [Bool.false_eq_true, if_false, plastp f w (n + 1) hw, Option.bind_some, ep, radd _ _ hL hH, decide_eq_false (show ¬ 2 ^ 128 ≤ lst f w (n + 1) + H f by omega),
    pparent w (n + 1) hw (by omega), pparent y (n + 1) hy (by omega), psibling w (n + 1) hw (by omega), psibling y (n + 1) hy (by omega), firstp]
  have ea : ad (lst f w (n + 1)) (H f) = y := by unfold ad; rw [Nat.mod_eq_of_lt (by omega)]; omega
  have p1 : parV w (n + 1) = (hi w, lo w, (n : Int), true) := by unfold parV; rw [if_neg (by omega), Nat.add_sub_cancel, hc]
  have p2 : parV y (n + 1) = (hi w, lo w, (n : Int), true) := by unfold parV; rw [if_neg (by omega), Nat.add_sub_cancel, e2]
  have p3 : sibV w (n + 1) = (hi y, lo y, ((n + 1 : Nat) : Int), true) := by unfold sibV; rw [if_neg (by omega), Nat.add_sub_cancel, ← ey]
  have p4 : sibV y (n + 1) = (hi w, lo w, ((n + 1 : Nat) : Int), true) := by unfold sibV; rw [if_neg (by omega), Nat.add_sub_cancel, ey, Nat.xor_assoc, Nat.xor_self, Nat.xor_zero]
  rw [ea, p1, p2, p3, p4]
  have hp := H_pos (n + 1)
  have q1 : pord w (n : Int) w ((n + 1 : Nat) : Int) = -1 := by unfold pord; rw [if_pos rfl, if_pos (by omega)]
  have q2 : pord w ((n + 1 : Nat) : Int) y ((n + 1 : Nat) : Int) = -1 := by unfold pord cmpV; rw [if_neg (by omega), if_pos (by omega)]
  simp only [beq_self_eq_true, Bool.and_self, if_true, pcmp w w _ _ hw hw, pcmp w y _ _ hw hy, q1, q2, Option.bind_some, show ((-1 : Int) < 0) = True from eq_true (by decide), decide_true]
  exact Ev.now _
theorem PrefixHalves : turnpikelaw3_PrefixHalves.Pure := by
  intro six a b n h1 h2 _
  obtain ⟨v, hv, rfl, rfl⟩ := as_word h1 h2
  obtain ⟨f, hf, ef⟩ := family3 six
  obtain ⟨w, i, hw, hs⟩ := some3 f v hf hv n
  have hf128 : f ≤ 128 := by omega
  refine Ev.rounds ?_
  unfold turnpikelaw3_PrefixHalves.f
  refine Ev.bind known3_f ?_
  simp only [ef, Option.bind_some, if_true]
  refine Ev.bind hs ?_
  simp only [pkids f w i hw.1 hf128, Option.bind_some]
  by_cases h : i = f
  · have e : kidV f w i = (0, 0, 0, 0, 0, 0, false) := by unfold kidV; rw [if_pos (by omega)]
    simp only [e, if_pos (show (i : Int) = (f : Int) by omega), if_true, Bool.false_eq_true, if_false, beq_self_eq_true, Bool.and_self]
    exact Ev.now _
  · have hn : i < f := by have := hw.2.1; omega
    have e : kidV f w i = (hi w, lo w, ((i + 1 : Nat) : Int), hi (put w i 1), lo (put w i 1), ((i + 1 : Nat) : Int), true) := by unfold kidV; rw [if_neg (by omega)]
    have hy : put w i 1 < 2 ^ 128 := put_lt w i 1 hw.1 (by omega) (by decide)
    have hb : w.testBit (127 - i) = false := by rw [← hw.2.2, Nat.testBit_and, mk_bit, decide_eq_false (show ¬ 128 ≤ 127 - i + i by omega), Bool.and_false, Bool.and_false]
    have ey : put w i 1 = w ^^^ 2 ^ (127 - i) := by rw [xor_put w i hw.1 (by omega), hb]; rfl
    have dw := cut_dvd hw.1 hw.2.2
    have e1 : put w i 1 = w + H (i + 1) := by
      rw [← or_put w i hw.1 (by omega)]
      obtain ⟨q, hq⟩ := dw
      have : w = 2 ^ (128 - i) * q := hq
      rw [show H (i + 1) = 2 ^ (127 - i) by unfold H; congr 1; omega, this]
      exact (Nat.two_pow_add_eq_or_of_lt (Nat.pow_lt_pow_right (by decide) (by omega)) q).symm
    have e2 : put w i 1 &&& mk i = w := by
      apply Nat.eq_of_testBit_eq
      intro j
      rw [Nat.testBit_and, put_bit w i 1 j hw.1 (by omega) (by decide), mk_bit]
      by_cases hj : j = 127 - i
      · rw [if_pos hj, hj, hb, decide_eq_false (show ¬ 128 ≤ 127 - i + i by omega), Bool.and_false, Bool.and_false]
      · rw [if_neg hj, ← mk_bit, ← Nat.testBit_and, hw.2.2]
    have d1 : H (i + 1) ∣ w := Nat.dvd_trans (H_dvd (by omega)) dw
    have d2 : H (i + 1) ∣ put w i 1 := by rw [e1]; exact (Nat.dvd_add_right d1).2 (Nat.dvd_refl _)
    have l1 := lst_span hw.1 hw.2.1 hf128 dw
    have l2 := lst_span hy (show i + 1 ≤ f by omega) hf128 d2
    have hh : H i = H (i + 1) + H (i + 1) := by unfold H; rw [show 128 - i = 128 - (i + 1) + 1 by omega, Nat.pow_succ]; omega
    have hj := Halves_j0 f w i (put w i 1) hw.1 hy hf hn hw.2.2 ey e1 e2
    simp only [e, if_neg (show ¬ (i : Int) = (f : Int) by omega), if_true, firstp, Option.bind_some, ne2 (rfl : w = w), Bool.false_eq_true, if_false,
      plastp f w i hw.1, plastp f (put w i 1) (i + 1) hy, ne2 (show lst f (put w i 1) (i + 1) = lst f w i by omega)]
    exact hj
end Go.Proofs.YtdjhmapmhajkcaaDoor.Pure
