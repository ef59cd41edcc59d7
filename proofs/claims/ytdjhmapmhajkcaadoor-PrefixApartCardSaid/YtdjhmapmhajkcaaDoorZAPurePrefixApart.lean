/- Right prefixes nest or lie apart. -/
import Derived.Test.YtdjhmapmhajkcaaDoorZAIv
import Derived.Test.YtdjhmapmhajkcaaDoorZAKp
import Derived.Test.YtdjhmapmhajkcaaDoorZAX14
import Derived.Test.YtdjhmapmhajkcaaDoorZAX15
namespace Go.Proofs.YtdjhmapmhajkcaaDoor.Pure
open Go.RowKit Go.Proofs.YtdjhmapmhajkcaaDoor.X Go.Proofs.YtdjhmapmhajkcaaDoorW.PrintWords Go.Proofs.YtdjhmapmhajkcaaDoor.Th
set_option linter.unusedVariables false
theorem first3 (w : Nat) (n : Int) : prefix_First.f (hi w) (lo w) n = some (hi w, lo w) := rfl
theorem Apart_j3 (w x a : Nat) (n m : Int) (hw : w < 2 ^ 128) (hx : x < 2 ^ 128) (ha : a < 2 ^ 128) (b : Bool)
    (h : b = true → ((cm w a : Nat) : Int) ≥ n → ((cm x a : Nat) : Int) ≥ m) :
    Ev (fun k => turnpikelaw3_PrefixApart.j3 k b false (hi a) (lo a) (hi w) (lo w) n (hi x) (lo x) m) true := by
  refine Ev.step (fun k => turnpikelaw3_PrefixApart.j3.eq_2 _ _ _ _ _ _ _ _ _ _ _) ?_
  simp only [Bool.false_eq_true, if_false]
  cases b with
  | false => simp only [Bool.false_eq_true, if_false]; exact Ev.now _
  | true =>
    simp only [if_true, phas w a n hw ha, phas x a m hx ha, Option.bind_some, decide_eq_true_iff]
    by_cases h1 : ((cm w a : Nat) : Int) ≥ n
    · simp only [if_pos h1, decide_eq_true (h rfl h1)]; exact Ev.now _
    · simp only [if_neg h1]; exact Ev.now _
theorem Apart_j2 (f w x a n m : Nat) (hw : w < 2 ^ 128) (hx : x < 2 ^ 128) (ha : a < 2 ^ 128) (b : Bool)
    (h : b = true → cm w a ≥ n → cm x a ≥ m) (h0 : b = true → x ≤ w ∧ lst f w n ≤ lst f x m) :
    Ev (fun k => turnpikelaw3_PrefixApart.j2 k (f : Int) b false (hi a) (lo a) (hi w) (lo w) (n : Int) (hi x) (lo x) (m : Int)) true := by
  refine Ev.step (fun k => turnpikelaw3_PrefixApart.j2.eq_2 _ _ _ _ _ _ _ _ _ _ _ _) ?_
  have hj : ∀ c : Bool, c = false → Ev (fun k => turnpikelaw3_PrefixApart.j3 k b c (hi a) (lo a) (hi w) (lo w) (n : Int) (hi x) (lo x) (m : Int)) true := by
    rintro c rfl
    exact Apart_j3 w x a n m hw hx ha b (fun e h1 => by have := h e (by omega); omega)
  simp only [Bool.false_eq_true, if_false]
  cases b with
  | false => simp only [Bool.false_eq_true, if_false]; exact hj false rfl
  | true =>
    have h2 := h0 rfl
    simp only [if_true, first3, Option.bind_some]
    refine Ev.bind (rcmp x w hx hw) ?_
    have := cmp_gt x w
    simp only [if_neg (show ¬ cmpV x w > 0 by omega), plastp f w n hw, plastp f x m hx, Option.bind_some]
    refine Ev.bind (rcmp _ _ (lst_lt f n hw) (lst_lt f m hx)) ?_
    have h3 := cmp_gt (lst f w n) (lst f x m)
    exact hj _ (decide_eq_false (by omega))
theorem same3 (w x n m : Nat) : ((hi w == hi x && (lo w == lo x)) && (((n : Int)) == (m : Int))) = decide (w = x ∧ n = m) := by
  rw [eq_iff]
  by_cases h1 : w = x
  · by_cases h2 : n = m
    · simp [h1, h2]
    · have : ¬ (n : Int) = (m : Int) := by omega
      simp [h1, h2, this]
  · simp [h1]
theorem Apart_j1 (f w x a n m : Nat) (hw : w < 2 ^ 128) (hx : x < 2 ^ 128) (ha : a < 2 ^ 128) (b c d : Bool)
    (hb : b = true → cm w a ≥ n → cm x a ≥ m) (h0 : b = true → x ≤ w ∧ lst f w n ≤ lst f x m)
    (h1 : (b && c) = decide (w = x ∧ n = m)) (h2 : d = !(b || c)) :
    Ev (fun k => turnpikelaw3_PrefixApart.j1 k (f : Int) b c d (hi a) (lo a) (hi w) (lo w) (n : Int) (hi x) (lo x) (m : Int)) true := by
  refine Ev.step (fun k => turnpikelaw3_PrefixApart.j1.eq_2 _ _ _ _ _ _ _ _ _ _ _ _ _) ?_
  have hj : ∀ e : Bool, e = false → Ev (fun k => turnpikelaw3_PrefixApart.j2 k (f : Int) b e (hi a) (lo a) (hi w) (lo w) (n : Int) (hi x) (lo x) (m : Int)) true := by
    rintro e rfl; exact Apart_j2 f w x a n m hw hx ha b hb h0
  rw [same3, ← h1]
  subst h2
  cases b with
  | true =>
    simp only [if_true, Bool.true_and, bne_self_eq_false, Bool.false_eq_true, if_false]
    exact hj _ (by simp)
  | false =>
    simp only [if_true, Bool.false_and, bne_self_eq_false, Bool.false_eq_true, if_false]
    exact hj _ (by cases c <;> rfl)
theorem Apart_j0 (f w x a n m : Nat) (hw : w < 2 ^ 128) (hx : x < 2 ^ 128) (ha : a < 2 ^ 128) (hf : f ≤ 128) (hn : n ≤ f) (hm : m ≤ f)
    (dw : H n ∣ w) (dx : H m ∣ x) :
    Ev (fun k => turnpikelaw3_PrefixApart.j0 k (f : Int) false (hi a) (lo a) (hi w) (lo w) (n : Int) (hi x) (lo x) (m : Int)) true := by
  refine Ev.step (fun k => turnpikelaw3_PrefixApart.j0.eq_2 _ _ _ _ _ _ _ _ _ _ _) ?_
  simp only [Bool.false_eq_true, if_false, pwithin w x _ _ hw hx, pwithin x w _ _ hx hw, Option.bind_some, plastp f w n hw, plastp f x m hx, first3]
  rw [wth_iff hw hx (by omega) dx, wth_iff hx hw (by omega) dw]
  refine Ev.bind (rcmp _ _ (lst_lt f n hw) hx) ?_
  have c1 := cmp_lt (lst f w n) x
  have c2 := cmp_lt (lst f x m) w
  have l1 := lst_span hw hn hf dw
  have l2 := lst_span hx hm hf dx
  have p1 := has_iff hw (show n ≤ 128 by omega) dw ha
  have p2 := has_iff hx (show m ≤ 128 by omega) dx ha
  have s1 : n ≤ m → Two x (H m) w (H n) := fun h => two dx dw h
  have s2 : m ≤ n → Two w (H n) x (H m) := fun h => two dw dx h
  have z1 : H f ≤ H n := H_le hn
  have z2 : H f ≤ H m := H_le hm
  have z0 := H_pos f
  have ze : n = m → H n = H m := fun e => by rw [e]
  have d1 : H f ∣ lst f w n := (Nat.dvd_add_left (Nat.dvd_refl (H f))).1 (l1 ▸ (Nat.dvd_add_right (Nat.dvd_trans (H_dvd hn) dw)).2 (H_dvd hn))
  have d2 : H f ∣ lst f x m := (Nat.dvd_add_left (Nat.dvd_refl (H f))).1 (l2 ▸ (Nat.dvd_add_right (Nat.dvd_trans (H_dvd hm) dx)).2 (H_dvd hm))
  have t1 := stp z0 d1 (Nat.dvd_trans (H_dvd hm) dx)
  have t2 := stp z0 d2 (Nat.dvd_trans (H_dvd hn) dw)
  have hL := lst_lt f n hw
  have hM := lst_lt f m hx
  clear d1 d2 dw dx
  generalize H n = A at *
  generalize H m = B at *
  generalize H f = C at *
  have main : ∀ d : Bool, d = decide (lst f w n < x ∨ lst f x m < w) → Ev (fun k => turnpikelaw3_PrefixApart.j1 k (f : Int) (decide (m ≤ n ∧ x ≤ w ∧ w < x + B)) (decide (n ≤ m ∧ w ≤ x ∧ x < w + A)) d (hi a) (lo a) (hi w) (lo w) (n : Int) (hi x) (lo x) (m : Int)) true := by
    rintro d rfl
    apply Apart_j1 f w x a n m hw hx ha
    · intro h h'
      have h := of_decide_eq_true h
      obtain ⟨y1, y2, y3, y4, y5⟩ := s2 h.1
      clear s1 s2
      omega
    · intro h
      have h := of_decide_eq_true h
      obtain ⟨y1, y2, y3, y4, y5⟩ := s2 h.1
      clear s1 s2
      omega
    · rw [← Bool.decide_and]
      apply decide_eq_decide.2
      clear s1 s2
      omega
    · rw [← Bool.decide_or, ← decide_not]
      apply decide_eq_decide.2
      by_cases h : m ≤ n
      · obtain ⟨y1, y2, y3, y4, y5⟩ := s2 h
        clear s1 s2
        omega
      · obtain ⟨y1, y2, y3, y4, y5⟩ := s1 (by omega)
        clear s1 s2
        omega
  by_cases h : lst f w n < x
  · simp only [if_pos (c1.2 h)]
    exact main true (decide_eq_true (.inl h)).symm
  · simp only [if_neg (fun e => h (c1.1 e))]
    refine Ev.bind (rcmp (lst f x m) w hM hw) ?_
    apply main
    apply decide_eq_decide.2
    omega
theorem PrefixApart : turnpikelaw3_PrefixApart.Pure := by
  intro six a b n c d m e g h1 h2 _ h3 h4 _ h5 h6
  obtain ⟨v, hv, rfl, rfl⟩ := as_word h1 h2
  obtain ⟨u, hu, rfl, rfl⟩ := as_word h3 h4
  obtain ⟨z, hz, rfl, rfl⟩ := as_word h5 h6
  obtain ⟨f, hf, ef⟩ := family3 six
  obtain ⟨w, i, hw, hs⟩ := some3 f v hf hv n
  obtain ⟨x, j, hx, ht⟩ := some3 f u hf hu m
  have hc := clip3 f z hz
  have hf128 : f ≤ 128 := by omega
  have hzz : z &&& mk f < 2 ^ 128 := and_lt128 _ hz
  have dz : H f ∣ z &&& mk f := cut_dvd hzz (mk_idem _ _)
  have dw := cut_dvd hw.1 hw.2.2
  have dx := cut_dvd hx.1 hx.2.2
  have hj := Apart_j0 f w x (z &&& mk f) i j hw.1 hx.1 hzz hf128 hw.2.1 hx.2.1 dw dx
  refine Ev.rounds ?_
  unfold turnpikelaw3_PrefixApart.f
  refine Ev.bind known3_f ?_
  simp only [ef, Option.bind_some, if_true]
  refine Ev.bind hs (Ev.bind ht (Ev.bind hc ?_))
  simp only [phas w _ _ hw.1 hzz, first3, Option.bind_some]
  generalize z &&& mk f = a at *
  refine Ev.bind (rcmp w a hw.1 hzz) ?_
  have c1 := cmp_le w a
  have p1 := has_iff hw.1 (show i ≤ 128 by have := hw.2.1; omega) dw hzz
  by_cases hle : w ≤ a
  · simp only [if_pos (c1.2 hle), plastp f w i hw.1, Option.bind_some]
    refine Ev.bind (rcmp a _ hzz (lst_lt f i hw.1)) ?_
    have l1 := lst_span hw.1 hw.2.1 hf128 dw
    have s := stp (H_pos f) dz ((Nat.dvd_add_right (Nat.dvd_trans (H_dvd hw.2.1) dw)).2 (H_dvd hw.2.1))
    have c2 := cmp_le a (lst f w i)
    have e : decide (((cm w a : Nat) : Int) ≥ (i : Int)) = decide (cmpV a (lst f w i) ≤ 0) := decide_eq_decide.2 (by omega)
    rw [e]
    simp only [bne_self_eq_false]
    exact hj
  · have e : decide (((cm w a : Nat) : Int) ≥ (i : Int)) = false := decide_eq_false (by omega)
    simp only [if_neg (fun h => hle (c1.1 h)), e, bne_self_eq_false]
    exact hj
end Go.Proofs.YtdjhmapmhajkcaaDoor.Pure
