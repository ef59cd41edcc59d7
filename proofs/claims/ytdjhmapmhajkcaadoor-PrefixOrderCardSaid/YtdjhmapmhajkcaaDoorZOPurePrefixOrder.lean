/- The order of right prefixes and their meetings. -/
import Derived.Test.YtdjhmapmhajkcaaDoorZOIv
import Derived.Test.YtdjhmapmhajkcaaDoorZOKp
import Derived.Test.YtdjhmapmhajkcaaDoorZOX32
namespace Go.Proofs.YtdjhmapmhajkcaaDoor.Pure
open Go.RowKit Go.Proofs.YtdjhmapmhajkcaaDoor.X Go.Proofs.YtdjhmapmhajkcaaDoorW.PrintWords Go.Proofs.YtdjhmapmhajkcaaDoor.Th
set_option linter.unusedVariables false
set_option linter.unusedSimpArgs false
theorem cm_cut (a b k : Nat) (ha : a < 2 ^ 128) (hb : b < 2 ^ 128) (hk : k ≤ 128) : k ≤ cm a b ↔ a &&& mk k = b &&& mk k := by
  rw [cm_ge a b k ha hb hk, bits_div]
  constructor
  · intro h
    apply Nat.eq_of_testBit_eq
    intro i
    rw [Nat.testBit_and, Nat.testBit_and, mk_bit]
    by_cases hi : 128 ≤ i + k
    · rw [h i (by omega)]
    · simp [hi]
  · intro h i hi
    rcases Nat.lt_or_ge i 128 with h1 | h1
    · have := congrArg (fun v => Nat.testBit v i) h
      simp only [Nat.testBit_and, mk_bit, decide_eq_true h1, decide_eq_true (show 128 ≤ i + k by omega), Bool.and_true] at this
      exact this
    · rw [big ha h1, big hb h1]
theorem cm_comm (a b : Nat) : cm a b = cm b a := by unfold cm; rw [Nat.xor_comm]
theorem pord_le (w n x m : Nat) : pord w (n : Int) x (m : Int) ≤ 0 ↔ w < x ∨ (w = x ∧ n ≤ m) := by
  unfold pord
  by_cases h : w = x
  · rw [if_pos h]
    by_cases h1 : (n : Int) < m
    · rw [if_pos h1]; omega
    · rw [if_neg h1]
      by_cases h2 : (n : Int) > m
      · rw [if_pos h2]; omega
      · rw [if_neg h2]; omega
  · rw [if_neg h, cmp_le]; omega
theorem pord_nil (w n x m : Nat) : pord w (n : Int) x (m : Int) = 0 ↔ w = x ∧ n = m := by
  unfold pord
  by_cases h : w = x
  · rw [if_pos h]
    by_cases h1 : (n : Int) < m
    · rw [if_pos h1]; omega
    · rw [if_neg h1]
      by_cases h2 : (n : Int) > m
      · rw [if_pos h2]; omega
      · rw [if_neg h2]; omega
  · rw [if_neg h, cmp_nil]; omega
theorem pord_anti (w n x m : Nat) : pord w (n : Int) x (m : Int) = wrap64 (-(pord x (m : Int) w (n : Int))) := by
  have e : pord w (n : Int) x (m : Int) = -(pord x (m : Int) w (n : Int)) ∧ -1 ≤ pord w (n : Int) x (m : Int) ∧ pord w (n : Int) x (m : Int) ≤ 1 := by
    unfold pord cmpV
    by_cases h : w = x
    · rw [if_pos h, if_pos (Eq.symm h)]
      by_cases h1 : (n : Int) < m
      · rw [if_pos h1, if_neg (by omega), if_pos (by omega)]; omega
      · rw [if_neg h1]
        by_cases h2 : (n : Int) > m
        · rw [if_pos h2, if_pos (by omega)]; omega
        · rw [if_neg h2, if_neg (by omega), if_neg (by omega)]; omega
    · have h' : ¬ x = w := fun e => h (Eq.symm e)
      by_cases h1 : w < x
      · simp only [if_neg h, if_neg h', if_pos h1, if_neg (show ¬ x < w by omega)]; refine ⟨?_, ?_, ?_⟩ <;> first | trivial | decide
      · simp only [if_neg h, if_neg h', if_neg h1, if_pos (show x < w by omega)]; refine ⟨?_, ?_, ?_⟩ <;> first | trivial | decide
  rw [← e.1, w64 (by omega) (by omega)]
theorem wth {w n x m : Nat} : wthn w (n : Int) x (m : Int) = decide (m ≤ n ∧ m ≤ cm x w) := by
  unfold wthn
  rw [← Bool.decide_and]
  apply decide_eq_decide.2; omega
theorem Order_j3 (w x y z n m l k : Nat) (hw : w < 2 ^ 128) (hx : x < 2 ^ 128) (hy : y < 2 ^ 128) (hz : z < 2 ^ 128)
    (h : l ≤ n → l ≤ cm y w → l ≤ m → l ≤ cm y x → l ≤ k ∧ l ≤ cm y z) :
    Ev (fun r => turnpikelaw3_PrefixOrder.j3 r false (hi w) (lo w) (n : Int) (hi x) (lo x) (m : Int) (hi y) (lo y) (l : Int) (hi z) (lo z) (k : Int)) true := by
  refine Ev.step (fun r => turnpikelaw3_PrefixOrder.j3.eq_2 _ _ _ _ _ _ _ _ _ _ _ _ _ _) ?_
  simp only [Bool.false_eq_true, if_false, pwithin w y _ _ hw hy, pwithin x y _ _ hx hy, pwithin z y _ _ hz hy, Option.bind_some, wth, decide_eq_true_iff]
  by_cases h1 : l ≤ n ∧ l ≤ cm y w
  · simp only [if_pos h1]
    by_cases h2 : l ≤ m ∧ l ≤ cm y x
    · simp only [if_pos h2, decide_eq_true (h h1.1 h1.2 h2.1 h2.2)]; exact Ev.now _
    · simp only [if_neg h2]; exact Ev.now _
  · simp only [if_neg h1]; exact Ev.now _
theorem same3 (w x n m : Nat) : ((hi w == hi x && (lo w == lo x)) && (((n : Int)) == (m : Int))) = decide (w = x ∧ n = m) := by
  rw [eq_iff]
  by_cases h1 : w = x
  · by_cases h2 : n = m
    · simp [h1, h2]
    · have : ¬ (n : Int) = (m : Int) := by omega
      simp [h1, h2, this]
  · simp [h1]
theorem Order_j2 (w x y n m l : Nat) (hw : w < 2 ^ 128) (hx : x < 2 ^ 128) (hy : y < 2 ^ 128) (hn : n ≤ 128) (hm : m ≤ 128) (hl : l ≤ 128)
    (cw : w &&& mk n = w) (cx : x &&& mk m = x) (cy : y &&& mk l = y) :
    Ev (fun r => turnpikelaw3_PrefixOrder.j2 r false (hi w) (lo w) (n : Int) (hi x) (lo x) (m : Int) (hi y) (lo y) (l : Int)) true := by
  refine Ev.step (fun r => turnpikelaw3_PrefixOrder.j2.eq_2 _ _ _ _ _ _ _ _ _ _ _) ?_
  have hk1 : mlen w n x m ≤ n ∧ mlen w n x m ≤ m ∧ mlen w n x m ≤ cm w x := by unfold mlen; omega
  have hk2 : ∀ t, t ≤ n → t ≤ m → t ≤ cm w x → t ≤ mlen w n x m := by unfold mlen; omega
  have ek : mlen x m w n = mlen w n x m := by unfold mlen; rw [cm_comm x w]; omega
  have ez : x &&& mk (mlen w n x m) = w &&& mk (mlen w n x m) := ((cm_cut w x _ hw hx (by omega)).1 hk1.2.2).symm
  have hz : w &&& mk (mlen w n x m) < 2 ^ 128 := and_lt128 _ hw
  simp only [Bool.false_eq_true, if_false, pmeet w n x m hw hx, pmeet x m w n hx hw, Option.bind_some, ek, ez, beq_self_eq_true, Bool.not_true, Bool.or_self,
    pwithin w _ _ _ hw hz, pwithin x _ _ _ hx hz, pwithin x w _ _ hx hw, wth]
  generalize mlen w n x m = k at *
  have e1 : k ≤ cm (w &&& mk k) w := (cm_cut _ w k hz hw (by omega)).2 (mk_idem _ _)
  have e2 : k ≤ cm (w &&& mk k) x := (cm_cut _ x k hz hx (by omega)).2 (by rw [mk_idem, ez])
  have e3 : decide (w &&& mk k = w ∧ k = n) = decide (n ≤ m ∧ n ≤ cm w x) := by
    apply decide_eq_decide.2
    constructor
    · rintro ⟨_, rfl⟩; exact hk1.2
    · rintro ⟨h1, h2⟩
      have : k = n := Nat.le_antisymm hk1.1 (hk2 n (Nat.le_refl _) h1 h2)
      subst this; exact ⟨cw, rfl⟩
  simp only [decide_eq_true (show k ≤ n ∧ k ≤ cm (w &&& mk k) w from ⟨hk1.1, e1⟩), decide_eq_true (show k ≤ m ∧ k ≤ cm (w &&& mk k) x from ⟨hk1.2.1, e2⟩), if_true, same3, e3, bne_self_eq_false]
  apply Order_j3 w x y _ n m l k hw hx hy hz
  intro h1 h2 h3 h4
  have f1 := (cm_cut y w l hy hw hl).1 h2
  have f2 := (cm_cut y x l hy hx hl).1 h4
  have f3 : l ≤ k := hk2 l h1 h3 ((cm_cut w x l hw hx hl).2 (f1.symm.trans f2))
  exact ⟨f3, (cm_cut y _ l hy hz hl).2 (by rw [mk_mono f3]; exact f1)⟩
theorem Order_j1 (w x y n m l : Nat) (hw : w < 2 ^ 128) (hx : x < 2 ^ 128) (hy : y < 2 ^ 128) (hn : n ≤ 128) (hm : m ≤ 128) (hl : l ≤ 128)
    (cw : w &&& mk n = w) (cx : x &&& mk m = x) (cy : y &&& mk l = y) :
    Ev (fun r => turnpikelaw3_PrefixOrder.j1 r false (hi w) (lo w) (n : Int) (hi x) (lo x) (m : Int) (hi y) (lo y) (l : Int)) true := by
  refine Ev.step (fun r => turnpikelaw3_PrefixOrder.j1.eq_2 _ _ _ _ _ _ _ _ _ _ _) ?_
  have hj : ∀ b : Bool, b = false → Ev (fun r => turnpikelaw3_PrefixOrder.j2 r b (hi w) (lo w) (n : Int) (hi x) (lo x) (m : Int) (hi y) (lo y) (l : Int)) true := by
    rintro b rfl; exact Order_j2 w x y n m l hw hx hy hn hm hl cw cx cy
  have dw := cut_dvd hw cw
  simp only [Bool.false_eq_true, if_false, pcmp w x _ _ hw hx, pcmp x y _ _ hx hy, pwithin y w _ _ hy hw, pwithin x w _ _ hx hw, Option.bind_some, wth_iff hy hw hn dw, wth_iff hx hw hn dw]
  by_cases h1 : pord w (n : Int) x (m : Int) ≤ 0
  · simp only [if_pos h1]
    by_cases h2 : pord x (m : Int) y (l : Int) ≤ 0
    · simp only [if_pos h2, decide_eq_true_iff]
      by_cases h3 : n ≤ l ∧ w ≤ y ∧ y < w + H n
      · simp only [if_pos h3]
        apply hj
        rw [pord_le] at h1 h2
        have s : m ≤ n → Two w (H n) x (H m) := fun h => two dw (cut_dvd hx cx) h
        have : n ≤ m ∧ w ≤ x ∧ x < w + H n := by
          rcases Nat.lt_or_ge m n with h | h
          · obtain ⟨y1, y2, y3, y4, y5⟩ := s (by omega)
            clear s
            omega
          · omega
        rw [decide_eq_true this]; rfl
      · simp only [if_neg h3]; exact hj false rfl
    · simp only [if_neg h2]; exact hj false rfl
  · simp only [if_neg h1]; exact hj false rfl
theorem Order_j0 (w x y n m l : Nat) (hw : w < 2 ^ 128) (hx : x < 2 ^ 128) (hy : y < 2 ^ 128) (hn : n ≤ 128) (hm : m ≤ 128) (hl : l ≤ 128)
    (cw : w &&& mk n = w) (cx : x &&& mk m = x) (cy : y &&& mk l = y) :
    Ev (fun r => turnpikelaw3_PrefixOrder.j0 r false (hi w) (lo w) (n : Int) (hi x) (lo x) (m : Int) (hi y) (lo y) (l : Int)) true := by
  refine Ev.step (fun r => turnpikelaw3_PrefixOrder.j0.eq_2 _ _ _ _ _ _ _ _ _ _ _) ?_
  have hj : ∀ b : Bool, b = false → Ev (fun r => turnpikelaw3_PrefixOrder.j1 r b (hi w) (lo w) (n : Int) (hi x) (lo x) (m : Int) (hi y) (lo y) (l : Int)) true := by
    rintro b rfl; exact Order_j1 w x y n m l hw hx hy hn hm hl cw cx cy
  simp only [Bool.false_eq_true, if_false, pcmp w x _ _ hw hx, pcmp x y _ _ hx hy, pcmp w y _ _ hw hy, Option.bind_some]
  by_cases h1 : pord w (n : Int) x (m : Int) ≤ 0
  · simp only [if_pos h1]
    by_cases h2 : pord x (m : Int) y (l : Int) ≤ 0
    · simp only [if_pos h2]
      apply hj
      rw [pord_le] at h1 h2
      have h3 := (pord_le w n y l).2 (by omega)
      exact decide_eq_false (by omega)
    · simp only [if_neg h2]; exact hj false rfl
  · simp only [if_neg h1]; exact hj false rfl
theorem PrefixOrder : turnpikelaw3_PrefixOrder.Pure := by
  intro six a b n c d m e g l h1 h2 _ h3 h4 _ h5 h6 _
  obtain ⟨v, hv, rfl, rfl⟩ := as_word h1 h2
  obtain ⟨u, hu, rfl, rfl⟩ := as_word h3 h4
  obtain ⟨z, hz, rfl, rfl⟩ := as_word h5 h6
  obtain ⟨f, hf, ef⟩ := family3 six
  obtain ⟨w, i, hw, hs⟩ := some3 f v hf hv n
  obtain ⟨x, j, hx, ht⟩ := some3 f u hf hu m
  obtain ⟨y, o, hy, hr⟩ := some3 f z hf hz l
  have hf128 : f ≤ 128 := by omega
  have hj := Order_j0 w x y i j o hw.1 hx.1 hy.1 (by have := hw.2.1; omega) (by have := hx.2.1; omega) (by have := hy.2.1; omega) hw.2.2 hx.2.2 hy.2.2
  refine Ev.rounds ?_
  unfold turnpikelaw3_PrefixOrder.f
  refine Ev.bind known3_f ?_
  simp only [ef, Option.bind_some, if_true]
  refine Ev.bind hs (Ev.bind ht (Ev.bind hr ?_))
  simp only [pcmp w x _ _ hw.1 hx.1, pcmp x w _ _ hx.1 hw.1, Option.bind_some, if_pos (pord_anti w i x j), same3]
  have e : (pord w (i : Int) x (j : Int) == 0) = decide (w = x ∧ i = j) := by
    rw [Bool.eq_iff_iff, beq_iff_eq, pord_nil, decide_eq_true_iff]
  rw [e]
  simp only [bne_self_eq_false]
  exact hj
end Go.Proofs.YtdjhmapmhajkcaaDoor.Pure
