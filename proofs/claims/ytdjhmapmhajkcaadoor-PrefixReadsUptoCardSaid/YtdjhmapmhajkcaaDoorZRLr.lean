/- What the document's reader of addresses computes. -/
import Derived.Test.YtdjhmapmhajkcaaDoorZRTh
import Derived.Test.YtdjhmapmhajkcaaDoorZRTw
import Derived.Test.YtdjhmapmhajkcaaDoorZRLp
import Derived.Test.YtdjhmapmhajkcaaDoorZRGl
import Derived.Laws.BitsAllLaws
import Derived.Test.YtdjhmapmhajkcaaDoorZRX6
import Derived.Test.YtdjhmapmhajkcaaDoorZRX33
import Derived.Test.YtdjhmapmhajkcaaDoorZRX34
namespace Go.Proofs.YtdjhmapmhajkcaaDoor.Th
open Go.RowKit Go.Proofs.YtdjhmapmhajkcaaDoor.X Go.Proofs.YtdjhmapmhajkcaaDoorW.PrintWords Go.Proofs.YtdjhmapmhajkcaaDoorW.PrintLast Go.Proofs.YtdjhmapmhajkcaaDoor.Sm
set_option linter.unusedVariables false
set_option linter.unusedSimpArgs false
theorem split_l0 (s : ByteArray) (c : UInt8) (hs : s.size ≤ 2097152) : ∀ (l : List UInt8) (i fr : Nat) (acc : List ByteArray), (By s).drop i = l → i ≤ s.size → fr ≤ i → acc.length ≤ i →
    Ev (fun k => turnpikeref2_split.l0 k s (c.toNat : Int) acc (fr : Int) (i : Int)) (acc ++ (ahead (((By s).drop fr).take (i - fr)) (pieces c l)).map OfBy)
  | [], i, fr, acc, hl, hi, hf, ha => by
    have h1 := nil_at hl
    refine Ev.step (fun k => turnpikeref2_split.l0.eq_2 _ _ _ _ _ _) ?_
    simp only [if_neg (show ¬ (i : Int) < (s.size : Int) by omega), if_pos (show (0 : Int) ≤ (fr : Int) by omega), if_pos (show (fr : Int) ≤ (s.size : Int) by omega), if_pos (show acc.length < 8796093022208 by omega), Int.toNat_natCast]
    rw [extract_of, show s.size = i by omega]
    simp only [pieces, ahead, List.append_nil, List.map_cons, List.map_nil]
    exact Ev.now _
  | b :: l, i, fr, acc, hl, hi, hf, ha => by
    obtain ⟨h1, h2, h3⟩ := cons_at hl
    refine Ev.step (fun k => turnpikeref2_split.l0.eq_2 _ _ _ _ _ _) ?_
    by_cases hb : b = c
    · subst hb
      simp only [if_pos (show (i : Int) < (s.size : Int) by omega), if_pos (show (0 : Int) ≤ (i : Int) by omega), h2, if_true, if_pos (show (0 : Int) ≤ (fr : Int) by omega), if_pos (show (fr : Int) ≤ (i : Int) by omega), if_pos (show (i : Int) ≤ (s.size : Int) by omega), if_pos (show acc.length < 8796093022208 by omega), Int.toNat_natCast, wr1 (show i ≤ 1000000000 by omega)]
      have ih := split_l0 s b hs l (i + 1) (i + 1) (acc ++ [s.extract fr i]) h3 (by omega) (Nat.le_refl _) (by simp; omega)
      rw [Nat.sub_self, List.take_zero, ahead_nil (pieces_ne _ _)] at ih
      rw [pieces_cons_eq]
      simp only [ahead, List.append_nil, List.map_cons]
      simp only [List.append_assoc, List.singleton_append] at ih
      rw [← extract_of]
      exact ih
    · simp only [if_pos (show (i : Int) < (s.size : Int) by omega), if_pos (show (0 : Int) ≤ (i : Int) by omega), h2, if_neg (show ¬ ((b.toNat : Int) = (c.toNat : Int)) from fun e => hb (u8_eq.2 (by omega))), wr1 (show i ≤ 1000000000 by omega)]
      have ih := split_l0 s c hs l (i + 1) fr acc h3 (by omega) (by omega) (by omega)
      rw [pieces_cons_ne hb, ahead_ahead]
      have e : ((By s).drop fr).take (i + 1 - fr) = ((By s).drop fr).take (i - fr) ++ [b] := by
        rw [show i + 1 - fr = (i - fr) + 1 by omega, List.take_add_one]
        have : ((By s).drop fr)[i - fr]? = some b := by
          rw [List.getElem?_drop, show fr + (i - fr) = i by omega]
          have := congrArg List.head? hl
          rw [List.head?_drop] at this
          simpa using this
        rw [this]; rfl
      rw [e] at ih
      exact ih
theorem split_f (s : ByteArray) (c : UInt8) (hs : s.size ≤ 2097152) : Ev (fun k => turnpikeref2_split.f k s (c.toNat : Int)) ((pieces c (By s)).map OfBy) := by
  have h := split_l0 s c hs (By s) 0 0 [] (by simp) (by omega) (by omega) (by simp)
  simp only [Nat.sub_self, List.take_zero, List.nil_append] at h
  rw [ahead_nil (pieces_ne _ _)] at h
  exact h
theorem octet_l0 (s : ByteArray) (hs : s.size ≤ 3) : ∀ (l : List UInt8) (i n : Nat), (By s).drop i = l → i ≤ s.size → n < 10 ^ i →
    Ev (fun k => turnpikeref2_octet.l0 k s (n : Int) (i : Int)) (match dval n l with | some m => if 255 < m then (-1 : Int) else (m : Int) | none => -1)
  | [], i, n, hl, hi, hn => by
    have h1 := nil_at hl
    refine Ev.step (fun k => turnpikeref2_octet.l0.eq_2 _ _ _ _) ?_
    simp only [if_neg (show ¬ (i : Int) < (s.size : Int) by omega), dval]
    by_cases h : 255 < n
    · simp only [if_pos (show (n : Int) > 255 by omega), if_pos h]; exact Ev.now _
    · simp only [if_neg (show ¬ (n : Int) > 255 by omega), if_neg h]; exact Ev.now _
  | b :: l, i, n, hl, hi, hn => by
    obtain ⟨h1, h2, h3⟩ := cons_at hl
    have hp : 10 ^ i ≤ 10 ^ 3 := Nat.pow_le_pow_right (by decide) (by omega)
    have hb := u8_lt b
    refine Ev.step (fun k => turnpikeref2_octet.l0.eq_2 _ _ _ _) ?_
    simp only [if_pos (show (i : Int) < (s.size : Int) by omega), if_pos (show (0 : Int) ≤ (i : Int) by omega), h2, dval]
    by_cases ha : b.toNat < 48
    · simp only [if_pos (show (b.toNat : Int) < 48 by omega), if_neg (show ¬ (48 ≤ b.toNat ∧ b.toNat ≤ 57) by omega)]; exact Ev.now _
    · by_cases hc : 57 < b.toNat
      · simp only [if_neg (show ¬ (b.toNat : Int) < 48 by omega), if_pos (show (b.toNat : Int) > 57 by omega), if_neg (show ¬ (48 ≤ b.toNat ∧ b.toNat ≤ 57) by omega)]; exact Ev.now _
      · have e1 : ((b.toNat : Int) - 48) % 256 = ((b.toNat - 48 : Nat) : Int) := by omega
        have e2 : wrap64 (10 * (n : Int)) = ((10 * n : Nat) : Int) := by rw [w64 (by omega) (by omega)]; omega
        have e3 : wrap64 (((10 * n : Nat) : Int) + ((b.toNat - 48 : Nat) : Int)) = ((10 * n + (b.toNat - 48) : Nat) : Int) := by rw [w64 (by omega) (by omega)]; omega
        simp only [if_neg (show ¬ (b.toNat : Int) < 48 by omega), if_neg (show ¬ (b.toNat : Int) > 57 by omega), if_pos (show (48 ≤ b.toNat ∧ b.toNat ≤ 57) by omega), e1, e2, e3, wr1 (show i ≤ 1000000000 by omega)]
        exact octet_l0 s hs l (i + 1) _ h3 (by omega) (by rw [Nat.pow_succ]; omega)
theorem octet_f (s : ByteArray) : Ev (fun k => turnpikeref2_octet.f k s) (match octV (By s) with | some n => (n : Int) | none => -1) := by
  have hz := size_by s
  by_cases h1 : s.size < 1
  · rw [octV, if_pos (.inl (by omega))]
    unfold turnpikeref2_octet.f
    simp only [if_pos (show (s.size : Int) < 1 by omega)]
    refine Ev.step (fun k => turnpikeref2_octet.j0.eq_2 _ _ _) ?_
    exact Ev.now _
  by_cases h3 : 3 < s.size
  · rw [octV, if_pos (.inr (.inl (by omega)))]
    unfold turnpikeref2_octet.f
    simp only [if_neg (show ¬ (s.size : Int) < 1 by omega), if_pos (show (s.size : Int) > 3 by omega)]
    refine Ev.step (fun k => turnpikeref2_octet.j0.eq_2 _ _ _) ?_
    exact Ev.now _
  have key : Ev (fun k => turnpikeref2_octet.j0 k s false) (match (match dval 0 (By s) with | some n => if 255 < n then none else some n | none => none) with | some n => (n : Int) | none => -1) := by
    refine Ev.step (fun k => turnpikeref2_octet.j0.eq_2 _ _ _) ?_
    simp only [Bool.false_eq_true, if_false]
    have := octet_l0 s (by omega) (By s) 0 0 rfl (by omega) (by simp)
    cases hd : dval 0 (By s) with
    | none => rw [hd] at this; exact this
    | some m =>
      rw [hd] at this
      by_cases hm : 255 < m
      · simp only [if_pos hm] at this ⊢; exact this
      · simp only [if_neg hm] at this ⊢; exact this
  obtain ⟨c, l, hl⟩ : ∃ c l, By s = c :: l := by
    cases h : By s with
    | nil => rw [h, List.length_nil] at hz; omega
    | cons c l => exact ⟨c, l, rfl⟩
  obtain ⟨_, hc, _⟩ := cons_at (s := s) (i := 0) (c := c) (l := l) (by simpa using hl)
  unfold turnpikeref2_octet.f
  simp only [if_neg (show ¬ (s.size : Int) < 1 by omega), if_neg (show ¬ (s.size : Int) > 3 by omega)]
  by_cases h2 : 1 < s.size
  · simp only [if_pos (show (s.size : Int) > 1 by omega), if_pos (show (0 : Int) < (s.size : Int) by omega)]
    have hc' : bt s 0 = (c.toNat : Int) := hc
    by_cases h48 : c = 48
    · rw [octV, if_pos (.inr (.inr ⟨by omega, by rw [hl, h48]; rfl⟩))]
      have : (bt s 0 == 48) = true := by rw [hc', h48]; rfl
      simp only [this]
      refine Ev.step (fun k => turnpikeref2_octet.j0.eq_2 _ _ _) ?_
      exact Ev.now _
    · have : (bt s 0 == 48) = false := by
        rw [hc']; simp only [beq_eq_false_iff_ne]; intro e
        exact h48 (u8_eq.2 (by show c.toNat = 48; omega))
      simp only [this]
      rw [octV, if_neg (by rintro (h | h | ⟨_, h⟩)
                           · omega
                           · omega
                           · rw [hl] at h; simp at h; exact h48 h)]
      exact key
  · simp only [if_neg (show ¬ (s.size : Int) > 1 by omega)]
    rw [octV, if_neg (by rintro (h | h | ⟨h, _⟩) <;> omega)]
    exact key
theorem octet_p (p : List UInt8) : Ev (fun k => turnpikeref2_octet.f k (OfBy p)) (match octV p with | some n => (n : Int) | none => -1) := by
  have := octet_f (OfBy p)
  rwa [by_ofBy] at this
theorem dotted_step (qs : List ByteArray) (h4 : qs.length = 4) (p : List UInt8) (j : Nat) (hj : j < 4) (hq : rdOf ByteArray.empty qs (j : Int) = OfBy p) (v : Nat) (hv : v < 16777216) (r : Int × Bool)
    (hnone : octV p = none → r = (0, false)) (hsome : ∀ n, octV p = some n → Ev (fun k => turnpikeref2_dotted.l0 k qs ((v * 256 + n : Nat) : Int) ((j + 1 : Nat) : Int)) r) :
    Ev (fun k => turnpikeref2_dotted.l0 k qs (v : Int) (j : Int)) r := by
  refine Ev.step (fun k => turnpikeref2_dotted.l0.eq_2 _ _ _ _) ?_
  simp only [if_pos (show (j : Int) < 4 by omega), if_pos (show (0 : Int) ≤ (j : Int) by omega), if_pos (show (j : Int) < (qs.length : Int) by omega), hq]
  refine Ev.bind (octet_p p) ?_
  cases h : octV p with
  | none => simp only [if_pos (show (-1 : Int) < 0 by decide)]; rw [hnone h]; exact Ev.now _
  | some n =>
    have hn := octV_lt h
    have e1 : IntKind.u64.wrap (256 * (v : Int)) = ((256 * v : Nat) : Int) := by rw [u64w (by omega) (by omega)]; omega
    have e2 : IntKind.u64.wrap (n : Int) = (n : Int) := u64w (by omega) (by omega)
    have e3 : IntKind.u64.wrap (((256 * v : Nat) : Int) + (n : Int)) = ((v * 256 + n : Nat) : Int) := by rw [u64w (by omega) (by omega)]; omega
    simp only [if_neg (show ¬ (n : Int) < 0 by omega), e1, e2, e3, wr1 (show j ≤ 1000000000 by omega)]
    exact hsome n h
theorem dotted_f (s : ByteArray) (hs : s.size ≤ 2097152) : Ev (fun k => turnpikeref2_dotted.f k s) (match dotV (By s) with | some n => ((n : Int), true) | none => (0, false)) := by
  unfold turnpikeref2_dotted.f
  refine Ev.bind (split_f s 46 hs) ?_
  unfold dotV
  generalize pieces 46 (By s) = ps
  match ps with
  | [a, b, c, d] =>
    simp only [List.map_cons, List.map_nil, List.length_cons, List.length_nil, four]
    simp only [if_pos (show (((0 + 1 + 1 + 1 + 1 : Nat) : Int) = 4) from rfl)]
    refine dotted_step _ rfl a 0 (by omega) rfl 0 (by omega) _ (fun h => by rw [h]) (fun x hx => ?_)
    have := octV_lt hx
    refine dotted_step _ rfl b 1 (by omega) rfl _ (by omega) _ (fun h => by rw [hx, h]) (fun y hy => ?_)
    have := octV_lt hy
    refine dotted_step _ rfl c 2 (by omega) rfl _ (by omega) _ (fun h => by rw [hx, hy, h]) (fun z hz => ?_)
    have := octV_lt hz
    refine dotted_step _ rfl d 3 (by omega) rfl _ (by omega) _ (fun h => by rw [hx, hy, hz, h]) (fun u hu => ?_)
    refine Ev.step (fun k => turnpikeref2_dotted.l0.eq_2 _ _ _ _) ?_
    rw [hx, hy, hz, hu]
    simp only [Nat.zero_mul, Nat.zero_add, if_neg (show ¬ ((3 + 1 : Nat) : Int) < 4 by decide)]
    exact Ev.now _
  | [] => exact Ev.now _
  | [_] => exact Ev.now _
  | [_, _] => exact Ev.now _
  | [_, _, _] => exact Ev.now _
  | a :: b :: c :: d :: e :: r =>
    simp only [List.map_cons, List.length_cons, four]
    simp only [if_neg (show ¬ (((List.map OfBy r).length + 1 + 1 + 1 + 1 + 1 : Nat) : Int) = 4 by omega)]
    exact Ev.now _
theorem rgroup_step (s : ByteArray) (i n : Nat) (c : UInt8) (hi : i < s.size) (hs : s.size ≤ 4) (hb : bt s (i : Int) = (c.toNat : Int)) (hn : n < 16 ^ i) (r : Int)
    (hno : hexd c = none → r = -1) (hgo : ∀ d, hexd c = some d → Ev (fun k => turnpikeref2_group.l0 k s ((16 * n + d : Nat) : Int) ((i + 1 : Nat) : Int)) r) :
    Ev (fun k => turnpikeref2_group.l0 k s (n : Int) (i : Int)) r := by
  have hp : 16 ^ i ≤ 16 ^ 4 := Nat.pow_le_pow_right (by decide) (by omega)
  have h256 := u8_lt c
  have e1 : wrap64 (16 * (n : Int)) = ((16 * n : Nat) : Int) := by rw [w64 (by omega) (by omega)]; omega
  refine Ev.step (fun k => turnpikeref2_group.l0.eq_2 _ _ _ _) ?_
  simp only [if_pos (show (i : Int) < (s.size : Int) by omega), if_pos (show (0 : Int) ≤ (i : Int) by omega), hb]
  have j2f : ¬ (48 ≤ c.toNat ∧ c.toNat ≤ 57) → Ev (fun k => turnpikeref2_group.j2 k s (n : Int) (i : Int) (c.toNat : Int) false) r := by
    intro h1
    refine Ev.step (fun k => turnpikeref2_group.j2.eq_2 _ _ _ _ _ _) ?_
    simp only [Bool.false_eq_true, if_false]
    have j3f : ¬ (97 ≤ c.toNat ∧ c.toNat ≤ 102) → Ev (fun k => turnpikeref2_group.j3 k s (n : Int) (i : Int) (c.toNat : Int) false) r := by
      intro h2
      refine Ev.step (fun k => turnpikeref2_group.j3.eq_2 _ _ _ _ _ _) ?_
      simp only [Bool.false_eq_true, if_false]
      by_cases h3 : 65 ≤ c.toNat ∧ c.toNat ≤ 70
      · have hd : hexd c = some (c.toNat - 55) := by unfold hexd; rw [if_neg h1, if_neg h2, if_pos h3]
        have e2 : ((c.toNat : Int) - 65) % 256 = ((c.toNat - 65 : Nat) : Int) := by omega
        have e3 : wrap64 (((16 * n : Nat) : Int) + ((c.toNat - 65 : Nat) : Int)) = ((16 * n + (c.toNat - 65) : Nat) : Int) := by rw [w64 (by omega) (by omega)]; omega
        have e4 : wrap64 (((16 * n + (c.toNat - 65) : Nat) : Int) + 10) = ((16 * n + (c.toNat - 55) : Nat) : Int) := by rw [w64 (by omega) (by omega)]; omega
        simp only [if_pos (show (c.toNat : Int) ≥ 65 by omega), if_pos (show (c.toNat : Int) ≤ 70 by omega), e1, e2, e3, e4, wr1 (show i ≤ 1000000000 by omega)]
        exact hgo _ hd
      · have hd : hexd c = none := by unfold hexd; rw [if_neg h1, if_neg h2, if_neg h3]
        rw [hno hd]
        by_cases h4 : 65 ≤ c.toNat
        · simp only [if_pos (show (c.toNat : Int) ≥ 65 by omega), if_neg (show ¬ (c.toNat : Int) ≤ 70 by omega)]; exact Ev.now _
        · simp only [if_neg (show ¬ (c.toNat : Int) ≥ 65 by omega)]; exact Ev.now _
    by_cases h2 : 97 ≤ c.toNat
    · simp only [if_pos (show (c.toNat : Int) ≥ 97 by omega)]
      by_cases h3 : c.toNat ≤ 102
      · have hd : hexd c = some (c.toNat - 87) := by unfold hexd; rw [if_neg h1, if_pos ⟨h2, h3⟩]
        have e2 : ((c.toNat : Int) - 97) % 256 = ((c.toNat - 97 : Nat) : Int) := by omega
        have e3 : wrap64 (((16 * n : Nat) : Int) + ((c.toNat - 97 : Nat) : Int)) = ((16 * n + (c.toNat - 97) : Nat) : Int) := by rw [w64 (by omega) (by omega)]; omega
        have e4 : wrap64 (((16 * n + (c.toNat - 97) : Nat) : Int) + 10) = ((16 * n + (c.toNat - 87) : Nat) : Int) := by rw [w64 (by omega) (by omega)]; omega
        simp only [decide_eq_true (show (c.toNat : Int) ≤ 102 by omega)]
        refine Ev.step (fun k => turnpikeref2_group.j3.eq_2 _ _ _ _ _ _) ?_
        simp only [if_true, e1, e2, e3, e4, wr1 (show i ≤ 1000000000 by omega)]
        exact hgo _ hd
      · simp only [decide_eq_false (show ¬ (c.toNat : Int) ≤ 102 by omega)]
        exact j3f (fun h => h3 h.2)
    · simp only [if_neg (show ¬ (c.toNat : Int) ≥ 97 by omega)]
      exact j3f (fun h => h2 h.1)
  by_cases h1 : 48 ≤ c.toNat
  · simp only [if_pos (show (c.toNat : Int) ≥ 48 by omega)]
    by_cases h2 : c.toNat ≤ 57
    · have hd : hexd c = some (c.toNat - 48) := by unfold hexd; rw [if_pos ⟨h1, h2⟩]
      have e2 : ((c.toNat : Int) - 48) % 256 = ((c.toNat - 48 : Nat) : Int) := by omega
      have e3 : wrap64 (((16 * n : Nat) : Int) + ((c.toNat - 48 : Nat) : Int)) = ((16 * n + (c.toNat - 48) : Nat) : Int) := by rw [w64 (by omega) (by omega)]; omega
      simp only [decide_eq_true (show (c.toNat : Int) ≤ 57 by omega)]
      refine Ev.step (fun k => turnpikeref2_group.j2.eq_2 _ _ _ _ _ _) ?_
      simp only [if_true, e1, e2, e3, wr1 (show i ≤ 1000000000 by omega)]
      exact hgo _ hd
    · simp only [decide_eq_false (show ¬ (c.toNat : Int) ≤ 57 by omega)]
      exact j2f (fun h => h2 h.2)
  · simp only [if_neg (show ¬ (c.toNat : Int) ≥ 48 by omega)]
    exact j2f (fun h => h1 h.1)
theorem rgroup_l0 (s : ByteArray) (hs : s.size ≤ 4) : ∀ (l : List UInt8) (i n : Nat), (By s).drop i = l → i ≤ s.size → n < 16 ^ i →
    Ev (fun k => turnpikeref2_group.l0 k s (n : Int) (i : Int)) (match hval n l with | some m => (m : Int) | none => -1)
  | [], i, n, hl, hi, hn => by
    have h1 := nil_at hl
    refine Ev.step (fun k => turnpikeref2_group.l0.eq_2 _ _ _ _) ?_
    simp only [if_neg (show ¬ (i : Int) < (s.size : Int) by omega), hval]
    exact Ev.now _
  | c :: l, i, n, hl, hi, hn => by
    obtain ⟨h1, h2, h3⟩ := cons_at hl
    refine rgroup_step s i n c h1 hs h2 hn _ (fun h => by rw [hval, h]) (fun d h => ?_)
    rw [hval, h]
    have := hexd_lt h
    exact rgroup_l0 s hs l (i + 1) _ h3 (by omega) (by rw [Nat.pow_succ]; omega)
theorem rgroup_f (s : ByteArray) : Ev (fun k => turnpikeref2_group.f k s) (match grpV (By s) with | some n => (n : Int) | none => -1) := by
  have hz := size_by s
  unfold turnpikeref2_group.f grpV
  by_cases h1 : s.size < 1
  · simp only [if_pos (show (s.size : Int) < 1 by omega), if_pos (show (By s).length < 1 ∨ 4 < (By s).length by omega)]
    refine Ev.step (fun k => turnpikeref2_group.j0.eq_2 _ _ _) ?_
    exact Ev.now _
  · simp only [if_neg (show ¬ (s.size : Int) < 1 by omega)]
    refine Ev.step (fun k => turnpikeref2_group.j0.eq_2 _ _ _) ?_
    by_cases h4 : 4 < s.size
    · simp only [decide_eq_true (show (s.size : Int) > 4 by omega), if_true, if_pos (show (By s).length < 1 ∨ 4 < (By s).length by omega)]
      exact Ev.now _
    · simp only [decide_eq_false (show ¬ (s.size : Int) > 4 by omega), Bool.false_eq_true, if_false, if_neg (show ¬ ((By s).length < 1 ∨ 4 < (By s).length) by omega)]
      exact rgroup_l0 s (by omega) (By s) 0 0 rfl (by omega) (by decide)
theorem rd_map (ps : List (List UInt8)) (i : Nat) (p : List UInt8) (qs : List (List UInt8)) (h : ps.drop i = p :: qs) : rdOf ByteArray.empty (ps.map OfBy) (i : Int) = OfBy p := by
  have hlt : i < ps.length := by
    have := congrArg List.length h
    simp only [List.length_drop, List.length_cons] at this
    omega
  rw [List.drop_eq_getElem_cons hlt] at h
  unfold rdOf
  rw [Int.toNat_natCast, List.getD_eq_getElem?_getD, List.getElem?_map, List.getElem?_eq_getElem hlt]
  simp [(List.cons.inj h).1]
theorem rgroup_p (p : List UInt8) : Ev (fun k => turnpikeref2_group.f k (OfBy p)) (match grpV p with | some n => (n : Int) | none => -1) := by
  have := rgroup_f (OfBy p)
  rwa [by_ofBy] at this
theorem rdotted_p (p : List UInt8) (h : p.length ≤ 2097152) : Ev (fun k => turnpikeref2_dotted.f k (OfBy p)) (match dotV p with | some n => ((n : Int), true) | none => (0, false)) := by
  have := dotted_f (OfBy p) (by rw [size_by, by_ofBy]; exact h)
  rwa [by_ofBy] at this
theorem rgroups_l0 (ps : List (List UInt8)) (hlen : ps.length ≤ 2097153) (hp : ∀ p ∈ ps, p.length ≤ 2097152) (last : Bool) : ∀ (qs : List (List UInt8)) (i : Nat) (acc : List Nat), ps.drop i = qs → acc.length ≤ i → i ≤ ps.length →
    Ev (fun k => turnpikeref2_groups.l0 k last (ints acc) (ps.map OfBy) (i : Int)) (match grps last qs with | some g => (ints (acc ++ g), true) | none => ([], false))
  | [], i, acc, hq, ha, hi => by
    have : ps.length ≤ i := by
      have := congrArg List.length hq
      simp only [List.length_drop, List.length_nil] at this; omega
    refine Ev.step (fun k => turnpikeref2_groups.l0.eq_2 _ _ _ _ _) ?_
    simp only [List.length_map, if_neg (show ¬ (i : Int) < (ps.length : Int) by omega), grps, List.append_nil]
    exact Ev.now _
  | p :: qs, i, acc, hq, ha, hi => by
    have hlt : i < ps.length := by
      have := congrArg List.length hq
      simp only [List.length_drop, List.length_cons] at this; omega
    have hqs : ps.drop (i + 1) = qs := by
      rw [List.drop_eq_getElem_cons hlt] at hq
      exact (List.cons.inj hq).2
    have hpm : p ∈ ps := by
      rw [List.drop_eq_getElem_cons hlt] at hq
      rw [← (List.cons.inj hq).1]; exact List.getElem_mem hlt
    have hrd := rd_map ps i p qs hq
    have hl : (ints acc).length < 17592186044416 := by rw [ints_len]; omega
    refine Ev.step (fun k => turnpikeref2_groups.l0.eq_2 _ _ _ _ _) ?_
    simp only [List.length_map, if_pos (show (i : Int) < (ps.length : Int) by omega)]
    -- a group read by itself
    have plain : ∀ r, (∀ n, grpV p = some n → Ev (fun k => turnpikeref2_groups.l0 k last (ints (acc ++ [n])) (ps.map OfBy) ((i + 1 : Nat) : Int)) r) → (grpV p = none → r = ([], false)) →
        Ev (fun k => (turnpikeref2_group.f k (rdOf ByteArray.empty (ps.map OfBy) (i : Int))).bind fun t191 => (if t191 < 0 then (some (([] : List Int), false)) else (if (ints acc).length < 17592186044416 then (turnpikeref2_groups.l0 k last (ints acc ++ [t191]) (ps.map OfBy) (wrap64 ((i : Int) + 1))) else (none)))) r := by
      intro r h1 h2
      rw [hrd]
      refine Ev.bind (rgroup_p p) ?_
      cases hg : grpV p with
      | none => simp only [if_pos (show (-1 : Int) < 0 by decide)]; rw [h2 hg]; exact Ev.now _
      | some n =>
        simp only [if_neg (show ¬ (n : Int) < 0 by omega), if_pos hl, wr1 (show i ≤ 1000000000 by omega)]
        have := h1 n hg
        simp only [ints, List.map_append, List.map_cons, List.map_nil] at this
        exact this
    have j1f : ∀ r, (∀ n, grpV p = some n → Ev (fun k => turnpikeref2_groups.l0 k last (ints (acc ++ [n])) (ps.map OfBy) ((i + 1 : Nat) : Int)) r) → (grpV p = none → r = ([], false)) →
        Ev (fun k => turnpikeref2_groups.j1 k last (ints acc) (ps.map OfBy) (i : Int) false) r := by
      intro r h1 h2
      refine Ev.step (fun k => turnpikeref2_groups.j1.eq_2 _ _ _ _ _ _) ?_
      simp only [Bool.false_eq_true, if_false, List.length_map, if_pos (show (0 : Int) ≤ (i : Int) by omega), if_pos (show (i : Int) < (ps.length : Int) by omega)]
      exact plain r h1 h2
    cases qs with
    | nil =>
      have hend : i + 1 = ps.length := by
        have := congrArg List.length hqs
        simp only [List.length_drop, List.length_nil] at this; omega
      have fin : ∀ n, Ev (fun k => turnpikeref2_groups.l0 k last (ints (acc ++ [n])) (ps.map OfBy) ((i + 1 : Nat) : Int)) (ints (acc ++ [n]), true) := by
        intro n
        have := rgroups_l0 ps hlen hp last [] (i + 1) (acc ++ [n]) hqs (by simp; omega) (by omega)
        simp only [grps, List.append_nil] at this
        exact this
      cases last with
      | false =>
        simp only [Bool.false_eq_true, if_false]
        refine j1f _ (fun n h => ?_) (fun h => ?_)
        · simp only [grps, h, Option.map_some, if_neg (show ¬ false = true by decide)]; exact fin n
        · simp only [grps, h, Option.map_none, if_neg (show ¬ false = true by decide)]
      | true =>
        have e : ((i : Int) == wrap64 ((ps.length : Int) - 1)) = true := by rw [w64 (by omega) (by omega)]; simp; omega
        simp only [if_true, e]
        refine Ev.step (fun k => turnpikeref2_groups.j1.eq_2 _ _ _ _ _ _) ?_
        simp only [if_true, List.length_map, if_pos (show (0 : Int) ≤ (i : Int) by omega), if_pos (show (i : Int) < (ps.length : Int) by omega)]
        rw [hrd]
        refine Ev.bind (rdotted_p p (hp p hpm)) ?_
        cases hd : dotV p with
        | some v =>
          have hv := dotV_lt hd
          have e1 : wrap64 ((v : Int) / 65536) = ((v / 65536 : Nat) : Int) := by rw [w64 (by omega) (by omega)]; omega
          have e2 : wrap64 (((v % 65536 : Nat) : Int)) = ((v % 65536 : Nat) : Int) := w64 (by omega) (by omega)
          simp only [if_true, Option.bind_some, and16 v hv, e1, e2, List.length_cons, List.length_nil, if_pos (show (ints acc).length + (0 + 1 + 1) < 17592186044416 by rw [ints_len]; omega), grps, hd]
          simp only [ints, List.map_append, List.map_cons, List.map_nil]
          exact Ev.now _
        | none =>
          have := plain (match grps true [p] with | some g => (ints (acc ++ g), true) | none => ([], false)) (fun n h => by simp only [grps, hd, h, if_true, Option.map_some]; exact fin n) (fun h => by simp only [grps, hd, h, if_true, Option.map_none])
          rw [hrd] at this
          simp only [Bool.false_eq_true, if_false]
          exact this
    | cons q qs =>
      have go : Ev (fun k => turnpikeref2_groups.j1 k last (ints acc) (ps.map OfBy) (i : Int) false) (match grps last (p :: q :: qs) with | some g => (ints (acc ++ g), true) | none => ([], false)) := by
        refine j1f _ (fun n h => ?_) (fun h => ?_)
        · have := rgroups_l0 ps hlen hp last (q :: qs) (i + 1) (acc ++ [n]) hqs (by simp; omega) (by omega)
          rw [grps, h]
          cases hr : grps last (q :: qs) with
          | none => rw [hr] at this; exact this
          | some g =>
            rw [hr] at this
            simp only [List.append_assoc, List.singleton_append] at this
            exact this
        · rw [grps, h]
      cases last with
      | false => simp only [Bool.false_eq_true, if_false]; exact go
      | true =>
        have hne : i + 1 < ps.length := by
          have := congrArg List.length hqs
          simp only [List.length_drop, List.length_cons] at this; omega
        have e : ((i : Int) == wrap64 ((ps.length : Int) - 1)) = false := by
          rw [w64 (by omega) (by omega)]
          simp only [beq_eq_false_iff_ne, ne_eq]; omega
        simp only [if_true, e]
        exact go
theorem pieces_each (c : UInt8) (l : List UInt8) : ∀ p ∈ pieces c l, p.length ≤ l.length := by
  intro p hp
  have h1 := pieces_sum c l
  have h2 : ∀ (ps : List (List UInt8)), p ∈ ps → p.length + 1 ≤ sumlen ps := by
    intro ps
    induction ps with
    | nil => intro h; cases h
    | cons q qs ih =>
      intro h
      rw [sumlen]
      rcases List.mem_cons.1 h with e | h
      · subst e; omega
      · have := ih h; omega
  have := h2 _ hp
  omega
theorem rgroups_f (s : ByteArray) (hs : s.size ≤ 2097152) (last : Bool) : Ev (fun k => turnpikeref2_groups.f k s last) (match lstV last (By s) with | some g => (ints g, true) | none => ([], false)) := by
  unfold turnpikeref2_groups.f lstV
  by_cases h : By s = []
  · simp only [if_pos h, if_pos ((empty_iff s).2 h)]
    exact Ev.now _
  · simp only [if_neg h, if_neg (fun e => h ((empty_iff s).1 e))]
    refine Ev.bind (split_f s 58 hs) ?_
    have hl := pieces_len 58 (By s)
    rw [← size_by] at hl
    have := rgroups_l0 (pieces 58 (By s)) (by omega) (fun p hp => by have := pieces_each 58 (By s) p hp; rw [← size_by] at this; omega) last _ 0 [] rfl (by simp) (by omega)
    simp only [List.nil_append, List.drop_zero] at this
    rw [show ((0 : Nat) : Int) = 0 from rfl] at this
    exact this
theorem rgap_l0 (s : ByteArray) (hs : s.size ≤ 2097152) : ∀ (l : List UInt8) (i : Nat), (By s).drop i = l → i ≤ s.size →
    Ev (fun k => turnpikeref2_gap.l0 k s (i : Int)) (match gapV l with | some (p, _) => ((i + p.length : Nat) : Int) | none => -1)
  | [], i, hl, hi => by
    have h1 := nil_at hl
    refine Ev.step (fun k => turnpikeref2_gap.l0.eq_2 _ _ _) ?_
    simp only [wr1 (show i ≤ 1000000000 by omega), if_neg (show ¬ ((i + 1 : Nat) : Int) < (s.size : Int) by omega), gapV]
    exact Ev.now _
  | [a], i, hl, hi => by
    have h1 := drop_len hl hi
    simp only [List.length_cons, List.length_nil] at h1
    refine Ev.step (fun k => turnpikeref2_gap.l0.eq_2 _ _ _) ?_
    simp only [wr1 (show i ≤ 1000000000 by omega), if_neg (show ¬ ((i + 1 : Nat) : Int) < (s.size : Int) by omega), gapV]
    exact Ev.now _
  | a :: b :: l, i, hl, hi => by
    obtain ⟨h1, h2, h3⟩ := cons_at hl
    obtain ⟨h4, h5, h6⟩ := cons_at h3
    have ih := rgap_l0 s hs (b :: l) (i + 1) h3 (by omega)
    have fin : ∀ r, gapV (a :: b :: l) = (gapV (b :: l)).map (fun p => (a :: p.1, p.2)) → (match gapV (b :: l) with | some (p, _) => ((i + 1 + p.length : Nat) : Int) | none => -1) = r → (match gapV (a :: b :: l) with | some (p, _) => ((i + p.length : Nat) : Int) | none => -1) = r := by
      intro r e1 e2
      rw [e1, ← e2]
      cases gapV (b :: l) with
      | none => rfl
      | some x => simp only [Option.map_some, List.length_cons]; congr 1; omega
    have e58 : ∀ c : UInt8, (c.toNat : Int) = 58 ↔ c = 58 := fun c => ⟨fun h => u8_eq.2 (by show c.toNat = 58; omega), fun h => by rw [h]; rfl⟩
    refine Ev.step (fun k => turnpikeref2_gap.l0.eq_2 _ _ _) ?_
    simp only [wr1 (show i ≤ 1000000000 by omega), if_pos (show ((i + 1 : Nat) : Int) < (s.size : Int) by omega), if_pos (show (0 : Int) ≤ (i : Int) by omega), if_pos (show (i : Int) < (s.size : Int) by omega), h2, h5, if_pos (show (0 : Int) ≤ ((i + 1 : Nat) : Int) by omega), e58]
    by_cases ha : a = 58
    · by_cases hb : b = 58
      · simp only [if_pos ha, if_pos hb]
        rw [gapV, if_pos ⟨ha, hb⟩]
        exact Ev.now _
      · simp only [if_pos ha, if_neg hb]
        rw [fin _ (by rw [gapV, if_neg (fun h => hb h.2)]) rfl]
        exact ih
    · simp only [if_neg ha]
      rw [fin _ (by rw [gapV, if_neg (fun h => ha h.1)]) rfl]
      exact ih
theorem rl1_l1 (g : List Nat) (h8 : g.length = 8) (hg : ∀ n ∈ g, n < 65536) : ∀ (r : List Nat) (i w : Nat), g.drop i = r → i ≤ 8 → w * 2 ^ (128 - 16 * i) + PP i r < 2 ^ 128 →
    Ev (fun k => turnpikeref2_Parse.l1 k (ints g) (i : Int) (hi w) (lo w)) (hi (w * 2 ^ (128 - 16 * i) + PP i r), lo (w * 2 ^ (128 - 16 * i) + PP i r), 0)
  | [], i, w, hr, hi8, hlt => by
    have : g.length ≤ i := by
      have := congrArg List.length hr
      simp only [List.length_drop, List.length_nil] at this; omega
    obtain rfl : i = 8 := by omega
    refine Ev.step (fun k => turnpikeref2_Parse.l1.eq_2 _ _ _ _ _) ?_
    simp only [if_neg (show ¬ ((8 : Nat) : Int) < 8 by decide), PP, Nat.add_zero, Nat.mul_one, show 128 - 16 * 8 = 0 from rfl, Nat.pow_zero]
    exact Ev.now _
  | n :: r, i, w, hr, hi8, hlt => by
    obtain ⟨h1, h2, h3⟩ := rd_ints g i n r hr
    have hn : n < 65536 := hg n (by
      have : n ∈ g.drop i := by rw [hr]; exact List.mem_cons_self ..
      exact List.mem_of_mem_drop this)
    have hA := two112 i (by omega)
    have hA1 : 1 ≤ 2 ^ (112 - 16 * i) := Nat.pow_pos (by decide)
    have hw : w * 65536 < 2 ^ 128 := by
      have : w * 65536 * 1 ≤ w * 65536 * 2 ^ (112 - 16 * i) := Nat.mul_le_mul_left _ hA1
      rw [hA, ← Nat.mul_assoc] at hlt
      omega
    have hw' : w < 2 ^ 128 := by omega
    have hsl : sl w 16 = w * 65536 := by unfold sl; exact Nat.mod_eq_of_lt hw
    have hshl := rshl w 16 hw' (by omega)
    rw [hsl] at hshl
    have hor : w * 65536 ||| n = w * 65536 + n := by
      have := or_add (e := 16) (q := w) (b := n) hn
      rw [show (2 : Nat) ^ 16 = 65536 from rfl, Nat.mul_comm] at this
      exact this
    have ehi : hi (w * 65536) = hi (w * 65536 + n) := by
      have e : w * 65536 / 2 ^ 64 = (w * 65536 + n) / 2 ^ 64 := by rw [p64]; omega
      unfold hi; rw [e]
    have elo : Go.bits .or .u64 (lo (w * 65536)) (IntKind.u64.wrap (n : Int)) = lo (w * 65536 + n) := by
      rw [u64w (by omega) (by omega), ← lo0 hn, or_lo, hor]
    refine Ev.step (fun k => turnpikeref2_Parse.l1.eq_2 _ _ _ _ _) ?_
    rw [show ((16 : Nat) : Int) = 16 from rfl] at hshl
    simp only [if_pos (show (i : Int) < 8 by omega), hshl, Option.bind_some, if_pos (show (0 : Int) ≤ (i : Int) by omega), ints_len, if_pos (show (i : Int) < (g.length : Int) by omega), h2, elo, wr1 (show i ≤ 1000000000 by omega)]
    rw [ehi]
    have e : w * 2 ^ (128 - 16 * i) + PP i (n :: r) = (w * 65536 + n) * 2 ^ (128 - 16 * (i + 1)) + PP (i + 1) r := by
      rw [PP, hA, show 128 - 16 * (i + 1) = 112 - 16 * i by omega, Nat.add_mul, Nat.mul_assoc, Nat.add_assoc]
    rw [e] at hlt ⊢
    exact rl1_l1 g h8 hg r (i + 1) (w * 65536 + n) h3 (by omega) hlt
theorem rj2 (g : List Nat) (h8 : g.length = 8) (hg : ∀ n ∈ g, n < 65536) : Ev (fun k => turnpikeref2_Parse.j2 k (ints g)) (hi (PP 0 g), lo (PP 0 g), 0) := by
  refine Ev.step (fun k => turnpikeref2_Parse.j2.eq_2 _ _) ?_
  have := rl1_l1 g h8 hg g 0 0 rfl (by omega) (by rw [Nat.zero_mul, Nat.zero_add]; exact PP_lt128 g hg 0 (by omega))
  rw [Nat.zero_mul, Nat.zero_add, show hi 0 = 0 from rfl, show lo 0 = 0 from rfl, show ((0 : Nat) : Int) = 0 from rfl] at this
  exact this
theorem rfill (a b : List Nat) (hab : a.length + b.length ≤ 8) (ha : ∀ n ∈ a, n < 65536) (hb : ∀ n ∈ b, n < 65536) : ∀ z, a.length + z + b.length = 8 → ∀ a', a' = a →
    Ev (fun k => turnpikeref2_Parse.l0 k (ints a') (ints b)) (hi (PP 0 (a ++ List.replicate z 0 ++ b)), lo (PP 0 (a ++ List.replicate z 0 ++ b)), 0) := by
  intro z
  induction z generalizing a with
  | zero =>
    intro hz a' e
    subst e
    have e1 : wrap64 ((a'.length : Int) + (b.length : Int)) = 8 := by rw [w64 (by omega) (by omega)]; omega
    refine Ev.step (fun k => turnpikeref2_Parse.l0.eq_2 _ _ _) ?_
    simp only [ints_len, e1, if_neg (show ¬ (8 : Int) < 8 by decide), if_pos (show a'.length + b.length < 17592186044416 by omega), List.replicate_zero, List.append_nil]
    have := rj2 (a' ++ b) (by simp; omega) (fun n hn => by rcases List.mem_append.1 hn with h | h; exact ha n h; exact hb n h)
    simp only [ints, List.map_append] at this ⊢
    exact this
  | succ z ih =>
    intro hz a' e
    subst e
    have e1 : wrap64 ((a'.length : Int) + (b.length : Int)) = ((a'.length + b.length : Nat) : Int) := by rw [w64 (by omega) (by omega)]; omega
    refine Ev.step (fun k => turnpikeref2_Parse.l0.eq_2 _ _ _) ?_
    simp only [ints_len, e1, if_pos (show ((a'.length + b.length : Nat) : Int) < 8 by omega), if_pos (show a'.length < 17592186044416 by omega)]
    have := ih (a' ++ [0]) (by simp; omega) (fun n hn => by rcases List.mem_append.1 hn with h | h; exact ha n h; simp at h; omega) (by simp; omega) (a' ++ [0]) rfl
    rw [List.append_assoc a' [0], List.singleton_append, ← List.replicate_succ] at this
    simp only [ints, List.map_append, List.map_cons, List.map_nil] at this ⊢
    exact this
theorem rsix (s : ByteArray) (hs : s.size ≤ 2097152) : ∃ r, Ev (fun k => (turnpikeref2_gap.f k s).bind fun t199 => (if t199 < 0 then ((turnpikeref2_groups.f k s true).bind fun bt200 => (if bt200.2 = true then (if (bt200.1.length : Int) = 8 then (turnpikeref2_Parse.j2 k bt200.1) else (some (0, 0, 12))) else (some (0, 0, 12)))) else (if 0 ≤ t199 then (if t199 ≤ (s.size : Int) then ((turnpikeref2_groups.f k (s.extract 0 (t199 : Int).toNat) false).bind fun bt204 => (if 0 ≤ (wrap64 (t199 + 2)) then (if (wrap64 (t199 + 2)) ≤ (s.size : Int) then ((turnpikeref2_groups.f k (s.extract ((wrap64 (t199 + 2)) : Int).toNat s.size) true).bind fun bt208 => (if bt204.2 = true then (if bt208.2 = true then (turnpikeref2_Parse.j0 k ([] : List Int) bt204.1 bt208.1 (decide ((wrap64 ((bt204.1.length : Int) + (bt208.1.length : Int))) > 7))) else (turnpikeref2_Parse.j0 k ([] : List Int) bt204.1 bt208.1 true)) else (turnpikeref2_Parse.j0 k ([] : List Int) bt204.1 bt208.1 true))) else (none)) else (none))) else (none)) else (none)))) r ∧ six_is (By s) r := by
  have hgap := rgap_l0 s hs (By s) 0 rfl (by omega)
  simp only [Nat.zero_add] at hgap
  have hgap' : Ev (fun k => turnpikeref2_gap.f k s) _ := hgap
  unfold six_is sixV
  cases hg : gapV (By s) with
  | none =>
    rw [hg] at hgap'
    have hgr := rgroups_f s hs true
    simp only
    cases hl : lstV true (By s) with
    | none =>
      rw [hl] at hgr
      refine ⟨(0, 0, 12), Ev.bind hgap' ?_, rfl⟩
      simp only [if_pos (show (-1 : Int) < 0 by decide)]
      refine Ev.bind hgr ?_
      simp only [Bool.false_eq_true, if_false]; exact Ev.now _
    | some g =>
      rw [hl] at hgr
      by_cases h8 : g.length = 8
      · refine ⟨(hi (PP 0 g), lo (PP 0 g), 0), Ev.bind hgap' ?_, by simp [h8]⟩
        simp only [if_pos (show (-1 : Int) < 0 by decide)]
        refine Ev.bind hgr ?_
        simp only [if_true, ints_len, if_pos (show (g.length : Int) = 8 by omega)]
        exact rj2 g h8 (lstV_lt hl)
      · refine ⟨(0, 0, 12), Ev.bind hgap' ?_, by simp [h8]⟩
        simp only [if_pos (show (-1 : Int) < 0 by decide)]
        refine Ev.bind hgr ?_
        simp only [if_true, ints_len, if_neg (show ¬ (g.length : Int) = 8 by omega)]; exact Ev.now _
  | some x =>
    obtain ⟨p, q⟩ := x
    rw [hg] at hgap'
    simp only at hgap'
    have hsz := gap_size hg
    have hby := gap_eq hg
    have ep : s.extract 0 p.length = OfBy p := by rw [extract_of, hby]; simp
    have eq : s.extract (p.length + 2) s.size = OfBy q := by
      rw [extract_of, hby, show p ++ 58 :: 58 :: q = (p ++ [58, 58]) ++ q by simp, List.drop_left' (by simp), List.take_of_length_le (by omega)]
    have hgp := rgroups_f (OfBy p) (by rw [size_by, by_ofBy]; omega) false
    have hgq := rgroups_f (OfBy q) (by rw [size_by, by_ofBy]; omega) true
    rw [by_ofBy] at hgp hgq
    have e2 : wrap64 ((p.length : Int) + 2) = ((p.length + 2 : Nat) : Int) := by rw [w64 (by omega) (by omega)]; omega
    have bad : ∀ (a b : List Int), Ev (fun k => turnpikeref2_Parse.j0 k [] a b true) (0, 0, 12) := by
      intro a b
      refine Ev.step (fun k => turnpikeref2_Parse.j0.eq_2 _ _ _ _ _) ?_
      simp only [if_true]; exact Ev.now _
    have start : ∀ r, Ev (fun k => (turnpikeref2_groups.f k (OfBy p) false).bind fun bt204 => ((turnpikeref2_groups.f k (OfBy q) true).bind fun bt208 => (if bt204.2 = true then (if bt208.2 = true then (turnpikeref2_Parse.j0 k ([] : List Int) bt204.1 bt208.1 (decide ((wrap64 ((bt204.1.length : Int) + (bt208.1.length : Int))) > 7))) else (turnpikeref2_Parse.j0 k ([] : List Int) bt204.1 bt208.1 true)) else (turnpikeref2_Parse.j0 k ([] : List Int) bt204.1 bt208.1 true)))) r → Ev (fun k => (turnpikeref2_gap.f k s).bind fun t199 => (if t199 < 0 then ((turnpikeref2_groups.f k s true).bind fun bt200 => (if bt200.2 = true then (if (bt200.1.length : Int) = 8 then (turnpikeref2_Parse.j2 k bt200.1) else (some (0, 0, 12))) else (some (0, 0, 12)))) else (if 0 ≤ t199 then (if t199 ≤ (s.size : Int) then ((turnpikeref2_groups.f k (s.extract 0 (t199 : Int).toNat) false).bind fun bt204 => (if 0 ≤ (wrap64 (t199 + 2)) then (if (wrap64 (t199 + 2)) ≤ (s.size : Int) then ((turnpikeref2_groups.f k (s.extract ((wrap64 (t199 + 2)) : Int).toNat s.size) true).bind fun bt208 => (if bt204.2 = true then (if bt208.2 = true then (turnpikeref2_Parse.j0 k ([] : List Int) bt204.1 bt208.1 (decide ((wrap64 ((bt204.1.length : Int) + (bt208.1.length : Int))) > 7))) else (turnpikeref2_Parse.j0 k ([] : List Int) bt204.1 bt208.1 true)) else (turnpikeref2_Parse.j0 k ([] : List Int) bt204.1 bt208.1 true))) else (none)) else (none))) else (none)) else (none)))) r := fun r h => Ev.bind (r := r) hgap' (by
      simp only [if_neg (show ¬ (p.length : Int) < 0 by omega), if_pos (show (0 : Int) ≤ (p.length : Int) by omega), if_pos (show (p.length : Int) ≤ (s.size : Int) by omega), Int.toNat_natCast, ep, e2, if_pos (show (0 : Int) ≤ ((p.length + 2 : Nat) : Int) by omega), if_pos (show ((p.length + 2 : Nat) : Int) ≤ (s.size : Int) by omega), eq]
      exact h)
    cases hp : lstV false p with
    | none =>
      rw [hp] at hgp
      refine ⟨(0, 0, 12), start _ (Ev.bind hgp (Ev.bind hgq ?_)), by simp [hp]⟩
      simp only [Bool.false_eq_true, if_false]; exact bad _ _
    | some a =>
      rw [hp] at hgp
      cases hq : lstV true q with
      | none =>
        rw [hq] at hgq
        refine ⟨(0, 0, 12), start _ (Ev.bind hgp (Ev.bind hgq ?_)), by simp [hp, hq]⟩
        simp only [Bool.false_eq_true, if_false, ite_self]; exact bad _ _
      | some b =>
        rw [hq] at hgq
        have la := lstV_count hp
        have lb := lstV_count hq
        have e1 : wrap64 ((a.length : Int) + (b.length : Int)) = ((a.length + b.length : Nat) : Int) := by rw [w64 (by omega) (by omega)]; omega
        by_cases hlen : 7 < a.length + b.length
        · refine ⟨(0, 0, 12), start _ (Ev.bind hgp (Ev.bind hgq ?_)), by simp [hp, hq, hlen]⟩
          simp only [if_true, ints_len, e1, decide_eq_true (show ((a.length + b.length : Nat) : Int) > 7 by omega)]; exact bad _ _
        · refine ⟨(hi (PP 0 (a ++ List.replicate (8 - (a.length + b.length)) 0 ++ b)), lo (PP 0 (a ++ List.replicate (8 - (a.length + b.length)) 0 ++ b)), 0), start _ (Ev.bind hgp (Ev.bind hgq ?_)), by simp [hp, hq, hlen]⟩
          simp only [if_true, ints_len, e1, decide_eq_false (show ¬ ((a.length + b.length : Nat) : Int) > 7 by omega)]
          refine Ev.step (fun k => turnpikeref2_Parse.j0.eq_2 _ _ _ _ _) ?_
          simp only [Bool.false_eq_true, if_false, ints_len, List.length_nil, List.nil_append, if_pos (show 0 + a.length < 17592186044416 by omega)]
          exact rfill a b (by omega) (lstV_lt hp) (lstV_lt hq) (8 - (a.length + b.length)) (by omega) a rfl
theorem rparse (family : Int) (s : ByteArray) (hs : s.size ≤ 2097152) : Ev (fun k => turnpikeref2_Parse.f k family s) (readV family (By s)) := by
  unfold turnpikeref2_Parse.f readV turnpikeref2_IsFamily.f
  have hz := size_by s
  by_cases h32 : family = 32
  · simp only [if_pos h32, Option.bind_some, if_true]
    by_cases h60 : (s.size : Int) > 60
    · simp only [if_pos h60]
      cases hd : dotV (By s) with
      | none => exact Ev.now _
      | some n => have := dotV_len hd; omega
    · simp only [if_neg h60]
      have hd := dotted_f s hs
      cases h : dotV (By s) with
      | none =>
        rw [h] at hd
        refine Ev.bind hd ?_
        simp only [Bool.false_eq_true, if_false]; exact Ev.now _
      | some n =>
        rw [h] at hd
        have hn := dotV_lt h
        have e : IntKind.u64.wrap ((n : Int) * 4294967296) = ((n * 4294967296 : Nat) : Int) := by rw [u64w (by omega) (by omega)]; omega
        refine Ev.bind hd ?_
        simp only [if_true, e]; exact Ev.now _
  · by_cases h128 : family = 128
    · subst h128
      simp only [if_neg h32, Option.bind_some, beq_self_eq_true, if_true]
      by_cases h60 : (s.size : Int) > 60
      · simp only [if_pos h60]
        cases hd : sixV (By s) with
        | none => exact Ev.now _
        | some g => have := sixV_len hd; omega
      · simp only [if_neg h60]
        obtain ⟨r, h1, h2⟩ := rsix s hs
        rw [← six_is_iff h2]
        exact h1
    · have e : (family == 128) = false := by simp [h128]
      simp only [if_neg h32, if_neg h128, Option.bind_some, e, Bool.false_eq_true, if_false]; exact Ev.now _
end Go.Proofs.YtdjhmapmhajkcaaDoor.Th
