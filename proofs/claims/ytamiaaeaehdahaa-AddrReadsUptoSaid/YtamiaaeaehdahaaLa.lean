/- What the address readers compute: the printed functions against the plain theory. -/
import Derived.Test.YtamiaaeaehdahaaTh
import Derived.Test.YtamiaaeaehdahaaX2
import Derived.Test.YtamiaaeaehdahaaX8
import Derived.Laws.BitsAllLaws
namespace Go.Proofs.Ytamiaaeaehdahaa.Th
open Go.RowKit Go.Proofs.Ytamiaaeaehdahaa.X Go.Proofs.YtamiaaeaehdahaaW.PrintWords Go.Proofs.YtamiaaeaehdahaaW.PrintLast Go.Proofs.YtamiaaeaehdahaaW.PrintMore
set_option linter.unusedVariables false
set_option linter.unusedSimpArgs false

theorem wr1 {i : Nat} (h : i ≤ 1000000000) : wrap64 ((i : Int) + 1) = ((i + 1 : Nat) : Int) := by unfold wrap64; omega
theorem u64w {n : Int} (h0 : 0 ≤ n) (h : n < 18446744073709551616) : IntKind.u64.wrap n = n := by
  show n.emod 18446744073709551616 = n
  exact Int.emod_eq_of_lt h0 h

theorem split_l0 (s : ByteArray) (c : UInt8) (hs : s.size ≤ 2097152) : ∀ (l : List UInt8) (i fr : Nat) (acc : List ByteArray), (By s).drop i = l → i ≤ s.size → fr ≤ i → acc.length ≤ i →
    Ev (fun k => turnpikeref2_split.l0 k s (c.toNat : Int) acc (fr : Int) (i : Int)) (acc ++ (ahead (((By s).drop fr).take (i - fr)) (pieces c l)).map OfBy)
  | [], i, fr, acc, hl, hi, hf, ha => by
    have h1 := nil_at hl
    refine Ev.step (fun k => turnpikeref2_split.l0.eq_2 _ _ _ _ _ _) ?_
    simp only [if_neg (show ¬ (i : Int) < (s.size : Int) by omega), if_pos (show (0 : Int) ≤ (fr : Int) by omega), if_pos (show (fr : Int) ≤ (s.size : Int) by omega), if_pos (show acc.length < 8796093022208 by omega), Int.toNat_natCast]
    rw [extract_of, show s.size = i by omega]
    simp only [pieces, ahead, List.append_nil, List.map_cons, List.map_nil]
    exact Ev.now _
  | b :: l, i, fr, acc, hl, hi, hf, ha => by
    obtain ⟨h1, h2, h3⟩ := cons_at hl
    refine Ev.step (fun k => turnpikeref2_split.l0.eq_2 _ _ _ _ _ _) ?_
    by_cases hb : b = c
    · subst hb
      simp only [if_pos (show (i : Int) < (s.size : Int) by omega), if_pos (show (0 : Int) ≤ (i : Int) by omega), h2, if_true, if_pos (show (0 : Int) ≤ (fr : Int) by omega), if_pos (show (fr : Int) ≤ (i : Int) by omega), if_pos (show (i : Int) ≤ (s.size : Int) by omega), if_pos (show acc.length < 8796093022208 by omega), Int.toNat_natCast, wr1 (show i ≤ 1000000000 by omega)]
      have ih := split_l0 s b hs l (i + 1) (i + 1) (acc ++ [s.extract fr i]) h3 (by omega) (Nat.le_refl _) (by simp; omega)
      rw [Nat.sub_self, List.take_zero, ahead_nil (pieces_ne _ _)] at ih
      rw [pieces_cons_eq]
      simp only [ahead, List.append_nil, List.map_cons]
      simp only [List.append_assoc, List.singleton_append] at ih
      rw [← extract_of]
      exact ih
    · simp only [if_pos (show (i : Int) < (s.size : Int) by omega), if_pos (show (0 : Int) ≤ (i : Int) by omega), h2, if_neg (show ¬ ((b.toNat : Int) = (c.toNat : Int)) from fun e => hb (u8_eq.2 (by omega))), wr1 (show i ≤ 1000000000 by omega)]
      have ih := split_l0 s c hs l (i + 1) fr acc h3 (by omega) (by omega) (by omega)
      rw [pieces_cons_ne hb, ahead_ahead]
      have e : ((By s).drop fr).take (i + 1 - fr) = ((By s).drop fr).take (i - fr) ++ [b] := by
        rw [show i + 1 - fr = (i - fr) + 1 by omega, List.take_add_one]
        have : ((By s).drop fr)[i - fr]? = some b := by
          rw [List.getElem?_drop, show fr + (i - fr) = i by omega]
          have := congrArg List.head? hl
          rw [List.head?_drop] at this
          simpa using this
        rw [this]; rfl
      rw [e] at ih
      exact ih
theorem split_f (s : ByteArray) (c : UInt8) (hs : s.size ≤ 2097152) : Ev (fun k => turnpikeref2_split.f k s (c.toNat : Int)) ((pieces c (By s)).map OfBy) := by
  have h := split_l0 s c hs (By s) 0 0 [] (by simp) (by omega) (by omega) (by simp)
  simp only [Nat.sub_self, List.take_zero, List.nil_append] at h
  rw [ahead_nil (pieces_ne _ _)] at h
  exact h

theorem w64 {x : Int} (h0 : -4611686018427387904 ≤ x) (h : x ≤ 4611686018427387904) : wrap64 x = x := by unfold wrap64; omega

/-! ### octets -/
theorem octet_l0 (s : ByteArray) (hs : s.size ≤ 3) : ∀ (l : List UInt8) (i n : Nat), (By s).drop i = l → i ≤ s.size → n < 10 ^ i →
    Ev (fun k => turnpikeref2_octet.l0 k s (n : Int) (i : Int)) (match dval n l with | some m => if 255 < m then (-1 : Int) else (m : Int) | none => -1)
  | [], i, n, hl, hi, hn => by
    have h1 := nil_at hl
    refine Ev.step (fun k => turnpikeref2_octet.l0.eq_2 _ _ _ _) ?_
    simp only [if_neg (show ¬ (i : Int) < (s.size : Int) by omega), dval]
    by_cases h : 255 < n
    · simp only [if_pos (show (n : Int) > 255 by omega), if_pos h]; exact Ev.now _
    · simp only [if_neg (show ¬ (n : Int) > 255 by omega), if_neg h]; exact Ev.now _
  | b :: l, i, n, hl, hi, hn => by
    obtain ⟨h1, h2, h3⟩ := cons_at hl
    have hp : 10 ^ i ≤ 10 ^ 3 := Nat.pow_le_pow_right (by decide) (by omega)
    have hb := u8_lt b
    refine Ev.step (fun k => turnpikeref2_octet.l0.eq_2 _ _ _ _) ?_
    simp only [if_pos (show (i : Int) < (s.size : Int) by omega), if_pos (show (0 : Int) ≤ (i : Int) by omega), h2, dval]
    by_cases ha : b.toNat < 48
    · simp only [if_pos (show (b.toNat : Int) < 48 by omega), if_neg (show ¬ (48 ≤ b.toNat ∧ b.toNat ≤ 57) by omega)]; exact Ev.now _
    · by_cases hc : 57 < b.toNat
      · simp only [if_neg (show ¬ (b.toNat : Int) < 48 by omega), if_pos (show (b.toNat : Int) > 57 by omega), if_neg (show ¬ (48 ≤ b.toNat ∧ b.toNat ≤ 57) by omega)]; exact Ev.now _
      · have e1 : ((b.toNat : Int) - 48) % 256 = ((b.toNat - 48 : Nat) : Int) := by omega
        have e2 : wrap64 (10 * (n : Int)) = ((10 * n : Nat) : Int) := by rw [w64 (by omega) (by omega)]; omega
        have e3 : wrap64 (((10 * n : Nat) : Int) + ((b.toNat - 48 : Nat) : Int)) = ((10 * n + (b.toNat - 48) : Nat) : Int) := by rw [w64 (by omega) (by omega)]; omega
        simp only [if_neg (show ¬ (b.toNat : Int) < 48 by omega), if_neg (show ¬ (b.toNat : Int) > 57 by omega), if_pos (show (48 ≤ b.toNat ∧ b.toNat ≤ 57) by omega), e1, e2, e3, wr1 (show i ≤ 1000000000 by omega)]
        exact octet_l0 s hs l (i + 1) _ h3 (by omega) (by rw [Nat.pow_succ]; omega)
theorem octet_f (s : ByteArray) : Ev (fun k => turnpikeref2_octet.f k s) (match octV (By s) with | some n => (n : Int) | none => -1) := by
  have hz := size_by s
  by_cases h1 : s.size < 1
  · rw [octV, if_pos (.inl (by omega))]
    unfold turnpikeref2_octet.f
    simp only [if_pos (show (s.size : Int) < 1 by omega)]
    refine Ev.step (fun k => turnpikeref2_octet.j0.eq_2 _ _ _) ?_
    exact Ev.now _
  by_cases h3 : 3 < s.size
  · rw [octV, if_pos (.inr (.inl (by omega)))]
    unfold turnpikeref2_octet.f
    simp only [if_neg (show ¬ (s.size : Int) < 1 by omega), if_pos (show (s.size : Int) > 3 by omega)]
    refine Ev.step (fun k => turnpikeref2_octet.j0.eq_2 _ _ _) ?_
    exact Ev.now _
  have key : Ev (fun k => turnpikeref2_octet.j0 k s false) (match (match dval 0 (By s) with | some n => if 255 < n then none else some n | none => none) with | some n => (n : Int) | none => -1) := by
    refine Ev.step (fun k => turnpikeref2_octet.j0.eq_2 _ _ _) ?_
    simp only [Bool.false_eq_true, if_false]
    have := octet_l0 s (by omega) (By s) 0 0 rfl (by omega) (by simp)
    cases hd : dval 0 (By s) with
    | none => rw [hd] at this; exact this
    | some m =>
      rw [hd] at this
      by_cases hm : 255 < m
      · simp only [if_pos hm] at this ⊢; exact this
      · simp only [if_neg hm] at this ⊢; exact this
  obtain ⟨c, l, hl⟩ : ∃ c l, By s = c :: l := by
    cases h : By s with
    | nil => rw [h, List.length_nil] at hz; omega
    | cons c l => exact ⟨c, l, rfl⟩
  obtain ⟨_, hc, _⟩ := cons_at (s := s) (i := 0) (c := c) (l := l) (by simpa using hl)
  unfold turnpikeref2_octet.f
  simp only [if_neg (show ¬ (s.size : Int) < 1 by omega), if_neg (show ¬ (s.size : Int) > 3 by omega)]
  by_cases h2 : 1 < s.size
  · simp only [if_pos (show (s.size : Int) > 1 by omega), if_pos (show (0 : Int) < (s.size : Int) by omega)]
    have hc' : bt s 0 = (c.toNat : Int) := hc
    by_cases h48 : c = 48
    · rw [octV, if_pos (.inr (.inr ⟨by omega, by rw [hl, h48]; rfl⟩))]
      have : (bt s 0 == 48) = true := by rw [hc', h48]; rfl
      simp only [this]
      refine Ev.step (fun k => turnpikeref2_octet.j0.eq_2 _ _ _) ?_
      exact Ev.now _
    · have : (bt s 0 == 48) = false := by
        rw [hc']; simp only [beq_eq_false_iff_ne]; intro e
        exact h48 (u8_eq.2 (by show c.toNat = 48; omega))
      simp only [this]
      rw [octV, if_neg (by rintro (h | h | ⟨_, h⟩)
                           · omega
                           · omega
                           · rw [hl] at h; simp at h; exact h48 h)]
      exact key
  · simp only [if_neg (show ¬ (s.size : Int) > 1 by omega)]
    rw [octV, if_neg (by rintro (h | h | ⟨h, _⟩) <;> omega)]
    exact key

/-! ### four octets -/
theorem octet_p (p : List UInt8) : Ev (fun k => turnpikeref2_octet.f k (OfBy p)) (match octV p with | some n => (n : Int) | none => -1) := by
  have := octet_f (OfBy p)
  rwa [by_ofBy] at this
theorem dotted_step (qs : List ByteArray) (h4 : qs.length = 4) (p : List UInt8) (j : Nat) (hj : j < 4) (hq : rdOf ByteArray.empty qs (j : Int) = OfBy p) (v : Nat) (hv : v < 16777216) (r : Int × Bool)
    (hnone : octV p = none → r = (0, false)) (hsome : ∀ n, octV p = some n → Ev (fun k => turnpikeref2_dotted.l0 k qs ((v * 256 + n : Nat) : Int) ((j + 1 : Nat) : Int)) r) :
    Ev (fun k => turnpikeref2_dotted.l0 k qs (v : Int) (j : Int)) r := by
  refine Ev.step (fun k => turnpikeref2_dotted.l0.eq_2 _ _ _ _) ?_
  simp only [if_pos (show (j : Int) < 4 by omega), if_pos (show (0 : Int) ≤ (j : Int) by omega), if_pos (show (j : Int) < (qs.length : Int) by omega), hq]
  refine Ev.bind (octet_p p) ?_
  cases h : octV p with
  | none => simp only [if_pos (show (-1 : Int) < 0 by decide)]; rw [hnone h]; exact Ev.now _
  | some n =>
    have hn := octV_lt h
    have e1 : IntKind.u64.wrap (256 * (v : Int)) = ((256 * v : Nat) : Int) := by rw [u64w (by omega) (by omega)]; omega
    have e2 : IntKind.u64.wrap (n : Int) = (n : Int) := u64w (by omega) (by omega)
    have e3 : IntKind.u64.wrap (((256 * v : Nat) : Int) + (n : Int)) = ((v * 256 + n : Nat) : Int) := by rw [u64w (by omega) (by omega)]; omega
    simp only [if_neg (show ¬ (n : Int) < 0 by omega), e1, e2, e3, wr1 (show j ≤ 1000000000 by omega)]
    exact hsome n h
theorem dotted_f (s : ByteArray) (hs : s.size ≤ 2097152) : Ev (fun k => turnpikeref2_dotted.f k s) (match dotV (By s) with | some n => ((n : Int), true) | none => (0, false)) := by
  unfold turnpikeref2_dotted.f
  refine Ev.bind (split_f s 46 hs) ?_
  unfold dotV
  generalize pieces 46 (By s) = ps
  match ps with
  | [a, b, c, d] =>
    simp only [List.map_cons, List.map_nil, List.length_cons, List.length_nil, four]
    simp only [if_pos (show (((0 + 1 + 1 + 1 + 1 : Nat) : Int) = 4) from rfl)]
    refine dotted_step _ rfl a 0 (by omega) rfl 0 (by omega) _ (fun h => by rw [h]) (fun x hx => ?_)
    have := octV_lt hx
    refine dotted_step _ rfl b 1 (by omega) rfl _ (by omega) _ (fun h => by rw [hx, h]) (fun y hy => ?_)
    have := octV_lt hy
    refine dotted_step _ rfl c 2 (by omega) rfl _ (by omega) _ (fun h => by rw [hx, hy, h]) (fun z hz => ?_)
    have := octV_lt hz
    refine dotted_step _ rfl d 3 (by omega) rfl _ (by omega) _ (fun h => by rw [hx, hy, hz, h]) (fun u hu => ?_)
    refine Ev.step (fun k => turnpikeref2_dotted.l0.eq_2 _ _ _ _) ?_
    rw [hx, hy, hz, hu]
    simp only [Nat.zero_mul, Nat.zero_add, if_neg (show ¬ ((3 + 1 : Nat) : Int) < 4 by decide)]
    exact Ev.now _
  | [] => exact Ev.now _
  | [_] => exact Ev.now _
  | [_, _] => exact Ev.now _
  | [_, _, _] => exact Ev.now _
  | a :: b :: c :: d :: e :: r =>
    simp only [List.map_cons, List.length_cons, four]
    simp only [if_neg (show ¬ (((List.map OfBy r).length + 1 + 1 + 1 + 1 + 1 : Nat) : Int) = 4 by omega)]
    exact Ev.now _

/-! ### the same, as the program reads it -/
/-- digits at the head, as long as the number stays below 256 and has no nought ahead (m: how many were read, z: was the first a nought?): the number, how many, the rest -/
def scan (d m : Nat) (z : Bool) : List UInt8 → Option (Nat × Nat × List UInt8)
  | [] => some (d, m, [])
  | c :: l => if 48 ≤ c.toNat ∧ c.toNat ≤ 57 then
      (if 255 < 10 * d + (c.toNat - 48) ∨ (0 < m ∧ (z : Bool) = true) then none else scan (10 * d + (c.toNat - 48)) (m + 1) (if m = 0 then decide (c = 48) else z) l)
    else some (d, m, c :: l)
/-- so many parts to go -/
def quadV : Nat → Nat → List UInt8 → Option Nat
  | 0, _, _ => none
  | p + 1, n, l => match scan 0 0 false l with
    | none => none
    | some (_, 0, _) => none
    | some (d, _ + 1, r) => if p = 0 then (if r = [] then some (n * 256 + d) else none) else
      match r with
      | [] => none
      | c :: r => if c = 46 then quadV p (n * 256 + d) r else none
theorem or_shift (n d : Nat) (hn : n < 16777216) (hd : d < 256) : Go.bits .or .u64 ((n * 256 : Nat) : Int) (d : Int) = ((n * 256 + d : Nat) : Int) := by
  rw [u64_or_nat _ _ (by omega) (by omega)]
  have : n * 256 ||| d = n * 256 + d := by
    have := Nat.two_pow_add_eq_or_of_lt (i := 8) (b := d) (by omega) n
    rw [show (2 : Nat) ^ 8 = 256 from rfl, Nat.mul_comm] at this
    exact this.symm
  rw [this]
theorem quad_scan (s : ByteArray) (hs : s.size ≤ 2097152) (x4 x9 : Int) (fr : Nat) (r : Int × Bool) : ∀ (l : List UInt8) (i d m : Nat) (z : Bool), (By s).drop i = l → i ≤ s.size → i = fr + m → d < 256 → (0 < m → (z = true ↔ bt s (fr : Int) = 48)) →
    (scan d m z l = none → r = (0, false)) →
    (∀ d' m' l', scan d m z l = some (d', m', l') → (By s).drop (fr + m') = l' → fr + m' ≤ s.size → d' < 256 → Ev (fun k => addr_quad.j2 k s x4 ((fr + m' : Nat) : Int) x9 (fr : Int) (d' : Int) x9 false) r) →
    Ev (fun k => addr_quad.l1 k s x4 (i : Int) x9 (fr : Int) (d : Int) x9) r
  | [], i, d, m, z, hl, hi, hm, hd, hz, hnone, hsome => by
    have h1 := nil_at hl
    refine Ev.step (fun k => addr_quad.l1.eq_2 _ _ _ _ _ _ _ _) ?_
    simp only [if_neg (show ¬ (i : Int) < (s.size : Int) by omega)]
    have := hsome d m [] rfl (by rw [← hm]; exact hl) (by omega) hd
    rw [← hm] at this
    exact this
  | c :: l, i, d, m, z, hl, hi, hm, hd, hz, hnone, hsome => by
    obtain ⟨h1, h2, h3⟩ := cons_at hl
    have hb := u8_lt c
    refine Ev.step (fun k => addr_quad.l1.eq_2 _ _ _ _ _ _ _ _) ?_
    simp only [if_pos (show (i : Int) < (s.size : Int) by omega), if_pos (show (0 : Int) ≤ (i : Int) by omega), h2]
    by_cases hc : 48 ≤ c.toNat ∧ c.toNat ≤ 57
    · have e1 : ((c.toNat : Int) - 48) % 256 = ((c.toNat - 48 : Nat) : Int) := by omega
      have e2 : IntKind.u64.wrap ((d : Int) * 10) = ((10 * d : Nat) : Int) := by rw [u64w (by omega) (by omega)]; omega
      have e3 : IntKind.u64.wrap (((10 * d : Nat) : Int) + ((c.toNat - 48 : Nat) : Int)) = ((10 * d + (c.toNat - 48) : Nat) : Int) := by rw [u64w (by omega) (by omega)]; omega
      have e4 : wrap64 (((i + 1 : Nat) : Int) - (fr : Int)) = ((m + 1 : Nat) : Int) := by rw [w64 (by omega) (by omega)]; omega
      simp only [if_pos (show (c.toNat : Int) ≥ 48 by omega), decide_eq_true (show (c.toNat : Int) ≤ 57 by omega)]
      refine Ev.step (fun k => addr_quad.j2.eq_2 _ _ _ _ _ _ _ _ _) ?_
      simp only [if_pos (show (i : Int) < (s.size : Int) by omega), if_pos (show (0 : Int) ≤ (i : Int) by omega), h2, if_true, e1, e2, e3, wr1 (show i ≤ 1000000000 by omega), e4]
      rw [scan, if_pos hc] at hnone
      by_cases h255 : 255 < 10 * d + (c.toNat - 48)
      · simp only [if_pos (show ((10 * d + (c.toNat - 48) : Nat) : Int) > 255 by omega)]
        rw [if_pos (.inl h255)] at hnone
        rw [hnone rfl]; exact Ev.now _
      · simp only [if_neg (show ¬ ((10 * d + (c.toNat - 48) : Nat) : Int) > 255 by omega)]
        have go : ∀ z', ¬ (255 < 10 * d + (c.toNat - 48) ∨ (0 < m ∧ z = true)) → (z' = if m = 0 then decide (c = 48) else z) → Ev (fun k => addr_quad.l1 k s x4 ((i + 1 : Nat) : Int) x9 (fr : Int) ((10 * d + (c.toNat - 48) : Nat) : Int) x9) r := by
          intro z' hno hz'
          rw [if_neg hno] at hnone
          refine quad_scan s hs x4 x9 fr r l (i + 1) _ (m + 1) z' h3 (by omega) (by omega) (by omega) (fun _ => ?_) (by rw [hz']; exact hnone) ?_
          · by_cases hm0 : m = 0
            · rw [hz', if_pos hm0]
              have : (fr : Int) = (i : Int) := by omega
              rw [this, h2, decide_eq_true_iff]
              constructor
              · rintro rfl; rfl
              · intro e; exact u8_eq.2 (by show c.toNat = 48; omega)
            · rw [hz', if_neg hm0]; exact hz (by omega)
          · intro d' m' l' hsc
            refine hsome d' m' l' ?_
            rw [scan, if_pos hc, if_neg hno, ← hz']
            exact hsc
        by_cases hm1 : 1 < m + 1
        · have hfr : fr < s.size := by omega
          simp only [if_pos (show ((m + 1 : Nat) : Int) > 1 by omega), if_pos (show (0 : Int) ≤ (fr : Int) by omega), if_pos (show (fr : Int) < (s.size : Int) by omega)]
          by_cases hz48 : bt s (fr : Int) = 48
          · simp only [if_pos hz48]
            rw [if_pos (.inr ⟨by omega, (hz (by omega)).2 hz48⟩)] at hnone
            rw [hnone rfl]; exact Ev.now _
          · simp only [if_neg hz48]
            exact go _ (by rintro (h | ⟨_, h⟩)
                           · exact h255 h
                           · exact hz48 ((hz (by omega)).1 h)) rfl
        · simp only [if_neg (show ¬ ((m + 1 : Nat) : Int) > 1 by omega)]
          exact go _ (by rintro (h | ⟨h, _⟩)
                         · exact h255 h
                         · omega) rfl
    · have hres := hsome d m (c :: l) (by rw [scan, if_neg hc]) (by rw [← hm]; exact hl) (by omega) hd
      rw [← hm] at hres
      by_cases h48 : 48 ≤ c.toNat
      · simp only [if_pos (show (c.toNat : Int) ≥ 48 by omega), decide_eq_false (show ¬ (c.toNat : Int) ≤ 57 by omega)]
        exact hres
      · simp only [if_neg (show ¬ (c.toNat : Int) ≥ 48 by omega)]
        exact hres
theorem quad_j2 (s : ByteArray) (hs : s.size ≤ 2097152) (n p q fr m d : Nat) (l : List UInt8) (hl : (By s).drop (fr + m) = l) (hi : fr + m ≤ s.size) (hp : p + q = 3) (hn : n < 256 ^ q) (hd : d < 256) (r : Int × Bool)
    (h0 : m = 0 → r = (0, false)) (hend : 0 < m → p = 0 → r = (((n * 256 + d : Nat) : Int), decide (l = []))) (hnil : 0 < m → p ≠ 0 → l = [] → r = (0, false))
    (hno : ∀ c l', 0 < m → p ≠ 0 → l = c :: l' → c ≠ 46 → r = (0, false))
    (hgo : ∀ l', 0 < m → p ≠ 0 → l = 46 :: l' → (By s).drop (fr + m + 1) = l' → fr + m + 1 ≤ s.size → Ev (fun k => addr_quad.l0 k s ((n * 256 + d : Nat) : Int) ((fr + m + 1 : Nat) : Int) ((q + 1 : Nat) : Int)) r) :
    Ev (fun k => addr_quad.j2 k s (n : Int) ((fr + m : Nat) : Int) (q : Int) (fr : Int) (d : Int) (q : Int) false) r := by
  have hn3 : 256 ^ q ≤ 256 ^ 3 := Nat.pow_le_pow_right (by decide) (by omega)
  have e1 : IntKind.u64.wrap ((n : Int) * 256) = ((n * 256 : Nat) : Int) := by rw [u64w (by omega) (by omega)]; omega
  have e2 : Go.bits .or .u64 ((n * 256 : Nat) : Int) (d : Int) = ((n * 256 + d : Nat) : Int) := by
    by_cases hb : n < 16777216
    · exact or_shift n d hb hd
    · omega
  refine Ev.step (fun k => addr_quad.j2.eq_2 _ _ _ _ _ _ _ _ _) ?_
  simp only [Bool.false_eq_true, if_false, e1, e2]
  by_cases hm : m = 0
  · simp only [if_pos (show ((fr + m : Nat) : Int) = (fr : Int) by omega)]
    rw [h0 hm]; exact Ev.now _
  simp only [if_neg (show ¬ ((fr + m : Nat) : Int) = (fr : Int) by omega)]
  by_cases hp0 : p = 0
  · simp only [if_pos (show (q : Int) = 3 by omega)]
    rw [hend (by omega) hp0]
    have hz := drop_len hl hi
    cases l with
    | nil =>
      have : (((fr + m : Nat) : Int) == (s.size : Int)) = true := by simp; simp at hz; omega
      rw [this]; exact Ev.now _
    | cons c l =>
      have : (((fr + m : Nat) : Int) == (s.size : Int)) = false := by
        simp only [List.length_cons] at hz
        simp only [beq_eq_false_iff_ne, ne_eq]; omega
      rw [this]; exact Ev.now _
  simp only [if_neg (show ¬ (q : Int) = 3 by omega)]
  have hz := drop_len hl hi
  cases l with
  | nil =>
    simp only [List.length_nil] at hz
    simp only [if_pos (show ((fr + m : Nat) : Int) = (s.size : Int) by omega)]
    rw [hnil (by omega) hp0 rfl]; exact Ev.now _
  | cons c l =>
    obtain ⟨h1, h2, h3⟩ := cons_at hl
    simp only [if_neg (show ¬ ((fr + m : Nat) : Int) = (s.size : Int) by omega), if_pos (show (0 : Int) ≤ ((fr + m : Nat) : Int) by omega), if_pos (show ((fr + m : Nat) : Int) < (s.size : Int) by omega), h2]
    by_cases hc : c = 46
    · subst hc
      simp only [if_pos (show (((46 : UInt8).toNat : Nat) : Int) = 46 from rfl), wr1 (show fr + m ≤ 1000000000 by omega), wr1 (show q ≤ 1000000000 by omega)]
      exact hgo l (by omega) hp0 rfl h3 (by omega)
    · simp only [if_neg (show ¬ (c.toNat : Int) = 46 from fun e => hc (u8_eq.2 (by show c.toNat = 46; omega)))]
      rw [hno c l (by omega) hp0 rfl hc]; exact Ev.now _
theorem quad_l0 (s : ByteArray) (hs : s.size ≤ 2097152) : ∀ (p q n i : Nat) (l : List UInt8), p + q = 3 → n < 256 ^ q → (By s).drop i = l → i ≤ s.size →
    (∀ v, quadV (p + 1) n l = some v → Ev (fun k => addr_quad.l0 k s (n : Int) (i : Int) (q : Int)) ((v : Int), true)) ∧
    (quadV (p + 1) n l = none → ∃ v : Nat, v < 4294967296 ∧ Ev (fun k => addr_quad.l0 k s (n : Int) (i : Int) (q : Int)) ((v : Int), false))
  := by
    intro p
    induction p using Nat.strongRecOn with
    | ind p IH =>
    intro q n i l hp hn hl hi
    have hn3 : 256 ^ q ≤ 256 ^ 3 := Nat.pow_le_pow_right (by decide) (by omega)
    have start : ∀ r, Ev (fun k => addr_quad.l1 k s (n : Int) (i : Int) (q : Int) (i : Int) ((0 : Nat) : Int) (q : Int)) r → Ev (fun k => addr_quad.l0 k s (n : Int) (i : Int) (q : Int)) r := by
      intro r h
      refine Ev.step (fun k => addr_quad.l0.eq_2 _ _ _ _ _) ?_
      simp only [if_pos (show (q : Int) < 4 by omega)]
      exact h
    have scan_ := fun r => quad_scan s hs (n : Int) (q : Int) i r l i 0 0 false hl hi rfl (by omega) (by omega)
    rw [quadV]
    cases hsc : scan 0 0 false l with
    | none =>
      exact ⟨fun v h => (by cases h), fun _ => ⟨0, by omega, start _ (scan_ _ (fun _ => rfl) (fun d' m' l' h => by rw [hsc] at h; cases h))⟩⟩
    | some x =>
      obtain ⟨d, m, l'⟩ := x
      have go : ∀ r, ((By s).drop (i + m) = l' → i + m ≤ s.size → d < 256 → Ev (fun k => addr_quad.j2 k s (n : Int) ((i + m : Nat) : Int) (q : Int) (i : Int) (d : Int) (q : Int) false) r) → Ev (fun k => addr_quad.l0 k s (n : Int) (i : Int) (q : Int)) r := by
        intro r h
        refine start _ (scan_ _ (fun e => by rw [hsc] at e; cases e) (fun d' m' l'' e h1 h2 h3 => ?_))
        rw [hsc] at e
        cases e
        exact h h1 h2 h3
      cases m with
      | zero =>
        refine ⟨fun v h => (by cases h), fun _ => ⟨0, by omega, go _ (fun h1 h2 h3 => ?_)⟩⟩
        exact quad_j2 s hs n p q i 0 d l' h1 h2 hp hn h3 _ (fun _ => rfl) (by omega) (by omega) (by omega) (by omega)
      | succ m =>
        simp only
        by_cases hp0 : p = 0
        · subst hp0
          obtain rfl : q = 3 := by omega
          simp only [if_true]
          have fin := fun h1 h2 h3 => quad_j2 s hs n 0 3 i (m + 1) d l' h1 h2 hp hn h3 _ (by omega) (fun _ _ => rfl) (by omega) (by omega) (by omega)
          by_cases hl' : l' = []
          · rw [if_pos hl']
            refine ⟨fun v h => ?_, fun h => (by cases h)⟩
            cases h
            have := go _ fin
            rwa [decide_eq_true hl'] at this
          · rw [if_neg hl']
            refine ⟨fun v h => (by cases h), fun _ => ?_⟩
            have hd : ∀ h1 : (By s).drop (i + (m + 1)) = l', True := fun _ => trivial
            by_cases hdd : d < 256
            · have := go _ fin
              rw [decide_eq_false hl'] at this
              exact ⟨n * 256 + d, by omega, this⟩
            · exact ⟨0, by omega, go _ (fun _ _ h3 => absurd h3 hdd)⟩
        · rw [if_neg hp0]
          cases l' with
          | nil =>
            refine ⟨fun v h => (by cases h), fun _ => ⟨0, by omega, go _ (fun h1 h2 h3 => ?_)⟩⟩
            exact quad_j2 s hs n p q i (m + 1) d [] h1 h2 hp hn h3 _ (by omega) (by omega) (fun _ _ _ => rfl) (fun c l _ _ e => by cases e) (fun l _ _ e => by cases e)
          | cons c l' =>
            simp only
            by_cases hc : c = 46
            · subst hc
              rw [if_pos rfl]
              obtain ⟨p, rfl⟩ : ∃ p', p = p' + 1 := ⟨p - 1, by omega⟩
              have step : ∀ r, (d < 256 → (By s).drop (i + (m + 1) + 1) = l' → i + (m + 1) + 1 ≤ s.size → Ev (fun k => addr_quad.l0 k s ((n * 256 + d : Nat) : Int) ((i + (m + 1) + 1 : Nat) : Int) ((q + 1 : Nat) : Int)) r) → Ev (fun k => addr_quad.l0 k s (n : Int) (i : Int) (q : Int)) r := by
                intro r h
                refine go _ (fun h1 h2 h3 => ?_)
                exact quad_j2 s hs n (p + 1) q i (m + 1) d (46 :: l') h1 h2 hp hn h3 _ (by omega) (by omega) (fun _ _ e => by cases e) (fun c l _ _ e hc => by cases e; exact absurd rfl hc) (fun l _ _ e h5 h6 => by cases e; exact h h3 h5 h6)
              by_cases hdd : d < 256
              · by_cases hx : (By s).drop (i + (m + 1) + 1) = l' ∧ i + (m + 1) + 1 ≤ s.size
                · have ih := IH p (by omega) (q + 1) (n * 256 + d) (i + (m + 1) + 1) l' (by omega) (by rw [Nat.pow_succ]; omega) hx.1 hx.2
                  refine ⟨fun v h => step _ (fun _ _ _ => ih.1 v h), fun h => ?_⟩
                  obtain ⟨v, hv, h⟩ := ih.2 h
                  exact ⟨v, hv, step _ (fun _ _ _ => h)⟩
                · exact ⟨fun v _ => step _ (fun _ h5 h6 => absurd ⟨h5, h6⟩ hx), fun _ => ⟨0, by omega, step _ (fun _ h5 h6 => absurd ⟨h5, h6⟩ hx)⟩⟩
              · exact ⟨fun v _ => step _ (fun h3 _ _ => absurd h3 hdd), fun _ => ⟨0, by omega, step _ (fun h3 _ _ => absurd h3 hdd)⟩⟩
            · rw [if_neg hc]
              refine ⟨fun v h => (by cases h), fun _ => ⟨0, by omega, go _ (fun h1 h2 h3 => ?_)⟩⟩
              exact quad_j2 s hs n p q i (m + 1) d (c :: l') h1 h2 hp hn h3 _ (by omega) (by omega) (fun _ _ e => by cases e) (fun _ _ _ _ _ _ => rfl) (fun l _ _ e => by cases e; exact absurd rfl hc)
/-- what the program's reader of four numbers tells -/
theorem quad_f (s : ByteArray) (hs : s.size ≤ 2097152) : (∀ v, quadV 4 0 (By s) = some v → Ev (fun k => addr_quad.f k s) ((v : Int), true)) ∧
    (quadV 4 0 (By s) = none → ∃ v : Nat, v < 4294967296 ∧ Ev (fun k => addr_quad.f k s) ((v : Int), false)) := by
  have h := quad_l0 s hs 3 0 0 0 (By s) rfl (by decide) rfl (by omega)
  rw [show ((0 : Nat) : Int) = 0 from rfl] at h
  unfold addr_quad.f
  exact h

/-! ### the two readers of four numbers agree -/
def isd (c : UInt8) : Prop := 48 ≤ c.toNat ∧ c.toNat ≤ 57
def dv (d : Nat) (l : List UInt8) : Nat := l.foldl (fun n c => 10 * n + (c.toNat - 48)) d
theorem dv_cons (d : Nat) (c : UInt8) (l : List UInt8) : dv d (c :: l) = dv (10 * d + (c.toNat - 48)) l := by unfold dv; rw [List.foldl_cons]
theorem dv_ge (d : Nat) (l : List UInt8) : d * 10 ^ l.length ≤ dv d l := by
  induction l generalizing d with
  | nil => simp [dv]
  | cons c l ih =>
    rw [dv_cons, List.length_cons, Nat.pow_succ]
    refine Nat.le_trans ?_ (ih _)
    rw [Nat.mul_comm (10 ^ l.length) 10, ← Nat.mul_assoc]
    exact Nat.mul_le_mul_right _ (by omega)
theorem dv_mono (d : Nat) (l : List UInt8) : d ≤ dv d l := Nat.le_trans (Nat.le_mul_of_pos_right _ (Nat.pow_pos (by decide))) (dv_ge d l)
theorem dval_dv (d : Nat) (l : List UInt8) (h : ∀ c ∈ l, isd c) : dval d l = some (dv d l) := by
  induction l generalizing d with
  | nil => rfl
  | cons c l ih =>
    have h1 := h c (List.mem_cons_self ..)
    unfold isd at h1
    rw [dval, if_pos h1, dv_cons]
    exact ih _ (fun b hb => h b (List.mem_cons_of_mem _ hb))
theorem dval_no (d : Nat) (p : List UInt8) (c : UInt8) (l : List UInt8) (hc : ¬ isd c) : dval d (p ++ c :: l) = none := by
  induction p generalizing d with
  | nil => unfold isd at hc; rw [List.nil_append, dval, if_neg hc]
  | cons b p ih =>
    rw [List.cons_append, dval]
    split
    · exact ih _
    · rfl
/-- the digits at the head of a text -/
theorem digits (l : List UInt8) : ∃ p r, l = p ++ r ∧ (∀ c ∈ p, isd c) ∧ (r = [] ∨ ∃ c r', r = c :: r' ∧ ¬ isd c) := by
  induction l with
  | nil => exact ⟨[], [], rfl, by simp, .inl rfl⟩
  | cons c l ih =>
    by_cases hc : isd c
    · obtain ⟨p, r, rfl, h1, h2⟩ := ih
      refine ⟨c :: p, r, rfl, ?_, h2⟩
      intro b hb
      rcases List.mem_cons.1 hb with e | hb
      · rw [e]; exact hc
      · exact h1 b hb
    · exact ⟨[], c :: l, rfl, by simp, .inr ⟨c, l, rfl, hc⟩⟩
theorem scan_none (d m : Nat) (z : Bool) (r : List UInt8) (hr : r = [] ∨ ∃ c r', r = c :: r' ∧ ¬ isd c) : scan d m z r = some (d, m, r) := by
  rcases hr with rfl | ⟨c, r', rfl, hc⟩
  · rfl
  · unfold isd at hc
    rw [scan, if_neg hc]
theorem scan_eq (p r : List UInt8) (hp : ∀ c ∈ p, isd c) (hr : r = [] ∨ ∃ c r', r = c :: r' ∧ ¬ isd c) : ∀ (d m : Nat) (z : Bool) (c : UInt8) (t : List UInt8), p = c :: t →
    scan d m z (p ++ r) = if (0 < m ∧ z = true) ∨ (m = 0 ∧ c = 48 ∧ t ≠ []) ∨ 255 < dv d p then none else some (dv d p, m + p.length, r) := by
  induction p with
  | nil => intro d m z c t h; cases h
  | cons b p ih =>
    intro d m z c t h
    cases h
    have hb := hp b (List.mem_cons_self ..)
    unfold isd at hb
    rw [List.cons_append, scan, if_pos hb]
    cases p with
    | nil =>
      rw [List.nil_append, scan_none _ _ _ _ hr, dv_cons]
      have e0 : dv (10 * d + (b.toNat - 48)) [] = 10 * d + (b.toNat - 48) := by unfold dv; rw [List.foldl_nil]
      rw [e0]
      by_cases h1 : 255 < 10 * d + (b.toNat - 48)
      · rw [if_pos (.inl h1), if_pos (.inr (.inr h1))]
      · by_cases h2 : 0 < m ∧ z = true
        · rw [if_pos (.inr h2), if_pos (.inl h2)]
        · rw [if_neg (by rintro (h | h)
                         · exact h1 h
                         · exact h2 h), if_neg (by rintro (h | ⟨_, _, h⟩ | h)
                                                   · exact h2 h
                                                   · exact h rfl
                                                   · exact h1 h)]
          rfl
    | cons c2 t2 =>
      have ih' := ih (fun x hx => hp x (List.mem_cons_of_mem _ hx)) (10 * d + (b.toNat - 48)) (m + 1) (if m = 0 then decide (b = 48) else z) c2 t2 rfl
      rw [ih', dv_cons d b]
      have hm := dv_mono (10 * d + (b.toNat - 48)) (c2 :: t2)
      by_cases h2 : 0 < m ∧ z = true
      · rw [if_pos (.inr h2), if_pos (.inl h2)]
      · by_cases h3 : m = 0 ∧ b = 48
        · rw [if_pos (show (0 < m ∧ z = true) ∨ (m = 0 ∧ b = 48 ∧ c2 :: t2 ≠ []) ∨ _ from .inr (.inl ⟨h3.1, h3.2, by simp⟩))]
          split
          · rfl
          · rw [if_pos (.inl ⟨by omega, by rw [if_pos h3.1, decide_eq_true h3.2]⟩)]
        · by_cases h4 : 255 < dv (10 * d + (b.toNat - 48)) (c2 :: t2)
          · rw [if_pos (show (0 < m ∧ z = true) ∨ _ ∨ 255 < _ from .inr (.inr h4))]
            split
            · rfl
            · rw [if_pos (.inr (.inr h4))]
          · rw [if_neg (show ¬ (255 < 10 * d + (b.toNat - 48) ∨ 0 < m ∧ z = true) by
              rintro (h | h)
              · omega
              · exact h2 h)]
            rw [if_neg (show ¬ ((0 < m ∧ z = true) ∨ (m = 0 ∧ b = 48 ∧ c2 :: t2 ≠ []) ∨ 255 < dv (10 * d + (b.toNat - 48)) (c2 :: t2)) by
              rintro (h | ⟨h5, h6, _⟩ | h)
              · exact h2 h
              · exact h3 ⟨h5, h6⟩
              · exact h4 h)]
            rw [if_neg (by
              rintro (⟨_, h⟩ | ⟨h, _⟩ | h)
              · by_cases hm0 : m = 0
                · rw [if_pos hm0] at h; exact h3 ⟨hm0, of_decide_eq_true h⟩
                · rw [if_neg hm0] at h; exact h2 ⟨by omega, h⟩
              · omega
              · exact h4 h)]
            simp only [List.length_cons]
            congr 3
            omega
theorem octV_digits (c : UInt8) (t : List UInt8) (hp : ∀ x ∈ c :: t, isd x) : octV (c :: t) = if (c = 48 ∧ t ≠ []) ∨ 255 < dv 0 (c :: t) then none else some (dv 0 (c :: t)) := by
  have hc := hp c (List.mem_cons_self ..)
  unfold isd at hc
  unfold octV
  rw [dval_dv _ _ hp]
  simp only [List.length_cons, List.head?_cons, Option.some.injEq]
  by_cases h48 : c = 48 ∧ t ≠ []
  · have : 0 < t.length := List.length_pos_iff.2 h48.2
    rw [if_pos (.inr (.inr ⟨by omega, h48.1⟩)), if_pos (.inl h48)]
  · by_cases hl : 3 < t.length + 1
    · rw [if_pos (.inr (.inl hl)), if_pos]
      right
      have hne : c ≠ 48 := fun e => h48 ⟨e, fun e2 => by rw [e2] at hl; simp at hl⟩
      have hge := dv_ge (10 * 0 + (c.toNat - 48)) t
      have h10 : 10 ^ 3 ≤ 10 ^ t.length := Nat.pow_le_pow_right (by decide) (by omega)
      have h1 : 1 ≤ c.toNat - 48 := by
        have : c.toNat ≠ 48 := fun e => hne (u8_eq.2 e)
        omega
      have : 1 * 10 ^ t.length ≤ (10 * 0 + (c.toNat - 48)) * 10 ^ t.length := Nat.mul_le_mul_right _ (by omega)
      rw [dv_cons]; omega
    · rw [if_neg (by rintro (h | h | ⟨h, h'⟩)
                     · omega
                     · exact hl h
                     · exact h48 ⟨h', fun e => by rw [e] at h; simp at h⟩)]
      by_cases h : 255 < dv 0 (c :: t)
      · rw [if_pos h, if_pos (.inr h)]
      · rw [if_neg h, if_neg (by rintro (h' | h')
                                 · exact h48 h'
                                 · exact h h')]
theorem octV_no (p : List UInt8) (c : UInt8) (l : List UInt8) (hc : ¬ isd c) : octV (p ++ c :: l) = none := by
  unfold octV
  rw [dval_no _ _ _ _ hc]
  split <;> rfl
/-- so many octets, as numbers of base 256 from n on -/
def parts : Nat → Nat → List (List UInt8) → Option Nat
  | 0, _, _ => none
  | _ + 1, _, [] => none
  | p + 1, n, a :: ps => match octV a with
    | none => none
    | some d => if p = 0 then (if ps = [] then some (n * 256 + d) else none) else parts p (n * 256 + d) ps
theorem quad_parts (p : Nat) : ∀ (n : Nat) (l : List UInt8), quadV p n l = parts p n (pieces 46 l) := by
  induction p with
  | zero => intro n l; rfl
  | succ p ih =>
    intro n l
    obtain ⟨dg, r, rfl, hd, hr⟩ := digits l
    have h46 : ∀ x ∈ dg, x ≠ 46 := fun x hx e => by
      have := hd x hx
      rw [e] at this
      exact absurd this.1 (by decide)
    have hn46 : (46 : UInt8) ∉ dg := fun h => h46 46 h rfl
    have hsc : scan 0 0 false (dg ++ r) = match dg with
        | [] => some (0, 0, r)
        | c :: t => if (c = 48 ∧ t ≠ []) ∨ 255 < dv 0 (c :: t) then none else some (dv 0 (c :: t), t.length + 1, r) := by
      cases dg with
      | nil => exact scan_none _ _ _ _ hr
      | cons c t =>
        rw [scan_eq (c :: t) r hd hr 0 0 false c t rfl]
        simp only [Nat.lt_irrefl, false_and, false_or, true_and, Nat.zero_add, List.length_cons]
    rcases hr with rfl | ⟨c, r', rfl, hc⟩
    · rw [List.append_nil] at hsc ⊢
      rw [pieces_none _ hn46, quadV, hsc, parts]
      cases dg with
      | nil => rfl
      | cons c t =>
        rw [octV_digits c t hd]
        by_cases h : (c = 48 ∧ t ≠ []) ∨ 255 < dv 0 (c :: t)
        · simp only [if_pos h]
        · simp only [if_neg h]
          by_cases hp : p = 0
          · rw [if_pos hp, if_pos hp]
          · rw [if_neg hp, if_neg hp]
            cases p with
            | zero => exact absurd rfl hp
            | succ p => rfl
    · by_cases hc46 : c = 46
      · subst hc46
        rw [pieces_one _ _ hn46, quadV, hsc, parts]
        cases dg with
        | nil => rfl
        | cons b t =>
          rw [octV_digits b t hd]
          by_cases h : (b = 48 ∧ t ≠ []) ∨ 255 < dv 0 (b :: t)
          · simp only [if_pos h]
          · simp only [if_neg h]
            by_cases hp : p = 0
            · rw [if_pos hp, if_pos hp, if_neg (by simp), if_neg (pieces_ne _ _)]
            · rw [if_neg hp, if_neg hp, ih]; simp
      · -- a first piece that holds a sign which is no digit
        have hoct : ∃ a ps, pieces 46 (dg ++ c :: r') = a :: ps ∧ octV a = none := by
          rcases first_piece 46 r' with h | ⟨q, r2, rfl, hq⟩
          · refine ⟨dg ++ c :: r', [], pieces_none _ ?_, octV_no _ _ _ hc⟩
            intro hm
            rcases List.mem_append.1 hm with h1 | h1
            · exact hn46 h1
            · rcases List.mem_cons.1 h1 with h1 | h1
              · exact hc46 h1.symm
              · exact h h1
          · refine ⟨dg ++ c :: q, pieces 46 r2, ?_, octV_no _ _ _ hc⟩
            have := pieces_one (c := 46) (dg ++ c :: q) r2 ?_
            · simpa using this
            · intro hm
              rcases List.mem_append.1 hm with h1 | h1
              · exact hn46 h1
              · rcases List.mem_cons.1 h1 with h1 | h1
                · exact hc46 h1.symm
                · exact hq h1
        obtain ⟨a, ps, hps, ha⟩ := hoct
        rw [hps, parts, ha, quadV, hsc]
        cases dg with
        | nil => rfl
        | cons b t =>
          simp only
          split
          · rfl
          · rename_i h; split at h <;> cases h
          · rename_i h
            split at h
            · cases h
            · cases h
              simp [hc46]
theorem four_parts (ps : List (List UInt8)) : four ps = parts 4 0 ps := by
  match ps with
  | [] => rfl
  | [a] => simp only [four, parts]; cases octV a <;> rfl
  | [a, b] => simp only [four, parts]; cases octV a <;> cases octV b <;> rfl
  | [a, b, c] => simp only [four, parts]; cases octV a <;> cases octV b <;> cases octV c <;> rfl
  | [a, b, c, d] => simp only [four, parts]; cases octV a <;> cases octV b <;> cases octV c <;> cases octV d <;> simp
  | a :: b :: c :: d :: e :: r => simp only [four, parts]; cases octV a <;> cases octV b <;> cases octV c <;> cases octV d <;> simp
theorem quadV_dotV (l : List UInt8) : quadV 4 0 l = dotV l := by rw [quad_parts, dotV, four_parts]
end Go.Proofs.Ytamiaaeaehdahaa.Th
