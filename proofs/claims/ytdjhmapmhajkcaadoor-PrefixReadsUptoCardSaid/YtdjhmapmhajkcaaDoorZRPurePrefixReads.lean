/- A prefix's text read, and told: the program and the document tell the same. -/
import Derived.Test.YtdjhmapmhajkcaaDoorZRKp
import Derived.Test.YtdjhmapmhajkcaaDoorZRLr
import Derived.Test.YtdjhmapmhajkcaaDoorZRRt
import Derived.Test.YtdjhmapmhajkcaaDoorZRX5
import Derived.Test.YtdjhmapmhajkcaaDoorZRX6
import Derived.Test.YtdjhmapmhajkcaaDoorZRX34
import Derived.Test.YtdjhmapmhajkcaaDoorZRX35
import Derived.Test.YtdjhmapmhajkcaaDoorZRX37
import Derived.Test.YtdjhmapmhajkcaaDoorZRX38
namespace Go.Proofs.YtdjhmapmhajkcaaDoor.Pure
open Go.RowKit Go.Proofs.YtdjhmapmhajkcaaDoor.X Go.Proofs.YtdjhmapmhajkcaaDoorW.PrintWords Go.Proofs.YtdjhmapmhajkcaaDoor.Th
set_option linter.unusedVariables false
set_option linter.unusedSimpArgs false
theorem readV_cases {f : Int} (hf : fam f = true) (l : List UInt8) : (∃ w, w < 2 ^ 128 ∧ readV f l = (hi w, lo w, 0)) ∨ readV f l = (0, 0, 12) := by
  unfold readV
  rcases fam_cases hf with rfl | rfl
  · rw [if_pos (by decide)]
    cases h : dotV l with
    | none => exact .inr rfl
    | some n =>
      have hn := dotV_lt h
      refine .inl ⟨n * 4294967296 * 18446744073709551616, by omega, ?_⟩
      have e1 : hi (n * 4294967296 * 18446744073709551616) = ((n * 4294967296 : Nat) : Int) := by unfold hi; rw [p64]; omega
      have e2 : lo (n * 4294967296 * 18446744073709551616) = 0 := by unfold lo; rw [p64]; omega
      rw [e1, e2]
  · rw [if_neg (by decide), if_pos (by decide)]
    cases h : sixV l with
    | none => exact .inr rfl
    | some g =>
      obtain ⟨h8, hg⟩ := sixV_eight h
      exact .inl ⟨PP 0 g, PP_lt128 g hg 0 (by omega), rfl⟩
def tailV (f : Int) (w : Nat) : Option Nat → Int × Int × Int × Int
  | none => (0, 0, 0, 12)
  | some n => if checkV f w (n : Int) = 0 then (hi w, lo w, (n : Int), 0) else (0, 0, 0, checkV f w (n : Int))
theorem pbad (f n : Int) (u v : Int) : Ev (fun k => prefix_Parse.j0 k f n true u v) (0, 0, 0, 12) := by
  refine Ev.step (fun k => prefix_Parse.j0.eq_2 _ _ _ _ _ _) ?_
  simp only [if_true]; exact Ev.now _
theorem pgood (f : Int) (hf : fam f = true) (w : Nat) (hw : w < 2 ^ 128) (o : Option Nat) :
    Ev (fun k => prefix_Parse.j0 k f (lenR o).1 (!(lenR o).2) (hi w) (lo w)) (tailV f w o) := by
  cases o with
  | none => exact pbad _ _ _ _
  | some n =>
    show Ev (fun k => prefix_Parse.j0 k f (n : Int) (!true) (hi w) (lo w)) (tailV f w (some n))
    refine Ev.step (fun k => prefix_Parse.j0.eq_2 _ _ _ _ _ _) ?_
    simp only [Bool.not_true, Bool.false_eq_true, if_false, tailV]
    unfold checkV
    rw [if_pos hf]
    by_cases h1 : (n : Int) > f
    · simp only [if_pos h1, if_pos (show (n : Int) < 0 ∨ f < (n : Int) by omega), if_neg (show ¬ (13 : Int) = 0 by decide)]; exact Ev.now _
    · simp only [if_neg h1, if_neg (show ¬ ((n : Int) < 0 ∨ f < (n : Int)) by omega), pmask, Option.bind_some, pand w _ hw (mk_lt n), ne_iff, Int.toNat_natCast]
      by_cases h2 : w &&& mk n = w
      · simp only [h2, ne_eq, not_true_eq_false, decide_false, Bool.false_eq_true, if_false, if_true]; exact Ev.now _
      · simp only [ne_eq, h2, not_false_eq_true, decide_true, if_true, if_false, if_neg (show ¬ (14 : Int) = 0 by decide)]; exact Ev.now _
theorem rl1 (f : Int) (w : Nat) (hw : w < 2 ^ 128) (d : ByteArray) (hd : d.size ≤ 3) : ∀ (l : List UInt8) (i acc : Nat), (By d).drop i = l → i ≤ d.size → acc < 10 ^ (4 - l.length) →
    Ev (fun k => turnpikeref3_Parse.l1 k f d (acc : Int) (i : Int) (hi w) (lo w)) (tailV f w (dval acc l))
  | [], i, acc, hdr, hil, ha => by
    have := nil_at hdr
    refine Ev.step (fun k => turnpikeref3_Parse.l1.eq_2 _ _ _ _ _ _ _) ?_
    simp only [if_neg (show ¬ (i : Int) < (d.size : Int) by omega), dval, tailV]
    refine Ev.bind (rcheck f w _ hw) ?_
    by_cases h : checkV f w (acc : Int) = 0
    · simp only [if_pos h]; exact Ev.now _
    · simp only [if_neg h]; exact Ev.now _
  | c :: l, i, acc, hdr, hil, ha => by
    obtain ⟨h1, h2, h3⟩ := cons_at hdr
    have hlen := drop_len hdr hil
    simp only [List.length_cons] at hlen ha
    have hc := u8_lt c
    refine Ev.step (fun k => turnpikeref3_Parse.l1.eq_2 _ _ _ _ _ _ _) ?_
    simp only [if_pos (show (i : Int) < (d.size : Int) by omega), if_pos (show 0 ≤ (i : Int) by omega), h2, wr1 (show i ≤ 1000000000 by omega)]
    by_cases hlo : (c.toNat : Int) < 48
    · simp only [if_pos hlo]
      rw [dval, if_neg (by omega)]; exact Ev.now _
    · simp only [if_neg hlo]
      by_cases hhi : (c.toNat : Int) > 57
      · simp only [if_pos hhi]
        rw [dval, if_neg (by omega)]; exact Ev.now _
      · simp only [if_neg hhi]
        have hb : acc < 1000 := by
          have : (10 : Nat) ^ (4 - (l.length + 1)) ≤ 10 ^ 3 := Nat.pow_le_pow_right (by decide) (by omega)
          omega
        have e : wrap64 ((wrap64 (10 * (acc : Int))) + (((c.toNat : Int) - 48) % 256)) = ((10 * acc + (c.toNat - 48) : Nat) : Int) := by
          rw [w64 (x := 10 * (acc : Int)) (by omega) (by omega), w64 (by omega) (by omega)]; omega
        rw [e, dval, if_pos (by omega)]
        have e4 : (10 : Nat) ^ (4 - l.length) = 10 ^ (4 - (l.length + 1)) * 10 := by rw [← Nat.pow_succ]; congr 1; omega
        exact rl1 f w hw d hd l (i + 1) _ h3 (by omega) (by rw [e4]; omega)
theorem rj2_bad (f : Int) (d : ByteArray) (u v : Int) : Ev (fun k => turnpikeref3_Parse.j2 k f d true u v) (0, 0, 0, 12) := by
  refine Ev.step (fun k => turnpikeref3_Parse.j2.eq_2 _ _ _ _ _ _) ?_
  simp only [if_true]; exact Ev.now _
theorem rdigits (f : Int) (w : Nat) (hw : w < 2 ^ 128) (d : ByteArray) :
    Ev (fun k => if (d.size : Int) < 1 then turnpikeref3_Parse.j2 k f d true (hi w) (lo w) else if (d.size : Int) > 3 then turnpikeref3_Parse.j2 k f d true (hi w) (lo w) else if (d.size : Int) > 1 then (if 0 < (d.size : Int) then turnpikeref3_Parse.j2 k f d ((bt d 0) == 48) (hi w) (lo w) else none) else turnpikeref3_Parse.j2 k f d false (hi w) (lo w)) (tailV f w (lenV (By d))) := by
  have hsz := size_by d
  unfold lenV
  by_cases h1 : (d.size : Int) < 1
  · simp only [if_pos h1]
    rw [if_pos (by left; omega)]; exact rj2_bad _ _ _ _
  · simp only [if_neg h1]
    by_cases h3 : (d.size : Int) > 3
    · simp only [if_pos h3]
      rw [if_pos (by right; left; omega)]; exact rj2_bad _ _ _ _
    · simp only [if_neg h3]
      have hgo : Ev (fun k => turnpikeref3_Parse.j2 k f d false (hi w) (lo w)) (tailV f w (dval 0 (By d))) := by
        refine Ev.step (fun k => turnpikeref3_Parse.j2.eq_2 _ _ _ _ _ _) ?_
        simp only [Bool.false_eq_true, if_false]
        exact rl1 f w hw d (by omega) (By d) 0 0 rfl (by omega) (Nat.pos_of_ne_zero (by simp))
      obtain ⟨c, l, hl⟩ : ∃ c l, By d = c :: l := by
        cases h : By d with
        | nil => exact absurd (show d.size = 0 by rw [hsz, h]; rfl) (by omega)
        | cons c l => exact ⟨c, l, rfl⟩
      obtain ⟨g1, g2, g3⟩ := cons_at (s := d) (i := 0) (c := c) (l := l) (by rw [hl]; rfl)
      have hll : (By d).length = l.length + 1 := by rw [hl]; rfl
      by_cases h2 : (d.size : Int) > 1
      · have g2' : bt d 0 = (c.toNat : Int) := g2
        simp only [if_pos h2, if_pos (show 0 < (d.size : Int) by omega), g2']
        by_cases hc : c = 48
        · subst hc
          rw [if_pos (by right; right; exact ⟨by omega, by rw [hl]; rfl⟩)]
          exact rj2_bad _ _ _ _
        · have hn : (((c.toNat : Nat) : Int) == 48) = false := by
            apply beq_eq_false_iff_ne.2
            intro e
            apply hc
            apply UInt8.toNat_inj.1
            have : (48 : UInt8).toNat = 48 := rfl
            omega
          rw [if_neg (by
            rintro (h | h | h)
            · omega
            · omega
            · have := h.2
              rw [hl] at this
              exact hc (Option.some.inj this)), hn]
          exact hgo
      · simp only [if_neg h2]
        rw [if_neg (by intro h; rcases h with h | h | h <;> omega)]
        exact hgo
theorem rl0 (f : Int) (s : ByteArray) (hs : s.size ≤ 2097152) : ∀ (p l : List UInt8) (i : Nat), (By s).drop i = p ++ l → (47 : UInt8) ∉ p → (l = [] ∨ ∃ q, l = 47 :: q) → i ≤ s.size → ∀ r,
    Ev (fun k => turnpikeref3_Parse.j1 k f s ((i + p.length : Nat) : Int)) r → Ev (fun k => turnpikeref3_Parse.l0 k f s (i : Int)) r
  | [], l, i, hd, hp, hl, hil, r, hr => by
    refine Ev.step (fun k => turnpikeref3_Parse.l0.eq_2 _ _ _ _) ?_
    rcases hl with rfl | ⟨q, rfl⟩
    · have := nil_at (by simpa using hd)
      simp only [if_neg (show ¬ (i : Int) < (s.size : Int) by omega)]
      simpa using hr
    · obtain ⟨h1, h2, h3⟩ := cons_at (by simpa using hd)
      have : ((47 : UInt8).toNat : Int) = 47 := rfl
      simp only [if_pos (show (i : Int) < (s.size : Int) by omega), if_pos (show 0 ≤ (i : Int) by omega), h2, this, if_true]
      simpa using hr
  | c :: p, l, i, hd, hp, hl, hil, r, hr => by
    obtain ⟨h1, h2, h3⟩ := cons_at hd
    have hc : ¬ (c.toNat : Int) = 47 := by
      intro e
      apply hp
      have : c = 47 := UInt8.toNat_inj.1 (by have : (47 : UInt8).toNat = 47 := rfl; omega)
      rw [this]; exact List.mem_cons_self
    refine Ev.step (fun k => turnpikeref3_Parse.l0.eq_2 _ _ _ _) ?_
    simp only [if_pos (show (i : Int) < (s.size : Int) by omega), if_pos (show 0 ≤ (i : Int) by omega), h2, if_neg hc, wr1 (show i ≤ 1000000000 by omega)]
    refine rl0 f s hs p l (i + 1) h3 (fun h => hp (List.mem_cons_of_mem _ h)) hl (by omega) r ?_
    rw [show i + 1 + p.length = i + (c :: p).length by simp only [List.length_cons]; omega]
    exact hr
theorem both (f : Int) (s : ByteArray) (hs : s.size ≤ 1048576) : ∃ r, Ev (fun k => prefix_Parse.f k f s) r ∧ Ev (fun k => turnpikeref3_Parse.f k f s) r := by
  have hz := size_by s
  have hs2 : s.size ≤ 2097152 := by omega
  by_cases hf : fam f = true
  · have efam : turnpikeref2_IsFamily.f f = some true := by
      rcases fam_cases hf with rfl | rfl <;> rfl
    rcases first_piece 47 (By s) with h | ⟨p, q, hpq, hp⟩
    · refine ⟨(0, 0, 0, 12), ?_, ?_⟩
      · unfold prefix_Parse.f
        refine Ev.bind (pright0 f) ?_
        simp only [if_pos hf, if_true, cutf_none s 47 hs2 h, Option.bind_some]
        refine Ev.bind (pparse f s hs2) (Ev.bind (plength _ (by decide)) ?_)
        simp only [Bool.false_eq_true, if_false]
        exact pbad _ _ _ _
      · unfold turnpikeref3_Parse.f
        simp only [efam, Option.bind_some, if_true]
        refine rl0 f s hs2 (By s) [] 0 (by simp) h (.inl rfl) (by omega) _ ?_
        refine Ev.step (fun k => turnpikeref3_Parse.j1.eq_2 _ _ _ _) ?_
        simp only [if_pos (show ((0 + (By s).length : Nat) : Int) ≥ (s.size : Int) by omega)]; exact Ev.now _
    · have hlen : s.size = p.length + 1 + q.length := by rw [hz, hpq]; simp only [List.length_append, List.length_cons]; omega
      have hpp := pparse f (OfBy p) (by rw [ofBy_size]; omega)
      have hrp := rparse f (OfBy p) (by rw [ofBy_size]; omega)
      have hln := plength (OfBy q) (by rw [ofBy_size]; omega)
      rw [by_ofBy] at hpp hrp hln
      have hpar : ∀ r, Ev (fun k => (addr_Parse.f k f (OfBy p)).bind fun bt204 => ((prefix_length.f k (OfBy q)).bind fun bt208 => (if bt204.2.2 = 0 then (prefix_Parse.j0 k f bt208.1 (!bt208.2) bt204.1 bt204.2.1) else (prefix_Parse.j0 k f bt208.1 true bt204.1 bt204.2.1)))) r → Ev (fun k => prefix_Parse.f k f s) r := by
        intro r hr
        unfold prefix_Parse.f
        refine Ev.bind (pright0 f) ?_
        simp only [if_pos hf, if_true, cutf_one s 47 p q hs2 hpq hp, Option.bind_some]
        exact hr
      have eh : s.extract 0 p.length = OfBy p := by rw [extract_of, hpq]; simp
      have et : s.extract (p.length + 1) s.size = OfBy q := by
        rw [extract_of, hpq, show p ++ 47 :: q = (p ++ [47]) ++ q by simp, List.drop_left' (by simp), List.take_of_length_le (by omega)]
      have href : ∀ r, Ev (fun k => (turnpikeref2_Parse.f k f (OfBy p)).bind fun bt739 => (if bt739.2.2 = 0 then (if ((OfBy q).size : Int) < 1 then turnpikeref3_Parse.j2 k f (OfBy q) true bt739.1 bt739.2.1 else if ((OfBy q).size : Int) > 3 then turnpikeref3_Parse.j2 k f (OfBy q) true bt739.1 bt739.2.1 else if ((OfBy q).size : Int) > 1 then (if 0 < ((OfBy q).size : Int) then turnpikeref3_Parse.j2 k f (OfBy q) ((bt (OfBy q) 0) == 48) bt739.1 bt739.2.1 else none) else turnpikeref3_Parse.j2 k f (OfBy q) false bt739.1 bt739.2.1) else some (0, 0, 0, bt739.2.2))) r → Ev (fun k => turnpikeref3_Parse.f k f s) r := by
        intro r hr
        unfold turnpikeref3_Parse.f
        simp only [efam, Option.bind_some, if_true]
        refine rl0 f s hs2 p (47 :: q) 0 (by simpa using hpq) hp (.inr ⟨q, rfl⟩) (by omega) _ ?_
        rw [Nat.zero_add]
        refine Ev.step (fun k => turnpikeref3_Parse.j1.eq_2 _ _ _ _) ?_
        have e1 : wrap64 ((p.length : Int) + 1) = ((p.length + 1 : Nat) : Int) := wr1 (by omega)
        simp only [if_neg (show ¬ (p.length : Int) ≥ (s.size : Int) by omega), if_pos (show 0 ≤ (p.length : Int) by omega), if_pos (show (p.length : Int) ≤ (s.size : Int) by omega), Int.toNat_natCast, eh, e1,
          if_pos (show 0 ≤ ((p.length + 1 : Nat) : Int) by omega), if_pos (show ((p.length + 1 : Nat) : Int) ≤ (s.size : Int) by omega), et]
        exact hr
      rcases readV_cases hf p with ⟨w, hw, e⟩ | e
      · rw [e] at hpp hrp
        refine ⟨tailV f w (lenV q), hpar _ (Ev.bind hpp (Ev.bind hln ?_)), href _ (Ev.bind hrp ?_)⟩
        · simp only [if_true]; exact pgood f hf w hw _
        · have := rdigits f w hw (OfBy q)
          rw [by_ofBy] at this
          simp only [if_true]; exact this
      · rw [e] at hpp hrp
        refine ⟨(0, 0, 0, 12), hpar _ (Ev.bind hpp (Ev.bind hln ?_)), href _ (Ev.bind hrp ?_)⟩
        · simp only [if_neg (show ¬ (12 : Int) = 0 by decide)]; exact pbad _ _ _ _
        · simp only [if_neg (show ¬ (12 : Int) = 0 by decide)]; exact Ev.now _
  · refine ⟨(0, 0, 0, 11), ?_, ?_⟩
    · unfold prefix_Parse.f
      refine Ev.bind (pright0 f) ?_
      simp only [if_neg hf, if_neg (show ¬ (11 : Int) = 0 by decide)]; exact Ev.now _
    · have efam : turnpikeref2_IsFamily.f f = some false := by
        unfold fam at hf
        unfold turnpikeref2_IsFamily.f
        simp at hf
        first
          | (rw [if_neg hf.1]; simp [hf.2])
          | simp [hf.1, hf.2]
      unfold turnpikeref3_Parse.f
      simp only [efam, Option.bind_some, Bool.false_eq_true, if_false]; exact Ev.now _
theorem rtextp (f : Int) (w : Nat) (n : Int) (hw : w < 2 ^ 128) : Ev (fun k => turnpikeref3_Text.f k f (hi w) (lo w) n) (if checkV f w n = 0 then (OfBy (pfxT f w n.toNat), 0) else ((⟨#[]⟩ : ByteArray), checkV f w n)) := by
  unfold turnpikeref3_Text.f
  refine Ev.bind (rcheck f w n hw) ?_
  by_cases h : checkV f w n = 0
  · obtain ⟨hf, h0, h1, h2, hr⟩ := right_check h
    obtain ⟨_, hl⟩ := textV_fine f w hw
    have hn : n.toNat ≤ 128 := by rcases fam_cases hf with e | e <;> omega
    have hd := decL_len n.toNat 3 (by decide) (by omega)
    have ht := rtext f w hw
    rw [if_pos hr] at ht
    have hdec := rdec_f n.toNat (by omega)
    rw [Int.toNat_of_nonneg h0] at hdec
    simp only [if_pos h]
    refine Ev.bind ht ?_
    have hb1 : (OfBy (textV f w)).size + 1 ≤ 9223372036854775807 := by rw [ofBy_size]; omega
    simp only [if_pos hb1]
    refine Ev.bind hdec ?_
    have es : (OfBy (textV f w) ++ (⟨#[47]⟩ : ByteArray)).size = (textV f w).length + 1 := by rw [ByteArray.size_append, ofBy_size]; rfl
    have hb2 : (OfBy (textV f w) ++ (⟨#[47]⟩ : ByteArray)).size + (OfBy (decL n.toNat)).size ≤ 9223372036854775807 := by rw [es, ofBy_size]; omega
    simp only [if_pos hb2]
    have e : OfBy (textV f w) ++ (⟨#[47]⟩ : ByteArray) ++ OfBy (decL n.toNat) = OfBy (pfxT f w n.toNat) := by
      rw [show OfBy (textV f w) ++ (⟨#[47]⟩ : ByteArray) = OfBy (textV f w ++ [47]) from ofBy_append _ [47], ofBy_append, pfxT, List.append_assoc, List.singleton_append]
    rw [e]; exact Ev.now _
  · simp only [if_neg h]; exact Ev.now _
theorem PrefixReads : turnpikelaw3_PrefixReads.Pure := by
  intro f s a b n _ hs h1 h2 _
  obtain ⟨w, hw, rfl, rfl⟩ := as_word h1 h2
  obtain ⟨r, hp, hr⟩ := both f s hs
  refine Ev.rounds ?_
  unfold turnpikelaw3_PrefixReads.f
  refine Ev.bind hp (Ev.bind hr (Ev.bind (ptextp f w n hw) (Ev.bind (rtextp f w n hw) (Ev.bind known3_f ?_))))
  simp only [if_true, beq_self_eq_true, Bool.and_self]
  exact Ev.now _
end Go.Proofs.YtdjhmapmhajkcaaDoor.Pure
