/- The text of a prefix: what the program's reader tells of it, what its writer tells. -/
import Derived.Test.YtdjhmapmhajkcaaDoorZOPx
import Derived.Test.YtdjhmapmhajkcaaDoorZOPb
import Derived.Test.YtdjhmapmhajkcaaDoorZOX4
import Derived.Test.YtdjhmapmhajkcaaDoorZOX5
import Derived.Test.YtdjhmapmhajkcaaDoorZOX6
namespace Go.Proofs.YtdjhmapmhajkcaaDoor.Th
open Go.RowKit Go.Proofs.YtdjhmapmhajkcaaDoor.X Go.Proofs.YtdjhmapmhajkcaaDoorW.PrintWords Go.Proofs.YtdjhmapmhajkcaaDoorW.PrintLast Go.Proofs.YtdjhmapmhajkcaaDoor.Sm
set_option linter.unusedVariables false
set_option linter.unusedSimpArgs false
def lenV (l : List UInt8) : Option Nat :=
  if l.length < 1 ∨ 3 < l.length ∨ (1 < l.length ∧ l.head? = some 48) then none else dval 0 l
def lenR : Option Nat → Int × Bool
  | some n => ((n : Int), true)
  | none => (0, false)
theorem plength_l0 (s : ByteArray) (hs : s.size ≤ 3) : ∀ (l : List UInt8) (i acc : Nat), (By s).drop i = l → i ≤ s.size → acc < 10 ^ (4 - l.length) →
    Ev (fun k => prefix_length.l0 k s (acc : Int) (s.size : Int) (i : Int)) (lenR (dval acc l))
  | [], i, acc, hd, hi, ha => by
    have := nil_at hd
    refine Ev.step (fun k => prefix_length.l0.eq_2 _ _ _ _ _) ?_
    simp only [if_neg (show ¬ (i : Int) < (s.size : Int) by omega)]
    exact Ev.now _
  | c :: l, i, acc, hd, hi, ha => by
    obtain ⟨h1, h2, h3⟩ := cons_at hd
    have hlen := drop_len hd hi
    simp only [List.length_cons] at hlen ha
    have hc := u8_lt c
    refine Ev.step (fun k => prefix_length.l0.eq_2 _ _ _ _ _) ?_
    simp only [if_pos (show (i : Int) < (s.size : Int) by omega), if_pos (show 0 ≤ (i : Int) by omega), h2, wr1 (show i ≤ 1000000000 by omega)]
    by_cases hlo : (c.toNat : Int) < 48
    · simp only [if_pos hlo]
      rw [dval, if_neg (by omega)]; exact Ev.now _
    · simp only [if_neg hlo]
      by_cases hhi : (c.toNat : Int) > 57
      · simp only [if_pos hhi]
        rw [dval, if_neg (by omega)]; exact Ev.now _
      · simp only [if_neg hhi]
        have hb : acc < 1000 := by
          have : (10 : Nat) ^ (4 - (l.length + 1)) ≤ 10 ^ 3 := Nat.pow_le_pow_right (by decide) (by omega)
          omega
        have e : wrap64 ((wrap64 ((acc : Int) * 10)) + (((c.toNat : Int) - 48) % 256)) = ((10 * acc + (c.toNat - 48) : Nat) : Int) := by
          rw [w64 (x := (acc : Int) * 10) (by omega) (by omega), w64 (by omega) (by omega)]; omega
        rw [e, dval, if_pos (by omega)]
        have e4 : (10 : Nat) ^ (4 - l.length) = 10 ^ (4 - (l.length + 1)) * 10 := by rw [← Nat.pow_succ]; congr 1; omega
        exact plength_l0 s hs l (i + 1) _ h3 (by omega) (by rw [e4]; omega)
theorem plength (s : ByteArray) (hs : s.size ≤ 2097152) : Ev (fun k => prefix_length.f k s) (lenR (lenV (By s))) := by
  have hsz := size_by s
  unfold prefix_length.f lenV
  by_cases h1 : (s.size : Int) < 1
  · simp only [if_pos h1]
    rw [if_pos (by left; omega)]
    refine Ev.step (fun k => prefix_length.j0.eq_2 _ _ _) ?_
    simp only [if_true]; exact Ev.now _
  · simp only [if_neg h1]
    by_cases h3 : (s.size : Int) > 3
    · simp only [if_pos h3]
      rw [if_pos (by right; left; omega)]
      refine Ev.step (fun k => prefix_length.j0.eq_2 _ _ _) ?_
      simp only [if_true]; exact Ev.now _
    · simp only [if_neg h3]
      obtain ⟨c, l, hl⟩ : ∃ c l, By s = c :: l := by
        cases hB : By s with
        | nil => rw [hB] at hsz; have h0 : s.size = 0 := hsz; omega
        | cons c l => exact ⟨c, l, rfl⟩
      obtain ⟨_, hb, _⟩ := cons_at (s := s) (i := 0) (by rw [List.drop_zero]; exact hl)
      have hgo := plength_l0 s (by omega) (By s) 0 0 (List.drop_zero ..) (by omega) (by rw [← hsz]; exact Nat.pow_pos (by decide))
      have h48 : (bt s 0 == 48) = decide (c = 48) := by
        have e : bt s 0 = (c.toNat : Int) := hb
        rw [e]
        by_cases h : c = 48
        · subst h; rfl
        · have : c.toNat ≠ 48 := fun e => h (u8_eq.2 e)
          rw [decide_eq_false h]; simp; omega
      by_cases hgt : (s.size : Int) > 1
      · simp only [if_pos hgt, if_pos (show 0 < (s.size : Int) by omega), h48]
        refine Ev.step (fun k => prefix_length.j0.eq_2 _ _ _) ?_
        by_cases h : c = 48
        · rw [if_pos (by right; right; exact ⟨by omega, by rw [hl, h]; rfl⟩)]
          simp only [decide_eq_true h, if_true]; exact Ev.now _
        · have hno : ¬ ((By s).length < 1 ∨ 3 < (By s).length ∨ (1 < (By s).length ∧ (By s).head? = some 48)) := by
            rintro (h4 | h4 | ⟨_, h4⟩)
            · omega
            · omega
            · rw [hl] at h4; exact h (by simpa using h4)
          rw [if_neg hno]
          simp only [decide_eq_false h, Bool.false_eq_true, if_false]; exact hgo
      · simp only [if_neg hgt]
        rw [if_neg (by rintro (h4 | h4 | ⟨h4, _⟩) <;> omega)]
        refine Ev.step (fun k => prefix_length.j0.eq_2 _ _ _) ?_
        simp only [Bool.false_eq_true, if_false]; exact hgo
theorem lenV_dec : ∀ n : Fin 129, lenV (decL n.val) = some n.val := by decide +kernel
theorem right_check {f : Int} {w : Nat} {n : Int} (h : checkV f w n = 0) : fam f = true ∧ 0 ≤ n ∧ n ≤ f ∧ w &&& mk n.toNat = w ∧ rightV f w = 0 := by
  unfold checkV at h
  by_cases hf : fam f = true
  · rw [if_pos hf] at h
    by_cases h1 : n < 0 ∨ f < n
    · rw [if_pos h1] at h; exact absurd h (by decide)
    · rw [if_neg h1] at h
      by_cases h2 : w &&& mk n.toNat = w
      · refine ⟨hf, by omega, by omega, h2, ?_⟩
        unfold rightV
        rw [if_pos hf]
        have : w &&& nt (mk f.toNat) = 0 := by
          rw [← h2]
          apply Nat.eq_of_testBit_eq
          intro i
          rw [Nat.testBit_and, Nat.testBit_and, nt_bit (mk_lt _), mk_bit, mk_bit, Nat.zero_testBit]
          by_cases hi : i < 128 <;> by_cases hj : 128 ≤ i + n.toNat <;> simp [hi, hj]
          omega
        rw [if_pos this]
      · rw [if_neg h2] at h; exact absurd h (by decide)
  · rw [if_neg hf] at h; exact absurd h (by decide)
theorem itoa_small (n : Nat) (h : n < 256) : strconv_Itoa.f (n : Int) = some (OfBy (decL n)) := by
  unfold strconv_Itoa.f
  rw [if_pos (by omega)]
  have e : Lib.itoa (n : Int) = decL n := by
    unfold Lib.itoa
    rw [if_neg (by omega), Int.toNat_natCast, dec_small' n h]
  rw [e]
def pfxT (f : Int) (w n : Nat) : List UInt8 := textV f w ++ 47 :: decL n
theorem ptextp (f : Int) (w : Nat) (n : Int) (hw : w < 2 ^ 128) : Ev (fun k => prefix_Text.f k f (hi w) (lo w) n) (if checkV f w n = 0 then (OfBy (pfxT f w n.toNat), 0) else ((⟨#[]⟩ : ByteArray), checkV f w n)) := by
  unfold prefix_Text.f
  refine Ev.bind (pcheck f w n hw) ?_
  by_cases h : checkV f w n = 0
  · obtain ⟨hf, h0, h1, h2, hr⟩ := right_check h
    have hn : n.toNat ≤ 128 := by rcases fam_cases hf with e | e <;> omega
    obtain ⟨m, rfl⟩ := Int.eq_ofNat_of_zero_le h0
    rw [Int.toNat_natCast] at hn
    have ht := ptext f w hw
    rw [if_pos hr] at ht
    obtain ⟨_, hl⟩ := textV_fine f w hw
    have hd := decL_len m 3 (by decide) (by omega)
    simp only [if_pos h, Int.toNat_natCast]
    refine Ev.bind ht ?_
    have s1 : (OfBy (textV f w)).size + 1 ≤ 9223372036854775807 := by rw [ofBy_size]; omega
    have s2 : (OfBy (textV f w) ++ (⟨#[47]⟩ : ByteArray)) = OfBy (textV f w ++ [47]) := ofBy_append _ [47]
    have s3 : (OfBy (textV f w ++ [47])).size + (OfBy (decL m)).size ≤ 9223372036854775807 := by rw [ofBy_size, ofBy_size, List.length_append]; simp only [List.length_cons, List.length_nil]; omega
    simp only [if_pos s1, itoa_small m (by omega), Option.bind_some, s2, if_pos s3, ofBy_append, pfxT, List.append_assoc, List.singleton_append]
    exact Ev.now _
  · simp only [if_neg h]; exact Ev.now _
theorem no47 (f : Int) (hf : fam f = true) (w : Nat) (hw : w < 2 ^ 128) : (47 : UInt8) ∉ textV f w := by
  intro h
  have hs : ∃ six, (six = false ∧ f = 32 ∨ six = true ∧ f = 128) := by
    rcases fam_cases hf with e | e
    · exact ⟨false, .inl ⟨rfl, e⟩⟩
    · exact ⟨true, .inr ⟨rfl, e⟩⟩
  obtain ⟨six, hs⟩ := hs
  rcases (text_sign six f hs w hw).1 47 h with h | h | h
  · exact absurd h.1 (by decide)
  · exact absurd h.1 (by decide)
  · rcases h.1 with h | h
    · exact absurd h (by decide)
    · exact absurd h.1 (by decide)
theorem pparsep (f : Int) (w n : Nat) (hw : w < 2 ^ 128) (h : checkV f w (n : Int) = 0) : Ev (fun k => prefix_Parse.f k f (OfBy (pfxT f w n))) (hi w, lo w, (n : Int), 0) := by
  obtain ⟨hf, h0, h1, h2, hr⟩ := right_check h
  rw [Int.toNat_natCast] at h2
  have hn : n ≤ 128 := by rcases fam_cases hf with e | e <;> omega
  obtain ⟨_, hl⟩ := textV_fine f w hw
  have hd := decL_len n 3 (by decide) (by omega)
  have hcut : strings_Cut.f (OfBy (pfxT f w n)) (⟨#[47]⟩ : ByteArray) = some (OfBy (textV f w), OfBy (decL n), true) := by
    unfold strings_Cut.f
    rw [if_pos (by rw [ofBy_size]; unfold pfxT; rw [List.length_append, List.length_cons]; omega), show (OfBy (pfxT f w n)).data.toList = textV f w ++ 47 :: decL n from rfl, show (⟨#[47]⟩ : ByteArray).data.toList = [47] from rfl, cut_one _ _ (no47 f hf w hw)]
  have hp := pparse f (OfBy (textV f w)) (by rw [ofBy_size]; omega)
  rw [by_ofBy, read_text f w hw hr] at hp
  have hln := plength (OfBy (decL n)) (by rw [ofBy_size]; omega)
  rw [by_ofBy, lenV_dec ⟨n, by omega⟩] at hln
  unfold prefix_Parse.f
  refine Ev.bind (pright0 f) ?_
  simp only [if_pos hf, if_true, hcut, Option.bind_some]
  refine Ev.bind hp (Ev.bind hln ?_)
  simp only [lenR, if_true, Bool.not_true]
  refine Ev.step (fun k => prefix_Parse.j0.eq_2 _ _ _ _ _ _) ?_
  simp only [Bool.false_eq_true, if_false, if_neg (show ¬ (n : Int) > f by omega), pmask, Option.bind_some, pand w _ hw (mk_lt n), h2, ne_iff, ne_eq, not_true_eq_false, decide_false]
  exact Ev.now _
end Go.Proofs.YtdjhmapmhajkcaaDoor.Th
