/- Words of 128 bits: what the program's functions and the document's compute, on numbers below 2^128. -/
import Derived.Test.YtdjhmapmhajkcaaDoorZOLp
import Derived.Test.YtdjhmapmhajkcaaDoorZOX3
import Derived.Test.YtdjhmapmhajkcaaDoorZOX6
namespace Go.Proofs.YtdjhmapmhajkcaaDoor.Th
open Go.RowKit Go.Proofs.YtdjhmapmhajkcaaDoor.X Go.Proofs.YtdjhmapmhajkcaaDoorW.PrintWords Go.Proofs.YtdjhmapmhajkcaaDoorW.PrintLast Go.Proofs.YtdjhmapmhajkcaaDoor.Sm
set_option linter.unusedVariables false
set_option linter.unusedSimpArgs false
theorem pand (u v : Nat) (hu : u < 2 ^ 128) (hv : v < 2 ^ 128) : word_And.f (hi u) (lo u) (hi v) (lo v) = some (hi (u &&& v), lo (u &&& v)) := by
  unfold word_And.f; rw [and_hi u v hu hv, and_lo]
theorem rand_ (u v : Nat) (hu : u < 2 ^ 128) (hv : v < 2 ^ 128) : turnpikeref1_And.f (hi u) (lo u) (hi v) (lo v) = some (hi (u &&& v), lo (u &&& v)) := by
  unfold turnpikeref1_And.f; rw [and_hi u v hu hv, and_lo]
theorem pnot (v : Nat) (hv : v < 2 ^ 128) : word_Not.f (hi v) (lo v) = some (hi (nt v), lo (nt v)) := by
  unfold word_Not.f; rw [not_hi v hv, not_lo v hv]
theorem pshr (v n : Nat) (hv : v < 2 ^ 128) : word_Shr.f (hi v) (lo v) (n : Int) = some (hi (sr v n), lo (sr v n)) := by
  unfold word_Shr.f
  by_cases h0 : n = 0
  · subst h0; rw [if_pos (by decide), sr_zero v]
  · rw [if_neg (by omega)]
    by_cases h64 : n < 64
    · have e : wrap64 (64 - (n : Int)) = ((64 - n : Nat) : Int) := by rw [w64 (by omega) (by omega)]; omega
      rw [if_pos (by omega), if_pos (by omega), e, if_pos (by omega), shr_hi v n h64, shr_lo v n (by omega) h64]
    · rw [if_neg (by omega)]
      by_cases h128 : n < 128
      · have e : wrap64 ((n : Int) - 64) = ((n - 64 : Nat) : Int) := by rw [w64 (by omega) (by omega)]; omega
        obtain ⟨h1, h2⟩ := shr_far v n (by omega) (by omega) hv
        rw [if_pos (by omega), e, if_pos (by omega), h1, h2]
      · rw [if_neg (by omega), sr_all v n (by omega) hv]; rfl
def mk (n : Nat) : Nat := nt (sr (2 ^ 128 - 1) n)
theorem mk_lt (n : Nat) : mk n < 2 ^ 128 := nt_lt _
theorem nt_bit {v : Nat} (h : v < 2 ^ 128) (i : Nat) : (nt v).testBit i = (decide (i < 128) && !v.testBit i) := by
  unfold nt
  rw [show 2 ^ 128 - 1 - v = 2 ^ 128 - (v + 1) by omega, Nat.testBit_two_pow_sub_succ h]
theorem all_lt : (2 : Nat) ^ 128 - 1 < 2 ^ 128 := by decide
theorem mk_bit (n i : Nat) : (mk n).testBit i = (decide (i < 128) && decide (128 ≤ i + n)) := by
  unfold mk
  rw [nt_bit (sr_lt n all_lt), sr_bit, Nat.testBit_two_pow_sub_one]
  by_cases h : i + n < 128
  · first | (simp [h]; done) | (simp [h]; omega)
  · first | (simp [h]; done) | (simp [h]; omega)
theorem pmask (n : Nat) : word_Mask.f (n : Int) = some (hi (mk n), lo (mk n)) := by
  unfold word_Mask.f word_ones.f
  have e1 : (18446744073709551615 : Int) = hi (2 ^ 128 - 1) := by decide
  have e2 : lo (2 ^ 128 - 1) = (18446744073709551615 : Int) := by decide
  have h := pshr (2 ^ 128 - 1) n all_lt
  rw [← e1, e2] at h
  simp only [Option.bind_some, h]
  rw [pnot _ (sr_lt n all_lt)]
  rfl
def put (v i b : Nat) : Nat := (v &&& nt (2 ^ (127 - i))) ||| (b * 2 ^ (127 - i))
theorem two_lt {i : Nat} (h : i < 128) : (2 : Nat) ^ i < 2 ^ 128 := Nat.pow_lt_pow_right (by decide) h
theorem b_bit (b e j : Nat) (hb : b ≤ 1) : (b * 2 ^ e).testBit j = (decide (e = j) && decide (b = 1)) := by
  have : b = 0 ∨ b = 1 := by omega
  rcases this with rfl | rfl
  · simp
  · rw [Nat.one_mul, Nat.testBit_two_pow]; simp
theorem put_bit (v i b j : Nat) (hv : v < 2 ^ 128) (hi : i ≤ 127) (hb : b ≤ 1) : (put v i b).testBit j = if j = 127 - i then decide (b = 1) else v.testBit j := by
  unfold put
  rw [Nat.testBit_or, Nat.testBit_and, nt_bit (two_lt (by omega)), Nat.testBit_two_pow, b_bit _ _ _ hb]
  by_cases h : j = 127 - i
  · simp [h]
  · have h' : ¬ 127 - i = j := fun e => h e.symm
    by_cases h128 : j < 128
    · simp [h, h', h128]
    · simp [h, h', big hv (show 128 ≤ j by omega)]
theorem andNot_n (a b : Nat) (ha : a < 2 ^ 64) (hb : b < 2 ^ 64) : Go.bits .andNot .u64 (a : Int) (b : Int) = ((a &&& (2 ^ 64 - (b + 1)) : Nat) : Int) := by
  have := u64_andNot_nat a b (p64 ▸ ha) (p64 ▸ hb)
  rw [this, p64]
  congr 2
  omega
theorem put_half (a e b : Nat) (ha : a < 2 ^ 64) (he : e ≤ 63) (hb : b ≤ 1) :
    Go.bits .or .u64 (Go.bits .andNot .u64 (a : Int) (shl .u64 1 (e : Int))) (shl .u64 (IntKind.u64.wrap (b : Int)) (e : Int)) = (((a &&& (2 ^ 64 - (2 ^ e + 1))) ||| b * 2 ^ e : Nat) : Int) := by
  have h2e : (2 : Nat) ^ e < 2 ^ 64 := Nat.pow_lt_pow_right (by decide) (by omega)
  have hbe : b * 2 ^ e < 2 ^ 64 := Nat.lt_of_le_of_lt (Nat.le_trans (Nat.mul_le_mul_right (2 ^ e) hb) (by rw [Nat.one_mul]; exact Nat.le_refl _)) h2e
  have e1 : shl .u64 1 (e : Int) = ((2 ^ e : Nat) : Int) := by
    have := shl_n 1 e (by omega)
    rw [Nat.one_mul, Nat.mod_eq_of_lt h2e] at this
    exact this
  have e2 : shl .u64 (IntKind.u64.wrap (b : Int)) (e : Int) = ((b * 2 ^ e : Nat) : Int) := by
    rw [u64w (by omega) (by omega), shl_n b e (by omega), Nat.mod_eq_of_lt hbe]
  rw [e1, e2, andNot_n a _ ha h2e, bits_or_n _ _ (Nat.lt_of_le_of_lt Nat.and_le_left ha) hbe]
theorem half_bit (a e b j : Nat) (ha : a < 2 ^ 64) (he : e ≤ 63) (hb : b ≤ 1) : ((a &&& (2 ^ 64 - (2 ^ e + 1))) ||| b * 2 ^ e).testBit j = if j = e then decide (b = 1) else a.testBit j := by
  rw [Nat.testBit_or, Nat.testBit_and, Nat.testBit_two_pow_sub_succ (Nat.pow_lt_pow_right (by decide) (by omega)), Nat.testBit_two_pow, b_bit _ _ _ hb]
  by_cases h : j = e
  · simp [h]
  · have h' : ¬ e = j := fun x => h x.symm
    by_cases h64 : j < 64
    · simp [h, h', h64]
    · have : a.testBit j = false := Nat.testBit_lt_two_pow (Nat.lt_of_lt_of_le ha (Nat.pow_le_pow_right (by decide) (by omega)))
      simp [h, h', this]
theorem rput (v i b : Nat) (hv : v < 2 ^ 128) (hi127 : i ≤ 127) (hb : b ≤ 1) : turnpikeref1_Put.f (hi v) (lo v) (i : Int) (b : Int) = some (hi (put v i b), lo (put v i b)) := by
  unfold turnpikeref1_Put.f
  by_cases h : i < 64
  · have e : wrap64 (63 - (i : Int)) = ((63 - i : Nat) : Int) := by rw [w64 (by omega) (by omega)]; omega
    rw [if_pos (by omega), e, if_pos (by omega)]
    congr 2
    · unfold hi
      rw [put_half _ _ _ (hi_lt hv) (by omega) hb]
      congr 1
      apply Nat.eq_of_testBit_eq
      intro j
      rw [half_bit _ _ _ _ (hi_lt hv) (by omega) hb, hib, hib, put_bit _ _ _ _ hv hi127 hb]
      by_cases hj : j = 63 - i
      · rw [if_pos hj, if_pos (by omega)]
      · rw [if_neg hj, if_neg (by omega)]
    · unfold lo
      congr 1
      apply Nat.eq_of_testBit_eq
      intro j
      rw [lob, lob, put_bit _ _ _ _ hv hi127 hb]
      by_cases hj : j < 64
      · rw [if_neg (by omega)]
      · simp [hj]
  · have e : wrap64 (127 - (i : Int)) = ((127 - i : Nat) : Int) := by rw [w64 (by omega) (by omega)]; omega
    rw [if_neg (by omega), e, if_pos (by omega)]
    congr 2
    · unfold hi
      congr 1
      apply Nat.eq_of_testBit_eq
      intro j
      rw [hib, hib, put_bit _ _ _ _ hv hi127 hb, if_neg (by omega)]
    · unfold lo
      rw [put_half _ _ _ (lo_lt v) (by omega) hb]
      congr 1
      apply Nat.eq_of_testBit_eq
      intro j
      rw [half_bit _ _ _ _ (lo_lt v) (by omega) hb, lob, lob, put_bit _ _ _ _ hv hi127 hb]
      by_cases hj : j = 127 - i
      · rw [if_pos hj, if_pos hj]; simp; omega
      · rw [if_neg hj, if_neg hj]
theorem mk_succ (i : Nat) (h : i ≤ 127) : put (mk i) i 1 = mk (i + 1) := by
  apply Nat.eq_of_testBit_eq
  intro j
  rw [put_bit _ _ _ _ (mk_lt i) h (by omega), mk_bit, mk_bit]
  by_cases hj : j = 127 - i
  · rw [if_pos hj]
    simp [show j < 128 by omega, show 128 ≤ j + (i + 1) by omega]
  · rw [if_neg hj]
    by_cases h1 : j < 128
    · by_cases h2 : 128 ≤ j + i
      · simp [h1, h2, show 128 ≤ j + (i + 1) by omega]
      · simp [h1, h2, show ¬ 128 ≤ j + (i + 1) by omega]
    · simp [h1]
theorem mk_zero : mk 0 = 0 := by unfold mk nt; rw [sr_zero]
theorem mk_big (n : Nat) (h : 128 ≤ n) : mk n = mk 128 := by
  apply Nat.eq_of_testBit_eq
  intro j
  rw [mk_bit, mk_bit]
  by_cases h1 : j < 128
  · simp [h1, show 128 ≤ j + n by omega]
  · simp [h1]
theorem rmask_l0 (n : Nat) : ∀ (d i : Nat), i + d = min n 128 →
    Ev (fun k => turnpikeref1_Mask.l0 k (n : Int) (i : Int) (hi (mk i)) (lo (mk i))) (hi (mk n), lo (mk n))
  | 0, i, h => by
    have hd : mk i = mk n := by
      by_cases h128 : n ≤ 128
      · rw [show i = n by omega]
      · rw [mk_big n (by omega), show i = 128 by omega]
    refine Ev.step (fun k => turnpikeref1_Mask.l0.eq_2 _ _ _ _ _) ?_
    rw [hd]
    by_cases h1 : (i : Int) < (n : Int)
    · simp only [if_pos h1, if_neg (show ¬ (i : Int) < 128 by omega)]; exact Ev.now _
    · simp only [if_neg h1]; exact Ev.now _
  | d + 1, i, h => by
    refine Ev.step (fun k => turnpikeref1_Mask.l0.eq_2 _ _ _ _ _) ?_
    have hp := rput (mk i) i 1 (mk_lt i) (by omega) (by omega)
    rw [mk_succ i (by omega), show ((1 : Nat) : Int) = 1 from rfl] at hp
    simp only [if_pos (show (i : Int) < (n : Int) by omega), if_pos (show (i : Int) < 128 by omega), hp, Option.bind_some, wr1 (show i ≤ 1000000000 by omega)]
    exact rmask_l0 n d (i + 1) (by omega)
theorem rmask (n : Nat) : Ev (fun k => turnpikeref1_Mask.f k (n : Int)) (hi (mk n), lo (mk n)) := by
  have := rmask_l0 n (min n 128) 0 (by omega)
  rw [mk_zero] at this
  exact this
theorem zero_iff (x : Nat) : (!(hi x == 0) || (!(lo x == 0))) = true ↔ x ≠ 0 := by
  constructor
  · intro h e
    rw [e] at h
    exact absurd h (by decide)
  · intro h
    by_cases h1 : hi x = 0
    · by_cases h2 : lo x = 0
      · exact absurd (word_eq (v := 0) h1 h2) h
      · simp [h2]
    · simp [h1]
theorem eq_iff (u v : Nat) : (hi u == hi v && (lo u == lo v)) = decide (u = v) := by
  by_cases h : u = v
  · subst h; simp
  · rw [decide_eq_false h]
    by_cases h1 : hi u = hi v
    · by_cases h2 : lo u = lo v
      · exact absurd (word_eq h1 h2) h
      · simp [h2]
    · simp [h1]
theorem ne_iff (u v : Nat) : (!(hi u == hi v) || (!(lo u == lo v))) = decide (u ≠ v) := by
  have := eq_iff u v
  by_cases h : u = v
  · subst h; simp
  · rw [decide_eq_false h] at this
    rw [decide_eq_true h, ← Bool.not_and, this]; rfl
def fam (f : Int) : Bool := f == 32 || f == 128
def rightV (f : Int) (w : Nat) : Int := if fam f = true then (if w &&& nt (mk f.toNat) = 0 then 0 else 6) else 11
theorem pright (f : Int) (w : Nat) (hw : w < 2 ^ 128) : Ev (fun k => addr_Right.f k f (hi w) (lo w)) (rightV f w) := by
  have key : ∀ n : Nat, Ev (fun k => addr_Right.j0 k (n : Int) false (hi w) (lo w)) (if w &&& nt (mk n) = 0 then 0 else 6) := by
    intro n
    refine Ev.step (fun k => addr_Right.j0.eq_2 _ _ _ _ _) ?_
    simp only [Bool.false_eq_true, if_false, pmask, Option.bind_some, pnot _ (mk_lt n), pand w _ hw (nt_lt _), zero_iff]
    by_cases h : w &&& nt (mk n) = 0
    · simp only [h, ne_eq, not_true_eq_false, if_false, if_true]; exact Ev.now _
    · simp only [ne_eq, h, not_false_eq_true, if_true, if_false]; exact Ev.now _
  unfold addr_Right.f rightV fam
  by_cases h32 : f = 32
  · subst h32
    simp only [if_true, beq_self_eq_true, Bool.true_or]
    exact key 32
  · simp only [if_neg h32]
    by_cases h128 : f = 128
    · subst h128
      simp only [bne_self_eq_false, show ((128 : Int) == 32) = false from rfl, Bool.false_or, beq_self_eq_true, if_true]
      exact key 128
    · have e1 : (f != 128) = true := by simp [h128]
      have e2 : (f == 32 || f == 128) = false := by simp [h32, h128]
      simp only [e1, e2, Bool.false_eq_true, if_false]
      refine Ev.step (fun k => addr_Right.j0.eq_2 _ _ _ _ _) ?_
      simp only [if_true]; exact Ev.now _
theorem rfam (f : Int) : turnpikeref2_IsFamily.f f = some (fam f) := by
  unfold turnpikeref2_IsFamily.f fam
  by_cases h32 : f = 32
  · subst h32; rfl
  · rw [if_neg h32]; simp [h32]
theorem fam_cases {f : Int} (h : fam f = true) : f = ((32 : Nat) : Int) ∨ f = ((128 : Nat) : Int) := by
  unfold fam at h
  simpa using h
theorem pright0 (f : Int) : Ev (fun k => addr_Right.f k f 0 0) (if fam f = true then 0 else 11) := by
  have := pright f 0 (by decide)
  unfold rightV at this
  simp only [Nat.zero_and, if_true] at this
  exact this
theorem right_fam {f : Int} {w : Nat} (h : rightV f w = 0) : fam f = true := by
  unfold rightV at h
  by_cases hf : fam f = true
  · exact hf
  · rw [if_neg hf] at h; exact absurd h (by decide)
theorem as_word {a b : Int} (ha : (Lit.int .u64 a).wf = true) (hb : (Lit.int .u64 b).wf = true) : ∃ w : Nat, w < 2 ^ 128 ∧ a = hi w ∧ b = lo w := by
  have h1 : 0 ≤ a ∧ a ≤ 18446744073709551615 := by simpa [Lit.wf, IntKind.min, IntKind.max, IntKind.signed, IntKind.bits] using ha
  have h2 : 0 ≤ b ∧ b ≤ 18446744073709551615 := by simpa [Lit.wf, IntKind.min, IntKind.max, IntKind.signed, IntKind.bits] using hb
  exact ⟨wd a b, wd_lt (by omega) (by omega), (hi_wd h1.1 h2.1 (by omega)).symm, (lo_wd h2.1 (by omega)).symm⟩
end Go.Proofs.YtdjhmapmhajkcaaDoor.Th
