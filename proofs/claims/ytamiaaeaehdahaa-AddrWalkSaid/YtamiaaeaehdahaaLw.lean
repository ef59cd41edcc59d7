/- Words of 128 bits: what the program's functions and the document's compute, on numbers below 2^128. -/
import Derived.Test.YtamiaaeaehdahaaLp
import Derived.Test.YtamiaaeaehdahaaX5
import Derived.Test.YtamiaaeaehdahaaX9
import Derived.Test.YtamiaaeaehdahaaX18
import Derived.Test.YtamiaaeaehdahaaX19
import Derived.Test.YtamiaaeaehdahaaX20
namespace Go.Proofs.Ytamiaaeaehdahaa.Th
open Go.RowKit Go.Proofs.Ytamiaaeaehdahaa.X Go.Proofs.YtamiaaeaehdahaaW.PrintWords Go.Proofs.YtamiaaeaehdahaaW.PrintLast Go.Proofs.Ytamiaaeaehdahaa.Sm
set_option linter.unusedVariables false
set_option linter.unusedSimpArgs false

theorem p128 : (2 : Nat) ^ 128 = 340282366920938463463374607431768211456 := by decide
theorem pand (u v : Nat) (hu : u < 2 ^ 128) (hv : v < 2 ^ 128) : word_And.f (hi u) (lo u) (hi v) (lo v) = some (hi (u &&& v), lo (u &&& v)) := by
  unfold word_And.f; rw [and_hi u v hu hv, and_lo]
theorem rand_ (u v : Nat) (hu : u < 2 ^ 128) (hv : v < 2 ^ 128) : turnpikeref1_And.f (hi u) (lo u) (hi v) (lo v) = some (hi (u &&& v), lo (u &&& v)) := by
  unfold turnpikeref1_And.f; rw [and_hi u v hu hv, and_lo]
theorem pnot (v : Nat) (hv : v < 2 ^ 128) : word_Not.f (hi v) (lo v) = some (hi (nt v), lo (nt v)) := by
  unfold word_Not.f; rw [not_hi v hv, not_lo v hv]
theorem pshr (v n : Nat) (hv : v < 2 ^ 128) : word_Shr.f (hi v) (lo v) (n : Int) = some (hi (sr v n), lo (sr v n)) := by
  unfold word_Shr.f
  by_cases h0 : n = 0
  · subst h0; rw [if_pos (by decide), sr_zero v]
  · rw [if_neg (by omega)]
    by_cases h64 : n < 64
    · have e : wrap64 (64 - (n : Int)) = ((64 - n : Nat) : Int) := by rw [w64 (by omega) (by omega)]; omega
      rw [if_pos (by omega), if_pos (by omega), e, if_pos (by omega), shr_hi v n h64, shr_lo v n (by omega) h64]
    · rw [if_neg (by omega)]
      by_cases h128 : n < 128
      · have e : wrap64 ((n : Int) - 64) = ((n - 64 : Nat) : Int) := by rw [w64 (by omega) (by omega)]; omega
        obtain ⟨h1, h2⟩ := shr_far v n (by omega) (by omega) hv
        rw [if_pos (by omega), e, if_pos (by omega), h1, h2]
      · rw [if_neg (by omega), sr_all v n (by omega) hv]; rfl
/-- the first n bits -/
def mk (n : Nat) : Nat := nt (sr (2 ^ 128 - 1) n)
theorem mk_lt (n : Nat) : mk n < 2 ^ 128 := nt_lt _
theorem nt_bit {v : Nat} (h : v < 2 ^ 128) (i : Nat) : (nt v).testBit i = (decide (i < 128) && !v.testBit i) := by
  unfold nt
  rw [show 2 ^ 128 - 1 - v = 2 ^ 128 - (v + 1) by omega, Nat.testBit_two_pow_sub_succ h]
theorem all_lt : (2 : Nat) ^ 128 - 1 < 2 ^ 128 := by decide
theorem mk_bit (n i : Nat) : (mk n).testBit i = (decide (i < 128) && decide (128 ≤ i + n)) := by
  unfold mk
  rw [nt_bit (sr_lt n all_lt), sr_bit, Nat.testBit_two_pow_sub_one]
  by_cases h : i + n < 128
  · first | (simp [h]; done) | (simp [h]; omega)
  · first | (simp [h]; done) | (simp [h]; omega)
theorem pmask (n : Nat) : word_Mask.f (n : Int) = some (hi (mk n), lo (mk n)) := by
  unfold word_Mask.f word_ones.f
  have e1 : (18446744073709551615 : Int) = hi (2 ^ 128 - 1) := by decide
  have e2 : lo (2 ^ 128 - 1) = (18446744073709551615 : Int) := by decide
  have h := pshr (2 ^ 128 - 1) n all_lt
  rw [← e1, e2] at h
  simp only [Option.bind_some, h]
  rw [pnot _ (sr_lt n all_lt)]
  rfl
/-- a word with a bit set so (b: 0 or 1) -/
def put (v i b : Nat) : Nat := (v &&& nt (2 ^ (127 - i))) ||| (b * 2 ^ (127 - i))
theorem two_lt {i : Nat} (h : i < 128) : (2 : Nat) ^ i < 2 ^ 128 := Nat.pow_lt_pow_right (by decide) h
theorem b_bit (b e j : Nat) (hb : b ≤ 1) : (b * 2 ^ e).testBit j = (decide (e = j) && decide (b = 1)) := by
  have : b = 0 ∨ b = 1 := by omega
  rcases this with rfl | rfl
  · simp
  · rw [Nat.one_mul, Nat.testBit_two_pow]; simp
theorem put_bit (v i b j : Nat) (hv : v < 2 ^ 128) (hi : i ≤ 127) (hb : b ≤ 1) : (put v i b).testBit j = if j = 127 - i then decide (b = 1) else v.testBit j := by
  unfold put
  rw [Nat.testBit_or, Nat.testBit_and, nt_bit (two_lt (by omega)), Nat.testBit_two_pow, b_bit _ _ _ hb]
  by_cases h : j = 127 - i
  · simp [h]
  · have h' : ¬ 127 - i = j := fun e => h e.symm
    by_cases h128 : j < 128
    · simp [h, h', h128]
    · simp [h, h', big hv (show 128 ≤ j by omega)]
theorem put_lt (v i b : Nat) (hv : v < 2 ^ 128) (hi : i ≤ 127) (hb : b ≤ 1) : put v i b < 2 ^ 128 := by
  unfold put
  apply Nat.or_lt_two_pow (Nat.lt_of_le_of_lt Nat.and_le_left hv)
  have : b * 2 ^ (127 - i) ≤ 1 * 2 ^ (127 - i) := Nat.mul_le_mul_right _ hb
  exact Nat.lt_of_le_of_lt this (by rw [Nat.one_mul]; exact two_lt (by omega))
theorem andNot_n (a b : Nat) (ha : a < 2 ^ 64) (hb : b < 2 ^ 64) : Go.bits .andNot .u64 (a : Int) (b : Int) = ((a &&& (2 ^ 64 - (b + 1)) : Nat) : Int) := by
  have := u64_andNot_nat a b (p64 ▸ ha) (p64 ▸ hb)
  rw [this, p64]
  congr 2
  omega
theorem put_half (a e b : Nat) (ha : a < 2 ^ 64) (he : e ≤ 63) (hb : b ≤ 1) :
    Go.bits .or .u64 (Go.bits .andNot .u64 (a : Int) (shl .u64 1 (e : Int))) (shl .u64 (IntKind.u64.wrap (b : Int)) (e : Int)) = (((a &&& (2 ^ 64 - (2 ^ e + 1))) ||| b * 2 ^ e : Nat) : Int) := by
  have h2e : (2 : Nat) ^ e < 2 ^ 64 := Nat.pow_lt_pow_right (by decide) (by omega)
  have hbe : b * 2 ^ e < 2 ^ 64 := Nat.lt_of_le_of_lt (Nat.le_trans (Nat.mul_le_mul_right (2 ^ e) hb) (by rw [Nat.one_mul]; exact Nat.le_refl _)) h2e
  have e1 : shl .u64 1 (e : Int) = ((2 ^ e : Nat) : Int) := by
    have := shl_n 1 e (by omega)
    rw [Nat.one_mul, Nat.mod_eq_of_lt h2e] at this
    exact this
  have e2 : shl .u64 (IntKind.u64.wrap (b : Int)) (e : Int) = ((b * 2 ^ e : Nat) : Int) := by
    rw [u64w (by omega) (by omega), shl_n b e (by omega), Nat.mod_eq_of_lt hbe]
  rw [e1, e2, andNot_n a _ ha h2e, bits_or_n _ _ (Nat.lt_of_le_of_lt Nat.and_le_left ha) hbe]
theorem half_bit (a e b j : Nat) (ha : a < 2 ^ 64) (he : e ≤ 63) (hb : b ≤ 1) : ((a &&& (2 ^ 64 - (2 ^ e + 1))) ||| b * 2 ^ e).testBit j = if j = e then decide (b = 1) else a.testBit j := by
  rw [Nat.testBit_or, Nat.testBit_and, Nat.testBit_two_pow_sub_succ (Nat.pow_lt_pow_right (by decide) (by omega)), Nat.testBit_two_pow, b_bit _ _ _ hb]
  by_cases h : j = e
  · simp [h]
  · have h' : ¬ e = j := fun x => h x.symm
    by_cases h64 : j < 64
    · simp [h, h', h64]
    · have : a.testBit j = false := Nat.testBit_lt_two_pow (Nat.lt_of_lt_of_le ha (Nat.pow_le_pow_right (by decide) (by omega)))
      simp [h, h', this]
theorem rput (v i b : Nat) (hv : v < 2 ^ 128) (hi127 : i ≤ 127) (hb : b ≤ 1) : turnpikeref1_Put.f (hi v) (lo v) (i : Int) (b : Int) = some (hi (put v i b), lo (put v i b)) := by
  unfold turnpikeref1_Put.f
  by_cases h : i < 64
  · have e : wrap64 (63 - (i : Int)) = ((63 - i : Nat) : Int) := by rw [w64 (by omega) (by omega)]; omega
    rw [if_pos (by omega), e, if_pos (by omega)]
    congr 2
    · unfold hi
      rw [put_half _ _ _ (hi_lt hv) (by omega) hb]
      congr 1
      apply Nat.eq_of_testBit_eq
      intro j
      rw [half_bit _ _ _ _ (hi_lt hv) (by omega) hb, hib, hib, put_bit _ _ _ _ hv hi127 hb]
      by_cases hj : j = 63 - i
      · rw [if_pos hj, if_pos (by omega)]
      · rw [if_neg hj, if_neg (by omega)]
    · unfold lo
      congr 1
      apply Nat.eq_of_testBit_eq
      intro j
      rw [lob, lob, put_bit _ _ _ _ hv hi127 hb]
      by_cases hj : j < 64
      · rw [if_neg (by omega)]
      · simp [hj]
  · have e : wrap64 (127 - (i : Int)) = ((127 - i : Nat) : Int) := by rw [w64 (by omega) (by omega)]; omega
    rw [if_neg (by omega), e, if_pos (by omega)]
    congr 2
    · unfold hi
      congr 1
      apply Nat.eq_of_testBit_eq
      intro j
      rw [hib, hib, put_bit _ _ _ _ hv hi127 hb, if_neg (by omega)]
    · unfold lo
      rw [put_half _ _ _ (lo_lt v) (by omega) hb]
      congr 1
      apply Nat.eq_of_testBit_eq
      intro j
      rw [half_bit _ _ _ _ (lo_lt v) (by omega) hb, lob, lob, put_bit _ _ _ _ hv hi127 hb]
      by_cases hj : j = 127 - i
      · rw [if_pos hj, if_pos hj]; simp; omega
      · rw [if_neg hj, if_neg hj]
theorem mk_succ (i : Nat) (h : i ≤ 127) : put (mk i) i 1 = mk (i + 1) := by
  apply Nat.eq_of_testBit_eq
  intro j
  rw [put_bit _ _ _ _ (mk_lt i) h (by omega), mk_bit, mk_bit]
  by_cases hj : j = 127 - i
  · rw [if_pos hj]
    simp [show j < 128 by omega, show 128 ≤ j + (i + 1) by omega]
  · rw [if_neg hj]
    by_cases h1 : j < 128
    · by_cases h2 : 128 ≤ j + i
      · simp [h1, h2, show 128 ≤ j + (i + 1) by omega]
      · simp [h1, h2, show ¬ 128 ≤ j + (i + 1) by omega]
    · simp [h1]
theorem mk_zero : mk 0 = 0 := by unfold mk nt; rw [sr_zero]
theorem mk_big (n : Nat) (h : 128 ≤ n) : mk n = mk 128 := by
  apply Nat.eq_of_testBit_eq
  intro j
  rw [mk_bit, mk_bit]
  by_cases h1 : j < 128
  · simp [h1, show 128 ≤ j + n by omega]
  · simp [h1]
theorem rmask_l0 (n : Nat) : ∀ (d i : Nat), i + d = min n 128 →
    Ev (fun k => turnpikeref1_Mask.l0 k (n : Int) (i : Int) (hi (mk i)) (lo (mk i))) (hi (mk n), lo (mk n))
  | 0, i, h => by
    have hd : mk i = mk n := by
      by_cases h128 : n ≤ 128
      · rw [show i = n by omega]
      · rw [mk_big n (by omega), show i = 128 by omega]
    refine Ev.step (fun k => turnpikeref1_Mask.l0.eq_2 _ _ _ _ _) ?_
    rw [hd]
    by_cases h1 : (i : Int) < (n : Int)
    · simp only [if_pos h1, if_neg (show ¬ (i : Int) < 128 by omega)]; exact Ev.now _
    · simp only [if_neg h1]; exact Ev.now _
  | d + 1, i, h => by
    refine Ev.step (fun k => turnpikeref1_Mask.l0.eq_2 _ _ _ _ _) ?_
    have hp := rput (mk i) i 1 (mk_lt i) (by omega) (by omega)
    rw [mk_succ i (by omega), show ((1 : Nat) : Int) = 1 from rfl] at hp
    simp only [if_pos (show (i : Int) < (n : Int) by omega), if_pos (show (i : Int) < 128 by omega), hp, Option.bind_some, wr1 (show i ≤ 1000000000 by omega)]
    exact rmask_l0 n d (i + 1) (by omega)
theorem rmask (n : Nat) : Ev (fun k => turnpikeref1_Mask.f k (n : Int)) (hi (mk n), lo (mk n)) := by
  have := rmask_l0 n (min n 128) 0 (by omega)
  rw [mk_zero] at this
  exact this

/-! ### nought, and comparing -/
theorem zero_iff (x : Nat) : (!(hi x == 0) || (!(lo x == 0))) = true ↔ x ≠ 0 := by
  constructor
  · intro h e
    rw [e] at h
    exact absurd h (by decide)
  · intro h
    by_cases h1 : hi x = 0
    · by_cases h2 : lo x = 0
      · exact absurd (word_eq (v := 0) h1 h2) h
      · simp [h2]
    · simp [h1]
theorem eq_iff (u v : Nat) : (hi u == hi v && (lo u == lo v)) = decide (u = v) := by
  by_cases h : u = v
  · subst h; simp
  · rw [decide_eq_false h]
    by_cases h1 : hi u = hi v
    · by_cases h2 : lo u = lo v
      · exact absurd (word_eq h1 h2) h
      · simp [h2]
    · simp [h1]
theorem ne_iff (u v : Nat) : (!(hi u == hi v) || (!(lo u == lo v))) = decide (u ≠ v) := by
  have := eq_iff u v
  by_cases h : u = v
  · subst h; simp
  · rw [decide_eq_false h] at this
    rw [decide_eq_true h, ← Bool.not_and, this]; rfl
theorem hi0z : hi 0 = 0 := rfl
theorem lo0z : lo 0 = 0 := rfl
/-- is it one of the two? -/
def fam (f : Int) : Bool := f == 32 || f == 128
def rightV (f : Int) (w : Nat) : Int := if fam f = true then (if w &&& nt (mk f.toNat) = 0 then 0 else 6) else 11
theorem pright (f : Int) (w : Nat) (hw : w < 2 ^ 128) : Ev (fun k => addr_Right.f k f (hi w) (lo w)) (rightV f w) := by
  have key : ∀ n : Nat, Ev (fun k => addr_Right.j0 k (n : Int) false (hi w) (lo w)) (if w &&& nt (mk n) = 0 then 0 else 6) := by
    intro n
    refine Ev.step (fun k => addr_Right.j0.eq_2 _ _ _ _ _) ?_
    simp only [Bool.false_eq_true, if_false, pmask, Option.bind_some, pnot _ (mk_lt n), pand w _ hw (nt_lt _), zero_iff]
    by_cases h : w &&& nt (mk n) = 0
    · simp only [h, ne_eq, not_true_eq_false, if_false, if_true]; exact Ev.now _
    · simp only [ne_eq, h, not_false_eq_true, if_true, if_false]; exact Ev.now _
  unfold addr_Right.f rightV fam
  by_cases h32 : f = 32
  · subst h32
    simp only [if_true, beq_self_eq_true, Bool.true_or]
    exact key 32
  · simp only [if_neg h32]
    by_cases h128 : f = 128
    · subst h128
      simp only [bne_self_eq_false, show ((128 : Int) == 32) = false from rfl, Bool.false_or, beq_self_eq_true, if_true]
      exact key 128
    · have e1 : (f != 128) = true := by simp [h128]
      have e2 : (f == 32 || f == 128) = false := by simp [h32, h128]
      simp only [e1, e2, Bool.false_eq_true, if_false]
      refine Ev.step (fun k => addr_Right.j0.eq_2 _ _ _ _ _) ?_
      simp only [if_true]; exact Ev.now _
theorem rfam (f : Int) : turnpikeref2_IsFamily.f f = some (fam f) := by
  unfold turnpikeref2_IsFamily.f fam
  by_cases h32 : f = 32
  · subst h32; rfl
  · rw [if_neg h32]; simp [h32]
theorem fam_cases {f : Int} (h : fam f = true) : f = ((32 : Nat) : Int) ∨ f = ((128 : Nat) : Int) := by
  unfold fam at h
  simpa using h
theorem pright0 (f : Int) : Ev (fun k => addr_Right.f k f 0 0) (if fam f = true then 0 else 11) := by
  have := pright f 0 (by decide)
  unfold rightV at this
  simp only [Nat.zero_and, if_true] at this
  exact this

/-! ### sums and differences -/
def ad (u v : Nat) : Nat := (u + v) % 2 ^ 128
def sb (u v : Nat) : Nat := (u + 2 ^ 128 - v) % 2 ^ 128
theorem split_word {u : Nat} (h : u < 2 ^ 128) : ∃ a b : Nat, a < 18446744073709551616 ∧ b < 18446744073709551616 ∧ u = a * 18446744073709551616 + b ∧ hi u = (a : Int) ∧ lo u = (b : Int) := by
  refine ⟨u / 2 ^ 64, u % 2 ^ 64, p64 ▸ hi_lt h, p64 ▸ lo_lt u, ?_, rfl, rfl⟩
  rw [p64]; omega
theorem hi_of {u a b : Nat} (hb : b < 18446744073709551616) (h : u = a * 18446744073709551616 + b) : hi u = (a : Int) := by
  unfold hi
  rw [h, p64]; omega
theorem lo_of {u a b : Nat} (hb : b < 18446744073709551616) (h : u = a * 18446744073709551616 + b) : lo u = (b : Int) := by
  unfold lo
  rw [h, p64]; omega
theorem u64m (n : Int) : IntKind.u64.wrap n = n % 18446744073709551616 := rfl
theorem ad_parts (a b c d : Nat) (ha : a < 18446744073709551616) (hb : b < 18446744073709551616) (hc : c < 18446744073709551616) (hd : d < 18446744073709551616) :
    ad (a * 18446744073709551616 + b) (c * 18446744073709551616 + d) = ((a + c + (b + d) / 18446744073709551616) % 18446744073709551616) * 18446744073709551616 + (b + d) % 18446744073709551616 := by
  unfold ad
  rw [p128]
  by_cases h1 : b + d < 18446744073709551616
  · rw [Nat.div_eq_of_lt h1, Nat.mod_eq_of_lt h1]
    by_cases h2 : a + c < 18446744073709551616
    · rw [Nat.mod_eq_of_lt (show a + c + 0 < 18446744073709551616 by omega), Nat.mod_eq_of_lt (by omega)]; omega
    · rw [show a + c + 0 = (a + c - 18446744073709551616) + 18446744073709551616 by omega, Nat.add_mod_right, Nat.mod_eq_of_lt (show a + c - 18446744073709551616 < 18446744073709551616 by omega),
        show a * 18446744073709551616 + b + (c * 18446744073709551616 + d) = ((a + c - 18446744073709551616) * 18446744073709551616 + (b + d)) + 340282366920938463463374607431768211456 by omega, Nat.add_mod_right, Nat.mod_eq_of_lt (by omega)]
  · rw [show (b + d) / 18446744073709551616 = 1 by omega, show (b + d) % 18446744073709551616 = b + d - 18446744073709551616 by omega]
    by_cases h2 : a + c + 1 < 18446744073709551616
    · rw [Nat.mod_eq_of_lt h2, Nat.mod_eq_of_lt (by omega)]; omega
    · rw [show a + c + 1 = (a + c + 1 - 18446744073709551616) + 18446744073709551616 by omega, Nat.add_mod_right, Nat.mod_eq_of_lt (show a + c + 1 - 18446744073709551616 < 18446744073709551616 by omega),
        show a * 18446744073709551616 + b + (c * 18446744073709551616 + d) = ((a + c + 1 - 18446744073709551616) * 18446744073709551616 + (b + d - 18446744073709551616)) + 340282366920938463463374607431768211456 by omega, Nat.add_mod_right, Nat.mod_eq_of_lt (by omega)]
theorem padd (u v : Nat) (hu : u < 2 ^ 128) (hv : v < 2 ^ 128) : word_Add.f (hi u) (lo u) (hi v) (lo v) = some (hi (ad u v), lo (ad u v), decide (2 ^ 128 ≤ u + v)) := by
  obtain ⟨a, b, ha, hb, hu', e1, e2⟩ := split_word hu
  obtain ⟨c, d, hc, hd, hv', e3, e4⟩ := split_word hv
  have hp := ad_parts a b c d ha hb hc hd
  rw [← hu', ← hv'] at hp
  rw [hi_of (Nat.mod_lt _ (by decide)) hp, lo_of (Nat.mod_lt _ (by decide)) hp, e1, e2, e3, e4]
  unfold word_Add.f
  rw [if_pos (by omega)]
  congr 1
  have x1 : ((a : Int) + (c : Int) + ((b : Int) + (d : Int)) / 18446744073709551616) % 18446744073709551616 = (((a + c + (b + d) / 18446744073709551616) % 18446744073709551616 : Nat) : Int) := by omega
  have x2 : ((b : Int) + (d : Int)) % 18446744073709551616 = (((b + d) % 18446744073709551616 : Nat) : Int) := by omega
  have x3 : (((a : Int) + (c : Int) + ((b : Int) + (d : Int)) / 18446744073709551616) / 18446744073709551616 == 1) = decide (2 ^ 128 ≤ u + v) := by
    rw [p128]
    by_cases h : 340282366920938463463374607431768211456 ≤ u + v
    · rw [decide_eq_true h, beq_iff_eq]; omega
    · rw [decide_eq_false h, beq_eq_false_iff_ne]; omega
  rw [x1, x2, x3]
theorem ite_some {α : Type} {c : Prop} [Decidable c] {x y : Option α} {r : α} (h1 : c → x = some r) (h2 : ¬ c → y = some r) : (if c then x else y) = some r := by
  by_cases h : c
  · rw [if_pos h]; exact h1 h
  · rw [if_neg h]; exact h2 h
theorem trip {a b a' b' : Int} {c c' : Bool} (h1 : a = a') (h2 : b = b') (h3 : c = c') : some (a, b, c) = some (a', b', c') := by rw [h1, h2, h3]
theorem sb_parts (a b c d : Nat) (ha : a < 18446744073709551616) (hb : b < 18446744073709551616) (hc : c < 18446744073709551616) (hd : d < 18446744073709551616) :
    sb (a * 18446744073709551616 + b) (c * 18446744073709551616 + d) = ((a + 18446744073709551616 - c - (if b < d then 1 else 0)) % 18446744073709551616) * 18446744073709551616 + (b + 18446744073709551616 - d) % 18446744073709551616 := by
  unfold sb
  rw [p128]
  by_cases h1 : b < d
  · rw [if_pos h1, Nat.mod_eq_of_lt (show b + 18446744073709551616 - d < 18446744073709551616 by omega)]
    by_cases h2 : a < c + 1
    · rw [Nat.mod_eq_of_lt (show a + 18446744073709551616 - c - 1 < 18446744073709551616 by omega), Nat.mod_eq_of_lt (by omega)]; omega
    · rw [show a + 18446744073709551616 - c - 1 = (a - c - 1) + 18446744073709551616 by omega, Nat.add_mod_right, Nat.mod_eq_of_lt (show a - c - 1 < 18446744073709551616 by omega),
        show a * 18446744073709551616 + b + 340282366920938463463374607431768211456 - (c * 18446744073709551616 + d) = ((a - c - 1) * 18446744073709551616 + (b + 18446744073709551616 - d)) + 340282366920938463463374607431768211456 by omega, Nat.add_mod_right, Nat.mod_eq_of_lt (by omega)]
  · rw [if_neg h1, show b + 18446744073709551616 - d = (b - d) + 18446744073709551616 by omega, Nat.add_mod_right, Nat.mod_eq_of_lt (show b - d < 18446744073709551616 by omega)]
    by_cases h2 : a < c
    · rw [Nat.sub_zero, Nat.mod_eq_of_lt (show a + 18446744073709551616 - c < 18446744073709551616 by omega), Nat.mod_eq_of_lt (by omega)]; omega
    · rw [Nat.sub_zero, show a + 18446744073709551616 - c = (a - c) + 18446744073709551616 by omega, Nat.add_mod_right, Nat.mod_eq_of_lt (show a - c < 18446744073709551616 by omega),
        show a * 18446744073709551616 + b + 340282366920938463463374607431768211456 - (c * 18446744073709551616 + d) = ((a - c) * 18446744073709551616 + (b - d)) + 340282366920938463463374607431768211456 by omega, Nat.add_mod_right, Nat.mod_eq_of_lt (by omega)]
theorem psub (u v : Nat) (hu : u < 2 ^ 128) (hv : v < 2 ^ 128) : word_Sub.f (hi u) (lo u) (hi v) (lo v) = some (hi (sb u v), lo (sb u v), decide (u < v)) := by
  obtain ⟨a, b, ha, hb, hu', e1, e2⟩ := split_word hu
  obtain ⟨c, d, hc, hd, hv', e3, e4⟩ := split_word hv
  have hp := sb_parts a b c d ha hb hc hd
  rw [← hu', ← hv'] at hp
  rw [hi_of (Nat.mod_lt _ (by decide)) hp, lo_of (Nat.mod_lt _ (by decide)) hp, e1, e2, e3, e4]
  unfold word_Sub.f
  rw [if_pos (by omega)]
  by_cases h1 : b < d
  · rw [if_pos h1, if_pos (show (b : Int) < (d : Int) by omega)]
    refine trip (by omega) (by omega) ?_
    by_cases h : u < v
    · rw [decide_eq_true h, if_pos (by omega)]; rfl
    · rw [decide_eq_false h, if_neg (by omega)]; rfl
  · rw [if_neg h1, if_neg (show ¬ (b : Int) < (d : Int) by omega)]
    refine trip (by omega) (by omega) ?_
    by_cases h : u < v
    · rw [decide_eq_true h, if_pos (by omega)]; rfl
    · rw [decide_eq_false h, if_neg (by omega)]; rfl
def cmpV (u v : Nat) : Int := if u < v then -1 else if u = v then 0 else 1
theorem rcmp (u v : Nat) (hu : u < 2 ^ 128) (hv : v < 2 ^ 128) : Ev (fun k => turnpikeref1_Cmp.f k (hi u) (lo u) (hi v) (lo v)) (cmpV u v) := by
  obtain ⟨a, b, ha, hb, hu', e1, e2⟩ := split_word hu
  obtain ⟨c, d, hc, hd, hv', e3, e4⟩ := split_word hv
  have hj : ∀ x : Bool, Ev (fun k => turnpikeref1_Cmp.j0 k x (hi u) (lo u) (hi v) (lo v)) (if x = true then -1 else if u = v then 0 else 1) := by
    intro x
    refine Ev.step (fun k => turnpikeref1_Cmp.j0.eq_2 _ _ _ _ _ _) ?_
    cases x with
    | true => simp only [if_true]; exact Ev.now _
    | false =>
      simp only [Bool.false_eq_true, if_false, eq_iff, decide_eq_true_iff]
      by_cases h : u = v
      · simp only [if_pos h]; exact Ev.now _
      · simp only [if_neg h]; exact Ev.now _
  unfold turnpikeref1_Cmp.f cmpV
  rw [e1, e2, e3, e4] at *
  by_cases h1 : (a : Int) < (c : Int)
  · simp only [if_pos h1, if_pos (show u < v by omega)]
    have := hj true
    simpa using this
  · simp only [if_neg h1]
    by_cases h2 : (a : Int) = (c : Int)
    · simp only [if_pos h2]
      have := hj (decide ((b : Int) < (d : Int)))
      by_cases h3 : (b : Int) < (d : Int)
      · simp only [decide_eq_true h3, if_true] at this
        simp only [decide_eq_true h3, if_pos (show u < v by omega)]
        exact this
      · simp only [decide_eq_false h3, Bool.false_eq_true, if_false] at this
        simp only [decide_eq_false h3, if_neg (show ¬ u < v by omega)]
        exact this
    · simp only [if_neg h2, if_neg (show ¬ u < v by omega)]
      have := hj false
      simp only [Bool.false_eq_true, if_false] at this
      exact this
theorem cmp_lt (u v : Nat) : cmpV u v < 0 ↔ u < v := by
  unfold cmpV
  by_cases h : u < v
  · simp [h]
  · by_cases h2 : u = v
    · simp [h2]
    · simp [h, h2]
theorem rsub (u v : Nat) (hu : u < 2 ^ 128) (hv : v < 2 ^ 128) : Ev (fun k => turnpikeref1_Sub.f k (hi u) (lo u) (hi v) (lo v)) (hi (sb u v), lo (sb u v), decide (u < v)) := by
  have hcmp := rcmp u v hu hv
  obtain ⟨a, b, ha, hb, hu', e1, e2⟩ := split_word hu
  obtain ⟨c, d, hc, hd, hv', e3, e4⟩ := split_word hv
  have hp := sb_parts a b c d ha hb hc hd
  rw [← hu', ← hv'] at hp
  rw [hi_of (Nat.mod_lt _ (by decide)) hp, lo_of (Nat.mod_lt _ (by decide)) hp]
  rw [e1, e2, e3, e4] at hcmp ⊢
  have m1 : IntKind.u64.wrap ((b : Int) - (d : Int)) = ((b : Int) - (d : Int)) % 18446744073709551616 := rfl
  have m2 : IntKind.u64.wrap ((a : Int) - (c : Int)) = ((a : Int) - (c : Int)) % 18446744073709551616 := rfl
  unfold turnpikeref1_Sub.f
  generalize IntKind.u64.wrap ((b : Int) - (d : Int)) = x at m1 ⊢
  generalize IntKind.u64.wrap ((a : Int) - (c : Int)) = y at m2 ⊢
  have m3 : IntKind.u64.wrap (y - 1) = (y - 1) % 18446744073709551616 := rfl
  have m4 : IntKind.u64.wrap y = y % 18446744073709551616 := rfl
  generalize IntKind.u64.wrap (y - 1) = z at m3 ⊢
  generalize IntKind.u64.wrap y = z' at m4 ⊢
  have ed : decide (cmpV u v < 0) = decide (u < v) := by rw [decide_eq_decide]; exact cmp_lt u v
  by_cases h1 : b < d
  · simp only [if_pos (show (b : Int) < (d : Int) by omega), if_pos h1]
    refine Ev.bind hcmp ?_
    rw [ed, show z = (((a + 18446744073709551616 - c - 1) % 18446744073709551616 : Nat) : Int) by omega, show x = (((b + 18446744073709551616 - d) % 18446744073709551616 : Nat) : Int) by omega]
    exact Ev.now _
  · simp only [if_neg (show ¬ (b : Int) < (d : Int) by omega), if_neg h1]
    refine Ev.bind hcmp ?_
    rw [ed, show z' = (((a + 18446744073709551616 - c - 0) % 18446744073709551616 : Nat) : Int) by omega, show x = (((b + 18446744073709551616 - d) % 18446744073709551616 : Nat) : Int) by omega]
    exact Ev.now _

/-! ### the address beside one -/
/-- how far the addresses of a family stand from one another -/
def unitV (f : Int) : Nat := 2 ^ (128 - f.toNat)
theorem unit_lt (f : Int) (h : fam f = true) : unitV f < 2 ^ 128 := by
  rcases fam_cases h with e | e <;> (subst e; decide)
theorem punit (f : Int) (h : fam f = true) : addr_unit.f f = some (hi (unitV f), lo (unitV f)) := by
  unfold addr_unit.f
  rcases fam_cases h with e | e
  · subst e
    have := pshl 1 96 (by decide) (by decide)
    have e1 : wrap64 (128 - ((32 : Nat) : Int)) = ((96 : Nat) : Int) := by rw [w64 (by omega) (by omega)]; rfl
    rw [e1, show (0 : Int) = hi 1 from rfl, show (1 : Int) = lo 1 from rfl, this]
    have : sl 1 96 = unitV ((32 : Nat) : Int) := by decide
    rw [this]; rfl
  · subst e
    have := pshl 1 0 (by decide) (by decide)
    have e1 : wrap64 (128 - ((128 : Nat) : Int)) = ((0 : Nat) : Int) := by rw [w64 (by omega) (by omega)]; rfl
    rw [e1, show hi 1 = 0 from rfl, show lo 1 = (1 : Int) from rfl] at *
    rw [this]
    have : sl 1 0 = unitV ((128 : Nat) : Int) := by decide
    rw [this]; rfl
theorem rput_unit (f : Int) (h : fam f = true) : turnpikeref1_Put.f 0 0 (wrap64 (f - 1)) 1 = some (hi (unitV f), lo (unitV f)) := by
  rcases fam_cases h with e | e
  · subst e
    have := rput 0 31 1 (by decide) (by decide) (by decide)
    have e2 : put 0 31 1 = unitV ((32 : Nat) : Int) := by decide
    have e1 : wrap64 (((32 : Nat) : Int) - 1) = ((31 : Nat) : Int) := by rw [w64 (by omega) (by omega)]; rfl
    rw [e2, hi0z, lo0z, show ((1 : Nat) : Int) = 1 from rfl] at this
    rw [e1]
    exact this
  · subst e
    have := rput 0 127 1 (by decide) (by decide) (by decide)
    have e2 : put 0 127 1 = unitV ((128 : Nat) : Int) := by decide
    have e1 : wrap64 (((128 : Nat) : Int) - 1) = ((127 : Nat) : Int) := by rw [w64 (by omega) (by omega)]; rfl
    rw [e2, hi0z, lo0z, show ((1 : Nat) : Int) = 1 from rfl] at this
    rw [e1]
    exact this
theorem right_fam {f : Int} {w : Nat} (h : rightV f w = 0) : fam f = true := by
  unfold rightV at h
  by_cases hf : fam f = true
  · exact hf
  · rw [if_neg hf] at h; exact absurd h (by decide)
theorem fam_nat {f : Int} (h : fam f = true) : ((f.toNat : Nat) : Int) = f := by
  rcases fam_cases h with e | e <;> (subst e; rfl)
def nextV (f : Int) (w : Nat) : Int × Int × Bool := if rightV f w = 0 ∧ w ≠ mk f.toNat then (hi (ad w (unitV f)), lo (ad w (unitV f)), true) else (0, 0, false)
def prevV (f : Int) (w : Nat) : Int × Int × Bool := if rightV f w = 0 ∧ w ≠ 0 then (hi (sb w (unitV f)), lo (sb w (unitV f)), true) else (0, 0, false)
theorem ev_eq {α : Type} {o : Option α} {a : α} (h : o = some a) : Ev (fun _ => o) a := ⟨0, fun _ _ => h⟩
theorem pnext_j0 (f : Int) (w : Nat) (hw : w < 2 ^ 128) (hf : fam f = true) : Ev (fun k => addr_Next.j0 k f false (hi w) (lo w)) (hi (ad w (unitV f)), lo (ad w (unitV f)), true) := by
  have h1 := punit f hf
  have h2 := padd w (unitV f) hw (unit_lt f hf)
  generalize unitV f = U at h1 h2 ⊢
  refine Ev.step (fun k => addr_Next.j0.eq_2 _ _ _ _ _) ?_
  simp only [Bool.false_eq_true, if_false]
  exact Ev.bind (ev_eq h1) (Ev.bind (ev_eq h2) (Ev.now _))
theorem pprev_j0 (f : Int) (w : Nat) (hw : w < 2 ^ 128) (hf : fam f = true) : Ev (fun k => addr_Prev.j0 k f false (hi w) (lo w)) (hi (sb w (unitV f)), lo (sb w (unitV f)), true) := by
  have h1 := punit f hf
  have h2 := psub w (unitV f) hw (unit_lt f hf)
  generalize unitV f = U at h1 h2 ⊢
  refine Ev.step (fun k => addr_Prev.j0.eq_2 _ _ _ _ _) ?_
  simp only [Bool.false_eq_true, if_false]
  exact Ev.bind (ev_eq h1) (Ev.bind (ev_eq h2) (Ev.now _))
theorem pnext (f : Int) (w : Nat) (hw : w < 2 ^ 128) : Ev (fun k => addr_Next.f k f (hi w) (lo w)) (nextV f w) := by
  unfold addr_Next.f nextV
  refine Ev.bind (pright f w hw) ?_
  by_cases h : rightV f w = 0
  · have hf := right_fam h
    simp only [if_pos h, h, true_and, if_true]
    have hm := pmask f.toNat
    rw [fam_nat hf] at hm
    simp only [hm, Option.bind_some, eq_iff]
    by_cases he : w = mk f.toNat
    · refine Ev.step (fun k => addr_Next.j0.eq_2 _ _ _ _ _) ?_
      simp only [decide_eq_true he, if_true, if_neg (fun x : w ≠ mk f.toNat => x he)]; exact Ev.now _
    · simp only [decide_eq_false he, ne_eq, he, not_false_eq_true, if_true]; exact pnext_j0 f w hw hf
  · simp only [if_neg h, h, false_and, if_false]
    refine Ev.step (fun k => addr_Next.j0.eq_2 _ _ _ _ _) ?_
    simp only [if_true]; exact Ev.now _
theorem zero_eq (w : Nat) : (hi w == 0 && (lo w == 0)) = decide (w = 0) := eq_iff w 0
theorem pprev (f : Int) (w : Nat) (hw : w < 2 ^ 128) : Ev (fun k => addr_Prev.f k f (hi w) (lo w)) (prevV f w) := by
  unfold addr_Prev.f prevV
  refine Ev.bind (pright f w hw) ?_
  by_cases h : rightV f w = 0
  · have hf := right_fam h
    simp only [if_pos h, h, true_and, if_true, zero_eq]
    by_cases he : w = 0
    · refine Ev.step (fun k => addr_Prev.j0.eq_2 _ _ _ _ _) ?_
      simp only [decide_eq_true he, if_true, if_neg (fun x : w ≠ 0 => x he)]; exact Ev.now _
    · simp only [decide_eq_false he, ne_eq, he, not_false_eq_true, if_true]; exact pprev_j0 f w hw hf
  · simp only [if_neg h, h, false_and, if_false]
    refine Ev.step (fun k => addr_Prev.j0.eq_2 _ _ _ _ _) ?_
    simp only [if_true]; exact Ev.now _
def lastV (f : Int) : Int × Int × Int := if fam f = true then (hi (mk f.toNat), lo (mk f.toNat), 0) else (0, 0, 11)
theorem plast (f : Int) : Ev (fun k => addr_Last.f k f) (lastV f) := by
  unfold addr_Last.f lastV
  refine Ev.bind (pright0 f) ?_
  by_cases h : fam f = true
  · have hm := pmask f.toNat
    rw [fam_nat h] at hm
    simp only [if_pos h, if_true, hm, Option.bind_some]; exact Ev.now _
  · simp only [if_neg h, if_neg (show ¬ (11 : Int) = 0 by decide)]; exact Ev.now _
/-- a word out of an argument's halves -/
theorem as_word {a b : Int} (ha : (Lit.int .u64 a).wf = true) (hb : (Lit.int .u64 b).wf = true) : ∃ w : Nat, w < 2 ^ 128 ∧ a = hi w ∧ b = lo w := by
  have h1 : 0 ≤ a ∧ a ≤ 18446744073709551615 := by simpa [Lit.wf, IntKind.min, IntKind.max, IntKind.signed, IntKind.bits] using ha
  have h2 : 0 ≤ b ∧ b ≤ 18446744073709551615 := by simpa [Lit.wf, IntKind.min, IntKind.max, IntKind.signed, IntKind.bits] using hb
  exact ⟨wd a b, wd_lt (by omega) (by omega), (hi_wd h1.1 h2.1 (by omega)).symm, (lo_wd h2.1 (by omega)).symm⟩
end Go.Proofs.Ytamiaaeaehdahaa.Th
