/- For any four numbers: with dots between they are read just where each is below 256 and no nought stands ahead. -/
import Derived.Test.YtamiaaeaehdahaaLp
import Derived.Test.YtamiaaeaehdahaaDec
import Derived.Test.YtamiaaeaehdahaaX3
import Derived.Test.YtamiaaeaehdahaaX13
import Derived.Test.YtamiaaeaehdahaaX14
import Derived.Test.YtamiaaeaehdahaaX17
namespace Go.Proofs.Ytamiaaeaehdahaa.Pure
open Go.RowKit Go.Proofs.Ytamiaaeaehdahaa.X Go.Proofs.YtamiaaeaehdahaaW.PrintWords Go.Proofs.Ytamiaaeaehdahaa.Th
set_option linter.unusedVariables false
set_option linter.unusedSimpArgs false

theorem ldec_l0 : ∀ (f n : Nat) (acc : List UInt8), n < 10 ^ f → n < 9223372036854775808 → f ≤ 20 → (n ≠ 0 ∨ acc ≠ []) → acc.length + f ≤ 100 →
    Ev (fun k => turnpikelaw2_decimal.l0 k (n : Int) (OfBy acc)) (OfBy (digF f n ++ acc)) := by
  intro f
  induction f with
  | zero =>
    intro n acc h h63 hf ha hl
    have h0 : n = 0 := by simp at h; exact h
    subst h0
    refine Ev.step (fun k => turnpikelaw2_decimal.l0.eq_2 _ _ _) ?_
    have hne : acc ≠ [] := by rcases ha with h | h; exact absurd rfl h; exact h
    simp only [if_neg (show ¬ ((0 : Nat) : Int) > 0 by decide), if_neg (fun e => hne ((ofBy_empty acc).1 e)), digF, List.nil_append]
    exact Ev.now _
  | succ f ih =>
    intro n acc h h63 hf ha hl
    refine Ev.step (fun k => turnpikelaw2_decimal.l0.eq_2 _ _ _) ?_
    by_cases h0 : n = 0
    · subst h0
      have hne : acc ≠ [] := by rcases ha with h | h; exact absurd rfl h; exact h
      simp only [if_neg (show ¬ ((0 : Nat) : Int) > 0 by decide), if_neg (fun e => hne ((ofBy_empty acc).1 e)), digF, List.nil_append, if_true]
      exact Ev.now _
    · simp only [if_pos (show (n : Int) > 0 by omega), Option.bind_some, one_digit, ofBy_append, ofBy_size, tdiv10 n h63, List.length_cons, List.length_nil, List.singleton_append,
        if_pos (show 0 + 1 + acc.length ≤ 9223372036854775807 by omega)]
      have := ih (n / 10) (d10 n :: acc) (by rw [Nat.pow_succ] at h; omega) (by omega) (by omega) (.inr (by simp)) (by simp; omega)
      rw [digF, if_neg h0, List.append_assoc, List.singleton_append]
      exact this
theorem ldec_f (n : Nat) (h : n < 9223372036854775808) : Ev (fun k => turnpikelaw2_decimal.f k (n : Int)) (OfBy (decL n)) := by
  unfold turnpikelaw2_decimal.f decL
  by_cases h0 : n = 0
  · subst h0
    rw [if_pos rfl]
    refine Ev.step (fun k => turnpikelaw2_decimal.l0.eq_2 _ _ _) ?_
    have e1 : strOfNums [wrap64 (48 + Int.tmod ((0 : Nat) : Int) 10) % 256] = OfBy [48] := one_digit 0
    have e2 : wrap64 (Int.tdiv ((0 : Nat) : Int) 10) = ((0 : Nat) : Int) := tdiv10 0 (by decide)
    simp only [if_neg (show ¬ ((0 : Nat) : Int) > 0 by decide), if_pos ((ofBy_empty []).2 rfl), Option.bind_some, e1, e2]
    rw [show (⟨#[]⟩ : ByteArray) = OfBy [] from rfl, ofBy_append]
    simp only [ofBy_size, List.length_cons, List.length_nil, List.append_nil, if_pos (show 0 + 1 + 0 ≤ 9223372036854775807 by omega)]
    have := ldec_l0 0 0 [48] (by decide) (by decide) (by decide) (.inr (by simp)) (by decide)
    exact this
  · rw [if_neg h0]
    have := ldec_l0 20 n [] (by omega) h (by omega) (.inl h0) (by decide)
    rw [List.append_nil] at this
    exact this
theorem lwithin (a n : Int) (h1 : 0 < n) (h2 : n ≤ 1048600) : ∃ m : Nat, (m : Int) < n ∧ turnpikelaw2_within.f a n = some (m : Int) := by
  unfold turnpikelaw2_within.f
  rw [if_neg (by omega)]
  have hlo := Int.tmod_lt_of_pos a h1
  have hneg : -n < Int.tmod a n := by
    have := Int.lt_tmod_of_pos a h1
    omega
  by_cases h : Int.tmod a n < 0
  · rw [if_pos h]
    refine ⟨(Int.tmod a n + n).toNat, by omega, ?_⟩
    rw [w64 (by omega) (by omega)]
    congr 1; omega
  · rw [if_neg h]
    exact ⟨(Int.tmod a n).toNat, by omega, by congr 1; omega⟩
theorem octV_dec (n : Nat) (h : n < 300) : octV (decL n) = if 255 < n then none else some n := by
  have h20 : n < 10 ^ 20 := by omega
  cases hd : decL n with
  | nil => exact absurd hd (decL_ne n h20)
  | cons c t =>
    rw [octV_digits c t (by rw [← hd]; exact decL_isd n)]
    have hv : dv 0 (c :: t) = n := by rw [← hd]; exact decL_val n h20
    have hh : ¬ (c = 48 ∧ t ≠ []) := by
      rintro ⟨rfl, ht⟩
      refine decL_head n h20 ?_ (by rw [hd]; rfl)
      rw [hd]
      have := List.length_pos_iff.2 ht
      simp; omega
    rw [hv]
    by_cases hn : 255 < n
    · rw [if_pos (.inr hn), if_pos hn]
    · rw [if_neg (by rintro (h | h)
                     · exact hh h
                     · exact hn h), if_neg hn]
theorem no46 (n : Nat) : (46 : UInt8) ∉ decL n := by
  intro h
  have := (decL_isd n 46 h).1
  exact absurd this (by decide)
theorem octV_nought (n : Nat) (h : n < 300) : octV (48 :: decL n) = none := by
  have h20 : n < 10 ^ 20 := by omega
  rw [octV_digits 48 (decL n) (by
    intro x hx
    rcases List.mem_cons.1 hx with e | hx
    · rw [e]; exact ⟨by decide, by decide⟩
    · exact decL_isd n x hx)]
  rw [if_pos (.inl ⟨rfl, decL_ne n h20⟩)]
theorem four_text (a b c d : Nat) : (((((OfBy (decL a) ++ (⟨#[46]⟩ : ByteArray)) ++ OfBy (decL b)) ++ (⟨#[46]⟩ : ByteArray)) ++ OfBy (decL c)) ++ (⟨#[46]⟩ : ByteArray)) ++ OfBy (decL d) = OfBy (decL a ++ 46 :: (decL b ++ 46 :: (decL c ++ 46 :: decL d))) := by
  rw [show (⟨#[46]⟩ : ByteArray) = OfBy [46] from rfl]
  simp only [ofBy_append]
  simp
theorem dotV_four (p : List UInt8) (hp : (46 : UInt8) ∉ p) (b c d : Nat) : dotV (p ++ 46 :: (decL b ++ 46 :: (decL c ++ 46 :: decL d))) = four [p, decL b, decL c, decL d] := by
  unfold dotV
  rw [pieces_one _ _ hp, pieces_one _ _ (no46 b), pieces_one _ _ (no46 c), pieces_none _ (no46 d)]
theorem or4 (a b c d : Nat) (ha : a < 256) (hb : b < 256) (hc : c < 256) (hd : d < 256) :
    Go.bits .or .u64 (Go.bits .or .u64 (Go.bits .or .u64 (IntKind.u64.wrap ((IntKind.u64.wrap (a : Int)) * 72057594037927936)) (IntKind.u64.wrap ((IntKind.u64.wrap (b : Int)) * 281474976710656))) (IntKind.u64.wrap ((IntKind.u64.wrap (c : Int)) * 1099511627776))) (IntKind.u64.wrap ((IntKind.u64.wrap (d : Int)) * 4294967296)) =
      (((((a * 256 + b) * 256 + c) * 256 + d) * 4294967296 : Nat) : Int) := by
  have e : ∀ (x m : Nat), x < 256 → m ≤ 72057594037927936 → IntKind.u64.wrap ((IntKind.u64.wrap (x : Int)) * (m : Int)) = ((x * m : Nat) : Int) := by
    intro x m hx hm
    have h1 : x * m ≤ 255 * 72057594037927936 := Nat.mul_le_mul (by omega) hm
    rw [u64w (n := (x : Int)) (by omega) (by omega), ← Int.natCast_mul, u64w (by omega) (by omega)]
  have ea := e a 72057594037927936 ha (by omega)
  have eb := e b 281474976710656 hb (by omega)
  have ec := e c 1099511627776 hc (by omega)
  have ed := e d 4294967296 hd (by omega)
  rw [show ((72057594037927936 : Nat) : Int) = 72057594037927936 from rfl] at ea
  rw [show ((281474976710656 : Nat) : Int) = 281474976710656 from rfl] at eb
  rw [show ((1099511627776 : Nat) : Int) = 1099511627776 from rfl] at ec
  rw [show ((4294967296 : Nat) : Int) = 4294967296 from rfl] at ed
  rw [ea, eb, ec, ed]
  have o1 : a * 72057594037927936 ||| b * 281474976710656 = a * 72057594037927936 + b * 281474976710656 := by
    have := or_add (e := 56) (q := a) (b := b * 281474976710656) (by omega)
    rw [show (2 : Nat) ^ 56 = 72057594037927936 from rfl, Nat.mul_comm] at this; exact this
  have o2 : (a * 72057594037927936 + b * 281474976710656) ||| c * 1099511627776 = a * 72057594037927936 + b * 281474976710656 + c * 1099511627776 := by
    have := or_add (e := 48) (q := a * 256 + b) (b := c * 1099511627776) (by omega)
    rw [show (2 : Nat) ^ 48 = 281474976710656 from rfl] at this
    rw [show a * 72057594037927936 + b * 281474976710656 = 281474976710656 * (a * 256 + b) by omega]; exact this
  have o3 : (a * 72057594037927936 + b * 281474976710656 + c * 1099511627776) ||| d * 4294967296 = a * 72057594037927936 + b * 281474976710656 + c * 1099511627776 + d * 4294967296 := by
    have := or_add (e := 40) (q := (a * 256 + b) * 256 + c) (b := d * 4294967296) (by omega)
    rw [show (2 : Nat) ^ 40 = 1099511627776 from rfl] at this
    rw [show a * 72057594037927936 + b * 281474976710656 + c * 1099511627776 = 1099511627776 * ((a * 256 + b) * 256 + c) by omega]; exact this
  rw [u64_or_nat _ _ (by omega) (by omega), o1, u64_or_nat _ _ (by omega) (by omega), o2, u64_or_nat _ _ (by omega) (by omega), o3]
  have e5 : a * 72057594037927936 + b * 281474976710656 + c * 1099511627776 + d * 4294967296 = (((a * 256 + b) * 256 + c) * 256 + d) * 4294967296 := by omega
  rw [e5]
theorem AddrFour : turnpikelaw2_AddrFour.Pure := by
  intro a0 a1 a2 a3 a4 _ _ _ _
  obtain ⟨a, ha, ea⟩ := lwithin a0 300 (by decide) (by decide)
  obtain ⟨b, hb, eb⟩ := lwithin a1 300 (by decide) (by decide)
  obtain ⟨c, hc, ec⟩ := lwithin a2 300 (by decide) (by decide)
  obtain ⟨d, hd, ed⟩ := lwithin a3 300 (by decide) (by decide)
  have la := decL_len a 3 (by decide) (by omega)
  have lb := decL_len b 3 (by decide) (by omega)
  have lc := decL_len c 3 (by decide) (by omega)
  have ld := decL_len d 3 (by decide) (by omega)
  refine Ev.rounds ?_
  unfold turnpikelaw2_AddrFour.f
  refine Ev.bind known_f ?_
  simp only [if_true, ea, eb, ec, ed, Option.bind_some]
  have sz : (⟨#[46]⟩ : ByteArray).size = 1 := rfl
  refine Ev.bind (ldec_f a (by omega)) ?_
  simp only [ByteArray.size_append, ofBy_size, sz, if_pos (show (decL a).length + 1 ≤ 9223372036854775807 by omega)]
  refine Ev.bind (ldec_f b (by omega)) ?_
  simp only [ByteArray.size_append, ofBy_size, sz, if_pos (show (decL a).length + 1 + (decL b).length ≤ 9223372036854775807 by omega), if_pos (show (decL a).length + 1 + (decL b).length + 1 ≤ 9223372036854775807 by omega)]
  refine Ev.bind (ldec_f c (by omega)) ?_
  simp only [ByteArray.size_append, ofBy_size, sz, if_pos (show (decL a).length + 1 + (decL b).length + 1 + (decL c).length ≤ 9223372036854775807 by omega), if_pos (show (decL a).length + 1 + (decL b).length + 1 + (decL c).length + 1 ≤ 9223372036854775807 by omega)]
  refine Ev.bind (ldec_f d (by omega)) ?_
  simp only [ByteArray.size_append, ofBy_size, sz, if_pos (show (decL a).length + 1 + (decL b).length + 1 + (decL c).length + 1 + (decL d).length ≤ 9223372036854775807 by omega),
    if_pos (show 1 + ((decL a).length + 1 + (decL b).length + 1 + (decL c).length + 1 + (decL d).length) ≤ 9223372036854775807 by omega), four_text]
  have no : ∀ (t : ByteArray), t.size ≤ 2097152 → dotV (By t) = none → Ev (fun k => addr_Parse.f k 32 t) (0, 0, 12) := by
    intro t ht h
    have := pparse 32 t ht
    unfold readV at this
    rw [if_pos rfl, h] at this
    exact this
  cases a4 with
  | true =>
    have e0 : (⟨#[48]⟩ : ByteArray) ++ OfBy (decL a ++ 46 :: (decL b ++ 46 :: (decL c ++ 46 :: decL d))) = OfBy ((48 :: decL a) ++ 46 :: (decL b ++ 46 :: (decL c ++ 46 :: decL d))) := by
      rw [show (⟨#[48]⟩ : ByteArray) = OfBy [48] from rfl, ofBy_append]; rfl
    have n46 : (46 : UInt8) ∉ (48 :: decL a) := by
      intro h
      rcases List.mem_cons.1 h with h | h
      · exact absurd h (by decide)
      · exact no46 a h
    have hz : dotV (By (OfBy ((48 :: decL a) ++ 46 :: (decL b ++ 46 :: (decL c ++ 46 :: decL d))))) = none := by
      rw [by_ofBy, dotV_four _ n46]
      simp only [four, octV_nought a (by omega)]
    have hp := no _ (by rw [ofBy_size]; simp; omega) hz
    simp only [if_true, e0]
    refine Ev.bind hp ?_
    simp only [if_true, beq_self_eq_true, Bool.and_self, ite_self]
    exact Ev.now _
  | false =>
    have hz : dotV (By (OfBy (decL a ++ 46 :: (decL b ++ 46 :: (decL c ++ 46 :: decL d))))) = four [decL a, decL b, decL c, decL d] := by
      rw [by_ofBy, dotV_four _ (no46 a)]
    have hsz : (OfBy (decL a ++ 46 :: (decL b ++ 46 :: (decL c ++ 46 :: decL d)))).size ≤ 2097152 := by rw [ofBy_size]; simp; omega
    simp only [Bool.false_eq_true, if_false]
    rw [four] at hz
    rw [octV_dec a (by omega), octV_dec b (by omega), octV_dec c (by omega), octV_dec d (by omega)] at hz
    by_cases h1 : 255 < a
    · rw [if_pos h1] at hz
      refine Ev.bind (no _ hsz hz) ?_
      simp only [if_pos (show (a : Int) > 255 by omega), if_true, beq_self_eq_true, Bool.and_self]
      exact Ev.now _
    rw [if_neg h1] at hz
    by_cases h2 : 255 < b
    · rw [if_pos h2] at hz
      refine Ev.bind (no _ hsz hz) ?_
      simp only [if_neg (show ¬ (a : Int) > 255 by omega), if_pos (show (b : Int) > 255 by omega), if_true, beq_self_eq_true, Bool.and_self]
      exact Ev.now _
    rw [if_neg h2] at hz
    by_cases h3 : 255 < c
    · rw [if_pos h3] at hz
      refine Ev.bind (no _ hsz hz) ?_
      simp only [if_neg (show ¬ (a : Int) > 255 by omega), if_neg (show ¬ (b : Int) > 255 by omega), if_pos (show (c : Int) > 255 by omega), if_true, beq_self_eq_true, Bool.and_self]
      exact Ev.now _
    rw [if_neg h3] at hz
    by_cases h4 : 255 < d
    · rw [if_pos h4] at hz
      refine Ev.bind (no _ hsz hz) ?_
      simp only [if_neg (show ¬ (a : Int) > 255 by omega), if_neg (show ¬ (b : Int) > 255 by omega), if_neg (show ¬ (c : Int) > 255 by omega), if_pos (show (d : Int) > 255 by omega), if_true, beq_self_eq_true, Bool.and_self]
      exact Ev.now _
    rw [if_neg h4] at hz
    have hp := pparse 32 _ hsz
    unfold readV at hp
    rw [if_pos rfl, hz] at hp
    refine Ev.bind hp ?_
    simp only [if_neg (show ¬ (a : Int) > 255 by omega), if_neg (show ¬ (b : Int) > 255 by omega), if_neg (show ¬ (c : Int) > 255 by omega), if_neg (show ¬ (d : Int) > 255 by omega), if_true, or4 a b c d (by omega) (by omega) (by omega) (by omega), beq_self_eq_true, Bool.and_self]
    exact Ev.now _
end Go.Proofs.Ytamiaaeaehdahaa.Pure
