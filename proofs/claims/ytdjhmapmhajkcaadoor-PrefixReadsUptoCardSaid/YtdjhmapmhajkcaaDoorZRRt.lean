/- What the document's writer of addresses computes. -/
import Derived.Test.YtdjhmapmhajkcaaDoorZRRl
import Derived.Test.YtdjhmapmhajkcaaDoorZRGl
import Derived.Test.YtdjhmapmhajkcaaDoorZRLn
import Derived.Test.YtdjhmapmhajkcaaDoorZRX4
import Derived.Test.YtdjhmapmhajkcaaDoorZRX35
import Derived.Test.YtdjhmapmhajkcaaDoorZRX36
import Derived.Test.YtdjhmapmhajkcaaDoorZRX37
namespace Go.Proofs.YtdjhmapmhajkcaaDoor.Th
open Go.RowKit Go.Proofs.YtdjhmapmhajkcaaDoor.X Go.Proofs.YtdjhmapmhajkcaaDoorW.PrintWords
set_option linter.unusedVariables false
set_option linter.unusedSimpArgs false
theorem rdec_l0 : ∀ (f n : Nat) (acc : List UInt8), n < 10 ^ f → n < 9223372036854775808 → f ≤ 20 → (n ≠ 0 ∨ acc ≠ []) → acc.length + f ≤ 100 →
    Ev (fun k => turnpikeref2_Decimal.l0 k (n : Int) (OfBy acc)) (OfBy (digF f n ++ acc)) := by
  intro f
  induction f with
  | zero =>
    intro n acc h h63 hf ha hl
    have h0 : n = 0 := by simp at h; exact h
    subst h0
    refine Ev.step (fun k => turnpikeref2_Decimal.l0.eq_2 _ _ _) ?_
    have hne : acc ≠ [] := by rcases ha with h | h; exact absurd rfl h; exact h
    simp only [if_neg (show ¬ ((0 : Nat) : Int) > 0 by decide), if_neg (fun e => hne ((ofBy_empty acc).1 e)), digF, List.nil_append]
    exact Ev.now _
  | succ f ih =>
    intro n acc h h63 hf ha hl
    refine Ev.step (fun k => turnpikeref2_Decimal.l0.eq_2 _ _ _) ?_
    by_cases h0 : n = 0
    · subst h0
      have hne : acc ≠ [] := by rcases ha with h | h; exact absurd rfl h; exact h
      simp only [if_neg (show ¬ ((0 : Nat) : Int) > 0 by decide), if_neg (fun e => hne ((ofBy_empty acc).1 e)), digF, List.nil_append, if_true]
      exact Ev.now _
    · simp only [if_pos (show (n : Int) > 0 by omega), Option.bind_some, one_digit, ofBy_append, ofBy_size, tdiv10 n h63, List.length_cons, List.length_nil, List.singleton_append,
        if_pos (show 0 + 1 + acc.length ≤ 9223372036854775807 by omega)]
      have := ih (n / 10) (d10 n :: acc) (by rw [Nat.pow_succ] at h; omega) (by omega) (by omega) (.inr (by simp)) (by simp; omega)
      rw [digF, if_neg h0, List.append_assoc, List.singleton_append]
      exact this
theorem rdec_f (n : Nat) (h : n < 9223372036854775808) : Ev (fun k => turnpikeref2_Decimal.f k (n : Int)) (OfBy (decL n)) := by
  refine Ev.step (fun k => turnpikeref2_Decimal.f.eq_2 _ _) ?_
  simp only [if_neg (show ¬ (n : Int) < 0 by omega)]
  unfold decL
  by_cases h0 : n = 0
  · subst h0
    rw [if_pos rfl]
    refine Ev.step (fun k => turnpikeref2_Decimal.l0.eq_2 _ _ _) ?_
    have e1 : strOfNums [wrap64 (48 + Int.tmod ((0 : Nat) : Int) 10) % 256] = OfBy [48] := one_digit 0
    have e2 : wrap64 (Int.tdiv ((0 : Nat) : Int) 10) = ((0 : Nat) : Int) := tdiv10 0 (by decide)
    simp only [if_neg (show ¬ ((0 : Nat) : Int) > 0 by decide), if_pos ((ofBy_empty []).2 rfl), Option.bind_some, e1, e2]
    rw [show (⟨#[]⟩ : ByteArray) = OfBy [] from rfl, ofBy_append]
    simp only [ofBy_size, List.length_cons, List.length_nil, List.append_nil, if_pos (show 0 + 1 + 0 ≤ 9223372036854775807 by omega)]
    exact rdec_l0 0 0 [48] (by decide) (by decide) (by decide) (.inr (by simp)) (by decide)
  · rw [if_neg h0]
    have := rdec_l0 20 n [] (by omega) h (by omega) (.inl h0) (by decide)
    rw [List.append_nil] at this
    exact this
theorem rhex_l0 : ∀ (f n : Nat) (acc : List UInt8), n < 16 ^ f → f ≤ 4 → (f = 0 → acc ≠ []) → acc.length + f ≤ 100 →
    Ev (fun k => turnpikeref2_hex.l0 k (n : Int) (OfBy acc)) (OfBy (hxF (alOf false) 1 f n acc)) := by
  have ea : (⟨#[48, 49, 50, 51, 52, 53, 54, 55, 56, 57, 97, 98, 99, 100, 101, 102]⟩ : ByteArray) = OfBy (alOf false) := rfl
  intro f
  induction f with
  | zero =>
    intro n acc h1 hf h3 h4
    have : n = 0 := by simpa using h1
    subst this
    refine Ev.step (fun k => turnpikeref2_hex.l0.eq_2 _ _ _) ?_
    simp only [if_neg (show ¬ ((0 : Nat) : Int) > 0 by decide), if_neg (fun e => h3 rfl ((ofBy_empty acc).1 e)), hxF]
    exact Ev.now _
  | succ f ih =>
    intro n acc h1 hf h3 h4
    have h16 : 16 ^ (f + 1) ≤ 16 ^ 4 := Nat.pow_le_pow_right (by decide) hf
    have t1 : Int.tmod (n : Int) 16 = ((n % 16 : Nat) : Int) := by rw [Int.tmod_eq_emod_of_nonneg (by omega)]; rfl
    have t2 : wrap64 (((n % 16 : Nat) : Int) + 1) = ((n % 16 + 1 : Nat) : Int) := wr1 (by omega)
    have t3 : wrap64 (Int.tdiv (n : Int) 16) = ((n / 16 : Nat) : Int) := by
      rw [Int.tdiv_eq_ediv_of_nonneg (by omega), w64 (by omega) (by omega)]; omega
    refine Ev.step (fun k => turnpikeref2_hex.l0.eq_2 _ _ _) ?_
    have one := one_sign (alOf false) (alOf_alph false) n
    have go : Ev (fun k => turnpikeref2_hex.l0 k ((n / 16 : Nat) : Int) (OfBy ((alOf false).getD (n % 16) 0 :: acc))) (OfBy (hxF (alOf false) 1 f (n / 16) ((alOf false).getD (n % 16) 0 :: acc))) :=
      ih (n / 16) ((alOf false).getD (n % 16) 0 :: acc) (by rw [Nat.pow_succ] at h1; omega) (by omega) (by simp) (by simp; omega)
    have stop : ∀ c : Prop, (0 < n ∨ acc.length < 1 ∨ acc = []) → hxF (alOf false) 1 (f + 1) n acc = hxF (alOf false) 1 f (n / 16) ((alOf false).getD (n % 16) 0 :: acc) := fun _ hc => by rw [hxF, if_pos hc]
    by_cases hn : 0 < n
    · rw [stop True (.inl hn)]
      simp only [if_pos (show (n : Int) > 0 by omega), t1, t2, t3, if_pos (show (0 : Int) ≤ ((n % 16 : Nat) : Int) by omega), if_pos (show ((n % 16 : Nat) : Int) ≤ ((n % 16 + 1 : Nat) : Int) by omega), if_pos (show ((n % 16 + 1 : Nat) : Int) ≤ 16 by omega), Int.toNat_natCast, ea, one, ofBy_size,
        List.length_cons, List.length_nil, if_pos (show 0 + 1 + acc.length ≤ 9223372036854775807 by omega), ofBy_append, List.singleton_append]
      exact go
    · simp only [if_neg (show ¬ (n : Int) > 0 by omega)]
      by_cases he : acc = []
      · rw [stop True (.inr (.inr he))]
        simp only [if_pos ((ofBy_empty acc).2 he), t1, t2, t3, if_pos (show (0 : Int) ≤ ((n % 16 : Nat) : Int) by omega), if_pos (show ((n % 16 : Nat) : Int) ≤ ((n % 16 + 1 : Nat) : Int) by omega), if_pos (show ((n % 16 + 1 : Nat) : Int) ≤ 16 by omega), Int.toNat_natCast, ea, one, ofBy_size,
          List.length_cons, List.length_nil, if_pos (show 0 + 1 + acc.length ≤ 9223372036854775807 by omega), ofBy_append, List.singleton_append]
        exact go
      · simp only [if_neg (fun e => he ((ofBy_empty acc).1 e))]
        have : 0 < acc.length := List.length_pos_iff.2 he
        rw [hxF, if_neg (by rintro (h | h | h)
                            · exact hn h
                            · omega
                            · exact he h)]
        exact Ev.now _
theorem rhex_f (n : Nat) (hn : n < 65536) : Ev (fun k => turnpikeref2_hex.f k (n : Int)) (OfBy (hx (alOf false) 1 n)) := by
  have := rhex_l0 4 n [] (by omega) (by omega) (by omega) (by decide)
  exact this
theorem text_l2 (g : List Nat) (h8 : g.length = 8) (fr most i : Nat) (hi : i < 8) (r : ByteArray × Int)
    (H : Ev (fun k => if ((zrun g (8 - i) i : Nat) : Int) > (most : Int) then (turnpikeref2_Text.l1 k (ints g) (i : Int) ((zrun g (8 - i) i : Nat) : Int) ((i + 1 : Nat) : Int)) else (turnpikeref2_Text.l1 k (ints g) (fr : Int) (most : Int) ((i + 1 : Nat) : Int))) r) : ∀ (d n : Nat), i + n + d = 8 → zrun g (8 - i) i = n + zrun g d (i + n) →
    Ev (fun k => turnpikeref2_Text.l2 k (ints g) (fr : Int) (most : Int) (i : Int) (n : Int)) r := by
  intro d
  have ei : wrap64 ((i : Int) + 1) = ((i + 1 : Nat) : Int) := wr1 (by omega)
  induction d with
  | zero =>
    intro n hd hz
    have e : wrap64 ((i : Int) + (n : Int)) = ((i + n : Nat) : Int) := by rw [w64 (by omega) (by omega)]; omega
    rw [zrun, Nat.add_zero] at hz
    refine Ev.step (fun k => turnpikeref2_Text.l2.eq_2 _ _ _ _ _ _) ?_
    simp only [e, if_neg (show ¬ ((i + n : Nat) : Int) < 8 by omega), ei]
    rw [← hz]
    exact H
  | succ d ih =>
    intro n hd hz
    have e : wrap64 ((i : Int) + (n : Int)) = ((i + n : Nat) : Int) := by rw [w64 (by omega) (by omega)]; omega
    refine Ev.step (fun k => turnpikeref2_Text.l2.eq_2 _ _ _ _ _ _) ?_
    simp only [e, if_pos (show ((i + n : Nat) : Int) < 8 by omega), if_pos (show (0 : Int) ≤ ((i + n : Nat) : Int) by omega), ints_len, h8, if_pos (show ((i + n : Nat) : Int) < ((8 : Nat) : Int) by omega), rd_g, ei]
    rw [zrun] at hz
    by_cases h : g.getD (i + n) 0 = 0
    · rw [if_pos h] at hz
      simp only [h, if_pos (show ((0 : Nat) : Int) = 0 from rfl), wr1 (show n ≤ 1000000000 by omega)]
      exact ih (n + 1) (by omega) (by rw [hz, show i + (n + 1) = i + n + 1 by omega]; omega)
    · rw [if_neg h, Nat.add_zero] at hz
      simp only [if_neg (show ¬ ((g.getD (i + n) 0 : Nat) : Int) = 0 by omega)]
      rw [← hz]
      exact H
theorem text_l1 (g : List Nat) (h8 : g.length = 8) (r : ByteArray × Int) (A B : Nat) (H : Ev (fun k => turnpikeref2_Text.l3 k (ints g) (A : Int) (B : Int) (OfBy []) 0) r) : ∀ (d i fr most : Nat), i + d = 8 → longest g d i fr most = (A, B) →
    Ev (fun k => turnpikeref2_Text.l1 k (ints g) (fr : Int) (most : Int) (i : Int)) r := by
  intro d
  induction d with
  | zero =>
    intro i fr most hd hl
    rw [longest] at hl
    obtain ⟨rfl, rfl⟩ := Prod.mk.inj hl
    refine Ev.step (fun k => turnpikeref2_Text.l1.eq_2 _ _ _ _ _) ?_
    simp only [if_neg (show ¬ (i : Int) < 8 by omega)]
    exact H
  | succ d ih =>
    intro i fr most hd hl
    refine Ev.step (fun k => turnpikeref2_Text.l1.eq_2 _ _ _ _ _) ?_
    simp only [if_pos (show (i : Int) < 8 by omega)]
    have e8 : 8 - i = d + 1 := by omega
    refine text_l2 g h8 fr most i (by omega) r ?_ (d + 1) 0 (by omega) (by rw [e8, Nat.zero_add]; rfl)
    rw [longest] at hl
    rw [e8]
    by_cases h : most < zrun g (d + 1) i
    · rw [if_pos h] at hl
      simp only [if_pos (show ((zrun g (d + 1) i : Nat) : Int) > (most : Int) by omega)]
      exact ih (i + 1) i _ (by omega) hl
    · rw [if_neg h] at hl
      simp only [if_neg (show ¬ ((zrun g (d + 1) i : Nat) : Int) > (most : Int) by omega)]
      exact ih (i + 1) fr most (by omega) hl
theorem text_l0 (w : Nat) (hw : w < 2 ^ 128) (r : ByteArray × Int) (H : Ev (fun k => turnpikeref2_Text.l1 k (ints (gl w 8)) 0 1 0) r) : ∀ (d i : Nat), i + d = 8 →
    Ev (fun k => turnpikeref2_Text.l0 k (ints (gl w i)) (i : Int) (hi w) (lo w)) r := by
  intro d
  induction d with
  | zero =>
    intro i hd
    obtain rfl : i = 8 := by omega
    refine Ev.step (fun k => turnpikeref2_Text.l0.eq_2 _ _ _ _ _) ?_
    simp only [if_neg (show ¬ ((8 : Nat) : Int) < 8 by decide)]
    exact H
  | succ d ih =>
    intro i hd
    refine Ev.step (fun k => turnpikeref2_Text.l0.eq_2 _ _ _ _ _) ?_
    have hg := GG_lt w i
    have e : wrap64 ((GG w i : Nat) : Int) = ((GG w i : Nat) : Int) := w64 (by omega) (by omega)
    have hlen : (ints (gl w i)).length < 17592186044416 := by rw [ints_len, gl_len]; omega
    have e2 : ints (gl w i) ++ [((GG w i : Nat) : Int)] = ints (gl w (i + 1)) := by rw [gl_succ]; unfold ints; rw [List.map_append]; rfl
    simp only [if_pos (show (i : Int) < 8 by omega), rfield w i hw (by omega), Option.bind_some, if_pos hlen, e, e2, wr1 (show i ≤ 1000000000 by omega)]
    exact ih (i + 1) (by omega)
theorem text_gap (t : Txt) (most i : Nat) (s : List UInt8) (hi : i + most ≤ 8) (hm : 1 < most) (hs : s.length ≤ 1000) (r : ByteArray × Int)
    (H : Ev (fun k => turnpikeref2_Text.l3 k (ints t.g) (t.fr : Int) (most : Int) (OfBy (s ++ [58, 58])) ((i + most : Nat) : Int)) r) :
    Ev (fun k => turnpikeref2_Text.j4 k (ints t.g) (t.fr : Int) (most : Int) (OfBy s) (i : Int) true) r := by
  have e1 : wrap64 ((i : Int) + (most : Int)) = ((i + most : Nat) : Int) := by rw [w64 (by omega) (by omega)]; omega
  have e2 : wrap64 (((i + most : Nat) : Int) - 1) = ((i + most - 1 : Nat) : Int) := by rw [w64 (by omega) (by omega)]; omega
  have e3 : wrap64 (((i + most - 1 : Nat) : Int) + 1) = ((i + most : Nat) : Int) := by rw [w64 (by omega) (by omega)]; omega
  have e4 : (OfBy s ++ (⟨#[58, 58]⟩ : ByteArray)) = OfBy (s ++ [58, 58]) := ofBy_append s [58, 58]
  refine Ev.step (fun k => turnpikeref2_Text.j4.eq_2 _ _ _ _ _ _ _) ?_
  simp only [if_true, ofBy_size, if_pos (show s.length + 2 ≤ 9223372036854775807 by omega), e1, e2, e3, e4]
  exact H
theorem text_l3 (t : Txt) (most : Nat) (h : Okt t) (hal : t.al = alOf false) (hle : t.least = 1) (hq : t.quad = false) (hn : t.n = if 1 < most then most else 0) : ∀ (d i : Nat) (s : List UInt8), i + d = 8 → s.length ≤ 5 * i →
    Ev (fun k => turnpikeref2_Text.l3 k (ints t.g) (t.fr : Int) (most : Int) (OfBy s) (i : Int)) (OfBy (FF t d i s), 0) := by
  intro d
  induction d using Nat.strongRecOn with
  | ind d IH =>
    intro i s hd hs
    have hl := h.1
    have hsum := h.2.2.2.2.2.1
    refine Ev.step (fun k => turnpikeref2_Text.l3.eq_2 _ _ _ _ _ _) ?_
    cases d with
    | zero =>
      rw [FF_zero]
      simp only [if_neg (show ¬ (i : Int) < 8 by omega)]
      exact Ev.now _
    | succ d =>
      simp only [if_pos (show (i : Int) < 8 by omega)]
      have hp := (piece_fine h i).2.2.2
      have ep : hx (alOf false) 1 (t.g.getD i 0) = piece t i := by unfold piece; rw [hal, hle]
      have hexi : Ev (fun k => turnpikeref2_hex.f k (rd (ints t.g) (i : Int))) (OfBy (piece t i)) := by
        rw [rd_g, ← ep]; exact rhex_f _ (getD_lt h i)
      have j4f : ¬ (0 < t.n ∧ i = t.fr) → Ev (fun k => turnpikeref2_Text.j4 k (ints t.g) (t.fr : Int) (most : Int) (OfBy s) (i : Int) false) (OfBy (FF t (d + 1) i s), 0) := by
        intro hno
        rw [FF_step t d i s hno (fun hx => by rw [hq] at hx; exact absurd hx.1 (by decide))]
        have hadd := add_len s (piece t i)
        have next := IH d (by omega) (i + 1) (add s (piece t i)) (by omega) (by omega)
        refine Ev.step (fun k => turnpikeref2_Text.j4.eq_2 _ _ _ _ _ _ _) ?_
        simp only [Bool.false_eq_true, if_false]
        by_cases he : s = []
        · have e0 : add s (piece t i) = s ++ piece t i := by rw [add, if_neg (by rw [he]; decide)]
          rw [e0] at next ⊢
          simp only [if_pos ((ofBy_empty s).2 he), if_pos (show (0 : Int) ≤ (i : Int) by omega), ints_len, hl, if_pos (show (i : Int) < ((8 : Nat) : Int) by omega)]
          refine Ev.bind hexi ?_
          simp only [ofBy_size, if_pos (show s.length + (piece t i).length ≤ 9223372036854775807 by omega), ofBy_append, wr1 (show i ≤ 1000000000 by omega)]
          exact next
        · obtain ⟨e1, e2, e3⟩ := last_sign s he (by omega)
          simp only [if_neg (fun e => he ((ofBy_empty s).1 e)), if_pos e2, if_pos e3]
          by_cases hb : bt (OfBy s) (wrap64 (((OfBy s).size : Int) - 1)) = 58
          · have hnd : needs s = false := by rw [← e1, hb]; rfl
            have e0 : add s (piece t i) = s ++ piece t i := by rw [add, if_neg (by rw [hnd]; decide)]
            rw [e0] at next ⊢
            simp only [if_pos hb, if_pos (show (0 : Int) ≤ (i : Int) by omega), ints_len, hl, if_pos (show (i : Int) < ((8 : Nat) : Int) by omega)]
            refine Ev.bind hexi ?_
            simp only [ofBy_size, if_pos (show s.length + (piece t i).length ≤ 9223372036854775807 by omega), ofBy_append, wr1 (show i ≤ 1000000000 by omega)]
            exact next
          · have hnd : needs s = true := by rw [← e1]; simp [hb]
            have e0 : add s (piece t i) = s ++ [58] ++ piece t i := by rw [add, if_pos hnd]; simp
            have e5 : (OfBy s ++ (⟨#[58]⟩ : ByteArray)) = OfBy (s ++ [58]) := ofBy_append s [58]
            rw [e0] at next ⊢
            simp only [if_neg hb]
            simp only [ofBy_size, if_pos (show s.length + 1 ≤ 9223372036854775807 by omega), if_pos (show (0 : Int) ≤ (i : Int) by omega), ints_len, hl, if_pos (show (i : Int) < ((8 : Nat) : Int) by omega), e5]
            refine Ev.bind hexi ?_
            have hl2 : (s ++ [(58 : UInt8)]).length = s.length + 1 := by simp
            simp only [ofBy_size, hl2, if_pos (show s.length + 1 + (piece t i).length ≤ 9223372036854775807 by omega), ofBy_append, wr1 (show i ≤ 1000000000 by omega)]
            exact next
      by_cases hm : 1 < most
      · rw [if_pos hm] at hn
        simp only [if_pos (show (most : Int) > 1 by omega)]
        by_cases hf : i = t.fr
        · have e : ((i : Int) == (t.fr : Int)) = true := by rw [hf]; simp
          rw [e, FF_gap t d i s ⟨by omega, hf⟩, hn]
          have hlen : (s ++ [(58 : UInt8), 58]).length ≤ 5 * (i + most) := by rw [List.length_append]; simp only [List.length_cons, List.length_nil]; omega
          exact text_gap t most i s (by omega) hm (by omega) _ (IH (d + 1 - most) (by omega) (i + most) (s ++ [58, 58]) (by omega) hlen)
        · have e : ((i : Int) == (t.fr : Int)) = false := by simp; omega
          rw [e]
          exact j4f (fun hx => hf hx.2)
      · rw [if_neg hm] at hn
        simp only [if_neg (show ¬ (most : Int) > 1 by omega)]
        exact j4f (fun hx => by omega)
theorem and255 (v : Nat) (hv : v < 2 ^ 64) : Go.bits .and .u64 (v : Int) 255 = ((v % 256 : Nat) : Int) := by
  have := bits_and_n v 255 hv (by decide)
  rw [show ((255 : Nat) : Int) = 255 from rfl] at this
  rw [this, show (255 : Nat) = 2 ^ 8 - 1 from rfl, Nat.and_two_pow_sub_one_eq_mod]
theorem rtext (f : Int) (w : Nat) (hw : w < 2 ^ 128) : Ev (fun k => turnpikeref2_Text.f k f (hi w) (lo w)) (if rightV f w = 0 then (OfBy (textV f w), 0) else ((⟨#[]⟩ : ByteArray), rightV f w)) := by
  unfold turnpikeref2_Text.f
  refine Ev.bind (rright f w hw) ?_
  by_cases h0 : rightV f w = 0
  · simp only [if_pos h0]
    by_cases h32 : f = 32
    · simp only [if_pos h32]
      have hh := hi_lt hw
      generalize hv : w / 2 ^ 64 = v at hh
      have ehi : hi w = (v : Int) := by unfold hi; rw [hv]
      have et : textV f w = quadT (v / 72057594037927936) (v / 281474976710656 % 256) (v / 1099511627776 % 256) (v / 4294967296 % 256) := by unfold textV; rw [if_pos h32, hv]
      rw [et, ehi]
      rw [p64] at hh
      have c1 : ((v : Int) / 72057594037927936) = ((v / 72057594037927936 : Nat) : Int) := by omega
      have c2 : ((v : Int) / 281474976710656) = ((v / 281474976710656 : Nat) : Int) := by omega
      have c3 : ((v : Int) / 1099511627776) = ((v / 1099511627776 : Nat) : Int) := by omega
      have c4 : ((v : Int) / 4294967296) = ((v / 4294967296 : Nat) : Int) := by omega
      rw [c1, c2, c3, c4, and255 _ (by rw [p64]; omega), and255 _ (by rw [p64]; omega), and255 _ (by rw [p64]; omega)]
      generalize ha : v / 72057594037927936 = a
      generalize hb : v / 281474976710656 % 256 = b
      generalize hc : v / 1099511627776 % 256 = c
      generalize hd : v / 4294967296 % 256 = d
      rw [w64 (x := (a : Int)) (by omega) (by omega), w64 (x := (b : Int)) (by omega) (by omega), w64 (x := (c : Int)) (by omega) (by omega), w64 (x := (d : Int)) (by omega) (by omega)]
      have la := decL_len a 3 (by decide) (by omega)
      have lb := decL_len b 3 (by decide) (by omega)
      have lc := decL_len c 3 (by decide) (by omega)
      have ld := decL_len d 3 (by decide) (by omega)
      refine Ev.bind (rdec_f a (by omega)) ?_
      simp only [ofBy_size, if_pos (show (decL a).length + 1 ≤ 9223372036854775807 by omega)]
      refine Ev.bind (rdec_f b (by omega)) ?_
      simp only [show (⟨#[46]⟩ : ByteArray) = OfBy [46] from rfl, ofBy_append, ofBy_size, List.length_append, List.length_cons, List.length_nil, if_pos (show (decL a).length + (0 + 1) + (decL b).length ≤ 9223372036854775807 by omega), if_pos (show (decL a).length + (0 + 1) + (decL b).length + 1 ≤ 9223372036854775807 by omega)]
      refine Ev.bind (rdec_f c (by omega)) ?_
      simp only [ofBy_append, ofBy_size, List.length_append, List.length_cons, List.length_nil, if_pos (show (decL a).length + (0 + 1) + (decL b).length + (0 + 1) + (decL c).length ≤ 9223372036854775807 by omega), if_pos (show (decL a).length + (0 + 1) + (decL b).length + (0 + 1) + (decL c).length + 1 ≤ 9223372036854775807 by omega)]
      refine Ev.bind (rdec_f d (by omega)) ?_
      simp only [ofBy_append, ofBy_size, List.length_append, List.length_cons, List.length_nil, if_pos (show (decL a).length + (0 + 1) + (decL b).length + (0 + 1) + (decL c).length + (0 + 1) + (decL d).length ≤ 9223372036854775807 by omega)]
      have e : decL a ++ [46] ++ decL b ++ [46] ++ decL c ++ [46] ++ decL d = quadT a b c d := by unfold quadT; simp
      rw [e]
      exact Ev.now _
    · simp only [if_neg h32]
      have et : textV f w = FF (tx w) 8 0 [] := by unfold textV; rw [if_neg h32]
      rw [et]
      have l3 := text_l3 (tx w) (longest (gl w 8) 8 0 0 1).2 (tx_ok w).1 rfl rfl rfl rfl 8 0 [] rfl (by simp)
      have l1 := text_l1 (gl w 8) (gl_len w 8) _ _ _ l3 8 0 0 1 rfl rfl
      exact text_l0 w hw _ l1 8 0 rfl
  · simp only [if_neg h0]; exact Ev.now _
end Go.Proofs.YtdjhmapmhajkcaaDoor.Th
