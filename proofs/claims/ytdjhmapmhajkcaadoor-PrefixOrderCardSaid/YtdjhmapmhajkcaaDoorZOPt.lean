/- What the program's writer of addresses computes: the document's text. -/
import Derived.Test.YtdjhmapmhajkcaaDoorZORl
import Derived.Test.YtdjhmapmhajkcaaDoorZOX3
import Derived.Test.YtdjhmapmhajkcaaDoorZOX4
namespace Go.Proofs.YtdjhmapmhajkcaaDoor.Th
open Go.RowKit Go.Proofs.YtdjhmapmhajkcaaDoor.X Go.Proofs.YtdjhmapmhajkcaaDoorW.PrintWords
set_option linter.unusedVariables false
set_option linter.unusedSimpArgs false
theorem hexC_al : ∀ d : Fin 16, hexC d.val = (alOf false).getD d.val 0 := by decide
theorem hexC_al' (d : Nat) (h : d < 16) : hexC d = (alOf false).getD d 0 := hexC_al ⟨d, h⟩
theorem hxF_nought (al : List UInt8) (f : Nat) (x : UInt8) (acc : List UInt8) : hxF al 1 f 0 (x :: acc) = x :: acc := by
  cases f with
  | zero => rfl
  | succ f => rw [hxF, if_neg (by simp)]
theorem hxF_hexR : ∀ (f F n : Nat) (acc : List UInt8), 0 < n → n < 16 ^ f → f ≤ F → hxF (alOf false) 1 f n acc = hexR F n ++ acc
  | 0, F, n, acc, h0, h1, _ => by omega
  | f + 1, 0, n, acc, _, _, h => by omega
  | f + 1, F + 1, n, acc, h0, h1, h2 => by
    rw [hxF, if_pos (.inl h0), hexR]
    by_cases h : n < 16
    · rw [if_pos h, Nat.div_eq_of_lt h, hxF_nought, Nat.mod_eq_of_lt h, hexC_al' n h]; rfl
    · rw [if_neg h, hxF_hexR f F (n / 16) _ (by omega) (by rw [Nat.pow_succ] at h1; omega) (by omega), hexC_al' _ (Nat.mod_lt _ (by decide))]
      simp
theorem hexR_hx (n : Nat) (h : n < 65536) : hexR 16 n = hx (alOf false) 1 n := by
  unfold hx
  by_cases h0 : n = 0
  · subst h0; decide
  · rw [hxF_hexR 4 16 n [] (by omega) h (by decide), List.append_nil]
theorem J_join : ∀ ps : List (List UInt8), Lib.join ps [58] = J ps
  | [] => rfl
  | [p] => by rw [Lib.join_one]; rfl
  | p :: q :: ps => by
    have ih := J_join (q :: ps)
    rw [J, ← ih]
    simp [Lib.join, List.intercalate, List.intersperse]
theorem pfmt (n : Nat) (h : n < 65536) : strconv_FormatUint.f (n : Int) 16 = some (OfBy (hx (alOf false) 1 n)) := by
  unfold strconv_FormatUint.f
  rw [if_pos (by omega), Int.toNat_natCast, hexR_hx n h]
def hxs (g : List Nat) : List (List UInt8) := g.map (hx (alOf false) 1)
theorem hx_len (n : Nat) (h : n < 65536) : (hx (alOf false) 1 n).length ≤ 4 := (hx_fine (alOf false) (alOf_alph false) 1 n (by decide) h).2.2.2
theorem J_len : ∀ ps : List (List UInt8), (∀ p ∈ ps, p.length ≤ 4) → (J ps).length ≤ 5 * ps.length
  | [], _ => by simp [J]
  | [p], h => by have := h p (by simp); simp [J]; omega
  | p :: q :: ps, h => by
    have h1 := h p (by simp)
    have ih := J_len (q :: ps) (fun x hx => h x (by simp at hx ⊢; right; exact hx))
    rw [J]
    simp only [List.length_append, List.length_cons] at ih ⊢
    omega
theorem hxs_len (g : List Nat) (hg : ∀ x ∈ g, x < 65536) : ∀ p ∈ hxs g, p.length ≤ 4 := by
  intro p hp
  obtain ⟨x, hx, rfl⟩ := List.mem_map.1 hp
  exact hx_len x (hg x hx)
theorem pjoined_l0 (g : List Nat) (hg : ∀ x ∈ g, x < 65536) (h8 : g.length ≤ 8) : ∀ (d i : Nat), i + d = g.length →
    Ev (fun k => addr_joined.l0 k ((hxs (g.take i)).map OfBy) (ints g) (g.length : Int) (i : Int)) (OfBy (J (hxs g))) := by
  intro d
  induction d with
  | zero =>
    intro i hi
    refine Ev.step (fun k => addr_joined.l0.eq_2 _ _ _ _ _) ?_
    have e : g.take i = g := List.take_of_length_le (by omega)
    have hj : strings_Join.f ((hxs g).map OfBy) (⟨#[58]⟩ : ByteArray) = some (OfBy (J (hxs g))) := by
      unfold strings_Join.f
      have e1 : ((hxs g).map OfBy).map (·.data.toList) = hxs g := by rw [List.map_map]; exact (List.map_congr_left fun x _ => by simp).trans (List.map_id _)
      have e2 : (⟨#[58]⟩ : ByteArray).data.toList = [58] := rfl
      rw [e1, e2, J_join]
      have hl := J_len (hxs g) (hxs_len g hg)
      have h1 : (hxs g).length = g.length := by simp [hxs]
      rw [if_pos ⟨by rw [List.length_map]; omega, by omega⟩]
    simp only [if_neg (show ¬ (i : Int) < (g.length : Int) by omega), e, hj, Option.bind_some]
    exact Ev.now _
  | succ d ih =>
    intro i hi
    have hl : i < g.length := by omega
    have hxx : g[i] < 65536 := hg _ (List.getElem_mem hl)
    have er : rd (ints g) (i : Int) = ((g[i] : Nat) : Int) := by rw [rd_g, List.getD_eq_getElem?_getD, List.getElem?_eq_getElem hl]; rfl
    refine Ev.step (fun k => addr_joined.l0.eq_2 _ _ _ _ _) ?_
    have e : (hxs (g.take i)).map OfBy ++ [OfBy (hx (alOf false) 1 g[i])] = (hxs (g.take (i + 1))).map OfBy := by
      rw [List.take_succ_eq_append_getElem hl]; unfold hxs; rw [List.map_append, List.map_append]; rfl
    have hlen : ((hxs (g.take i)).map OfBy).length < 8796093022208 := by simp [hxs]; omega
    simp only [if_pos (show (i : Int) < (g.length : Int) by omega), if_pos (show 0 ≤ (i : Int) by omega), if_pos (show (i : Int) < ((ints g).length : Int) by rw [ints_len]; omega), er, pfmt _ hxx, Option.bind_some, if_pos hlen, e, wr1 (show i ≤ 1000000000 by omega)]
    exact ih (i + 1) (by omega)
theorem pjoined (g : List Nat) (hg : ∀ x ∈ g, x < 65536) (h8 : g.length ≤ 8) : Ev (fun k => addr_joined.f k (ints g)) (OfBy (J (hxs g))) := by
  unfold addr_joined.f
  rw [ints_len]
  exact pjoined_l0 g hg h8 g.length 0 (by omega)
theorem zr_zrun (g : List Nat) : ∀ d i, zr (ints g) d i = zrun g d i
  | 0, _ => rfl
  | d + 1, i => by
    rw [zr, zrun, zr_zrun g d (i + 1)]
    have e : (ints g).getD i 0 = ((g.getD i 0 : Nat) : Int) := by have := rd_g g i; unfold rd at this; rwa [Int.toNat_natCast] at this
    rw [e]
    by_cases h : g.getD i 0 = 0
    · rw [if_pos (by omega), if_pos h]
    · rw [if_neg (by omega), if_neg h]
theorem lg_longest (g : List Nat) : ∀ d i fr most, lg (ints g) d i fr most = longest g d i fr most
  | 0, _, _, _ => rfl
  | d + 1, i, fr, most => by rw [lg, longest, zr_zrun, lg_longest g d (i + 1) i, lg_longest g d (i + 1) fr]
theorem ints_take (g : List Nat) (n : Nat) : (ints g).take n = ints (g.take n) := by simp [ints]
theorem ints_drop (g : List Nat) (n : Nat) : (ints g).drop n = ints (g.drop n) := by simp [ints]
theorem tailP_hxs (w : Nat) : ∀ d i, i + d = 8 → tailP (tx w) d i = hxs ((gl w 8).drop i)
  | 0, i, h => by
    obtain rfl : i = 8 := by omega
    rw [tailP, List.drop_of_length_le (by rw [gl_len]; exact Nat.le_refl _)]; rfl
  | d + 1, i, h => by
    have hl : i < (gl w 8).length := by rw [gl_len]; omega
    rw [tailP, if_neg (by intro e; exact Bool.noConfusion (show false = true from e.1)), tailP_hxs w d (i + 1) (by omega), List.drop_eq_getElem_cons hl]
    have e : (gl w 8).getD i 0 = (gl w 8)[i] := by rw [List.getD_eq_getElem?_getD, List.getElem?_eq_getElem hl]; rfl
    show hx (alOf false) 1 ((gl w 8).getD i 0) :: _ = _
    rw [e]; rfl
theorem headP_hxs (w : Nat) : ∀ e i, i + e ≤ 8 → headP (tx w) e i = hxs (((gl w 8).drop i).take e)
  | 0, i, h => by rw [headP, List.take_zero]; rfl
  | e + 1, i, h => by
    have hl : i < (gl w 8).length := by rw [gl_len]; omega
    rw [headP, headP_hxs w e (i + 1) (by omega), List.drop_eq_getElem_cons hl, List.take_succ_cons]
    have e : (gl w 8).getD i 0 = (gl w 8)[i] := by rw [List.getD_eq_getElem?_getD, List.getElem?_eq_getElem hl]; rfl
    show hx (alOf false) 1 ((gl w 8).getD i 0) :: _ = _
    rw [e]; rfl
theorem FF_tx (w : Nat) : FF (tx w) 8 0 [] = if (longest (gl w 8) 8 0 0 1).2 < 2 then J (hxs (gl w 8)) else
    J (hxs ((gl w 8).take (longest (gl w 8) 8 0 0 1).1)) ++ [58, 58] ++ J (hxs ((gl w 8).drop ((longest (gl w 8) 8 0 0 1).1 + (longest (gl w 8) 8 0 0 1).2))) := by
  have hok := (tx_ok w).1
  have hfr : (longest (gl w 8) 8 0 0 1).1 = (tx w).fr := rfl
  have hn : (tx w).n = if 1 < (longest (gl w 8) 8 0 0 1).2 then (longest (gl w 8) 8 0 0 1).2 else 0 := rfl
  by_cases hm : (longest (gl w 8) 8 0 0 1).2 < 2
  · rw [if_neg (by omega)] at hn
    have e := FF_tail hok 8 0 [] rfl (.inl hn)
    have e8 : tailP (tx w) 8 0 = hxs (gl w 8) := by rw [tailP_hxs w 8 0 rfl, List.drop_zero]
    have hne : ¬ hxs (gl w 8) = [] := by intro h; have := congrArg List.length h; simp [hxs, gl_len] at this
    rw [e8, if_neg hne] at e
    rw [if_pos hm, e]; rfl
  · rw [if_pos (by omega)] at hn
    rw [if_neg hm]
    have hj := FF_head hok (by omega) (tx w).fr 8 0 [] (by omega) rfl
    rw [FF_tail hok (8 - (tx w).fr - (tx w).n) ((tx w).fr + (tx w).n) _ (by have := hok.2.2.2.2.2.1; omega) (.inr (by omega)), headP_hxs w _ 0 (by have := hok.2.2.2.2.1; omega), List.drop_zero, tailP_hxs w _ _ (by have := hok.2.2.2.2.2.1; omega), hn, ← hfr] at hj
    rw [hj]
    generalize hxs ((gl w 8).take (longest (gl w 8) 8 0 0 1).1) = P
    generalize hxs ((gl w 8).drop ((longest (gl w 8) 8 0 0 1).1 + (longest (gl w 8) 8 0 0 1).2)) = Q
    have eP : (if P = [] then ([] : List UInt8) else add [] (J P)) = J P := by
      by_cases h : P = []
      · rw [if_pos h, h]; rfl
      · rw [if_neg h]; rfl
    have eQ : (if Q = [] then J P ++ [58, 58] else add (J P ++ [58, 58]) (J Q)) = J P ++ [58, 58] ++ J Q := by
      by_cases h : Q = []
      · rw [if_pos h, h]; simp [J]
      · rw [if_neg h]
        have : needs (J P ++ [58, 58]) = false := by unfold needs; rw [List.getLast?_append]; simp
        unfold add
        rw [this]; rfl
    rw [eP, eQ]
theorem pgrps (w : Nat) : Ev (fun k => grpsF k (ints (gl w 8))) (OfBy (FF (tx w) 8 0 [])) := by
  have hg := gl_lt w 8
  have hfine := longest_fine (gl w 8) 8 0 0 1 rfl (by decide) (by decide) (fun h => absurd h (by decide))
  unfold grpsF
  rw [lg_longest, FF_tx]
  generalize longest (gl w 8) 8 0 0 1 = L at hfine ⊢
  have hga : ∀ x ∈ (gl w 8).take L.1, x < 65536 := fun x hx => hg x (List.mem_of_mem_take hx)
  have hgb : ∀ x ∈ (gl w 8).drop (L.1 + L.2), x < 65536 := fun x hx => hg x (List.mem_of_mem_drop hx)
  by_cases hm : L.2 < 2
  · simp only [if_pos hm]
    exact pjoined _ hg (by rw [gl_len]; exact Nat.le_refl _)
  · simp only [if_neg hm, ints_take, ints_drop]
    refine Ev.bind (pjoined _ hga (by rw [List.length_take, gl_len]; omega)) ?_
    refine Ev.bind (pjoined _ hgb (by rw [List.length_drop, gl_len]; omega)) ?_
    have l1 := J_len _ (hxs_len _ hga)
    have l2 := J_len _ (hxs_len _ hgb)
    have q1 : (hxs ((gl w 8).take L.1)).length ≤ 8 := by simp [hxs, gl_len]; omega
    have q2 : (hxs ((gl w 8).drop (L.1 + L.2))).length ≤ 8 := by simp [hxs, gl_len]
    generalize hxs ((gl w 8).take L.1) = P at l1 q1 ⊢
    generalize hxs ((gl w 8).drop (L.1 + L.2)) = Q at l2 q2 ⊢
    have s1 : (OfBy (J P)).size + 2 ≤ 9223372036854775807 := by rw [ofBy_size]; omega
    have s2 : (OfBy (J P) ++ (⟨#[58, 58]⟩ : ByteArray)) = OfBy (J P ++ [58, 58]) := ofBy_append _ [58, 58]
    have s3 : (OfBy (J P ++ [58, 58])).size + (OfBy (J Q)).size ≤ 9223372036854775807 := by rw [ofBy_size, ofBy_size, List.length_append]; simp only [List.length_cons, List.length_nil]; omega
    simp only [if_pos s1, s2, if_pos s3, ofBy_append]
    exact Ev.now _
theorem pgs (w : Nat) (hw : w < 2 ^ 128) : ∀ i, i ≤ 8 → gsF (hi w) (lo w) i = some (ints (gl w i))
  | 0, _ => rfl
  | i + 1, h => by
    have e1 : (112 - 16 * (i : Int)) = ((112 - 16 * i : Nat) : Int) := by omega
    rw [gsF, pgs w hw i (by omega), Option.bind_some, e1, pshr w _ hw, Option.bind_some]
    have e2 : Go.bits .and .u64 (lo (sr w (112 - 16 * i))) 65535 = ((GG w i : Nat) : Int) := by
      unfold lo
      have hx := lo_lt (sr w (112 - 16 * i))
      have h1 := bits_and_n (sr w (112 - 16 * i) % 2 ^ 64) 65535 hx (by decide)
      rw [show ((65535 : Nat) : Int) = 65535 from rfl] at h1
      rw [h1, show (65535 : Nat) = 2 ^ 16 - 1 from rfl, Nat.and_two_pow_sub_one_eq_mod]
      unfold GG sr
      rw [Nat.mod_mod_of_dvd _ (by decide : (2 : Nat) ^ 16 ∣ 2 ^ 64)]
    rw [e2, gl_succ]
    simp [ints]
theorem dec_small : ∀ n : Fin 256, Lib.decDigits n.val = decL n.val := by decide +kernel
theorem dec_small' (n : Nat) (h : n < 256) : Lib.decDigits n = decL n := dec_small ⟨n, h⟩
theorem qT_quad (v : Nat) (hv : v < 18446744073709551616) : qT v 4 = quadT (v / 72057594037927936) (v / 281474976710656 % 256) (v / 1099511627776 % 256) (v / 4294967296 % 256) := by
  have h0 : oc v 0 = v / 72057594037927936 := by unfold oc; rw [show (2 : Nat) ^ (56 - 8 * 0) = 72057594037927936 from rfl]; omega
  have h1 : oc v 1 = v / 281474976710656 % 256 := rfl
  have h2 : oc v 2 = v / 1099511627776 % 256 := rfl
  have h3 : oc v 3 = v / 4294967296 % 256 := rfl
  unfold quadT
  simp only [qT, if_true, if_neg (show ¬ (1 = 0) by decide), if_neg (show ¬ (2 = 0) by decide), if_neg (show ¬ (3 = 0) by decide)]
  rw [dec_small' (oc v 0) (oc_lt v 0), dec_small' (oc v 1) (oc_lt v 1), dec_small' (oc v 2) (oc_lt v 2), dec_small' (oc v 3) (oc_lt v 3), h0, h1, h2, h3]
  simp
theorem ptext (f : Int) (w : Nat) (hw : w < 2 ^ 128) : Ev (fun k => addr_Text.f k f (hi w) (lo w)) (if rightV f w = 0 then (OfBy (textV f w), 0) else ((⟨#[]⟩ : ByteArray), rightV f w)) := by
  unfold addr_Text.f
  refine Ev.bind (pright f w hw) ?_
  by_cases h0 : rightV f w = 0
  · simp only [if_pos h0]
    by_cases h32 : f = 32
    · have hh := hi_lt hw
      have e : (hi w).toNat = w / 2 ^ 64 := by unfold hi; rw [Int.toNat_natCast]
      have et : textV f w = quadT (w / 2 ^ 64 / 72057594037927936) (w / 2 ^ 64 / 281474976710656 % 256) (w / 2 ^ 64 / 1099511627776 % 256) (w / 2 ^ 64 / 4294967296 % 256) := by unfold textV; rw [if_pos h32]
      have hb : 0 ≤ hi w ∧ hi w < 18446744073709551616 := by unfold hi; rw [p64] at hh ⊢; omega
      simp only [if_pos h32, if_pos hb, e, et, qT_quad _ (show w / 2 ^ 64 < 18446744073709551616 from p64 ▸ hh)]
      exact Ev.now _
    · have et : textV f w = FF (tx w) 8 0 [] := by unfold textV; rw [if_neg h32]
      simp only [if_neg h32, pgs w hw 8 (by decide), Option.bind_some, et]
      exact Ev.bind (pgrps w) (Ev.now _)
  · simp only [if_neg h0]; exact Ev.now _
end Go.Proofs.YtdjhmapmhajkcaaDoor.Th
