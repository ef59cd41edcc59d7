/- The text of an address is read as the address; its signs; its length. -/
import Derived.Test.YtdjhmapmhajkcaaDoorZOPt
import Derived.Test.YtdjhmapmhajkcaaDoorZOLp
import Derived.Test.YtdjhmapmhajkcaaDoorZOX3
namespace Go.Proofs.YtdjhmapmhajkcaaDoor.Th
open Go.RowKit Go.Proofs.YtdjhmapmhajkcaaDoor.X Go.Proofs.YtdjhmapmhajkcaaDoorW.PrintWords
set_option linter.unusedVariables false
set_option linter.unusedSimpArgs false
theorem PP_gl (w : Nat) : ∀ d i, i + d = 8 → PP i ((gl w 8).drop i) = w % 2 ^ (16 * d)
  | 0, i, h => by
    obtain rfl : i = 8 := by omega
    rw [List.drop_of_length_le (by rw [gl_len]; exact Nat.le_refl _), PP, Nat.mod_one]
  | d + 1, i, h => by
    have hl : i < (gl w 8).length := by rw [gl_len]; omega
    rw [List.drop_eq_getElem_cons hl, PP, PP_gl w d (i + 1) (by omega)]
    have e : (gl w 8)[i] = GG w i := by
      have h2 : (gl w 8)[i]? = some (GG w i) := by unfold gl; rw [List.getElem?_map, List.getElem?_range (by omega)]; rfl
      exact Option.some.inj ((List.getElem?_eq_getElem hl).symm.trans h2)
    have e2 : 112 - 16 * i = 16 * d := by omega
    have e3 : 16 * (d + 1) = 16 * d + 16 := by omega
    rw [e, GG, e2, e3, Nat.pow_add, Nat.mod_mul, show (2 : Nat) ^ 16 = 65536 from rfl, Nat.mul_comm, Nat.add_comm]
theorem PP_gl8 (w : Nat) (hw : w < 2 ^ 128) : PP 0 (gl w 8) = w := by
  have := PP_gl w 8 0 rfl
  rw [List.drop_zero, Nat.mod_eq_of_lt hw] at this
  exact this
theorem quadT_dot (a b c d : Nat) (ha : a < 256) (hb : b < 256) (hc : c < 256) (hd : d < 256) : dotV (quadT a b c d) = some (((a * 256 + b) * 256 + c) * 256 + d) := by
  unfold quadT
  rw [dotV_four _ (no46 _)]
  simp only [four, octV_dec a (by omega), octV_dec b (by omega), octV_dec c (by omega), octV_dec d (by omega), if_neg (show ¬ 255 < a by omega), if_neg (show ¬ 255 < b by omega), if_neg (show ¬ 255 < c by omega), if_neg (show ¬ 255 < d by omega)]
theorem right4 (w : Nat) (h : rightV 32 w = 0) : w % 2 ^ 96 = 0 := by
  unfold rightV at h
  rw [if_pos (by decide)] at h
  have e : nt (mk (32 : Int).toNat) = 2 ^ 96 - 1 := by decide
  rw [e, Nat.and_two_pow_sub_one_eq_mod] at h
  by_cases hz : w % 2 ^ 96 = 0
  · exact hz
  · rw [if_neg hz] at h; exact absurd h (by decide)
theorem read_text (f : Int) (w : Nat) (hw : w < 2 ^ 128) (h : rightV f w = 0) : readV f (textV f w) = (hi w, lo w, 0) := by
  have hf := right_fam h
  unfold readV textV
  by_cases h32 : f = 32
  · subst h32
    have hr := right4 w h
    have hh := hi_lt hw
    rw [p64] at hh
    rw [if_pos rfl, if_pos rfl, p64]
    have hz : w % 18446744073709551616 = 0 := by
      have e : (2 : Nat) ^ 96 = 18446744073709551616 * 4294967296 := by decide
      rw [e] at hr; omega
    have hv : w / 18446744073709551616 % 4294967296 = 0 := by
      have e : (2 : Nat) ^ 96 = 18446744073709551616 * 4294967296 := by decide
      rw [e, Nat.mod_mul] at hr; omega
    have e1 : hi w = ((w / 18446744073709551616 : Nat) : Int) := rfl
    have e2 : lo w = 0 := by unfold lo; rw [p64, hz]; rfl
    rw [e1, e2]
    generalize w / 18446744073709551616 = v at hh hv
    rw [quadT_dot _ _ _ _ (by omega) (by omega) (by omega) (by omega)]
    have e3 : (((v / 72057594037927936 * 256 + v / 281474976710656 % 256) * 256 + v / 1099511627776 % 256) * 256 + v / 4294967296 % 256) * 4294967296 = v := by omega
    simp only [e3]
  · have h128 : f = 128 := by rcases fam_cases hf with e | e; · exact absurd e h32
                              · exact e
    rw [if_neg h32, if_neg h32, if_pos h128, six_text (tx w) (tx_ok w).1 (tx_ok w).2]
    have e : (tx w).g = gl w 8 := rfl
    simp only [e, PP_gl8 w hw]
def Sign (six : Bool) (c : UInt8) : Prop := (48 ≤ c.toNat ∧ c.toNat ≤ 57) ∨ (c.toNat = 46 ∧ six = false) ∨ ((c.toNat = 58 ∨ (97 ≤ c.toNat ∧ c.toNat ≤ 102)) ∧ six = true)
theorem hexC_sign : ∀ d : Fin 16, (48 ≤ (hexC d.val).toNat ∧ (hexC d.val).toNat ≤ 57) ∨ (97 ≤ (hexC d.val).toNat ∧ (hexC d.val).toNat ≤ 102) := by decide
theorem hexC_sign' (d : Nat) (h : d < 16) : Sign true (hexC d) := by
  rcases hexC_sign ⟨d, h⟩ with h | h
  · exact .inl h
  · exact .inr (.inr ⟨.inr h, rfl⟩)
theorem hexR_sign : ∀ f n, ∀ c ∈ hexR f n, Sign true c
  | 0, n, c, h => by cases h
  | f + 1, n, c, h => by
    rw [hexR] at h
    split at h
    case isTrue hn => rw [List.mem_singleton.1 h]; exact hexC_sign' n hn
    case isFalse hn =>
      rcases List.mem_append.1 h with h | h
      · exact hexR_sign f _ c h
      · rw [List.mem_singleton.1 h]; exact hexC_sign' _ (Nat.mod_lt _ (by decide))
theorem hxs_sign (g : List Nat) (hg : ∀ x ∈ g, x < 65536) : ∀ p ∈ hxs g, ∀ c ∈ p, Sign true c := by
  intro p hp c hc
  obtain ⟨x, hx, rfl⟩ := List.mem_map.1 hp
  rw [← hexR_hx x (hg x hx)] at hc
  exact hexR_sign _ _ c hc
theorem J_sign : ∀ ps : List (List UInt8), (∀ p ∈ ps, ∀ c ∈ p, Sign true c) → ∀ c ∈ J ps, Sign true c
  | [], _, c, h => by cases h
  | [p], hp, c, h => hp p (by simp) c h
  | p :: q :: ps, hp, c, h => by
    rw [J] at h
    rcases List.mem_append.1 h with h | h
    · exact hp p (by simp) c h
    · rcases List.mem_cons.1 h with rfl | h
      · exact .inr (.inr ⟨.inl rfl, rfl⟩)
      · exact J_sign (q :: ps) (fun x hx => hp x (List.mem_cons_of_mem _ hx)) c h
theorem J_len1 : ∀ ps : List (List UInt8), ps ≠ [] → (∀ p ∈ ps, p.length ≤ 4) → (J ps).length + 1 ≤ 5 * ps.length
  | [], h, _ => absurd rfl h
  | [p], _, h => by have := h p (by simp); simp [J]; omega
  | p :: q :: ps, _, h => by
    have h1 := h p (by simp)
    have ih := J_len1 (q :: ps) (by simp) (fun x hx => h x (List.mem_cons_of_mem _ hx))
    rw [J]
    simp only [List.length_append, List.length_cons] at ih ⊢
    omega
theorem FF_sign (w : Nat) : (∀ c ∈ FF (tx w) 8 0 [], Sign true c) ∧ (FF (tx w) 8 0 []).length ≤ 39 := by
  rw [FF_tx w]
  have hg := gl_lt w 8
  have hfine := longest_fine (gl w 8) 8 0 0 1 rfl (by decide) (by decide) (fun h => absurd h (by decide))
  split
  case isTrue hm =>
    refine ⟨J_sign _ (hxs_sign _ hg), ?_⟩
    have h8 : (hxs (gl w 8)).length = 8 := by simp [hxs, gl_len]
    have := J_len1 (hxs (gl w 8)) (by intro e; rw [e] at h8; cases h8) (hxs_len _ hg)
    omega
  case isFalse hm =>
    generalize longest (gl w 8) 8 0 0 1 = L at hm hfine ⊢
    have hga : ∀ x ∈ (gl w 8).take L.1, x < 65536 := fun x hx => hg x (List.mem_of_mem_take hx)
    have hgb : ∀ x ∈ (gl w 8).drop (L.1 + L.2), x < 65536 := fun x hx => hg x (List.mem_of_mem_drop hx)
    refine ⟨fun c hc => ?_, ?_⟩
    · rcases List.mem_append.1 hc with h | h
      · rcases List.mem_append.1 h with h | h
        · exact J_sign _ (hxs_sign _ hga) c h
        · have : c = 58 := by simpa using h
          rw [this]; exact .inr (.inr ⟨.inl rfl, rfl⟩)
      · exact J_sign _ (hxs_sign _ hgb) c h
    · have l1 := J_len _ (hxs_len _ hga)
      have l2 := J_len _ (hxs_len _ hgb)
      have q1 : (hxs ((gl w 8).take L.1)).length = L.1 := by simp [hxs, gl_len]; omega
      have q2 : (hxs ((gl w 8).drop (L.1 + L.2))).length = 8 - (L.1 + L.2) := by simp [hxs, gl_len]
      simp only [List.length_append, List.length_cons, List.length_nil]
      omega
theorem dec_sign (n : Nat) : ∀ c ∈ decL n, Sign false c := fun c h => .inl (decL_isd n c h)
theorem quadT_sign (a b c d : Nat) : ∀ x ∈ quadT a b c d, Sign false x := by
  intro x hx
  unfold quadT at hx
  simp only [List.mem_append, List.mem_cons] at hx
  rcases hx with h | h | h | h | h | h | h
  · exact dec_sign a x h
  · rw [h]; exact .inr (.inl ⟨rfl, rfl⟩)
  · exact dec_sign b x h
  · rw [h]; exact .inr (.inl ⟨rfl, rfl⟩)
  · exact dec_sign c x h
  · rw [h]; exact .inr (.inl ⟨rfl, rfl⟩)
  · exact dec_sign d x h
theorem text_sign (six : Bool) (f : Int) (hs : six = false ∧ f = 32 ∨ six = true ∧ f = 128) (w : Nat) (hw : w < 2 ^ 128) : (∀ c ∈ textV f w, Sign six c) ∧ (textV f w).length ≤ 39 := by
  unfold textV
  rcases hs with ⟨rfl, rfl⟩ | ⟨rfl, rfl⟩
  · rw [if_pos rfl]
    refine ⟨quadT_sign _ _ _ _, ?_⟩
    have hh := hi_lt hw
    rw [p64] at hh ⊢
    generalize w / 18446744073709551616 = v at hh
    have la := decL_len (v / 72057594037927936) 3 (by decide) (by omega)
    have lb := decL_len (v / 281474976710656 % 256) 3 (by decide) (by omega)
    have lc := decL_len (v / 1099511627776 % 256) 3 (by decide) (by omega)
    have ld := decL_len (v / 4294967296 % 256) 3 (by decide) (by omega)
    unfold quadT
    simp only [List.length_append, List.length_cons]
    omega
  · rw [if_neg (by decide)]
    exact FF_sign w
end Go.Proofs.YtdjhmapmhajkcaaDoor.Th
