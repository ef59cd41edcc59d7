/- Texts of addresses, with no program in sight: an address written in whatever way the document lets (noughts ahead, great digits, a double colon, its end as four numbers) is read as that address. -/
import Derived.Test.YtamiaaeaehdahaaDoorZTLp
import Derived.Test.YtamiaaeaehdahaaDoorZTDec
namespace Go.Proofs.YtamiaaeaehdahaaDoor.Th
open Go.RowKit Go.Proofs.YtamiaaeaehdahaaDoor.X Go.Proofs.YtamiaaeaehdahaaDoorW.PrintWords
set_option linter.unusedVariables false
set_option linter.unusedSimpArgs false
def J : List (List UInt8) → List UInt8
  | [] => []
  | [p] => p
  | p :: q :: ps => p ++ 58 :: J (q :: ps)
def Fine (p : List UInt8) : Prop := p ≠ [] ∧ (58 : UInt8) ∉ p
theorem J_cons (p : List UInt8) {ps : List (List UInt8)} (h : ps ≠ []) : J (p :: ps) = p ++ 58 :: J ps := by
  cases ps with
  | nil => exact absurd rfl h
  | cons q ps => rfl
def hxF (al : List UInt8) (least : Nat) : Nat → Nat → List UInt8 → List UInt8
  | 0, _, acc => acc
  | f + 1, n, acc => if 0 < n ∨ acc.length < least ∨ acc = [] then hxF al least f (n / 16) (al.getD (n % 16) 0 :: acc) else acc
def Alph (al : List UInt8) : Prop := al.length = 16 ∧ ∀ d, d < 16 → hexd (al.getD d 0) = some d
theorem hx_spec (al : List UInt8) (hal : Alph al) (least : Nat) : ∀ (f n : Nat) (acc : List UInt8), n < 16 ^ f → least ≤ acc.length + f → (f = 0 → acc ≠ []) →
    ∃ D, hxF al least f n acc = D ++ acc ∧ (∀ m, hval m (D ++ acc) = hval (m * 16 ^ D.length + n) acc) ∧ D.length ≤ f ∧ (∀ c ∈ D, ∃ d, hexd c = some d) ∧ (acc = [] → 0 < D.length) := by
  intro f
  induction f with
  | zero =>
    intro n acc h1 h2 h3
    have : n = 0 := by simpa using h1
    subst this
    exact ⟨[], rfl, fun m => by simp, Nat.le_refl _, by simp, fun h => absurd h (h3 rfl)⟩
  | succ f ih =>
    intro n acc h1 h2 h3
    rw [hxF]
    by_cases hc : 0 < n ∨ acc.length < least ∨ acc = []
    · rw [if_pos hc]
      obtain ⟨D, e1, e2, e3, e4, e5⟩ := ih (n / 16) (al.getD (n % 16) 0 :: acc) (by rw [Nat.pow_succ] at h1; omega) (by simp; omega) (by simp)
      have hd := hal.2 (n % 16) (Nat.mod_lt _ (by decide))
      refine ⟨D ++ [al.getD (n % 16) 0], by rw [e1]; simp, ?_, by simp; omega, ?_, by simp⟩
      · intro m
        have := e2 m
        rw [List.append_assoc, List.singleton_append, this, hval, hd]
        have e : 16 * (m * 16 ^ D.length + n / 16) + n % 16 = m * 16 ^ (D ++ [al.getD (n % 16) 0]).length + n := by
          rw [List.length_append, List.length_cons, List.length_nil, Nat.zero_add, Nat.pow_succ, ← Nat.mul_assoc]
          generalize m * 16 ^ D.length = A
          omega
        show hval (16 * (m * 16 ^ D.length + n / 16) + n % 16) acc = _
        rw [e]
      · intro c hm
        rcases List.mem_append.1 hm with h | h
        · exact e4 c h
        · have : c = al.getD (n % 16) 0 := by simpa using h
          rw [this]; exact ⟨_, hd⟩
    · rw [if_neg hc]
      have hn : n = 0 := by omega
      subst hn
      exact ⟨[], rfl, fun m => by simp, by simp, by simp, fun h => absurd (.inr (.inr h)) hc⟩
def hx (al : List UInt8) (least n : Nat) : List UInt8 := hxF al least 4 n []
theorem hx_fine (al : List UInt8) (hal : Alph al) (least n : Nat) (hl : least ≤ 4) (hn : n < 65536) : grpV (hx al least n) = some n ∧ Fine (hx al least n) ∧ (46 : UInt8) ∉ hx al least n ∧ (hx al least n).length ≤ 4 := by
  obtain ⟨D, e1, e2, e3, e4, e5⟩ := hx_spec al hal least 4 n [] (by omega) (by simpa using hl) (by omega)
  rw [List.append_nil] at e1
  have e2' := e2 0
  rw [List.append_nil, Nat.zero_mul, Nat.zero_add, hval] at e2'
  have h0 := e5 rfl
  unfold hx
  rw [e1]
  refine ⟨?_, ⟨?_, ?_⟩, ?_, e3⟩
  · unfold grpV; rw [if_neg (by omega)]; exact e2'
  · intro e; rw [e] at h0; exact absurd h0 (by decide)
  · intro hm; obtain ⟨d, hd⟩ := e4 _ hm; rw [show hexd 58 = none from by decide] at hd; cases hd
  · intro hm; obtain ⟨d, hd⟩ := e4 _ hm; rw [show hexd 46 = none from by decide] at hd; cases hd
theorem al_small : Alph [48, 49, 50, 51, 52, 53, 54, 55, 56, 57, 97, 98, 99, 100, 101, 102] := ⟨rfl, by decide⟩
theorem al_great : Alph [48, 49, 50, 51, 52, 53, 54, 55, 56, 57, 65, 66, 67, 68, 69, 70] := ⟨rfl, by decide⟩
theorem one_sign (al : List UInt8) (hal : Alph al) (n : Nat) : (OfBy al).extract (n % 16) (n % 16 + 1) = OfBy [al.getD (n % 16) 0] := by
  have h : n % 16 < al.length := by rw [hal.1]; exact Nat.mod_lt _ (by decide)
  rw [extract_of, by_ofBy, show n % 16 + 1 - n % 16 = 1 by omega, List.drop_eq_getElem_cons h, List.take_succ_cons, List.take_zero, List.getD_eq_getElem?_getD, List.getElem?_eq_getElem h]
  rfl
def alOf (great : Bool) : List UInt8 := if great then [48, 49, 50, 51, 52, 53, 54, 55, 56, 57, 65, 66, 67, 68, 69, 70] else [48, 49, 50, 51, 52, 53, 54, 55, 56, 57, 97, 98, 99, 100, 101, 102]
theorem alOf_alph (great : Bool) : Alph (alOf great) := by cases great; exact al_small; exact al_great
def octT (a b : Nat) : List UInt8 := decL (a / 256) ++ 46 :: (decL (a % 256) ++ 46 :: (decL (b / 256) ++ 46 :: decL (b % 256)))
def needs (s : List UInt8) : Bool := !s.isEmpty && s.getLast? != some 58
def add (s p : List UInt8) : List UInt8 := if needs s = true then s ++ 58 :: p else s ++ p
theorem needs_add (s p : List UInt8) (hp : Fine p) : needs (add s p) = true := by
  have h : ∀ l : List UInt8, needs (l ++ p) = true := by
    intro l
    unfold needs
    have h1 : (l ++ p).isEmpty = false := by
      cases hl : l ++ p with
      | nil => exact absurd (List.append_eq_nil_iff.1 hl).2 hp.1
      | cons c r => rfl
    have h2 : (l ++ p).getLast? = p.getLast? := by
      rw [List.getLast?_append]
      cases hg : p.getLast? with
      | none => exact absurd (List.getLast?_eq_none_iff.1 hg) hp.1
      | some c => rfl
    have h3 : p.getLast? ≠ some 58 := fun e => hp.2 (List.mem_of_getLast? e)
    rw [h1, h2]
    simp [h3]
  unfold add
  split
  · have := h (s ++ [58])
    rwa [List.append_assoc, List.singleton_append] at this
  · exact h s
theorem add_add (s p q : List UInt8) (hp : Fine p) : add (add s p) q = add s (p ++ 58 :: q) := by
  rw [add, if_pos (needs_add s p hp)]
  unfold add
  split <;> simp
structure Txt where
  g : List Nat
  al : List UInt8
  least : Nat
  quad : Bool
  fr : Nat
  n : Nat
def piece (t : Txt) (i : Nat) : List UInt8 := hx t.al t.least (t.g.getD i 0)
def oct (t : Txt) : List UInt8 := octT (t.g.getD 6 0) (t.g.getD 7 0)
def tailP (t : Txt) : Nat → Nat → List (List UInt8)
  | 0, _ => []
  | d + 1, i => if t.quad = true ∧ i = 6 then [oct t] else piece t i :: tailP t d (i + 1)
def FF (t : Txt) : Nat → Nat → List UInt8 → List UInt8
  | 0, _, s => s
  | d + 1, i, s => if 0 < t.n ∧ i = t.fr then FF t (d + 1 - t.n) (i + t.n) (s ++ [58, 58]) else
      if t.quad = true ∧ i = 6 then add s (oct t) else FF t d (i + 1) (add s (piece t i))
termination_by d => d
decreasing_by all_goals omega
def Okt (t : Txt) : Prop := t.g.length = 8 ∧ (∀ x ∈ t.g, x < 65536) ∧ Alph t.al ∧ t.least ≤ 4 ∧ t.fr < 8 ∧ t.fr + t.n ≤ 8 ∧ (t.quad = true → 0 < t.n → t.fr + t.n ≤ 6)
theorem getD_lt {t : Txt} (h : Okt t) (i : Nat) : t.g.getD i 0 < 65536 := by
  rw [List.getD_eq_getElem?_getD]
  cases hg : t.g[i]? with
  | none => simp
  | some x => exact h.2.1 x (List.mem_of_getElem? hg)
theorem piece_fine {t : Txt} (h : Okt t) (i : Nat) : grpV (piece t i) = some (t.g.getD i 0) ∧ Fine (piece t i) ∧ (46 : UInt8) ∉ piece t i ∧ (piece t i).length ≤ 4 :=
  hx_fine t.al h.2.2.1 t.least _ h.2.2.2.1 (getD_lt h i)
theorem FF_tail {t : Txt} (h : Okt t) : ∀ (d i : Nat) (s : List UInt8), i + d = 8 → (t.n = 0 ∨ t.fr < i) → FF t d i s = if tailP t d i = [] then s else add s (J (tailP t d i))
  | 0, i, s, hd, hg => by rw [FF, tailP]; simp
  | d + 1, i, s, hd, hg => by
    rw [FF, if_neg (by omega), tailP]
    by_cases hq : t.quad = true ∧ i = 6
    · rw [if_pos hq, if_pos hq]; simp [J]
    · rw [if_neg hq, if_neg hq, FF_tail h d (i + 1) _ (by omega) (by omega)]
      rw [if_neg (show ¬ (piece t i :: tailP t d (i + 1)) = [] by simp)]
      by_cases he : tailP t d (i + 1) = []
      · rw [if_pos he, he]; rfl
      · rw [if_neg he, add_add _ _ _ (piece_fine h i).2.1, J_cons _ he]
def headP (t : Txt) : Nat → Nat → List (List UInt8)
  | 0, _ => []
  | d + 1, i => piece t i :: headP t d (i + 1)
theorem FF_head {t : Txt} (h : Okt t) (hn : 0 < t.n) : ∀ (e d i : Nat) (s : List UInt8), i + e = t.fr → i + d = 8 → FF t d i s = FF t (8 - t.fr - t.n) (t.fr + t.n) ((if headP t e i = [] then s else add s (J (headP t e i))) ++ [58, 58])
  | 0, 0, i, s, he, hd => by have := h.2.2.2.2.1; omega
  | 0, d + 1, i, s, he, hd => by
    rw [FF, if_pos ⟨hn, by omega⟩, headP, if_pos rfl, show d + 1 - t.n = 8 - t.fr - t.n by omega, show i + t.n = t.fr + t.n by omega]
  | e + 1, 0, i, s, he, hd => by have := h.2.2.2.2.1; omega
  | e + 1, d + 1, i, s, he, hd => by
    have hq := h.2.2.2.2.2.2
    rw [FF, if_neg (by omega), if_neg (by rintro ⟨h1, h2⟩; have := hq h1 hn; omega), FF_head h hn e d (i + 1) _ (by omega) (by omega), headP,
      if_neg (show ¬ (piece t i :: headP t e (i + 1)) = [] by simp)]
    by_cases hh : headP t e (i + 1) = []
    · rw [if_pos hh, hh]; rfl
    · rw [if_neg hh, add_add _ _ _ (piece_fine h i).2.1, J_cons _ hh]
theorem last_sign (s : List UInt8) (hs : s ≠ []) (hl : s.length ≤ 1000) : ((bt (OfBy s) (wrap64 (((OfBy s).size : Int) - 1)) != 58) = needs s) ∧ 0 ≤ wrap64 (((OfBy s).size : Int) - 1) ∧ wrap64 (((OfBy s).size : Int) - 1) < ((OfBy s).size : Int) := by
  have hpos : 0 < s.length := List.length_pos_iff.2 hs
  have e : wrap64 (((OfBy s).size : Int) - 1) = ((s.length - 1 : Nat) : Int) := by rw [ofBy_size, w64 (by omega) (by omega)]; omega
  rw [e, ofBy_size]
  refine ⟨?_, by omega, by omega⟩
  have hd : (By (OfBy s)).drop (s.length - 1) = s[s.length - 1] :: [] := by
    rw [by_ofBy, List.drop_eq_getElem_cons (by omega), List.drop_eq_nil_of_le (by omega)]
  obtain ⟨_, hb, _⟩ := cons_at hd
  rw [hb]
  unfold needs
  have h1 : s.isEmpty = false := by cases s with
    | nil => exact absurd rfl hs
    | cons c r => rfl
  have h2 : s.getLast? = some s[s.length - 1] := by rw [List.getLast?_eq_getElem?, List.getElem?_eq_getElem (by omega)]
  rw [h1, h2]
  by_cases hc : s[s.length - 1] = 58
  · rw [hc]; rfl
  · have hne : ¬ ((s[s.length - 1].toNat : Int) = 58) := fun h => hc (u8_eq.2 (by show _ = 58; omega))
    have h3 : ((s[s.length - 1].toNat : Int) != 58) = true := by simp [hne]
    have h4 : (some s[s.length - 1] != some (58 : UInt8)) = true := by simp [hc]
    rw [h3, h4]; rfl
theorem add_len (s p : List UInt8) : (add s p).length ≤ s.length + 1 + p.length := by
  unfold add; split <;> simp <;> omega
theorem FF_zero (t : Txt) (i : Nat) (s : List UInt8) : FF t 0 i s = s := by rw [FF]
theorem FF_gap (t : Txt) (d i : Nat) (s : List UInt8) (h : 0 < t.n ∧ i = t.fr) : FF t (d + 1) i s = FF t (d + 1 - t.n) (i + t.n) (s ++ [58, 58]) := by rw [FF, if_pos h]
theorem FF_step (t : Txt) (d i : Nat) (s : List UInt8) (h : ¬ (0 < t.n ∧ i = t.fr)) (hq : ¬ (t.quad = true ∧ i = 6)) : FF t (d + 1) i s = FF t d (i + 1) (add s (piece t i)) := by rw [FF, if_neg h, if_neg hq]
end Go.Proofs.YtamiaaeaehdahaaDoor.Th
