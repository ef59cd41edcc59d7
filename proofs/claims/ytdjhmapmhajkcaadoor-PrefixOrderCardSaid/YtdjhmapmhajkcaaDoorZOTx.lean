/- Texts of addresses, with no program in sight: an address written in whatever way the document lets (noughts ahead, great digits, a double colon, its end as four numbers) is read as that address. -/
import Derived.Test.YtdjhmapmhajkcaaDoorZODq
namespace Go.Proofs.YtdjhmapmhajkcaaDoor.Th
open Go.RowKit Go.Proofs.YtdjhmapmhajkcaaDoor.X Go.Proofs.YtdjhmapmhajkcaaDoorW.PrintWords
set_option linter.unusedVariables false
set_option linter.unusedSimpArgs false
def J : List (List UInt8) → List UInt8
  | [] => []
  | [p] => p
  | p :: q :: ps => p ++ 58 :: J (q :: ps)
def Fine (p : List UInt8) : Prop := p ≠ [] ∧ (58 : UInt8) ∉ p
theorem J_cons (p : List UInt8) {ps : List (List UInt8)} (h : ps ≠ []) : J (p :: ps) = p ++ 58 :: J ps := by
  cases ps with
  | nil => exact absurd rfl h
  | cons q ps => rfl
theorem J_pieces (ps : List (List UInt8)) (h : ∀ p ∈ ps, Fine p) (hn : ps ≠ []) : pieces 58 (J ps) = ps := by
  induction ps with
  | nil => exact absurd rfl hn
  | cons p ps ih =>
    have hp := (h p (List.mem_cons_self ..)).2
    cases ps with
    | nil => exact pieces_none _ hp
    | cons q ps =>
      rw [J_cons p (by simp), pieces_one _ _ hp, ih (fun x hx => h x (List.mem_cons_of_mem _ hx)) (by simp)]
theorem J_ne (ps : List (List UInt8)) (h : ∀ p ∈ ps, Fine p) (hn : ps ≠ []) : J ps ≠ [] := by
  cases ps with
  | nil => exact absurd rfl hn
  | cons p ps =>
    have hp := (h p (List.mem_cons_self ..)).1
    cases ps with
    | nil => exact hp
    | cons q ps => rw [J_cons p (by simp)]; simp
theorem gap_piece (p l : List UInt8) (hp : (58 : UInt8) ∉ p) : gapV (p ++ l) = (gapV l).map fun x => (p ++ x.1, x.2) := by
  induction p with
  | nil => cases h : gapV l <;> simp [h]
  | cons a p ih =>
    have ha : a ≠ 58 := fun e => hp (by rw [e]; exact List.mem_cons_self ..)
    have ih' := ih (fun hm => hp (List.mem_cons_of_mem _ hm))
    cases hpl : p ++ l with
    | nil =>
      have : l = [] := (List.append_eq_nil_iff.1 hpl).2
      have hp0 : p = [] := (List.append_eq_nil_iff.1 hpl).1
      rw [this, hp0]; rfl
    | cons b r =>
      rw [List.cons_append, hpl, gapV, if_neg (fun h => ha h.1), ← hpl, ih']
      cases gapV l <;> rfl
theorem gap_sep (c : UInt8) (l : List UInt8) (hc : c ≠ 58) : gapV (58 :: c :: l) = (gapV (c :: l)).map fun x => (58 :: x.1, x.2) := by
  rw [gapV, if_neg (fun h => hc h.2)]
theorem J_head (ps : List (List UInt8)) (h : ∀ p ∈ ps, Fine p) (hn : ps ≠ []) (t : List UInt8) : ∃ c l, J ps ++ t = c :: l ∧ c ≠ 58 := by
  cases ps with
  | nil => exact absurd rfl hn
  | cons p ps =>
    obtain ⟨h1, h2⟩ := h p (List.mem_cons_self ..)
    cases p with
    | nil => exact absurd rfl h1
    | cons c p =>
      refine ⟨c, ?_⟩
      have hc : c ≠ 58 := fun e => h2 (by rw [e]; exact List.mem_cons_self ..)
      cases ps with
      | nil => exact ⟨p ++ t, rfl, hc⟩
      | cons q ps => exact ⟨p ++ 58 :: J (q :: ps) ++ t, by rw [J_cons _ (by simp)]; simp, hc⟩
theorem gap_J (ps : List (List UInt8)) (h : ∀ p ∈ ps, Fine p) (t : List UInt8) (ht : t = [] ∨ ∃ b, t = 58 :: 58 :: b) : gapV (J ps ++ t) = match t with | [] => none | _ :: t' => some (J ps, t'.drop 1) := by
  induction ps with
  | nil =>
    rcases ht with rfl | ⟨b, rfl⟩
    · rfl
    · simp [J, gapV]
  | cons p ps ih =>
    have hp := h p (List.mem_cons_self ..)
    have ih' := ih (fun x hx => h x (List.mem_cons_of_mem _ hx))
    cases ps with
    | nil =>
      simp only [J]
      rw [gap_piece p t hp.2]
      rcases ht with rfl | ⟨b, rfl⟩
      · rfl
      · simp [gapV]
    | cons q ps =>
      rw [J_cons p (by simp), List.append_assoc, gap_piece p _ hp.2, List.cons_append]
      obtain ⟨c, l, hc, hne⟩ := J_head (q :: ps) (fun x hx => h x (List.mem_cons_of_mem _ hx)) (by simp) t
      rw [hc, gap_sep c l hne, ← hc, ih']
      rcases ht with rfl | ⟨b, rfl⟩
      · rfl
      · simp
def hxF (al : List UInt8) (least : Nat) : Nat → Nat → List UInt8 → List UInt8
  | 0, _, acc => acc
  | f + 1, n, acc => if 0 < n ∨ acc.length < least ∨ acc = [] then hxF al least f (n / 16) (al.getD (n % 16) 0 :: acc) else acc
def Alph (al : List UInt8) : Prop := al.length = 16 ∧ ∀ d, d < 16 → hexd (al.getD d 0) = some d
theorem hx_spec (al : List UInt8) (hal : Alph al) (least : Nat) : ∀ (f n : Nat) (acc : List UInt8), n < 16 ^ f → least ≤ acc.length + f → (f = 0 → acc ≠ []) →
    ∃ D, hxF al least f n acc = D ++ acc ∧ (∀ m, hval m (D ++ acc) = hval (m * 16 ^ D.length + n) acc) ∧ D.length ≤ f ∧ (∀ c ∈ D, ∃ d, hexd c = some d) ∧ (acc = [] → 0 < D.length) := by
  intro f
  induction f with
  | zero =>
    intro n acc h1 h2 h3
    have : n = 0 := by simpa using h1
    subst this
    exact ⟨[], rfl, fun m => by simp, Nat.le_refl _, by simp, fun h => absurd h (h3 rfl)⟩
  | succ f ih =>
    intro n acc h1 h2 h3
    rw [hxF]
    by_cases hc : 0 < n ∨ acc.length < least ∨ acc = []
    · rw [if_pos hc]
      obtain ⟨D, e1, e2, e3, e4, e5⟩ := ih (n / 16) (al.getD (n % 16) 0 :: acc) (by rw [Nat.pow_succ] at h1; omega) (by simp; omega) (by simp)
      have hd := hal.2 (n % 16) (Nat.mod_lt _ (by decide))
      refine ⟨D ++ [al.getD (n % 16) 0], by rw [e1]; simp, ?_, by simp; omega, ?_, by simp⟩
      · intro m
        have := e2 m
        rw [List.append_assoc, List.singleton_append, this, hval, hd]
        have e : 16 * (m * 16 ^ D.length + n / 16) + n % 16 = m * 16 ^ (D ++ [al.getD (n % 16) 0]).length + n := by
          rw [List.length_append, List.length_cons, List.length_nil, Nat.zero_add, Nat.pow_succ, ← Nat.mul_assoc]
          generalize m * 16 ^ D.length = A
          omega
        show hval (16 * (m * 16 ^ D.length + n / 16) + n % 16) acc = _
        rw [e]
      · intro c hm
        rcases List.mem_append.1 hm with h | h
        · exact e4 c h
        · have : c = al.getD (n % 16) 0 := by simpa using h
          rw [this]; exact ⟨_, hd⟩
    · rw [if_neg hc]
      have hn : n = 0 := by omega
      subst hn
      exact ⟨[], rfl, fun m => by simp, by simp, by simp, fun h => absurd (.inr (.inr h)) hc⟩
def hx (al : List UInt8) (least n : Nat) : List UInt8 := hxF al least 4 n []
theorem hx_fine (al : List UInt8) (hal : Alph al) (least n : Nat) (hl : least ≤ 4) (hn : n < 65536) : grpV (hx al least n) = some n ∧ Fine (hx al least n) ∧ (46 : UInt8) ∉ hx al least n ∧ (hx al least n).length ≤ 4 := by
  obtain ⟨D, e1, e2, e3, e4, e5⟩ := hx_spec al hal least 4 n [] (by omega) (by simpa using hl) (by omega)
  rw [List.append_nil] at e1
  have e2' := e2 0
  rw [List.append_nil, Nat.zero_mul, Nat.zero_add, hval] at e2'
  have h0 := e5 rfl
  unfold hx
  rw [e1]
  refine ⟨?_, ⟨?_, ?_⟩, ?_, e3⟩
  · unfold grpV; rw [if_neg (by omega)]; exact e2'
  · intro e; rw [e] at h0; exact absurd h0 (by decide)
  · intro hm; obtain ⟨d, hd⟩ := e4 _ hm; rw [show hexd 58 = none from by decide] at hd; cases hd
  · intro hm; obtain ⟨d, hd⟩ := e4 _ hm; rw [show hexd 46 = none from by decide] at hd; cases hd
theorem al_small : Alph [48, 49, 50, 51, 52, 53, 54, 55, 56, 57, 97, 98, 99, 100, 101, 102] := ⟨rfl, by decide⟩
theorem al_great : Alph [48, 49, 50, 51, 52, 53, 54, 55, 56, 57, 65, 66, 67, 68, 69, 70] := ⟨rfl, by decide⟩
def alOf (great : Bool) : List UInt8 := if great then [48, 49, 50, 51, 52, 53, 54, 55, 56, 57, 65, 66, 67, 68, 69, 70] else [48, 49, 50, 51, 52, 53, 54, 55, 56, 57, 97, 98, 99, 100, 101, 102]
theorem alOf_alph (great : Bool) : Alph (alOf great) := by cases great; exact al_small; exact al_great
def octT (a b : Nat) : List UInt8 := decL (a / 256) ++ 46 :: (decL (a % 256) ++ 46 :: (decL (b / 256) ++ 46 :: decL (b % 256)))
theorem octT_dot (a b : Nat) (ha : a < 65536) (hb : b < 65536) : dotV (octT a b) = some (a * 65536 + b) := by
  unfold octT
  rw [dotV_four _ (no46 _)]
  simp only [four, octV_dec (a / 256) (by omega), octV_dec (a % 256) (by omega), octV_dec (b / 256) (by omega), octV_dec (b % 256) (by omega), if_neg (show ¬ 255 < a / 256 by omega), if_neg (show ¬ 255 < a % 256 by omega), if_neg (show ¬ 255 < b / 256 by omega), if_neg (show ¬ 255 < b % 256 by omega)]
  have e : ((a / 256 * 256 + a % 256) * 256 + b / 256) * 256 + b % 256 = a * 65536 + b := by omega
  rw [e]
theorem no58 (n : Nat) : (58 : UInt8) ∉ decL n := by
  intro h
  have := (decL_isd n 58 h).2
  exact absurd this (by decide)
theorem octT_fine (a b : Nat) (ha : a < 65536) (hb : b < 65536) : Fine (octT a b) ∧ (octT a b).length ≤ 15 := by
  refine ⟨⟨?_, ?_⟩, dotV_len (octT_dot a b ha hb)⟩
  · unfold octT; simp
  · unfold octT
    simp only [List.mem_append, List.mem_cons, not_or]
    exact ⟨no58 _, by decide, no58 _, by decide, no58 _, by decide, no58 _⟩
def needs (s : List UInt8) : Bool := !s.isEmpty && s.getLast? != some 58
def add (s p : List UInt8) : List UInt8 := if needs s = true then s ++ 58 :: p else s ++ p
theorem needs_add (s p : List UInt8) (hp : Fine p) : needs (add s p) = true := by
  have h : ∀ l : List UInt8, needs (l ++ p) = true := by
    intro l
    unfold needs
    have h1 : (l ++ p).isEmpty = false := by
      cases hl : l ++ p with
      | nil => exact absurd (List.append_eq_nil_iff.1 hl).2 hp.1
      | cons c r => rfl
    have h2 : (l ++ p).getLast? = p.getLast? := by
      rw [List.getLast?_append]
      cases hg : p.getLast? with
      | none => exact absurd (List.getLast?_eq_none_iff.1 hg) hp.1
      | some c => rfl
    have h3 : p.getLast? ≠ some 58 := fun e => hp.2 (List.mem_of_getLast? e)
    rw [h1, h2]
    simp [h3]
  unfold add
  split
  · have := h (s ++ [58])
    rwa [List.append_assoc, List.singleton_append] at this
  · exact h s
theorem add_add (s p q : List UInt8) (hp : Fine p) : add (add s p) q = add s (p ++ 58 :: q) := by
  rw [add, if_pos (needs_add s p hp)]
  unfold add
  split <;> simp
structure Txt where
  g : List Nat
  al : List UInt8
  least : Nat
  quad : Bool
  fr : Nat
  n : Nat
def piece (t : Txt) (i : Nat) : List UInt8 := hx t.al t.least (t.g.getD i 0)
def oct (t : Txt) : List UInt8 := octT (t.g.getD 6 0) (t.g.getD 7 0)
def tailP (t : Txt) : Nat → Nat → List (List UInt8)
  | 0, _ => []
  | d + 1, i => if t.quad = true ∧ i = 6 then [oct t] else piece t i :: tailP t d (i + 1)
def FF (t : Txt) : Nat → Nat → List UInt8 → List UInt8
  | 0, _, s => s
  | d + 1, i, s => if 0 < t.n ∧ i = t.fr then FF t (d + 1 - t.n) (i + t.n) (s ++ [58, 58]) else
      if t.quad = true ∧ i = 6 then add s (oct t) else FF t d (i + 1) (add s (piece t i))
termination_by d => d
decreasing_by all_goals omega
def Okt (t : Txt) : Prop := t.g.length = 8 ∧ (∀ x ∈ t.g, x < 65536) ∧ Alph t.al ∧ t.least ≤ 4 ∧ t.fr < 8 ∧ t.fr + t.n ≤ 8 ∧ (t.quad = true → 0 < t.n → t.fr + t.n ≤ 6)
theorem getD_lt {t : Txt} (h : Okt t) (i : Nat) : t.g.getD i 0 < 65536 := by
  rw [List.getD_eq_getElem?_getD]
  cases hg : t.g[i]? with
  | none => simp
  | some x => exact h.2.1 x (List.mem_of_getElem? hg)
theorem piece_fine {t : Txt} (h : Okt t) (i : Nat) : grpV (piece t i) = some (t.g.getD i 0) ∧ Fine (piece t i) ∧ (46 : UInt8) ∉ piece t i ∧ (piece t i).length ≤ 4 :=
  hx_fine t.al h.2.2.1 t.least _ h.2.2.2.1 (getD_lt h i)
theorem oct_fine {t : Txt} (h : Okt t) : Fine (oct t) ∧ (oct t).length ≤ 15 := octT_fine _ _ (getD_lt h 6) (getD_lt h 7)
theorem tail_fine {t : Txt} (h : Okt t) : ∀ d i, ∀ p ∈ tailP t d i, Fine p
  | 0, i, p, hp => by cases hp
  | d + 1, i, p, hp => by
    rw [tailP] at hp
    split at hp
    · have : p = oct t := by simpa using hp
      rw [this]; exact (oct_fine h).1
    · rcases List.mem_cons.1 hp with e | hp
      · rw [e]; exact (piece_fine h i).2.1
      · exact tail_fine h d (i + 1) p hp
theorem FF_tail {t : Txt} (h : Okt t) : ∀ (d i : Nat) (s : List UInt8), i + d = 8 → (t.n = 0 ∨ t.fr < i) → FF t d i s = if tailP t d i = [] then s else add s (J (tailP t d i))
  | 0, i, s, hd, hg => by rw [FF, tailP]; simp
  | d + 1, i, s, hd, hg => by
    rw [FF, if_neg (by omega), tailP]
    by_cases hq : t.quad = true ∧ i = 6
    · rw [if_pos hq, if_pos hq]; simp [J]
    · rw [if_neg hq, if_neg hq, FF_tail h d (i + 1) _ (by omega) (by omega)]
      rw [if_neg (show ¬ (piece t i :: tailP t d (i + 1)) = [] by simp)]
      by_cases he : tailP t d (i + 1) = []
      · rw [if_pos he, he]; rfl
      · rw [if_neg he, add_add _ _ _ (piece_fine h i).2.1, J_cons _ he]
def headP (t : Txt) : Nat → Nat → List (List UInt8)
  | 0, _ => []
  | d + 1, i => piece t i :: headP t d (i + 1)
theorem head_fine {t : Txt} (h : Okt t) : ∀ d i, ∀ p ∈ headP t d i, Fine p
  | 0, i, p, hp => by cases hp
  | d + 1, i, p, hp => by
    rw [headP] at hp
    rcases List.mem_cons.1 hp with e | hp
    · rw [e]; exact (piece_fine h i).2.1
    · exact head_fine h d (i + 1) p hp
theorem FF_head {t : Txt} (h : Okt t) (hn : 0 < t.n) : ∀ (e d i : Nat) (s : List UInt8), i + e = t.fr → i + d = 8 → FF t d i s = FF t (8 - t.fr - t.n) (t.fr + t.n) ((if headP t e i = [] then s else add s (J (headP t e i))) ++ [58, 58])
  | 0, 0, i, s, he, hd => by have := h.2.2.2.2.1; omega
  | 0, d + 1, i, s, he, hd => by
    rw [FF, if_pos ⟨hn, by omega⟩, headP, if_pos rfl, show d + 1 - t.n = 8 - t.fr - t.n by omega, show i + t.n = t.fr + t.n by omega]
  | e + 1, 0, i, s, he, hd => by have := h.2.2.2.2.1; omega
  | e + 1, d + 1, i, s, he, hd => by
    have hq := h.2.2.2.2.2.2
    rw [FF, if_neg (by omega), if_neg (by rintro ⟨h1, h2⟩; have := hq h1 hn; omega), FF_head h hn e d (i + 1) _ (by omega) (by omega), headP,
      if_neg (show ¬ (piece t i :: headP t e (i + 1)) = [] by simp)]
    by_cases hh : headP t e (i + 1) = []
    · rw [if_pos hh, hh]; rfl
    · rw [if_neg hh, add_add _ _ _ (piece_fine h i).2.1, J_cons _ hh]
theorem drop_cons (g : List Nat) (i : Nat) (h : i < g.length) : g.drop i = g.getD i 0 :: g.drop (i + 1) := by
  rw [List.drop_eq_getElem_cons h, List.getD_eq_getElem?_getD, List.getElem?_eq_getElem h]; rfl
theorem tail_grps {t : Txt} (h : Okt t) : ∀ (d i : Nat), i + d = 8 → (t.quad = true → i ≤ 6) → grps true (tailP t d i) = some (t.g.drop i)
  | 0, i, hd, hq => by rw [tailP, List.drop_eq_nil_of_le (by rw [h.1]; omega)]; rfl
  | d + 1, i, hd, hq => by
    have hl := h.1
    rw [tailP]
    by_cases hc : t.quad = true ∧ i = 6
    · rw [if_pos hc]
      obtain ⟨_, rfl⟩ := hc
      have h6 := getD_lt h 6
      have h7 := getD_lt h 7
      have hdot : dotV (oct t) = some (t.g.getD 6 0 * 65536 + t.g.getD 7 0) := octT_dot _ _ h6 h7
      simp only [grps, if_true, hdot]
      rw [drop_cons t.g 6 (by omega), drop_cons t.g 7 (by omega), List.drop_eq_nil_of_le (by omega)]
      rw [show (t.g.getD 6 0 * 65536 + t.g.getD 7 0) / 65536 = t.g.getD 6 0 by omega, show (t.g.getD 6 0 * 65536 + t.g.getD 7 0) % 65536 = t.g.getD 7 0 by omega]
    · rw [if_neg hc]
      have hp := piece_fine h i
      have ih := tail_grps h d (i + 1) (by omega) (fun hx => by have := hq hx; have : i ≠ 6 := fun e => hc ⟨hx, e⟩; omega)
      rw [drop_cons t.g i (by omega)]
      cases ht : tailP t d (i + 1) with
      | nil =>
        rw [ht] at ih
        have hnil : t.g.drop (i + 1) = [] := (Option.some.inj ih).symm
        simp only [grps, if_true, dotV_nodot hp.2.2.1, hp.1, Option.map_some, hnil]
      | cons q qs =>
        rw [ht] at ih
        rw [grps_cons, ih, hp.1]; rfl
theorem head_grps {t : Txt} (h : Okt t) : ∀ (e i : Nat), i + e ≤ 8 → grps false (headP t e i) = some ((t.g.drop i).take e)
  | 0, i, _ => by rw [headP, List.take_zero]; rfl
  | e + 1, i, hi => by
    have hl := h.1
    have hp := piece_fine h i
    have ih := head_grps h e (i + 1) (by omega)
    rw [headP, drop_cons t.g i (by omega), List.take_succ_cons]
    cases ht : headP t e (i + 1) with
    | nil =>
      rw [ht] at ih
      have hnil : (t.g.drop (i + 1)).take e = [] := (Option.some.inj ih).symm
      simp only [grps, if_neg (show ¬ false = true by decide), hp.1, Option.map_some, hnil]
    | cons q qs =>
      rw [ht] at ih
      rw [grps_cons, ih, hp.1]; rfl
theorem lst_J (last : Bool) (ps : List (List UInt8)) (h : ∀ p ∈ ps, Fine p) : lstV last (J ps) = grps last ps := by
  by_cases hn : ps = []
  · subst hn; rfl
  · unfold lstV
    rw [if_neg (J_ne ps h hn), J_pieces ps h hn]
theorem add_nil (p : List UInt8) : add [] p = p := rfl
theorem needs_gap (s : List UInt8) : needs (s ++ [58, 58]) = false := by
  unfold needs
  have : (s ++ [58, 58]).getLast? = some 58 := by simp
  rw [this]; simp
theorem six_text (t : Txt) (h : Okt t) (hz : ∀ i, t.fr ≤ i → i < t.fr + t.n → t.g.getD i 0 = 0) : sixV (FF t 8 0 []) = some t.g := by
  have hl := h.1
  by_cases hn : t.n = 0
  · rw [FF_tail h 8 0 [] rfl (.inl hn)]
    have hne : tailP t 8 0 ≠ [] := by rw [tailP]; split <;> simp
    rw [if_neg hne, add_nil]
    unfold sixV
    have hg := gap_J (tailP t 8 0) (tail_fine h 8 0) [] (.inl rfl)
    rw [List.append_nil] at hg
    rw [hg]
    simp only
    rw [lst_J true _ (tail_fine h 8 0), tail_grps h 8 0 rfl (fun _ => by omega)]
    simp [hl]
  · have hfr := h.2.2.2.2.1
    have hsum := h.2.2.2.2.2.1
    rw [FF_head h (by omega) t.fr 8 0 [] (by omega) rfl]
    have e1 : (if headP t t.fr 0 = [] then ([] : List UInt8) else add [] (J (headP t t.fr 0))) = J (headP t t.fr 0) := by
      by_cases he : headP t t.fr 0 = []
      · rw [if_pos he, he]; rfl
      · rw [if_neg he, add_nil]
    rw [e1, FF_tail h (8 - t.fr - t.n) (t.fr + t.n) _ (by omega) (.inr (by omega))]
    have e2 : (if tailP t (8 - t.fr - t.n) (t.fr + t.n) = [] then J (headP t t.fr 0) ++ [58, 58] else add (J (headP t t.fr 0) ++ [58, 58]) (J (tailP t (8 - t.fr - t.n) (t.fr + t.n)))) = J (headP t t.fr 0) ++ 58 :: 58 :: J (tailP t (8 - t.fr - t.n) (t.fr + t.n)) := by
      by_cases he : tailP t (8 - t.fr - t.n) (t.fr + t.n) = []
      · rw [if_pos he, he]; rfl
      · rw [if_neg he, add, needs_gap]; simp
    rw [e2]
    unfold sixV
    rw [gap_J _ (head_fine h t.fr 0) _ (.inr ⟨_, rfl⟩)]
    simp only [List.drop_succ_cons, List.drop_zero]
    rw [lst_J false _ (head_fine h t.fr 0), head_grps h t.fr 0 (by omega), lst_J true _ (tail_fine h _ _), tail_grps h _ (t.fr + t.n) (by omega) (fun hq => h.2.2.2.2.2.2 hq (by omega))]
    simp only [List.drop_zero, List.length_take, List.length_drop, hl]
    rw [if_neg (by omega)]
    congr 1
    apply List.ext_getElem?
    intro i
    have hget : ∀ j, j < 8 → t.g[j]? = some (t.g.getD j 0) := by
      intro j hj
      rw [List.getD_eq_getElem?_getD, List.getElem?_eq_getElem (by omega)]; rfl
    by_cases h1 : i < t.fr
    · rw [List.append_assoc, List.getElem?_append_left (by simp; omega), List.getElem?_take_of_lt h1]
    · by_cases h2 : i < t.fr + t.n
      · rw [List.getElem?_append_left (by simp; omega), List.getElem?_append_right (by simp; omega), List.getElem?_replicate, if_pos (by simp; omega), hget i (by omega), hz i (by omega) h2]
      · rw [List.getElem?_append_right (by simp; omega), List.getElem?_drop]
        congr 1
        simp; omega
theorem add_len (s p : List UInt8) : (add s p).length ≤ s.length + 1 + p.length := by
  unfold add; split <;> simp <;> omega
theorem FF_zero (t : Txt) (i : Nat) (s : List UInt8) : FF t 0 i s = s := by rw [FF]
theorem FF_gap (t : Txt) (d i : Nat) (s : List UInt8) (h : 0 < t.n ∧ i = t.fr) : FF t (d + 1) i s = FF t (d + 1 - t.n) (i + t.n) (s ++ [58, 58]) := by rw [FF, if_pos h]
theorem FF_oct (t : Txt) (d i : Nat) (s : List UInt8) (h : ¬ (0 < t.n ∧ i = t.fr)) (hq : t.quad = true ∧ i = 6) : FF t (d + 1) i s = add s (oct t) := by rw [FF, if_neg h, if_pos hq]
theorem FF_step (t : Txt) (d i : Nat) (s : List UInt8) (h : ¬ (0 < t.n ∧ i = t.fr)) (hq : ¬ (t.quad = true ∧ i = 6)) : FF t (d + 1) i s = FF t d (i + 1) (add s (piece t i)) := by rw [FF, if_neg h, if_neg hq]
theorem FF_len {t : Txt} (h : Okt t) : ∀ (d i : Nat) (s : List UInt8), (FF t d i s).length ≤ s.length + 20 * d := by
  intro d
  induction d using Nat.strongRecOn with
  | ind d IH =>
    intro i s
    cases d with
    | zero => rw [FF_zero]; omega
    | succ d =>
      by_cases hg : 0 < t.n ∧ i = t.fr
      · rw [FF_gap t d i s hg]
        have := IH (d + 1 - t.n) (by omega) (i + t.n) (s ++ [58, 58])
        rw [List.length_append] at this
        simp only [List.length_cons, List.length_nil] at this
        omega
      · by_cases hq : t.quad = true ∧ i = 6
        · rw [FF_oct t d i s hg hq]
          have := add_len s (oct t)
          have := (oct_fine h).2
          omega
        · rw [FF_step t d i s hg hq]
          have h1 := add_len s (piece t i)
          have h2 := (piece_fine h i).2.2.2
          have h3 := IH d (by omega) (i + 1) (add s (piece t i))
          omega
end Go.Proofs.YtdjhmapmhajkcaaDoor.Th
