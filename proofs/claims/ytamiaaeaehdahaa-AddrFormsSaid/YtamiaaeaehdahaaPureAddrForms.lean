/- An address written in whatever way the document lets (noughts ahead, great digits, a double colon, its end as four numbers) is read as that address. -/
import Derived.Test.YtamiaaeaehdahaaFo
import Derived.Test.YtamiaaeaehdahaaX3
import Derived.Test.YtamiaaeaehdahaaX4
import Derived.Test.YtamiaaeaehdahaaX8
import Derived.Test.YtamiaaeaehdahaaX16
namespace Go.Proofs.Ytamiaaeaehdahaa.Pure
open Go.RowKit Go.Proofs.Ytamiaaeaehdahaa.X Go.Proofs.YtamiaaeaehdahaaW.PrintWords Go.Proofs.Ytamiaaeaehdahaa.Th
set_option linter.unusedVariables false
set_option linter.unusedSimpArgs false

theorem FF_len {t : Txt} (h : Okt t) : ∀ (d i : Nat) (s : List UInt8), (FF t d i s).length ≤ s.length + 20 * d := by
  intro d
  induction d using Nat.strongRecOn with
  | ind d IH =>
    intro i s
    cases d with
    | zero => rw [FF_zero]; omega
    | succ d =>
      by_cases hg : 0 < t.n ∧ i = t.fr
      · rw [FF_gap t d i s hg]
        have := IH (d + 1 - t.n) (by omega) (i + t.n) (s ++ [58, 58])
        rw [List.length_append] at this
        simp only [List.length_cons, List.length_nil] at this
        omega
      · by_cases hq : t.quad = true ∧ i = 6
        · rw [FF_oct t d i s hg hq]
          have := add_len s (oct t)
          have := (oct_fine h).2
          omega
        · rw [FF_step t d i s hg hq]
          have h1 := add_len s (piece t i)
          have h2 := (piece_fine h i).2.2.2
          have h3 := IH d (by omega) (i + 1) (add s (piece t i))
          omega
theorem fin_parse (W0 W1 : Int) (F : List UInt8) (hF : Ev (fun k => addr_Parse.f k 128 (OfBy F)) (W0, W1, 0)) : Ev (fun k => (addr_Parse.f k 128 (OfBy F)).bind fun bt336 => (if bt336.2.2 = 0 then (some (bt336.1 == W0 && (bt336.2.1 == W1))) else (some false))) true := by
  refine Ev.bind hF ?_
  simp only [if_true, beq_self_eq_true, Bool.and_self]; exact Ev.now _
theorem forms_gap (t : Txt) (great : Bool) (W0 W1 : Int) (i : Nat) (s : List UInt8) (hi : i + t.n ≤ 8) (hn : 0 < t.n) (hs : s.length ≤ 1000) (r : Bool)
    (H : Ev (fun k => turnpikelaw2_AddrForms.l3 k (t.least : Int) great (t.fr : Int) (t.n : Int) t.quad (ints t.g) (OfBy (s ++ [58, 58])) ((i + t.n : Nat) : Int) W0 W1) r) :
    Ev (fun k => turnpikelaw2_AddrForms.j6 k (t.least : Int) great (t.fr : Int) (t.n : Int) t.quad (ints t.g) (OfBy s) (i : Int) true W0 W1) r := by
  have e1 : wrap64 ((i : Int) + (t.n : Int)) = ((i + t.n : Nat) : Int) := by rw [w64 (by omega) (by omega)]; omega
  have e2 : wrap64 (((i + t.n : Nat) : Int) - 1) = ((i + t.n - 1 : Nat) : Int) := by rw [w64 (by omega) (by omega)]; omega
  have e3 : wrap64 (((i + t.n - 1 : Nat) : Int) + 1) = ((i + t.n : Nat) : Int) := by rw [w64 (by omega) (by omega)]; omega
  have e4 : (OfBy s ++ (⟨#[58, 58]⟩ : ByteArray)) = OfBy (s ++ [58, 58]) := ofBy_append s [58, 58]
  refine Ev.step (fun k => turnpikelaw2_AddrForms.j6.eq_2 _ _ _ _ _ _ _ _ _ _ _ _) ?_
  simp only [if_true, ofBy_size, if_pos (show s.length + 2 ≤ 9223372036854775807 by omega), e1, e2, e3, e4]
  exact H
theorem forms_more (t : Txt) (great : Bool) (W0 W1 : Int) (h : Okt t) (hal : t.al = alOf great) (hl1 : 1 ≤ t.least) (i : Nat) (s : List UInt8) (hi : i < 8) (hs : s.length ≤ 5 * i) (r : Bool)
    (hoct : t.quad = true → i = 6 → Ev (fun k => (addr_Parse.f k 128 (OfBy (add s (oct t)))).bind fun bt336 => (if bt336.2.2 = 0 then (some (bt336.1 == W0 && (bt336.2.1 == W1))) else (some false))) r)
    (hgo : ¬ (t.quad = true ∧ i = 6) → Ev (fun k => turnpikelaw2_AddrForms.l3 k (t.least : Int) great (t.fr : Int) (t.n : Int) t.quad (ints t.g) (OfBy (add s (piece t i))) ((i + 1 : Nat) : Int) W0 W1) r) :
    Ev (fun k => turnpikelaw2_AddrForms.j6 k (t.least : Int) great (t.fr : Int) (t.n : Int) t.quad (ints t.g) (OfBy s) (i : Int) false W0 W1) r := by
  have h7 := forms_j7 t great W0 W1 h hal hl1 i s hi hs r hoct hgo
  refine Ev.step (fun k => turnpikelaw2_AddrForms.j6.eq_2 _ _ _ _ _ _ _ _ _ _ _ _) ?_
  simp only [Bool.false_eq_true, if_false]
  by_cases he : s = []
  · have : needs s = false := by rw [he]; rfl
    rw [this] at h7
    simp only [if_pos ((ofBy_empty s).2 he)]
    exact h7
  · obtain ⟨e1, e2, e3⟩ := last_sign s he (by omega)
    simp only [if_neg (fun e => he ((ofBy_empty s).1 e)), if_pos e2, if_pos e3, e1]
    exact h7
theorem forms_l3 (t : Txt) (great : Bool) (W0 W1 : Int) (h : Okt t) (hal : t.al = alOf great) (hl1 : 1 ≤ t.least) : ∀ (d i : Nat) (s : List UInt8), i + d = 8 → s.length ≤ 5 * i →
    (Ev (fun k => addr_Parse.f k 128 (OfBy (FF t d i s))) (W0, W1, 0)) →
    Ev (fun k => turnpikelaw2_AddrForms.l3 k (t.least : Int) great (t.fr : Int) (t.n : Int) t.quad (ints t.g) (OfBy s) (i : Int) W0 W1) true := by
  intro d
  induction d using Nat.strongRecOn with
  | ind d IH =>
    intro i s hd hs hp
    have hsum := h.2.2.2.2.2.1
    refine Ev.step (fun k => turnpikelaw2_AddrForms.l3.eq_2 _ _ _ _ _ _ _ _ _ _ _) ?_
    cases d with
    | zero =>
      rw [FF_zero] at hp
      simp only [if_neg (show ¬ (i : Int) < 8 by omega)]
      exact fin_parse W0 W1 s hp
    | succ d =>
      simp only [if_pos (show (i : Int) < 8 by omega)]
      have j6f : ¬ (0 < t.n ∧ i = t.fr) → Ev (fun k => turnpikelaw2_AddrForms.j6 k (t.least : Int) great (t.fr : Int) (t.n : Int) t.quad (ints t.g) (OfBy s) (i : Int) false W0 W1) true := by
        intro hno
        refine forms_more t great W0 W1 h hal hl1 i s (by omega) hs true (fun hq h6 => ?_) (fun hno' => ?_)
        · rw [FF_oct t d i s hno ⟨hq, h6⟩] at hp
          exact fin_parse W0 W1 _ hp
        · rw [FF_step t d i s hno hno'] at hp
          have h1 := add_len s (piece t i)
          have h2 := (piece_fine h i).2.2.2
          exact IH d (by omega) (i + 1) (add s (piece t i)) (by omega) (by omega) hp
      by_cases hn : 0 < t.n
      · simp only [if_pos (show (t.n : Int) > 0 by omega)]
        by_cases hf : i = t.fr
        · have e : ((i : Int) == (t.fr : Int)) = true := by rw [hf]; simp
          rw [e]
          rw [FF_gap t d i s ⟨hn, hf⟩] at hp
          have hlen : (s ++ [(58 : UInt8), 58]).length ≤ 5 * (i + t.n) := by rw [List.length_append]; simp only [List.length_cons, List.length_nil]; omega
          exact forms_gap t great W0 W1 i s (by omega) hn (by omega) true (IH (d + 1 - t.n) (by omega) (i + t.n) (s ++ [58, 58]) (by omega) hlen hp)
        · have e : ((i : Int) == (t.fr : Int)) = false := by simp; omega
          rw [e]
          exact j6f (fun hx => hf hx.2)
      · simp only [if_neg (show ¬ (t.n : Int) > 0 by omega)]
        exact j6f (fun hx => hn hx.1)
/-! ### ahead of the text: the groups -/
theorem as_word {a b : Int} (ha : (Lit.int .u64 a).wf = true) (hb : (Lit.int .u64 b).wf = true) : ∃ w : Nat, w < 2 ^ 128 ∧ a = hi w ∧ b = lo w := by
  have h1 : 0 ≤ a ∧ a ≤ 18446744073709551615 := by simpa [Lit.wf, IntKind.min, IntKind.max, IntKind.signed, IntKind.bits] using ha
  have h2 : 0 ≤ b ∧ b ≤ 18446744073709551615 := by simpa [Lit.wf, IntKind.min, IntKind.max, IntKind.signed, IntKind.bits] using hb
  exact ⟨wd a b, wd_lt (by omega) (by omega), (hi_wd h1.1 h2.1 (by omega)).symm, (lo_wd h2.1 (by omega)).symm⟩
theorem rshl (v n : Nat) (hv : v < 2 ^ 128) (hn : n ≤ 127) : turnpikeref1_Shl.f (hi v) (lo v) (n : Int) = some (hi (sl v n), lo (sl v n)) := by
  unfold turnpikeref1_Shl.f
  by_cases h0 : n = 0
  · subst h0; rw [if_pos (by decide), sl_zero v hv]
  · rw [if_neg (by omega), if_neg (by omega)]
    by_cases h64 : n < 64
    · have e : wrap64 (64 - (n : Int)) = ((64 - n : Nat) : Int) := by rw [w64 (by omega) (by omega)]; omega
      rw [if_neg (by omega), if_pos (by omega), e, if_pos (by omega), shl_hi v n (by omega) h64, shl_lo v n h64]
    · have e : wrap64 ((n : Int) - 64) = ((n - 64 : Nat) : Int) := by rw [w64 (by omega) (by omega)]; omega
      obtain ⟨h1, h2⟩ := shl_far v n (by omega) (by omega)
      rw [if_pos (by omega), e, if_pos (by omega), h1, h2]
theorem rshr (v n : Nat) (hv : v < 2 ^ 128) (hn : n ≤ 127) : turnpikeref1_Shr.f (hi v) (lo v) (n : Int) = some (hi (sr v n), lo (sr v n)) := by
  unfold turnpikeref1_Shr.f
  by_cases h0 : n = 0
  · subst h0; rw [if_pos (by decide), sr_zero v]
  · rw [if_neg (by omega), if_neg (by omega)]
    by_cases h64 : n < 64
    · have e : wrap64 (64 - (n : Int)) = ((64 - n : Nat) : Int) := by rw [w64 (by omega) (by omega)]; omega
      rw [if_neg (by omega), if_pos (by omega), e, if_pos (by omega), shr_hi v n h64, shr_lo v n (by omega) h64]
    · have e : wrap64 ((n : Int) - 64) = ((n - 64 : Nat) : Int) := by rw [w64 (by omega) (by omega)]; omega
      obtain ⟨h1, h2⟩ := shr_far v n (by omega) (by omega) hv
      rw [if_pos (by omega), e, if_pos (by omega), h1, h2]
def GG (w i : Nat) : Nat := w / 2 ^ (112 - 16 * i) % 65536
theorem GG_lt (w i : Nat) : GG w i < 65536 := Nat.mod_lt _ (by decide)
theorem field_eq (w i : Nat) (hi : i < 8) : sr (sl w (16 * i)) 112 = GG w i := by
  unfold sr sl GG
  have e1 : (2 : Nat) ^ 128 = 2 ^ 112 * 65536 := by decide
  have e2 : (2 : Nat) ^ 112 = 2 ^ (112 - 16 * i) * 2 ^ (16 * i) := by rw [← Nat.pow_add]; congr 1; omega
  rw [e1, Nat.mod_mul_right_div_self]
  rw [e2, Nat.mul_div_mul_right _ _ (Nat.pow_pos (by decide))]
theorem rfield (w i : Nat) (hw : w < 2 ^ 128) (hi8 : i < 8) : turnpikeref1_Field.f (hi w) (lo w) (wrap64 (16 * (i : Int))) 16 = some (hi (GG w i), ((GG w i : Nat) : Int), 0) := by
  have e : wrap64 (16 * (i : Int)) = ((16 * i : Nat) : Int) := by rw [w64 (by omega) (by omega)]; omega
  have e2 : wrap64 (128 - (16 : Int)) = ((112 : Nat) : Int) := by rw [w64 (by omega) (by omega)]; omega
  have e3 : wrap64 (128 - ((16 * i : Nat) : Int)) = ((128 - 16 * i : Nat) : Int) := by rw [w64 (by omega) (by omega)]; omega
  have hf : turnpikeref1_fits.f ((16 * i : Nat) : Int) 16 = some true := by
    unfold turnpikeref1_fits.f
    rw [if_pos (by omega), if_pos (by omega), if_pos (by decide), e3]
    congr 1
    exact decide_eq_true (by omega)
  unfold turnpikeref1_Field.f
  rw [e, hf, e2]
  simp only [Option.bind_some, if_true, rshl w (16 * i) hw (by omega), rshr (sl w (16 * i)) 112 (sl_lt _ _) (by omega), field_eq w i hi8, lo0 (GG_lt w i)]
def gl (w i : Nat) : List Nat := (List.range i).map (GG w)
theorem gl_succ (w i : Nat) : gl w (i + 1) = gl w i ++ [GG w i] := by unfold gl; rw [List.range_succ, List.map_append]; rfl
theorem gl_len (w i : Nat) : (gl w i).length = i := by unfold gl; simp
theorem gl_lt (w i : Nat) : ∀ x ∈ gl w i, x < 65536 := by
  intro x hx
  unfold gl at hx
  obtain ⟨j, _, e⟩ := List.mem_map.1 hx
  rw [← e]; exact GG_lt w j
theorem forms_l0 (a : Int) (great quad : Bool) (fr n : Int) (w : Nat) (hw : w < 2 ^ 128) (r : Bool)
    (H : Ev (fun k => turnpikelaw2_AddrForms.l1 k a great fr n quad (ints (gl w 8)) fr) r) : ∀ (d i : Nat), i + d = 8 →
    Ev (fun k => turnpikelaw2_AddrForms.l0 k a great fr n quad (ints (gl w i)) (i : Int) (hi w) (lo w)) r := by
  intro d
  induction d with
  | zero =>
    intro i hd
    obtain rfl : i = 8 := by omega
    refine Ev.step (fun k => turnpikelaw2_AddrForms.l0.eq_2 _ _ _ _ _ _ _ _ _ _) ?_
    simp only [if_neg (show ¬ ((8 : Nat) : Int) < 8 by decide)]
    exact H
  | succ d ih =>
    intro i hd
    refine Ev.step (fun k => turnpikelaw2_AddrForms.l0.eq_2 _ _ _ _ _ _ _ _ _ _) ?_
    have hg := GG_lt w i
    have e : wrap64 ((GG w i : Nat) : Int) = ((GG w i : Nat) : Int) := w64 (by omega) (by omega)
    have hlen : (ints (gl w i)).length < 17592186044416 := by rw [ints_len, gl_len]; omega
    have e2 : ints (gl w i) ++ [((GG w i : Nat) : Int)] = ints (gl w (i + 1)) := by rw [gl_succ]; unfold ints; rw [List.map_append]; rfl
    simp only [if_pos (show (i : Int) < 8 by omega), rfield w i hw (by omega), Option.bind_some, if_pos hlen, e, e2, wr1 (show i ≤ 1000000000 by omega)]
    exact ih (i + 1) (by omega)
def zr : Nat → Nat → List Nat → List Nat
  | 0, _, g => g
  | d + 1, j, g => zr d (j + 1) (g.set j 0)
theorem zr_len : ∀ d j g, (zr d j g).length = g.length
  | 0, _, _ => rfl
  | d + 1, j, g => by rw [zr, zr_len d, List.length_set]
theorem zr_lt : ∀ d j (g : List Nat), (∀ x ∈ g, x < 65536) → ∀ x ∈ zr d j g, x < 65536
  | 0, _, _, h => h
  | d + 1, j, g, h => by
    rw [zr]
    refine zr_lt d (j + 1) _ ?_
    intro x hx
    rcases List.mem_or_eq_of_mem_set hx with e | e
    · exact h x e
    · omega
theorem set_getD (g : List Nat) (j i : Nat) : (g.set j 0).getD i 0 = if i = j then 0 else g.getD i 0 := by
  rw [List.getD_eq_getElem?_getD, List.getD_eq_getElem?_getD, List.getElem?_set]
  by_cases h : j = i
  · subst h
    by_cases hl : j < g.length
    · simp [hl]
    · simp [hl]
  · rw [if_neg h, if_neg (Ne.symm h)]
theorem zr_zero : ∀ d j (g : List Nat) i, (g.getD i 0 = 0 ∨ (j ≤ i ∧ i < j + d)) → (zr d j g).getD i 0 = 0
  | 0, j, g, i, h => by rcases h with h | h; exact h; omega
  | d + 1, j, g, i, h => by
    rw [zr]
    refine zr_zero d (j + 1) _ i ?_
    rw [set_getD]
    by_cases e : i = j
    · left; rw [if_pos e]
    · rw [if_neg e]
      rcases h with h | h
      · exact Or.inl h
      · right; omega
theorem forms_l1 (a : Int) (great quad : Bool) (fr n : Nat) (hfn : fr + n ≤ 8) (r : Bool) : ∀ (d j : Nat) (g : List Nat), j + d = fr + n → g.length = 8 →
    Ev (fun k => turnpikelaw2_AddrForms.l2 k a great (fr : Int) (n : Int) quad (ints (zr d j g)) 0 0 0) r →
    Ev (fun k => turnpikelaw2_AddrForms.l1 k a great (fr : Int) (n : Int) quad (ints g) (j : Int)) r := by
  have e : wrap64 ((fr : Int) + (n : Int)) = ((fr + n : Nat) : Int) := by rw [w64 (by omega) (by omega)]; omega
  intro d
  induction d with
  | zero =>
    intro j g hd hl H
    refine Ev.step (fun k => turnpikelaw2_AddrForms.l1.eq_2 _ _ _ _ _ _ _ _) ?_
    simp only [e, if_neg (show ¬ (j : Int) < ((fr + n : Nat) : Int) by omega)]
    exact H
  | succ d ih =>
    intro j g hd hl H
    refine Ev.step (fun k => turnpikelaw2_AddrForms.l1.eq_2 _ _ _ _ _ _ _ _) ?_
    have e2 : (ints g).set ((j : Int)).toNat 0 = ints (g.set j 0) := by unfold ints; rw [Int.toNat_natCast, List.map_set]; rfl
    simp only [e, if_pos (show (j : Int) < ((fr + n : Nat) : Int) by omega), if_pos (show (0 : Int) ≤ (j : Int) by omega), ints_len, hl, if_pos (show (j : Int) < ((8 : Nat) : Int) by omega), e2, wr1 (show j ≤ 1000000000 by omega)]
    exact ih (j + 1) (g.set j 0) (by omega) (by rw [List.length_set]; exact hl) H
theorem forms_l2 (a : Int) (great quad : Bool) (fr n : Nat) (hfn : fr + n ≤ 8) (R : Bool) (g : List Nat) (h8 : g.length = 8) (hg : ∀ x ∈ g, x < 65536)
    (H : Ev (fun k => turnpikelaw2_AddrForms.l3 k a great (fr : Int) (n : Int) (if 0 < n ∧ 6 < fr + n then false else quad) (ints g) (OfBy []) 0 (hi (PP 0 g)) (lo (PP 0 g))) R) :
    ∀ (r : List Nat) (i w : Nat), g.drop i = r → i ≤ 8 → w * 2 ^ (128 - 16 * i) + PP i r = PP 0 g →
    Ev (fun k => turnpikelaw2_AddrForms.l2 k a great (fr : Int) (n : Int) quad (ints g) (i : Int) (hi w) (lo w)) R
  | [], i, w, hr, hi8, hlt => by
    have : g.length ≤ i := by
      have := congrArg List.length hr
      simp only [List.length_drop, List.length_nil] at this; omega
    obtain rfl : i = 8 := by omega
    have ew : w = PP 0 g := by
      rw [← hlt]; simp [PP]
    have e : wrap64 ((fr : Int) + (n : Int)) = ((fr + n : Nat) : Int) := by rw [w64 (by omega) (by omega)]; omega
    have j4 : ∀ q, q = (if 0 < n ∧ 6 < fr + n then false else quad) → Ev (fun k => turnpikelaw2_AddrForms.j4 k a great (fr : Int) (n : Int) q (ints g) (hi w) (lo w)) R := by
      intro q hq
      refine Ev.step (fun k => turnpikelaw2_AddrForms.j4.eq_2 _ _ _ _ _ _ _ _ _) ?_
      rw [hq, ew]
      exact H
    refine Ev.step (fun k => turnpikelaw2_AddrForms.l2.eq_2 _ _ _ _ _ _ _ _ _ _) ?_
    simp only [if_neg (show ¬ ((8 : Nat) : Int) < 8 by decide), e]
    by_cases hn : 0 < n
    · simp only [if_pos (show (n : Int) > 0 by omega)]
      refine Ev.step (fun k => turnpikelaw2_AddrForms.j3.eq_2 _ _ _ _ _ _ _ _ _ _) ?_
      by_cases h6 : 6 < fr + n
      · have : decide (((fr + n : Nat) : Int) > 6) = true := decide_eq_true (by omega)
        simp only [this, if_true]
        exact j4 false (by rw [if_pos ⟨hn, h6⟩])
      · have : decide (((fr + n : Nat) : Int) > 6) = false := decide_eq_false (by omega)
        simp only [this, Bool.false_eq_true, if_false]
        exact j4 quad (by rw [if_neg (fun h => h6 h.2)])
    · simp only [if_neg (show ¬ (n : Int) > 0 by omega)]
      refine Ev.step (fun k => turnpikelaw2_AddrForms.j3.eq_2 _ _ _ _ _ _ _ _ _ _) ?_
      simp only [Bool.false_eq_true, if_false]
      exact j4 quad (by rw [if_neg (fun h => hn h.1)])
  | x :: r, i, w, hr, hi8, heq => by
    have hlt : w * 2 ^ (128 - 16 * i) + PP i (x :: r) < 2 ^ 128 := by rw [heq]; exact PP_lt128 g hg 0 (by omega)
    obtain ⟨h1, h2, h3⟩ := rd_ints g i x r hr
    have hn : x < 65536 := hg x (by
      have : x ∈ g.drop i := by rw [hr]; exact List.mem_cons_self ..
      exact List.mem_of_mem_drop this)
    have hA := two112 i (by omega)
    have hA1 : 1 ≤ 2 ^ (112 - 16 * i) := Nat.pow_pos (by decide)
    have hw : w * 65536 < 2 ^ 128 := by
      have : w * 65536 * 1 ≤ w * 65536 * 2 ^ (112 - 16 * i) := Nat.mul_le_mul_left _ hA1
      rw [hA, ← Nat.mul_assoc] at hlt
      omega
    have hw' : w < 2 ^ 128 := by omega
    have hsl : sl w 16 = w * 65536 := by unfold sl; exact Nat.mod_eq_of_lt hw
    have hshl := rshl w 16 hw' (by omega)
    rw [hsl] at hshl
    have hor : w * 65536 ||| x = w * 65536 + x := by
      have := or_add (e := 16) (q := w) (b := x) hn
      rw [show (2 : Nat) ^ 16 = 65536 from rfl, Nat.mul_comm] at this
      exact this
    have ehi : hi (w * 65536) = hi (w * 65536 + x) := by
      have e : w * 65536 / 2 ^ 64 = (w * 65536 + x) / 2 ^ 64 := by rw [p64]; omega
      unfold hi; rw [e]
    have elo : Go.bits .or .u64 (lo (w * 65536)) (IntKind.u64.wrap (x : Int)) = lo (w * 65536 + x) := by
      rw [u64w (by omega) (by omega), ← lo0 hn, or_lo, hor]
    refine Ev.step (fun k => turnpikelaw2_AddrForms.l2.eq_2 _ _ _ _ _ _ _ _ _ _) ?_
    rw [show ((16 : Nat) : Int) = 16 from rfl] at hshl
    simp only [if_pos (show (i : Int) < 8 by omega), hshl, Option.bind_some, if_pos (show (0 : Int) ≤ (i : Int) by omega), ints_len, if_pos (show (i : Int) < (g.length : Int) by omega), h2, elo, wr1 (show i ≤ 1000000000 by omega)]
    rw [ehi]
    have e : w * 2 ^ (128 - 16 * i) + PP i (x :: r) = (w * 65536 + x) * 2 ^ (128 - 16 * (i + 1)) + PP (i + 1) r := by
      rw [PP, hA, show 128 - 16 * (i + 1) = 112 - 16 * i by omega, Nat.add_mul, Nat.mul_assoc, Nat.add_assoc]
    rw [e] at heq
    exact forms_l2 a great quad fr n hfn R g h8 hg H r (i + 1) (w * 65536 + x) h3 (by omega) heq
theorem AddrForms : turnpikelaw2_AddrForms.Pure := by
  intro a0 a1 b2 great b3 b4 quad w0 w1 w2 w3 w4
  obtain ⟨w, hw, rfl, rfl⟩ := as_word w0 w1
  obtain ⟨p, hp, e1⟩ := lwithin b2 4 (by decide) (by decide)
  obtain ⟨fr, hfr, e2⟩ := lwithin b3 8 (by decide) (by decide)
  have ew : wrap64 (wrap64 (8 - (fr : Int)) + 1) = 8 - (fr : Int) + 1 := by rw [w64 (x := 8 - (fr : Int)) (by omega) (by omega), w64 (by omega) (by omega)]
  obtain ⟨n, hn, e3⟩ := lwithin b4 (8 - (fr : Int) + 1) (by omega) (by omega)
  have ep : wrap64 (1 + (p : Int)) = ((p + 1 : Nat) : Int) := by rw [w64 (by omega) (by omega)]; omega
  have hfn : fr + n ≤ 8 := by omega
  refine Ev.rounds ?_
  unfold turnpikelaw2_AddrForms.f
  refine Ev.bind known_f ?_
  simp only [if_true, e1, e2, Option.bind_some, ew, e3, ep]
  let q : Bool := if 0 < n ∧ 6 < fr + n then false else quad
  let t : Txt := { g := zr n fr (gl w 8), al := alOf great, least := p + 1, quad := q, fr := fr, n := n }
  have hg8 : (zr n fr (gl w 8)).length = 8 := by rw [zr_len, gl_len]
  have hglt : ∀ x ∈ zr n fr (gl w 8), x < 65536 := zr_lt n fr _ (gl_lt w 8)
  have hq : t.quad = true → 0 < t.n → t.fr + t.n ≤ 6 := by
    intro h1 h2
    by_cases h6 : 6 < fr + n
    · have : q = false := by show (if 0 < n ∧ 6 < fr + n then false else quad) = false; rw [if_pos ⟨h2, h6⟩]
      exact absurd (h1.symm.trans this) (by decide)
    · show fr + n ≤ 6; omega
  have ok : Okt t := ⟨hg8, hglt, alOf_alph great, (show p + 1 ≤ 4 by omega), (show fr < 8 by omega), hfn, hq⟩
  have six := six_text t ok (fun i h1 h2 => zr_zero n fr (gl w 8) i (Or.inr ⟨h1, h2⟩))
  have hlen := FF_len ok 8 0 []
  have hpp := pparse 128 (OfBy (FF t 8 0 [])) (by rw [ofBy_size]; simp only [List.length_nil] at hlen; omega)
  unfold readV at hpp
  rw [if_neg (by decide), if_pos rfl, by_ofBy, six] at hpp
  have l3 := forms_l3 t great (hi (PP 0 t.g)) (lo (PP 0 t.g)) ok rfl (show 1 ≤ p + 1 by omega) 8 0 [] rfl (by simp) hpp
  have l2 := forms_l2 ((p + 1 : Nat) : Int) great quad fr n hfn true (zr n fr (gl w 8)) hg8 hglt l3 (zr n fr (gl w 8)) 0 0 rfl (by omega) (by rw [Nat.zero_mul, Nat.zero_add])
  have l1 := forms_l1 ((p + 1 : Nat) : Int) great quad fr n hfn true n fr (gl w 8) rfl (gl_len w 8) l2
  exact forms_l0 ((p + 1 : Nat) : Int) great quad (fr : Int) (n : Int) w hw true l1 8 0 rfl
end Go.Proofs.Ytamiaaeaehdahaa.Pure
