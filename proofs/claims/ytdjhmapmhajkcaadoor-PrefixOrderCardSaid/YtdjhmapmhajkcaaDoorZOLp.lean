/- What the program's reader of addresses computes: the printed functions against the plain theory. -/
import Derived.Test.YtdjhmapmhajkcaaDoorZOTh
import Derived.Test.YtdjhmapmhajkcaaDoorZOTw
import Derived.Laws.BitsAllLaws
import Derived.Test.YtdjhmapmhajkcaaDoorZOX4
import Derived.Test.YtdjhmapmhajkcaaDoorZOX5
namespace Go.Proofs.YtdjhmapmhajkcaaDoor.Th
open Go.RowKit Go.Proofs.YtdjhmapmhajkcaaDoor.X Go.Proofs.YtdjhmapmhajkcaaDoorW.PrintWords Go.Proofs.YtdjhmapmhajkcaaDoorW.PrintLast Go.Proofs.YtdjhmapmhajkcaaDoor.Sm
set_option linter.unusedVariables false
set_option linter.unusedSimpArgs false
theorem wr1 {i : Nat} (h : i ≤ 1000000000) : wrap64 ((i : Int) + 1) = ((i + 1 : Nat) : Int) := by unfold wrap64; omega
theorem u64w {n : Int} (h0 : 0 ≤ n) (h : n < 18446744073709551616) : IntKind.u64.wrap n = n := by
  show n.emod 18446744073709551616 = n
  exact Int.emod_eq_of_lt h0 h
theorem w64 {x : Int} (h0 : -4611686018427387904 ≤ x) (h : x ≤ 4611686018427387904) : wrap64 x = x := by unfold wrap64; omega
def scan (d m : Nat) (z : Bool) : List UInt8 → Option (Nat × Nat × List UInt8)
  | [] => some (d, m, [])
  | c :: l => if 48 ≤ c.toNat ∧ c.toNat ≤ 57 then
      (if 255 < 10 * d + (c.toNat - 48) ∨ (0 < m ∧ (z : Bool) = true) then none else scan (10 * d + (c.toNat - 48)) (m + 1) (if m = 0 then decide (c = 48) else z) l)
    else some (d, m, c :: l)
def quadV : Nat → Nat → List UInt8 → Option Nat
  | 0, _, _ => none
  | p + 1, n, l => match scan 0 0 false l with
    | none => none
    | some (_, 0, _) => none
    | some (d, _ + 1, r) => if p = 0 then (if r = [] then some (n * 256 + d) else none) else
      match r with
      | [] => none
      | c :: r => if c = 46 then quadV p (n * 256 + d) r else none
theorem or_shift (n d : Nat) (hn : n < 16777216) (hd : d < 256) : Go.bits .or .u64 ((n * 256 : Nat) : Int) (d : Int) = ((n * 256 + d : Nat) : Int) := by
  rw [u64_or_nat _ _ (by omega) (by omega)]
  have : n * 256 ||| d = n * 256 + d := by
    have := Nat.two_pow_add_eq_or_of_lt (i := 8) (b := d) (by omega) n
    rw [show (2 : Nat) ^ 8 = 256 from rfl, Nat.mul_comm] at this
    exact this.symm
  rw [this]
theorem quad_scan (s : ByteArray) (hs : s.size ≤ 2097152) (x4 x9 : Int) (fr : Nat) (r : Int × Bool) : ∀ (l : List UInt8) (i d m : Nat) (z : Bool), (By s).drop i = l → i ≤ s.size → i = fr + m → d < 256 → (0 < m → (z = true ↔ bt s (fr : Int) = 48)) →
    (scan d m z l = none → r = (0, false)) →
    (∀ d' m' l', scan d m z l = some (d', m', l') → (By s).drop (fr + m') = l' → fr + m' ≤ s.size → d' < 256 → Ev (fun k => addr_quad.j2 k s x4 ((fr + m' : Nat) : Int) x9 (fr : Int) (d' : Int) x9 false) r) →
    Ev (fun k => addr_quad.l1 k s x4 (i : Int) x9 (fr : Int) (d : Int) x9) r
  | [], i, d, m, z, hl, hi, hm, hd, hz, hnone, hsome => by
    have h1 := nil_at hl
    refine Ev.step (fun k => addr_quad.l1.eq_2 _ _ _ _ _ _ _ _) ?_
    simp only [if_neg (show ¬ (i : Int) < (s.size : Int) by omega)]
    have := hsome d m [] rfl (by rw [← hm]; exact hl) (by omega) hd
    rw [← hm] at this
    exact this
  | c :: l, i, d, m, z, hl, hi, hm, hd, hz, hnone, hsome => by
    obtain ⟨h1, h2, h3⟩ := cons_at hl
    have hb := u8_lt c
    refine Ev.step (fun k => addr_quad.l1.eq_2 _ _ _ _ _ _ _ _) ?_
    simp only [if_pos (show (i : Int) < (s.size : Int) by omega), if_pos (show (0 : Int) ≤ (i : Int) by omega), h2]
    by_cases hc : 48 ≤ c.toNat ∧ c.toNat ≤ 57
    · have e1 : ((c.toNat : Int) - 48) % 256 = ((c.toNat - 48 : Nat) : Int) := by omega
      have e2 : IntKind.u64.wrap ((d : Int) * 10) = ((10 * d : Nat) : Int) := by rw [u64w (by omega) (by omega)]; omega
      have e3 : IntKind.u64.wrap (((10 * d : Nat) : Int) + ((c.toNat - 48 : Nat) : Int)) = ((10 * d + (c.toNat - 48) : Nat) : Int) := by rw [u64w (by omega) (by omega)]; omega
      have e4 : wrap64 (((i + 1 : Nat) : Int) - (fr : Int)) = ((m + 1 : Nat) : Int) := by rw [w64 (by omega) (by omega)]; omega
      simp only [if_pos (show (c.toNat : Int) ≥ 48 by omega), decide_eq_true (show (c.toNat : Int) ≤ 57 by omega)]
      refine Ev.step (fun k => addr_quad.j2.eq_2 _ _ _ _ _ _ _ _ _) ?_
      simp only [if_pos (show (i : Int) < (s.size : Int) by omega), if_pos (show (0 : Int) ≤ (i : Int) by omega), h2, if_true, e1, e2, e3, wr1 (show i ≤ 1000000000 by omega), e4]
      rw [scan, if_pos hc] at hnone
      by_cases h255 : 255 < 10 * d + (c.toNat - 48)
      · simp only [if_pos (show ((10 * d + (c.toNat - 48) : Nat) : Int) > 255 by omega)]
        rw [if_pos (.inl h255)] at hnone
        rw [hnone rfl]; exact Ev.now _
      · simp only [if_neg (show ¬ ((10 * d + (c.toNat - 48) : Nat) : Int) > 255 by omega)]
        have go : ∀ z', ¬ (255 < 10 * d + (c.toNat - 48) ∨ (0 < m ∧ z = true)) → (z' = if m = 0 then decide (c = 48) else z) → Ev (fun k => addr_quad.l1 k s x4 ((i + 1 : Nat) : Int) x9 (fr : Int) ((10 * d + (c.toNat - 48) : Nat) : Int) x9) r := by
          intro z' hno hz'
          rw [if_neg hno] at hnone
          refine quad_scan s hs x4 x9 fr r l (i + 1) _ (m + 1) z' h3 (by omega) (by omega) (by omega) (fun _ => ?_) (by rw [hz']; exact hnone) ?_
          · by_cases hm0 : m = 0
            · rw [hz', if_pos hm0]
              have : (fr : Int) = (i : Int) := by omega
              rw [this, h2, decide_eq_true_iff]
              constructor
              · rintro rfl; rfl
              · intro e; exact u8_eq.2 (by show c.toNat = 48; omega)
            · rw [hz', if_neg hm0]; exact hz (by omega)
          · intro d' m' l' hsc
            refine hsome d' m' l' ?_
            rw [scan, if_pos hc, if_neg hno, ← hz']
            exact hsc
        by_cases hm1 : 1 < m + 1
        · have hfr : fr < s.size := by omega
          simp only [if_pos (show ((m + 1 : Nat) : Int) > 1 by omega), if_pos (show (0 : Int) ≤ (fr : Int) by omega), if_pos (show (fr : Int) < (s.size : Int) by omega)]
          by_cases hz48 : bt s (fr : Int) = 48
          · simp only [if_pos hz48]
            rw [if_pos (.inr ⟨by omega, (hz (by omega)).2 hz48⟩)] at hnone
            rw [hnone rfl]; exact Ev.now _
          · simp only [if_neg hz48]
            exact go _ (by rintro (h | ⟨_, h⟩)
                           · exact h255 h
                           · exact hz48 ((hz (by omega)).1 h)) rfl
        · simp only [if_neg (show ¬ ((m + 1 : Nat) : Int) > 1 by omega)]
          exact go _ (by rintro (h | ⟨h, _⟩)
                         · exact h255 h
                         · omega) rfl
    · have hres := hsome d m (c :: l) (by rw [scan, if_neg hc]) (by rw [← hm]; exact hl) (by omega) hd
      rw [← hm] at hres
      by_cases h48 : 48 ≤ c.toNat
      · simp only [if_pos (show (c.toNat : Int) ≥ 48 by omega), decide_eq_false (show ¬ (c.toNat : Int) ≤ 57 by omega)]
        exact hres
      · simp only [if_neg (show ¬ (c.toNat : Int) ≥ 48 by omega)]
        exact hres
theorem quad_j2 (s : ByteArray) (hs : s.size ≤ 2097152) (n p q fr m d : Nat) (l : List UInt8) (hl : (By s).drop (fr + m) = l) (hi : fr + m ≤ s.size) (hp : p + q = 3) (hn : n < 256 ^ q) (hd : d < 256) (r : Int × Bool)
    (h0 : m = 0 → r = (0, false)) (hend : 0 < m → p = 0 → r = (((n * 256 + d : Nat) : Int), decide (l = []))) (hnil : 0 < m → p ≠ 0 → l = [] → r = (0, false))
    (hno : ∀ c l', 0 < m → p ≠ 0 → l = c :: l' → c ≠ 46 → r = (0, false))
    (hgo : ∀ l', 0 < m → p ≠ 0 → l = 46 :: l' → (By s).drop (fr + m + 1) = l' → fr + m + 1 ≤ s.size → Ev (fun k => addr_quad.l0 k s ((n * 256 + d : Nat) : Int) ((fr + m + 1 : Nat) : Int) ((q + 1 : Nat) : Int)) r) :
    Ev (fun k => addr_quad.j2 k s (n : Int) ((fr + m : Nat) : Int) (q : Int) (fr : Int) (d : Int) (q : Int) false) r := by
  have hn3 : 256 ^ q ≤ 256 ^ 3 := Nat.pow_le_pow_right (by decide) (by omega)
  have e1 : IntKind.u64.wrap ((n : Int) * 256) = ((n * 256 : Nat) : Int) := by rw [u64w (by omega) (by omega)]; omega
  have e2 : Go.bits .or .u64 ((n * 256 : Nat) : Int) (d : Int) = ((n * 256 + d : Nat) : Int) := by
    by_cases hb : n < 16777216
    · exact or_shift n d hb hd
    · omega
  refine Ev.step (fun k => addr_quad.j2.eq_2 _ _ _ _ _ _ _ _ _) ?_
  simp only [Bool.false_eq_true, if_false, e1, e2]
  by_cases hm : m = 0
  · simp only [if_pos (show ((fr + m : Nat) : Int) = (fr : Int) by omega)]
    rw [h0 hm]; exact Ev.now _
  simp only [if_neg (show ¬ ((fr + m : Nat) : Int) = (fr : Int) by omega)]
  by_cases hp0 : p = 0
  · simp only [if_pos (show (q : Int) = 3 by omega)]
    rw [hend (by omega) hp0]
    have hz := drop_len hl hi
    cases l with
    | nil =>
      have : (((fr + m : Nat) : Int) == (s.size : Int)) = true := by simp; simp at hz; omega
      rw [this]; exact Ev.now _
    | cons c l =>
      have : (((fr + m : Nat) : Int) == (s.size : Int)) = false := by
        simp only [List.length_cons] at hz
        simp only [beq_eq_false_iff_ne, ne_eq]; omega
      rw [this]; exact Ev.now _
  simp only [if_neg (show ¬ (q : Int) = 3 by omega)]
  have hz := drop_len hl hi
  cases l with
  | nil =>
    simp only [List.length_nil] at hz
    simp only [if_pos (show ((fr + m : Nat) : Int) = (s.size : Int) by omega)]
    rw [hnil (by omega) hp0 rfl]; exact Ev.now _
  | cons c l =>
    obtain ⟨h1, h2, h3⟩ := cons_at hl
    simp only [if_neg (show ¬ ((fr + m : Nat) : Int) = (s.size : Int) by omega), if_pos (show (0 : Int) ≤ ((fr + m : Nat) : Int) by omega), if_pos (show ((fr + m : Nat) : Int) < (s.size : Int) by omega), h2]
    by_cases hc : c = 46
    · subst hc
      simp only [if_pos (show (((46 : UInt8).toNat : Nat) : Int) = 46 from rfl), wr1 (show fr + m ≤ 1000000000 by omega), wr1 (show q ≤ 1000000000 by omega)]
      exact hgo l (by omega) hp0 rfl h3 (by omega)
    · simp only [if_neg (show ¬ (c.toNat : Int) = 46 from fun e => hc (u8_eq.2 (by show c.toNat = 46; omega)))]
      rw [hno c l (by omega) hp0 rfl hc]; exact Ev.now _
theorem quad_l0 (s : ByteArray) (hs : s.size ≤ 2097152) : ∀ (p q n i : Nat) (l : List UInt8), p + q = 3 → n < 256 ^ q → (By s).drop i = l → i ≤ s.size →
    (∀ v, quadV (p + 1) n l = some v → Ev (fun k => addr_quad.l0 k s (n : Int) (i : Int) (q : Int)) ((v : Int), true)) ∧
    (quadV (p + 1) n l = none → ∃ v : Nat, v < 4294967296 ∧ Ev (fun k => addr_quad.l0 k s (n : Int) (i : Int) (q : Int)) ((v : Int), false))
  := by
    intro p
    induction p using Nat.strongRecOn with
    | ind p IH =>
    intro q n i l hp hn hl hi
    have hn3 : 256 ^ q ≤ 256 ^ 3 := Nat.pow_le_pow_right (by decide) (by omega)
    have start : ∀ r, Ev (fun k => addr_quad.l1 k s (n : Int) (i : Int) (q : Int) (i : Int) ((0 : Nat) : Int) (q : Int)) r → Ev (fun k => addr_quad.l0 k s (n : Int) (i : Int) (q : Int)) r := by
      intro r h
      refine Ev.step (fun k => addr_quad.l0.eq_2 _ _ _ _ _) ?_
      simp only [if_pos (show (q : Int) < 4 by omega)]
      exact h
    have scan_ := fun r => quad_scan s hs (n : Int) (q : Int) i r l i 0 0 false hl hi rfl (by omega) (by omega)
    rw [quadV]
    cases hsc : scan 0 0 false l with
    | none =>
      exact ⟨fun v h => (by cases h), fun _ => ⟨0, by omega, start _ (scan_ _ (fun _ => rfl) (fun d' m' l' h => by rw [hsc] at h; cases h))⟩⟩
    | some x =>
      obtain ⟨d, m, l'⟩ := x
      have go : ∀ r, ((By s).drop (i + m) = l' → i + m ≤ s.size → d < 256 → Ev (fun k => addr_quad.j2 k s (n : Int) ((i + m : Nat) : Int) (q : Int) (i : Int) (d : Int) (q : Int) false) r) → Ev (fun k => addr_quad.l0 k s (n : Int) (i : Int) (q : Int)) r := by
        intro r h
        refine start _ (scan_ _ (fun e => by rw [hsc] at e; cases e) (fun d' m' l'' e h1 h2 h3 => ?_))
        rw [hsc] at e
        cases e
        exact h h1 h2 h3
      cases m with
      | zero =>
        refine ⟨fun v h => (by cases h), fun _ => ⟨0, by omega, go _ (fun h1 h2 h3 => ?_)⟩⟩
        exact quad_j2 s hs n p q i 0 d l' h1 h2 hp hn h3 _ (fun _ => rfl) (by omega) (by omega) (by omega) (by omega)
      | succ m =>
        simp only
        by_cases hp0 : p = 0
        · subst hp0
          obtain rfl : q = 3 := by omega
          simp only [if_true]
          have fin := fun h1 h2 h3 => quad_j2 s hs n 0 3 i (m + 1) d l' h1 h2 hp hn h3 _ (by omega) (fun _ _ => rfl) (by omega) (by omega) (by omega)
          by_cases hl' : l' = []
          · rw [if_pos hl']
            refine ⟨fun v h => ?_, fun h => (by cases h)⟩
            cases h
            have := go _ fin
            rwa [decide_eq_true hl'] at this
          · rw [if_neg hl']
            refine ⟨fun v h => (by cases h), fun _ => ?_⟩
            have hd : ∀ h1 : (By s).drop (i + (m + 1)) = l', True := fun _ => trivial
            by_cases hdd : d < 256
            · have := go _ fin
              rw [decide_eq_false hl'] at this
              exact ⟨n * 256 + d, by omega, this⟩
            · exact ⟨0, by omega, go _ (fun _ _ h3 => absurd h3 hdd)⟩
        · rw [if_neg hp0]
          cases l' with
          | nil =>
            refine ⟨fun v h => (by cases h), fun _ => ⟨0, by omega, go _ (fun h1 h2 h3 => ?_)⟩⟩
            exact quad_j2 s hs n p q i (m + 1) d [] h1 h2 hp hn h3 _ (by omega) (by omega) (fun _ _ _ => rfl) (fun c l _ _ e => by cases e) (fun l _ _ e => by cases e)
          | cons c l' =>
            simp only
            by_cases hc : c = 46
            · subst hc
              rw [if_pos rfl]
              obtain ⟨p, rfl⟩ : ∃ p', p = p' + 1 := ⟨p - 1, by omega⟩
              have step : ∀ r, (d < 256 → (By s).drop (i + (m + 1) + 1) = l' → i + (m + 1) + 1 ≤ s.size → Ev (fun k => addr_quad.l0 k s ((n * 256 + d : Nat) : Int) ((i + (m + 1) + 1 : Nat) : Int) ((q + 1 : Nat) : Int)) r) → Ev (fun k => addr_quad.l0 k s (n : Int) (i : Int) (q : Int)) r := by
                intro r h
                refine go _ (fun h1 h2 h3 => ?_)
                exact quad_j2 s hs n (p + 1) q i (m + 1) d (46 :: l') h1 h2 hp hn h3 _ (by omega) (by omega) (fun _ _ e => by cases e) (fun c l _ _ e hc => by cases e; exact absurd rfl hc) (fun l _ _ e h5 h6 => by cases e; exact h h3 h5 h6)
              by_cases hdd : d < 256
              · by_cases hx : (By s).drop (i + (m + 1) + 1) = l' ∧ i + (m + 1) + 1 ≤ s.size
                · have ih := IH p (by omega) (q + 1) (n * 256 + d) (i + (m + 1) + 1) l' (by omega) (by rw [Nat.pow_succ]; omega) hx.1 hx.2
                  refine ⟨fun v h => step _ (fun _ _ _ => ih.1 v h), fun h => ?_⟩
                  obtain ⟨v, hv, h⟩ := ih.2 h
                  exact ⟨v, hv, step _ (fun _ _ _ => h)⟩
                · exact ⟨fun v _ => step _ (fun _ h5 h6 => absurd ⟨h5, h6⟩ hx), fun _ => ⟨0, by omega, step _ (fun _ h5 h6 => absurd ⟨h5, h6⟩ hx)⟩⟩
              · exact ⟨fun v _ => step _ (fun h3 _ _ => absurd h3 hdd), fun _ => ⟨0, by omega, step _ (fun h3 _ _ => absurd h3 hdd)⟩⟩
            · rw [if_neg hc]
              refine ⟨fun v h => (by cases h), fun _ => ⟨0, by omega, go _ (fun h1 h2 h3 => ?_)⟩⟩
              exact quad_j2 s hs n p q i (m + 1) d (c :: l') h1 h2 hp hn h3 _ (by omega) (by omega) (fun _ _ e => by cases e) (fun _ _ _ _ _ _ => rfl) (fun l _ _ e => by cases e; exact absurd rfl hc)
theorem quad_f (s : ByteArray) (hs : s.size ≤ 2097152) : (∀ v, quadV 4 0 (By s) = some v → Ev (fun k => addr_quad.f k s) ((v : Int), true)) ∧
    (quadV 4 0 (By s) = none → ∃ v : Nat, v < 4294967296 ∧ Ev (fun k => addr_quad.f k s) ((v : Int), false)) := by
  have h := quad_l0 s hs 3 0 0 0 (By s) rfl (by decide) rfl (by omega)
  rw [show ((0 : Nat) : Int) = 0 from rfl] at h
  unfold addr_quad.f
  exact h
def isd (c : UInt8) : Prop := 48 ≤ c.toNat ∧ c.toNat ≤ 57
def dv (d : Nat) (l : List UInt8) : Nat := l.foldl (fun n c => 10 * n + (c.toNat - 48)) d
theorem dv_cons (d : Nat) (c : UInt8) (l : List UInt8) : dv d (c :: l) = dv (10 * d + (c.toNat - 48)) l := by unfold dv; rw [List.foldl_cons]
theorem dv_ge (d : Nat) (l : List UInt8) : d * 10 ^ l.length ≤ dv d l := by
  induction l generalizing d with
  | nil => simp [dv]
  | cons c l ih =>
    rw [dv_cons, List.length_cons, Nat.pow_succ]
    refine Nat.le_trans ?_ (ih _)
    rw [Nat.mul_comm (10 ^ l.length) 10, ← Nat.mul_assoc]
    exact Nat.mul_le_mul_right _ (by omega)
theorem dv_mono (d : Nat) (l : List UInt8) : d ≤ dv d l := Nat.le_trans (Nat.le_mul_of_pos_right _ (Nat.pow_pos (by decide))) (dv_ge d l)
theorem dval_dv (d : Nat) (l : List UInt8) (h : ∀ c ∈ l, isd c) : dval d l = some (dv d l) := by
  induction l generalizing d with
  | nil => rfl
  | cons c l ih =>
    have h1 := h c (List.mem_cons_self ..)
    unfold isd at h1
    rw [dval, if_pos h1, dv_cons]
    exact ih _ (fun b hb => h b (List.mem_cons_of_mem _ hb))
theorem dval_no (d : Nat) (p : List UInt8) (c : UInt8) (l : List UInt8) (hc : ¬ isd c) : dval d (p ++ c :: l) = none := by
  induction p generalizing d with
  | nil => unfold isd at hc; rw [List.nil_append, dval, if_neg hc]
  | cons b p ih =>
    rw [List.cons_append, dval]
    split
    · exact ih _
    · rfl
theorem digits (l : List UInt8) : ∃ p r, l = p ++ r ∧ (∀ c ∈ p, isd c) ∧ (r = [] ∨ ∃ c r', r = c :: r' ∧ ¬ isd c) := by
  induction l with
  | nil => exact ⟨[], [], rfl, by simp, .inl rfl⟩
  | cons c l ih =>
    by_cases hc : isd c
    · obtain ⟨p, r, rfl, h1, h2⟩ := ih
      refine ⟨c :: p, r, rfl, ?_, h2⟩
      intro b hb
      rcases List.mem_cons.1 hb with e | hb
      · rw [e]; exact hc
      · exact h1 b hb
    · exact ⟨[], c :: l, rfl, by simp, .inr ⟨c, l, rfl, hc⟩⟩
theorem scan_none (d m : Nat) (z : Bool) (r : List UInt8) (hr : r = [] ∨ ∃ c r', r = c :: r' ∧ ¬ isd c) : scan d m z r = some (d, m, r) := by
  rcases hr with rfl | ⟨c, r', rfl, hc⟩
  · rfl
  · unfold isd at hc
    rw [scan, if_neg hc]
theorem scan_eq (p r : List UInt8) (hp : ∀ c ∈ p, isd c) (hr : r = [] ∨ ∃ c r', r = c :: r' ∧ ¬ isd c) : ∀ (d m : Nat) (z : Bool) (c : UInt8) (t : List UInt8), p = c :: t →
    scan d m z (p ++ r) = if (0 < m ∧ z = true) ∨ (m = 0 ∧ c = 48 ∧ t ≠ []) ∨ 255 < dv d p then none else some (dv d p, m + p.length, r) := by
  induction p with
  | nil => intro d m z c t h; cases h
  | cons b p ih =>
    intro d m z c t h
    cases h
    have hb := hp b (List.mem_cons_self ..)
    unfold isd at hb
    rw [List.cons_append, scan, if_pos hb]
    cases p with
    | nil =>
      rw [List.nil_append, scan_none _ _ _ _ hr, dv_cons]
      have e0 : dv (10 * d + (b.toNat - 48)) [] = 10 * d + (b.toNat - 48) := by unfold dv; rw [List.foldl_nil]
      rw [e0]
      by_cases h1 : 255 < 10 * d + (b.toNat - 48)
      · rw [if_pos (.inl h1), if_pos (.inr (.inr h1))]
      · by_cases h2 : 0 < m ∧ z = true
        · rw [if_pos (.inr h2), if_pos (.inl h2)]
        · rw [if_neg (by rintro (h | h)
                         · exact h1 h
                         · exact h2 h), if_neg (by rintro (h | ⟨_, _, h⟩ | h)
                                                   · exact h2 h
                                                   · exact h rfl
                                                   · exact h1 h)]
          rfl
    | cons c2 t2 =>
      have ih' := ih (fun x hx => hp x (List.mem_cons_of_mem _ hx)) (10 * d + (b.toNat - 48)) (m + 1) (if m = 0 then decide (b = 48) else z) c2 t2 rfl
      rw [ih', dv_cons d b]
      have hm := dv_mono (10 * d + (b.toNat - 48)) (c2 :: t2)
      by_cases h2 : 0 < m ∧ z = true
      · rw [if_pos (.inr h2), if_pos (.inl h2)]
      · by_cases h3 : m = 0 ∧ b = 48
        · rw [if_pos (show (0 < m ∧ z = true) ∨ (m = 0 ∧ b = 48 ∧ c2 :: t2 ≠ []) ∨ _ from .inr (.inl ⟨h3.1, h3.2, by simp⟩))]
          split
          · rfl
          · rw [if_pos (.inl ⟨by omega, by rw [if_pos h3.1, decide_eq_true h3.2]⟩)]
        · by_cases h4 : 255 < dv (10 * d + (b.toNat - 48)) (c2 :: t2)
          · rw [if_pos (show (0 < m ∧ z = true) ∨ _ ∨ 255 < _ from .inr (.inr h4))]
            split
            · rfl
            · rw [if_pos (.inr (.inr h4))]
          · rw [if_neg (show ¬ (255 < 10 * d + (b.toNat - 48) ∨ 0 < m ∧ z = true) by
              rintro (h | h)
              · omega
              · exact h2 h)]
            rw [if_neg (show ¬ ((0 < m ∧ z = true) ∨ (m = 0 ∧ b = 48 ∧ c2 :: t2 ≠ []) ∨ 255 < dv (10 * d + (b.toNat - 48)) (c2 :: t2)) by
              rintro (h | ⟨h5, h6, _⟩ | h)
              · exact h2 h
              · exact h3 ⟨h5, h6⟩
              · exact h4 h)]
            rw [if_neg (by
              rintro (⟨_, h⟩ | ⟨h, _⟩ | h)
              · by_cases hm0 : m = 0
                · rw [if_pos hm0] at h; exact h3 ⟨hm0, of_decide_eq_true h⟩
                · rw [if_neg hm0] at h; exact h2 ⟨by omega, h⟩
              · omega
              · exact h4 h)]
            simp only [List.length_cons]
            congr 3
            omega
theorem octV_digits (c : UInt8) (t : List UInt8) (hp : ∀ x ∈ c :: t, isd x) : octV (c :: t) = if (c = 48 ∧ t ≠ []) ∨ 255 < dv 0 (c :: t) then none else some (dv 0 (c :: t)) := by
  have hc := hp c (List.mem_cons_self ..)
  unfold isd at hc
  unfold octV
  rw [dval_dv _ _ hp]
  simp only [List.length_cons, List.head?_cons, Option.some.injEq]
  by_cases h48 : c = 48 ∧ t ≠ []
  · have : 0 < t.length := List.length_pos_iff.2 h48.2
    rw [if_pos (.inr (.inr ⟨by omega, h48.1⟩)), if_pos (.inl h48)]
  · by_cases hl : 3 < t.length + 1
    · rw [if_pos (.inr (.inl hl)), if_pos]
      right
      have hne : c ≠ 48 := fun e => h48 ⟨e, fun e2 => by rw [e2] at hl; simp at hl⟩
      have hge := dv_ge (10 * 0 + (c.toNat - 48)) t
      have h10 : 10 ^ 3 ≤ 10 ^ t.length := Nat.pow_le_pow_right (by decide) (by omega)
      have h1 : 1 ≤ c.toNat - 48 := by
        have : c.toNat ≠ 48 := fun e => hne (u8_eq.2 e)
        omega
      have : 1 * 10 ^ t.length ≤ (10 * 0 + (c.toNat - 48)) * 10 ^ t.length := Nat.mul_le_mul_right _ (by omega)
      rw [dv_cons]; omega
    · rw [if_neg (by rintro (h | h | ⟨h, h'⟩)
                     · omega
                     · exact hl h
                     · exact h48 ⟨h', fun e => by rw [e] at h; simp at h⟩)]
      by_cases h : 255 < dv 0 (c :: t)
      · rw [if_pos h, if_pos (.inr h)]
      · rw [if_neg h, if_neg (by rintro (h' | h')
                                 · exact h48 h'
                                 · exact h h')]
theorem octV_no (p : List UInt8) (c : UInt8) (l : List UInt8) (hc : ¬ isd c) : octV (p ++ c :: l) = none := by
  unfold octV
  rw [dval_no _ _ _ _ hc]
  split <;> rfl
def parts : Nat → Nat → List (List UInt8) → Option Nat
  | 0, _, _ => none
  | _ + 1, _, [] => none
  | p + 1, n, a :: ps => match octV a with
    | none => none
    | some d => if p = 0 then (if ps = [] then some (n * 256 + d) else none) else parts p (n * 256 + d) ps
theorem quad_parts (p : Nat) : ∀ (n : Nat) (l : List UInt8), quadV p n l = parts p n (pieces 46 l) := by
  induction p with
  | zero => intro n l; rfl
  | succ p ih =>
    intro n l
    obtain ⟨dg, r, rfl, hd, hr⟩ := digits l
    have h46 : ∀ x ∈ dg, x ≠ 46 := fun x hx e => by
      have := hd x hx
      rw [e] at this
      exact absurd this.1 (by decide)
    have hn46 : (46 : UInt8) ∉ dg := fun h => h46 46 h rfl
    have hsc : scan 0 0 false (dg ++ r) = match dg with
        | [] => some (0, 0, r)
        | c :: t => if (c = 48 ∧ t ≠ []) ∨ 255 < dv 0 (c :: t) then none else some (dv 0 (c :: t), t.length + 1, r) := by
      cases dg with
      | nil => exact scan_none _ _ _ _ hr
      | cons c t =>
        rw [scan_eq (c :: t) r hd hr 0 0 false c t rfl]
        simp only [Nat.lt_irrefl, false_and, false_or, true_and, Nat.zero_add, List.length_cons]
    rcases hr with rfl | ⟨c, r', rfl, hc⟩
    · rw [List.append_nil] at hsc ⊢
      rw [pieces_none _ hn46, quadV, hsc, parts]
      cases dg with
      | nil => rfl
      | cons c t =>
        rw [octV_digits c t hd]
        by_cases h : (c = 48 ∧ t ≠ []) ∨ 255 < dv 0 (c :: t)
        · simp only [if_pos h]
        · simp only [if_neg h]
          by_cases hp : p = 0
          · rw [if_pos hp, if_pos hp]
          · rw [if_neg hp, if_neg hp]
            cases p with
            | zero => exact absurd rfl hp
            | succ p => rfl
    · by_cases hc46 : c = 46
      · subst hc46
        rw [pieces_one _ _ hn46, quadV, hsc, parts]
        cases dg with
        | nil => rfl
        | cons b t =>
          rw [octV_digits b t hd]
          by_cases h : (b = 48 ∧ t ≠ []) ∨ 255 < dv 0 (b :: t)
          · simp only [if_pos h]
          · simp only [if_neg h]
            by_cases hp : p = 0
            · rw [if_pos hp, if_pos hp, if_neg (by simp), if_neg (pieces_ne _ _)]
            · rw [if_neg hp, if_neg hp, ih]; simp
      · -- a first piece that holds a sign which is no digit
        have hoct : ∃ a ps, pieces 46 (dg ++ c :: r') = a :: ps ∧ octV a = none := by
          rcases first_piece 46 r' with h | ⟨q, r2, rfl, hq⟩
          · refine ⟨dg ++ c :: r', [], pieces_none _ ?_, octV_no _ _ _ hc⟩
            intro hm
            rcases List.mem_append.1 hm with h1 | h1
            · exact hn46 h1
            · rcases List.mem_cons.1 h1 with h1 | h1
              · exact hc46 h1.symm
              · exact h h1
          · refine ⟨dg ++ c :: q, pieces 46 r2, ?_, octV_no _ _ _ hc⟩
            have := pieces_one (c := 46) (dg ++ c :: q) r2 ?_
            · simpa using this
            · intro hm
              rcases List.mem_append.1 hm with h1 | h1
              · exact hn46 h1
              · rcases List.mem_cons.1 h1 with h1 | h1
                · exact hc46 h1.symm
                · exact hq h1
        obtain ⟨a, ps, hps, ha⟩ := hoct
        rw [hps, parts, ha, quadV, hsc]
        cases dg with
        | nil => rfl
        | cons b t =>
          simp only
          split
          · rfl
          · rename_i h; split at h <;> cases h
          · rename_i h
            split at h
            · cases h
            · cases h
              simp [hc46]
theorem four_parts (ps : List (List UInt8)) : four ps = parts 4 0 ps := by
  match ps with
  | [] => rfl
  | [a] => simp only [four, parts]; cases octV a <;> rfl
  | [a, b] => simp only [four, parts]; cases octV a <;> cases octV b <;> rfl
  | [a, b, c] => simp only [four, parts]; cases octV a <;> cases octV b <;> cases octV c <;> rfl
  | [a, b, c, d] => simp only [four, parts]; cases octV a <;> cases octV b <;> cases octV c <;> cases octV d <;> simp
  | a :: b :: c :: d :: e :: r => simp only [four, parts]; cases octV a <;> cases octV b <;> cases octV c <;> cases octV d <;> simp
theorem quadV_dotV (l : List UInt8) : quadV 4 0 l = dotV l := by rw [quad_parts, dotV, four_parts]
theorem or16 (n d : Nat) (hn : n < 16777216) (hd : d < 16) : Go.bits .or .u64 ((n * 16 : Nat) : Int) (d : Int) = ((16 * n + d : Nat) : Int) := by
  rw [u64_or_nat _ _ (by omega) (by omega)]
  have : n * 16 ||| d = 16 * n + d := by
    have := Nat.two_pow_add_eq_or_of_lt (i := 4) (b := d) (by omega) n
    rw [show (2 : Nat) ^ 4 = 16 from rfl] at this
    rw [Nat.mul_comm]; exact this.symm
  rw [this]
theorem pgroup_step (s : ByteArray) (i n : Nat) (c : UInt8) (hi : i < s.size) (hs : s.size ≤ 4) (hb : bt s (i : Int) = (c.toNat : Int)) (hn : n < 16 ^ i) (r : Int × Bool)
    (hno : hexd c = none → r = (0, false)) (hgo : ∀ d, hexd c = some d → Ev (fun k => addr_group.l0 k s ((16 * n + d : Nat) : Int) (s.size : Int) ((i + 1 : Nat) : Int)) r) :
    Ev (fun k => addr_group.l0 k s (n : Int) (s.size : Int) (i : Int)) r := by
  have hp : 16 ^ i ≤ 16 ^ 4 := Nat.pow_le_pow_right (by decide) (by omega)
  have h256 := u8_lt c
  have e1 : IntKind.u64.wrap ((n : Int) * 16) = ((n * 16 : Nat) : Int) := by rw [u64w (by omega) (by omega)]; omega
  refine Ev.step (fun k => addr_group.l0.eq_2 _ _ _ _ _) ?_
  simp only [if_pos (show (i : Int) < (s.size : Int) by omega), if_pos (show (0 : Int) ≤ (i : Int) by omega), hb]
  have j2f : ¬ (48 ≤ c.toNat ∧ c.toNat ≤ 57) → Ev (fun k => addr_group.j2 k s (n : Int) (c.toNat : Int) (s.size : Int) (i : Int) false) r := by
    intro h1
    refine Ev.step (fun k => addr_group.j2.eq_2 _ _ _ _ _ _ _) ?_
    simp only [Bool.false_eq_true, if_false]
    have j3f : ¬ (65 ≤ c.toNat ∧ c.toNat ≤ 70) → Ev (fun k => addr_group.j3 k s (n : Int) (c.toNat : Int) (s.size : Int) (i : Int) false) r := by
      intro h2
      refine Ev.step (fun k => addr_group.j3.eq_2 _ _ _ _ _ _ _) ?_
      simp only [Bool.false_eq_true, if_false]
      by_cases h3 : 97 ≤ c.toNat ∧ c.toNat ≤ 102
      · have hd : hexd c = some (c.toNat - 87) := by unfold hexd; rw [if_neg h1, if_pos h3]
        have e2 : (((c.toNat : Int) - 97) % 256 + 10) % 256 = ((c.toNat - 87 : Nat) : Int) := by omega
        simp only [if_pos (show (c.toNat : Int) ≥ 97 by omega), if_pos (show (c.toNat : Int) ≤ 102 by omega), e1, e2, or16 n (c.toNat - 87) (by omega) (by omega), wr1 (show i ≤ 1000000000 by omega)]
        exact hgo _ hd
      · have hd : hexd c = none := by unfold hexd; rw [if_neg h1, if_neg h3, if_neg h2]
        rw [hno hd]
        by_cases h4 : 97 ≤ c.toNat
        · simp only [if_pos (show (c.toNat : Int) ≥ 97 by omega), if_neg (show ¬ (c.toNat : Int) ≤ 102 by omega)]; exact Ev.now _
        · simp only [if_neg (show ¬ (c.toNat : Int) ≥ 97 by omega)]; exact Ev.now _
    by_cases h2 : 65 ≤ c.toNat
    · simp only [if_pos (show (c.toNat : Int) ≥ 65 by omega)]
      by_cases h3 : c.toNat ≤ 70
      · have hd : hexd c = some (c.toNat - 55) := by unfold hexd; rw [if_neg h1, if_neg (by omega), if_pos ⟨h2, h3⟩]
        have e2 : (((((c.toNat : Int) + 32) % 256 - 97) % 256) + 10) % 256 = ((c.toNat - 55 : Nat) : Int) := by omega
        simp only [decide_eq_true (show (c.toNat : Int) ≤ 70 by omega)]
        refine Ev.step (fun k => addr_group.j3.eq_2 _ _ _ _ _ _ _) ?_
        simp only [if_true, e1, e2, or16 n (c.toNat - 55) (by omega) (by omega), wr1 (show i ≤ 1000000000 by omega)]
        exact hgo _ hd
      · simp only [decide_eq_false (show ¬ (c.toNat : Int) ≤ 70 by omega)]
        exact j3f (fun h => h3 h.2)
    · simp only [if_neg (show ¬ (c.toNat : Int) ≥ 65 by omega)]
      exact j3f (fun h => h2 h.1)
  by_cases h1 : 48 ≤ c.toNat
  · simp only [if_pos (show (c.toNat : Int) ≥ 48 by omega)]
    by_cases h2 : c.toNat ≤ 57
    · have hd : hexd c = some (c.toNat - 48) := by unfold hexd; rw [if_pos ⟨h1, h2⟩]
      have e2 : ((c.toNat : Int) - 48) % 256 = ((c.toNat - 48 : Nat) : Int) := by omega
      simp only [decide_eq_true (show (c.toNat : Int) ≤ 57 by omega)]
      refine Ev.step (fun k => addr_group.j2.eq_2 _ _ _ _ _ _ _) ?_
      simp only [if_true, e1, e2, or16 n (c.toNat - 48) (by omega) (by omega), wr1 (show i ≤ 1000000000 by omega)]
      exact hgo _ hd
    · simp only [decide_eq_false (show ¬ (c.toNat : Int) ≤ 57 by omega)]
      exact j2f (fun h => h2 h.2)
  · simp only [if_neg (show ¬ (c.toNat : Int) ≥ 48 by omega)]
    exact j2f (fun h => h1 h.1)
theorem pgroup_l0 (s : ByteArray) (hs : s.size ≤ 4) : ∀ (l : List UInt8) (i n : Nat), (By s).drop i = l → i ≤ s.size → n < 16 ^ i →
    Ev (fun k => addr_group.l0 k s (n : Int) (s.size : Int) (i : Int)) (match hval n l with | some m => ((m : Int), true) | none => (0, false))
  | [], i, n, hl, hi, hn => by
    have h1 := nil_at hl
    refine Ev.step (fun k => addr_group.l0.eq_2 _ _ _ _ _) ?_
    simp only [if_neg (show ¬ (i : Int) < (s.size : Int) by omega), hval]
    exact Ev.now _
  | c :: l, i, n, hl, hi, hn => by
    obtain ⟨h1, h2, h3⟩ := cons_at hl
    refine pgroup_step s i n c h1 hs h2 hn _ (fun h => by rw [hval, h]) (fun d h => ?_)
    rw [hval, h]
    have := hexd_lt h
    exact pgroup_l0 s hs l (i + 1) _ h3 (by omega) (by rw [Nat.pow_succ]; omega)
theorem pgroup_f (s : ByteArray) : Ev (fun k => addr_group.f k s) (match grpV (By s) with | some n => ((n : Int), true) | none => (0, false)) := by
  have hz := size_by s
  unfold addr_group.f grpV
  by_cases h1 : s.size < 1
  · simp only [if_pos (show (s.size : Int) < 1 by omega), if_pos (show (By s).length < 1 ∨ 4 < (By s).length by omega)]
    refine Ev.step (fun k => addr_group.j0.eq_2 _ _ _) ?_
    exact Ev.now _
  · simp only [if_neg (show ¬ (s.size : Int) < 1 by omega)]
    refine Ev.step (fun k => addr_group.j0.eq_2 _ _ _) ?_
    by_cases h4 : 4 < s.size
    · simp only [decide_eq_true (show (s.size : Int) > 4 by omega), if_true, if_pos (show (By s).length < 1 ∨ 4 < (By s).length by omega)]
      exact Ev.now _
    · simp only [decide_eq_false (show ¬ (s.size : Int) > 4 by omega), Bool.false_eq_true, if_false, if_neg (show ¬ ((By s).length < 1 ∨ 4 < (By s).length) by omega)]
      exact pgroup_l0 s (by omega) (By s) 0 0 rfl (by omega) (by decide)
def ints (g : List Nat) : List Int := g.map fun (n : Nat) => (n : Int)
theorem ints_len (g : List Nat) : (ints g).length = g.length := by simp [ints]
theorem and16 (v : Nat) (hv : v < 4294967296) : Go.bits .and .u64 (v : Int) 65535 = ((v % 65536 : Nat) : Int) := by
  have := u64_and_nat v 65535 (by omega) (by decide)
  rw [show ((65535 : Nat) : Int) = 65535 from rfl] at this
  rw [this, show (65535 : Nat) = 2 ^ 16 - 1 from rfl, Nat.and_two_pow_sub_one_eq_mod]
theorem empty_iff (s : ByteArray) : (s.toList = []) ↔ By s = [] := by
  rw [Go.Lib.toList_data]
theorem cutf_none (s : ByteArray) (c : UInt8) (hs : s.size ≤ 2097152) (h : c ∉ By s) : strings_Cut.f s ⟨#[c]⟩ = some (s, ⟨#[]⟩, false) := by
  unfold strings_Cut.f
  rw [if_pos (by omega), show (⟨#[c]⟩ : ByteArray).data.toList = [c] from rfl, cut_none _ h]
theorem cutf_one (s : ByteArray) (c : UInt8) (p l : List UInt8) (hs : s.size ≤ 2097152) (hl : By s = p ++ c :: l) (h : c ∉ p) : strings_Cut.f s ⟨#[c]⟩ = some (OfBy p, OfBy l, true) := by
  unfold strings_Cut.f
  rw [if_pos (by omega), show (⟨#[c]⟩ : ByteArray).data.toList = [c] from rfl, show s.data.toList = By s from rfl, hl, cut_one _ _ h]
theorem contf (s : ByteArray) (c : UInt8) (hs : s.size ≤ 2097152) : strings_Contains.f s ⟨#[c]⟩ = some (decide (c ∈ By s)) := by
  unfold strings_Contains.f
  rw [if_pos (by omega), show (⟨#[c]⟩ : ByteArray).data.toList = [c] from rfl, contains_one]
def tells (acc : List Nat) (r : List Int × Bool) : Option (List Nat) → Prop
  | none => r.2 = false
  | some g => (acc.length + g.length ≤ 8 → r = (ints (acc ++ g), true)) ∧ (r.2 = true → r = (ints (acc ++ g), true))
theorem tells_more {acc : List Nat} {n : Nat} {r : List Int × Bool} {o : Option (List Nat)} (h : tells (acc ++ [n]) r o) : tells acc r (o.map fun g => n :: g) := by
  cases o with
  | none => exact h
  | some g =>
    obtain ⟨h1, h2⟩ := h
    simp only [List.append_assoc, List.singleton_append, List.length_append, List.length_cons, List.length_nil] at h1 h2
    exact ⟨fun h => h1 (by simp only [List.length_cons] at h; omega), h2⟩
def join2 : Option Nat → Option (List Nat) → Option (List Nat)
  | some n, some g => some (n :: g)
  | _, _ => none
theorem grps_cons (last : Bool) (p q : List UInt8) (ps : List (List UInt8)) : grps last (p :: q :: ps) = join2 (grpV p) (grps last (q :: ps)) := by
  rw [grps]
  cases grpV p <;> cases grps last (q :: ps) <;> rfl
theorem plist_group (s2 one : ByteArray) (p : List UInt8) (hone : By one = p) (other more : Bool) (acc : List Nat) (ha : acc.length ≤ 8) (o : Option (List Nat))
    (hgo : ∀ n, grpV p = some n → acc.length < 8 → ∃ r, Ev (fun k => addr_list.l0 k s2 other (ints (acc ++ [n])) more) r ∧ tells (acc ++ [n]) r o) (hpos : ∀ g, o = some g → True) :
    ∃ r, Ev (fun k => addr_list.j1 k s2 other (ints acc) more one false) r ∧ tells acc r (join2 (grpV p) o) := by
  have key : ∀ r, Ev (fun k => (addr_group.f k one).bind fun bt113 => (if bt113.2 = true then (if ((ints acc).length : Int) = 8 then (some (([] : List Int), false)) else (if (ints acc).length < 17592186044416 then (addr_list.l0 k s2 other (ints acc ++ [bt113.1]) more) else (none))) else (some (([] : List Int), false)))) r →
      Ev (fun k => addr_list.j1 k s2 other (ints acc) more one false) r := by
    intro r h
    refine Ev.step (fun k => addr_list.j1.eq_2 _ _ _ _ _ _ _) ?_
    simp only [Bool.false_eq_true, if_false]
    exact h
  have hg := pgroup_f one
  rw [hone] at hg
  cases h : grpV p with
  | none =>
    rw [h] at hg
    refine ⟨([], false), key _ (Ev.bind hg ?_), rfl⟩
    simp only [Bool.false_eq_true, if_false]; exact Ev.now _
  | some n =>
    rw [h] at hg
    by_cases h8 : acc.length = 8
    · refine ⟨([], false), key _ (Ev.bind hg ?_), ?_⟩
      · simp only [if_true, ints_len, if_pos (show (acc.length : Int) = 8 by omega)]; exact Ev.now _
      · cases o with
        | none => rfl
        | some g => exact ⟨fun hle => by simp only [List.length_cons] at hle; omega, fun e => by cases e⟩
    · obtain ⟨r, hr, ht⟩ := hgo n h (by omega)
      refine ⟨r, key _ (Ev.bind hg ?_), ?_⟩
      · simp only [if_true, ints_len, if_neg (show ¬ (acc.length : Int) = 8 by omega), if_pos (show acc.length < 17592186044416 by omega)]
        simp only [ints, List.map_append, List.map_cons, List.map_nil] at hr ⊢
        exact hr
      · have := tells_more ht
        cases o with
        | none => exact this
        | some g => exact this
theorem plist_l0 (other : Bool) : ∀ (n : Nat) (s : ByteArray) (acc : List Nat), s.size ≤ n → s.size ≤ 2097152 → acc.length ≤ 8 →
    ∃ r, Ev (fun k => addr_list.l0 k s other (ints acc) true) r ∧ tells acc r (grps other (pieces 58 (By s)))
  | n, s, acc, hn, hs, ha => by
    have stop : ∀ (s2 : ByteArray) (m : Nat), acc.length < 8 → ∃ r, Ev (fun k => addr_list.l0 k s2 other (ints (acc ++ [m])) false) r ∧ tells (acc ++ [m]) r (some []) := by
      intro s2 m h8
      refine ⟨(ints (acc ++ [m]), true), ?_, ⟨fun _ => by rw [List.append_nil], fun _ => by rw [List.append_nil]⟩⟩
      refine Ev.step (fun k => addr_list.l0.eq_2 _ _ _ _ _) ?_
      simp only [Bool.false_eq_true, if_false]; exact Ev.now _
    rcases first_piece 58 (By s) with h | ⟨p, l, hl, h⟩
    · -- the last piece
      have hcut := cutf_none s 58 hs h
      rw [pieces_none _ h]
      have l0 : ∀ r, Ev (fun k => if other = true then (strings_Contains.f s (⟨#[46]⟩ : ByteArray)).bind fun t104 => (addr_list.j1 k (⟨#[]⟩ : ByteArray) other (ints acc) false s t104) else (addr_list.j1 k (⟨#[]⟩ : ByteArray) other (ints acc) false s false)) r →
          Ev (fun k => addr_list.l0 k s other (ints acc) true) r := by
        intro r hr
        refine Ev.step (fun k => addr_list.l0.eq_2 _ _ _ _ _) ?_
        simp only [if_true, hcut, Option.bind_some, Bool.false_eq_true, if_false]
        exact hr
      have plain : ∃ r, Ev (fun k => addr_list.j1 k (⟨#[]⟩ : ByteArray) other (ints acc) false s false) r ∧ tells acc r ((grpV (By s)).map fun n => [n]) := by
        obtain ⟨r, h1, h2⟩ := plist_group (⟨#[]⟩ : ByteArray) s (By s) rfl other false acc ha (some []) (fun m _ h8 => stop _ m h8) (fun _ _ => trivial)
        refine ⟨r, h1, ?_⟩
        cases hg : grpV (By s) with
        | none => rw [hg] at h2; exact h2
        | some m => rw [hg] at h2; exact h2
      cases other with
      | false =>
        obtain ⟨r, h1, h2⟩ := plain
        refine ⟨r, l0 r (by simp only [Bool.false_eq_true, if_false]; exact h1), ?_⟩
        rw [grps]; exact h2
      | true =>
        have hcont := contf s 46 hs
        by_cases h46 : (46 : UInt8) ∈ By s
        · rw [decide_eq_true h46] at hcont
          have hq := quad_f s hs
          rw [quadV_dotV] at hq
          have j1 : ∀ (v : Nat) (b : Bool), v < 4294967296 → Ev (fun k => addr_quad.f k s) ((v : Int), b) → Ev (fun k => addr_list.l0 k s true (ints acc) true) (ints (acc ++ [v / 65536, v % 65536]), b) := by
            intro v b hv hq
            refine l0 _ ?_
            simp only [if_true, hcont, Option.bind_some]
            refine Ev.step (fun k => addr_list.j1.eq_2 _ _ _ _ _ _ _) ?_
            simp only [if_true]
            refine Ev.bind hq ?_
            simp only [Option.bind_some, and16 v hv, List.length_cons, List.length_nil, if_pos (show (ints acc).length + (0 + 1 + 1) < 17592186044416 by rw [ints_len]; omega)]
            simp only [ints, List.map_append, List.map_cons, List.map_nil]
            rw [show ((v / 65536 : Nat) : Int) = (v : Int) / 65536 by omega]
            exact Ev.now _
          cases hd : dotV (By s) with
          | some v =>
            refine ⟨_, j1 v true (dotV_lt hd) (hq.1 v hd), ?_⟩
            simp only [grps, hd, if_true]
            exact ⟨fun _ => rfl, fun _ => rfl⟩
          | none =>
            obtain ⟨v, hv, hq⟩ := hq.2 hd
            refine ⟨_, j1 v false hv hq, ?_⟩
            simp only [grps, hd, if_true, grpV_dot h46, Option.map_none]
            rfl
        · rw [decide_eq_false h46] at hcont
          obtain ⟨r, h1, h2⟩ := plain
          refine ⟨r, l0 r (by simp only [if_true, hcont, Option.bind_some]; exact h1), ?_⟩
          simp only [grps, dotV_nodot h46, if_true]
          exact h2
    · have hcut := cutf_one s 58 p l hs hl h
      have hsz : s.size = p.length + (l.length + 1) := by rw [size_by, hl]; simp
      have hszl : (OfBy l).size = l.length := by rw [size_by, by_ofBy]
      rw [hl, pieces_one p l h]
      have l0 : ∀ r, Ev (fun k => addr_list.j1 k (OfBy l) other (ints acc) true (OfBy p) false) r → Ev (fun k => addr_list.l0 k s other (ints acc) true) r := by
        intro r hr
        refine Ev.step (fun k => addr_list.l0.eq_2 _ _ _ _ _) ?_
        simp only [if_true, hcut, Option.bind_some, ite_self]
        exact hr
      obtain ⟨q, qs, hqs⟩ : ∃ q qs, pieces 58 l = q :: qs := by
        cases hx : pieces 58 l with
        | nil => exact absurd hx (pieces_ne _ _)
        | cons q qs => exact ⟨q, qs, rfl⟩
      match n, hn with
      | 0, hn => omega
      | n + 1, hn =>
        obtain ⟨r, h1, h2⟩ := plist_group (OfBy l) (OfBy p) p (by_ofBy p) other true acc ha (grps other (pieces 58 l)) (fun m _ h8 => by
          have := plist_l0 other n (OfBy l) (acc ++ [m]) (by omega) (by omega) (by simp; omega)
          rwa [by_ofBy] at this) (fun _ _ => trivial)
        refine ⟨r, l0 r h1, ?_⟩
        rw [hqs] at h2 ⊢
        rw [grps_cons]
        exact h2
theorem plist_f (s : ByteArray) (hs : s.size ≤ 2097152) (other : Bool) : ∃ r, Ev (fun k => addr_list.f k s other) r ∧ tells [] r (lstV other (By s)) := by
  unfold addr_list.f lstV
  by_cases h : By s = []
  · have e : (s.toList != ([] : List UInt8)) = false := by rw [(empty_iff s).2 h]; rfl
    rw [if_pos h]
    refine ⟨([], true), ?_, ⟨fun _ => rfl, fun _ => rfl⟩⟩
    simp only [e]
    refine Ev.step (fun k => addr_list.l0.eq_2 _ _ _ _ _) ?_
    simp only [Bool.false_eq_true, if_false]; exact Ev.now _
  · have e : (s.toList != ([] : List UInt8)) = true := by
      rw [bne_iff_ne]; exact fun e => h ((empty_iff s).1 e)
    rw [if_neg h]
    simp only [e]
    exact plist_l0 other s.size s [] (Nat.le_refl _) hs (by simp)
def PP : Nat → List Nat → Nat
  | _, [] => 0
  | i, n :: g => n * 2 ^ (112 - 16 * i) + PP (i + 1) g
theorem two112 (i : Nat) (h : i < 8) : 2 ^ (128 - 16 * i) = 65536 * 2 ^ (112 - 16 * i) := by
  rw [show 128 - 16 * i = 16 + (112 - 16 * i) by omega, Nat.pow_add]
theorem PP_lt (g : List Nat) (hg : ∀ n ∈ g, n < 65536) : ∀ i, i + g.length ≤ 8 → PP i g < 2 ^ (128 - 16 * i) := by
  induction g with
  | nil => intro i _; exact Nat.pow_pos (by decide)
  | cons n g ih =>
    intro i hi
    simp only [List.length_cons] at hi
    have h1 := ih (fun m hm => hg m (List.mem_cons_of_mem _ hm)) (i + 1) (by omega)
    have hn := hg n (List.mem_cons_self ..)
    rw [two112 i (by omega)]
    rw [show 128 - 16 * (i + 1) = 112 - 16 * i by omega] at h1
    rw [PP]
    have : (n + 1) * 2 ^ (112 - 16 * i) ≤ 65536 * 2 ^ (112 - 16 * i) := Nat.mul_le_mul_right _ (by omega)
    rw [Nat.succ_mul] at this
    omega
theorem PP_append (a b : List Nat) : ∀ i, PP i (a ++ b) = PP i a + PP (i + a.length) b := by
  induction a with
  | nil => intro i; simp [PP]
  | cons n a ih => intro i; simp only [List.cons_append, PP, ih, List.length_cons]; rw [show i + 1 + a.length = i + (a.length + 1) by omega]; omega
theorem PP_zeros (z : Nat) (b : List Nat) : ∀ i, PP i (List.replicate z 0 ++ b) = PP (i + z) b := by
  induction z with
  | zero => intro i; rfl
  | succ z ih => intro i; simp only [List.replicate_succ, List.cons_append, PP, ih, Nat.zero_mul, Nat.zero_add]; rw [show i + 1 + z = i + (z + 1) by omega]
theorem PP_mul (a : List Nat) : ∀ i, i + a.length ≤ 8 → ∃ q, PP i a = 2 ^ (128 - 16 * (i + a.length)) * q := by
  induction a with
  | nil => intro i _; exact ⟨0, rfl⟩
  | cons n a ih =>
    intro i hi
    simp only [List.length_cons] at hi ⊢
    obtain ⟨q, hq⟩ := ih (i + 1) (by omega)
    rw [PP, hq, show i + 1 + a.length = i + (a.length + 1) by omega]
    refine ⟨n * 2 ^ (112 - 16 * i - (128 - 16 * (i + (a.length + 1)))) + q, ?_⟩
    have hp : 2 ^ (112 - 16 * i) = 2 ^ (112 - 16 * i - (128 - 16 * (i + (a.length + 1)))) * 2 ^ (128 - 16 * (i + (a.length + 1))) := by
      rw [← Nat.pow_add]; congr 1; omega
    rw [hp]
    generalize 2 ^ (112 - 16 * i - (128 - 16 * (i + (a.length + 1)))) = B
    generalize 2 ^ (128 - 16 * (i + (a.length + 1))) = A
    rw [Nat.mul_add, Nat.mul_comm A (n * B), Nat.mul_assoc]
theorem or_add {e q b : Nat} (h : b < 2 ^ e) : (2 ^ e * q) ||| b = 2 ^ e * q + b := (Nat.two_pow_add_eq_or_of_lt h q).symm
theorem PP_lt128 (g : List Nat) (hg : ∀ n ∈ g, n < 65536) (i : Nat) (hi : i + g.length ≤ 8) : PP i g < 2 ^ 128 :=
  Nat.lt_of_lt_of_le (PP_lt g hg i hi) (Nat.pow_le_pow_right (by decide) (by omega))
theorem pshl (v n : Nat) (hv : v < 2 ^ 128) (hn : n ≤ 127) : word_Shl.f (hi v) (lo v) (n : Int) = some (hi (sl v n), lo (sl v n)) := by
  unfold word_Shl.f
  by_cases h0 : n = 0
  · subst h0; rw [if_pos (by decide), sl_zero v hv]
  · rw [if_neg (by omega)]
    by_cases h64 : n < 64
    · have e : wrap64 (64 - (n : Int)) = ((64 - n : Nat) : Int) := by rw [w64 (by omega) (by omega)]; omega
      rw [if_pos (by omega), if_pos (by omega), e, if_pos (by omega), shl_hi v n (by omega) h64, shl_lo v n h64]
    · have e : wrap64 ((n : Int) - 64) = ((n - 64 : Nat) : Int) := by rw [w64 (by omega) (by omega)]; omega
      obtain ⟨h1, h2⟩ := shl_far v n (by omega) (by omega)
      rw [if_neg (by omega), if_pos (by omega), e, if_pos (by omega), h1, h2]
theorem por (u v : Nat) (hu : u < 2 ^ 128) (hv : v < 2 ^ 128) : word_Or.f (hi u) (lo u) (hi v) (lo v) = some (hi (u ||| v), lo (u ||| v)) := by
  unfold word_Or.f
  rw [or_hi u v hu hv, or_lo]
theorem hi0 {n : Nat} (h : n < 65536) : hi n = 0 := by
  unfold hi; rw [Nat.div_eq_of_lt (by rw [p64]; omega)]; rfl
theorem lo0 {n : Nat} (h : n < 65536) : lo n = (n : Int) := by
  unfold lo; rw [Nat.mod_eq_of_lt (by rw [p64]; omega)]
theorem rd_ints (g : List Nat) (i n : Nat) (r : List Nat) (h : g.drop i = n :: r) : i < g.length ∧ rd (ints g) (i : Int) = (n : Int) ∧ g.drop (i + 1) = r := by
  have hlt : i < g.length := by
    have := congrArg List.length h
    simp only [List.length_drop, List.length_cons] at this
    omega
  rw [List.drop_eq_getElem_cons hlt] at h
  refine ⟨hlt, ?_, (List.cons.inj h).2⟩
  unfold rd ints
  rw [Int.toNat_natCast, List.getD_eq_getElem?_getD, List.getElem?_map, List.getElem?_eq_getElem hlt]
  simp [(List.cons.inj h).1]
theorem laid_l0 (g : List Nat) (fr : Nat) (hf : fr + g.length ≤ 8) (hg : ∀ n ∈ g, n < 65536) : ∀ (r : List Nat) (i w : Nat), g.drop i = r → i ≤ g.length → (∃ q, w = 2 ^ (128 - 16 * (fr + i)) * q) → w + PP (fr + i) r < 2 ^ 128 →
    Ev (fun k => addr_laid.l0 k (fr : Int) (ints g) (g.length : Int) (i : Int) (hi w) (lo w)) (hi (w + PP (fr + i) r), lo (w + PP (fr + i) r))
  | [], i, w, hr, hi', hq, hlt => by
    have : g.length ≤ i := by
      have := congrArg List.length hr
      simp only [List.length_drop, List.length_nil] at this; omega
    refine Ev.step (fun k => addr_laid.l0.eq_2 _ _ _ _ _ _ _) ?_
    simp only [if_neg (show ¬ (i : Int) < (g.length : Int) by omega), PP, Nat.add_zero]
    exact Ev.now _
  | n :: r, i, w, hr, hi', hq, hlt => by
    obtain ⟨h1, h2, h3⟩ := rd_ints g i n r hr
    have hn : n < 65536 := hg n (by
      have : n ∈ g.drop i := by rw [hr]; exact List.mem_cons_self ..
      exact List.mem_of_mem_drop this)
    have e1 : wrap64 ((fr : Int) + (i : Int)) = ((fr + i : Nat) : Int) := by rw [w64 (by omega) (by omega)]; omega
    have e2 : wrap64 (16 * ((fr + i : Nat) : Int)) = ((16 * (fr + i) : Nat) : Int) := by rw [w64 (by omega) (by omega)]; omega
    have e3 : wrap64 (112 - ((16 * (fr + i) : Nat) : Int)) = ((112 - 16 * (fr + i) : Nat) : Int) := by rw [w64 (by omega) (by omega)]; omega
    have hA := two112 (fr + i) (by omega)
    have hterm : n * 2 ^ (112 - 16 * (fr + i)) < 2 ^ (128 - 16 * (fr + i)) := by
      rw [hA]; exact Nat.mul_lt_mul_of_pos_right hn (Nat.pow_pos (by decide))
    have h128 : n * 2 ^ (112 - 16 * (fr + i)) < 2 ^ 128 := Nat.lt_of_lt_of_le hterm (Nat.pow_le_pow_right (by decide) (by omega))
    have hsl : sl n (112 - 16 * (fr + i)) = n * 2 ^ (112 - 16 * (fr + i)) := by unfold sl; exact Nat.mod_eq_of_lt h128
    have hshl := pshl n (112 - 16 * (fr + i)) (Nat.lt_of_lt_of_le hn (by decide)) (by omega)
    rw [hi0 hn, lo0 hn, hsl] at hshl
    have hw : w < 2 ^ 128 := by omega
    have hor := por w (n * 2 ^ (112 - 16 * (fr + i))) hw h128
    obtain ⟨q, hq⟩ := hq
    have hadd : w ||| n * 2 ^ (112 - 16 * (fr + i)) = w + n * 2 ^ (112 - 16 * (fr + i)) := by rw [hq]; exact or_add hterm
    rw [hadd] at hor
    refine Ev.step (fun k => addr_laid.l0.eq_2 _ _ _ _ _ _ _) ?_
    simp only [if_pos (show (i : Int) < (g.length : Int) by omega), if_pos (show (0 : Int) ≤ (i : Int) by omega), ints_len, h2, e1, e2, e3, hshl, hor, Option.bind_some, wr1 (show i ≤ 1000000000 by omega)]
    have hlt' : w + n * 2 ^ (112 - 16 * (fr + i)) + PP (fr + (i + 1)) r < 2 ^ 128 := by
      rw [PP] at hlt
      rw [show fr + (i + 1) = fr + i + 1 by omega]; omega
    have := laid_l0 g fr hf hg r (i + 1) (w + n * 2 ^ (112 - 16 * (fr + i))) h3 (by omega) ⟨65536 * q + n, by
      rw [hq, hA, show 128 - 16 * (fr + (i + 1)) = 112 - 16 * (fr + i) by omega]
      generalize 2 ^ (112 - 16 * (fr + i)) = A
      rw [Nat.mul_add, Nat.mul_comm 65536 A, Nat.mul_assoc, Nat.mul_comm n A]⟩ hlt'
    rw [PP, ← Nat.add_assoc]
    exact this
theorem laid_f (g : List Nat) (fr : Nat) (hf : fr + g.length ≤ 8) (hg : ∀ n ∈ g, n < 65536) : Ev (fun k => addr_laid.f k (ints g) (fr : Int)) (hi (PP fr g), lo (PP fr g)) := by
  have := laid_l0 g fr hf hg g 0 0 rfl (by omega) ⟨0, rfl⟩ (by rw [Nat.zero_add]; exact PP_lt128 g hg fr hf)
  rw [Nat.zero_add, Nat.add_zero] at this
  unfold addr_laid.f
  rw [show hi 0 = 0 from rfl, show lo 0 = 0 from rfl, show ((0 : Nat) : Int) = 0 from rfl] at this
  simp only [ints_len]
  exact this
theorem grps_count {last : Bool} {ps : List (List UInt8)} {g : List Nat} (h : grps last ps = some g) : g.length ≤ ps.length + 1 := by
  induction ps generalizing g with
  | nil => cases h; simp
  | cons p ps ih =>
    cases ps with
    | nil =>
      rw [grps] at h
      split at h
      · cases h; simp
      · obtain ⟨n, hn, rfl⟩ := Option.map_eq_some_iff.1 h
        simp
    | cons q ps =>
      rw [grps] at h
      split at h
      · rename_i n r hn hr
        cases h
        have := ih hr
        simp only [List.length_cons] at *; omega
      · cases h
theorem lstV_count {last : Bool} {l : List UInt8} {g : List Nat} (h : lstV last l = some g) : g.length ≤ l.length + 2 := by
  unfold lstV at h
  split at h
  · cases h; simp
  · have := grps_count h
    have := pieces_len 58 l
    omega
def six_is (l : List UInt8) (r : Int × Int × Int) : Prop := match sixV l with
  | some g => r = (hi (PP 0 g), lo (PP 0 g), 0)
  | none => r = (0, 0, 12)
theorem cut_gap_f (s : ByteArray) (hs : s.size ≤ 2097152) : strings_Cut.f s ⟨#[58, 58]⟩ = match gapV (By s) with | some (p, q) => some (OfBy p, OfBy q, true) | none => some (s, ⟨#[]⟩, false) := by
  unfold strings_Cut.f
  rw [if_pos (by omega), show (⟨#[58, 58]⟩ : ByteArray).data.toList = [58, 58] from rfl, cut_gap]
  cases h : gapV (By s) with
  | none => rfl
  | some x => rfl
theorem gap_size {s : ByteArray} {p q : List UInt8} (h : gapV (By s) = some (p, q)) : s.size = p.length + (q.length + 2) := by
  rw [size_by, gap_eq h]; simp
theorem psix_f (s : ByteArray) (hs : s.size ≤ 2097152) : ∃ r, Ev (fun k => addr_six.f k s) r ∧ six_is (By s) r := by
  have hcut := cut_gap_f s hs
  unfold addr_six.f
  cases hg : gapV (By s) with
  | none =>
    rw [hg] at hcut
    obtain ⟨r, h1, h2⟩ := plist_f s hs true
    simp only [hcut, Option.bind_some, Bool.false_eq_true, if_false]
    unfold six_is sixV
    rw [hg]
    cases hl : lstV true (By s) with
    | none =>
      rw [hl] at h2
      refine ⟨(0, 0, 12), Ev.bind h1 ?_, by simp⟩
      simp only [if_neg (show ¬ r.2 = true by rw [show r.2 = false from h2]; decide)]; exact Ev.now _
    | some g =>
      rw [hl] at h2
      obtain ⟨h3, h4⟩ := h2
      simp only [List.nil_append, List.length_nil, Nat.zero_add] at h3 h4
      by_cases h8 : g.length = 8
      · have e := h3 (by omega)
        refine ⟨(hi (PP 0 g), lo (PP 0 g), 0), Ev.bind h1 ?_, by simp [h8]⟩
        rw [e]
        simp only [if_true, ints_len, if_pos (show (g.length : Int) = 8 by omega)]
        refine Ev.bind (a := (hi (PP 0 g), lo (PP 0 g))) (laid_f g 0 (by omega) (lstV_lt hl)) ?_
        exact Ev.now _
      · refine ⟨(0, 0, 12), Ev.bind h1 ?_, by simp [h8]⟩
        by_cases hr : r.2 = true
        · rw [h4 hr]
          simp only [if_true, ints_len, if_neg (show ¬ (g.length : Int) = 8 by omega)]; exact Ev.now _
        · simp only [if_neg hr]; exact Ev.now _
  | some x =>
    obtain ⟨p, q⟩ := x
    rw [hg] at hcut
    have hsz := gap_size hg
    have sp : (OfBy p).size = p.length := by rw [size_by, by_ofBy]
    have sq : (OfBy q).size = q.length := by rw [size_by, by_ofBy]
    obtain ⟨r, h1, h2⟩ := plist_f (OfBy p) (by omega) false
    obtain ⟨u, h3, h4⟩ := plist_f (OfBy q) (by omega) true
    rw [by_ofBy] at h2 h4
    simp only [hcut, Option.bind_some, if_true]
    unfold six_is sixV
    rw [hg]
    have bad : ∀ (a b : List Int), Ev (fun k => addr_six.j0 k a b true) (0, 0, 12) := by
      intro a b
      refine Ev.step (fun k => addr_six.j0.eq_2 _ _ _ _) ?_
      simp only [if_true]; exact Ev.now _
    simp only
    cases hp : lstV false p with
    | none =>
      rw [hp] at h2
      refine ⟨(0, 0, 12), Ev.bind h1 (Ev.bind h3 ?_), by simp⟩
      simp only [if_neg (show ¬ r.2 = true by rw [show r.2 = false from h2]; decide)]; exact bad _ _
    | some a =>
      rw [hp] at h2
      obtain ⟨h5, h6⟩ := h2
      simp only [List.nil_append, List.length_nil, Nat.zero_add] at h5 h6
      cases hq : lstV true q with
      | none =>
        rw [hq] at h4
        refine ⟨(0, 0, 12), Ev.bind h1 (Ev.bind h3 ?_), by simp⟩
        simp only [if_neg (show ¬ u.2 = true by rw [show u.2 = false from h4]; decide), ite_self]; exact bad _ _
      | some b =>
        rw [hq] at h4
        obtain ⟨h7, h8⟩ := h4
        simp only [List.nil_append, List.length_nil, Nat.zero_add] at h7 h8
        by_cases hlen : 7 < a.length + b.length
        · refine ⟨(0, 0, 12), Ev.bind h1 (Ev.bind h3 ?_), by simp [hlen]⟩
          by_cases hr : r.2 = true
          · by_cases hu : u.2 = true
            · have la := lstV_count hp
              have lb := lstV_count hq
              have e1 : wrap64 ((a.length : Int) + (b.length : Int)) = ((a.length + b.length : Nat) : Int) := by rw [w64 (by omega) (by omega)]; omega
              rw [h6 hr, h8 hu]
              simp only [if_true, ints_len, e1, decide_eq_true (show ((a.length + b.length : Nat) : Int) > 7 by omega)]; exact bad _ _
            · simp only [if_pos hr, if_neg hu]; exact bad _ _
          · simp only [if_neg hr]; exact bad _ _
        · have er := h5 (by omega)
          have eu := h7 (by omega)
          refine ⟨(hi (PP 0 (a ++ List.replicate (8 - (a.length + b.length)) 0 ++ b)), lo (PP 0 (a ++ List.replicate (8 - (a.length + b.length)) 0 ++ b)), 0), Ev.bind h1 (Ev.bind h3 ?_), by simp [hlen]⟩
          rw [er, eu]
          have e1 : wrap64 ((a.length : Int) + (b.length : Int)) = ((a.length + b.length : Nat) : Int) := by rw [w64 (by omega) (by omega)]; omega
          have e2 : wrap64 (8 - (b.length : Int)) = ((8 - b.length : Nat) : Int) := by rw [w64 (by omega) (by omega)]; omega
          simp only [if_true, ints_len, e1, decide_eq_false (show ¬ ((a.length + b.length : Nat) : Int) > 7 by omega), if_neg hlen]
          refine Ev.step (fun k => addr_six.j0.eq_2 _ _ _ _) ?_
          simp only [Bool.false_eq_true, if_false, ints_len, e2]
          have ha := PP_lt128 a (lstV_lt hp) 0 (by omega)
          have hb := PP_lt128 b (lstV_lt hq) (8 - b.length) (by omega)
          refine Ev.bind (a := (hi (PP 0 a), lo (PP 0 a))) (laid_f a 0 (by omega) (lstV_lt hp)) (Ev.bind (laid_f b (8 - b.length) (by omega) (lstV_lt hq)) ?_)
          obtain ⟨c, hc⟩ := PP_mul a 0 (by omega)
          have hlt : PP (8 - b.length) b < 2 ^ (128 - 16 * (0 + a.length)) :=
            Nat.lt_of_lt_of_le (PP_lt b (lstV_lt hq) (8 - b.length) (by omega)) (Nat.pow_le_pow_right (by decide) (by omega))
          have hsum : PP 0 a ||| PP (8 - b.length) b = PP 0 (a ++ List.replicate (8 - (a.length + b.length)) 0 ++ b) := by
            rw [List.append_assoc, PP_append, PP_zeros, Nat.zero_add, show a.length + (8 - (a.length + b.length)) = 8 - b.length by omega, hc]
            exact or_add hlt
          simp only [por _ _ ha hb, Option.bind_some, hsum]
          exact Ev.now _
def readV (family : Int) (l : List UInt8) : Int × Int × Int :=
  if family = 32 then (match dotV l with | some n => (((n * 4294967296 : Nat) : Int), 0, 0) | none => (0, 0, 12)) else
  if family = 128 then (match sixV l with | some g => (hi (PP 0 g), lo (PP 0 g), 0) | none => (0, 0, 12)) else (0, 0, 11)
theorem six_is_iff {l : List UInt8} {r : Int × Int × Int} (h : six_is l r) : r = match sixV l with | some g => (hi (PP 0 g), lo (PP 0 g), 0) | none => (0, 0, 12) := by
  unfold six_is at h
  cases hl : sixV l with
  | none => rw [hl] at h; exact h
  | some g => rw [hl] at h; exact h
theorem pparse (family : Int) (s : ByteArray) (hs : s.size ≤ 2097152) : Ev (fun k => addr_Parse.f k family s) (readV family (By s)) := by
  unfold addr_Parse.f readV
  by_cases h32 : family = 32
  · simp only [if_pos h32]
    have hq := quad_f s hs
    rw [quadV_dotV] at hq
    cases hd : dotV (By s) with
    | some n =>
      have hn := dotV_lt hd
      have e : IntKind.u64.wrap ((n : Int) * 4294967296) = ((n * 4294967296 : Nat) : Int) := by rw [u64w (by omega) (by omega)]; omega
      refine Ev.bind (hq.1 n hd) ?_
      simp only [if_true, e]; exact Ev.now _
    | none =>
      obtain ⟨v, _, h⟩ := hq.2 hd
      refine Ev.bind h ?_
      simp only [Bool.false_eq_true, if_false]; exact Ev.now _
  · simp only [if_neg h32]
    by_cases h128 : family = 128
    · simp only [if_pos h128]
      obtain ⟨r, h1, h2⟩ := psix_f s hs
      rw [← six_is_iff h2]
      exact Ev.bind h1 (Ev.now _)
    · simp only [if_neg h128]; exact Ev.now _
end Go.Proofs.YtdjhmapmhajkcaaDoor.Th
