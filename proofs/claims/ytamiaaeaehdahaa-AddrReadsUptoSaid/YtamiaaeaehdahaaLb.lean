/- What the address readers compute, further: groups, lists of groups, whole addresses. -/
import Derived.Test.YtamiaaeaehdahaaLa
import Derived.Test.YtamiaaeaehdahaaTw
import Derived.Test.YtamiaaeaehdahaaX5
import Derived.Test.YtamiaaeaehdahaaX8
import Derived.Test.YtamiaaeaehdahaaX9
import Derived.Test.YtamiaaeaehdahaaX10
namespace Go.Proofs.Ytamiaaeaehdahaa.Th
open Go.RowKit Go.Proofs.Ytamiaaeaehdahaa.X Go.Proofs.YtamiaaeaehdahaaW.PrintWords Go.Proofs.YtamiaaeaehdahaaW.PrintLast Go.Proofs.YtamiaaeaehdahaaW.PrintMore
set_option linter.unusedVariables false
set_option linter.unusedSimpArgs false

/-! ### groups: the document's reader -/
theorem rgroup_step (s : ByteArray) (i n : Nat) (c : UInt8) (hi : i < s.size) (hs : s.size ≤ 4) (hb : bt s (i : Int) = (c.toNat : Int)) (hn : n < 16 ^ i) (r : Int)
    (hno : hexd c = none → r = -1) (hgo : ∀ d, hexd c = some d → Ev (fun k => turnpikeref2_group.l0 k s ((16 * n + d : Nat) : Int) ((i + 1 : Nat) : Int)) r) :
    Ev (fun k => turnpikeref2_group.l0 k s (n : Int) (i : Int)) r := by
  have hp : 16 ^ i ≤ 16 ^ 4 := Nat.pow_le_pow_right (by decide) (by omega)
  have h256 := u8_lt c
  have e1 : wrap64 (16 * (n : Int)) = ((16 * n : Nat) : Int) := by rw [w64 (by omega) (by omega)]; omega
  refine Ev.step (fun k => turnpikeref2_group.l0.eq_2 _ _ _ _) ?_
  simp only [if_pos (show (i : Int) < (s.size : Int) by omega), if_pos (show (0 : Int) ≤ (i : Int) by omega), hb]
  have j2f : ¬ (48 ≤ c.toNat ∧ c.toNat ≤ 57) → Ev (fun k => turnpikeref2_group.j2 k s (n : Int) (i : Int) (c.toNat : Int) false) r := by
    intro h1
    refine Ev.step (fun k => turnpikeref2_group.j2.eq_2 _ _ _ _ _ _) ?_
    simp only [Bool.false_eq_true, if_false]
    have j3f : ¬ (97 ≤ c.toNat ∧ c.toNat ≤ 102) → Ev (fun k => turnpikeref2_group.j3 k s (n : Int) (i : Int) (c.toNat : Int) false) r := by
      intro h2
      refine Ev.step (fun k => turnpikeref2_group.j3.eq_2 _ _ _ _ _ _) ?_
      simp only [Bool.false_eq_true, if_false]
      by_cases h3 : 65 ≤ c.toNat ∧ c.toNat ≤ 70
      · have hd : hexd c = some (c.toNat - 55) := by unfold hexd; rw [if_neg h1, if_neg h2, if_pos h3]
        have e2 : ((c.toNat : Int) - 65) % 256 = ((c.toNat - 65 : Nat) : Int) := by omega
        have e3 : wrap64 (((16 * n : Nat) : Int) + ((c.toNat - 65 : Nat) : Int)) = ((16 * n + (c.toNat - 65) : Nat) : Int) := by rw [w64 (by omega) (by omega)]; omega
        have e4 : wrap64 (((16 * n + (c.toNat - 65) : Nat) : Int) + 10) = ((16 * n + (c.toNat - 55) : Nat) : Int) := by rw [w64 (by omega) (by omega)]; omega
        simp only [if_pos (show (c.toNat : Int) ≥ 65 by omega), if_pos (show (c.toNat : Int) ≤ 70 by omega), e1, e2, e3, e4, wr1 (show i ≤ 1000000000 by omega)]
        exact hgo _ hd
      · have hd : hexd c = none := by unfold hexd; rw [if_neg h1, if_neg h2, if_neg h3]
        rw [hno hd]
        by_cases h4 : 65 ≤ c.toNat
        · simp only [if_pos (show (c.toNat : Int) ≥ 65 by omega), if_neg (show ¬ (c.toNat : Int) ≤ 70 by omega)]; exact Ev.now _
        · simp only [if_neg (show ¬ (c.toNat : Int) ≥ 65 by omega)]; exact Ev.now _
    by_cases h2 : 97 ≤ c.toNat
    · simp only [if_pos (show (c.toNat : Int) ≥ 97 by omega)]
      by_cases h3 : c.toNat ≤ 102
      · have hd : hexd c = some (c.toNat - 87) := by unfold hexd; rw [if_neg h1, if_pos ⟨h2, h3⟩]
        have e2 : ((c.toNat : Int) - 97) % 256 = ((c.toNat - 97 : Nat) : Int) := by omega
        have e3 : wrap64 (((16 * n : Nat) : Int) + ((c.toNat - 97 : Nat) : Int)) = ((16 * n + (c.toNat - 97) : Nat) : Int) := by rw [w64 (by omega) (by omega)]; omega
        have e4 : wrap64 (((16 * n + (c.toNat - 97) : Nat) : Int) + 10) = ((16 * n + (c.toNat - 87) : Nat) : Int) := by rw [w64 (by omega) (by omega)]; omega
        simp only [decide_eq_true (show (c.toNat : Int) ≤ 102 by omega)]
        refine Ev.step (fun k => turnpikeref2_group.j3.eq_2 _ _ _ _ _ _) ?_
        simp only [if_true, e1, e2, e3, e4, wr1 (show i ≤ 1000000000 by omega)]
        exact hgo _ hd
      · simp only [decide_eq_false (show ¬ (c.toNat : Int) ≤ 102 by omega)]
        exact j3f (fun h => h3 h.2)
    · simp only [if_neg (show ¬ (c.toNat : Int) ≥ 97 by omega)]
      exact j3f (fun h => h2 h.1)
  by_cases h1 : 48 ≤ c.toNat
  · simp only [if_pos (show (c.toNat : Int) ≥ 48 by omega)]
    by_cases h2 : c.toNat ≤ 57
    · have hd : hexd c = some (c.toNat - 48) := by unfold hexd; rw [if_pos ⟨h1, h2⟩]
      have e2 : ((c.toNat : Int) - 48) % 256 = ((c.toNat - 48 : Nat) : Int) := by omega
      have e3 : wrap64 (((16 * n : Nat) : Int) + ((c.toNat - 48 : Nat) : Int)) = ((16 * n + (c.toNat - 48) : Nat) : Int) := by rw [w64 (by omega) (by omega)]; omega
      simp only [decide_eq_true (show (c.toNat : Int) ≤ 57 by omega)]
      refine Ev.step (fun k => turnpikeref2_group.j2.eq_2 _ _ _ _ _ _) ?_
      simp only [if_true, e1, e2, e3, wr1 (show i ≤ 1000000000 by omega)]
      exact hgo _ hd
    · simp only [decide_eq_false (show ¬ (c.toNat : Int) ≤ 57 by omega)]
      exact j2f (fun h => h2 h.2)
  · simp only [if_neg (show ¬ (c.toNat : Int) ≥ 48 by omega)]
    exact j2f (fun h => h1 h.1)
theorem rgroup_l0 (s : ByteArray) (hs : s.size ≤ 4) : ∀ (l : List UInt8) (i n : Nat), (By s).drop i = l → i ≤ s.size → n < 16 ^ i →
    Ev (fun k => turnpikeref2_group.l0 k s (n : Int) (i : Int)) (match hval n l with | some m => (m : Int) | none => -1)
  | [], i, n, hl, hi, hn => by
    have h1 := nil_at hl
    refine Ev.step (fun k => turnpikeref2_group.l0.eq_2 _ _ _ _) ?_
    simp only [if_neg (show ¬ (i : Int) < (s.size : Int) by omega), hval]
    exact Ev.now _
  | c :: l, i, n, hl, hi, hn => by
    obtain ⟨h1, h2, h3⟩ := cons_at hl
    refine rgroup_step s i n c h1 hs h2 hn _ (fun h => by rw [hval, h]) (fun d h => ?_)
    rw [hval, h]
    have := hexd_lt h
    exact rgroup_l0 s hs l (i + 1) _ h3 (by omega) (by rw [Nat.pow_succ]; omega)
theorem rgroup_f (s : ByteArray) : Ev (fun k => turnpikeref2_group.f k s) (match grpV (By s) with | some n => (n : Int) | none => -1) := by
  have hz := size_by s
  unfold turnpikeref2_group.f grpV
  by_cases h1 : s.size < 1
  · simp only [if_pos (show (s.size : Int) < 1 by omega), if_pos (show (By s).length < 1 ∨ 4 < (By s).length by omega)]
    refine Ev.step (fun k => turnpikeref2_group.j0.eq_2 _ _ _) ?_
    exact Ev.now _
  · simp only [if_neg (show ¬ (s.size : Int) < 1 by omega)]
    refine Ev.step (fun k => turnpikeref2_group.j0.eq_2 _ _ _) ?_
    by_cases h4 : 4 < s.size
    · simp only [decide_eq_true (show (s.size : Int) > 4 by omega), if_true, if_pos (show (By s).length < 1 ∨ 4 < (By s).length by omega)]
      exact Ev.now _
    · simp only [decide_eq_false (show ¬ (s.size : Int) > 4 by omega), Bool.false_eq_true, if_false, if_neg (show ¬ ((By s).length < 1 ∨ 4 < (By s).length) by omega)]
      exact rgroup_l0 s (by omega) (By s) 0 0 rfl (by omega) (by decide)

/-! ### groups: the program's reader -/
theorem or16 (n d : Nat) (hn : n < 16777216) (hd : d < 16) : Go.bits .or .u64 ((n * 16 : Nat) : Int) (d : Int) = ((16 * n + d : Nat) : Int) := by
  rw [u64_or_nat _ _ (by omega) (by omega)]
  have : n * 16 ||| d = 16 * n + d := by
    have := Nat.two_pow_add_eq_or_of_lt (i := 4) (b := d) (by omega) n
    rw [show (2 : Nat) ^ 4 = 16 from rfl] at this
    rw [Nat.mul_comm]; exact this.symm
  rw [this]
theorem pgroup_step (s : ByteArray) (i n : Nat) (c : UInt8) (hi : i < s.size) (hs : s.size ≤ 4) (hb : bt s (i : Int) = (c.toNat : Int)) (hn : n < 16 ^ i) (r : Int × Bool)
    (hno : hexd c = none → r = (0, false)) (hgo : ∀ d, hexd c = some d → Ev (fun k => addr_group.l0 k s ((16 * n + d : Nat) : Int) (s.size : Int) ((i + 1 : Nat) : Int)) r) :
    Ev (fun k => addr_group.l0 k s (n : Int) (s.size : Int) (i : Int)) r := by
  have hp : 16 ^ i ≤ 16 ^ 4 := Nat.pow_le_pow_right (by decide) (by omega)
  have h256 := u8_lt c
  have e1 : IntKind.u64.wrap ((n : Int) * 16) = ((n * 16 : Nat) : Int) := by rw [u64w (by omega) (by omega)]; omega
  refine Ev.step (fun k => addr_group.l0.eq_2 _ _ _ _ _) ?_
  simp only [if_pos (show (i : Int) < (s.size : Int) by omega), if_pos (show (0 : Int) ≤ (i : Int) by omega), hb]
  have j2f : ¬ (48 ≤ c.toNat ∧ c.toNat ≤ 57) → Ev (fun k => addr_group.j2 k s (n : Int) (c.toNat : Int) (s.size : Int) (i : Int) false) r := by
    intro h1
    refine Ev.step (fun k => addr_group.j2.eq_2 _ _ _ _ _ _ _) ?_
    simp only [Bool.false_eq_true, if_false]
    have j3f : ¬ (65 ≤ c.toNat ∧ c.toNat ≤ 70) → Ev (fun k => addr_group.j3 k s (n : Int) (c.toNat : Int) (s.size : Int) (i : Int) false) r := by
      intro h2
      refine Ev.step (fun k => addr_group.j3.eq_2 _ _ _ _ _ _ _) ?_
      simp only [Bool.false_eq_true, if_false]
      by_cases h3 : 97 ≤ c.toNat ∧ c.toNat ≤ 102
      · have hd : hexd c = some (c.toNat - 87) := by unfold hexd; rw [if_neg h1, if_pos h3]
        have e2 : (((c.toNat : Int) - 97) % 256 + 10) % 256 = ((c.toNat - 87 : Nat) : Int) := by omega
        simp only [if_pos (show (c.toNat : Int) ≥ 97 by omega), if_pos (show (c.toNat : Int) ≤ 102 by omega), e1, e2, or16 n (c.toNat - 87) (by omega) (by omega), wr1 (show i ≤ 1000000000 by omega)]
        exact hgo _ hd
      · have hd : hexd c = none := by unfold hexd; rw [if_neg h1, if_neg h3, if_neg h2]
        rw [hno hd]
        by_cases h4 : 97 ≤ c.toNat
        · simp only [if_pos (show (c.toNat : Int) ≥ 97 by omega), if_neg (show ¬ (c.toNat : Int) ≤ 102 by omega)]; exact Ev.now _
        · simp only [if_neg (show ¬ (c.toNat : Int) ≥ 97 by omega)]; exact Ev.now _
    by_cases h2 : 65 ≤ c.toNat
    · simp only [if_pos (show (c.toNat : Int) ≥ 65 by omega)]
      by_cases h3 : c.toNat ≤ 70
      · have hd : hexd c = some (c.toNat - 55) := by unfold hexd; rw [if_neg h1, if_neg (by omega), if_pos ⟨h2, h3⟩]
        have e2 : (((((c.toNat : Int) + 32) % 256 - 97) % 256) + 10) % 256 = ((c.toNat - 55 : Nat) : Int) := by omega
        simp only [decide_eq_true (show (c.toNat : Int) ≤ 70 by omega)]
        refine Ev.step (fun k => addr_group.j3.eq_2 _ _ _ _ _ _ _) ?_
        simp only [if_true, e1, e2, or16 n (c.toNat - 55) (by omega) (by omega), wr1 (show i ≤ 1000000000 by omega)]
        exact hgo _ hd
      · simp only [decide_eq_false (show ¬ (c.toNat : Int) ≤ 70 by omega)]
        exact j3f (fun h => h3 h.2)
    · simp only [if_neg (show ¬ (c.toNat : Int) ≥ 65 by omega)]
      exact j3f (fun h => h2 h.1)
  by_cases h1 : 48 ≤ c.toNat
  · simp only [if_pos (show (c.toNat : Int) ≥ 48 by omega)]
    by_cases h2 : c.toNat ≤ 57
    · have hd : hexd c = some (c.toNat - 48) := by unfold hexd; rw [if_pos ⟨h1, h2⟩]
      have e2 : ((c.toNat : Int) - 48) % 256 = ((c.toNat - 48 : Nat) : Int) := by omega
      simp only [decide_eq_true (show (c.toNat : Int) ≤ 57 by omega)]
      refine Ev.step (fun k => addr_group.j2.eq_2 _ _ _ _ _ _ _) ?_
      simp only [if_true, e1, e2, or16 n (c.toNat - 48) (by omega) (by omega), wr1 (show i ≤ 1000000000 by omega)]
      exact hgo _ hd
    · simp only [decide_eq_false (show ¬ (c.toNat : Int) ≤ 57 by omega)]
      exact j2f (fun h => h2 h.2)
  · simp only [if_neg (show ¬ (c.toNat : Int) ≥ 48 by omega)]
    exact j2f (fun h => h1 h.1)
theorem pgroup_l0 (s : ByteArray) (hs : s.size ≤ 4) : ∀ (l : List UInt8) (i n : Nat), (By s).drop i = l → i ≤ s.size → n < 16 ^ i →
    Ev (fun k => addr_group.l0 k s (n : Int) (s.size : Int) (i : Int)) (match hval n l with | some m => ((m : Int), true) | none => (0, false))
  | [], i, n, hl, hi, hn => by
    have h1 := nil_at hl
    refine Ev.step (fun k => addr_group.l0.eq_2 _ _ _ _ _) ?_
    simp only [if_neg (show ¬ (i : Int) < (s.size : Int) by omega), hval]
    exact Ev.now _
  | c :: l, i, n, hl, hi, hn => by
    obtain ⟨h1, h2, h3⟩ := cons_at hl
    refine pgroup_step s i n c h1 hs h2 hn _ (fun h => by rw [hval, h]) (fun d h => ?_)
    rw [hval, h]
    have := hexd_lt h
    exact pgroup_l0 s hs l (i + 1) _ h3 (by omega) (by rw [Nat.pow_succ]; omega)
theorem pgroup_f (s : ByteArray) : Ev (fun k => addr_group.f k s) (match grpV (By s) with | some n => ((n : Int), true) | none => (0, false)) := by
  have hz := size_by s
  unfold addr_group.f grpV
  by_cases h1 : s.size < 1
  · simp only [if_pos (show (s.size : Int) < 1 by omega), if_pos (show (By s).length < 1 ∨ 4 < (By s).length by omega)]
    refine Ev.step (fun k => addr_group.j0.eq_2 _ _ _) ?_
    exact Ev.now _
  · simp only [if_neg (show ¬ (s.size : Int) < 1 by omega)]
    refine Ev.step (fun k => addr_group.j0.eq_2 _ _ _) ?_
    by_cases h4 : 4 < s.size
    · simp only [decide_eq_true (show (s.size : Int) > 4 by omega), if_true, if_pos (show (By s).length < 1 ∨ 4 < (By s).length by omega)]
      exact Ev.now _
    · simp only [decide_eq_false (show ¬ (s.size : Int) > 4 by omega), Bool.false_eq_true, if_false, if_neg (show ¬ ((By s).length < 1 ∨ 4 < (By s).length) by omega)]
      exact pgroup_l0 s (by omega) (By s) 0 0 rfl (by omega) (by decide)

/-! ### lists of groups -/
def ints (g : List Nat) : List Int := g.map fun (n : Nat) => (n : Int)
theorem ints_len (g : List Nat) : (ints g).length = g.length := by simp [ints]
theorem and16 (v : Nat) (hv : v < 4294967296) : Go.bits .and .u64 (v : Int) 65535 = ((v % 65536 : Nat) : Int) := by
  have := u64_and_nat v 65535 (by omega) (by decide)
  rw [show ((65535 : Nat) : Int) = 65535 from rfl] at this
  rw [this, show (65535 : Nat) = 2 ^ 16 - 1 from rfl, Nat.and_two_pow_sub_one_eq_mod]
theorem rd_map (ps : List (List UInt8)) (i : Nat) (p : List UInt8) (qs : List (List UInt8)) (h : ps.drop i = p :: qs) : rdOf ByteArray.empty (ps.map OfBy) (i : Int) = OfBy p := by
  have hlt : i < ps.length := by
    have := congrArg List.length h
    simp only [List.length_drop, List.length_cons] at this
    omega
  rw [List.drop_eq_getElem_cons hlt] at h
  unfold rdOf
  rw [Int.toNat_natCast, List.getD_eq_getElem?_getD, List.getElem?_map, List.getElem?_eq_getElem hlt]
  simp [(List.cons.inj h).1]
theorem rgroup_p (p : List UInt8) : Ev (fun k => turnpikeref2_group.f k (OfBy p)) (match grpV p with | some n => (n : Int) | none => -1) := by
  have := rgroup_f (OfBy p)
  rwa [by_ofBy] at this
theorem rdotted_p (p : List UInt8) (h : p.length ≤ 2097152) : Ev (fun k => turnpikeref2_dotted.f k (OfBy p)) (match dotV p with | some n => ((n : Int), true) | none => (0, false)) := by
  have := dotted_f (OfBy p) (by rw [size_by, by_ofBy]; exact h)
  rwa [by_ofBy] at this
theorem rgroups_l0 (ps : List (List UInt8)) (hlen : ps.length ≤ 2097153) (hp : ∀ p ∈ ps, p.length ≤ 2097152) (last : Bool) : ∀ (qs : List (List UInt8)) (i : Nat) (acc : List Nat), ps.drop i = qs → acc.length ≤ i → i ≤ ps.length →
    Ev (fun k => turnpikeref2_groups.l0 k last (ints acc) (ps.map OfBy) (i : Int)) (match grps last qs with | some g => (ints (acc ++ g), true) | none => ([], false))
  | [], i, acc, hq, ha, hi => by
    have : ps.length ≤ i := by
      have := congrArg List.length hq
      simp only [List.length_drop, List.length_nil] at this; omega
    refine Ev.step (fun k => turnpikeref2_groups.l0.eq_2 _ _ _ _ _) ?_
    simp only [List.length_map, if_neg (show ¬ (i : Int) < (ps.length : Int) by omega), grps, List.append_nil]
    exact Ev.now _
  | p :: qs, i, acc, hq, ha, hi => by
    have hlt : i < ps.length := by
      have := congrArg List.length hq
      simp only [List.length_drop, List.length_cons] at this; omega
    have hqs : ps.drop (i + 1) = qs := by
      rw [List.drop_eq_getElem_cons hlt] at hq
      exact (List.cons.inj hq).2
    have hpm : p ∈ ps := by
      rw [List.drop_eq_getElem_cons hlt] at hq
      rw [← (List.cons.inj hq).1]; exact List.getElem_mem hlt
    have hrd := rd_map ps i p qs hq
    have hl : (ints acc).length < 17592186044416 := by rw [ints_len]; omega
    refine Ev.step (fun k => turnpikeref2_groups.l0.eq_2 _ _ _ _ _) ?_
    simp only [List.length_map, if_pos (show (i : Int) < (ps.length : Int) by omega)]
    -- a group read by itself
    have plain : ∀ r, (∀ n, grpV p = some n → Ev (fun k => turnpikeref2_groups.l0 k last (ints (acc ++ [n])) (ps.map OfBy) ((i + 1 : Nat) : Int)) r) → (grpV p = none → r = ([], false)) →
        Ev (fun k => (turnpikeref2_group.f k (rdOf ByteArray.empty (ps.map OfBy) (i : Int))).bind fun t191 => (if t191 < 0 then (some (([] : List Int), false)) else (if (ints acc).length < 17592186044416 then (turnpikeref2_groups.l0 k last (ints acc ++ [t191]) (ps.map OfBy) (wrap64 ((i : Int) + 1))) else (none)))) r := by
      intro r h1 h2
      rw [hrd]
      refine Ev.bind (rgroup_p p) ?_
      cases hg : grpV p with
      | none => simp only [if_pos (show (-1 : Int) < 0 by decide)]; rw [h2 hg]; exact Ev.now _
      | some n =>
        simp only [if_neg (show ¬ (n : Int) < 0 by omega), if_pos hl, wr1 (show i ≤ 1000000000 by omega)]
        have := h1 n hg
        simp only [ints, List.map_append, List.map_cons, List.map_nil] at this
        exact this
    have j1f : ∀ r, (∀ n, grpV p = some n → Ev (fun k => turnpikeref2_groups.l0 k last (ints (acc ++ [n])) (ps.map OfBy) ((i + 1 : Nat) : Int)) r) → (grpV p = none → r = ([], false)) →
        Ev (fun k => turnpikeref2_groups.j1 k last (ints acc) (ps.map OfBy) (i : Int) false) r := by
      intro r h1 h2
      refine Ev.step (fun k => turnpikeref2_groups.j1.eq_2 _ _ _ _ _ _) ?_
      simp only [Bool.false_eq_true, if_false, List.length_map, if_pos (show (0 : Int) ≤ (i : Int) by omega), if_pos (show (i : Int) < (ps.length : Int) by omega)]
      exact plain r h1 h2
    cases qs with
    | nil =>
      have hend : i + 1 = ps.length := by
        have := congrArg List.length hqs
        simp only [List.length_drop, List.length_nil] at this; omega
      have fin : ∀ n, Ev (fun k => turnpikeref2_groups.l0 k last (ints (acc ++ [n])) (ps.map OfBy) ((i + 1 : Nat) : Int)) (ints (acc ++ [n]), true) := by
        intro n
        have := rgroups_l0 ps hlen hp last [] (i + 1) (acc ++ [n]) hqs (by simp; omega) (by omega)
        simp only [grps, List.append_nil] at this
        exact this
      cases last with
      | false =>
        simp only [Bool.false_eq_true, if_false]
        refine j1f _ (fun n h => ?_) (fun h => ?_)
        · simp only [grps, h, Option.map_some, if_neg (show ¬ false = true by decide)]; exact fin n
        · simp only [grps, h, Option.map_none, if_neg (show ¬ false = true by decide)]
      | true =>
        have e : ((i : Int) == wrap64 ((ps.length : Int) - 1)) = true := by rw [w64 (by omega) (by omega)]; simp; omega
        simp only [if_true, e]
        refine Ev.step (fun k => turnpikeref2_groups.j1.eq_2 _ _ _ _ _ _) ?_
        simp only [if_true, List.length_map, if_pos (show (0 : Int) ≤ (i : Int) by omega), if_pos (show (i : Int) < (ps.length : Int) by omega)]
        rw [hrd]
        refine Ev.bind (rdotted_p p (hp p hpm)) ?_
        cases hd : dotV p with
        | some v =>
          have hv := dotV_lt hd
          have e1 : wrap64 ((v : Int) / 65536) = ((v / 65536 : Nat) : Int) := by rw [w64 (by omega) (by omega)]; omega
          have e2 : wrap64 (((v % 65536 : Nat) : Int)) = ((v % 65536 : Nat) : Int) := w64 (by omega) (by omega)
          simp only [if_true, Option.bind_some, and16 v hv, e1, e2, List.length_cons, List.length_nil, if_pos (show (ints acc).length + (0 + 1 + 1) < 17592186044416 by rw [ints_len]; omega), grps, hd]
          simp only [ints, List.map_append, List.map_cons, List.map_nil]
          exact Ev.now _
        | none =>
          have := plain (match grps true [p] with | some g => (ints (acc ++ g), true) | none => ([], false)) (fun n h => by simp only [grps, hd, h, if_true, Option.map_some]; exact fin n) (fun h => by simp only [grps, hd, h, if_true, Option.map_none])
          rw [hrd] at this
          simp only [Bool.false_eq_true, if_false]
          exact this
    | cons q qs =>
      have go : Ev (fun k => turnpikeref2_groups.j1 k last (ints acc) (ps.map OfBy) (i : Int) false) (match grps last (p :: q :: qs) with | some g => (ints (acc ++ g), true) | none => ([], false)) := by
        refine j1f _ (fun n h => ?_) (fun h => ?_)
        · have := rgroups_l0 ps hlen hp last (q :: qs) (i + 1) (acc ++ [n]) hqs (by simp; omega) (by omega)
          rw [grps, h]
          cases hr : grps last (q :: qs) with
          | none => rw [hr] at this; exact this
          | some g =>
            rw [hr] at this
            simp only [List.append_assoc, List.singleton_append] at this
            exact this
        · rw [grps, h]
      cases last with
      | false => simp only [Bool.false_eq_true, if_false]; exact go
      | true =>
        have hne : i + 1 < ps.length := by
          have := congrArg List.length hqs
          simp only [List.length_drop, List.length_cons] at this; omega
        have e : ((i : Int) == wrap64 ((ps.length : Int) - 1)) = false := by
          rw [w64 (by omega) (by omega)]
          simp only [beq_eq_false_iff_ne, ne_eq]; omega
        simp only [if_true, e]
        exact go
theorem pieces_each (c : UInt8) (l : List UInt8) : ∀ p ∈ pieces c l, p.length ≤ l.length := by
  intro p hp
  have h1 := pieces_sum c l
  have h2 : ∀ (ps : List (List UInt8)), p ∈ ps → p.length + 1 ≤ sumlen ps := by
    intro ps
    induction ps with
    | nil => intro h; cases h
    | cons q qs ih =>
      intro h
      rw [sumlen]
      rcases List.mem_cons.1 h with e | h
      · subst e; omega
      · have := ih h; omega
  have := h2 _ hp
  omega
theorem empty_iff (s : ByteArray) : (s.toList = []) ↔ By s = [] := by
  rw [Go.Lib.toList_data]
theorem rgroups_f (s : ByteArray) (hs : s.size ≤ 2097152) (last : Bool) : Ev (fun k => turnpikeref2_groups.f k s last) (match lstV last (By s) with | some g => (ints g, true) | none => ([], false)) := by
  unfold turnpikeref2_groups.f lstV
  by_cases h : By s = []
  · simp only [if_pos h, if_pos ((empty_iff s).2 h)]
    exact Ev.now _
  · simp only [if_neg h, if_neg (fun e => h ((empty_iff s).1 e))]
    refine Ev.bind (split_f s 58 hs) ?_
    have hl := pieces_len 58 (By s)
    rw [← size_by] at hl
    have := rgroups_l0 (pieces 58 (By s)) (by omega) (fun p hp => by have := pieces_each 58 (By s) p hp; rw [← size_by] at this; omega) last _ 0 [] rfl (by simp) (by omega)
    simp only [List.nil_append, List.drop_zero] at this
    rw [show ((0 : Nat) : Int) = 0 from rfl] at this
    exact this
end Go.Proofs.Ytamiaaeaehdahaa.Th
