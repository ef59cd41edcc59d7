/- An address's text is read as it; it has no great letters, nothing but digits, dots, colons, and no more than 39 signs. -/
import Derived.Test.YtamiaaeaehdahaaDoorZBPb
import Derived.Test.YtamiaaeaehdahaaDoorZBX9
namespace Go.Proofs.YtamiaaeaehdahaaDoor.Pure
open Go.RowKit Go.Proofs.YtamiaaeaehdahaaDoor.X Go.Proofs.YtamiaaeaehdahaaDoorW.PrintWords Go.Proofs.YtamiaaeaehdahaaDoor.Th
set_option linter.unusedVariables false
theorem back_l0 (six : Bool) (s : ByteArray) (hs : s.size ≤ 39) (hc : ∀ c ∈ By s, Sign six c) : ∀ (d i : Nat), i + d = s.size → Ev (fun k => turnpikelaw2_AddrBack.l0 k six s (i : Int)) true := by
  intro d
  induction d with
  | zero =>
    intro i hi
    refine Ev.step (fun k => turnpikelaw2_AddrBack.l0.eq_2 _ _ _ _) ?_
    simp only [if_neg (show ¬ (i : Int) < (s.size : Int) by omega)]
    exact Ev.now _
  | succ d ih =>
    intro i hi
    have hl : i < s.size := by omega
    obtain ⟨c, r, hcr⟩ : ∃ c r, (By s).drop i = c :: r := by
      have : i < (By s).length := by rw [← size_by]; exact hl
      exact ⟨_, _, List.drop_eq_getElem_cons this⟩
    have hb := (cons_at hcr).2.1
    have hsg := hc c (List.mem_of_mem_drop (hcr ▸ List.mem_cons_self ..))
    have e := wr1 (show i ≤ 1000000000 by omega)
    have H := ih (i + 1) (by omega)
    refine Ev.step (fun k => turnpikelaw2_AddrBack.l0.eq_2 _ _ _ _) ?_
    simp only [if_pos (show (i : Int) < (s.size : Int) by omega), if_pos (show 0 ≤ (i : Int) by omega), hb, e]
    rcases hsg with h | ⟨h, rfl⟩ | ⟨h | h, rfl⟩
    · simp only [if_pos (show (c.toNat : Int) ≥ 48 by omega), if_pos (show (c.toNat : Int) ≤ 57 by omega)]
      exact H
    · simp only [if_neg (show ¬ (c.toNat : Int) ≥ 48 by omega), if_pos (show (c.toNat : Int) = 46 by omega), if_neg (show ¬ (false = true) by decide)]
      exact H
    · simp only [if_pos (show (c.toNat : Int) ≥ 48 by omega), if_neg (show ¬ (c.toNat : Int) ≤ 57 by omega), if_neg (show ¬ (c.toNat : Int) = 46 by omega), if_pos (show (c.toNat : Int) = 58 by omega), if_true]
      exact H
    · simp only [if_pos (show (c.toNat : Int) ≥ 48 by omega), if_neg (show ¬ (c.toNat : Int) ≤ 57 by omega), if_neg (show ¬ (c.toNat : Int) = 46 by omega), if_neg (show ¬ (c.toNat : Int) = 58 by omega), if_pos (show (c.toNat : Int) ≥ 97 by omega), if_pos (show (c.toNat : Int) ≤ 102 by omega), if_true]
      exact H
theorem AddrBack : turnpikelaw2_AddrBack.Pure := by
  intro six a b h1 h2
  obtain ⟨v, hv, rfl, rfl⟩ := as_word h1 h2
  obtain ⟨f, hf, ef, hs⟩ : ∃ f : Int, fam f = true ∧ turnpikelaw2_family.f six = some f ∧ (six = false ∧ f = 32 ∨ six = true ∧ f = 128) := by
    cases six
    · exact ⟨32, rfl, rfl, .inl ⟨rfl, rfl⟩⟩
    · exact ⟨128, rfl, rfl, .inr ⟨rfl, rfl⟩⟩
  refine Ev.rounds ?_
  unfold turnpikelaw2_AddrBack.f
  have hm := rmask f.toNat
  rw [fam_nat hf] at hm
  have hw' : v &&& mk f.toNat < 2 ^ 128 := Nat.lt_of_le_of_lt Nat.and_le_left hv
  have hr : rightV f (v &&& mk f.toNat) = 0 := by
    unfold rightV
    rw [if_pos hf]
    have : v &&& mk f.toNat &&& nt (mk f.toNat) = 0 := by
      apply Nat.eq_of_testBit_eq
      intro i
      rw [Nat.testBit_and, Nat.testBit_and, nt_bit (mk_lt _), Nat.zero_testBit]
      cases (mk f.toNat).testBit i <;> simp
    rw [if_pos this]
  obtain ⟨hsg, hlen⟩ := text_sign six f hs (v &&& mk f.toNat) hw'
  have hread := read_text f (v &&& mk f.toNat) hw' hr
  have ht := ptext f (v &&& mk f.toNat) hw'
  rw [if_pos hr] at ht
  have hp := pparse f (OfBy (textV f (v &&& mk f.toNat))) (by rw [ofBy_size]; omega)
  rw [by_ofBy, hread] at hp
  refine Ev.bind known_f ?_
  simp only [if_true]
  refine Ev.bind (ev_eq ef) (Ev.bind hm (Ev.bind (ev_eq (rand_ v _ hv (mk_lt _))) (Ev.bind ht ?_)))
  generalize textV f (v &&& mk f.toNat) = T at hsg hlen hp
  refine Ev.bind hp ?_
  simp only [if_true, beq_self_eq_true, Bool.not_true, Bool.or_self, Bool.false_eq_true, if_false, ofBy_size]
  rw [show decide ((T.length : Int) > 39) = false from decide_eq_false (by omega)]
  refine Ev.step (fun k => turnpikelaw2_AddrBack.j0.eq_2 _ _ _ _) ?_
  simp only [Bool.false_eq_true, if_false]
  exact back_l0 six (OfBy T) (by rw [ofBy_size]; exact hlen) (by rw [by_ofBy]; exact hsg) T.length 0 (by rw [ofBy_size, Nat.zero_add])
end Go.Proofs.YtamiaaeaehdahaaDoor.Pure
