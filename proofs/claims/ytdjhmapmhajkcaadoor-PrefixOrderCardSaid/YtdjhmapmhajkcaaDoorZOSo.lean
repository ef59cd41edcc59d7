/- Right prefixes, as the laws make them. -/
import Derived.Test.YtdjhmapmhajkcaaDoorZOPx
import Derived.Test.YtdjhmapmhajkcaaDoorZOX8
namespace Go.Proofs.YtdjhmapmhajkcaaDoor.Th
open Go.RowKit Go.Proofs.YtdjhmapmhajkcaaDoor.X Go.Proofs.YtdjhmapmhajkcaaDoorW.PrintWords Go.Proofs.YtdjhmapmhajkcaaDoorW.PrintLast Go.Proofs.YtdjhmapmhajkcaaDoor.Sm
set_option linter.unusedVariables false
set_option linter.unusedSimpArgs false
theorem family3 (six : Bool) : ∃ f : Nat, (f = 32 ∨ f = 128) ∧ turnpikelaw3_Family.f six = some (f : Int) := by
  cases six
  · exact ⟨32, .inl rfl, rfl⟩
  · exact ⟨128, .inr rfl, rfl⟩
theorem within3 (a n : Int) (h1 : 0 < n) (h2 : n ≤ 1048600) : ∃ m : Nat, (m : Int) < n ∧ turnpikelaw3_within.f a n = some (m : Int) := by
  unfold turnpikelaw3_within.f
  have e1 := Int.tmod_lt_of_pos a h1
  have e2 : -n < Int.tmod a n := by have := Int.lt_tmod_of_pos a h1; omega
  rw [if_neg (by omega)]
  by_cases h : Int.tmod a n < 0
  · rw [if_pos h, w64 (by omega) (by omega)]
    exact ⟨(Int.tmod a n + n).toNat, by omega, by congr 1; omega⟩
  · rw [if_neg h]
    exact ⟨(Int.tmod a n).toNat, by omega, by congr 1; omega⟩
def Fit (f w n : Nat) : Prop := w < 2 ^ 128 ∧ n ≤ f ∧ w &&& mk n = w
theorem mk_mono {m n : Nat} (h : m ≤ n) (w : Nat) : w &&& mk n &&& mk m = w &&& mk m := by
  apply Nat.eq_of_testBit_eq
  intro i
  rw [Nat.testBit_and, Nat.testBit_and, Nat.testBit_and, mk_bit, mk_bit]
  by_cases h1 : i < 128 <;> by_cases h2 : 128 ≤ i + m <;> by_cases h3 : 128 ≤ i + n <;> simp [h1, h2, h3] <;> omega
theorem mk_idem (w n : Nat) : w &&& mk n &&& mk n = w &&& mk n := mk_mono (Nat.le_refl _) w
theorem clip3 (f v : Nat) (hv : v < 2 ^ 128) : Ev (fun k => turnpikelaw3_clip.f k (f : Int) (hi v) (lo v)) (hi (v &&& mk f), lo (v &&& mk f), (rightV (f : Int) (v &&& mk f) == 0)) := by
  unfold turnpikelaw3_clip.f
  refine Ev.bind (rcut v f hv) ?_
  refine Ev.bind (rright (f : Int) (v &&& mk f) (and_lt128 _ hv)) ?_
  exact Ev.now _
theorem some3 (f v : Nat) (hf : f = 32 ∨ f = 128) (hv : v < 2 ^ 128) (n : Int) : ∃ w m : Nat, Fit f w m ∧ Ev (fun k => turnpikelaw3_Some.f k (f : Int) (hi v) (lo v) n) (hi w, lo w, (m : Int)) := by
  have ew : wrap64 ((f : Int) + 1) = (f : Int) + 1 := w64 (by omega) (by omega)
  obtain ⟨m, hm, em⟩ := within3 n ((f : Int) + 1) (by omega) (by omega)
  refine ⟨v &&& mk f &&& mk m, m, ⟨and_lt128 _ (and_lt128 _ hv), by omega, mk_idem _ _⟩, ?_⟩
  unfold turnpikelaw3_Some.f
  refine Ev.bind (clip3 f v hv) ?_
  rw [ew]
  simp only [em, Option.bind_some]
  refine Ev.bind (rcut _ m (and_lt128 _ hv)) ?_
  exact Ev.now _
end Go.Proofs.YtdjhmapmhajkcaaDoor.Th
