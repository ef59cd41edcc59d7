/- The groups of a word: what the document's Field tells. -/
import Derived.Test.YtdjhmapmhajkcaaDoorZRTw
import Derived.Test.YtdjhmapmhajkcaaDoorZRLp
import Derived.Test.YtdjhmapmhajkcaaDoorZRGg
import Derived.Laws.BitsAllLaws
import Derived.Test.YtdjhmapmhajkcaaDoorZRX34
import Derived.Test.YtdjhmapmhajkcaaDoorZRX35
import Derived.Test.YtdjhmapmhajkcaaDoorZRX36
namespace Go.Proofs.YtdjhmapmhajkcaaDoor.Th
open Go.RowKit Go.Proofs.YtdjhmapmhajkcaaDoor.X Go.Proofs.YtdjhmapmhajkcaaDoorW.PrintWords
set_option linter.unusedVariables false
set_option linter.unusedSimpArgs false
theorem rshl (v n : Nat) (hv : v < 2 ^ 128) (hn : n ≤ 127) : turnpikeref1_Shl.f (hi v) (lo v) (n : Int) = some (hi (sl v n), lo (sl v n)) := by
  unfold turnpikeref1_Shl.f
  by_cases h0 : n = 0
  · subst h0; rw [if_pos (by decide), sl_zero v hv]
  · rw [if_neg (by omega), if_neg (by omega)]
    by_cases h64 : n < 64
    · have e : wrap64 (64 - (n : Int)) = ((64 - n : Nat) : Int) := by rw [w64 (by omega) (by omega)]; omega
      rw [if_neg (by omega), if_pos (by omega), e, if_pos (by omega), shl_hi v n (by omega) h64, shl_lo v n h64]
    · have e : wrap64 ((n : Int) - 64) = ((n - 64 : Nat) : Int) := by rw [w64 (by omega) (by omega)]; omega
      obtain ⟨h1, h2⟩ := shl_far v n (by omega) (by omega)
      rw [if_pos (by omega), e, if_pos (by omega), h1, h2]
theorem rshr (v n : Nat) (hv : v < 2 ^ 128) (hn : n ≤ 127) : turnpikeref1_Shr.f (hi v) (lo v) (n : Int) = some (hi (sr v n), lo (sr v n)) := by
  unfold turnpikeref1_Shr.f
  by_cases h0 : n = 0
  · subst h0; rw [if_pos (by decide), sr_zero v]
  · rw [if_neg (by omega), if_neg (by omega)]
    by_cases h64 : n < 64
    · have e : wrap64 (64 - (n : Int)) = ((64 - n : Nat) : Int) := by rw [w64 (by omega) (by omega)]; omega
      rw [if_neg (by omega), if_pos (by omega), e, if_pos (by omega), shr_hi v n h64, shr_lo v n (by omega) h64]
    · have e : wrap64 ((n : Int) - 64) = ((n - 64 : Nat) : Int) := by rw [w64 (by omega) (by omega)]; omega
      obtain ⟨h1, h2⟩ := shr_far v n (by omega) (by omega) hv
      rw [if_pos (by omega), e, if_pos (by omega), h1, h2]
theorem field_eq (w i : Nat) (hi : i < 8) : sr (sl w (16 * i)) 112 = GG w i := by
  unfold sr sl GG
  have e1 : (2 : Nat) ^ 128 = 2 ^ 112 * 65536 := by decide
  have e2 : (2 : Nat) ^ 112 = 2 ^ (112 - 16 * i) * 2 ^ (16 * i) := by rw [← Nat.pow_add]; congr 1; omega
  rw [e1, Nat.mod_mul_right_div_self]
  rw [e2, Nat.mul_div_mul_right _ _ (Nat.pow_pos (by decide))]
theorem rfield (w i : Nat) (hw : w < 2 ^ 128) (hi8 : i < 8) : turnpikeref1_Field.f (hi w) (lo w) (wrap64 (16 * (i : Int))) 16 = some (hi (GG w i), ((GG w i : Nat) : Int), 0) := by
  have e : wrap64 (16 * (i : Int)) = ((16 * i : Nat) : Int) := by rw [w64 (by omega) (by omega)]; omega
  have e2 : wrap64 (128 - (16 : Int)) = ((112 : Nat) : Int) := by rw [w64 (by omega) (by omega)]; omega
  have e3 : wrap64 (128 - ((16 * i : Nat) : Int)) = ((128 - 16 * i : Nat) : Int) := by rw [w64 (by omega) (by omega)]; omega
  have hf : turnpikeref1_fits.f ((16 * i : Nat) : Int) 16 = some true := by
    unfold turnpikeref1_fits.f
    rw [if_pos (by omega), if_pos (by omega), if_pos (by decide), e3]
    congr 1
    exact decide_eq_true (by omega)
  unfold turnpikeref1_Field.f
  rw [e, hf, e2]
  simp only [Option.bind_some, if_true, rshl w (16 * i) hw (by omega), rshr (sl w (16 * i)) 112 (sl_lt _ _) (by omega), field_eq w i hi8, lo0 (GG_lt w i)]
end Go.Proofs.YtdjhmapmhajkcaaDoor.Th
