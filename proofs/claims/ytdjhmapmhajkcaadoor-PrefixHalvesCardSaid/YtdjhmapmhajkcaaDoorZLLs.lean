/- Words of 128 bits: the document's sum. -/
import Derived.Test.YtdjhmapmhajkcaaDoorZLLc
import Derived.Test.YtdjhmapmhajkcaaDoorZLX21
namespace Go.Proofs.YtdjhmapmhajkcaaDoor.Th
open Go.RowKit Go.Proofs.YtdjhmapmhajkcaaDoor.X Go.Proofs.YtdjhmapmhajkcaaDoorW.PrintWords Go.Proofs.YtdjhmapmhajkcaaDoorW.PrintLast Go.Proofs.YtdjhmapmhajkcaaDoor.Sm
set_option linter.unusedVariables false
set_option linter.unusedSimpArgs false
def ad (u v : Nat) : Nat := (u + v) % 2 ^ 128
theorem ad_parts (a b c d : Nat) (ha : a < 18446744073709551616) (hb : b < 18446744073709551616) (hc : c < 18446744073709551616) (hd : d < 18446744073709551616) :
    ad (a * 18446744073709551616 + b) (c * 18446744073709551616 + d) = ((a + c + (b + d) / 18446744073709551616) % 18446744073709551616) * 18446744073709551616 + (b + d) % 18446744073709551616 := by
  unfold ad
  rw [p128]
  by_cases h1 : b + d < 18446744073709551616
  · rw [Nat.div_eq_of_lt h1, Nat.mod_eq_of_lt h1]
    by_cases h2 : a + c < 18446744073709551616
    · rw [Nat.mod_eq_of_lt (show a + c + 0 < 18446744073709551616 by omega), Nat.mod_eq_of_lt (by omega)]; omega
    · rw [show a + c + 0 = (a + c - 18446744073709551616) + 18446744073709551616 by omega, Nat.add_mod_right, Nat.mod_eq_of_lt (show a + c - 18446744073709551616 < 18446744073709551616 by omega),
        show a * 18446744073709551616 + b + (c * 18446744073709551616 + d) = ((a + c - 18446744073709551616) * 18446744073709551616 + (b + d)) + 340282366920938463463374607431768211456 by omega, Nat.add_mod_right, Nat.mod_eq_of_lt (by omega)]
  · rw [show (b + d) / 18446744073709551616 = 1 by omega, show (b + d) % 18446744073709551616 = b + d - 18446744073709551616 by omega]
    by_cases h2 : a + c + 1 < 18446744073709551616
    · rw [Nat.mod_eq_of_lt h2, Nat.mod_eq_of_lt (by omega)]; omega
    · rw [show a + c + 1 = (a + c + 1 - 18446744073709551616) + 18446744073709551616 by omega, Nat.add_mod_right, Nat.mod_eq_of_lt (show a + c + 1 - 18446744073709551616 < 18446744073709551616 by omega),
        show a * 18446744073709551616 + b + (c * 18446744073709551616 + d) = ((a + c + 1 - 18446744073709551616) * 18446744073709551616 + (b + d - 18446744073709551616)) + 340282366920938463463374607431768211456 by omega, Nat.add_mod_right, Nat.mod_eq_of_lt (by omega)]
theorem radd (u v : Nat) (hu : u < 2 ^ 128) (hv : v < 2 ^ 128) : turnpikeref1_Add.f (hi u) (lo u) (hi v) (lo v) = some (hi (ad u v), lo (ad u v), decide (2 ^ 128 ≤ u + v)) := by
  obtain ⟨a, b, ha, hb, hu', e1, e2⟩ := split_word hu
  obtain ⟨c, d, hc, hd, hv', e3, e4⟩ := split_word hv
  have hp := ad_parts a b c d ha hb hc hd
  rw [← hu', ← hv'] at hp
  rw [hi_of (Nat.mod_lt _ (by decide)) hp, lo_of (Nat.mod_lt _ (by decide)) hp, e1, e2, e3, e4]
  have hw : (2 ^ 128 ≤ u + v) ↔ 18446744073709551616 ≤ a + c + (b + d) / 18446744073709551616 := by rw [p128]; omega
  have m1 : IntKind.u64.wrap ((b : Int) + (d : Int)) = ((b : Int) + (d : Int)) % 18446744073709551616 := rfl
  have m2 : IntKind.u64.wrap ((a : Int) + (c : Int)) = ((a : Int) + (c : Int)) % 18446744073709551616 := rfl
  unfold turnpikeref1_Add.f
  generalize IntKind.u64.wrap ((b : Int) + (d : Int)) = x at m1 ⊢
  generalize IntKind.u64.wrap ((a : Int) + (c : Int)) = y at m2 ⊢
  have m3 : IntKind.u64.wrap (y + 1) = (y + 1) % 18446744073709551616 := rfl
  have m4 : IntKind.u64.wrap y = y % 18446744073709551616 := rfl
  generalize IntKind.u64.wrap (y + 1) = z at m3 ⊢
  generalize IntKind.u64.wrap y = z' at m4 ⊢
  refine ite_some (fun h1 => ite_some (fun h2 => ?_) (fun h2 => ?_)) (fun h1 => ite_some (fun h2 => ?_) (fun h2 => ?_))
  · exact trip (by omega) (by omega) (by rw [eq_comm, decide_eq_true_iff, hw]; omega)
  · exact trip (by omega) (by omega) (by rw [decide_eq_decide, hw]; omega)
  · exact trip (by omega) (by omega) (by rw [eq_comm, decide_eq_true_iff, hw]; omega)
  · exact trip (by omega) (by omega) (by rw [decide_eq_decide, hw]; omega)
end Go.Proofs.YtdjhmapmhajkcaaDoor.Th
