-- Printed by a program of this session (xprint.py, over the kit's printer)
import Derived.Test.YtdjhmapmhajkcaaDoorX0
import Derived.Test.YtdjhmapmhajkcaaDoorZHX1
import Derived.Test.YtdjhmapmhajkcaaDoorZHX6
import Derived.Test.YtdjhmapmhajkcaaDoorZHX8
import Derived.Test.YtdjhmapmhajkcaaDoorZHX12
import Derived.Test.YtdjhmapmhajkcaaDoorZHX14
import Derived.Test.YtdjhmapmhajkcaaDoorZHX26
import Derived.Test.YtdjhmapmhajkcaaDoorSh
namespace Go.Proofs.YtdjhmapmhajkcaaDoor.X
open Go.RowKit Go.Proofs.YtdjhmapmhajkcaaDoorW.PrintWords Go.Proofs.YtdjhmapmhajkcaaDoorW.PrintLast Go.Proofs.YtdjhmapmhajkcaaDoor.Sm Go.Proofs.YtdjhmapmhajkcaaDoor.Sh
set_option linter.unusedVariables false
set_option linter.unusedSimpArgs false
attribute [local go_sem high] eqA24
def turnpikelaw3_PrefixHas.f (k : Nat) (a0 : Bool) (a1_0 : Int) (a1_1 : Int) (a2 : Int) (a3_0 : Int) (a3_1 : Int) (a4 : Int) (a5_0 : Int) (a5_1 : Int) : Option (Bool) := (turnpikelaw3_Family.f a0).bind fun t512 => ((turnpikelaw3_Some.f k t512 a1_0 a1_1 a2).bind fun bt513 => ((turnpikelaw3_Some.f k t512 a3_0 a3_1 a4).bind fun bt517 => ((turnpikelaw3_clip.f k t512 a5_0 a5_1).bind fun bt521 => ((turnpikelaw3_known.f k).bind fun t524 => (if t524 = true then ((prefix_Has.f bt513.1 bt513.2.1 bt513.2.2 bt521.1 bt521.2.1).bind fun t525 => ((turnpikeref3_Has.f k bt513.1 bt513.2.1 bt513.2.2 bt521.1 bt521.2.1).bind fun t526 => (if (t525 == t526) = true then ((prefix_Within.f bt513.1 bt513.2.1 bt513.2.2 bt517.1 bt517.2.1 bt517.2.2).bind fun t527 => ((turnpikeref3_Within.f k bt513.1 bt513.2.1 bt513.2.2 bt517.1 bt517.2.1 bt517.2.2).bind fun t528 => (if (t527 == t528) = true then ((prefix_First.f bt513.1 bt513.2.1 bt513.2.2).bind fun bt529 => (if (bt529.1 == bt513.1 && (bt529.2 == bt513.2.1)) = true then ((prefix_Last.f t512 bt513.1 bt513.2.1 bt513.2.2).bind fun bt531 => ((turnpikeref3_Last.f k t512 bt513.1 bt513.2.1 bt513.2.2).bind fun bt533 => (some (bt531.1 == bt533.1 && (bt531.2 == bt533.2))))) else (some false))) else (some false)))) else (some false)))) else (some false))))))
theorem turnpikelaw3_PrefixHas.mono : ∀ a0 a1 a2 a3 a4 a5 a6 a7 a8 k, LeO (turnpikelaw3_PrefixHas.f k a0 a1 a2 a3 a4 a5 a6 a7 a8) (turnpikelaw3_PrefixHas.f (k + 1) a0 a1 a2 a3 a4 a5 a6 a7 a8) := by
  intro a0 a1 a2 a3 a4 a5 a6 a7 a8 k
  unfold turnpikelaw3_PrefixHas.f
  have m0 := @turnpikelaw3_Some.mono
  have m1 := @turnpikelaw3_clip.mono
  have m2 := @turnpikelaw3_known.mono
  have m3 := @turnpikeref3_Has.mono
  have m4 := @turnpikeref3_Last.mono
  have m5 := @turnpikeref3_Within.mono
  exact xO
def turnpikelaw3_PrefixHas.T5 : Bool × List (List Nat × List Nat) := (true, [([], []), ([0, 0], [0]), ([1], [1]), ([1], [1]), ([2, 3, 1, 1], [1, 2, 3]), ([1], [1]), ([1], [1]), ([5, 6, 4, 1], [1, 5, 6]), ([4, 7, 1], [1, 4, 7]), ([1, 8], [1, 8]), ([9, 7], [9]), ([10], [10]), ([10], [10]), ([11, 12, 10, 10], [10, 11, 12]), ([10], [10]), ([10], [10]), ([14, 15, 13, 10], [10, 14, 15]), ([13, 16, 10], [10, 13, 16]), ([10, 17], [10, 17]), ([18, 16], [18]), ([19], [19]), ([20, 19, 19], [19, 20]), ([19], [19]), ([22, 19], [19, 22]), ([21, 23, 19], [19, 21, 23]), ([19, 24], [19, 24]), ([25, 21], [25]), ([26], [26]), ([26], [26]), ([27, 28, 26, 26], [26, 27, 28]), ([26], [26]), ([26], [26]), ([30, 31, 29, 26], [26, 30, 31]), ([29, 32, 26], [26, 29, 32]), ([26, 33], [26, 33]), ([34, 32, 0, 1, 2, 3, 4, 5, 6, 7, 8, 9, 10, 11, 12, 13, 14, 15, 16, 17, 18, 19, 20, 21, 22, 23, 24, 25, 26, 27, 28, 29, 30, 31, 32, 33, 34], [34])])
def turnpikelaw3_PrefixHas.B5 : List Nat := [0, 1, 3, 3, 15, 3, 3, 127, 255, 511, 1023, 2047, 2047, 8191, 2047, 2047, 65535, 131071, 262143, 524287, 1048575, 2097151, 1048575, 5242879, 16777215, 33554431, 67108863, 134217727, 134217727, 536870911, 134217727, 134217727, 4294967295, 8589934591, 17179869183, 34359738367]
theorem turnpikelaw3_PrefixHas.tab5 : rtab .any (opsOf Tryd.f7 5) = turnpikelaw3_PrefixHas.T5 := by kernel_rfl
theorem turnpikelaw3_PrefixHas.bits5 : waitsOk turnpikelaw3_PrefixHas.T5.2 turnpikelaw3_PrefixHas.B5 = true := by kernel_rfl
set_option maxHeartbeats 8000000 in
set_option maxRecDepth 100000 in
theorem turnpikelaw3_PrefixHas.calls (k : Nat) (a0 : Bool) (a1_0 : Int) (a1_1 : Int) (a2 : Int) (a3_0 : Int) (a3_1 : Int) (a4 : Int) (a5_0 : Int) (a5_1 : Int) (r : Bool) (w : World) (hML : MLOk w) (hr_ : Aside0 (r = true)) (h : turnpikelaw3_PrefixHas.f k a0 a1_0 a1_1 a2 a3_0 a3_1 a4 a5_0 a5_1 = some r) :
    Calls Tryd.prog 7 #[.bool a0, .agg #[.int .u64 a1_0, .int .u64 a1_1], .int .i64 a2, .agg #[.int .u64 a3_0, .int .u64 a3_1], .int .i64 a4, .agg #[.int .u64 a5_0, .int .u64 a5_1]] w fun e w' => e = .returned (.bool r) ∧ Below w.heap.size w w' := by
  have hu24 := Tryd.underlying24
  have hu28 := Tryd.underlying28
  have HML := Aside0.mk hML
  clear hML
  have HB := Aside0.mk (Below.refl w.heap.size w)
  have H : ((turnpikelaw3_Family.f a0).bind fun t512 => ((turnpikelaw3_Some.f k t512 a1_0 a1_1 a2).bind fun bt513 => ((turnpikelaw3_Some.f k t512 a3_0 a3_1 a4).bind fun bt517 => ((turnpikelaw3_clip.f k t512 a5_0 a5_1).bind fun bt521 => ((turnpikelaw3_known.f k).bind fun t524 => (if t524 = true then ((prefix_Has.f bt513.1 bt513.2.1 bt513.2.2 bt521.1 bt521.2.1).bind fun t525 => ((turnpikeref3_Has.f k bt513.1 bt513.2.1 bt513.2.2 bt521.1 bt521.2.1).bind fun t526 => (if (t525 == t526) = true then ((prefix_Within.f bt513.1 bt513.2.1 bt513.2.2 bt517.1 bt517.2.1 bt517.2.2).bind fun t527 => ((turnpikeref3_Within.f k bt513.1 bt513.2.1 bt513.2.2 bt517.1 bt517.2.1 bt517.2.2).bind fun t528 => (if (t527 == t528) = true then ((prefix_First.f bt513.1 bt513.2.1 bt513.2.2).bind fun bt529 => (if (bt529.1 == bt513.1 && (bt529.2 == bt513.2.1)) = true then ((prefix_Last.f t512 bt513.1 bt513.2.1 bt513.2.2).bind fun bt531 => ((turnpikeref3_Last.f k t512 bt513.1 bt513.2.1 bt513.2.2).bind fun bt533 => (some (bt531.1 == bt533.1 && (bt531.2 == bt533.2))))) else (some false))) else (some false)))) else (some false)))) else (some false))))))) = some r := h
  clear h
  replace H := Option.bind_eq_some_iff.mp H
  obtain ⟨t512, A70, H⟩ := H
  replace H : ((turnpikelaw3_Some.f k t512 a1_0 a1_1 a2).bind fun bt513 => ((turnpikelaw3_Some.f k t512 a3_0 a3_1 a4).bind fun bt517 => ((turnpikelaw3_clip.f k t512 a5_0 a5_1).bind fun bt521 => ((turnpikelaw3_known.f k).bind fun t524 => (if t524 = true then ((prefix_Has.f bt513.1 bt513.2.1 bt513.2.2 bt521.1 bt521.2.1).bind fun t525 => ((turnpikeref3_Has.f k bt513.1 bt513.2.1 bt513.2.2 bt521.1 bt521.2.1).bind fun t526 => (if (t525 == t526) = true then ((prefix_Within.f bt513.1 bt513.2.1 bt513.2.2 bt517.1 bt517.2.1 bt517.2.2).bind fun t527 => ((turnpikeref3_Within.f k bt513.1 bt513.2.1 bt513.2.2 bt517.1 bt517.2.1 bt517.2.2).bind fun t528 => (if (t527 == t528) = true then ((prefix_First.f bt513.1 bt513.2.1 bt513.2.2).bind fun bt529 => (if (bt529.1 == bt513.1 && (bt529.2 == bt513.2.1)) = true then ((prefix_Last.f t512 bt513.1 bt513.2.1 bt513.2.2).bind fun bt531 => ((turnpikeref3_Last.f k t512 bt513.1 bt513.2.1 bt513.2.2).bind fun bt533 => (some (bt531.1 == bt533.1 && (bt531.2 == bt533.2))))) else (some false))) else (some false)))) else (some false)))) else (some false)))))) = some r := H
  have A7 := Aside0.mk A70
  clear A70
  replace H := Option.bind_eq_some_iff.mp H
  obtain ⟨⟨t513, t514, t515⟩, A80, H⟩ := H
  replace H : ((turnpikelaw3_Some.f k t512 a3_0 a3_1 a4).bind fun bt517 => ((turnpikelaw3_clip.f k t512 a5_0 a5_1).bind fun bt521 => ((turnpikelaw3_known.f k).bind fun t524 => (if t524 = true then ((prefix_Has.f t513 t514 t515 bt521.1 bt521.2.1).bind fun t525 => ((turnpikeref3_Has.f k t513 t514 t515 bt521.1 bt521.2.1).bind fun t526 => (if (t525 == t526) = true then ((prefix_Within.f t513 t514 t515 bt517.1 bt517.2.1 bt517.2.2).bind fun t527 => ((turnpikeref3_Within.f k t513 t514 t515 bt517.1 bt517.2.1 bt517.2.2).bind fun t528 => (if (t527 == t528) = true then ((prefix_First.f t513 t514 t515).bind fun bt529 => (if (bt529.1 == t513 && (bt529.2 == t514)) = true then ((prefix_Last.f t512 t513 t514 t515).bind fun bt531 => ((turnpikeref3_Last.f k t512 t513 t514 t515).bind fun bt533 => (some (bt531.1 == bt533.1 && (bt531.2 == bt533.2))))) else (some false))) else (some false)))) else (some false)))) else (some false))))) = some r := H
  have A8 := Aside0.mk A80
  clear A80
  replace H := Option.bind_eq_some_iff.mp H
  obtain ⟨⟨t517, t518, t519⟩, A90, H⟩ := H
  replace H : ((turnpikelaw3_clip.f k t512 a5_0 a5_1).bind fun bt521 => ((turnpikelaw3_known.f k).bind fun t524 => (if t524 = true then ((prefix_Has.f t513 t514 t515 bt521.1 bt521.2.1).bind fun t525 => ((turnpikeref3_Has.f k t513 t514 t515 bt521.1 bt521.2.1).bind fun t526 => (if (t525 == t526) = true then ((prefix_Within.f t513 t514 t515 t517 t518 t519).bind fun t527 => ((turnpikeref3_Within.f k t513 t514 t515 t517 t518 t519).bind fun t528 => (if (t527 == t528) = true then ((prefix_First.f t513 t514 t515).bind fun bt529 => (if (bt529.1 == t513 && (bt529.2 == t514)) = true then ((prefix_Last.f t512 t513 t514 t515).bind fun bt531 => ((turnpikeref3_Last.f k t512 t513 t514 t515).bind fun bt533 => (some (bt531.1 == bt533.1 && (bt531.2 == bt533.2))))) else (some false))) else (some false)))) else (some false)))) else (some false)))) = some r := H
  have A9 := Aside0.mk A90
  clear A90
  replace H := Option.bind_eq_some_iff.mp H
  obtain ⟨⟨t521, t522, t523⟩, A100, H⟩ := H
  replace H : ((turnpikelaw3_known.f k).bind fun t524 => (if t524 = true then ((prefix_Has.f t513 t514 t515 t521 t522).bind fun t525 => ((turnpikeref3_Has.f k t513 t514 t515 t521 t522).bind fun t526 => (if (t525 == t526) = true then ((prefix_Within.f t513 t514 t515 t517 t518 t519).bind fun t527 => ((turnpikeref3_Within.f k t513 t514 t515 t517 t518 t519).bind fun t528 => (if (t527 == t528) = true then ((prefix_First.f t513 t514 t515).bind fun bt529 => (if (bt529.1 == t513 && (bt529.2 == t514)) = true then ((prefix_Last.f t512 t513 t514 t515).bind fun bt531 => ((turnpikeref3_Last.f k t512 t513 t514 t515).bind fun bt533 => (some (bt531.1 == bt533.1 && (bt531.2 == bt533.2))))) else (some false))) else (some false)))) else (some false)))) else (some false))) = some r := H
  have A10 := Aside0.mk A100
  clear A100
  replace H := Option.bind_eq_some_iff.mp H
  obtain ⟨t524, A110, H⟩ := H
  replace H : (if t524 = true then ((prefix_Has.f t513 t514 t515 t521 t522).bind fun t525 => ((turnpikeref3_Has.f k t513 t514 t515 t521 t522).bind fun t526 => (if (t525 == t526) = true then ((prefix_Within.f t513 t514 t515 t517 t518 t519).bind fun t527 => ((turnpikeref3_Within.f k t513 t514 t515 t517 t518 t519).bind fun t528 => (if (t527 == t528) = true then ((prefix_First.f t513 t514 t515).bind fun bt529 => (if (bt529.1 == t513 && (bt529.2 == t514)) = true then ((prefix_Last.f t512 t513 t514 t515).bind fun bt531 => ((turnpikeref3_Last.f k t512 t513 t514 t515).bind fun bt533 => (some (bt531.1 == bt533.1 && (bt531.2 == bt533.2))))) else (some false))) else (some false)))) else (some false)))) else (some false)) = some r := H
  have A11 := Aside0.mk A110
  clear A110
  by_cases c12 : t524 = true
  · subst c12
    have H1 : ((prefix_Has.f t513 t514 t515 t521 t522).bind fun t525 => ((turnpikeref3_Has.f k t513 t514 t515 t521 t522).bind fun t526 => (if (t525 == t526) = true then ((prefix_Within.f t513 t514 t515 t517 t518 t519).bind fun t527 => ((turnpikeref3_Within.f k t513 t514 t515 t517 t518 t519).bind fun t528 => (if (t527 == t528) = true then ((prefix_First.f t513 t514 t515).bind fun bt529 => (if (bt529.1 == t513 && (bt529.2 == t514)) = true then ((prefix_Last.f t512 t513 t514 t515).bind fun bt531 => ((turnpikeref3_Last.f k t512 t513 t514 t515).bind fun bt533 => (some (bt531.1 == bt533.1 && (bt531.2 == bt533.2))))) else (some false))) else (some false)))) else (some false)))) = some r := by rw [if_pos rfl] at H; exact H
    clear H
    have H := H1
    clear H1
    replace H := Option.bind_eq_some_iff.mp H
    obtain ⟨t525, A130, H⟩ := H
    replace H : ((turnpikeref3_Has.f k t513 t514 t515 t521 t522).bind fun t526 => (if (t525 == t526) = true then ((prefix_Within.f t513 t514 t515 t517 t518 t519).bind fun t527 => ((turnpikeref3_Within.f k t513 t514 t515 t517 t518 t519).bind fun t528 => (if (t527 == t528) = true then ((prefix_First.f t513 t514 t515).bind fun bt529 => (if (bt529.1 == t513 && (bt529.2 == t514)) = true then ((prefix_Last.f t512 t513 t514 t515).bind fun bt531 => ((turnpikeref3_Last.f k t512 t513 t514 t515).bind fun bt533 => (some (bt531.1 == bt533.1 && (bt531.2 == bt533.2))))) else (some false))) else (some false)))) else (some false))) = some r := H
    have A13 := Aside0.mk A130
    clear A130
    replace H := Option.bind_eq_some_iff.mp H
    obtain ⟨t526, A140, H⟩ := H
    replace H : (if (t525 == t526) = true then ((prefix_Within.f t513 t514 t515 t517 t518 t519).bind fun t527 => ((turnpikeref3_Within.f k t513 t514 t515 t517 t518 t519).bind fun t528 => (if (t527 == t528) = true then ((prefix_First.f t513 t514 t515).bind fun bt529 => (if (bt529.1 == t513 && (bt529.2 == t514)) = true then ((prefix_Last.f t512 t513 t514 t515).bind fun bt531 => ((turnpikeref3_Last.f k t512 t513 t514 t515).bind fun bt533 => (some (bt531.1 == bt533.1 && (bt531.2 == bt533.2))))) else (some false))) else (some false)))) else (some false)) = some r := H
    have A14 := Aside0.mk A140
    clear A140
    by_cases c15 : (t525 == t526) = true
    · rw [if_pos c15] at H
      have c15b0 : (t525 == t526) = true := c15
      (try (have c15b1 : decide (t525 = t526) = true := by simpa using c15))
      (try (have c15b2 : (t525 == t526) = true := by simpa using c15))
      clear c15
      replace H := Option.bind_eq_some_iff.mp H
      obtain ⟨t527, A160, H⟩ := H
      replace H : ((turnpikeref3_Within.f k t513 t514 t515 t517 t518 t519).bind fun t528 => (if (t527 == t528) = true then ((prefix_First.f t513 t514 t515).bind fun bt529 => (if (bt529.1 == t513 && (bt529.2 == t514)) = true then ((prefix_Last.f t512 t513 t514 t515).bind fun bt531 => ((turnpikeref3_Last.f k t512 t513 t514 t515).bind fun bt533 => (some (bt531.1 == bt533.1 && (bt531.2 == bt533.2))))) else (some false))) else (some false))) = some r := H
      have A16 := Aside0.mk A160
      clear A160
      replace H := Option.bind_eq_some_iff.mp H
      obtain ⟨t528, A170, H⟩ := H
      replace H : (if (t527 == t528) = true then ((prefix_First.f t513 t514 t515).bind fun bt529 => (if (bt529.1 == t513 && (bt529.2 == t514)) = true then ((prefix_Last.f t512 t513 t514 t515).bind fun bt531 => ((turnpikeref3_Last.f k t512 t513 t514 t515).bind fun bt533 => (some (bt531.1 == bt533.1 && (bt531.2 == bt533.2))))) else (some false))) else (some false)) = some r := H
      have A17 := Aside0.mk A170
      clear A170
      by_cases c18 : (t527 == t528) = true
      · rw [if_pos c18] at H
        have c18b0 : (t527 == t528) = true := c18
        (try (have c18b1 : decide (t527 = t528) = true := by simpa using c18))
        (try (have c18b2 : (t527 == t528) = true := by simpa using c18))
        clear c18
        replace H := Option.bind_eq_some_iff.mp H
        obtain ⟨⟨t529, t530⟩, A190, H⟩ := H
        replace H : (if (t529 == t513 && (t530 == t514)) = true then ((prefix_Last.f t512 t513 t514 t515).bind fun bt531 => ((turnpikeref3_Last.f k t512 t513 t514 t515).bind fun bt533 => (some (bt531.1 == bt533.1 && (bt531.2 == bt533.2))))) else (some false)) = some r := H
        have A19 := Aside0.mk A190
        clear A190
        by_cases c20 : (t529 == t513 && (t530 == t514)) = true
        · rw [if_pos c20] at H
          have c20b0 : (t529 == t513 && (t530 == t514)) = true := c20
          (try (have c20b1 : decide (t529 = t513 && (t530 == t514)) = true := by simpa using c20))
          (try (have c20b2 : (t529 == t513 && (t530 == t514)) = true := by simpa using c20))
          clear c20
          replace H := Option.bind_eq_some_iff.mp H
          obtain ⟨⟨t531, t532⟩, A210, H⟩ := H
          replace H : ((turnpikeref3_Last.f k t512 t513 t514 t515).bind fun bt533 => (some (t531 == bt533.1 && (t532 == bt533.2)))) = some r := H
          have A21 := Aside0.mk A210
          clear A210
          replace H := Option.bind_eq_some_iff.mp H
          obtain ⟨⟨t533, t534⟩, A220, H⟩ := H
          replace H : (some (t531 == t533 && (t532 == t534))) = some r := H
          have A22 := Aside0.mk A220
          clear A220
          obtain rfl := Option.some.inj H
          go_enter Tryd.func7, Tryd.ntmps7
          try go_wp2_with (first | ((with_reducible refine gate_dst (N := 7) rfl ?_); refine box_event ?hg (N := 7) ?hd (cs := #[.int .u64 a1_0, .int .u64 a1_1]) (t := 24) ?hr ?_; (case hd => rfl); (case hg => rfl); (case hr => first | (go_simp; done) | (go_simp; rfl)); intro gb509 hg w23 hbox hb; have n0_ := Aside0.mk (below_step xB hb); have n1_ := Aside0.mk (hbox); have n2_ := Aside0.mk ((by rw [hg]; exact (below_size xB) : w.heap.size ≤ gb509)); have n3_ := Aside0.mk ((by rw [hg]; exact (below_size xB) : w.heap.size ≤ gb509)); clear HB; have HB := n0_; have BK509 := n1_; have GW509 := n2_; have GE509 := n3_; clear n0_ n1_ n2_ n3_; clear hb hbox hg) | ((with_reducible refine gate_dst (N := 9) rfl ?_); refine box_event ?hg (N := 9) ?hd (cs := #[.int .u64 a3_0, .int .u64 a3_1]) (t := 24) ?hr ?_; (case hd => rfl); (case hg => rfl); (case hr => first | (go_simp; done) | (go_simp; rfl)); intro gb510 hg w24 hbox hb; have n0_ := Aside0.mk (blk_below (g := gb509) (o := .cells #[.int .u64 a1_0, .int .u64 a1_1] 24 (0, 0)) (xK BK509.out) hb); have n1_ := Aside0.mk (below_step xG hb); have n2_ := Aside0.mk (hbox); have n3_ := Aside0.mk ((by rw [hg]; exact (below_size xG) : w.heap.size ≤ gb510)); have n4_ := Aside0.mk ((by rw [hg]; exact (below_size xG) : w.heap.size ≤ gb510)); have n5_ := Aside0.mk ((xN BK509.out : gb509 ≠ gb510)); have n6_ := Aside0.mk ((xN BK509.out : gb510 ≠ gb509)); clear BK509; clear HB; have BK509 := n0_; have HB := n1_; have BK510 := n2_; have GW510 := n3_; have GE510 := n4_; have NB509_510 := n5_; have NB510_509 := n6_; clear n0_ n1_ n2_ n3_ n4_ n5_ n6_; clear hb hbox hg) | ((with_reducible refine gate_dst (N := 11) rfl ?_); refine box_event ?hg (N := 11) ?hd (cs := #[.int .u64 a5_0, .int .u64 a5_1]) (t := 24) ?hr ?_; (case hd => rfl); (case hg => rfl); (case hr => first | (go_simp; done) | (go_simp; rfl)); intro gb511 hg w25 hbox hb; have n0_ := Aside0.mk (blk_below (g := gb509) (o := .cells #[.int .u64 a1_0, .int .u64 a1_1] 24 (0, 0)) (xK BK509.out) hb); have n1_ := Aside0.mk (blk_below (g := gb510) (o := .cells #[.int .u64 a3_0, .int .u64 a3_1] 24 (0, 0)) (xK BK510.out) hb); have n2_ := Aside0.mk (below_step xG hb); have n3_ := Aside0.mk (hbox); have n4_ := Aside0.mk ((by rw [hg]; exact (below_size xG) : w.heap.size ≤ gb511)); have n5_ := Aside0.mk ((by rw [hg]; exact (below_size xG) : w.heap.size ≤ gb511)); have n6_ := Aside0.mk ((xN BK509.out : gb509 ≠ gb511)); have n7_ := Aside0.mk ((xN BK509.out : gb511 ≠ gb509)); have n8_ := Aside0.mk ((xN BK510.out : gb510 ≠ gb511)); have n9_ := Aside0.mk ((xN BK510.out : gb511 ≠ gb510)); clear BK509; clear BK510; clear HB; have BK509 := n0_; have BK510 := n1_; have HB := n2_; have BK511 := n3_; have GW511 := n4_; have GE511 := n5_; have NB509_511 := n6_; have NB511_509 := n7_; have NB510_511 := n8_; have NB511_510 := n9_; clear n0_ n1_ n2_ n3_ n4_ n5_ n6_ n7_ n8_ n9_; clear hb hbox hg) | ((with_reducible refine gate_callee (f := 15) rfl ?_); refine goesL_ (some 17) rfl rfl Tryd.func15 (by kernel_rfl) rfl #[.bool a0] rfl xM ?_; (with_reducible refine (turnpikelaw3_Family.calls a0 t512 _ A7.out).mono ?_); rintro e w' ⟨rfl, ⟨nd, rfl⟩⟩; refine ⟨_, rfl, ?_⟩; (try (rw [drewN_self w25]; generalize hq_ : World.drewN w25 _ = w25; have n0_ : Aside0 (w25.heap[gb509]? = some (.cells #[.int .u64 a1_0, .int .u64 a1_1] 24 (0, 0))) := ⟨by rw [← hq_]; exact (xK BK509.out)⟩; have n1_ : Aside0 (w25.heap[gb510]? = some (.cells #[.int .u64 a3_0, .int .u64 a3_1] 24 (0, 0))) := ⟨by rw [← hq_]; exact (xK BK510.out)⟩; have n2_ : Aside0 (w25.heap[gb511]? = some (.cells #[.int .u64 a5_0, .int .u64 a5_1] 24 (0, 0))) := ⟨by rw [← hq_]; exact (xK BK511.out)⟩; have n3_ : Aside0 (Below w.heap.size w w25) := ⟨by rw [← hq_]; exact xG⟩; clear BK509 BK510 BK511 HB hq_; have BK509 := n0_; have BK510 := n1_; have BK511 := n2_; have HB := n3_; clear n0_ n1_ n2_ n3_)); have hnb26 := NB509_510.out; have hnc26 := NB510_509.out; have hnb27 := NB509_511.out; have hnc27 := NB511_509.out; have hcz28_0 : w25.cell? ⟨gb509, 0, none⟩ = some (.int .u64 a1_0) := (blk_cell BK509.out 0).trans rfl; have hcz28_1 : w25.cell? ⟨gb509, 1, none⟩ = some (.int .u64 a1_1) := (blk_cell BK509.out 1).trans rfl; have hfz28_0 := blk_frozen BK509.out 0; have hfz28_1 := blk_frozen BK509.out 1) | ((with_reducible refine gate_callee (f := 16) rfl ?_); refine goesL_ (some 21) rfl rfl Tryd.func16 (by kernel_rfl) rfl #[.int .i64 t512, .agg #[.int .u64 a1_0, .int .u64 a1_1], .int .i64 a2] rfl xM ?_; (with_reducible refine (turnpikelaw3_Some.calls k t512 a1_0 a1_1 a2 t513 t514 t515 _ A8.out).mono ?_); rintro e w29 ⟨rfl, hb⟩; refine ⟨_, rfl, ?_⟩; have n0_ := Aside0.mk (blk_below (g := gb509) (o := .cells #[.int .u64 a1_0, .int .u64 a1_1] 24 (0, 0)) (xK BK509.out) hb); have n1_ := Aside0.mk (blk_below (g := gb510) (o := .cells #[.int .u64 a3_0, .int .u64 a3_1] 24 (0, 0)) (xK BK510.out) hb); have n2_ := Aside0.mk (blk_below (g := gb511) (o := .cells #[.int .u64 a5_0, .int .u64 a5_1] 24 (0, 0)) (xK BK511.out) hb); have n3_ := Aside0.mk (below_step xG hb); clear BK509; clear BK510; clear BK511; clear HB; have BK509 := n0_; have BK510 := n1_; have BK511 := n2_; have HB := n3_; clear n0_ n1_ n2_ n3_; (try clear hb); (try clear hb2); (try clear hk); (try clear hi)) | ((with_reducible refine gate_dst (N := 14) rfl ?_); refine box_event ?hg (N := 14) ?hd (cs := #[.int .u64 0, .int .u64 0, .int .i64 0]) (t := 28) ?hr ?_; (case hd => rfl); (case hg => rfl); (case hr => first | (go_simp; done) | (go_simp; rfl)); intro gb516 hg w30 hbox hb; have n0_ := Aside0.mk (blk_below (g := gb509) (o := .cells #[.int .u64 a1_0, .int .u64 a1_1] 24 (0, 0)) (xK BK509.out) hb); have n1_ := Aside0.mk (blk_below (g := gb510) (o := .cells #[.int .u64 a3_0, .int .u64 a3_1] 24 (0, 0)) (xK BK510.out) hb); have n2_ := Aside0.mk (blk_below (g := gb511) (o := .cells #[.int .u64 a5_0, .int .u64 a5_1] 24 (0, 0)) (xK BK511.out) hb); have n3_ := Aside0.mk (below_step xG hb); have n4_ := Aside0.mk (hbox); have n5_ := Aside0.mk ((by rw [hg]; exact (below_size xG) : w.heap.size ≤ gb516)); have n6_ := Aside0.mk ((by rw [hg]; exact (below_size xG) : w.heap.size ≤ gb516)); have n7_ := Aside0.mk ((xN BK509.out : gb509 ≠ gb516)); have n8_ := Aside0.mk ((xN BK509.out : gb516 ≠ gb509)); have n9_ := Aside0.mk ((xN BK510.out : gb510 ≠ gb516)); have n10_ := Aside0.mk ((xN BK510.out : gb516 ≠ gb510)); have n11_ := Aside0.mk ((xN BK511.out : gb511 ≠ gb516)); have n12_ := Aside0.mk ((xN BK511.out : gb516 ≠ gb511)); clear BK509; clear BK510; clear BK511; clear HB; have BK509 := n0_; have BK510 := n1_; have BK511 := n2_; have HB := n3_; have BK516 := n4_; have GW516 := n5_; have GE516 := n6_; have NB509_516 := n7_; have NB516_509 := n8_; have NB510_516 := n9_; have NB516_510 := n10_; have NB511_516 := n11_; have NB516_511 := n12_; clear n0_ n1_ n2_ n3_ n4_ n5_ n6_ n7_ n8_ n9_ n10_ n11_ n12_; clear hb hbox hg; have hnb31 := NB516_509.out; have hnc31 := NB509_516.out; have hnb32 := NB516_510.out; have hnc32 := NB510_516.out; have hnb33 := NB516_511.out; have hnc33 := NB511_516.out; have hcz34_0 : w30.cell? ⟨gb516, 0, none⟩ = some (.int .u64 0) := (blk_cell BK516.out 0).trans rfl; have hcz34_1 : w30.cell? ⟨gb516, 1, none⟩ = some (.int .u64 0) := (blk_cell BK516.out 1).trans rfl; have hcz34_2 : w30.cell? ⟨gb516, 2, none⟩ = some (.int .i64 0) := (blk_cell BK516.out 2).trans rfl; have hfz34_0 := blk_frozen BK516.out 0; have hfz34_1 := blk_frozen BK516.out 1; have hfz34_2 := blk_frozen BK516.out 2; have hnb35 := NB510_511.out; have hnc35 := NB511_510.out; have hcz36_0 : w30.cell? ⟨gb510, 0, none⟩ = some (.int .u64 a3_0) := (blk_cell BK510.out 0).trans rfl; have hcz36_1 : w30.cell? ⟨gb510, 1, none⟩ = some (.int .u64 a3_1) := (blk_cell BK510.out 1).trans rfl; have hfz36_0 := blk_frozen BK510.out 0; have hfz36_1 := blk_frozen BK510.out 1) | ((with_reducible refine gate_callee (f := 16) rfl ?_); refine goesL_ (some 25) rfl rfl Tryd.func16 (by kernel_rfl) rfl #[.int .i64 t512, .agg #[.int .u64 a3_0, .int .u64 a3_1], .int .i64 a4] rfl xM ?_; (with_reducible refine (turnpikelaw3_Some.calls k t512 a3_0 a3_1 a4 t517 t518 t519 _ A9.out).mono ?_); rintro e w37 ⟨rfl, hb⟩; refine ⟨_, rfl, ?_⟩; have n0_ := Aside0.mk (blk_below (g := gb509) (o := .cells #[.int .u64 a1_0, .int .u64 a1_1] 24 (0, 0)) (by (with_reducible repeat (first | refine blk_drewN ?_ _ | refine blk_drew ?_ | refine blk_alloc ?_ _)); refine blk_far ?_ NB509_516.out _; (with_reducible repeat (first | refine blk_drewN ?_ _ | refine blk_drew ?_ | refine blk_alloc ?_ _)); refine blk_far ?_ NB509_516.out _; (with_reducible repeat (first | refine blk_drewN ?_ _ | refine blk_drew ?_ | refine blk_alloc ?_ _)); refine blk_far ?_ NB509_516.out _; (with_reducible repeat (first | refine blk_drewN ?_ _ | refine blk_drew ?_ | refine blk_alloc ?_ _)); exact BK509.out) hb); have n1_ := Aside0.mk (blk_below (g := gb510) (o := .cells #[.int .u64 a3_0, .int .u64 a3_1] 24 (0, 0)) (by (with_reducible repeat (first | refine blk_drewN ?_ _ | refine blk_drew ?_ | refine blk_alloc ?_ _)); refine blk_far ?_ NB510_516.out _; (with_reducible repeat (first | refine blk_drewN ?_ _ | refine blk_drew ?_ | refine blk_alloc ?_ _)); refine blk_far ?_ NB510_516.out _; (with_reducible repeat (first | refine blk_drewN ?_ _ | refine blk_drew ?_ | refine blk_alloc ?_ _)); refine blk_far ?_ NB510_516.out _; (with_reducible repeat (first | refine blk_drewN ?_ _ | refine blk_drew ?_ | refine blk_alloc ?_ _)); exact BK510.out) hb); have n2_ := Aside0.mk (blk_below (g := gb511) (o := .cells #[.int .u64 a5_0, .int .u64 a5_1] 24 (0, 0)) (by (with_reducible repeat (first | refine blk_drewN ?_ _ | refine blk_drew ?_ | refine blk_alloc ?_ _)); refine blk_far ?_ NB511_516.out _; (with_reducible repeat (first | refine blk_drewN ?_ _ | refine blk_drew ?_ | refine blk_alloc ?_ _)); refine blk_far ?_ NB511_516.out _; (with_reducible repeat (first | refine blk_drewN ?_ _ | refine blk_drew ?_ | refine blk_alloc ?_ _)); refine blk_far ?_ NB511_516.out _; (with_reducible repeat (first | refine blk_drewN ?_ _ | refine blk_drew ?_ | refine blk_alloc ?_ _)); exact BK511.out) hb); have n3_ := Aside0.mk (blk_below (g := gb516) (o := .cells #[.int .u64 t513, .int .u64 t514, .int .i64 t515] 28 (0, 0)) (by (with_reducible repeat (first | refine blk_drewN ?_ _ | refine blk_drew ?_ | refine blk_alloc ?_ _)); refine blk_put (cs := #[.int .u64 t513, .int .u64 t514, .int .i64 0]) ?_ 2 _ rfl; (with_reducible repeat (first | refine blk_drewN ?_ _ | refine blk_drew ?_ | refine blk_alloc ?_ _)); refine blk_put (cs := #[.int .u64 t513, .int .u64 0, .int .i64 0]) ?_ 1 _ rfl; (with_reducible repeat (first | refine blk_drewN ?_ _ | refine blk_drew ?_ | refine blk_alloc ?_ _)); refine blk_put (cs := #[.int .u64 0, .int .u64 0, .int .i64 0]) ?_ 0 _ rfl; (with_reducible repeat (first | refine blk_drewN ?_ _ | refine blk_drew ?_ | refine blk_alloc ?_ _)); exact BK516.out) hb); have n4_ := Aside0.mk (below_step xG hb); clear BK509; clear BK510; clear BK511; clear BK516; clear HB; have BK509 := n0_; have BK510 := n1_; have BK511 := n2_; have BK516 := n3_; have HB := n4_; clear n0_ n1_ n2_ n3_ n4_; (try clear hb); (try clear hb2); (try clear hk); (try clear hi)) | ((with_reducible refine gate_dst (N := 15) rfl ?_); refine box_event ?hg (N := 15) ?hd (cs := #[.int .u64 0, .int .u64 0, .int .i64 0]) (t := 28) ?hr ?_; (case hd => rfl); (case hg => rfl); (case hr => first | (go_simp; done) | (go_simp; rfl)); intro gb520 hg w38 hbox hb; have n0_ := Aside0.mk (blk_below (g := gb509) (o := .cells #[.int .u64 a1_0, .int .u64 a1_1] 24 (0, 0)) (xK BK509.out) hb); have n1_ := Aside0.mk (blk_below (g := gb510) (o := .cells #[.int .u64 a3_0, .int .u64 a3_1] 24 (0, 0)) (xK BK510.out) hb); have n2_ := Aside0.mk (blk_below (g := gb511) (o := .cells #[.int .u64 a5_0, .int .u64 a5_1] 24 (0, 0)) (xK BK511.out) hb); have n3_ := Aside0.mk (blk_below (g := gb516) (o := .cells #[.int .u64 t513, .int .u64 t514, .int .i64 t515] 28 (0, 0)) (xK BK516.out) hb); have n4_ := Aside0.mk (below_step xG hb); have n5_ := Aside0.mk (hbox); have n6_ := Aside0.mk ((by rw [hg]; exact (below_size xG) : w.heap.size ≤ gb520)); have n7_ := Aside0.mk ((by rw [hg]; exact (below_size xG) : w.heap.size ≤ gb520)); have n8_ := Aside0.mk ((xN BK509.out : gb509 ≠ gb520)); have n9_ := Aside0.mk ((xN BK509.out : gb520 ≠ gb509)); have n10_ := Aside0.mk ((xN BK510.out : gb510 ≠ gb520)); have n11_ := Aside0.mk ((xN BK510.out : gb520 ≠ gb510)); have n12_ := Aside0.mk ((xN BK511.out : gb511 ≠ gb520)); have n13_ := Aside0.mk ((xN BK511.out : gb520 ≠ gb511)); have n14_ := Aside0.mk ((xN BK516.out : gb516 ≠ gb520)); have n15_ := Aside0.mk ((xN BK516.out : gb520 ≠ gb516)); clear BK509; clear BK510; clear BK511; clear BK516; clear HB; have BK509 := n0_; have BK510 := n1_; have BK511 := n2_; have BK516 := n3_; have HB := n4_; have BK520 := n5_; have GW520 := n6_; have GE520 := n7_; have NB509_520 := n8_; have NB520_509 := n9_; have NB510_520 := n10_; have NB520_510 := n11_; have NB511_520 := n12_; have NB520_511 := n13_; have NB516_520 := n14_; have NB520_516 := n15_; clear n0_ n1_ n2_ n3_ n4_ n5_ n6_ n7_ n8_ n9_ n10_ n11_ n12_ n13_ n14_ n15_; clear hb hbox hg; have hnb39 := NB520_509.out; have hnc39 := NB509_520.out; have hnb40 := NB520_510.out; have hnc40 := NB510_520.out; have hnb41 := NB520_511.out; have hnc41 := NB511_520.out; have hnb42 := NB520_516.out; have hnc42 := NB516_520.out; have hcz43_0 : w38.cell? ⟨gb520, 0, none⟩ = some (.int .u64 0) := (blk_cell BK520.out 0).trans rfl; have hcz43_1 : w38.cell? ⟨gb520, 1, none⟩ = some (.int .u64 0) := (blk_cell BK520.out 1).trans rfl; have hcz43_2 : w38.cell? ⟨gb520, 2, none⟩ = some (.int .i64 0) := (blk_cell BK520.out 2).trans rfl; have hfz43_0 := blk_frozen BK520.out 0; have hfz43_1 := blk_frozen BK520.out 1; have hfz43_2 := blk_frozen BK520.out 2; have hcz44_0 : w38.cell? ⟨gb511, 0, none⟩ = some (.int .u64 a5_0) := (blk_cell BK511.out 0).trans rfl; have hcz44_1 : w38.cell? ⟨gb511, 1, none⟩ = some (.int .u64 a5_1) := (blk_cell BK511.out 1).trans rfl; have hfz44_0 := blk_frozen BK511.out 0; have hfz44_1 := blk_frozen BK511.out 1) | ((with_reducible refine gate_callee (f := 17) rfl ?_); refine goesL_ (some 29) rfl rfl Tryd.func17 (by kernel_rfl) rfl #[.int .i64 t512, .agg #[.int .u64 a5_0, .int .u64 a5_1]] rfl xM ?_; (with_reducible refine (turnpikelaw3_clip.calls k t512 a5_0 a5_1 t521 t522 t523 _ A10.out).mono ?_); rintro e w45 ⟨rfl, hb⟩; refine ⟨_, rfl, ?_⟩; have n0_ := Aside0.mk (blk_below (g := gb509) (o := .cells #[.int .u64 a1_0, .int .u64 a1_1] 24 (0, 0)) (by (with_reducible repeat (first | refine blk_drewN ?_ _ | refine blk_drew ?_ | refine blk_alloc ?_ _)); refine blk_far ?_ NB509_520.out _; (with_reducible repeat (first | refine blk_drewN ?_ _ | refine blk_drew ?_ | refine blk_alloc ?_ _)); refine blk_far ?_ NB509_520.out _; (with_reducible repeat (first | refine blk_drewN ?_ _ | refine blk_drew ?_ | refine blk_alloc ?_ _)); refine blk_far ?_ NB509_520.out _; (with_reducible repeat (first | refine blk_drewN ?_ _ | refine blk_drew ?_ | refine blk_alloc ?_ _)); exact BK509.out) hb); have n1_ := Aside0.mk (blk_below (g := gb510) (o := .cells #[.int .u64 a3_0, .int .u64 a3_1] 24 (0, 0)) (by (with_reducible repeat (first | refine blk_drewN ?_ _ | refine blk_drew ?_ | refine blk_alloc ?_ _)); refine blk_far ?_ NB510_520.out _; (with_reducible repeat (first | refine blk_drewN ?_ _ | refine blk_drew ?_ | refine blk_alloc ?_ _)); refine blk_far ?_ NB510_520.out _; (with_reducible repeat (first | refine blk_drewN ?_ _ | refine blk_drew ?_ | refine blk_alloc ?_ _)); refine blk_far ?_ NB510_520.out _; (with_reducible repeat (first | refine blk_drewN ?_ _ | refine blk_drew ?_ | refine blk_alloc ?_ _)); exact BK510.out) hb); have n2_ := Aside0.mk (blk_below (g := gb511) (o := .cells #[.int .u64 a5_0, .int .u64 a5_1] 24 (0, 0)) (by (with_reducible repeat (first | refine blk_drewN ?_ _ | refine blk_drew ?_ | refine blk_alloc ?_ _)); refine blk_far ?_ NB511_520.out _; (with_reducible repeat (first | refine blk_drewN ?_ _ | refine blk_drew ?_ | refine blk_alloc ?_ _)); refine blk_far ?_ NB511_520.out _; (with_reducible repeat (first | refine blk_drewN ?_ _ | refine blk_drew ?_ | refine blk_alloc ?_ _)); refine blk_far ?_ NB511_520.out _; (with_reducible repeat (first | refine blk_drewN ?_ _ | refine blk_drew ?_ | refine blk_alloc ?_ _)); exact BK511.out) hb); have n3_ := Aside0.mk (blk_below (g := gb516) (o := .cells #[.int .u64 t513, .int .u64 t514, .int .i64 t515] 28 (0, 0)) (by (with_reducible repeat (first | refine blk_drewN ?_ _ | refine blk_drew ?_ | refine blk_alloc ?_ _)); refine blk_far ?_ NB516_520.out _; (with_reducible repeat (first | refine blk_drewN ?_ _ | refine blk_drew ?_ | refine blk_alloc ?_ _)); refine blk_far ?_ NB516_520.out _; (with_reducible repeat (first | refine blk_drewN ?_ _ | refine blk_drew ?_ | refine blk_alloc ?_ _)); refine blk_far ?_ NB516_520.out _; (with_reducible repeat (first | refine blk_drewN ?_ _ | refine blk_drew ?_ | refine blk_alloc ?_ _)); exact BK516.out) hb); have n4_ := Aside0.mk (blk_below (g := gb520) (o := .cells #[.int .u64 t517, .int .u64 t518, .int .i64 t519] 28 (0, 0)) (by (with_reducible repeat (first | refine blk_drewN ?_ _ | refine blk_drew ?_ | refine blk_alloc ?_ _)); refine blk_put (cs := #[.int .u64 t517, .int .u64 t518, .int .i64 0]) ?_ 2 _ rfl; (with_reducible repeat (first | refine blk_drewN ?_ _ | refine blk_drew ?_ | refine blk_alloc ?_ _)); refine blk_put (cs := #[.int .u64 t517, .int .u64 0, .int .i64 0]) ?_ 1 _ rfl; (with_reducible repeat (first | refine blk_drewN ?_ _ | refine blk_drew ?_ | refine blk_alloc ?_ _)); refine blk_put (cs := #[.int .u64 0, .int .u64 0, .int .i64 0]) ?_ 0 _ rfl; (with_reducible repeat (first | refine blk_drewN ?_ _ | refine blk_drew ?_ | refine blk_alloc ?_ _)); exact BK520.out) hb); have n5_ := Aside0.mk (below_step xG hb); clear BK509; clear BK510; clear BK511; clear BK516; clear BK520; clear HB; have BK509 := n0_; have BK510 := n1_; have BK511 := n2_; have BK516 := n3_; have BK520 := n4_; have HB := n5_; clear n0_ n1_ n2_ n3_ n4_ n5_; (try clear hb); (try clear hb2); (try clear hk); (try clear hi); have hcz46_0 : w45.cell? ⟨gb511, 0, none⟩ = some (.int .u64 a5_0) := (blk_cell BK511.out 0).trans rfl; have hcz46_1 : w45.cell? ⟨gb511, 1, none⟩ = some (.int .u64 a5_1) := (blk_cell BK511.out 1).trans rfl; have hfz46_0 := blk_frozen BK511.out 0; have hfz46_1 := blk_frozen BK511.out 1))
          have n0_ : Aside0 (((w45.setCell ⟨gb511, 0, none⟩ (.int .u64 t521)).setCell ⟨gb511, 1, none⟩ (.int .u64 t522)).heap[gb509]? = some (.cells #[.int .u64 a1_0, .int .u64 a1_1] 24 (0, 0))) := ⟨by (with_reducible repeat (first | refine blk_drewN ?_ _ | refine blk_drew ?_ | refine blk_alloc ?_ _)); refine blk_far ?_ NB509_511.out _; (with_reducible repeat (first | refine blk_drewN ?_ _ | refine blk_drew ?_ | refine blk_alloc ?_ _)); refine blk_far ?_ NB509_511.out _; (with_reducible repeat (first | refine blk_drewN ?_ _ | refine blk_drew ?_ | refine blk_alloc ?_ _)); exact BK509.out⟩
          have n1_ : Aside0 (((w45.setCell ⟨gb511, 0, none⟩ (.int .u64 t521)).setCell ⟨gb511, 1, none⟩ (.int .u64 t522)).heap[gb510]? = some (.cells #[.int .u64 a3_0, .int .u64 a3_1] 24 (0, 0))) := ⟨by (with_reducible repeat (first | refine blk_drewN ?_ _ | refine blk_drew ?_ | refine blk_alloc ?_ _)); refine blk_far ?_ NB510_511.out _; (with_reducible repeat (first | refine blk_drewN ?_ _ | refine blk_drew ?_ | refine blk_alloc ?_ _)); refine blk_far ?_ NB510_511.out _; (with_reducible repeat (first | refine blk_drewN ?_ _ | refine blk_drew ?_ | refine blk_alloc ?_ _)); exact BK510.out⟩
          have n2_ : Aside0 (((w45.setCell ⟨gb511, 0, none⟩ (.int .u64 t521)).setCell ⟨gb511, 1, none⟩ (.int .u64 t522)).heap[gb511]? = some (.cells #[.int .u64 t521, .int .u64 t522] 24 (0, 0))) := ⟨by (with_reducible repeat (first | refine blk_drewN ?_ _ | refine blk_drew ?_ | refine blk_alloc ?_ _)); refine blk_put (cs := #[.int .u64 t521, .int .u64 a5_1]) ?_ 1 _ rfl; (with_reducible repeat (first | refine blk_drewN ?_ _ | refine blk_drew ?_ | refine blk_alloc ?_ _)); refine blk_put (cs := #[.int .u64 a5_0, .int .u64 a5_1]) ?_ 0 _ rfl; (with_reducible repeat (first | refine blk_drewN ?_ _ | refine blk_drew ?_ | refine blk_alloc ?_ _)); exact BK511.out⟩
          have n3_ : Aside0 (((w45.setCell ⟨gb511, 0, none⟩ (.int .u64 t521)).setCell ⟨gb511, 1, none⟩ (.int .u64 t522)).heap[gb516]? = some (.cells #[.int .u64 t513, .int .u64 t514, .int .i64 t515] 28 (0, 0))) := ⟨by (with_reducible repeat (first | refine blk_drewN ?_ _ | refine blk_drew ?_ | refine blk_alloc ?_ _)); refine blk_far ?_ NB516_511.out _; (with_reducible repeat (first | refine blk_drewN ?_ _ | refine blk_drew ?_ | refine blk_alloc ?_ _)); refine blk_far ?_ NB516_511.out _; (with_reducible repeat (first | refine blk_drewN ?_ _ | refine blk_drew ?_ | refine blk_alloc ?_ _)); exact BK516.out⟩
          have n4_ : Aside0 (((w45.setCell ⟨gb511, 0, none⟩ (.int .u64 t521)).setCell ⟨gb511, 1, none⟩ (.int .u64 t522)).heap[gb520]? = some (.cells #[.int .u64 t517, .int .u64 t518, .int .i64 t519] 28 (0, 0))) := ⟨by (with_reducible repeat (first | refine blk_drewN ?_ _ | refine blk_drew ?_ | refine blk_alloc ?_ _)); refine blk_far ?_ NB520_511.out _; (with_reducible repeat (first | refine blk_drewN ?_ _ | refine blk_drew ?_ | refine blk_alloc ?_ _)); refine blk_far ?_ NB520_511.out _; (with_reducible repeat (first | refine blk_drewN ?_ _ | refine blk_drew ?_ | refine blk_alloc ?_ _)); exact BK520.out⟩
          have n5_ : Aside0 (Below w.heap.size w ((w45.setCell ⟨gb511, 0, none⟩ (.int .u64 t521)).setCell ⟨gb511, 1, none⟩ (.int .u64 t522))) := ⟨xG⟩
          (try clear BK509)
          (try clear BK510)
          (try clear BK511)
          (try clear BK516)
          (try clear BK520)
          (try clear HB)
          generalize ((w45.setCell ⟨gb511, 0, none⟩ (.int .u64 t521)).setCell ⟨gb511, 1, none⟩ (.int .u64 t522)) = w47 at n0_ n1_ n2_ n3_ n4_ n5_ ⊢
          have BK509 := n0_
          have BK510 := n1_
          have BK511 := n2_
          have BK516 := n3_
          have BK520 := n4_
          have HB := n5_
          clear n0_ n1_ n2_ n3_ n4_ n5_
          have n0_ := Aside0.mk (blk_drew BK509.out)
          have n1_ := Aside0.mk (blk_drew BK510.out)
          have n2_ := Aside0.mk (blk_drew BK511.out)
          have n3_ := Aside0.mk (blk_drew BK516.out)
          have n4_ := Aside0.mk (blk_drew BK520.out)
          have n5_ := Aside0.mk (below_drew1 HB.out)
          clear BK509
          clear BK510
          clear BK511
          clear BK516
          clear BK520
          clear HB
          have BK509 := n0_
          have BK510 := n1_
          have BK511 := n2_
          have BK516 := n3_
          have BK520 := n4_
          have HB := n5_
          clear n0_ n1_ n2_ n3_ n4_ n5_
          refine start_ (n := 36) (S := fun w' => w'.cell? ⟨gb516, 0, none⟩ = some (.int .u64 t513) ∧ w'.cell? ⟨gb516, 1, none⟩ = some (.int .u64 t514) ∧ w'.cell? ⟨gb516, 2, none⟩ = some (.int .i64 t515) ∧ w'.cell? ⟨gb511, 0, none⟩ = some (.int .u64 t521) ∧ w'.cell? ⟨gb511, 1, none⟩ = some (.int .u64 t522) ∧ w'.cell? ⟨gb520, 0, none⟩ = some (.int .u64 t517) ∧ w'.cell? ⟨gb520, 1, none⟩ = some (.int .u64 t518) ∧ w'.cell? ⟨gb520, 2, none⟩ = some (.int .i64 t519)) (ds := []) #[false, false, false, false, false, false, false, false, false, false, false, false, false, false, false, false, false, false, false, false, false, false, false, false, false, false, false, false, false, false, false, false, false, false, false, false] (by kernel_rfl) rfl rfl ⟨(blk_cell BK516.out 0).trans rfl, (blk_cell BK516.out 1).trans rfl, (blk_cell BK516.out 2).trans rfl, (blk_cell BK511.out 0).trans rfl, (blk_cell BK511.out 1).trans rfl, (blk_cell BK520.out 0).trans rfl, (blk_cell BK520.out 1).trans rfl, (blk_cell BK520.out 2).trans rfl⟩ (fun hHeld => ?_); refine with_tabW turnpikelaw3_PrefixHas.tab5 turnpikelaw3_PrefixHas.bits5 (fun HT_ HW_ => ?_)
          generalize w47.drew = w48 at BK509 BK510 BK511 BK516 BK520 HB hHeld ⊢
          refine one_ (i := 0) (N := some 32) #[true, false, false, false, false, false, false, false, false, false, false, false, false, false, false, false, false, false, false, false, false, false, false, false, false, false, false, false, false, false, false, false, false, false, false, false] rfl rfl (one_of HT_.out (by kernel_rfl)) (by decide) (fun K hK => ?_)
          refine goes_ Tryd.func14 (by kernel_rfl) rfl #[] (by rfl) rfl rfl xM ?_
          with_reducible refine (turnpikelaw3_known.calls k  true _ ?side1 A11.out).mono ?_
          (case side1 => first | exact MLOk.below HML.out xG | (repeat (first | exact HML.out | (with_reducible refine MLOk.alloc ?_ _) | (with_reducible refine MLOk.drewN ?_ _) | (with_reducible refine MLOk.drew ?_))))
          rintro e w49 ⟨rfl, hb⟩
          refine ⟨_, rfl, ?_⟩
          have n0_ := Aside0.mk (blk_below (g := gb509) (o := .cells #[.int .u64 a1_0, .int .u64 a1_1] 24 (0, 0)) (xK BK509.out) hb)
          have n1_ := Aside0.mk (blk_below (g := gb510) (o := .cells #[.int .u64 a3_0, .int .u64 a3_1] 24 (0, 0)) (xK BK510.out) hb)
          have n2_ := Aside0.mk (blk_below (g := gb511) (o := .cells #[.int .u64 t521, .int .u64 t522] 24 (0, 0)) (xK BK511.out) hb)
          have n3_ := Aside0.mk (blk_below (g := gb516) (o := .cells #[.int .u64 t513, .int .u64 t514, .int .i64 t515] 28 (0, 0)) (xK BK516.out) hb)
          have n4_ := Aside0.mk (blk_below (g := gb520) (o := .cells #[.int .u64 t517, .int .u64 t518, .int .i64 t519] 28 (0, 0)) (xK BK520.out) hb)
          have n5_ := Aside0.mk (below_step xG hb)
          clear BK509
          clear BK510
          clear BK511
          clear BK516
          clear BK520
          clear HB
          have BK509 := n0_
          have BK510 := n1_
          have BK511 := n2_
          have BK516 := n3_
          have BK520 := n4_
          have HB := n5_
          clear n0_ n1_ n2_ n3_ n4_ n5_
          (try clear hb)
          (try clear hb2)
          (try clear hk)
          (try clear hi)
          refine hK.out _ _ ⟨(blk_cell BK516.out 0).trans rfl, (blk_cell BK516.out 1).trans rfl, (blk_cell BK516.out 2).trans rfl, (blk_cell BK511.out 0).trans rfl, (blk_cell BK511.out 1).trans rfl, (blk_cell BK520.out 0).trans rfl, (blk_cell BK520.out 1).trans rfl, (blk_cell BK520.out 2).trans rfl⟩ (fun hHeld => ?_)
          clear hK K
          refine norm_ (a' := ?_) ?_ ?_
          rotate_left
          · show Act.put _ (some 32) _ = _
            simp only [Act.put, List.setIfInBounds_toArray, List.set_cons_zero, List.set_cons_succ, i64_w, i32_w]
            rfl
          refine pure_ (i := 1) (N := some 33) (v := ?_) (a' := ?_) #[true, true, false, false, false, false, false, false, false, false, false, false, false, false, false, false, false, false, false, false, false, false, false, false, false, false, false, false, false, false, false, false, false, false, false, false] rfl rfl (any_of HT_.out (by kernel_rfl)) (fun _ _ _ h => h) (Or.inl ⟨by rfl, ?_⟩) ?_ ?_
          rotate_left
          · intro w'
            go_simp
            with_reducible rfl
          rotate_left
          · simp only [Act.put, List.setIfInBounds_toArray, List.set_cons_zero, List.set_cons_succ, i64_w, i32_w]
            rfl
          refine take_ (i := 2) (N := some 34) (v := ?_) (a' := ?_) #[true, true, true, false, false, false, false, false, false, false, false, false, false, false, false, false, false, false, false, false, false, false, false, false, false, false, false, false, false, false, false, false, false, false, false, false] rfl rfl (take_ofW HT_.out HW_.out (by kernel_rfl)) (fun _ _ _ h => h) (Or.inl ⟨by rfl, ?_⟩) hHeld ?_ ?_
          rotate_left
          · rintro w' ⟨s0, s1, s2, s3, s4, s5, s6, s7⟩
            go_simp
            with_reducible rfl
          rotate_left
          · simp only [Act.put, List.setIfInBounds_toArray, List.set_cons_zero, List.set_cons_succ, i64_w, i32_w]
            rfl
          refine take_ (i := 3) (N := some 35) (v := ?_) (a' := ?_) #[true, true, true, true, false, false, false, false, false, false, false, false, false, false, false, false, false, false, false, false, false, false, false, false, false, false, false, false, false, false, false, false, false, false, false, false] rfl rfl (take_ofW HT_.out HW_.out (by kernel_rfl)) (fun _ _ _ h => h) (Or.inl ⟨by rfl, ?_⟩) hHeld ?_ ?_
          rotate_left
          · rintro w' ⟨s0, s1, s2, s3, s4, s5, s6, s7⟩
            go_simp
            with_reducible rfl
          rotate_left
          · simp only [Act.put, List.setIfInBounds_toArray, List.set_cons_zero, List.set_cons_succ, i64_w, i32_w]
            rfl
          refine take_ (i := 5) (N := some 37) (v := ?_) (a' := ?_) #[true, true, true, true, false, true, false, false, false, false, false, false, false, false, false, false, false, false, false, false, false, false, false, false, false, false, false, false, false, false, false, false, false, false, false, false] rfl rfl (take_ofW HT_.out HW_.out (by kernel_rfl)) (fun _ _ _ h => h) (Or.inl ⟨by rfl, ?_⟩) hHeld ?_ ?_
          rotate_left
          · rintro w' ⟨s0, s1, s2, s3, s4, s5, s6, s7⟩
            go_simp
            with_reducible rfl
          rotate_left
          · simp only [Act.put, List.setIfInBounds_toArray, List.set_cons_zero, List.set_cons_succ, i64_w, i32_w]
            rfl
          refine take_ (i := 6) (N := some 38) (v := ?_) (a' := ?_) #[true, true, true, true, false, true, true, false, false, false, false, false, false, false, false, false, false, false, false, false, false, false, false, false, false, false, false, false, false, false, false, false, false, false, false, false] rfl rfl (take_ofW HT_.out HW_.out (by kernel_rfl)) (fun _ _ _ h => h) (Or.inl ⟨by rfl, ?_⟩) hHeld ?_ ?_
          rotate_left
          · rintro w' ⟨s0, s1, s2, s3, s4, s5, s6, s7⟩
            go_simp
            with_reducible rfl
          rotate_left
          · simp only [Act.put, List.setIfInBounds_toArray, List.set_cons_zero, List.set_cons_succ, i64_w, i32_w]
            rfl
          refine one_ (i := 4) (N := some 36) #[true, true, true, true, true, true, true, false, false, false, false, false, false, false, false, false, false, false, false, false, false, false, false, false, false, false, false, false, false, false, false, false, false, false, false, false] rfl rfl (one_of HT_.out (by kernel_rfl)) (by decide) (fun K hK => ?_)
          refine goes_ Tryd.func18 (by kernel_rfl) rfl #[.agg #[.int .u64 t513, .int .u64 t514, .int .i64 t515], .agg #[.int .u64 t521, .int .u64 t522]] (by rfl) rfl rfl xM ?_
          with_reducible refine (prefix_Has.calls t513 t514 t515 t521 t522 t525 _ A13.out).mono ?_
          rintro e w50 ⟨rfl, hb⟩
          refine ⟨_, rfl, ?_⟩
          have n0_ := Aside0.mk (blk_below (g := gb509) (o := .cells #[.int .u64 a1_0, .int .u64 a1_1] 24 (0, 0)) (xK BK509.out) hb)
          have n1_ := Aside0.mk (blk_below (g := gb510) (o := .cells #[.int .u64 a3_0, .int .u64 a3_1] 24 (0, 0)) (xK BK510.out) hb)
          have n2_ := Aside0.mk (blk_below (g := gb511) (o := .cells #[.int .u64 t521, .int .u64 t522] 24 (0, 0)) (xK BK511.out) hb)
          have n3_ := Aside0.mk (blk_below (g := gb516) (o := .cells #[.int .u64 t513, .int .u64 t514, .int .i64 t515] 28 (0, 0)) (xK BK516.out) hb)
          have n4_ := Aside0.mk (blk_below (g := gb520) (o := .cells #[.int .u64 t517, .int .u64 t518, .int .i64 t519] 28 (0, 0)) (xK BK520.out) hb)
          have n5_ := Aside0.mk (below_step xG hb)
          clear BK509
          clear BK510
          clear BK511
          clear BK516
          clear BK520
          clear HB
          have BK509 := n0_
          have BK510 := n1_
          have BK511 := n2_
          have BK516 := n3_
          have BK520 := n4_
          have HB := n5_
          clear n0_ n1_ n2_ n3_ n4_ n5_
          (try clear hb)
          (try clear hb2)
          (try clear hk)
          (try clear hi)
          refine hK.out _ _ ⟨(blk_cell BK516.out 0).trans rfl, (blk_cell BK516.out 1).trans rfl, (blk_cell BK516.out 2).trans rfl, (blk_cell BK511.out 0).trans rfl, (blk_cell BK511.out 1).trans rfl, (blk_cell BK520.out 0).trans rfl, (blk_cell BK520.out 1).trans rfl, (blk_cell BK520.out 2).trans rfl⟩ (fun hHeld => ?_)
          clear hK K
          refine norm_ (a' := ?_) ?_ ?_
          rotate_left
          · show Act.put _ (some 36) _ = _
            simp only [Act.put, List.setIfInBounds_toArray, List.set_cons_zero, List.set_cons_succ, i64_w, i32_w]
            rfl
          refine one_ (i := 7) (N := some 39) #[true, true, true, true, true, true, true, true, false, false, false, false, false, false, false, false, false, false, false, false, false, false, false, false, false, false, false, false, false, false, false, false, false, false, false, false] rfl rfl (one_of HT_.out (by kernel_rfl)) (by decide) (fun K hK => ?_)
          refine goes_ Tryd.func35 (by kernel_rfl) rfl #[.agg #[.int .u64 t513, .int .u64 t514, .int .i64 t515], .agg #[.int .u64 t521, .int .u64 t522]] (by rfl) rfl rfl xM ?_
          with_reducible refine (turnpikeref3_Has.calls k t513 t514 t515 t521 t522 t526 _ A14.out).mono ?_
          rintro e w51 ⟨rfl, hb⟩
          refine ⟨_, rfl, ?_⟩
          have n0_ := Aside0.mk (blk_below (g := gb509) (o := .cells #[.int .u64 a1_0, .int .u64 a1_1] 24 (0, 0)) (xK BK509.out) hb)
          have n1_ := Aside0.mk (blk_below (g := gb510) (o := .cells #[.int .u64 a3_0, .int .u64 a3_1] 24 (0, 0)) (xK BK510.out) hb)
          have n2_ := Aside0.mk (blk_below (g := gb511) (o := .cells #[.int .u64 t521, .int .u64 t522] 24 (0, 0)) (xK BK511.out) hb)
          have n3_ := Aside0.mk (blk_below (g := gb516) (o := .cells #[.int .u64 t513, .int .u64 t514, .int .i64 t515] 28 (0, 0)) (xK BK516.out) hb)
          have n4_ := Aside0.mk (blk_below (g := gb520) (o := .cells #[.int .u64 t517, .int .u64 t518, .int .i64 t519] 28 (0, 0)) (xK BK520.out) hb)
          have n5_ := Aside0.mk (below_step xG hb)
          clear BK509
          clear BK510
          clear BK511
          clear BK516
          clear BK520
          clear HB
          have BK509 := n0_
          have BK510 := n1_
          have BK511 := n2_
          have BK516 := n3_
          have BK520 := n4_
          have HB := n5_
          clear n0_ n1_ n2_ n3_ n4_ n5_
          (try clear hb)
          (try clear hb2)
          (try clear hk)
          (try clear hi)
          refine hK.out _ _ ⟨(blk_cell BK516.out 0).trans rfl, (blk_cell BK516.out 1).trans rfl, (blk_cell BK516.out 2).trans rfl, (blk_cell BK511.out 0).trans rfl, (blk_cell BK511.out 1).trans rfl, (blk_cell BK520.out 0).trans rfl, (blk_cell BK520.out 1).trans rfl, (blk_cell BK520.out 2).trans rfl⟩ (fun hHeld => ?_)
          clear hK K
          refine norm_ (a' := ?_) ?_ ?_
          rotate_left
          · show Act.put _ (some 39) _ = _
            simp only [Act.put, List.setIfInBounds_toArray, List.set_cons_zero, List.set_cons_succ, i64_w, i32_w]
            rfl
          refine pure_ (i := 8) (N := some 40) (v := ?_) (a' := ?_) #[true, true, true, true, true, true, true, true, true, false, false, false, false, false, false, false, false, false, false, false, false, false, false, false, false, false, false, false, false, false, false, false, false, false, false, false] rfl rfl (any_of HT_.out (by kernel_rfl)) (fun _ _ _ h => h) (Or.inl ⟨by rfl, ?_⟩) ?_ ?_
          rotate_left
          · intro w'
            go_simp
            with_reducible rfl
          rotate_left
          · simp only [Act.put, List.setIfInBounds_toArray, List.set_cons_zero, List.set_cons_succ, i64_w, i32_w]
            rfl
          refine pure_ (i := 9) (N := some 41) (v := ?_) (a' := ?_) #[true, true, true, true, true, true, true, true, true, true, false, false, false, false, false, false, false, false, false, false, false, false, false, false, false, false, false, false, false, false, false, false, false, false, false, false] rfl rfl (any_of HT_.out (by kernel_rfl)) (fun _ _ _ h => h) (Or.inl ⟨by rfl, ?_⟩) ?_ ?_
          rotate_left
          · intro w'
            go_simp
            with_reducible rfl
          rotate_left
          · simp only [Act.put, List.setIfInBounds_toArray, List.set_cons_zero, List.set_cons_succ, i64_w, i32_w]
            rfl
          refine pure_ (i := 10) (N := some 42) (v := ?_) (a' := ?_) #[true, true, true, true, true, true, true, true, true, true, true, false, false, false, false, false, false, false, false, false, false, false, false, false, false, false, false, false, false, false, false, false, false, false, false, false] rfl rfl (any_of HT_.out (by kernel_rfl)) (fun _ _ _ h => h) (Or.inl ⟨by rfl, ?_⟩) ?_ ?_
          rotate_left
          · intro w'
            go_simp
            with_reducible rfl
          rotate_left
          · simp only [Act.put, List.setIfInBounds_toArray, List.set_cons_zero, List.set_cons_succ, i64_w, i32_w]
            rfl
          refine take_ (i := 11) (N := some 43) (v := ?_) (a' := ?_) #[true, true, true, true, true, true, true, true, true, true, true, true, false, false, false, false, false, false, false, false, false, false, false, false, false, false, false, false, false, false, false, false, false, false, false, false] rfl rfl (take_ofW HT_.out HW_.out (by kernel_rfl)) (fun _ _ _ h => h) (Or.inl ⟨by rfl, ?_⟩) hHeld ?_ ?_
          rotate_left
          · rintro w' ⟨s0, s1, s2, s3, s4, s5, s6, s7⟩
            go_simp
            with_reducible rfl
          rotate_left
          · simp only [Act.put, List.setIfInBounds_toArray, List.set_cons_zero, List.set_cons_succ, i64_w, i32_w]
            rfl
          refine take_ (i := 12) (N := some 44) (v := ?_) (a' := ?_) #[true, true, true, true, true, true, true, true, true, true, true, true, true, false, false, false, false, false, false, false, false, false, false, false, false, false, false, false, false, false, false, false, false, false, false, false] rfl rfl (take_ofW HT_.out HW_.out (by kernel_rfl)) (fun _ _ _ h => h) (Or.inl ⟨by rfl, ?_⟩) hHeld ?_ ?_
          rotate_left
          · rintro w' ⟨s0, s1, s2, s3, s4, s5, s6, s7⟩
            go_simp
            with_reducible rfl
          rotate_left
          · simp only [Act.put, List.setIfInBounds_toArray, List.set_cons_zero, List.set_cons_succ, i64_w, i32_w]
            rfl
          refine take_ (i := 14) (N := some 46) (v := ?_) (a' := ?_) #[true, true, true, true, true, true, true, true, true, true, true, true, true, false, true, false, false, false, false, false, false, false, false, false, false, false, false, false, false, false, false, false, false, false, false, false] rfl rfl (take_ofW HT_.out HW_.out (by kernel_rfl)) (fun _ _ _ h => h) (Or.inl ⟨by rfl, ?_⟩) hHeld ?_ ?_
          rotate_left
          · rintro w' ⟨s0, s1, s2, s3, s4, s5, s6, s7⟩
            go_simp
            with_reducible rfl
          rotate_left
          · simp only [Act.put, List.setIfInBounds_toArray, List.set_cons_zero, List.set_cons_succ, i64_w, i32_w]
            rfl
          refine take_ (i := 15) (N := some 47) (v := ?_) (a' := ?_) #[true, true, true, true, true, true, true, true, true, true, true, true, true, false, true, true, false, false, false, false, false, false, false, false, false, false, false, false, false, false, false, false, false, false, false, false] rfl rfl (take_ofW HT_.out HW_.out (by kernel_rfl)) (fun _ _ _ h => h) (Or.inl ⟨by rfl, ?_⟩) hHeld ?_ ?_
          rotate_left
          · rintro w' ⟨s0, s1, s2, s3, s4, s5, s6, s7⟩
            go_simp
            with_reducible rfl
          rotate_left
          · simp only [Act.put, List.setIfInBounds_toArray, List.set_cons_zero, List.set_cons_succ, i64_w, i32_w]
            rfl
          refine one_ (i := 13) (N := some 45) #[true, true, true, true, true, true, true, true, true, true, true, true, true, true, true, true, false, false, false, false, false, false, false, false, false, false, false, false, false, false, false, false, false, false, false, false] rfl rfl (one_of HT_.out (by kernel_rfl)) (by decide) (fun K hK => ?_)
          refine goes_ Tryd.func22 (by kernel_rfl) rfl #[.agg #[.int .u64 t513, .int .u64 t514, .int .i64 t515], .agg #[.int .u64 t517, .int .u64 t518, .int .i64 t519]] (by rfl) rfl rfl xM ?_
          with_reducible refine (prefix_Within.calls t513 t514 t515 t517 t518 t519 t527 _ A16.out).mono ?_
          rintro e w52 ⟨rfl, hb⟩
          refine ⟨_, rfl, ?_⟩
          have n0_ := Aside0.mk (blk_below (g := gb509) (o := .cells #[.int .u64 a1_0, .int .u64 a1_1] 24 (0, 0)) (xK BK509.out) hb)
          have n1_ := Aside0.mk (blk_below (g := gb510) (o := .cells #[.int .u64 a3_0, .int .u64 a3_1] 24 (0, 0)) (xK BK510.out) hb)
          have n2_ := Aside0.mk (blk_below (g := gb511) (o := .cells #[.int .u64 t521, .int .u64 t522] 24 (0, 0)) (xK BK511.out) hb)
          have n3_ := Aside0.mk (blk_below (g := gb516) (o := .cells #[.int .u64 t513, .int .u64 t514, .int .i64 t515] 28 (0, 0)) (xK BK516.out) hb)
          have n4_ := Aside0.mk (blk_below (g := gb520) (o := .cells #[.int .u64 t517, .int .u64 t518, .int .i64 t519] 28 (0, 0)) (xK BK520.out) hb)
          have n5_ := Aside0.mk (below_step xG hb)
          clear BK509
          clear BK510
          clear BK511
          clear BK516
          clear BK520
          clear HB
          have BK509 := n0_
          have BK510 := n1_
          have BK511 := n2_
          have BK516 := n3_
          have BK520 := n4_
          have HB := n5_
          clear n0_ n1_ n2_ n3_ n4_ n5_
          (try clear hb)
          (try clear hb2)
          (try clear hk)
          (try clear hi)
          refine hK.out _ _ ⟨(blk_cell BK516.out 0).trans rfl, (blk_cell BK516.out 1).trans rfl, (blk_cell BK516.out 2).trans rfl, (blk_cell BK511.out 0).trans rfl, (blk_cell BK511.out 1).trans rfl, (blk_cell BK520.out 0).trans rfl, (blk_cell BK520.out 1).trans rfl, (blk_cell BK520.out 2).trans rfl⟩ (fun hHeld => ?_)
          clear hK K
          refine norm_ (a' := ?_) ?_ ?_
          rotate_left
          · show Act.put _ (some 45) _ = _
            simp only [Act.put, List.setIfInBounds_toArray, List.set_cons_zero, List.set_cons_succ, i64_w, i32_w]
            rfl
          refine one_ (i := 16) (N := some 48) #[true, true, true, true, true, true, true, true, true, true, true, true, true, true, true, true, true, false, false, false, false, false, false, false, false, false, false, false, false, false, false, false, false, false, false, false] rfl rfl (one_of HT_.out (by kernel_rfl)) (by decide) (fun K hK => ?_)
          refine goes_ Tryd.func36 (by kernel_rfl) rfl #[.agg #[.int .u64 t513, .int .u64 t514, .int .i64 t515], .agg #[.int .u64 t517, .int .u64 t518, .int .i64 t519]] (by rfl) rfl rfl xM ?_
          with_reducible refine (turnpikeref3_Within.calls k t513 t514 t515 t517 t518 t519 t528 _ A17.out).mono ?_
          rintro e w53 ⟨rfl, hb⟩
          refine ⟨_, rfl, ?_⟩
          have n0_ := Aside0.mk (blk_below (g := gb509) (o := .cells #[.int .u64 a1_0, .int .u64 a1_1] 24 (0, 0)) (xK BK509.out) hb)
          have n1_ := Aside0.mk (blk_below (g := gb510) (o := .cells #[.int .u64 a3_0, .int .u64 a3_1] 24 (0, 0)) (xK BK510.out) hb)
          have n2_ := Aside0.mk (blk_below (g := gb511) (o := .cells #[.int .u64 t521, .int .u64 t522] 24 (0, 0)) (xK BK511.out) hb)
          have n3_ := Aside0.mk (blk_below (g := gb516) (o := .cells #[.int .u64 t513, .int .u64 t514, .int .i64 t515] 28 (0, 0)) (xK BK516.out) hb)
          have n4_ := Aside0.mk (blk_below (g := gb520) (o := .cells #[.int .u64 t517, .int .u64 t518, .int .i64 t519] 28 (0, 0)) (xK BK520.out) hb)
          have n5_ := Aside0.mk (below_step xG hb)
          clear BK509
          clear BK510
          clear BK511
          clear BK516
          clear BK520
          clear HB
          have BK509 := n0_
          have BK510 := n1_
          have BK511 := n2_
          have BK516 := n3_
          have BK520 := n4_
          have HB := n5_
          clear n0_ n1_ n2_ n3_ n4_ n5_
          (try clear hb)
          (try clear hb2)
          (try clear hk)
          (try clear hi)
          refine hK.out _ _ ⟨(blk_cell BK516.out 0).trans rfl, (blk_cell BK516.out 1).trans rfl, (blk_cell BK516.out 2).trans rfl, (blk_cell BK511.out 0).trans rfl, (blk_cell BK511.out 1).trans rfl, (blk_cell BK520.out 0).trans rfl, (blk_cell BK520.out 1).trans rfl, (blk_cell BK520.out 2).trans rfl⟩ (fun hHeld => ?_)
          clear hK K
          refine norm_ (a' := ?_) ?_ ?_
          rotate_left
          · show Act.put _ (some 48) _ = _
            simp only [Act.put, List.setIfInBounds_toArray, List.set_cons_zero, List.set_cons_succ, i64_w, i32_w]
            rfl
          refine pure_ (i := 17) (N := some 49) (v := ?_) (a' := ?_) #[true, true, true, true, true, true, true, true, true, true, true, true, true, true, true, true, true, true, false, false, false, false, false, false, false, false, false, false, false, false, false, false, false, false, false, false] rfl rfl (any_of HT_.out (by kernel_rfl)) (fun _ _ _ h => h) (Or.inl ⟨by rfl, ?_⟩) ?_ ?_
          rotate_left
          · intro w'
            go_simp
            with_reducible rfl
          rotate_left
          · simp only [Act.put, List.setIfInBounds_toArray, List.set_cons_zero, List.set_cons_succ, i64_w, i32_w]
            rfl
          refine pure_ (i := 18) (N := some 50) (v := ?_) (a' := ?_) #[true, true, true, true, true, true, true, true, true, true, true, true, true, true, true, true, true, true, true, false, false, false, false, false, false, false, false, false, false, false, false, false, false, false, false, false] rfl rfl (any_of HT_.out (by kernel_rfl)) (fun _ _ _ h => h) (Or.inl ⟨by rfl, ?_⟩) ?_ ?_
          rotate_left
          · intro w'
            go_simp
            with_reducible rfl
          rotate_left
          · simp only [Act.put, List.setIfInBounds_toArray, List.set_cons_zero, List.set_cons_succ, i64_w, i32_w]
            rfl
          refine pure_ (i := 19) (N := some 51) (v := ?_) (a' := ?_) #[true, true, true, true, true, true, true, true, true, true, true, true, true, true, true, true, true, true, true, true, false, false, false, false, false, false, false, false, false, false, false, false, false, false, false, false] rfl rfl (any_of HT_.out (by kernel_rfl)) (fun _ _ _ h => h) (Or.inl ⟨by rfl, ?_⟩) ?_ ?_
          rotate_left
          · intro w'
            go_simp
            with_reducible rfl
          rotate_left
          · simp only [Act.put, List.setIfInBounds_toArray, List.set_cons_zero, List.set_cons_succ, i64_w, i32_w]
            rfl
          refine pure_ (i := 22) (N := some 54) (v := ?_) (a' := ?_) #[true, true, true, true, true, true, true, true, true, true, true, true, true, true, true, true, true, true, true, true, false, false, true, false, false, false, false, false, false, false, false, false, false, false, false, false] rfl rfl (any_of HT_.out (by kernel_rfl)) (fun _ _ _ h => h) (Or.inl ⟨by rfl, ?_⟩) ?_ ?_
          rotate_left
          · intro w'
            go_simp
            with_reducible rfl
          rotate_left
          · simp only [Act.put, List.setIfInBounds_toArray, List.set_cons_zero, List.set_cons_succ, i64_w, i32_w]
            rfl
          refine take_ (i := 20) (N := some 52) (v := ?_) (a' := ?_) #[true, true, true, true, true, true, true, true, true, true, true, true, true, true, true, true, true, true, true, true, true, false, true, false, false, false, false, false, false, false, false, false, false, false, false, false] rfl rfl (take_ofW HT_.out HW_.out (by kernel_rfl)) (fun _ _ _ h => h) (Or.inl ⟨by rfl, ?_⟩) hHeld ?_ ?_
          rotate_left
          · rintro w' ⟨s0, s1, s2, s3, s4, s5, s6, s7⟩
            go_simp
            with_reducible rfl
          rotate_left
          · simp only [Act.put, List.setIfInBounds_toArray, List.set_cons_zero, List.set_cons_succ, i64_w, i32_w]
            rfl
          refine take_ (i := 23) (N := some 55) (v := ?_) (a' := ?_) #[true, true, true, true, true, true, true, true, true, true, true, true, true, true, true, true, true, true, true, true, true, false, true, true, false, false, false, false, false, false, false, false, false, false, false, false] rfl rfl (take_ofW HT_.out HW_.out (by kernel_rfl)) (fun _ _ _ h => h) (Or.inl ⟨by rfl, ?_⟩) hHeld ?_ ?_
          rotate_left
          · rintro w' ⟨s0, s1, s2, s3, s4, s5, s6, s7⟩
            go_simp
            with_reducible rfl
          rotate_left
          · simp only [Act.put, List.setIfInBounds_toArray, List.set_cons_zero, List.set_cons_succ, i64_w, i32_w]
            rfl
          refine one_ (i := 21) (N := some 53) #[true, true, true, true, true, true, true, true, true, true, true, true, true, true, true, true, true, true, true, true, true, true, true, true, false, false, false, false, false, false, false, false, false, false, false, false] rfl rfl (one_of HT_.out (by kernel_rfl)) (by decide) (fun K hK => ?_)
          refine goes_ Tryd.func20 (by kernel_rfl) rfl #[.agg #[.int .u64 t513, .int .u64 t514, .int .i64 t515]] (by rfl) rfl rfl xM ?_
          with_reducible refine (prefix_First.calls t513 t514 t515 t529 t530 _ A19.out).mono ?_
          rintro e w54 ⟨rfl, hb⟩
          refine ⟨_, rfl, ?_⟩
          have n0_ := Aside0.mk (blk_below (g := gb509) (o := .cells #[.int .u64 a1_0, .int .u64 a1_1] 24 (0, 0)) (xK BK509.out) hb)
          have n1_ := Aside0.mk (blk_below (g := gb510) (o := .cells #[.int .u64 a3_0, .int .u64 a3_1] 24 (0, 0)) (xK BK510.out) hb)
          have n2_ := Aside0.mk (blk_below (g := gb511) (o := .cells #[.int .u64 t521, .int .u64 t522] 24 (0, 0)) (xK BK511.out) hb)
          have n3_ := Aside0.mk (blk_below (g := gb516) (o := .cells #[.int .u64 t513, .int .u64 t514, .int .i64 t515] 28 (0, 0)) (xK BK516.out) hb)
          have n4_ := Aside0.mk (blk_below (g := gb520) (o := .cells #[.int .u64 t517, .int .u64 t518, .int .i64 t519] 28 (0, 0)) (xK BK520.out) hb)
          have n5_ := Aside0.mk (below_step xG hb)
          clear BK509
          clear BK510
          clear BK511
          clear BK516
          clear BK520
          clear HB
          have BK509 := n0_
          have BK510 := n1_
          have BK511 := n2_
          have BK516 := n3_
          have BK520 := n4_
          have HB := n5_
          clear n0_ n1_ n2_ n3_ n4_ n5_
          (try clear hb)
          (try clear hb2)
          (try clear hk)
          (try clear hi)
          refine hK.out _ _ ⟨(blk_cell BK516.out 0).trans rfl, (blk_cell BK516.out 1).trans rfl, (blk_cell BK516.out 2).trans rfl, (blk_cell BK511.out 0).trans rfl, (blk_cell BK511.out 1).trans rfl, (blk_cell BK520.out 0).trans rfl, (blk_cell BK520.out 1).trans rfl, (blk_cell BK520.out 2).trans rfl⟩ (fun hHeld => ?_)
          clear hK K
          refine norm_ (a' := ?_) ?_ ?_
          rotate_left
          · show Act.put _ (some 53) _ = _
            simp only [Act.put, List.setIfInBounds_toArray, List.set_cons_zero, List.set_cons_succ, i64_w, i32_w]
            rfl
          refine pure_ (i := 24) (N := some 56) (v := ?_) (a' := ?_) #[true, true, true, true, true, true, true, true, true, true, true, true, true, true, true, true, true, true, true, true, true, true, true, true, true, false, false, false, false, false, false, false, false, false, false, false] rfl rfl (any_of HT_.out (by kernel_rfl)) (fun _ _ _ h => h) (Or.inl ⟨by rfl, ?_⟩) ?_ ?_
          rotate_left
          · intro w'
            go_simp
            with_reducible rfl
          rotate_left
          · simp only [Act.put, List.setIfInBounds_toArray, List.set_cons_zero, List.set_cons_succ, i64_w, i32_w]
            rfl
          refine pure_ (i := 25) (N := some 57) (v := ?_) (a' := ?_) #[true, true, true, true, true, true, true, true, true, true, true, true, true, true, true, true, true, true, true, true, true, true, true, true, true, true, false, false, false, false, false, false, false, false, false, false] rfl rfl (any_of HT_.out (by kernel_rfl)) (fun _ _ _ h => h) (Or.inl ⟨by rfl, ?_⟩) ?_ ?_
          rotate_left
          · intro w'
            go_simp
            with_reducible rfl
          rotate_left
          · simp only [Act.put, List.setIfInBounds_toArray, List.set_cons_zero, List.set_cons_succ, i64_w, i32_w]
            rfl
          refine pure_ (i := 26) (N := some 58) (v := ?_) (a' := ?_) #[true, true, true, true, true, true, true, true, true, true, true, true, true, true, true, true, true, true, true, true, true, true, true, true, true, true, true, false, false, false, false, false, false, false, false, false] rfl rfl (any_of HT_.out (by kernel_rfl)) (fun _ _ _ h => h) (Or.inl ⟨by rfl, ?_⟩) ?_ ?_
          rotate_left
          · intro w'
            go_simp
            with_reducible rfl
          rotate_left
          · simp only [Act.put, List.setIfInBounds_toArray, List.set_cons_zero, List.set_cons_succ, i64_w, i32_w]
            rfl
          refine pure_ (i := 27) (N := some 59) (v := ?_) (a' := ?_) #[true, true, true, true, true, true, true, true, true, true, true, true, true, true, true, true, true, true, true, true, true, true, true, true, true, true, true, true, false, false, false, false, false, false, false, false] rfl rfl (any_of HT_.out (by kernel_rfl)) (fun _ _ _ h => h) (Or.inl ⟨by rfl, ?_⟩) ?_ ?_
          rotate_left
          · intro w'
            go_simp
            with_reducible rfl
          rotate_left
          · simp only [Act.put, List.setIfInBounds_toArray, List.set_cons_zero, List.set_cons_succ, i64_w, i32_w]
            rfl
          refine pure_ (i := 30) (N := some 62) (v := ?_) (a' := ?_) #[true, true, true, true, true, true, true, true, true, true, true, true, true, true, true, true, true, true, true, true, true, true, true, true, true, true, true, true, false, false, true, false, false, false, false, false] rfl rfl (any_of HT_.out (by kernel_rfl)) (fun _ _ _ h => h) (Or.inl ⟨by rfl, ?_⟩) ?_ ?_
          rotate_left
          · intro w'
            go_simp
            with_reducible rfl
          rotate_left
          · simp only [Act.put, List.setIfInBounds_toArray, List.set_cons_zero, List.set_cons_succ, i64_w, i32_w]
            rfl
          refine take_ (i := 28) (N := some 60) (v := ?_) (a' := ?_) #[true, true, true, true, true, true, true, true, true, true, true, true, true, true, true, true, true, true, true, true, true, true, true, true, true, true, true, true, true, false, true, false, false, false, false, false] rfl rfl (take_ofW HT_.out HW_.out (by kernel_rfl)) (fun _ _ _ h => h) (Or.inl ⟨by rfl, ?_⟩) hHeld ?_ ?_
          rotate_left
          · rintro w' ⟨s0, s1, s2, s3, s4, s5, s6, s7⟩
            go_simp
            with_reducible rfl
          rotate_left
          · simp only [Act.put, List.setIfInBounds_toArray, List.set_cons_zero, List.set_cons_succ, i64_w, i32_w]
            rfl
          refine take_ (i := 31) (N := some 63) (v := ?_) (a' := ?_) #[true, true, true, true, true, true, true, true, true, true, true, true, true, true, true, true, true, true, true, true, true, true, true, true, true, true, true, true, true, false, true, true, false, false, false, false] rfl rfl (take_ofW HT_.out HW_.out (by kernel_rfl)) (fun _ _ _ h => h) (Or.inl ⟨by rfl, ?_⟩) hHeld ?_ ?_
          rotate_left
          · rintro w' ⟨s0, s1, s2, s3, s4, s5, s6, s7⟩
            go_simp
            with_reducible rfl
          rotate_left
          · simp only [Act.put, List.setIfInBounds_toArray, List.set_cons_zero, List.set_cons_succ, i64_w, i32_w]
            rfl
          refine one_ (i := 29) (N := some 61) #[true, true, true, true, true, true, true, true, true, true, true, true, true, true, true, true, true, true, true, true, true, true, true, true, true, true, true, true, true, true, true, true, false, false, false, false] rfl rfl (one_of HT_.out (by kernel_rfl)) (by decide) (fun K hK => ?_)
          refine goes_ Tryd.func21 (by kernel_rfl) rfl #[.int .i64 t512, .agg #[.int .u64 t513, .int .u64 t514, .int .i64 t515]] (by rfl) rfl rfl xM ?_
          with_reducible refine (prefix_Last.calls t512 t513 t514 t515 t531 t532 _ A21.out).mono ?_
          rintro e w55 ⟨rfl, hb⟩
          refine ⟨_, rfl, ?_⟩
          have n0_ := Aside0.mk (blk_below (g := gb509) (o := .cells #[.int .u64 a1_0, .int .u64 a1_1] 24 (0, 0)) (xK BK509.out) hb)
          have n1_ := Aside0.mk (blk_below (g := gb510) (o := .cells #[.int .u64 a3_0, .int .u64 a3_1] 24 (0, 0)) (xK BK510.out) hb)
          have n2_ := Aside0.mk (blk_below (g := gb511) (o := .cells #[.int .u64 t521, .int .u64 t522] 24 (0, 0)) (xK BK511.out) hb)
          have n3_ := Aside0.mk (blk_below (g := gb516) (o := .cells #[.int .u64 t513, .int .u64 t514, .int .i64 t515] 28 (0, 0)) (xK BK516.out) hb)
          have n4_ := Aside0.mk (blk_below (g := gb520) (o := .cells #[.int .u64 t517, .int .u64 t518, .int .i64 t519] 28 (0, 0)) (xK BK520.out) hb)
          have n5_ := Aside0.mk (below_step xG hb)
          clear BK509
          clear BK510
          clear BK511
          clear BK516
          clear BK520
          clear HB
          have BK509 := n0_
          have BK510 := n1_
          have BK511 := n2_
          have BK516 := n3_
          have BK520 := n4_
          have HB := n5_
          clear n0_ n1_ n2_ n3_ n4_ n5_
          (try clear hb)
          (try clear hb2)
          (try clear hk)
          (try clear hi)
          refine hK.out _ _ ⟨(blk_cell BK516.out 0).trans rfl, (blk_cell BK516.out 1).trans rfl, (blk_cell BK516.out 2).trans rfl, (blk_cell BK511.out 0).trans rfl, (blk_cell BK511.out 1).trans rfl, (blk_cell BK520.out 0).trans rfl, (blk_cell BK520.out 1).trans rfl, (blk_cell BK520.out 2).trans rfl⟩ (fun hHeld => ?_)
          clear hK K
          refine norm_ (a' := ?_) ?_ ?_
          rotate_left
          · show Act.put _ (some 61) _ = _
            simp only [Act.put, List.setIfInBounds_toArray, List.set_cons_zero, List.set_cons_succ, i64_w, i32_w]
            rfl
          refine one_ (i := 32) (N := some 64) #[true, true, true, true, true, true, true, true, true, true, true, true, true, true, true, true, true, true, true, true, true, true, true, true, true, true, true, true, true, true, true, true, true, false, false, false] rfl rfl (one_of HT_.out (by kernel_rfl)) (by decide) (fun K hK => ?_)
          refine goes_ Tryd.func37 (by kernel_rfl) rfl #[.int .i64 t512, .agg #[.int .u64 t513, .int .u64 t514, .int .i64 t515]] (by rfl) rfl rfl xM ?_
          with_reducible refine (turnpikeref3_Last.calls k t512 t513 t514 t515 t533 t534 _ A22.out).mono ?_
          rintro e w56 ⟨rfl, hb⟩
          refine ⟨_, rfl, ?_⟩
          have n0_ := Aside0.mk (blk_below (g := gb509) (o := .cells #[.int .u64 a1_0, .int .u64 a1_1] 24 (0, 0)) (xK BK509.out) hb)
          have n1_ := Aside0.mk (blk_below (g := gb510) (o := .cells #[.int .u64 a3_0, .int .u64 a3_1] 24 (0, 0)) (xK BK510.out) hb)
          have n2_ := Aside0.mk (blk_below (g := gb511) (o := .cells #[.int .u64 t521, .int .u64 t522] 24 (0, 0)) (xK BK511.out) hb)
          have n3_ := Aside0.mk (blk_below (g := gb516) (o := .cells #[.int .u64 t513, .int .u64 t514, .int .i64 t515] 28 (0, 0)) (xK BK516.out) hb)
          have n4_ := Aside0.mk (blk_below (g := gb520) (o := .cells #[.int .u64 t517, .int .u64 t518, .int .i64 t519] 28 (0, 0)) (xK BK520.out) hb)
          have n5_ := Aside0.mk (below_step xG hb)
          clear BK509
          clear BK510
          clear BK511
          clear BK516
          clear BK520
          clear HB
          have BK509 := n0_
          have BK510 := n1_
          have BK511 := n2_
          have BK516 := n3_
          have BK520 := n4_
          have HB := n5_
          clear n0_ n1_ n2_ n3_ n4_ n5_
          (try clear hb)
          (try clear hb2)
          (try clear hk)
          (try clear hi)
          refine hK.out _ _ ⟨(blk_cell BK516.out 0).trans rfl, (blk_cell BK516.out 1).trans rfl, (blk_cell BK516.out 2).trans rfl, (blk_cell BK511.out 0).trans rfl, (blk_cell BK511.out 1).trans rfl, (blk_cell BK520.out 0).trans rfl, (blk_cell BK520.out 1).trans rfl, (blk_cell BK520.out 2).trans rfl⟩ (fun hHeld => ?_)
          clear hK K
          refine norm_ (a' := ?_) ?_ ?_
          rotate_left
          · show Act.put _ (some 64) _ = _
            simp only [Act.put, List.setIfInBounds_toArray, List.set_cons_zero, List.set_cons_succ, i64_w, i32_w]
            rfl
          refine pure_ (i := 33) (N := some 65) (v := ?_) (a' := ?_) #[true, true, true, true, true, true, true, true, true, true, true, true, true, true, true, true, true, true, true, true, true, true, true, true, true, true, true, true, true, true, true, true, true, true, false, false] rfl rfl (any_of HT_.out (by kernel_rfl)) (fun _ _ _ h => h) (Or.inl ⟨by rfl, ?_⟩) ?_ ?_
          rotate_left
          · intro w'
            go_simp
            with_reducible rfl
          rotate_left
          · simp only [Act.put, List.setIfInBounds_toArray, List.set_cons_zero, List.set_cons_succ, i64_w, i32_w]
            rfl
          refine pure_ (i := 34) (N := some 66) (v := ?_) (a' := ?_) #[true, true, true, true, true, true, true, true, true, true, true, true, true, true, true, true, true, true, true, true, true, true, true, true, true, true, true, true, true, true, true, true, true, true, true, false] rfl rfl (any_of HT_.out (by kernel_rfl)) (fun _ _ _ h => h) (Or.inl ⟨by rfl, ?_⟩) ?_ ?_
          rotate_left
          · intro w'
            go_simp
            with_reducible rfl
          rotate_left
          · simp only [Act.put, List.setIfInBounds_toArray, List.set_cons_zero, List.set_cons_succ, i64_w, i32_w]
            rfl
          refine pure_ (i := 35) (N := some 12) (v := ?_) (a' := ?_) #[true, true, true, true, true, true, true, true, true, true, true, true, true, true, true, true, true, true, true, true, true, true, true, true, true, true, true, true, true, true, true, true, true, true, true, true] rfl rfl (any_of HT_.out (by kernel_rfl)) (fun _ _ _ h => h) (Or.inl ⟨by rfl, ?_⟩) ?_ ?_
          rotate_left
          · intro w'
            go_simp
            with_reducible rfl
          rotate_left
          · simp only [Act.put, List.setIfInBounds_toArray, List.set_cons_zero, List.set_cons_succ, i64_w, i32_w]
            rfl
          refine done_ (done_of HT_.out (by kernel_rfl)) ?_
          try go_wp2
          go_ret
          exact ⟨xE, xG⟩
        · rw [if_neg c20] at H
          have c20b0 : (t529 == t513 && (t530 == t514)) = false := by simpa using c20
          (try (have c20b1 : decide (t529 = t513 && (t530 == t514)) = false := by simpa using c20))
          (try (have c20b2 : (t529 == t513 && (t530 == t514)) = false := by simpa using c20))
          (try (have c20b3 : ¬ (t529 = t513 && (t530 == t514)) := by simpa using c20))
          clear c20
          obtain rfl := Option.some.inj H
          exact absurd hr_.out (by decide)
      · rw [if_neg c18] at H
        have c18b0 : (t527 == t528) = false := by simpa using c18
        (try (have c18b1 : decide (t527 = t528) = false := by simpa using c18))
        (try (have c18b2 : (t527 == t528) = false := by simpa using c18))
        (try (have c18b3 : ¬ (t527 = t528) := by simpa using c18))
        clear c18
        obtain rfl := Option.some.inj H
        exact absurd hr_.out (by decide)
    · rw [if_neg c15] at H
      have c15b0 : (t525 == t526) = false := by simpa using c15
      (try (have c15b1 : decide (t525 = t526) = false := by simpa using c15))
      (try (have c15b2 : (t525 == t526) = false := by simpa using c15))
      (try (have c15b3 : ¬ (t525 = t526) := by simpa using c15))
      clear c15
      obtain rfl := Option.some.inj H
      exact absurd hr_.out (by decide)
  · replace c12 := Bool.eq_false_iff.mpr c12
    subst c12
    have H1 : (some false) = some r := by rw [if_neg (show ¬ (false = true) by decide)] at H; exact H
    clear H
    have H := H1
    clear H1
    obtain rfl := Option.some.inj H
    exact absurd hr_.out (by decide)
def turnpikelaw3_PrefixHas.Pure : Prop := ∀ (a0 : Bool) (a1_0 : Int) (a1_1 : Int) (a2 : Int) (a3_0 : Int) (a3_1 : Int) (a4 : Int) (a5_0 : Int) (a5_1 : Int), (Lit.int .u64 a1_0).wf = true → (Lit.int .u64 a1_1).wf = true → (Lit.int .i64 a2).wf = true → (Lit.int .u64 a3_0).wf = true → (Lit.int .u64 a3_1).wf = true → (Lit.int .i64 a4).wf = true → (Lit.int .u64 a5_0).wf = true → (Lit.int .u64 a5_1).wf = true → ∃ k, turnpikelaw3_PrefixHas.f k a0 a1_0 a1_1 a2 a3_0 a3_1 a4 a5_0 a5_1 = some true
theorem turnpikelaw3_PrefixHas.walk (P : turnpikelaw3_PrefixHas.Pure) (a0 : Bool) (a1_0 : Int) (a1_1 : Int) (a2 : Int) (a3_0 : Int) (a3_1 : Int) (a4 : Int) (a5_0 : Int) (a5_1 : Int) (w : World) (hML : MLOk w) (wa1_0 : (Lit.int .u64 a1_0).wf = true) (wa1_1 : (Lit.int .u64 a1_1).wf = true) (wa2 : (Lit.int .i64 a2).wf = true) (wa3_0 : (Lit.int .u64 a3_0).wf = true) (wa3_1 : (Lit.int .u64 a3_1).wf = true) (wa4 : (Lit.int .i64 a4).wf = true) (wa5_0 : (Lit.int .u64 a5_0).wf = true) (wa5_1 : (Lit.int .u64 a5_1).wf = true) :
    Calls Tryd.prog 7 #[.bool a0, .agg #[.int .u64 a1_0, .int .u64 a1_1], .int .i64 a2, .agg #[.int .u64 a3_0, .int .u64 a3_1], .int .i64 a4, .agg #[.int .u64 a5_0, .int .u64 a5_1]] w fun e w' => e = .returned (.bool true) ∧ Below w.heap.size w w' := by
  obtain ⟨k, h⟩ := P a0 a1_0 a1_1 a2 a3_0 a3_1 a4 a5_0 a5_1 wa1_0 wa1_1 wa2 wa3_0 wa3_1 wa4 wa5_0 wa5_1
  refine (turnpikelaw3_PrefixHas.calls k a0 a1_0 a1_1 a2 a3_0 a3_1 a4 a5_0 a5_1 true w hML ⟨rfl⟩ h).mono ?_
  rintro e w' ⟨rfl, hd⟩
  exact ⟨rfl, hd⟩
end Go.Proofs.YtdjhmapmhajkcaaDoor.X
