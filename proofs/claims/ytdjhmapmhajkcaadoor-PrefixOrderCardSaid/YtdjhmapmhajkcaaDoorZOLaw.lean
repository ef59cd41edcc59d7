/- The law PrefixOrder: whatever the input, the call returns true and each argument reads behind it as before.
   The row is written by a program of this session. -/
import Derived.Test.YtdjhmapmhajkcaaDoorRows
import Derived.Test.YtdjhmapmhajkcaaDoorCards
import Derived.Test.YtdjhmapmhajkcaaDoorTie
import Derived.Test.YtdjhmapmhajkcaaDoorZOCard
import Derived.Test.YtdjhmapmhajkcaaDoorZOX32
import Derived.Test.YtdjhmapmhajkcaaDoorZOPurePrefixOrder
import Derived.WalkKit
import Derived.ProofKit
import Derived.OpenShut
import Derived.ShutString
import Derived.ChangeOld
import Derived.Below
import Derived.SizedLaws
import Derived.HandedShaped
import Derived.JoinedCond
import Derived.Lib.SmallJoins
import Derived.SevenTiedAt
import Derived.LaidMore
namespace Go.Proofs.YtdjhmapmhajkcaaDoor.prefixOrder
open Go.ChangeShapes Go.WideShapes Go.ChangeAt Go.RowKit Go.Joins
open Go.ChangeMaps (open_string shut_string)
set_option linter.unusedVariables false
theorem own : ownKnob Tryd.prog.godebug = none := by kernel_rfl
theorem laidOut : laidOutB Tryd.prog = true := by kernel_rfl
theorem tab_p10 {H : Type} : (Rows.laid_internal_strconv_uint64pow10 : DataW H) = Lib.tabData .u64 Lib.pow10Tab := by kernel_rfl
theorem tab_d64 {H : Type} : (Rows.laid_math_bits_deBruijn64tab : DataW H) = Lib.tabData .u8 (Lib.deBruijn64tab.map Int.ofNat) := by kernel_rfl
theorem door_met (os : Os) (args : Array Value) : laidMetH Tryd.prog Rows.prefixOrderRow.laid ((World.doorLaid Tryd.prog 24 os).forCall (fun _ _ => 0) ⟨#[], args, []⟩).memory :=
  laidMetH_of_parts3 (fuel := 8) (laidMet_of_run' 8 (by kernel_rfl) (by kernel_rfl)) (by kernel_rfl) (by kernel_rfl)
set_option maxRecDepth 100000 in
theorem lifted (os : Os) (started : os.Started) (H : Type) (enc : TypeId × Value → H) :
    ReturnsInHanded {} Tryd.checked os 10 .any (fun w args => (Rows.prefixOrderSpec.pre enc Tryd.prog Tryd.f10 Rows.prefixOrderRow.domain false w args ∧ laidMetH Tryd.prog Rows.prefixOrderRow.laid w) ∧ sizedMet enc Tryd.prog Tryd.f10 (OpenSpec.ofChange Rows.prefixOrderSpec) false w args) (Rows.prefixOrderSpec.post enc Tryd.prog Tryd.f10 false true false false) := by
  refine Card.wrap (C := Tryd.checked) (X := fun w _ => laidMetH Tryd.prog Rows.prefixOrderRow.laid w) (fun _ _ _ hh h => h.of_heap hh) own started (by kernel_rfl) Tryd.func10
    (ChangeSpec.witness_shaped (enc := enc) (C := Tryd.checked) (os := os) (X := fun w _ => laidMetH Tryd.prog Rows.prefixOrderRow.laid w) false (World.doorLaid Tryd.prog 24 os) #[.bool false, .agg #[.int .u64 0, .int .u64 0], .int .i64 0, .agg #[.int .u64 0, .int .u64 0], .int .i64 0, .agg #[.int .u64 0, .int .u64 0], .int .i64 0] 8 rfl (World.shaped_of_RefB (by kernel_rfl) (by kernel_rfl)) (by kernel_rfl) (by kernel_rfl) (by kernel_rfl) (door_met os _)) ?_
  intro W base args ds gs before hval0 hW hcnd hsz0 hsh hL _
  have hL0 : laidMet Tryd.prog Rows.prefixOrderRow.laid W := by rw [← MakeChecks.laidMetH_plain _ _ _ (by kernel_rfl)]; exact hL
  have hsz : (DataW.weightsEach Tryd.prog (Tryd.f10.params.toList ++ Rows.prefixOrderSpec.plain.varTypes Tryd.prog) (ds ++ gs)).all (· ≤ reachBytes) = true := hsz0
  have hval : ∀ (j : Nat) t v, Tryd.f10.params[j]? = some t → args[j]? = some v → Value.okWide Tryd.prog W .any base t v := hval0
  have hW' := hW
  obtain ⟨p, q, hA0, hV, rfl, hfz, hnd⟩ := hW
  have hA : DataW.TrodAll enc Tryd.prog W 0 (fun _ => true) true Tryd.f10.params.toList args.toList ds p := hA0
  rw [Tryd.params10] at hA hval hsz
  obtain ⟨v0, vs0, d0, ds0, p0, q0, hargs, rfl, rfl, h0, r0⟩ := trodAll_cons hA
  obtain ⟨v1, vs1, d1, ds1, p1, q1, rfl, rfl, rfl, h1, r1⟩ := trodAll_cons r0
  obtain ⟨v2, vs2, d2, ds2, p2, q2, rfl, rfl, rfl, h2, r2⟩ := trodAll_cons r1
  obtain ⟨v3, vs3, d3, ds3, p3, q3, rfl, rfl, rfl, h3, r3⟩ := trodAll_cons r2
  obtain ⟨v4, vs4, d4, ds4, p4, q4, rfl, rfl, rfl, h4, r4⟩ := trodAll_cons r3
  obtain ⟨v5, vs5, d5, ds5, p5, q5, rfl, rfl, rfl, h5, r5⟩ := trodAll_cons r4
  obtain ⟨v6, vs6, d6, ds6, p6, q6, rfl, rfl, rfl, h6, r6⟩ := trodAll_cons r5
  obtain ⟨rfl, rfl, rfl⟩ := trodAll_nil r6
  obtain rfl : args = #[v0, v1, v2, v3, v4, v5, v6] := by cases args; simp_all
  obtain ⟨rfl, rfl⟩ := trodVars_none hV
  obtain ⟨a0, rfl, rfl, rfl⟩ := open_bool Tryd.underlying4 (hval 0 4 v0 rfl rfl) h0
  have k1 := h1
  have lt1 : ∀ x ∈ p1, x.block < W.heap.size := by obtain ⟨m, hm⟩ := k1; exact DataW.trod_lt m _ _ _ hm
  obtain ⟨cs1, rfl, hz1⟩ := okWide_struct Tryd.underlying24 (hval 1 24 v1 rfl rfl)
  rw [show Tryd.prog.cellsOf 24 = 2 by kernel_rfl] at hz1
  obtain ⟨fu1, hf1⟩ := h1
  obtain ⟨c1_0, c1_1, rfl⟩ := array2 hz1
  obtain ⟨y1_0, y1_1, _, _, _, g1_0, g1_1⟩ := trod_struct2 Tryd.underlying24 hf1
  rw [show Tryd.prog.cellsOf 22 = 1 by kernel_rfl] at g1_0
  obtain ⟨a1_0, ea1_0, _, wa1_0⟩ := DataW.trod_int Tryd.underlying22 g1_0
  obtain rfl : c1_0 = .int .u64 a1_0 := (List.cons.inj ea1_0).1
  rw [show Tryd.prog.cellsOf 22 = 1 by kernel_rfl] at g1_1
  obtain ⟨a1_1, ea1_1, _, wa1_1⟩ := DataW.trod_int Tryd.underlying22 g1_1
  obtain rfl : c1_1 = .int .u64 a1_1 := (List.cons.inj ea1_1).1
  obtain ⟨a2, rfl, rfl, rfl, wa2⟩ := open_int Tryd.underlying3 (hval 2 3 v2 rfl rfl) h2
  have k3 := h3
  have lt3 : ∀ x ∈ p3, x.block < W.heap.size := by obtain ⟨m, hm⟩ := k3; exact DataW.trod_lt m _ _ _ hm
  obtain ⟨cs3, rfl, hz3⟩ := okWide_struct Tryd.underlying24 (hval 3 24 v3 rfl rfl)
  rw [show Tryd.prog.cellsOf 24 = 2 by kernel_rfl] at hz3
  obtain ⟨fu3, hf3⟩ := h3
  obtain ⟨c3_0, c3_1, rfl⟩ := array2 hz3
  obtain ⟨y3_0, y3_1, _, _, _, g3_0, g3_1⟩ := trod_struct2 Tryd.underlying24 hf3
  rw [show Tryd.prog.cellsOf 22 = 1 by kernel_rfl] at g3_0
  obtain ⟨a3_0, ea3_0, _, wa3_0⟩ := DataW.trod_int Tryd.underlying22 g3_0
  obtain rfl : c3_0 = .int .u64 a3_0 := (List.cons.inj ea3_0).1
  rw [show Tryd.prog.cellsOf 22 = 1 by kernel_rfl] at g3_1
  obtain ⟨a3_1, ea3_1, _, wa3_1⟩ := DataW.trod_int Tryd.underlying22 g3_1
  obtain rfl : c3_1 = .int .u64 a3_1 := (List.cons.inj ea3_1).1
  obtain ⟨a4, rfl, rfl, rfl, wa4⟩ := open_int Tryd.underlying3 (hval 4 3 v4 rfl rfl) h4
  have k5 := h5
  have lt5 : ∀ x ∈ p5, x.block < W.heap.size := by obtain ⟨m, hm⟩ := k5; exact DataW.trod_lt m _ _ _ hm
  obtain ⟨cs5, rfl, hz5⟩ := okWide_struct Tryd.underlying24 (hval 5 24 v5 rfl rfl)
  rw [show Tryd.prog.cellsOf 24 = 2 by kernel_rfl] at hz5
  obtain ⟨fu5, hf5⟩ := h5
  obtain ⟨c5_0, c5_1, rfl⟩ := array2 hz5
  obtain ⟨y5_0, y5_1, _, _, _, g5_0, g5_1⟩ := trod_struct2 Tryd.underlying24 hf5
  rw [show Tryd.prog.cellsOf 22 = 1 by kernel_rfl] at g5_0
  obtain ⟨a5_0, ea5_0, _, wa5_0⟩ := DataW.trod_int Tryd.underlying22 g5_0
  obtain rfl : c5_0 = .int .u64 a5_0 := (List.cons.inj ea5_0).1
  rw [show Tryd.prog.cellsOf 22 = 1 by kernel_rfl] at g5_1
  obtain ⟨a5_1, ea5_1, _, wa5_1⟩ := DataW.trod_int Tryd.underlying22 g5_1
  obtain rfl : c5_1 = .int .u64 a5_1 := (List.cons.inj ea5_1).1
  obtain ⟨a6, rfl, rfl, rfl, wa6⟩ := open_int Tryd.underlying3 (hval 6 3 v6 rfl rfl) h6
  clear hA0 hval0 hsz0 hsz
  have hML : X.MLOk W := ⟨Go.Proofs.cell_of_shapedOpen_int (zero := #[.int .i64 0]) (t := 3) hsh (of_decide_eq_true (by kernel_rfl)) (by kernel_rfl) rfl (by kernel_rfl) (by kernel_rfl) Tryd.underlying3, Lib.tabIs_of_head (k := .u64) (zs := Lib.pow10Tab) (n := 20) (e := 22) (t := 134) (g := 1) (by kernel_rfl) (by kernel_rfl) (by kernel_rfl) (by kernel_rfl) (by kernel_rfl) (by kernel_rfl) (by rw [← tab_p10]; exact (Card.laid_tail (Card.laid_tail hL0))), fun j hj => by
    have h := Lib.TabIs.cell (show Lib.TabIs Tryd.prog W "math/bits.deBruijn64tab" .u8 (Lib.deBruijn64tab.map Int.ofNat) from Lib.tabIs_of_head (k := .u8) (zs := (Lib.deBruijn64tab.map Int.ofNat)) (n := 64) (e := 5) (t := 152) (g := 3) (by kernel_rfl) (by kernel_rfl) (by kernel_rfl) (by kernel_rfl) (by kernel_rfl) (by kernel_rfl) (by rw [← tab_d64]; exact (Card.laid_tail hL0))) (g := 3) (by kernel_rfl) j (by rw [List.length_map]; exact hj)
    rw [h]; congr 2; exact Card.getD_ofNat _ j⟩
  refine (X.turnpikelaw3_PrefixOrder.walk Pure.PrefixOrder a0 a1_0 a1_1 a2 a3_0 a3_1 a4 a5_0 a5_1 a6 W hML wa1_0 wa1_1 wa2 wa3_0 wa3_1 wa4 wa5_0 wa5_1 wa6).mono fun e W' ⟨he, bel⟩ => ?_
  subst he
  exact ⟨_, rfl, _, _, _, [], _, [], hW', trodAll_mk1 (shut_bool Tryd.underlying4 _), (trodAll_cons_mk (shut_bool Tryd.underlying4 _) (trodAll_cons_mk (Below.trod laidOut (by kernel_rfl) (of_decide_eq_true (by kernel_rfl)) k1 bel lt1) (trodAll_cons_mk (shut_int Tryd.underlying3 wa2) (trodAll_cons_mk (Below.trod laidOut (by kernel_rfl) (of_decide_eq_true (by kernel_rfl)) k3 bel lt3) (trodAll_cons_mk (shut_int Tryd.underlying3 wa4) (trodAll_cons_mk (Below.trod laidOut (by kernel_rfl) (of_decide_eq_true (by kernel_rfl)) k5 bel lt5) (trodAll_cons_mk (shut_int Tryd.underlying3 wa6) trodAll_mk0))))))), rfl, bel.frame _, fun h => by cases h⟩
theorem over : Rows.prefixOrderRow.holds Tryd.pinned (OpenSpec.ofChange Rows.prefixOrderSpec) :=
  OpenClaim.holds_of_wide 10 Tryd.f10 rfl rfl rfl rfl rfl rfl rfl ⟨rfl, rfl, rfl, rfl, rfl⟩ rfl rfl rfl rfl rfl (by kernel_rfl) Tryd.func10 (by kernel_rfl)
    (of_decide_eq_true (by kernel_rfl)) (by unfold Func.isWrapper; first | (rw [if_pos (by decide +kernel)]; kernel_rfl) | (rw [if_neg (by decide +kernel)]; exact ⟨rfl, rfl⟩))
    (fun os started H enc _ => lifted os started H enc)
theorem card : Rows.PrefixOrderCardSaid :=
  Claim7.holds_tied_plain_at .later [] [.data, .data, .data] true (true, "d3b910c0206d85a3ab95646d8567c17cf98ab8401d38a4c77ffc59445b2c2656") false
    over (fun _ h => by cases h) (by kernel_rfl) (fun _ h => by cases h) prefixOrder_row_tie rfl ⟨rfl, rfl⟩ (by kernel_rfl) rfl
    (fun f fn hf hfn => by
      obtain rfl : f = 10 := Option.some.inj ((show Tryd.prog.funcNamed "turnpike/turnpikelaw3.PrefixOrder" = some 10 by kernel_rfl).symm.trans hf) |>.symm
      obtain rfl : fn = Tryd.f10 := (Option.some.inj (Tryd.func10.symm.trans hfn)).symm
      exact ⟨by kernel_rfl, fun j t ht => by
        rw [Tryd.params10] at ht
        have hm : t ∈ [4, 24, 3, 24, 3, 24, 3] := by simpa using Array.mem_of_getElem? ht
        have hall : ([4, 24, 3, 24, 3, 24, 3].all fun u => !Tryd.prog.wantsStandIn u) = true := by kernel_rfl
        exact (show Tryd.prog.wantsStandIn t = false by simpa using List.all_eq_true.1 hall t hm)⟩)
    (by kernel_rfl)
theorem proved : Rows.PrefixOrderCardSaid := card
#print axioms proved
end Go.Proofs.YtdjhmapmhajkcaaDoor.prefixOrder
namespace Go.Proofs.YtdjhmapmhajkcaaDoor
theorem prefixOrder_holds : Rows.PrefixOrderCardSaid := prefixOrder.proved
end Go.Proofs.YtdjhmapmhajkcaaDoor
