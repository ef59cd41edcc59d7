/- The law PrefixReads: whatever the input (of bulk at most 1048576), the call returns true and each argument reads behind it as before.
   The row is written by a program of this session. -/
import Derived.Test.YtdjhmapmhajkcaaDoorRows
import Derived.Test.YtdjhmapmhajkcaaDoorCards
import Derived.Test.YtdjhmapmhajkcaaDoorTie
import Derived.Test.YtdjhmapmhajkcaaDoorZRCard
import Derived.Test.YtdjhmapmhajkcaaDoorZRCardU
import Derived.Test.YtdjhmapmhajkcaaDoorZRX38
import Derived.Test.YtdjhmapmhajkcaaDoorZRPurePrefixReads
import Derived.WalkKit
import Derived.ProofKit
import Derived.OpenShut
import Derived.ShutString
import Derived.ChangeOld
import Derived.Below
import Derived.SizedLaws
import Derived.HandedShaped
import Derived.JoinedCond
import Derived.Lib.SmallJoins
import Derived.SevenTiedAt
import Derived.LaidMore
namespace Go.Proofs.YtdjhmapmhajkcaaDoor.prefixReads
open Go.ChangeShapes Go.WideShapes Go.ChangeAt Go.RowKit Go.Joins
open Go.ChangeMaps (open_string shut_string)
set_option linter.unusedVariables false
theorem own : ownKnob Tryd.prog.godebug = none := by kernel_rfl
theorem laidOut : laidOutB Tryd.prog = true := by kernel_rfl
theorem tab_p10 {H : Type} : (Rows.laid_internal_strconv_uint64pow10 : DataW H) = Lib.tabData .u64 Lib.pow10Tab := by kernel_rfl
theorem tab_d64 {H : Type} : (Rows.laid_math_bits_deBruijn64tab : DataW H) = Lib.tabData .u8 (Lib.deBruijn64tab.map Int.ofNat) := by kernel_rfl
theorem door_met (os : Os) (args : Array Value) : laidMetH Tryd.prog Rows.prefixReadsUptoRow.laid ((World.doorLaid Tryd.prog 24 os).forCall (fun _ _ => 0) ⟨#[], args, []⟩).memory :=
  laidMetH_of_parts3 (fuel := 8) (laidMet_of_run' 8 (by kernel_rfl) (by kernel_rfl)) (by kernel_rfl) (by kernel_rfl)
set_option maxRecDepth 100000 in
theorem lifted (os : Os) (started : os.Started) (H : Type) (enc : TypeId × Value → H) (F : Stop.Interp) :
    ReturnsInHanded {} Tryd.checked os 12 .any (fun w args => ((Rows.OpenSpec.upto Rows.prefixReadsSpec).pre enc Tryd.prog Tryd.f12 Rows.prefixReadsUptoRow.domain false w args ∧ laidMetH Tryd.prog Rows.prefixReadsUptoRow.laid w) ∧ sizedMet enc Tryd.prog Tryd.f12 (Rows.OpenSpec.upto Rows.prefixReadsSpec) false w args) (((Rows.OpenSpec.upto Rows.prefixReadsSpec).at F).post enc Tryd.prog Tryd.f12 false true false false) := by
  refine Card.wrapU (C := Tryd.checked) (s := (Rows.OpenSpec.upto Rows.prefixReadsSpec)) (k := Rows.uptoSmall) rfl (X := fun w _ => laidMetH Tryd.prog Rows.prefixReadsUptoRow.laid w) (fun _ _ _ hh h => h.of_heap hh) own started (by kernel_rfl) Tryd.func12
    (Card.witnessU (enc := enc) (C := Tryd.checked) (s := (Rows.OpenSpec.upto Rows.prefixReadsSpec)) (k := Rows.uptoSmall) rfl (os := os) (X := fun w _ => laidMetH Tryd.prog Rows.prefixReadsUptoRow.laid w) false (World.doorLaid Tryd.prog 24 os) #[.int .i64 0, .string ByteArray.empty, .agg #[.int .u64 0, .int .u64 0, .int .i64 0]] 8 rfl (World.shaped_of_RefB (by kernel_rfl) (by kernel_rfl)) (by kernel_rfl) (x := ([.lit (.int .i64 0), .lit (.string []), .agg [.agg [.lit (.int .u64 0), .lit (.int .u64 0)], .lit (.int .i64 0)]], [], [])) (by kernel_rfl) rfl (by kernel_rfl) (by kernel_rfl) (door_met os _)) ?_
  intro W base args ds gs before hval0 hW0 _ hkk hsh hL _
  have hL0 : laidMet Tryd.prog Rows.prefixReadsUptoRow.laid W := by rw [← MakeChecks.laidMetH_plain _ _ _ (by kernel_rfl)]; exact hL
  have hbulk : Rows.uptoBulkAll (ds ++ gs) ≤ 1048576 := of_decide_eq_true hkk
  have key : Calls Tryd.prog 12 args W fun e W' => ∃ v, e = .returned v ∧ ((Rows.OpenSpec.upto Rows.prefixReadsSpec).at F).post enc Tryd.prog Tryd.f12 false true false false W args v W' := by
    have hW := hW0
    have hval : ∀ (j : Nat) t v, Tryd.f12.params[j]? = some t → args[j]? = some v → Value.okWide Tryd.prog W .any base t v := hval0
    have hW' := hW
    obtain ⟨p, q, hA0, hV, rfl, hfz, hnd⟩ := hW
    have hA : DataW.TrodAll enc Tryd.prog W 0 (fun _ => true) true Tryd.f12.params.toList args.toList ds p := hA0
    rw [Tryd.params12] at hA hval
    obtain ⟨v0, vs0, d0, ds0, p0, q0, hargs, rfl, rfl, h0, r0⟩ := trodAll_cons hA
    obtain ⟨v1, vs1, d1, ds1, p1, q1, rfl, rfl, rfl, h1, r1⟩ := trodAll_cons r0
    obtain ⟨v2, vs2, d2, ds2, p2, q2, rfl, rfl, rfl, h2, r2⟩ := trodAll_cons r1
    obtain ⟨rfl, rfl, rfl⟩ := trodAll_nil r2
    obtain rfl : args = #[v0, v1, v2] := by cases args; simp_all
    obtain ⟨rfl, rfl⟩ := trodVars_none hV
    obtain ⟨a0, rfl, rfl, rfl, wa0⟩ := open_int Tryd.underlying3 (hval 0 3 v0 rfl rfl) h0
    obtain ⟨a1, rfl, rfl, rfl, y1⟩ := open_string Tryd.underlying9 (hval 1 9 v1 rfl rfl) h1
    have wa1 : a1.size ≤ 1048576 := by
      have z : a1.data.toList.length = a1.size := by simp
      simp only [List.cons_append, List.nil_append, Rows.uptoBulkAll, Rows.uptoBulk] at hbulk
      omega
    have k2 := h2
    have lt2 : ∀ x ∈ p2, x.block < W.heap.size := by obtain ⟨m, hm⟩ := k2; exact DataW.trod_lt m _ _ _ hm
    obtain ⟨cs2, rfl, hz2⟩ := okWide_struct Tryd.underlying28 (hval 2 28 v2 rfl rfl)
    rw [show Tryd.prog.cellsOf 28 = 3 by kernel_rfl] at hz2
    obtain ⟨fu2, hf2⟩ := h2
    obtain ⟨c2_0, c2_1, c2_2, rfl⟩ := array3 hz2
    obtain ⟨y2_0, y2_1, _, _, _, g2_0, g2_1⟩ := trod_struct2 Tryd.underlying28 hf2
    rw [show Tryd.prog.cellsOf 24 = 2 by kernel_rfl] at g2_0
    obtain ⟨y2_2, y2_3, _, _, _, g2_2, g2_3⟩ := trod_struct2 Tryd.underlying24 g2_0
    rw [show Tryd.prog.cellsOf 22 = 1 by kernel_rfl] at g2_2
    obtain ⟨a2_0, ea2_0, _, wa2_0⟩ := DataW.trod_int Tryd.underlying22 g2_2
    obtain rfl : c2_0 = .int .u64 a2_0 := (List.cons.inj ea2_0).1
    rw [show Tryd.prog.cellsOf 22 = 1 by kernel_rfl] at g2_3
    obtain ⟨a2_1, ea2_1, _, wa2_1⟩ := DataW.trod_int Tryd.underlying22 g2_3
    obtain rfl : c2_1 = .int .u64 a2_1 := (List.cons.inj ea2_1).1
    rw [show Tryd.prog.cellsOf 3 = 1 by kernel_rfl] at g2_1
    obtain ⟨a2_2, ea2_2, _, wa2_2⟩ := DataW.trod_int Tryd.underlying3 g2_1
    obtain rfl : c2_2 = .int .i64 a2_2 := (List.cons.inj ea2_2).1
    clear hbulk
    have hML : X.MLOk W := ⟨Go.Proofs.cell_of_shapedOpen_int (zero := #[.int .i64 0]) (t := 3) hsh (of_decide_eq_true (by kernel_rfl)) (by kernel_rfl) rfl (by kernel_rfl) (by kernel_rfl) Tryd.underlying3, Lib.tabIs_of_head (k := .u64) (zs := Lib.pow10Tab) (n := 20) (e := 22) (t := 134) (g := 1) (by kernel_rfl) (by kernel_rfl) (by kernel_rfl) (by kernel_rfl) (by kernel_rfl) (by kernel_rfl) (by rw [← tab_p10]; exact (Card.laid_tail (Card.laid_tail hL0))), fun j hj => by
      have h := Lib.TabIs.cell (show Lib.TabIs Tryd.prog W "math/bits.deBruijn64tab" .u8 (Lib.deBruijn64tab.map Int.ofNat) from Lib.tabIs_of_head (k := .u8) (zs := (Lib.deBruijn64tab.map Int.ofNat)) (n := 64) (e := 5) (t := 152) (g := 3) (by kernel_rfl) (by kernel_rfl) (by kernel_rfl) (by kernel_rfl) (by kernel_rfl) (by kernel_rfl) (by rw [← tab_d64]; exact (Card.laid_tail hL0))) (g := 3) (by kernel_rfl) j (by rw [List.length_map]; exact hj)
      rw [h]; congr 2; exact Card.getD_ofNat _ j⟩
    refine (X.turnpikelaw3_PrefixReads.walk Pure.PrefixReads a0 a1 a2_0 a2_1 a2_2 W hML wa0 wa1 wa2_0 wa2_1 wa2_2).mono fun e W' ⟨he, bel⟩ => ?_
    subst he
    exact ⟨_, rfl, _, _, _, [], _, [], hW', trodAll_mk1 (shut_bool Tryd.underlying4 _), (trodAll_cons_mk (shut_int Tryd.underlying3 wa0) (trodAll_cons_mk (shut_string Tryd.underlying9 y1) (trodAll_cons_mk (Below.trod laidOut (by kernel_rfl) (of_decide_eq_true (by kernel_rfl)) k2 bel lt2) trodAll_mk0))), rfl, bel.frame _, fun h => by cases h⟩
  exact key
theorem over : Rows.prefixReadsUptoRow.holds Tryd.pinned (Rows.OpenSpec.upto Rows.prefixReadsSpec) :=
  OpenClaim.holds_of_cond 12 Tryd.f12 rfl rfl rfl rfl rfl rfl rfl ⟨rfl, rfl, rfl, rfl, rfl⟩ rfl rfl rfl rfl rfl (by kernel_rfl) Tryd.func12 (by kernel_rfl)
    (of_decide_eq_true (by kernel_rfl)) (by unfold Func.isWrapper; first | (rw [if_pos (by decide +kernel)]; kernel_rfl) | (rw [if_neg (by decide +kernel)]; exact ⟨rfl, rfl⟩))
    (fun os started H enc _ F => lifted os started H enc F)
theorem card : Rows.PrefixReadsUptoCardSaid :=
  Claim7.holds_tied_plain_at .later [] [.data, .data, .data] true (true, "d3b910c0206d85a3ab95646d8567c17cf98ab8401d38a4c77ffc59445b2c2656") false
    over (fun _ h => by cases h) (by kernel_rfl) (fun _ h => by cases h) prefixReadsUpto_row_tie rfl ⟨rfl, rfl⟩ (by kernel_rfl) rfl
    (fun f fn hf hfn => by
      obtain rfl : f = 12 := Option.some.inj ((show Tryd.prog.funcNamed "turnpike/turnpikelaw3.PrefixReads" = some 12 by kernel_rfl).symm.trans hf) |>.symm
      obtain rfl : fn = Tryd.f12 := (Option.some.inj (Tryd.func12.symm.trans hfn)).symm
      exact ⟨by kernel_rfl, fun j t ht => by
        rw [Tryd.params12] at ht
        have hm : t ∈ [3, 9, 28] := by simpa using Array.mem_of_getElem? ht
        have hall : ([3, 9, 28].all fun u => !Tryd.prog.wantsStandIn u) = true := by kernel_rfl
        exact (show Tryd.prog.wantsStandIn t = false by simpa using List.all_eq_true.1 hall t hm)⟩)
    (by kernel_rfl)
theorem proved : Rows.PrefixReadsUptoCardSaid := card
#print axioms proved
end Go.Proofs.YtdjhmapmhajkcaaDoor.prefixReads
namespace Go.Proofs.YtdjhmapmhajkcaaDoor
theorem prefixReads_holds : Rows.PrefixReadsUptoCardSaid := prefixReads.proved
end Go.Proofs.YtdjhmapmhajkcaaDoor
