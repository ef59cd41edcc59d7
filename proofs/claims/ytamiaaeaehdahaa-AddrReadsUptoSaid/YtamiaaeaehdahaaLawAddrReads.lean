/- The law AddrReads: whatever the input (of bulk at most 1048576), the call returns true and each argument reads behind it as before.
   The row is written by a program of this session. -/
import Derived.Test.YtamiaaeaehdahaaRows
import Derived.Test.YtamiaaeaehdahaaX7
import Derived.Test.YtamiaaeaehdahaaPureAddrReads
import Derived.WalkKit
import Derived.ProofKit
import Derived.OpenShut
import Derived.ShutString
import Derived.ChangeOld
import Derived.Below
import Derived.SizedLaws
import Derived.HandedShaped
import Derived.JoinedCond
import Derived.Lib.SmallJoins
namespace Go.Proofs.Ytamiaaeaehdahaa.addrReads
open Go.ChangeShapes Go.WideShapes Go.ChangeAt Go.RowKit Go.Joins
open Go.ChangeMaps (open_string shut_string)
set_option linter.unusedVariables false
theorem own : ownKnob Try.prog.godebug = none := by kernel_rfl
theorem laidOut : laidOutB Try.prog = true := by kernel_rfl
set_option maxRecDepth 100000 in
theorem lifted (os : Os) (started : os.Started) (H : Type) (enc : TypeId × Value → H) (F : Stop.Interp) :
    ReturnsInHanded {} Try.checked os 3 .any ((Rows.OpenSpec.upto Rows.addrReadsSpec).pre6 enc Try.prog Try.f3 Rows.addrReadsUptoRow.domain false) (((Rows.OpenSpec.upto Rows.addrReadsSpec).at F).post enc Try.prog Try.f3 false true false false) := by
  refine returnsInHanded_of_calls own started (by kernel_rfl)
    (OpenSpec.witness (enc := enc) (C := Try.checked) (s := (Rows.OpenSpec.upto Rows.addrReadsSpec)) (k := Rows.uptoSmall) rfl false ⟨#[], #[.int .i64 0, .string ByteArray.empty], []⟩ 8 (by kernel_rfl) (by kernel_rfl) (by kernel_rfl)
      (x := ([.lit (.int .i64 0), .lit (.string [])], [], [])) (by kernel_rfl) rfl (by kernel_rfl)) ?_
  intro w tape i _ hsh0 _ hok hpre _
  obtain ⟨_, _, _, fn', hfn', _, _, _, _, hval1⟩ := hok
  have e' : fn' = Try.f3 := Option.some.inj (hfn'.symm.trans Try.func3)
  subst e'
  obtain ⟨ds, gs, before, hw, hcnd, hkk⟩ := (OpenSpec.pre_some (k := Rows.uptoSmall) rfl Rows.addrReadsUptoRow.domain false _ _).1 hpre.1
  have hW0 := DataW.Whole.of_heap (w' := w.forCall tape i) (by rfl) hw
  have hbulk : Rows.uptoBulkAll (ds ++ gs) ≤ 1048576 := of_decide_eq_true hkk
  clear hw hpre hkk hfn' hcnd
  generalize w.forCall tape i = W at hval1 hW0 hsh0 ⊢
  generalize w.heap.size = base at hval1
  generalize i.args = args at hval1 hW0 ⊢
  have key : Calls Try.prog 3 args W fun e W' => ∃ v, e = .returned v ∧ ((Rows.OpenSpec.upto Rows.addrReadsSpec).at F).post enc Try.prog Try.f3 false true false false W args v W' := by
    have hsh : W.ShapedOpen Try.prog := hsh0
    have hval0 := hval1
    have hW := hW0
    have hval : ∀ (j : Nat) t v, Try.f3.params[j]? = some t → args[j]? = some v → Value.okWide Try.prog W .any base t v := hval0
    have hW' := hW
    obtain ⟨p, q, hA0, hV, rfl, hfz, hnd⟩ := hW
    have hA : DataW.TrodAll enc Try.prog W 0 (fun _ => true) true Try.f3.params.toList args.toList ds p := hA0
    rw [Try.params3] at hA hval
    obtain ⟨v0, vs0, d0, ds0, p0, q0, hargs, rfl, rfl, h0, r0⟩ := trodAll_cons hA
    obtain ⟨v1, vs1, d1, ds1, p1, q1, rfl, rfl, rfl, h1, r1⟩ := trodAll_cons r0
    obtain ⟨rfl, rfl, rfl⟩ := trodAll_nil r1
    obtain rfl : args = #[v0, v1] := by cases args; simp_all
    obtain ⟨rfl, rfl⟩ := trodVars_none hV
    obtain ⟨a0, rfl, rfl, rfl, wa0⟩ := open_int Try.underlying3 (hval 0 3 v0 rfl rfl) h0
    obtain ⟨a1, rfl, rfl, rfl, y1⟩ := open_string Try.underlying9 (hval 1 9 v1 rfl rfl) h1
    have wa1 : a1.size ≤ 1048576 := by
      have z : a1.data.toList.length = a1.size := by simp
      simp only [List.cons_append, List.nil_append, Rows.uptoBulkAll, Rows.uptoBulk] at hbulk
      omega
    clear hbulk
    have hML : X.MLOk W := Go.Proofs.cell_of_shapedOpen_int (zero := #[.int .i64 0]) (t := 3) hsh (of_decide_eq_true (by kernel_rfl)) (by kernel_rfl) rfl (by kernel_rfl) (by kernel_rfl) Try.underlying3
    refine (X.turnpikelaw2_AddrReads.walk Pure.AddrReads a0 a1 W hML wa0 wa1).mono fun e W' ⟨he, bel⟩ => ?_
    subst he
    exact ⟨_, rfl, _, _, _, [], _, [], hW', trodAll_mk1 (shut_bool Try.underlying4 _), (trodAll_cons_mk (shut_int Try.underlying3 wa0) (trodAll_cons_mk (shut_string Try.underlying9 y1) trodAll_mk0)), rfl, bel.frame _, fun h => by cases h⟩
  refine key.mono fun e W' ⟨v, he, hp⟩ => ?_
  subst he
  exact ChangeSpec.post_blind hp
theorem over : Rows.addrReadsUptoRow.holds Try.pinned (Rows.OpenSpec.upto Rows.addrReadsSpec) :=
  OpenClaim.holds_of_cond 3 Try.f3 rfl rfl rfl rfl rfl rfl rfl ⟨rfl, rfl, rfl, rfl, rfl⟩ rfl rfl rfl rfl rfl (by kernel_rfl) Try.func3 (by kernel_rfl)
    (of_decide_eq_true (by kernel_rfl)) (by unfold Func.isWrapper; first | (rw [if_pos (by decide +kernel)]; kernel_rfl) | (rw [if_neg (by decide +kernel)]; exact ⟨rfl, rfl⟩))
    (fun os started H enc _ F => lifted os started H enc F)
theorem proved : Rows.AddrReadsUptoSaid := over
#print axioms proved
end Go.Proofs.Ytamiaaeaehdahaa.addrReads
namespace Go.Proofs.Ytamiaaeaehdahaa
/-- The row, under a short name, for the claim. -/
theorem addrReads_holds : Rows.AddrReadsUptoSaid := addrReads.proved
end Go.Proofs.Ytamiaaeaehdahaa
