-- Printed by a program of this session (xprint.py, over the kit's printer)
import Derived.Test.YtamiaaeaehdahaaDoorX0
import Derived.Test.YtamiaaeaehdahaaDoorZBX1
import Derived.Test.YtamiaaeaehdahaaDoorZBX2
import Derived.Test.YtamiaaeaehdahaaDoorZBX3
import Derived.Test.YtamiaaeaehdahaaDoorZBX4
import Derived.Test.YtamiaaeaehdahaaDoorZBX5
import Derived.Test.YtamiaaeaehdahaaDoorSh
namespace Go.Proofs.YtamiaaeaehdahaaDoor.X
open Go.RowKit Go.Proofs.YtamiaaeaehdahaaDoorW.PrintWords Go.Proofs.YtamiaaeaehdahaaDoorW.PrintLast Go.Proofs.YtamiaaeaehdahaaDoor.Sm Go.Proofs.YtamiaaeaehdahaaDoor.Sh
set_option linter.unusedVariables false
set_option linter.unusedSimpArgs false
attribute [local go_sem high] eqA24
def turnpikelaw2_family.f (a0 : Bool) : Option (Int) := if a0 = true then (some 128) else (some 32)
set_option maxHeartbeats 8000000 in
set_option maxRecDepth 100000 in
theorem turnpikelaw2_family.calls (a0 : Bool) (r : Int) (w : World) (h : turnpikelaw2_family.f a0 = some r) :
    Calls Tryd.prog 10 #[.bool a0] w fun e w' => e = .returned (.int .i64 r) ∧ Drawn0 w w' := by
  have H : (if a0 = true then (some 128) else (some 32)) = some r := h
  clear h
  by_cases c2 : a0 = true
  · subst c2
    have H1 : (some 128) = some r := by rw [if_pos rfl] at H; exact H
    clear H
    have H := H1
    clear H1
    obtain rfl := Option.some.inj H
    go_enter Tryd.func10, Tryd.ntmps10
    go_wp2
    go_ret
    exact ⟨by first | rfl | (simp; done) | (simp [*]; done), xD⟩
  · replace c2 := Bool.eq_false_iff.mpr c2
    subst c2
    have H1 : (some 32) = some r := by rw [if_neg (show ¬ (false = true) by decide)] at H; exact H
    clear H
    have H := H1
    clear H1
    obtain rfl := Option.some.inj H
    go_enter Tryd.func10, Tryd.ntmps10
    go_wp2
    go_ret
    exact ⟨by first | rfl | (simp; done) | (simp [*]; done), xD⟩
mutual
def turnpikelaw2_AddrBack.j0 : Nat → Bool → ByteArray → Bool → Option (Bool)
  | 0, _, _, _ => none
  | k + 1, x0, x6, x47 => if x47 = true then (some false) else (turnpikelaw2_AddrBack.l0 k x0 x6 0)
def turnpikelaw2_AddrBack.l0 : Nat → Bool → ByteArray → Int → Option (Bool)
  | 0, _, _, _ => none
  | k + 1, x0, x6, x10 => if x10 < (x6.size : Int) then (if 0 ≤ x10 then (if (bt x6 x10) ≥ 48 then (if (bt x6 x10) ≤ 57 then (turnpikelaw2_AddrBack.l0 k x0 x6 (wrap64 (x10 + 1))) else (if (bt x6 x10) = 46 then (if x0 = true then (if (bt x6 x10) = 58 then (turnpikelaw2_AddrBack.l0 k x0 x6 (wrap64 (x10 + 1))) else (if (bt x6 x10) ≥ 97 then (if (bt x6 x10) ≤ 102 then (turnpikelaw2_AddrBack.l0 k x0 x6 (wrap64 (x10 + 1))) else (some false)) else (some false))) else (turnpikelaw2_AddrBack.l0 k x0 x6 (wrap64 (x10 + 1)))) else (if (bt x6 x10) = 58 then (if x0 = true then (turnpikelaw2_AddrBack.l0 k x0 x6 (wrap64 (x10 + 1))) else (some false)) else (if (bt x6 x10) ≥ 97 then (if (bt x6 x10) ≤ 102 then (if x0 = true then (turnpikelaw2_AddrBack.l0 k x0 x6 (wrap64 (x10 + 1))) else (some false)) else (some false)) else (some false))))) else (if (bt x6 x10) = 46 then (if x0 = true then (if (bt x6 x10) = 58 then (turnpikelaw2_AddrBack.l0 k x0 x6 (wrap64 (x10 + 1))) else (if (bt x6 x10) ≥ 97 then (if (bt x6 x10) ≤ 102 then (turnpikelaw2_AddrBack.l0 k x0 x6 (wrap64 (x10 + 1))) else (some false)) else (some false))) else (turnpikelaw2_AddrBack.l0 k x0 x6 (wrap64 (x10 + 1)))) else (if (bt x6 x10) = 58 then (if x0 = true then (turnpikelaw2_AddrBack.l0 k x0 x6 (wrap64 (x10 + 1))) else (some false)) else (if (bt x6 x10) ≥ 97 then (if (bt x6 x10) ≤ 102 then (if x0 = true then (turnpikelaw2_AddrBack.l0 k x0 x6 (wrap64 (x10 + 1))) else (some false)) else (some false)) else (some false))))) else (none)) else (some true)
end
def turnpikelaw2_AddrBack.f (k : Nat) (a0 : Bool) (a1_0 : Int) (a1_1 : Int) : Option (Bool) := (turnpikelaw2_known.f k).bind fun t262 => (if t262 = true then ((turnpikelaw2_family.f a0).bind fun t263 => ((turnpikeref1_Mask.f k t263).bind fun bt264 => ((turnpikeref1_And.f a1_0 a1_1 bt264.1 bt264.2).bind fun bt266 => ((addr_Text.f k t263 bt266.1 bt266.2).bind fun bt268 => ((addr_Parse.f k t263 bt268.1).bind fun bt270 => (if bt268.2 = 0 then (if bt270.2.2 = 0 then (if (!(bt270.1 == bt266.1) || (!(bt270.2.1 == bt266.2))) = true then (turnpikelaw2_AddrBack.j0 k a0 bt268.1 true) else (turnpikelaw2_AddrBack.j0 k a0 bt268.1 (decide ((bt268.1.size : Int) > 39)))) else (turnpikelaw2_AddrBack.j0 k a0 bt268.1 true)) else (turnpikelaw2_AddrBack.j0 k a0 bt268.1 true))))))) else (some false))
theorem turnpikelaw2_AddrBack.mono_l : ∀ k, (∀ y0 y1 y2, LeO (turnpikelaw2_AddrBack.j0 k y0 y1 y2) (turnpikelaw2_AddrBack.j0 (k + 1) y0 y1 y2)) ∧ (∀ y0 y1 y2, LeO (turnpikelaw2_AddrBack.l0 k y0 y1 y2) (turnpikelaw2_AddrBack.l0 (k + 1) y0 y1 y2))
  | 0 => ⟨fun _ _ _ r h => by simp [turnpikelaw2_AddrBack.j0] at h, fun _ _ _ r h => by simp [turnpikelaw2_AddrBack.l0] at h⟩
  | k + 1 => by
    obtain ⟨ih0, ih1⟩ := turnpikelaw2_AddrBack.mono_l k
    refine ⟨?_, ?_⟩
    · intro y0 y1 y2
      unfold turnpikelaw2_AddrBack.j0
      have m0 := @addr_Parse.mono
      have m1 := @addr_Text.mono
      have m2 := @turnpikelaw2_known.mono
      have m3 := @turnpikeref1_Mask.mono
      exact xO
    · intro y0 y1 y2
      unfold turnpikelaw2_AddrBack.l0
      have m0 := @addr_Parse.mono
      have m1 := @addr_Text.mono
      have m2 := @turnpikelaw2_known.mono
      have m3 := @turnpikeref1_Mask.mono
      exact xO
theorem turnpikelaw2_AddrBack.mono : ∀ a0 a1 a2 k, LeO (turnpikelaw2_AddrBack.f k a0 a1 a2) (turnpikelaw2_AddrBack.f (k + 1) a0 a1 a2) := by
  intro a0 a1 a2 k
  obtain ⟨ih0, ih1⟩ := turnpikelaw2_AddrBack.mono_l k
  unfold turnpikelaw2_AddrBack.f
  have m0 := @addr_Parse.mono
  have m1 := @addr_Text.mono
  have m2 := @turnpikelaw2_known.mono
  have m3 := @turnpikeref1_Mask.mono
  exact xO
set_option maxHeartbeats 8000000 in
set_option maxRecDepth 100000 in
theorem turnpikelaw2_AddrBack.calls (k : Nat) (a0 : Bool) (a1_0 : Int) (a1_1 : Int) (r : Bool) (w : World) (hML : MLOk w) (hr_ : Aside0 (r = true)) (h : turnpikelaw2_AddrBack.f k a0 a1_0 a1_1 = some r) :
    Calls Tryd.prog 4 #[.bool a0, .agg #[.int .u64 a1_0, .int .u64 a1_1]] w fun e w' => e = .returned (.bool r) ∧ Below w.heap.size w w' := by
  have hu24 := Tryd.underlying24
  have HML := Aside0.mk hML
  clear hML
  have HB := Aside0.mk (Below.refl w.heap.size w)
  have H : ((turnpikelaw2_known.f k).bind fun t262 => (if t262 = true then ((turnpikelaw2_family.f a0).bind fun t263 => ((turnpikeref1_Mask.f k t263).bind fun bt264 => ((turnpikeref1_And.f a1_0 a1_1 bt264.1 bt264.2).bind fun bt266 => ((addr_Text.f k t263 bt266.1 bt266.2).bind fun bt268 => ((addr_Parse.f k t263 bt268.1).bind fun bt270 => (if bt268.2 = 0 then (if bt270.2.2 = 0 then (if (!(bt270.1 == bt266.1) || (!(bt270.2.1 == bt266.2))) = true then (turnpikelaw2_AddrBack.j0 k a0 bt268.1 true) else (turnpikelaw2_AddrBack.j0 k a0 bt268.1 (decide ((bt268.1.size : Int) > 39)))) else (turnpikelaw2_AddrBack.j0 k a0 bt268.1 true)) else (turnpikelaw2_AddrBack.j0 k a0 bt268.1 true))))))) else (some false))) = some r := h
  clear h
  replace H := Option.bind_eq_some_iff.mp H
  obtain ⟨t262, A30, H⟩ := H
  replace H : (if t262 = true then ((turnpikelaw2_family.f a0).bind fun t263 => ((turnpikeref1_Mask.f k t263).bind fun bt264 => ((turnpikeref1_And.f a1_0 a1_1 bt264.1 bt264.2).bind fun bt266 => ((addr_Text.f k t263 bt266.1 bt266.2).bind fun bt268 => ((addr_Parse.f k t263 bt268.1).bind fun bt270 => (if bt268.2 = 0 then (if bt270.2.2 = 0 then (if (!(bt270.1 == bt266.1) || (!(bt270.2.1 == bt266.2))) = true then (turnpikelaw2_AddrBack.j0 k a0 bt268.1 true) else (turnpikelaw2_AddrBack.j0 k a0 bt268.1 (decide ((bt268.1.size : Int) > 39)))) else (turnpikelaw2_AddrBack.j0 k a0 bt268.1 true)) else (turnpikelaw2_AddrBack.j0 k a0 bt268.1 true))))))) else (some false)) = some r := H
  have A3 := Aside0.mk A30
  clear A30
  by_cases c4 : t262 = true
  · subst c4
    have H1 : ((turnpikelaw2_family.f a0).bind fun t263 => ((turnpikeref1_Mask.f k t263).bind fun bt264 => ((turnpikeref1_And.f a1_0 a1_1 bt264.1 bt264.2).bind fun bt266 => ((addr_Text.f k t263 bt266.1 bt266.2).bind fun bt268 => ((addr_Parse.f k t263 bt268.1).bind fun bt270 => (if bt268.2 = 0 then (if bt270.2.2 = 0 then (if (!(bt270.1 == bt266.1) || (!(bt270.2.1 == bt266.2))) = true then (turnpikelaw2_AddrBack.j0 k a0 bt268.1 true) else (turnpikelaw2_AddrBack.j0 k a0 bt268.1 (decide ((bt268.1.size : Int) > 39)))) else (turnpikelaw2_AddrBack.j0 k a0 bt268.1 true)) else (turnpikelaw2_AddrBack.j0 k a0 bt268.1 true))))))) = some r := by rw [if_pos rfl] at H; exact H
    clear H
    have H := H1
    clear H1
    replace H := Option.bind_eq_some_iff.mp H
    obtain ⟨t263, A50, H⟩ := H
    replace H : ((turnpikeref1_Mask.f k t263).bind fun bt264 => ((turnpikeref1_And.f a1_0 a1_1 bt264.1 bt264.2).bind fun bt266 => ((addr_Text.f k t263 bt266.1 bt266.2).bind fun bt268 => ((addr_Parse.f k t263 bt268.1).bind fun bt270 => (if bt268.2 = 0 then (if bt270.2.2 = 0 then (if (!(bt270.1 == bt266.1) || (!(bt270.2.1 == bt266.2))) = true then (turnpikelaw2_AddrBack.j0 k a0 bt268.1 true) else (turnpikelaw2_AddrBack.j0 k a0 bt268.1 (decide ((bt268.1.size : Int) > 39)))) else (turnpikelaw2_AddrBack.j0 k a0 bt268.1 true)) else (turnpikelaw2_AddrBack.j0 k a0 bt268.1 true)))))) = some r := H
    have A5 := Aside0.mk A50
    clear A50
    replace H := Option.bind_eq_some_iff.mp H
    obtain ⟨⟨t264, t265⟩, A60, H⟩ := H
    replace H : ((turnpikeref1_And.f a1_0 a1_1 t264 t265).bind fun bt266 => ((addr_Text.f k t263 bt266.1 bt266.2).bind fun bt268 => ((addr_Parse.f k t263 bt268.1).bind fun bt270 => (if bt268.2 = 0 then (if bt270.2.2 = 0 then (if (!(bt270.1 == bt266.1) || (!(bt270.2.1 == bt266.2))) = true then (turnpikelaw2_AddrBack.j0 k a0 bt268.1 true) else (turnpikelaw2_AddrBack.j0 k a0 bt268.1 (decide ((bt268.1.size : Int) > 39)))) else (turnpikelaw2_AddrBack.j0 k a0 bt268.1 true)) else (turnpikelaw2_AddrBack.j0 k a0 bt268.1 true))))) = some r := H
    have A6 := Aside0.mk A60
    clear A60
    replace H := Option.bind_eq_some_iff.mp H
    obtain ⟨⟨t266, t267⟩, A70, H⟩ := H
    replace H : ((addr_Text.f k t263 t266 t267).bind fun bt268 => ((addr_Parse.f k t263 bt268.1).bind fun bt270 => (if bt268.2 = 0 then (if bt270.2.2 = 0 then (if (!(bt270.1 == t266) || (!(bt270.2.1 == t267))) = true then (turnpikelaw2_AddrBack.j0 k a0 bt268.1 true) else (turnpikelaw2_AddrBack.j0 k a0 bt268.1 (decide ((bt268.1.size : Int) > 39)))) else (turnpikelaw2_AddrBack.j0 k a0 bt268.1 true)) else (turnpikelaw2_AddrBack.j0 k a0 bt268.1 true)))) = some r := H
    have A7 := Aside0.mk A70
    clear A70
    replace H := Option.bind_eq_some_iff.mp H
    obtain ⟨⟨t268, t269⟩, A80, H⟩ := H
    replace H : ((addr_Parse.f k t263 t268).bind fun bt270 => (if t269 = 0 then (if bt270.2.2 = 0 then (if (!(bt270.1 == t266) || (!(bt270.2.1 == t267))) = true then (turnpikelaw2_AddrBack.j0 k a0 t268 true) else (turnpikelaw2_AddrBack.j0 k a0 t268 (decide ((t268.size : Int) > 39)))) else (turnpikelaw2_AddrBack.j0 k a0 t268 true)) else (turnpikelaw2_AddrBack.j0 k a0 t268 true))) = some r := H
    have A8 := Aside0.mk A80
    clear A80
    replace H := Option.bind_eq_some_iff.mp H
    obtain ⟨⟨t270, t271, t272⟩, A90, H⟩ := H
    replace H : (if t269 = 0 then (if t272 = 0 then (if (!(t270 == t266) || (!(t271 == t267))) = true then (turnpikelaw2_AddrBack.j0 k a0 t268 true) else (turnpikelaw2_AddrBack.j0 k a0 t268 (decide ((t268.size : Int) > 39)))) else (turnpikelaw2_AddrBack.j0 k a0 t268 true)) else (turnpikelaw2_AddrBack.j0 k a0 t268 true)) = some r := H
    have A9 := Aside0.mk A90
    clear A90
    have HC10 := Aside0.mk H
    clear H
    go_enter Tryd.func4, Tryd.ntmps4
    try go_wp2_with (first | ((with_reducible refine gate_dst (N := 3) rfl ?_); (try (refine gate_guard (by rfl) ?_; dsimp only)); refine box_event ?hg (N := 3) ?hd (cs := #[.int .u64 a1_0, .int .u64 a1_1]) (t := 24) ?hr ?_; (case hd => rfl); (case hg => rfl); (case hr => first | (go_simp; done) | (go_simp; rfl)); intro gb261 hg w11 hbox hb; have n0_ := Aside0.mk (below_step xB hb); have n1_ := Aside0.mk (hbox); have n2_ := Aside0.mk ((by rw [hg]; exact (below_size xB) : w.heap.size ≤ gb261)); have n3_ := Aside0.mk ((by rw [hg]; exact (below_size xB) : w.heap.size ≤ gb261)); clear HB; have HB := n0_; have BK261 := n1_; have GW261 := n2_; have GE261 := n3_; clear n0_ n1_ n2_ n3_; clear hb hbox hg) | ((with_reducible refine gate_callee (f := 7) rfl ?_); refine goesL_ (some 12) rfl rfl Tryd.func7 (by kernel_rfl) rfl #[] rfl xM ?_; (with_reducible refine (turnpikelaw2_known.calls k  true _ ?side1 A3.out).mono ?_); (case side1 => first | exact MLOk.below HML.out xG | (repeat (first | exact HML.out | (with_reducible refine MLOk.alloc ?_ _) | (with_reducible refine MLOk.drewN ?_ _) | (with_reducible refine MLOk.drew ?_)))); rintro e w12 ⟨rfl, hb⟩; refine ⟨_, rfl, ?_⟩; have n0_ := Aside0.mk (blk_below (g := gb261) (o := .cells #[.int .u64 a1_0, .int .u64 a1_1] 24 (0, 0)) (xK BK261.out) hb); have n1_ := Aside0.mk (below_step xG hb); clear BK261; clear HB; have BK261 := n0_; have HB := n1_; clear n0_ n1_; (try clear hb); (try clear hb2); (try clear hk); (try clear hi)) | ((with_reducible refine gate_callee (f := 10) rfl ?_); refine goesL_ (some 15) rfl rfl Tryd.func10 (by kernel_rfl) rfl #[.bool a0] rfl xM ?_; (with_reducible refine (turnpikelaw2_family.calls a0 t263 _ A5.out).mono ?_); rintro e w' ⟨rfl, ⟨nd, rfl⟩⟩; refine ⟨_, rfl, ?_⟩; (try (rw [drewN_self w12]; generalize hq_ : World.drewN w12 _ = w12; have n0_ : Aside0 (w12.heap[gb261]? = some (.cells #[.int .u64 a1_0, .int .u64 a1_1] 24 (0, 0))) := ⟨by rw [← hq_]; exact (xK BK261.out)⟩; have n1_ : Aside0 (Below w.heap.size w w12) := ⟨by rw [← hq_]; exact xG⟩; clear BK261 HB hq_; have BK261 := n0_; have HB := n1_; clear n0_ n1_))))
    have n0_ := Aside0.mk (blk_drew BK261.out)
    have n1_ := Aside0.mk (below_drew1 HB.out)
    clear BK261
    clear HB
    have BK261 := n0_
    have HB := n1_
    clear n0_ n1_
    refine start_ (n := 5) (S := fun w' => w'.cell? ⟨gb261, 0, none⟩ = some (.int .u64 a1_0) ∧ w'.cell? ⟨gb261, 1, none⟩ = some (.int .u64 a1_1)) (ds := [4]) #[false, false, false, false, false] (by kernel_rfl) rfl rfl ⟨(blk_cell BK261.out 0).trans rfl, (blk_cell BK261.out 1).trans rfl⟩ (fun hHeld => ?_)
    generalize w12.drew = w13 at BK261 HB hHeld ⊢
    refine pure_ (i := 1) (N := some 17) (v := ?_) (a' := ?_) #[false, true, false, false, false] rfl rfl (by kernel_rfl) (fun _ _ _ h => h) (Or.inl ⟨by rfl, ?_⟩) ?_ ?_
    rotate_left
    · intro w'
      go_simp
      with_reducible rfl
    rotate_left
    · simp only [Act.put, List.setIfInBounds_toArray, List.set_cons_zero, List.set_cons_succ, i64_w, i32_w]
      rfl
    refine take_ (i := 0) (N := some 16) (v := ?_) (a' := ?_) #[true, true, false, false, false] rfl rfl (by kernel_rfl) (fun _ _ _ h => h) (Or.inl ⟨by rfl, ?_⟩) hHeld ?_ ?_
    rotate_left
    · rintro w' ⟨s0, s1⟩
      go_simp
      with_reducible rfl
    rotate_left
    · simp only [Act.put, List.setIfInBounds_toArray, List.set_cons_zero, List.set_cons_succ, i64_w, i32_w]
      rfl
    refine one_ (i := 2) (N := some 18) #[true, true, true, false, false] rfl rfl (by kernel_rfl) (by decide) (fun K hK => ?_)
    refine goes_ Tryd.func12 (by kernel_rfl) rfl #[.int .i64 t263] (by rfl) rfl rfl xM ?_
    with_reducible refine (turnpikeref1_Mask.calls k t263 t264 t265 _ A6.out).mono ?_
    rintro e w14 ⟨rfl, hb⟩
    refine ⟨_, rfl, ?_⟩
    have n0_ := Aside0.mk (blk_below (g := gb261) (o := .cells #[.int .u64 a1_0, .int .u64 a1_1] 24 (0, 0)) (xK BK261.out) hb)
    have n1_ := Aside0.mk (below_step xG hb)
    clear BK261
    clear HB
    have BK261 := n0_
    have HB := n1_
    clear n0_ n1_
    (try clear hb)
    (try clear hb2)
    (try clear hk)
    (try clear hi)
    refine hK.out _ _ ⟨(blk_cell BK261.out 0).trans rfl, (blk_cell BK261.out 1).trans rfl⟩ (fun hHeld => ?_)
    clear hK K
    refine norm_ (a' := ?_) ?_ ?_
    rotate_left
    · show Act.put _ (some 18) _ = _
      simp only [Act.put, List.setIfInBounds_toArray, List.set_cons_zero, List.set_cons_succ, i64_w, i32_w]
      rfl
    refine one_ (i := 3) (N := some 19) #[true, true, true, true, false] rfl rfl (by kernel_rfl) (by decide) (fun K hK => ?_)
    refine goes_ Tryd.func11 (by kernel_rfl) rfl #[.agg #[.int .u64 a1_0, .int .u64 a1_1], .agg #[.int .u64 t264, .int .u64 t265]] (by rfl) rfl rfl xM ?_
    with_reducible refine (turnpikeref1_And.calls a1_0 a1_1 t264 t265 t266 t267 _ A7.out).mono ?_
    rintro e w15 ⟨rfl, hb⟩
    refine ⟨_, rfl, ?_⟩
    have n0_ := Aside0.mk (blk_below (g := gb261) (o := .cells #[.int .u64 a1_0, .int .u64 a1_1] 24 (0, 0)) (xK BK261.out) hb)
    have n1_ := Aside0.mk (below_step xG hb)
    clear BK261
    clear HB
    have BK261 := n0_
    have HB := n1_
    clear n0_ n1_
    (try clear hb)
    (try clear hb2)
    (try clear hk)
    (try clear hi)
    refine hK.out _ _ ⟨(blk_cell BK261.out 0).trans rfl, (blk_cell BK261.out 1).trans rfl⟩ (fun hHeld => ?_)
    clear hK K
    refine norm_ (a' := ?_) ?_ ?_
    rotate_left
    · show Act.put _ (some 19) _ = _
      simp only [Act.put, List.setIfInBounds_toArray, List.set_cons_zero, List.set_cons_succ, i64_w, i32_w]
      rfl
    refine last_ (i := 4) (N := none) #[true, true, true, true, true] rfl rfl (by kernel_rfl) (by decide) (fun K hK => ?_)
    have hs16 : w15.cell? ⟨gb261, 0, none⟩ = some (.int .u64 a1_0) := (blk_cell BK261.out 0).trans rfl
    have hfs16 := blk_frozen BK261.out 0
    have hs17 : w15.cell? ⟨gb261, 1, none⟩ = some (.int .u64 a1_1) := (blk_cell BK261.out 1).trans rfl
    have hfs17 := blk_frozen BK261.out 1
    refine skip_ (w1 := ?_) (by rfl) rfl ?_ ?_
    rotate_left
    · go_simp
      rfl
    refine hK.out _ _ ?_
    clear hK K
    refine done_ (by kernel_rfl) ?_
    have hcz18_0 : w15.cell? ⟨gb261, 0, none⟩ = some (.int .u64 a1_0) := (blk_cell BK261.out 0).trans rfl
    have hcz18_1 : w15.cell? ⟨gb261, 1, none⟩ = some (.int .u64 a1_1) := (blk_cell BK261.out 1).trans rfl
    have hfz18_0 := blk_frozen BK261.out 0
    have hfz18_1 := blk_frozen BK261.out 1
    go_upto_region 7 with (first | ((with_reducible refine gate_callee (f := 5) rfl ?_); refine goesL_ (some 23) rfl rfl Tryd.func5 (by kernel_rfl) rfl #[.int .i64 t263, .agg #[.int .u64 t266, .int .u64 t267]] rfl xM ?_; (with_reducible refine (addr_Text.calls k t263 t266 t267 t268 t269 _ ?side1 A8.out).mono ?_); (case side1 => first | exact MLOk.below HML.out xG | (repeat (first | exact HML.out | (with_reducible refine MLOk.alloc ?_ _) | (with_reducible refine MLOk.drewN ?_ _) | (with_reducible refine MLOk.drew ?_)))); rintro e w19 ⟨rfl, hb⟩; refine ⟨_, rfl, ?_⟩; have n0_ := Aside0.mk (blk_below (g := gb261) (o := .cells #[.int .u64 t266, .int .u64 t267] 24 (0, 0)) (by (with_reducible repeat (first | refine blk_drewN ?_ _ | refine blk_drew ?_ | refine blk_alloc ?_ _)); refine blk_put (cs := #[.int .u64 t266, .int .u64 a1_1]) ?_ 1 _ rfl; (with_reducible repeat (first | refine blk_drewN ?_ _ | refine blk_drew ?_ | refine blk_alloc ?_ _)); refine blk_put (cs := #[.int .u64 a1_0, .int .u64 a1_1]) ?_ 0 _ rfl; (with_reducible repeat (first | refine blk_drewN ?_ _ | refine blk_drew ?_ | refine blk_alloc ?_ _)); exact BK261.out) hb); have n1_ := Aside0.mk (below_step xG hb); clear BK261; clear HB; have BK261 := n0_; have HB := n1_; clear n0_ n1_; (try clear hb); (try clear hb2); (try clear hk); (try clear hi)) | ((with_reducible refine gate_callee (f := 13) rfl ?_); refine goesL_ (some 29) rfl rfl Tryd.func13 (by kernel_rfl) rfl #[.int .i64 t263, .string t268] rfl xM ?_; (with_reducible refine (addr_Parse.calls k t263 t268 t270 t271 t272 _ ?side1 A9.out).mono ?_); (case side1 => first | exact MLOk.below HML.out xG | (repeat (first | exact HML.out | (with_reducible refine MLOk.alloc ?_ _) | (with_reducible refine MLOk.drewN ?_ _) | (with_reducible refine MLOk.drew ?_)))); rintro e w20 ⟨rfl, hb⟩; refine ⟨_, rfl, ?_⟩; have n0_ := Aside0.mk (blk_below (g := gb261) (o := .cells #[.int .u64 t266, .int .u64 t267] 24 (0, 0)) (xK BK261.out) hb); have n1_ := Aside0.mk (below_step xG hb); clear BK261; clear HB; have BK261 := n0_; have HB := n1_; clear n0_ n1_; (try clear hb); (try clear hb2); (try clear hk); (try clear hi)) | ((with_reducible refine gate_dst (N := 8) rfl ?_); (try (refine gate_guard (by rfl) ?_; dsimp only)); refine box_event ?hg (N := 8) ?hd (cs := #[.int .u64 0, .int .u64 0]) (t := 24) ?hr ?_; (case hd => rfl); (case hg => rfl); (case hr => first | (go_simp; done) | (go_simp; rfl)); intro gb273 hg w21 hbox hb; have n0_ := Aside0.mk (blk_below (g := gb261) (o := .cells #[.int .u64 t266, .int .u64 t267] 24 (0, 0)) (xK BK261.out) hb); have n1_ := Aside0.mk (below_step xG hb); have n2_ := Aside0.mk (hbox); have n3_ := Aside0.mk ((by rw [hg]; exact (below_size xG) : w.heap.size ≤ gb273)); have n4_ := Aside0.mk ((by rw [hg]; exact (below_size xG) : w.heap.size ≤ gb273)); have n5_ := Aside0.mk ((xN BK261.out : gb261 ≠ gb273)); have n6_ := Aside0.mk ((xN BK261.out : gb273 ≠ gb261)); clear BK261; clear HB; have BK261 := n0_; have HB := n1_; have BK273 := n2_; have GW273 := n3_; have GE273 := n4_; have NB261_273 := n5_; have NB273_261 := n6_; clear n0_ n1_ n2_ n3_ n4_ n5_ n6_; clear hb hbox hg; have hnb22 := NB273_261.out; have hnc22 := NB261_273.out; have hcz23_0 : w21.cell? ⟨gb273, 0, none⟩ = some (.int .u64 0) := (blk_cell BK273.out 0).trans rfl; have hcz23_1 : w21.cell? ⟨gb273, 1, none⟩ = some (.int .u64 0) := (blk_cell BK273.out 1).trans rfl; have hfz23_0 := blk_frozen BK273.out 0; have hfz23_1 := blk_frozen BK273.out 1))
    (try simp only [Act.put, List.setIfInBounds_toArray, List.set_cons_zero, List.set_cons_succ])
    go_cut [47] (fun v47 wc => ∃ (kq : Nat) (x47_9 : Bool), v47 = .bool x47_9 ∧ Aside0 (turnpikelaw2_AddrBack.j0 kq a0 t268 x47_9 = some r) ∧ Aside0 (kq ≤ k) ∧ Aside0 (wc.heap[gb261]? = some (.cells #[.int .u64 t266, .int .u64 t267] 24 (0, 0))) ∧ Aside0 (wc.heap[gb273]? = some (.cells #[.int .u64 t270, .int .u64 t271] 24 (0, 0))) ∧ Aside0 (Below w.heap.size w wc))
    case first =>
      have H := HC10.out
      clear HC10
      by_cases c24 : t269 = 0
      · rw [if_pos c24] at H
        have c24b0 : (t269 == 0) = true := beq_iff_eq.mpr c24
        have c24b1 : (t269 != 0) = false := bne_eq_false_iff_eq.mpr c24
        clear c24
        (first | rw [c24b0] | (simp only [i64_w, i32_w]; rw [c24b0]) | skip)
        by_cases c25 : t272 = 0
        · rw [if_pos c25] at H
          have c25b0 : (t272 == 0) = true := beq_iff_eq.mpr c25
          have c25b1 : (t272 != 0) = false := bne_eq_false_iff_eq.mpr c25
          clear c25
          by_cases c26 : (!(t270 == t266) || (!(t271 == t267))) = true
          · rw [if_pos c26] at H
            have c26b0 : (!(t270 == t266) || (!(t271 == t267))) = true := c26
            clear c26
            have H' := Aside0.mk H
            clear H
            have hnb27 := NB273_261.out
            have hnc27 := NB261_273.out
            have hcz28_0 : w21.cell? ⟨gb273, 0, none⟩ = some (.int .u64 0) := (blk_cell BK273.out 0).trans rfl
            have hcz28_1 : w21.cell? ⟨gb273, 1, none⟩ = some (.int .u64 0) := (blk_cell BK273.out 1).trans rfl
            have hfz28_0 := blk_frozen BK273.out 0
            have hfz28_1 := blk_frozen BK273.out 1
            have hcz29_0 : w21.cell? ⟨gb261, 0, none⟩ = some (.int .u64 t266) := (blk_cell BK261.out 0).trans rfl
            have hcz29_1 : w21.cell? ⟨gb261, 1, none⟩ = some (.int .u64 t267) := (blk_cell BK261.out 1).trans rfl
            have hfz29_0 := blk_frozen BK261.out 0
            have hfz29_1 := blk_frozen BK261.out 1
            go_wp2
            go_meet
            case rel => exact ⟨_, (true), xV, H', ⟨by first | omega | exact Nat.le_refl _⟩, ⟨by (with_reducible repeat (first | refine blk_drewN ?_ _ | refine blk_drew ?_ | refine blk_alloc ?_ _)); refine blk_far ?_ NB261_273.out _; (with_reducible repeat (first | refine blk_drewN ?_ _ | refine blk_drew ?_ | refine blk_alloc ?_ _)); refine blk_far ?_ NB261_273.out _; (with_reducible repeat (first | refine blk_drewN ?_ _ | refine blk_drew ?_ | refine blk_alloc ?_ _)); exact BK261.out⟩, ⟨by (with_reducible repeat (first | refine blk_drewN ?_ _ | refine blk_drew ?_ | refine blk_alloc ?_ _)); refine blk_put (cs := #[.int .u64 t270, .int .u64 0]) ?_ 1 _ rfl; (with_reducible repeat (first | refine blk_drewN ?_ _ | refine blk_drew ?_ | refine blk_alloc ?_ _)); refine blk_put (cs := #[.int .u64 0, .int .u64 0]) ?_ 0 _ rfl; (with_reducible repeat (first | refine blk_drewN ?_ _ | refine blk_drew ?_ | refine blk_alloc ?_ _)); exact BK273.out⟩, ⟨xG⟩⟩
          · rw [if_neg c26] at H
            have c26b0 : (!(t270 == t266) || (!(t271 == t267))) = false := by simpa using c26
            clear c26
            have H' := Aside0.mk H
            clear H
            have hnb30 := NB273_261.out
            have hnc30 := NB261_273.out
            have hcz31_0 : w21.cell? ⟨gb273, 0, none⟩ = some (.int .u64 0) := (blk_cell BK273.out 0).trans rfl
            have hcz31_1 : w21.cell? ⟨gb273, 1, none⟩ = some (.int .u64 0) := (blk_cell BK273.out 1).trans rfl
            have hfz31_0 := blk_frozen BK273.out 0
            have hfz31_1 := blk_frozen BK273.out 1
            have hcz32_0 : w21.cell? ⟨gb261, 0, none⟩ = some (.int .u64 t266) := (blk_cell BK261.out 0).trans rfl
            have hcz32_1 : w21.cell? ⟨gb261, 1, none⟩ = some (.int .u64 t267) := (blk_cell BK261.out 1).trans rfl
            have hfz32_0 := blk_frozen BK261.out 0
            have hfz32_1 := blk_frozen BK261.out 1
            go_wp2
            go_meet
            case rel => exact ⟨_, (decide ((t268.size : Int) > 39)), xV, H', ⟨by first | omega | exact Nat.le_refl _⟩, ⟨by (with_reducible repeat (first | refine blk_drewN ?_ _ | refine blk_drew ?_ | refine blk_alloc ?_ _)); refine blk_far ?_ NB261_273.out _; (with_reducible repeat (first | refine blk_drewN ?_ _ | refine blk_drew ?_ | refine blk_alloc ?_ _)); refine blk_far ?_ NB261_273.out _; (with_reducible repeat (first | refine blk_drewN ?_ _ | refine blk_drew ?_ | refine blk_alloc ?_ _)); exact BK261.out⟩, ⟨by (with_reducible repeat (first | refine blk_drewN ?_ _ | refine blk_drew ?_ | refine blk_alloc ?_ _)); refine blk_put (cs := #[.int .u64 t270, .int .u64 0]) ?_ 1 _ rfl; (with_reducible repeat (first | refine blk_drewN ?_ _ | refine blk_drew ?_ | refine blk_alloc ?_ _)); refine blk_put (cs := #[.int .u64 0, .int .u64 0]) ?_ 0 _ rfl; (with_reducible repeat (first | refine blk_drewN ?_ _ | refine blk_drew ?_ | refine blk_alloc ?_ _)); exact BK273.out⟩, ⟨xG⟩⟩
        · rw [if_neg c25] at H
          have c25b0 : (t272 == 0) = false := beq_eq_false_iff_ne.mpr c25
          have c25b1 : (t272 != 0) = true := bne_iff_ne.mpr c25
          have H' := Aside0.mk H
          clear H
          go_wp2
          go_meet
          case rel => exact ⟨_, (true), xV, H', ⟨by first | omega | exact Nat.le_refl _⟩, ⟨by (with_reducible repeat (first | refine blk_drewN ?_ _ | refine blk_drew ?_ | refine blk_alloc ?_ _)); refine blk_far ?_ NB261_273.out _; (with_reducible repeat (first | refine blk_drewN ?_ _ | refine blk_drew ?_ | refine blk_alloc ?_ _)); refine blk_far ?_ NB261_273.out _; (with_reducible repeat (first | refine blk_drewN ?_ _ | refine blk_drew ?_ | refine blk_alloc ?_ _)); exact BK261.out⟩, ⟨by (with_reducible repeat (first | refine blk_drewN ?_ _ | refine blk_drew ?_ | refine blk_alloc ?_ _)); refine blk_put (cs := #[.int .u64 t270, .int .u64 0]) ?_ 1 _ rfl; (with_reducible repeat (first | refine blk_drewN ?_ _ | refine blk_drew ?_ | refine blk_alloc ?_ _)); refine blk_put (cs := #[.int .u64 0, .int .u64 0]) ?_ 0 _ rfl; (with_reducible repeat (first | refine blk_drewN ?_ _ | refine blk_drew ?_ | refine blk_alloc ?_ _)); exact BK273.out⟩, ⟨xG⟩⟩
      · rw [if_neg c24] at H
        have c24b0 : (t269 == 0) = false := beq_eq_false_iff_ne.mpr c24
        have c24b1 : (t269 != 0) = true := bne_iff_ne.mpr c24
        (first | rw [c24b0] | (simp only [i64_w, i32_w]; rw [c24b0]) | skip)
        have H' := Aside0.mk H
        clear H
        go_wp2
        go_meet
        case rel => exact ⟨_, (true), xV, H', ⟨by first | omega | exact Nat.le_refl _⟩, ⟨by (with_reducible repeat (first | refine blk_drewN ?_ _ | refine blk_drew ?_ | refine blk_alloc ?_ _)); refine blk_far ?_ NB261_273.out _; (with_reducible repeat (first | refine blk_drewN ?_ _ | refine blk_drew ?_ | refine blk_alloc ?_ _)); refine blk_far ?_ NB261_273.out _; (with_reducible repeat (first | refine blk_drewN ?_ _ | refine blk_drew ?_ | refine blk_alloc ?_ _)); exact BK261.out⟩, ⟨by (with_reducible repeat (first | refine blk_drewN ?_ _ | refine blk_drew ?_ | refine blk_alloc ?_ _)); refine blk_put (cs := #[.int .u64 t270, .int .u64 0]) ?_ 1 _ rfl; (with_reducible repeat (first | refine blk_drewN ?_ _ | refine blk_drew ?_ | refine blk_alloc ?_ _)); refine blk_put (cs := #[.int .u64 0, .int .u64 0]) ?_ 0 _ rfl; (with_reducible repeat (first | refine blk_drewN ?_ _ | refine blk_drew ?_ | refine blk_alloc ?_ _)); exact BK273.out⟩, ⟨xG⟩⟩
    case rest =>
      clear HC10
      try clear c1
      try clear c2
      try clear p2
      try clear c3
      try clear c4
      try clear c5
      try clear c7
      try clear c10
      try clear c11
      try clear c12
      try clear c13
      try clear c22
      try clear c24
      try clear c24b0
      try clear c24b1
      try clear c25
      try clear c25b0
      try clear c25b1
      try clear c26
      try clear c26b0
      try clear c27
      try clear c30
      try clear hcz18_0
      try clear hcz18_1
      try clear hcz23_0
      try clear hcz23_1
      try clear hcz28_0
      try clear hcz28_1
      try clear hcz29_0
      try clear hcz29_1
      try clear hcz31_0
      try clear hcz31_1
      try clear hcz32_0
      try clear hcz32_1
      try clear hfz18_0
      try clear hfz18_1
      try clear hfz23_0
      try clear hfz23_1
      try clear hfz28_0
      try clear hfz28_1
      try clear hfz29_0
      try clear hfz29_1
      try clear hfz31_0
      try clear hfz31_1
      try clear hfz32_0
      try clear hfz32_1
      obtain ⟨kq, x47_9, rfl, HA, HJ9, BK261, BK273, HB⟩ := hcut
      cases kq with
      | zero => exact absurd HA.out (by simp [turnpikelaw2_AddrBack.j0])
      | succ kj9 =>
        have H := HA.out
        clear HA
        simp only [turnpikelaw2_AddrBack.j0] at H
        by_cases c33 : x47_9 = true
        · subst c33
          have H1 : (some false) = some r := by rw [if_pos rfl] at H; exact H
          clear H
          have H := H1
          clear H1
          obtain rfl := Option.some.inj H
          exact absurd hr_.out (by decide)
        · replace c33 := Bool.eq_false_iff.mpr c33
          subst c33
          have H1 : (turnpikelaw2_AddrBack.l0 kj9 a0 t268 0) = some r := by rw [if_neg (show ¬ (false = true) by decide)] at H; exact H
          clear H
          have H := H1
          clear H1
          have H' := Aside0.mk H
          clear H
          go_wp2
          go_loopg [10] kj9 (fun kq v10 w' => ∃ (x10_2 : Int), v10 = .int .i64 x10_2 ∧ Aside0 (turnpikelaw2_AddrBack.l0 kq a0 t268 x10_2 = some r) ∧ Aside0 (kq ≤ kj9) ∧ Aside0 (w'.heap[gb261]? = some (.cells #[.int .u64 t266, .int .u64 t267] 24 (0, 0))) ∧ Aside0 (w'.heap[gb273]? = some (.cells #[.int .u64 t270, .int .u64 t271] 24 (0, 0))) ∧ Aside0 (Below w.heap.size w w'))
          case atStart => exact ⟨(0), xV, H', ⟨Nat.le_refl _⟩, ⟨xK BK261.out⟩, ⟨xK BK273.out⟩, ⟨xG⟩⟩
          case round =>
            clear H'
            try clear c1
            try clear c2
            try clear p2
            try clear c3
            try clear c4
            try clear c5
            try clear c7
            try clear c10
            try clear c11
            try clear c12
            try clear c13
            try clear c22
            try clear c24
            try clear c24b0
            try clear c24b1
            try clear c25
            try clear c25b0
            try clear c25b1
            try clear c26
            try clear c26b0
            try clear c27
            try clear c30
            try clear c33
            try clear hcz18_0
            try clear hcz18_1
            try clear hcz23_0
            try clear hcz23_1
            try clear hcz28_0
            try clear hcz28_1
            try clear hcz29_0
            try clear hcz29_1
            try clear hcz31_0
            try clear hcz31_1
            try clear hcz32_0
            try clear hcz32_1
            try clear hfz18_0
            try clear hfz18_1
            try clear hfz23_0
            try clear hfz23_1
            try clear hfz28_0
            try clear hfz28_1
            try clear hfz29_0
            try clear hfz29_1
            try clear hfz31_0
            try clear hfz31_1
            try clear hfz32_0
            try clear hfz32_1
            try clear p2
            obtain ⟨x10_2, rfl, HA, HK2, BK261, BK273, HB⟩ := hrel
            cases gk with
            | zero => exact absurd HA.out (by simp [turnpikelaw2_AddrBack.l0])
            | succ k2 =>
              have H := HA.out
              clear HA
              simp only [turnpikelaw2_AddrBack.l0] at H
              by_cases c34 : x10_2 < (t268.size : Int)
              · rw [if_pos c34] at H
                have c34b0 : decide (x10_2 < (t268.size : Int)) = true := decide_eq_true c34
                clear c34
                by_cases c35 : 0 ≤ x10_2
                · rw [if_pos c35] at H
                  have c35b0 : decide (0 ≤ x10_2) = true := decide_eq_true c35
                  clear c35
                  by_cases c37 : (bt t268 x10_2) ≥ 48
                  · rw [if_pos c37] at H
                    have c37b0 : decide (48 ≤ (bt t268 x10_2)) = true := decide_eq_true c37
                    clear c37
                    by_cases c38 : (bt t268 x10_2) ≤ 57
                    · rw [if_pos c38] at H
                      have c38b0 : decide ((bt t268 x10_2) ≤ 57) = true := decide_eq_true c38
                      clear c38
                      have H' := Aside0.mk H
                      clear H
                      have p36 : 0 ≤ (x10_2 : Int) := of_decide_eq_true xA
                      have q36 : x10_2 < (t268.size : Int) := of_decide_eq_true xA
                      have hx36 := bt_at t268 x10_2
                      replace p36 := eq_true p36
                      replace q36 := eq_true q36
                      go_wp2
                      go_roundg k2
                      case measure => have := HJ9.out; have := HK2.out; omega
                      case rel => exact ⟨(wrap64 (x10_2 + 1)), xV, H', ⟨by have := HJ9.out; have := HK2.out; omega⟩, ⟨xK BK261.out⟩, ⟨xK BK273.out⟩, ⟨xG⟩⟩
                    · rw [if_neg c38] at H
                      have c38b0 : decide ((bt t268 x10_2) ≤ 57) = false := decide_eq_false c38
                      clear c38
                      by_cases c39 : (bt t268 x10_2) = 46
                      · rw [if_pos c39] at H
                        have c39b0 : ((bt t268 x10_2) == 46) = true := beq_iff_eq.mpr c39
                        have c39b1 : ((bt t268 x10_2) != 46) = false := bne_eq_false_iff_eq.mpr c39
                        clear c39
                        by_cases c40 : a0 = true
                        · subst c40
                          have H1 : (if (bt t268 x10_2) = 58 then (turnpikelaw2_AddrBack.l0 k2 true t268 (wrap64 (x10_2 + 1))) else (if (bt t268 x10_2) ≥ 97 then (if (bt t268 x10_2) ≤ 102 then (turnpikelaw2_AddrBack.l0 k2 true t268 (wrap64 (x10_2 + 1))) else (some false)) else (some false))) = some r := by rw [if_pos rfl] at H; exact H
                          clear H
                          have H := H1
                          clear H1
                          by_cases c41 : (bt t268 x10_2) = 58
                          · rw [if_pos c41] at H
                            have c41b0 : ((bt t268 x10_2) == 58) = true := beq_iff_eq.mpr c41
                            have c41b1 : ((bt t268 x10_2) != 58) = false := bne_eq_false_iff_eq.mpr c41
                            clear c41
                            have H' := Aside0.mk H
                            clear H
                            have p36 : 0 ≤ (x10_2 : Int) := of_decide_eq_true xA
                            have q36 : x10_2 < (t268.size : Int) := of_decide_eq_true xA
                            have hx36 := bt_at t268 x10_2
                            replace p36 := eq_true p36
                            replace q36 := eq_true q36
                            go_wp2
                            go_roundg k2
                            case measure => have := HJ9.out; have := HK2.out; omega
                            case rel => exact ⟨(wrap64 (x10_2 + 1)), xV, H', ⟨by have := HJ9.out; have := HK2.out; omega⟩, ⟨xK BK261.out⟩, ⟨xK BK273.out⟩, ⟨xG⟩⟩
                          · rw [if_neg c41] at H
                            have c41b0 : ((bt t268 x10_2) == 58) = false := beq_eq_false_iff_ne.mpr c41
                            have c41b1 : ((bt t268 x10_2) != 58) = true := bne_iff_ne.mpr c41
                            by_cases c42 : (bt t268 x10_2) ≥ 97
                            · rw [if_pos c42] at H
                              have c42b0 : decide (97 ≤ (bt t268 x10_2)) = true := decide_eq_true c42
                              clear c42
                              by_cases c43 : (bt t268 x10_2) ≤ 102
                              · rw [if_pos c43] at H
                                have c43b0 : decide ((bt t268 x10_2) ≤ 102) = true := decide_eq_true c43
                                clear c43
                                have H' := Aside0.mk H
                                clear H
                                have p36 : 0 ≤ (x10_2 : Int) := of_decide_eq_true xA
                                have q36 : x10_2 < (t268.size : Int) := of_decide_eq_true xA
                                have hx36 := bt_at t268 x10_2
                                replace p36 := eq_true p36
                                replace q36 := eq_true q36
                                go_wp2
                                go_roundg k2
                                case measure => have := HJ9.out; have := HK2.out; omega
                                case rel => exact ⟨(wrap64 (x10_2 + 1)), xV, H', ⟨by have := HJ9.out; have := HK2.out; omega⟩, ⟨xK BK261.out⟩, ⟨xK BK273.out⟩, ⟨xG⟩⟩
                              · rw [if_neg c43] at H
                                have c43b0 : decide ((bt t268 x10_2) ≤ 102) = false := decide_eq_false c43
                                clear c43
                                obtain rfl := Option.some.inj H
                                exact absurd hr_.out (by decide)
                            · rw [if_neg c42] at H
                              have c42b0 : decide (97 ≤ (bt t268 x10_2)) = false := decide_eq_false c42
                              clear c42
                              obtain rfl := Option.some.inj H
                              exact absurd hr_.out (by decide)
                        · replace c40 := Bool.eq_false_iff.mpr c40
                          subst c40
                          have H1 : (turnpikelaw2_AddrBack.l0 k2 false t268 (wrap64 (x10_2 + 1))) = some r := by rw [if_neg (show ¬ (false = true) by decide)] at H; exact H
                          clear H
                          have H := H1
                          clear H1
                          have H' := Aside0.mk H
                          clear H
                          have p36 : 0 ≤ (x10_2 : Int) := of_decide_eq_true xA
                          have q36 : x10_2 < (t268.size : Int) := of_decide_eq_true xA
                          have hx36 := bt_at t268 x10_2
                          replace p36 := eq_true p36
                          replace q36 := eq_true q36
                          go_wp2
                          go_roundg k2
                          case measure => have := HJ9.out; have := HK2.out; omega
                          case rel => exact ⟨(wrap64 (x10_2 + 1)), xV, H', ⟨by have := HJ9.out; have := HK2.out; omega⟩, ⟨xK BK261.out⟩, ⟨xK BK273.out⟩, ⟨xG⟩⟩
                      · rw [if_neg c39] at H
                        have c39b0 : ((bt t268 x10_2) == 46) = false := beq_eq_false_iff_ne.mpr c39
                        have c39b1 : ((bt t268 x10_2) != 46) = true := bne_iff_ne.mpr c39
                        by_cases c44 : (bt t268 x10_2) = 58
                        · rw [if_pos c44] at H
                          have c44b0 : ((bt t268 x10_2) == 58) = true := beq_iff_eq.mpr c44
                          have c44b1 : ((bt t268 x10_2) != 58) = false := bne_eq_false_iff_eq.mpr c44
                          clear c44
                          by_cases c45 : a0 = true
                          · subst c45
                            have H1 : (turnpikelaw2_AddrBack.l0 k2 true t268 (wrap64 (x10_2 + 1))) = some r := by rw [if_pos rfl] at H; exact H
                            clear H
                            have H := H1
                            clear H1
                            have H' := Aside0.mk H
                            clear H
                            have p36 : 0 ≤ (x10_2 : Int) := of_decide_eq_true xA
                            have q36 : x10_2 < (t268.size : Int) := of_decide_eq_true xA
                            have hx36 := bt_at t268 x10_2
                            replace p36 := eq_true p36
                            replace q36 := eq_true q36
                            go_wp2
                            go_roundg k2
                            case measure => have := HJ9.out; have := HK2.out; omega
                            case rel => exact ⟨(wrap64 (x10_2 + 1)), xV, H', ⟨by have := HJ9.out; have := HK2.out; omega⟩, ⟨xK BK261.out⟩, ⟨xK BK273.out⟩, ⟨xG⟩⟩
                          · replace c45 := Bool.eq_false_iff.mpr c45
                            subst c45
                            have H1 : (some false) = some r := by rw [if_neg (show ¬ (false = true) by decide)] at H; exact H
                            clear H
                            have H := H1
                            clear H1
                            obtain rfl := Option.some.inj H
                            exact absurd hr_.out (by decide)
                        · rw [if_neg c44] at H
                          have c44b0 : ((bt t268 x10_2) == 58) = false := beq_eq_false_iff_ne.mpr c44
                          have c44b1 : ((bt t268 x10_2) != 58) = true := bne_iff_ne.mpr c44
                          by_cases c46 : (bt t268 x10_2) ≥ 97
                          · rw [if_pos c46] at H
                            have c46b0 : decide (97 ≤ (bt t268 x10_2)) = true := decide_eq_true c46
                            clear c46
                            by_cases c47 : (bt t268 x10_2) ≤ 102
                            · rw [if_pos c47] at H
                              have c47b0 : decide ((bt t268 x10_2) ≤ 102) = true := decide_eq_true c47
                              clear c47
                              by_cases c48 : a0 = true
                              · subst c48
                                have H1 : (turnpikelaw2_AddrBack.l0 k2 true t268 (wrap64 (x10_2 + 1))) = some r := by rw [if_pos rfl] at H; exact H
                                clear H
                                have H := H1
                                clear H1
                                have H' := Aside0.mk H
                                clear H
                                have p36 : 0 ≤ (x10_2 : Int) := of_decide_eq_true xA
                                have q36 : x10_2 < (t268.size : Int) := of_decide_eq_true xA
                                have hx36 := bt_at t268 x10_2
                                replace p36 := eq_true p36
                                replace q36 := eq_true q36
                                go_wp2
                                go_roundg k2
                                case measure => have := HJ9.out; have := HK2.out; omega
                                case rel => exact ⟨(wrap64 (x10_2 + 1)), xV, H', ⟨by have := HJ9.out; have := HK2.out; omega⟩, ⟨xK BK261.out⟩, ⟨xK BK273.out⟩, ⟨xG⟩⟩
                              · replace c48 := Bool.eq_false_iff.mpr c48
                                subst c48
                                have H1 : (some false) = some r := by rw [if_neg (show ¬ (false = true) by decide)] at H; exact H
                                clear H
                                have H := H1
                                clear H1
                                obtain rfl := Option.some.inj H
                                exact absurd hr_.out (by decide)
                            · rw [if_neg c47] at H
                              have c47b0 : decide ((bt t268 x10_2) ≤ 102) = false := decide_eq_false c47
                              clear c47
                              obtain rfl := Option.some.inj H
                              exact absurd hr_.out (by decide)
                          · rw [if_neg c46] at H
                            have c46b0 : decide (97 ≤ (bt t268 x10_2)) = false := decide_eq_false c46
                            clear c46
                            obtain rfl := Option.some.inj H
                            exact absurd hr_.out (by decide)
                  · rw [if_neg c37] at H
                    have c37b0 : decide (48 ≤ (bt t268 x10_2)) = false := decide_eq_false c37
                    clear c37
                    by_cases c49 : (bt t268 x10_2) = 46
                    · rw [if_pos c49] at H
                      have c49b0 : ((bt t268 x10_2) == 46) = true := beq_iff_eq.mpr c49
                      have c49b1 : ((bt t268 x10_2) != 46) = false := bne_eq_false_iff_eq.mpr c49
                      clear c49
                      by_cases c50 : a0 = true
                      · subst c50
                        have H1 : (if (bt t268 x10_2) = 58 then (turnpikelaw2_AddrBack.l0 k2 true t268 (wrap64 (x10_2 + 1))) else (if (bt t268 x10_2) ≥ 97 then (if (bt t268 x10_2) ≤ 102 then (turnpikelaw2_AddrBack.l0 k2 true t268 (wrap64 (x10_2 + 1))) else (some false)) else (some false))) = some r := by rw [if_pos rfl] at H; exact H
                        clear H
                        have H := H1
                        clear H1
                        by_cases c51 : (bt t268 x10_2) = 58
                        · rw [if_pos c51] at H
                          have c51b0 : ((bt t268 x10_2) == 58) = true := beq_iff_eq.mpr c51
                          have c51b1 : ((bt t268 x10_2) != 58) = false := bne_eq_false_iff_eq.mpr c51
                          clear c51
                          have H' := Aside0.mk H
                          clear H
                          have p36 : 0 ≤ (x10_2 : Int) := of_decide_eq_true xA
                          have q36 : x10_2 < (t268.size : Int) := of_decide_eq_true xA
                          have hx36 := bt_at t268 x10_2
                          replace p36 := eq_true p36
                          replace q36 := eq_true q36
                          go_wp2
                          go_roundg k2
                          case measure => have := HJ9.out; have := HK2.out; omega
                          case rel => exact ⟨(wrap64 (x10_2 + 1)), xV, H', ⟨by have := HJ9.out; have := HK2.out; omega⟩, ⟨xK BK261.out⟩, ⟨xK BK273.out⟩, ⟨xG⟩⟩
                        · rw [if_neg c51] at H
                          have c51b0 : ((bt t268 x10_2) == 58) = false := beq_eq_false_iff_ne.mpr c51
                          have c51b1 : ((bt t268 x10_2) != 58) = true := bne_iff_ne.mpr c51
                          by_cases c52 : (bt t268 x10_2) ≥ 97
                          · rw [if_pos c52] at H
                            have c52b0 : decide (97 ≤ (bt t268 x10_2)) = true := decide_eq_true c52
                            clear c52
                            by_cases c53 : (bt t268 x10_2) ≤ 102
                            · rw [if_pos c53] at H
                              have c53b0 : decide ((bt t268 x10_2) ≤ 102) = true := decide_eq_true c53
                              clear c53
                              have H' := Aside0.mk H
                              clear H
                              have p36 : 0 ≤ (x10_2 : Int) := of_decide_eq_true xA
                              have q36 : x10_2 < (t268.size : Int) := of_decide_eq_true xA
                              have hx36 := bt_at t268 x10_2
                              replace p36 := eq_true p36
                              replace q36 := eq_true q36
                              go_wp2
                              go_roundg k2
                              case measure => have := HJ9.out; have := HK2.out; omega
                              case rel => exact ⟨(wrap64 (x10_2 + 1)), xV, H', ⟨by have := HJ9.out; have := HK2.out; omega⟩, ⟨xK BK261.out⟩, ⟨xK BK273.out⟩, ⟨xG⟩⟩
                            · rw [if_neg c53] at H
                              have c53b0 : decide ((bt t268 x10_2) ≤ 102) = false := decide_eq_false c53
                              clear c53
                              obtain rfl := Option.some.inj H
                              exact absurd hr_.out (by decide)
                          · rw [if_neg c52] at H
                            have c52b0 : decide (97 ≤ (bt t268 x10_2)) = false := decide_eq_false c52
                            clear c52
                            obtain rfl := Option.some.inj H
                            exact absurd hr_.out (by decide)
                      · replace c50 := Bool.eq_false_iff.mpr c50
                        subst c50
                        have H1 : (turnpikelaw2_AddrBack.l0 k2 false t268 (wrap64 (x10_2 + 1))) = some r := by rw [if_neg (show ¬ (false = true) by decide)] at H; exact H
                        clear H
                        have H := H1
                        clear H1
                        have H' := Aside0.mk H
                        clear H
                        have p36 : 0 ≤ (x10_2 : Int) := of_decide_eq_true xA
                        have q36 : x10_2 < (t268.size : Int) := of_decide_eq_true xA
                        have hx36 := bt_at t268 x10_2
                        replace p36 := eq_true p36
                        replace q36 := eq_true q36
                        go_wp2
                        go_roundg k2
                        case measure => have := HJ9.out; have := HK2.out; omega
                        case rel => exact ⟨(wrap64 (x10_2 + 1)), xV, H', ⟨by have := HJ9.out; have := HK2.out; omega⟩, ⟨xK BK261.out⟩, ⟨xK BK273.out⟩, ⟨xG⟩⟩
                    · rw [if_neg c49] at H
                      have c49b0 : ((bt t268 x10_2) == 46) = false := beq_eq_false_iff_ne.mpr c49
                      have c49b1 : ((bt t268 x10_2) != 46) = true := bne_iff_ne.mpr c49
                      by_cases c54 : (bt t268 x10_2) = 58
                      · rw [if_pos c54] at H
                        have c54b0 : ((bt t268 x10_2) == 58) = true := beq_iff_eq.mpr c54
                        have c54b1 : ((bt t268 x10_2) != 58) = false := bne_eq_false_iff_eq.mpr c54
                        clear c54
                        by_cases c55 : a0 = true
                        · subst c55
                          have H1 : (turnpikelaw2_AddrBack.l0 k2 true t268 (wrap64 (x10_2 + 1))) = some r := by rw [if_pos rfl] at H; exact H
                          clear H
                          have H := H1
                          clear H1
                          have H' := Aside0.mk H
                          clear H
                          have p36 : 0 ≤ (x10_2 : Int) := of_decide_eq_true xA
                          have q36 : x10_2 < (t268.size : Int) := of_decide_eq_true xA
                          have hx36 := bt_at t268 x10_2
                          replace p36 := eq_true p36
                          replace q36 := eq_true q36
                          go_wp2
                          go_roundg k2
                          case measure => have := HJ9.out; have := HK2.out; omega
                          case rel => exact ⟨(wrap64 (x10_2 + 1)), xV, H', ⟨by have := HJ9.out; have := HK2.out; omega⟩, ⟨xK BK261.out⟩, ⟨xK BK273.out⟩, ⟨xG⟩⟩
                        · replace c55 := Bool.eq_false_iff.mpr c55
                          subst c55
                          have H1 : (some false) = some r := by rw [if_neg (show ¬ (false = true) by decide)] at H; exact H
                          clear H
                          have H := H1
                          clear H1
                          obtain rfl := Option.some.inj H
                          exact absurd hr_.out (by decide)
                      · rw [if_neg c54] at H
                        have c54b0 : ((bt t268 x10_2) == 58) = false := beq_eq_false_iff_ne.mpr c54
                        have c54b1 : ((bt t268 x10_2) != 58) = true := bne_iff_ne.mpr c54
                        by_cases c56 : (bt t268 x10_2) ≥ 97
                        · rw [if_pos c56] at H
                          have c56b0 : decide (97 ≤ (bt t268 x10_2)) = true := decide_eq_true c56
                          clear c56
                          by_cases c57 : (bt t268 x10_2) ≤ 102
                          · rw [if_pos c57] at H
                            have c57b0 : decide ((bt t268 x10_2) ≤ 102) = true := decide_eq_true c57
                            clear c57
                            by_cases c58 : a0 = true
                            · subst c58
                              have H1 : (turnpikelaw2_AddrBack.l0 k2 true t268 (wrap64 (x10_2 + 1))) = some r := by rw [if_pos rfl] at H; exact H
                              clear H
                              have H := H1
                              clear H1
                              have H' := Aside0.mk H
                              clear H
                              have p36 : 0 ≤ (x10_2 : Int) := of_decide_eq_true xA
                              have q36 : x10_2 < (t268.size : Int) := of_decide_eq_true xA
                              have hx36 := bt_at t268 x10_2
                              replace p36 := eq_true p36
                              replace q36 := eq_true q36
                              go_wp2
                              go_roundg k2
                              case measure => have := HJ9.out; have := HK2.out; omega
                              case rel => exact ⟨(wrap64 (x10_2 + 1)), xV, H', ⟨by have := HJ9.out; have := HK2.out; omega⟩, ⟨xK BK261.out⟩, ⟨xK BK273.out⟩, ⟨xG⟩⟩
                            · replace c58 := Bool.eq_false_iff.mpr c58
                              subst c58
                              have H1 : (some false) = some r := by rw [if_neg (show ¬ (false = true) by decide)] at H; exact H
                              clear H
                              have H := H1
                              clear H1
                              obtain rfl := Option.some.inj H
                              exact absurd hr_.out (by decide)
                          · rw [if_neg c57] at H
                            have c57b0 : decide ((bt t268 x10_2) ≤ 102) = false := decide_eq_false c57
                            clear c57
                            obtain rfl := Option.some.inj H
                            exact absurd hr_.out (by decide)
                        · rw [if_neg c56] at H
                          have c56b0 : decide (97 ≤ (bt t268 x10_2)) = false := decide_eq_false c56
                          clear c56
                          obtain rfl := Option.some.inj H
                          exact absurd hr_.out (by decide)
                · rw [if_neg c35] at H
                  exact absurd H (by simp)
              · rw [if_neg c34] at H
                have c34b0 : decide (x10_2 < (t268.size : Int)) = false := decide_eq_false c34
                clear c34
                obtain rfl := Option.some.inj H
                go_wp2
                go_ret
                exact ⟨xE, xG⟩
  · replace c4 := Bool.eq_false_iff.mpr c4
    subst c4
    have H1 : (some false) = some r := by rw [if_neg (show ¬ (false = true) by decide)] at H; exact H
    clear H
    have H := H1
    clear H1
    obtain rfl := Option.some.inj H
    exact absurd hr_.out (by decide)
def turnpikelaw2_AddrBack.Pure : Prop := ∀ (a0 : Bool) (a1_0 : Int) (a1_1 : Int), (Lit.int .u64 a1_0).wf = true → (Lit.int .u64 a1_1).wf = true → ∃ k, turnpikelaw2_AddrBack.f k a0 a1_0 a1_1 = some true
theorem turnpikelaw2_AddrBack.walk (P : turnpikelaw2_AddrBack.Pure) (a0 : Bool) (a1_0 : Int) (a1_1 : Int) (w : World) (hML : MLOk w) (wa1_0 : (Lit.int .u64 a1_0).wf = true) (wa1_1 : (Lit.int .u64 a1_1).wf = true) :
    Calls Tryd.prog 4 #[.bool a0, .agg #[.int .u64 a1_0, .int .u64 a1_1]] w fun e w' => e = .returned (.bool true) ∧ Below w.heap.size w w' := by
  obtain ⟨k, h⟩ := P a0 a1_0 a1_1 wa1_0 wa1_1
  refine (turnpikelaw2_AddrBack.calls k a0 a1_0 a1_1 true w hML ⟨rfl⟩ h).mono ?_
  rintro e w' ⟨rfl, hd⟩
  exact ⟨rfl, hd⟩
end Go.Proofs.YtamiaaeaehdahaaDoor.X
