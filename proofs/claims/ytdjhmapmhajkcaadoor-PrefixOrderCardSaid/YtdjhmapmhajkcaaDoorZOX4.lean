-- Printed by a program of this session (xprint.py, over the kit's printer)
import Derived.Test.YtdjhmapmhajkcaaDoorZOX0
import Derived.Test.YtdjhmapmhajkcaaDoorZOX3
import Derived.Test.YtdjhmapmhajkcaaDoorZOShelf
import Derived.Laws.BitsAllLaws
import Derived.Laws.AppendOwn
import Derived.Lib.ItoaLen
import Derived.Lib.AppendIntMem
import Derived.Test.YtdjhmapmhajkcaaDoorZOSh
namespace Go.Proofs.YtdjhmapmhajkcaaDoor.X
open Go.RowKit Go.Proofs.YtdjhmapmhajkcaaDoorW.PrintWords Go.Proofs.YtdjhmapmhajkcaaDoorW.PrintLast Go.Proofs.YtdjhmapmhajkcaaDoor.Sm Go.Proofs.YtdjhmapmhajkcaaDoor.Sh
set_option linter.unusedVariables false
set_option linter.unusedSimpArgs false
def zr (g : List Int) : Nat → Nat → Nat
 | 0, _ => 0
 | d + 1, i => if g.getD i 0 = 0 then zr g d (i + 1) + 1 else 0
def lg (g : List Int) : Nat → Nat → Nat → Nat → Nat × Nat
 | 0, _, fr, most => (fr, most)
 | d + 1, i, fr, most => if most < zr g (d + 1) i then lg g d (i + 1) i (zr g (d + 1) i) else lg g d (i + 1) fr most
def grpsF (k : Nat) (g : List Int) : Option ByteArray :=
 if (lg g 8 0 0 1).2 < 2 then addr_joined.f k g
 else (addr_joined.f k (g.take (lg g 8 0 0 1).1)).bind fun a => (addr_joined.f k (g.drop ((lg g 8 0 0 1).1 + (lg g 8 0 0 1).2))).bind fun b =>
  if a.size + 2 ≤ 9223372036854775807 then (if (a ++ (⟨#[58, 58]⟩ : ByteArray)).size + b.size ≤ 9223372036854775807 then some ((a ++ (⟨#[58, 58]⟩ : ByteArray)) ++ b) else none) else none
theorem row_C {W : World} {b t : Nat} {g : List Int} (h : W.heap[b]? = some (.cells (nums .u64 g).toArray t (0, 0))) (hg : g.length ≤ 9223372036854775807) (i n : Nat) (hin : i + n ≤ g.length) :
  Kd.C (Kd.int .u64) W (some ⟨b, i, none⟩) n ((g.drop i).take n) := by
 refine Kd.C_of_reads (d := (0 : Int)) ⟨by simp; omega, by omega, fun hn => ⟨_, rfl, fun j hj => ?_⟩⟩
 have e : (⟨b, i, none⟩ : Addr).add j = ⟨b, i + j, none⟩ := by unfold Addr.add; split <;> simp_all
 rw [e, blk_cell h]
 have hl : i + j < g.length := by omega
 simp [nums, List.getElem?_take, List.getElem?_drop, hj, hl]
theorem slice42_l (b : Nat) (l : Int) (h0 : 0 ≤ l) (h1 : l ≤ 8) (W : World) :
  (Instr.sliceAt 100 (.pointer (some ⟨b, 0, none⟩)) (some (.int .i64 l)) none none).run Tryd.prog W = .ok (.slice (some (if l = 8 then ⟨b, 0, none⟩ else ⟨b, l.toNat, none⟩)) (8 - l.toNat) (8 - l.toNat)) W := by
 have hal : Tryd.prog.arrayLen 100 = 8 := by kernel_rfl
 rw [run_sliceAt_array_l W 100 ⟨b, 0, none⟩ (by kernel_rfl) .i64 l h0 (by rw [hal]; omega)]
 rw [hal, show (sizeOf (Tryd.prog.elem 100)).run Tryd.prog W = .ok 1 W by kernel_rfl]
 simp only [Result.andThen, slicedAt]
 by_cases h8 : l = 8
 ·subst h8; rfl
 ·rw [if_neg (by omega), if_neg h8, add_plain]; simp
theorem slice42_h (b : Nat) (l : Int) (h0 : 0 ≤ l) (h1 : l ≤ 8) (W : World) :
  (Instr.sliceAt 100 (.pointer (some ⟨b, 0, none⟩)) none (some (.int .i64 l)) none).run Tryd.prog W = .ok (.slice (some ⟨b, 0, none⟩) l.toNat 8) W := by
 have hal : Tryd.prog.arrayLen 100 = 8 := by kernel_rfl
 rw [run_sliceAt_array_h W 100 ⟨b, 0, none⟩ (by kernel_rfl) .i64 l h0 (by rw [hal]; omega)]
 rw [hal, show (sizeOf (Tryd.prog.elem 100)).run Tryd.prog W = .ok 1 W by kernel_rfl]
 simp only [Result.andThen, slicedAt]
 rw [if_neg (by omega)]; rfl
theorem slice42_all (b : Nat) (W : World) :
  (Instr.sliceAt 100 (.pointer (some ⟨b, 0, none⟩)) none none none).run Tryd.prog W = .ok (.slice (some ⟨b, 0, none⟩) 8 8) W := by
 have hal : Tryd.prog.arrayLen 100 = 8 := by kernel_rfl
 rw [run_sliceAt_array_all W 100 ⟨b, 0, none⟩ (by kernel_rfl)]
 rw [hal, show (sizeOf (Tryd.prog.elem 100)).run Tryd.prog W = .ok 1 W by kernel_rfl]
 rfl
set_option maxHeartbeats 2000000 in
set_option maxRecDepth 100000 in
theorem grps_calls (k : Nat) (g : List Int) (hg : g.length = 8) (r : ByteArray) (w : World) (hML : MLOk w) (h : grpsF k g = some r) :
  Calls Tryd.prog 84 #[.agg (nums .u64 g).toArray] w fun e w' => e = .returned (.string r) ∧ Below w.heap.size w w' := by
 have HM := Aside0.mk hML
 have HH := Aside0.mk h
 have HG := Aside0.mk hg
 clear hML h
 have hbx : (w.alloc (.cells (nums .u64 g).toArray 100)).heap[w.heap.size]? = some (.cells (nums .u64 g).toArray 100 (0, 0)) := blk_new _ _
 have HB0 := Aside0.mk (below_alloc (Below.refl w.heap.size w) (.cells (nums .u64 g).toArray 100))
 have HB1 := Aside0.mk hbx
 clear hbx hg
 go_enter Tryd.func84, Tryd.ntmps84
 go_wp2
 generalize (w.alloc (.cells (nums .u64 g).toArray 100)) = W at *
 go_loop [3, 4, 5] (fun v3 v4 v5 => ∃ (fr most i d : Nat), v3 = .int .i64 fr ∧ v4 = .int .i64 most ∧ v5 = .int .i64 i ∧ Aside0 (i + d = 8) ∧ Aside0 (fr + most ≤ 8) ∧ Aside0 (lg g d i fr most = lg g 8 0 0 1)) (fun _ _ v5 => (8 - (intOf v5)).toNat)
 case atStart => exact ⟨0, 1, 0, 8, rfl, rfl, rfl, ⟨rfl⟩, ⟨by decide⟩, ⟨rfl⟩⟩
 case round =>
  obtain ⟨fr, most, i, d, rfl, rfl, rfl, HD, HF, HL⟩ := hrel
  cases d with
  | zero =>
   have hi8 : i = 8 := by have := HD.out; omega
   subst hi8
   have hL : lg g 8 0 0 1 = (fr, most) := HL.out.symm
   have hh := HH.out
   unfold grpsF at hh
   rw [hL] at hh
   dsimp only at hh
   have hML : MLOk W := HM.out.below HB0.out
   clear hL HH
   by_cases hm : most < 2
   ·rw [if_pos hm] at hh
    have hm' : (most : Int) < 2 := by omega
    have hC := row_C HB1.out (by have := HG.out; omega) 0 8 (by have := HG.out; omega)
    have e8 : List.take 8 (List.drop 0 g) = g := by rw [List.drop_zero, List.take_of_length_le (by have := HG.out; omega)]
    rw [e8] at hC
    have c1 := addr_joined.calls k (some ⟨w.heap.size, 0, none⟩) 8 g r W hML (by rw [HG.out]; exact hC) (by have := HG.out; omega) hh
    rw [HG.out] at c1
    have hsl := slice42_all w.heap.size
    have C1 := Aside0.mk c1
    clear c1 hh e8 hC
    go_wp2_with (go_at_call 100; (with_reducible refine C1.out.mono ?_); rintro e w' ⟨rfl, hb⟩)
    go_ret
    exact ⟨rfl, below_step HB0.out hb⟩
   ·rw [if_neg hm] at hh
    obtain ⟨a, ha, hh⟩ := Option.bind_eq_some_iff.1 hh
    obtain ⟨b, hb, hh⟩ := Option.bind_eq_some_iff.1 hh
    have hm' : ¬ (most : Int) < 2 := by omega
    have hF : fr + most ≤ 8 := HF.out
    have l1 : (g.take fr).length = fr := by have := HG.out; simp; omega
    have l2 : (g.drop (fr + most)).length = 8 - (fr + most) := by have := HG.out; simp; omega
    have c1 : ∀ W', Below W.heap.size W W' → Calls Tryd.prog 100 #[.slice (some ⟨w.heap.size, 0, none⟩) fr 8] W' fun e w' => e = .returned (.string a) ∧ Below W'.heap.size W' w' := fun W' hb' => by
     have hC1 := row_C (blk_below HB1.out hb') (by have := HG.out; omega) 0 fr (by have := HG.out; omega)
     rw [List.drop_zero] at hC1
     have c1 := addr_joined.calls k (some ⟨w.heap.size, 0, none⟩) 8 (g.take fr) a W' (hML.below hb') (by rw [l1]; exact hC1) (by omega) ha
     rw [l1] at c1
     exact c1
    have hs1 := slice42_h w.heap.size (fr : Int) (by omega) (by omega)
    obtain ⟨ad2, hs2, hC2⟩ : ∃ ad2, (∀ W', (Instr.sliceAt 100 (.pointer (some ⟨w.heap.size, 0, none⟩)) (some (.int .i64 ((fr : Int) + (most : Int)))) none none).run Tryd.prog W' = .ok (.slice (some ad2) (g.drop (fr + most)).length (g.drop (fr + most)).length) W') ∧
      (∀ W', Below W.heap.size W W' → Kd.C (Kd.int .u64) W' (some ad2) (g.drop (fr + most)).length (g.drop (fr + most))) := by
     refine ⟨if (fr : Int) + (most : Int) = 8 then ⟨w.heap.size, 0, none⟩ else ⟨w.heap.size, fr + most, none⟩, fun W' => ?_, fun W' hb => ?_⟩
     ·rw [slice42_l w.heap.size ((fr : Int) + (most : Int)) (by omega) (by omega), l2, show ((fr : Int) + (most : Int)).toNat = fr + most by omega]
     ·rw [l2]
      by_cases h8 : fr + most = 8
      ·rw [if_pos (by omega), show 8 - (fr + most) = 0 by omega]
       have e0 : List.drop (fr + most) g = [] := List.drop_eq_nil_of_le (by have := HG.out; omega)
       rw [e0]
       exact ⟨rfl, by decide, fun h => absurd h (Nat.lt_irrefl 0)⟩
      ·rw [if_neg (by omega)]
       have := row_C (blk_below HB1.out hb) (by have := HG.out; omega) (fr + most) (8 - (fr + most)) (by have := HG.out; omega)
       rw [List.take_of_length_le (by rw [l2]; exact Nat.le_refl _)] at this
       exact this
    have C1 := Aside0.mk c1
    have c2 : ∀ W', Below W.heap.size W W' → Calls Tryd.prog 100 #[.slice (some ad2) (g.drop (fr + most)).length (g.drop (fr + most)).length] W' fun e w' => e = .returned (.string b) ∧ Below W'.heap.size W' w' := fun W' hb' =>
     addr_joined.calls k (some ad2) _ (g.drop (fr + most)) b W' (hML.below hb') (hC2 W' hb') (Nat.le_refl _) hb
    generalize (g.drop (fr + most)).length = m2 at hs2 c2
    have C2 := Aside0.mk c2
    have q1 : a.size + 2 ≤ 9223372036854775807 := by
     rcases Nat.lt_or_ge 9223372036854775807 (a.size + 2) with h | h
     ·rw [if_neg (by omega)] at hh; cases hh
     ·exact h
    rw [if_pos q1] at hh
    have q2 : (a ++ (⟨#[58, 58]⟩ : ByteArray)).size + b.size ≤ 9223372036854775807 := by
     rcases Nat.lt_or_ge 9223372036854775807 ((a ++ (⟨#[58, 58]⟩ : ByteArray)).size + b.size) with h | h
     ·rw [if_neg (by omega)] at hh; cases hh
     ·exact h
    rw [if_pos q2] at hh
    have er : (a ++ (⟨#[58, 58]⟩ : ByteArray)) ++ b = r := Option.some.inj hh
    have q3 : a.size + 2 + b.size ≤ 9223372036854775807 := by rw [ByteArray.size_append] at q2; exact q2
    have l3 : (9223372036854775807 < a.size + 2) = False := eq_false (Nat.not_lt.2 q1)
    have l4 : (9223372036854775807 < a.size + 2 + b.size) = False := eq_false (Nat.not_lt.2 q3)
    have l5 : (9223372036854775807 < (a ++ (⟨#[58, 58]⟩ : ByteArray)).size + b.size) = False := eq_false (Nat.not_lt.2 q2)
    have HR := Aside0.mk er
    have hwr : IntKind.i64.wrap ((fr : Int) + (most : Int)) = (fr : Int) + (most : Int) := by rw [i64_w]; unfold wrap64; omega
    clear er q1 q2 q3
    clear c1 c2 hC2 hh ha hb hm l1 l2 hML
    go_wp2_with fail
    go_region_with (first | (go_at_call 100; (with_reducible refine (C1.out _ ?hbb).mono ?_); (case hbb => repeat (first | assumption | exact Below.refl _ _ | apply below_drew1 | apply pw_below_drewN)); rintro e w1 ⟨rfl, hb1⟩) | (go_at_call 100; (with_reducible refine (C2.out _ ?hbb).mono ?_); (case hbb => first | exact below_then (below_drew1 (Below.refl _ _)) (Nat.le_refl _) hb1 | exact below_then (Below.refl _ _) (Nat.le_refl _) hb1); rintro e w2 ⟨rfl, hb2⟩))
    go_wp2
    go_ret
    exact ⟨by rw [← HR.out]; rfl, below_step (below_step (below_drew1 HB0.out) hb1) hb2⟩
  | succ d =>
   have hi8 : i < 8 := by have := HD.out; omega
   go_wp2
   go_loop [6] (fun v6 => ∃ n : Nat, v6 = .int .i64 n ∧ Aside0 (i + n ≤ 8) ∧ Aside0 (zr g (8 - i) i = n + zr g (8 - (i + n)) (i + n))) (fun v6 => (8 - (intOf v6)).toNat)
   case atStart => exact ⟨0, rfl, ⟨by omega⟩, ⟨by simp⟩⟩
   case round =>
    obtain ⟨n, rfl, HN, HZ⟩ := hrel
    by_cases hlt : i + n < 8
    ·have hcell : W.cell? ⟨w.heap.size, i + n, none⟩ = some (.int .u64 (g.getD (i + n) 0)) := by
      rw [blk_cell HB1.out]
      have hl : i + n < g.length := by have := HG.out; omega
      simp [nums, hl]
     have hlt' : (i : Int) + (n : Int) < 8 := by omega
     have e8 : 8 - (i + n) = (8 - (i + (n + 1))) + 1 := by omega
     have E8 := Aside0.mk e8
     clear e8
     by_cases hz : g.getD (i + n) 0 = 0
     ·rw [hz] at hcell
      have HZ0 := Aside0.mk hz
      clear hz
      go_wp2
      go_round
      case rel =>
       refine ⟨n + 1, by go_num, ⟨by omega⟩, ⟨?_⟩⟩
       rw [HZ.out, E8.out, zr, if_pos HZ0.out, Nat.add_assoc i n 1]
       omega
      case measure => simp [intOf]; omega
     ·have hzb : (g.getD (i + n) 0 == 0) = false := by simpa using hz
      have hn : zr g (8 - i) i = n := by
       rw [HZ.out, E8.out, zr, if_neg hz]; rfl
      have HNN := Aside0.mk hn
      clear hz hn E8
      generalize g.getD (i + n) 0 = c at hcell hzb
      rcases Nat.lt_or_ge most n with hgt | hgt
      ·have hgt' : (most : Int) < (n : Int) := by omega
       go_wp2
       go_round
       case rel =>
        refine ⟨i, n, i + 1, d, rfl, rfl, by go_num, ⟨by have := HD.out; omega⟩, ⟨by omega⟩, ⟨?_⟩⟩
        have e := HL.out
        rw [lg, show d + 1 = 8 - i by have := HD.out; omega, HNN.out, if_pos hgt] at e
        exact e
       case measure => simp [intOf]; omega
      ·have hgt' : ¬ (most : Int) < (n : Int) := by omega
       go_wp2
       go_round
       case rel =>
        refine ⟨fr, most, i + 1, d, rfl, rfl, by go_num, ⟨by have := HD.out; omega⟩, HF, ⟨?_⟩⟩
        have e := HL.out
        rw [lg, show d + 1 = 8 - i by have := HD.out; omega, HNN.out, if_neg (by omega)] at e
        exact e
       case measure => simp [intOf]; omega
    ·have hlt' : ¬ (i : Int) + (n : Int) < 8 := by omega
     have hn : zr g (8 - i) i = n := by
      have := HN.out
      rw [HZ.out, show 8 - (i + n) = 0 by omega]; rfl
     have HNN := Aside0.mk hn
     have hn8 : i + n ≤ 8 := HN.out
     clear hn
     rcases Nat.lt_or_ge most n with hgt | hgt
     ·have hgt' : (most : Int) < (n : Int) := by omega
      go_wp2
      go_round
      case rel =>
       refine ⟨i, n, i + 1, d, rfl, rfl, by go_num, ⟨by have := HD.out; omega⟩, ⟨by omega⟩, ⟨?_⟩⟩
       have e := HL.out
       rw [lg, show d + 1 = 8 - i by have := HD.out; omega, HNN.out, if_pos hgt] at e
       exact e
      case measure => simp [intOf]; omega
     ·have hgt' : ¬ (most : Int) < (n : Int) := by omega
      go_wp2
      go_round
      case rel =>
       refine ⟨fr, most, i + 1, d, rfl, rfl, by go_num, ⟨by have := HD.out; omega⟩, HF, ⟨?_⟩⟩
       have e := HL.out
       rw [lg, show d + 1 = 8 - i by have := HD.out; omega, HNN.out, if_neg (by omega)] at e
       exact e
      case measure => simp [intOf]; omega
theorem digs_le (u : Nat) (hu : u < 256) : (Lib.decDigits u).length ≤ 20 := by
 rw [Lib.decDigits_length]
 rcases Nat.lt_or_ge u 10 with h | h
 ·rw [Lib.nDigits_small h]; omega
 ·rw [Lib.nDigits_big (by omega)]
  rcases Nat.lt_or_ge (u / 10) 10 with h | h
  ·rw [Lib.nDigits_small h]; omega
  ·rw [Lib.nDigits_big (by omega), Lib.nDigits_small (show u / 10 / 10 < 10 by omega)]; omega
theorem appU (B n u : Nat) (hu : u < 256) (sv : Value) (xs : List Value) (w : World) (hown : w.ownsRow B 5 1 sv n xs) (hBw : B ≤ w.heap.size) (hlim : n + 20 ≤ 140737488355328) (hM : MLOk w) :
  Calls Tryd.prog 83 #[sv, .int .u64 u, .int .i64 10] w fun e w' => ∃ v', e = .returned v' ∧ w'.ownsRow B 5 1 v' (n + (Lib.decDigits u).length) (xs ++ Lib.byteCells (Lib.decDigits u)) ∧ Below B w w' := by
 have c : Calls Tryd.prog 99 #[sv, .int .u64 u, .int .i64 10] w fun e w' => ∃ v', e = .returned v' ∧ w'.ownsRow B 5 1 v' (n + (Lib.decDigits u).length) (xs ++ Lib.byteCells (Lib.decDigits u)) ∧ Below B w w' := by
  rcases Nat.lt_or_ge u 100 with h | h
  ·exact (Tryd.internal_strconv_AppendUint_10_small B n u h sv xs w hown hBw hlim).mono fun e w' ⟨v', h1, h2, h3, _⟩ => ⟨v', h1, h2, h3⟩
  ·exact (Tryd.internal_strconv_AppendUint_10_big B n u h (by omega) sv xs w hown hBw hlim hM.p10).mono fun e w' ⟨v', h1, h2, h3, _⟩ => ⟨v', h1, h2, h3⟩
 have C := Aside0.mk c
 clear c hown hM hBw hlim hu
 go_enter Tryd.func83, Tryd.ntmps83
 go_wp2_with (go_at_call 99; (with_reducible refine C.out.mono ?_); rintro e w' ⟨v', rfl, h1, h2⟩)
 go_ret
 exact ⟨v', rfl, h1, h2⟩
def oc (v i : Nat) : Nat := v / 2 ^ (56 - 8 * i) % 256
def qT (v : Nat) : Nat → List UInt8
 | 0 => []
 | i + 1 => qT v i ++ (if i = 0 then [] else [46]) ++ Lib.decDigits (oc v i)
theorem oc_lt (v i : Nat) : oc v i < 256 := Nat.mod_lt _ (by decide)
theorem and255 (v : Nat) (hv : v < 18446744073709551616) : Go.bits .and .u64 (v : Int) 255 = ((v % 256 : Nat) : Int) := by
 have h := u64_and_nat v 255 hv (by decide)
 rw [show ((255 : Nat) : Int) = 255 from rfl] at h
 rw [h, show (255 : Nat) = 2 ^ 8 - 1 from rfl, Nat.and_two_pow_sub_one_eq_mod]
theorem bnums_cells (L : List UInt8) : nums .u8 (L.map fun c => (c.toNat : Int)) = Lib.byteCells L := by simp [nums, Lib.byteCells]
theorem bnums_str (L : List UInt8) : strOfNums (L.map fun c => (c.toNat : Int)) = ⟨L.toArray⟩ := by
 show (⟨((L.map fun c => (c.toNat : Int)).map fun n => UInt8.ofNat n.toNat).toArray⟩ : ByteArray) = _
 rw [List.map_map]
 have : ((fun n : Int => UInt8.ofNat n.toNat) ∘ fun c : UInt8 => (c.toNat : Int)) = id := by funext c; simp
 rw [this, List.map_id]
def gsF (a b : Int) : Nat → Option (List Int)
 | 0 => some []
 | i + 1 => (gsF a b i).bind fun g => (word_Shr.f a b (112 - 16 * (i : Int))).bind fun s => some (g ++ [Go.bits .and .u64 s.2 65535])
theorem info5u : (Tryd.prog.info? 5).map (fun i => (i.zero, i.size, i.bytes)) = some (some (.int .u8 0), 1, 1) := by kernel_rfl
theorem qT_step (v i : Nat) (h : i ≠ 0) : qT v (i + 1) = (qT v i ++ [46]) ++ Lib.decDigits (oc v i) := by rw [qT, if_neg h]
theorem dotted {B : Nat} {v : Value} {w : World} {L : List UInt8} (h : w.ownsRow B 5 1 v ((L.map fun c : UInt8 => (c.toNat : Int)) ++ [46]).length (nums .u8 ((L.map fun c : UInt8 => (c.toNat : Int)) ++ [46]))) :
  w.ownsRow B 5 1 v (L ++ [46]).length (Lib.byteCells (L ++ [46])) := by
 have e : (L.map fun c : UInt8 => (c.toNat : Int)) ++ [46] = (L ++ [46]).map fun c : UInt8 => (c.toNat : Int) := by rw [List.map_append]; rfl
 rw [e, bnums_cells, List.length_map] at h
 exact h
set_option maxHeartbeats 2000000 in
set_option maxRecDepth 100000 in
theorem Text.four (k : Nat) (a : Nat) (ha : a < 18446744073709551616) (b : Int) (w : World) (hML : MLOk w) (h : addr_Right.f k 32 a b = some 0) :
  Calls Tryd.prog 56 #[.int .i64 32, .agg #[.int .u64 a, .int .u64 b]] w fun e w' => e = .returned (.tuple #[.string ⟨(qT a 4).toArray⟩, .int .i64 0]) ∧ Below w.heap.size w w' := by
 have HM := Aside0.mk hML
 have HH := Aside0.mk h
 have HAA := Aside0.mk ha
 have hbx : (w.alloc (.cells #[.int .u64 a, .int .u64 b] 24)).heap[w.heap.size]? = some (.cells #[.int .u64 a, .int .u64 b] 24 (0, 0)) := blk_new _ _
 have HB0 := Aside0.mk (below_alloc (Below.refl w.heap.size w) (.cells #[.int .u64 a, .int .u64 b] 24))
 have HB1 := Aside0.mk hbx
 clear hML h hbx ha
 go_enter Tryd.func56, Tryd.ntmps56
 go_wp2_with (go_at_call 58; (with_reducible refine (addr_Right.calls k 32 a b 0 _ HH.out).mono ?_); rintro e w1 ⟨rfl, hb1⟩)
 have hBK := blk_below HB1.out hb1
 have HBW := Aside0.mk (below_step HB0.out hb1)
 have hM1 := HM.out.below HBW.out
 have HM1 := Aside0.mk hM1
 have HBK := Aside0.mk hBK
 have hlt : w.heap.size < w1.heap.size := blk_lt hBK
 have HLT := Aside0.mk hlt
 clear hb1 hBK hM1 HB0 HB1 hlt
 have hu40 := Tryd.underlying98
 go_loopw [7, 19] (fun v7 v19 wr => ∃ i : Nat, v19 = .int .i64 i ∧ Aside0 (i ≤ 4) ∧ Aside0 ((qT a i).length ≤ 21 * i) ∧ Aside0 (wr.ownsRow w1.heap.size 5 1 v7 (qT a i).length (Lib.byteCells (qT a i))) ∧ Aside0 (Below w1.heap.size w1 wr)) (fun _ v19 _ => (4 - (intOf v19)).toNat)
 case atStart => exact ⟨0, rfl, ⟨by decide⟩, ⟨by simp [qT]⟩, ⟨own_nil _ _ _ _⟩, ⟨Below.refl _ _⟩⟩
 case round =>
  obtain ⟨i, rfl, HI, HQ, HO, HB⟩ := hrel
  have hBK := blk_below HBK.out HB.out
  have hc0 : wr.cell? ⟨w.heap.size, 0, none⟩ = some (.int .u64 a) := by rw [blk_cell hBK]; rfl
  clear hBK
  rcases Nat.lt_or_ge i 4 with hlt | hge
  ·have hi4 : i = 0 ∨ i = 1 ∨ i = 2 ∨ i = 3 := by omega
   have hbW : w1.heap.size ≤ wr.heap.size := HB.out.size
   have hlq : (qT a i).length + 1 + 20 ≤ 140737488355328 := by have := HQ.out; have := HI.out; omega
   have hML := HM1.out.below HB.out
   have HML := Aside0.mk hML
   have hou := oc_lt a i
   have HOU := Aside0.mk hou
   have hdl := digs_le _ hou
   have HDL := Aside0.mk hdl
   have HLQ := Aside0.mk hlq
   have HBWW := Aside0.mk hbW
   clear hML hdl hou hlq hbW
   obtain ⟨j, hj⟩ : ∃ j : Int, j = (i : Int) := ⟨_, rfl⟩
   rw [← hj]
   rcases hi4 with rfl | rfl | rfl | rfl
   ·obtain rfl : j = 0 := hj
    clear hlt
    have ha1 := and255 (a / 72057594037927936) (by have := HAA.out; omega)
    rw [show a / 72057594037927936 % 256 = oc a 0 from rfl, Int.natCast_ediv, show ((72057594037927936 : Nat) : Int) = 72057594037927936 from rfl] at ha1
    go_wp2_with (go_at_call 83; (with_reducible refine (appU w1.heap.size 0 (oc a 0) HOU.out _ [] _ HO.out HBWW.out (by omega) HML.out).mono ?_); rintro e w2 ⟨v', rfl, h1, h2⟩)
    go_roundw
    case rel =>
     refine ⟨1, rfl, ⟨by decide⟩, ⟨?_⟩, ⟨?_⟩, ⟨HB.out.trans h2⟩⟩
     ·simp only [qT, List.length_append]; have := HDL.out; simp; omega
     ·simpa [qT] using h1
    case measure => simp [intOf]
   ·obtain rfl : j = 1 := hj
    clear hlt
    have ha1 := and255 (a / 281474976710656) (by have := HAA.out; omega)
    rw [show a / 281474976710656 % 256 = oc a 1 from rfl, Int.natCast_ediv, show ((281474976710656 : Nat) : Int) = 281474976710656 from rfl] at ha1
    go_wp2_with (first
     | (at_builtin; go_loud (refine print_append_num (w0 := w1) w1.heap.size rfl _ _ 98 5 .u8 1 rfl hu40 info5u (by decide) _ ((qT a 1).map fun c => (c.toNat : Int)) 46 rfl rfl (by rw [bnums_cells, List.length_map]; exact HO.out) HB.out HBWW.out (by rw [List.length_map]; have := HLQ.out; omega) ?_); intro v2 w2 h1 h2 _ _; have H1 := Aside0.mk (dotted h1); have H2 := Aside0.mk h2; have hc2 : w2.cell? ⟨w.heap.size, 0, none⟩ = some (.int .u64 a) := (by rw [blk_cell (blk_below HBK.out h2)]; rfl); clear h1 h2)
     | (go_at_call 83; (with_reducible refine (appU w1.heap.size (qT a 1 ++ [46]).length (oc a 1) HOU.out _ (Lib.byteCells (qT a 1 ++ [46])) _ H1.out H2.out.size (by rw [List.length_append]; have := HLQ.out; simp only [List.length_cons, List.length_nil]; omega) (HM1.out.below H2.out)).mono ?_); rintro e w3 ⟨v', rfl, h3, h4⟩))
    go_roundw
    case rel =>
     refine ⟨2, rfl, ⟨by decide⟩, ⟨?_⟩, ⟨?_⟩, ⟨H2.out.trans h4⟩⟩
     ·rw [qT_step a 1 (by decide), List.length_append, List.length_append]; have := HDL.out; have := HQ.out; simp only [List.length_cons, List.length_nil]; omega
     ·rw [qT_step a 1 (by decide), List.length_append, Lib.byteCells_append]; exact h3
    case measure => simp [intOf]
   ·obtain rfl : j = 2 := hj
    clear hlt
    have ha1 := and255 (a / 1099511627776) (by have := HAA.out; omega)
    rw [show a / 1099511627776 % 256 = oc a 2 from rfl, Int.natCast_ediv, show ((1099511627776 : Nat) : Int) = 1099511627776 from rfl] at ha1
    go_wp2_with (first
     | (at_builtin; go_loud (refine print_append_num (w0 := w1) w1.heap.size rfl _ _ 98 5 .u8 1 rfl hu40 info5u (by decide) _ ((qT a 2).map fun c => (c.toNat : Int)) 46 rfl rfl (by rw [bnums_cells, List.length_map]; exact HO.out) HB.out HBWW.out (by rw [List.length_map]; have := HLQ.out; omega) ?_); intro v2 w2 h1 h2 _ _; have H1 := Aside0.mk (dotted h1); have H2 := Aside0.mk h2; have hc2 : w2.cell? ⟨w.heap.size, 0, none⟩ = some (.int .u64 a) := (by rw [blk_cell (blk_below HBK.out h2)]; rfl); clear h1 h2)
     | (go_at_call 83; (with_reducible refine (appU w1.heap.size (qT a 2 ++ [46]).length (oc a 2) HOU.out _ (Lib.byteCells (qT a 2 ++ [46])) _ H1.out H2.out.size (by rw [List.length_append]; have := HLQ.out; simp only [List.length_cons, List.length_nil]; omega) (HM1.out.below H2.out)).mono ?_); rintro e w3 ⟨v', rfl, h3, h4⟩))
    go_roundw
    case rel =>
     refine ⟨3, rfl, ⟨by decide⟩, ⟨?_⟩, ⟨?_⟩, ⟨H2.out.trans h4⟩⟩
     ·rw [qT_step a 2 (by decide), List.length_append, List.length_append]; have := HDL.out; have := HQ.out; simp only [List.length_cons, List.length_nil]; omega
     ·rw [qT_step a 2 (by decide), List.length_append, Lib.byteCells_append]; exact h3
    case measure => simp [intOf]
   ·obtain rfl : j = 3 := hj
    clear hlt
    have ha1 := and255 (a / 4294967296) (by have := HAA.out; omega)
    rw [show a / 4294967296 % 256 = oc a 3 from rfl, Int.natCast_ediv, show ((4294967296 : Nat) : Int) = 4294967296 from rfl] at ha1
    go_wp2_with (first
     | (at_builtin; go_loud (refine print_append_num (w0 := w1) w1.heap.size rfl _ _ 98 5 .u8 1 rfl hu40 info5u (by decide) _ ((qT a 3).map fun c => (c.toNat : Int)) 46 rfl rfl (by rw [bnums_cells, List.length_map]; exact HO.out) HB.out HBWW.out (by rw [List.length_map]; have := HLQ.out; omega) ?_); intro v2 w2 h1 h2 _ _; have H1 := Aside0.mk (dotted h1); have H2 := Aside0.mk h2; have hc2 : w2.cell? ⟨w.heap.size, 0, none⟩ = some (.int .u64 a) := (by rw [blk_cell (blk_below HBK.out h2)]; rfl); clear h1 h2)
     | (go_at_call 83; (with_reducible refine (appU w1.heap.size (qT a 3 ++ [46]).length (oc a 3) HOU.out _ (Lib.byteCells (qT a 3 ++ [46])) _ H1.out H2.out.size (by rw [List.length_append]; have := HLQ.out; simp only [List.length_cons, List.length_nil]; omega) (HM1.out.below H2.out)).mono ?_); rintro e w3 ⟨v', rfl, h3, h4⟩))
    go_roundw
    case rel =>
     refine ⟨4, rfl, ⟨by decide⟩, ⟨?_⟩, ⟨?_⟩, ⟨H2.out.trans h4⟩⟩
     ·rw [qT_step a 3 (by decide), List.length_append, List.length_append]; have := HDL.out; have := HQ.out; simp only [List.length_cons, List.length_nil]; omega
     ·rw [qT_step a 3 (by decide), List.length_append, Lib.byteCells_append]; exact h3
    case measure => simp [intOf]
  ·obtain rfl : i = 4 := by have := HI.out; omega
   have hs := own_string (P := Tryd.prog) (src := 98) (dst := 9) (e := 5) (xs := (qT a 4).map fun c : UInt8 => (c.toNat : Int)) Tryd.underlying98 (by kernel_rfl) Tryd.underlying9 (by rw [bnums_cells]; exact HO.out)
   rw [bnums_str] at hs
   clear hge
   go_wp2
   go_ret2
   exact ⟨rfl, below_step HBW.out HB.out⟩
set_option maxHeartbeats 2000000 in
set_option maxRecDepth 100000 in
theorem Text.bad (k : Nat) (f a b : Int) (e : Int) (he : e ≠ 0) (w : World) (h : addr_Right.f k f a b = some e) :
  Calls Tryd.prog 56 #[.int .i64 f, .agg #[.int .u64 a, .int .u64 b]] w fun e' w' => e' = .returned (.tuple #[.string ⟨#[]⟩, .int .i64 e]) ∧ Below w.heap.size w w' := by
 have HH := Aside0.mk h
 have hne : (e != 0) = true := by simpa using he
 have HB0 := Aside0.mk (below_alloc (Below.refl w.heap.size w) (.cells #[.int .u64 a, .int .u64 b] 24))
 clear h he
 go_enter Tryd.func56, Tryd.ntmps56
 go_wp2_with (go_at_call 58; (with_reducible refine (addr_Right.calls k f a b e _ HH.out).mono ?_); rintro e1 w1 ⟨rfl, hb1⟩)
 go_ret2
 exact ⟨rfl, below_step HB0.out hb1⟩
theorem gsF_len (a b : Int) : ∀ (i : Nat) (g : List Int), gsF a b i = some g → g.length = i
 | 0, g, h => by cases h; rfl
 | i + 1, g, h => by
  rw [gsF] at h
  obtain ⟨g', h1, h⟩ := Option.bind_eq_some_iff.1 h
  obtain ⟨s, _, h⟩ := Option.bind_eq_some_iff.1 h
  cases h
  rw [List.length_append, gsF_len a b i g' h1]; rfl
theorem gsF_le (a b : Int) {g : List Int} {n : Nat} (h : gsF a b n = some g) : ∀ i, i ≤ n → ∃ g', gsF a b i = some g'
 := by
 induction n generalizing g with
 | zero => intro i hi; obtain rfl : i = 0 := (by omega); exact ⟨_, h⟩
 | succ n ih =>
  intro i hi
  rw [gsF] at h
  obtain ⟨g1, h1, _⟩ := Option.bind_eq_some_iff.1 h
  rcases Nat.lt_or_ge i (n + 1) with hl | hg
  ·exact ih h1 i (by omega)
  ·obtain rfl : i = n + 1 := by omega
   exact ⟨g, by rw [gsF]; exact h⟩
def arr8 (g : List Int) : Array Value := (nums .u64 g ++ List.replicate (8 - g.length) (Value.int .u64 0)).toArray
theorem arr8_nil : (#[.int .u64 0, .int .u64 0, .int .u64 0, .int .u64 0, .int .u64 0, .int .u64 0, .int .u64 0, .int .u64 0] : Array Value) = arr8 [] := by kernel_rfl
theorem arr8_snoc (g : List Int) (x : Int) (h : g.length < 8) : (arr8 g).setIfInBounds g.length (.int .u64 x) = arr8 (g ++ [x]) := by
 unfold arr8
 have e1 : 8 - g.length = (8 - (g ++ [x]).length) + 1 := by simp only [List.length_append, List.length_cons, List.length_nil]; omega
 rw [e1, List.replicate_succ, List.setIfInBounds_toArray, List.set_append_right _ _ (by rw [nums_length]; exact Nat.le_refl _), nums_length, Nat.sub_self, List.set_cons_zero, nums_append]
 simp [nums]
theorem arr8_full (g : List Int) (h : g.length = 8) : arr8 g = (nums .u64 g).toArray := by unfold arr8; rw [h]; simp
theorem arr8_at (g : List Int) (h : g.length < 8) : (arr8 g)[g.length]? = some (.int .u64 0) := by
 unfold arr8
 rw [List.getElem?_toArray, List.getElem?_append_right (by rw [nums_length]; exact Nat.le_refl _), nums_length, Nat.sub_self, List.getElem?_replicate, if_pos (by omega)]
set_option maxHeartbeats 2000000 in
set_option maxRecDepth 100000 in
theorem Text.six (k : Nat) (f a b : Int) (hf : f ≠ 32) (g : List Int) (s : ByteArray) (w : World) (hML : MLOk w) (h : addr_Right.f k f a b = some 0) (hg : gsF a b 8 = some g) (hs : grpsF k g = some s) :
  Calls Tryd.prog 56 #[.int .i64 f, .agg #[.int .u64 a, .int .u64 b]] w fun e w' => e = .returned (.tuple #[.string s, .int .i64 0]) ∧ Below w.heap.size w w' := by
 have HM := Aside0.mk hML
 have HH := Aside0.mk h
 have HG := Aside0.mk hg
 have HS := Aside0.mk hs
 have hbx : (w.alloc (.cells #[.int .u64 a, .int .u64 b] 24)).heap[w.heap.size]? = some (.cells #[.int .u64 a, .int .u64 b] 24 (0, 0)) := blk_new _ _
 have HB0 := Aside0.mk (below_alloc (Below.refl w.heap.size w) (.cells #[.int .u64 a, .int .u64 b] 24))
 have HB1 := Aside0.mk hbx
 have hfb : (f == 32) = false := by simpa using hf
 clear hML h hbx hg hs hf
 have hu24 := Tryd.underlying24
 go_enter Tryd.func56, Tryd.ntmps56
 go_wp2_with (go_at_call 58; (with_reducible refine (addr_Right.calls k f a b 0 _ HH.out).mono ?_); rintro e w1 ⟨rfl, hb1⟩)
 have hBK := blk_below HB1.out hb1
 have HBW := Aside0.mk (below_step HB0.out hb1)
 have hM1 := HM.out.below HBW.out
 have HM1 := Aside0.mk hM1
 have HBK := Aside0.mk (blk_alloc hBK (.cells #[.int .u64 0, .int .u64 0, .int .u64 0, .int .u64 0, .int .u64 0, .int .u64 0, .int .u64 0, .int .u64 0] 100))
 have HBA := Aside0.mk (below_alloc HBW.out (.cells #[.int .u64 0, .int .u64 0, .int .u64 0, .int .u64 0, .int .u64 0, .int .u64 0, .int .u64 0, .int .u64 0] 100))
 have hnew : (w1.alloc (.cells #[.int .u64 0, .int .u64 0, .int .u64 0, .int .u64 0, .int .u64 0, .int .u64 0, .int .u64 0, .int .u64 0] 100)).heap[w1.heap.size]? = some (.cells (arr8 []) 100 (0, 0)) := by rw [← arr8_nil]; exact blk_new _ _
 have HNEW := Aside0.mk hnew
 have hlt : w.heap.size < w1.heap.size := blk_lt hBK
 have HLT := Aside0.mk hlt
 clear hb1 hBK hM1 HB0 HB1 hlt hnew
 go_loopw [10, 39] (fun v10 v39 wr => ∃ (i : Nat) (gs : List Int), v39 = .int .i64 i ∧ Aside0 (i ≤ 8) ∧ Aside0 (gsF a b i = some gs) ∧ Aside0 (wr.heap[w1.heap.size]? = some (.cells (arr8 gs) 100 (0, 0))) ∧ Aside0 (wr.heap[w.heap.size]? = some (.cells #[.int .u64 a, .int .u64 b] 24 (0, 0))) ∧ Aside0 (Below w.heap.size w wr)) (fun _ v39 _ => (8 - (intOf v39)).toNat)
 case atStart => exact ⟨0, [], rfl, ⟨by decide⟩, ⟨rfl⟩, HNEW, HBK, HBA⟩
 case round =>
  obtain ⟨i, gs, rfl, HI, HGS, HN, HX, HB⟩ := hrel
  have hc0 : wr.cell? ⟨w.heap.size, 0, none⟩ = some (.int .u64 a) := by rw [blk_cell HX.out]; rfl
  have hc1 : wr.cell? ⟨w.heap.size, 1, none⟩ = some (.int .u64 b) := by rw [blk_cell HX.out]; rfl
  rcases Nat.lt_or_ge i 8 with hlt | hge
  ·obtain ⟨g2, hg2⟩ := gsF_le a b HG.out (i + 1) hlt
   have h2 := hg2
   rw [gsF, HGS.out, Option.bind_some] at h2
   obtain ⟨⟨s1, s2⟩, hsh, h2⟩ := Option.bind_eq_some_iff.1 h2
   have e2 : gs ++ [Go.bits .and .u64 s2 65535] = g2 := Option.some.inj h2
   have hlen := gsF_len a b i gs HGS.out
   have HSH := Aside0.mk hsh
   have HE := Aside0.mk e2
   have HLN := Aside0.mk hlen
   have HG2 := Aside0.mk hg2
   have hfld : ∀ W, (Instr.field 24 (.agg #[.int .u64 s1, .int .u64 s2]) 1).run Tryd.prog W = .ok (.int .u64 s2) W := fun W => by kernel_rfl
   clear hsh e2 hlen hg2 h2
   go_wp2_with (go_at_call 81; (with_reducible refine (word_Shr.calls a b (112 - 16 * (i : Int)) s1 s2 _ HSH.out).mono ?_); rintro e w3 ⟨rfl, hb3⟩; have hn3 := blk_below HN.out hb3; have hx3 := blk_below HX.out hb3; have HB3 := Aside0.mk (below_step HB.out hb3); have hcn : w3.cell? ⟨w1.heap.size, i, none⟩ = some (.int .u64 0) := (by rw [blk_cell hn3, ← HLN.out]; exact arr8_at gs (by have := HLN.out; omega)); have hfn : w3.frozen? ⟨w1.heap.size, i, none⟩ = false := blk_frozen hn3 i; have HN3 := Aside0.mk hn3; have HX3 := Aside0.mk hx3; clear hn3 hx3 hb3)
   go_roundw
   case rel =>
    refine ⟨i + 1, g2, by go_num, ⟨hlt⟩, HG2, ⟨?_⟩, ⟨?_⟩, ⟨below_set HB3.out (below_size HBW.out)⟩⟩
    ·have := blk_set HN3.out i (.int .u64 (Go.bits .and .u64 s2 65535))
     rw [← HE.out]
     have e := arr8_snoc gs (Go.bits .and .u64 s2 65535) (by have := HLN.out; omega)
     rw [HLN.out] at e
     rw [e] at this
     exact this
    ·exact blk_far HX3.out (p := ⟨w1.heap.size, i, none⟩) (Nat.ne_of_lt HLT.out) _
   case measure => simp [intOf]; omega
  ·obtain rfl : i = 8 := by have := HI.out; omega
   obtain rfl : gs = g := Option.some.inj (HGS.out.symm.trans HG.out)
   have hlen := gsF_len a b 8 gs HG.out
   have hnn := HN.out
   rw [arr8_full gs hlen] at hnn
   have hss := HS.out
   clear HN HS HGS HG hge
   match gs, hlen, hnn, hss with
   | [g0, g1, g2, g3, g4, g5, g6, g7], _, hnn, hss =>
    have HN := Aside0.mk hnn
    have c : ∀ W', MLOk W' → Calls Tryd.prog 84 #[.agg #[.int .u64 g0, .int .u64 g1, .int .u64 g2, .int .u64 g3, .int .u64 g4, .int .u64 g5, .int .u64 g6, .int .u64 g7]] W' fun e w' => e = .returned (.string s) ∧ Below W'.heap.size W' w' := fun W' hM => grps_calls k [g0, g1, g2, g3, g4, g5, g6, g7] rfl s W' hM hss
    have C := Aside0.mk c
    have hq0 : wr.cell? ⟨w1.heap.size, 0, none⟩ = some (.int .u64 g0) := by rw [blk_cell HN.out]; rfl
    have hq1 : wr.cell? ⟨w1.heap.size, 1, none⟩ = some (.int .u64 g1) := by rw [blk_cell HN.out]; rfl
    have hq2 : wr.cell? ⟨w1.heap.size, 2, none⟩ = some (.int .u64 g2) := by rw [blk_cell HN.out]; rfl
    have hq3 : wr.cell? ⟨w1.heap.size, 3, none⟩ = some (.int .u64 g3) := by rw [blk_cell HN.out]; rfl
    have hq4 : wr.cell? ⟨w1.heap.size, 4, none⟩ = some (.int .u64 g4) := by rw [blk_cell HN.out]; rfl
    have hq5 : wr.cell? ⟨w1.heap.size, 5, none⟩ = some (.int .u64 g5) := by rw [blk_cell HN.out]; rfl
    have hq6 : wr.cell? ⟨w1.heap.size, 6, none⟩ = some (.int .u64 g6) := by rw [blk_cell HN.out]; rfl
    have hq7 : wr.cell? ⟨w1.heap.size, 7, none⟩ = some (.int .u64 g7) := by rw [blk_cell HN.out]; rfl
    clear c hnn hss hc0 hc1
    go_wp2_with (go_at_call 84; (with_reducible refine (C.out _ (HM.out.below HB.out)).mono ?_); rintro e w4 ⟨rfl, hb4⟩)
    go_ret2
    exact ⟨rfl, below_step HB.out hb4⟩
def addr_Text.f (k : Nat) (a0 a1_0 a1_1 : Int) : Option (ByteArray × Int) :=
 (addr_Right.f k a0 a1_0 a1_1).bind fun e =>
  if e = 0 then (if a0 = 32 then (if 0 ≤ a1_0 ∧ a1_0 < 18446744073709551616 then some ((⟨(qT a1_0.toNat 4).toArray⟩ : ByteArray), 0) else none) else (gsF a1_0 a1_1 8).bind fun g => (grpsF k g).bind fun s => some (s, 0))
  else some ((⟨#[]⟩ : ByteArray), e)
theorem addr_Text.calls (k : Nat) (a0 : Int) (a1_0 : Int) (a1_1 : Int) (r1 : ByteArray) (r2 : Int) (w : World) (hML : MLOk w) (h : addr_Text.f k a0 a1_0 a1_1 = some (r1, r2)) :
  Calls Tryd.prog 56 #[.int .i64 a0, .agg #[.int .u64 a1_0, .int .u64 a1_1]] w fun e w' => e = .returned (.tuple #[.string r1, .int .i64 r2]) ∧ Below w.heap.size w w' := by
 unfold addr_Text.f at h
 obtain ⟨e, he, h⟩ := Option.bind_eq_some_iff.1 h
 by_cases h0 : e = 0
 ·subst h0
  rw [if_pos rfl] at h
  by_cases hf : a0 = 32
  ·subst hf
   rw [if_pos rfl] at h
   split at h
   case isTrue hs =>
    cases h
    obtain ⟨n, rfl⟩ := Int.eq_ofNat_of_zero_le hs.1
    rw [Int.toNat_natCast]
    exact Text.four k n (by omega) a1_1 w hML he
   case isFalse => cases h
  ·rw [if_neg hf] at h
   obtain ⟨g, hg, h⟩ := Option.bind_eq_some_iff.1 h
   obtain ⟨s, hs, h⟩ := Option.bind_eq_some_iff.1 h
   cases h
   exact Text.six k a0 a1_0 a1_1 hf g _ w hML he hg hs
 ·rw [if_neg h0] at h
  cases h
  exact Text.bad k a0 a1_0 a1_1 _ h0 w he
theorem grpsF.mono (g : List Int) (k : Nat) : LeO (grpsF k g) (grpsF (k + 1) g) := by
 unfold grpsF
 refine LeO.ite (addr_joined.mono _ _) (LeO.bind (addr_joined.mono _ _) (fun _ => LeO.bind (addr_joined.mono _ _) (fun _ => LeO.refl _)))
theorem addr_Text.mono : ∀ a0 a1 a2 k, LeO (addr_Text.f k a0 a1 a2) (addr_Text.f (k + 1) a0 a1 a2) := by
 intro a0 a1 a2 k
 unfold addr_Text.f
 refine LeO.bind (addr_Right.mono _ _ _ _) (fun _ => LeO.ite (LeO.ite (LeO.refl _) (LeO.bind (LeO.refl _) (fun _ => LeO.bind (grpsF.mono _ _) (fun _ => LeO.refl _)))) (LeO.refl _))
def strconv_Itoa.f (a0 : Int) : Option ByteArray := if -9223372036854775808 ≤ a0 ∧ a0 ≤ 9223372036854775807 then some ⟨(Lib.itoa a0).toArray⟩ else none
theorem strconv_Itoa.calls (a0 : Int) (r : ByteArray) (w : World) (hML : MLOk w) (h : strconv_Itoa.f a0 = some r) :
  Calls Tryd.prog 57 #[.int .i64 a0] w fun e w' => e = .returned (.string r) ∧ Below w.heap.size w w' := by
 unfold strconv_Itoa.f at h
 split at h
 case isTrue hs =>
  cases h
  exact (Tryd.strconv_Itoa a0 (by omega) (by omega) w hML.p10).mono fun e w' ⟨he, k, os, hw⟩ => ⟨he, by subst hw; exact Lib.below_grow w.heap.size w (Nat.le_refl _) k os⟩
 case isFalse => cases h
def prefix_Text.f (k : Nat) (a0 : Int) (a1_0 : Int) (a1_1 : Int) (a1_2 : Int) : Option (ByteArray × Int) := (prefix_Check.f k a0 a1_0 a1_1 a1_2).bind fun t136 => (if t136 = 0 then ((addr_Text.f k a0 a1_0 a1_1).bind fun bt137 => (if bt137.1.size + 1 ≤ 9223372036854775807 then ((strconv_Itoa.f a1_2).bind fun t139 => (if (bt137.1 ++ (⟨#[47]⟩ : ByteArray)).size + t139.size ≤ 9223372036854775807 then (some ((bt137.1 ++ (⟨#[47]⟩ : ByteArray)) ++ t139, bt137.2)) else (none))) else (none))) else (some ((⟨#[]⟩ : ByteArray), t136)))
theorem prefix_Text.mono : ∀ a0 a1 a2 a3 k, LeO (prefix_Text.f k a0 a1 a2 a3) (prefix_Text.f (k + 1) a0 a1 a2 a3) := by
 intro a0 a1 a2 a3 k
 unfold prefix_Text.f
 have m0 := @addr_Text.mono
 have m1 := @prefix_Check.mono
 exact xO
set_option maxHeartbeats 8000000 in
set_option maxRecDepth 100000 in
theorem prefix_Text.calls (k : Nat) (a0 : Int) (a1_0 : Int) (a1_1 : Int) (a1_2 : Int) (r1 : ByteArray) (r2 : Int) (w : World) (hML : MLOk w) (h : prefix_Text.f k a0 a1_0 a1_1 a1_2 = some (r1, r2)) :
  Calls Tryd.prog 23 #[.int .i64 a0, .agg #[.int .u64 a1_0, .int .u64 a1_1, .int .i64 a1_2]] w fun e w' => e = .returned (.tuple #[.string r1, .int .i64 r2]) ∧ Below w.heap.size w w' := by
 have hu28 := Tryd.underlying28
 have hu24 := Tryd.underlying24
 have HML := Aside0.mk hML
 clear hML
 have HB := Aside0.mk (Below.refl w.heap.size w)
 have H : ((prefix_Check.f k a0 a1_0 a1_1 a1_2).bind fun t136 => (if t136 = 0 then ((addr_Text.f k a0 a1_0 a1_1).bind fun bt137 => (if bt137.1.size + 1 ≤ 9223372036854775807 then ((strconv_Itoa.f a1_2).bind fun t139 => (if (bt137.1 ++ (⟨#[47]⟩ : ByteArray)).size + t139.size ≤ 9223372036854775807 then (some ((bt137.1 ++ (⟨#[47]⟩ : ByteArray)) ++ t139, bt137.2)) else (none))) else (none))) else (some ((⟨#[]⟩ : ByteArray), t136)))) = some (r1, r2) := h
 clear h
 replace H := Option.bind_eq_some_iff.mp H
 obtain ⟨t136, A30, H⟩ := H
 replace H : (if t136 = 0 then ((addr_Text.f k a0 a1_0 a1_1).bind fun bt137 => (if bt137.1.size + 1 ≤ 9223372036854775807 then ((strconv_Itoa.f a1_2).bind fun t139 => (if (bt137.1 ++ (⟨#[47]⟩ : ByteArray)).size + t139.size ≤ 9223372036854775807 then (some ((bt137.1 ++ (⟨#[47]⟩ : ByteArray)) ++ t139, bt137.2)) else (none))) else (none))) else (some ((⟨#[]⟩ : ByteArray), t136))) = some (r1, r2) := H
 have A3 := Aside0.mk A30
 clear A30
 by_cases c4 : t136 = 0
 ·rw [if_pos c4] at H
  have c4b0 : (t136 == 0) = true := beq_iff_eq.mpr c4
  have c4b1 : (t136 != 0) = false := bne_eq_false_iff_eq.mpr c4
  clear c4
  replace H := Option.bind_eq_some_iff.mp H
  obtain ⟨⟨t137, t138⟩, A50, H⟩ := H
  replace H : (if t137.size + 1 ≤ 9223372036854775807 then ((strconv_Itoa.f a1_2).bind fun t139 => (if (t137 ++ (⟨#[47]⟩ : ByteArray)).size + t139.size ≤ 9223372036854775807 then (some ((t137 ++ (⟨#[47]⟩ : ByteArray)) ++ t139, t138)) else (none))) else (none)) = some (r1, r2) := H
  have A5 := Aside0.mk A50
  clear A50
  by_cases c6 : t137.size + 1 ≤ 9223372036854775807
  ·rw [if_pos c6] at H
   have c6b0 := eq_true c6
   have c6b1 : decide (t137.size + 1 ≤ 9223372036854775807) = true := decide_eq_true c6
   try have c6b2 : (9223372036854775807 < t137.size + 1) = False := eq_false (Nat.not_lt.2 c6)
   replace H := Option.bind_eq_some_iff.mp H
   obtain ⟨t139, A70, H⟩ := H
   replace H : (if (t137 ++ (⟨#[47]⟩ : ByteArray)).size + t139.size ≤ 9223372036854775807 then (some ((t137 ++ (⟨#[47]⟩ : ByteArray)) ++ t139, t138)) else (none)) = some (r1, r2) := H
   have A7 := Aside0.mk A70
   clear A70
   by_cases c8 : (t137 ++ (⟨#[47]⟩ : ByteArray)).size + t139.size ≤ 9223372036854775807
   ·rw [if_pos c8] at H
    have c8b0 := eq_true c8
    have c8b1 : decide ((t137 ++ (⟨#[47]⟩ : ByteArray)).size + t139.size ≤ 9223372036854775807) = true := decide_eq_true c8
    try have c8s : (9223372036854775807 < t137.size + 1 + t139.size) = False := eq_false (Nat.not_lt.2 (by have h_ := c8; simp only [ByteArray.size_append] at h_; exact h_))
    try have c8b2 : (9223372036854775807 < (t137 ++ (⟨#[47]⟩ : ByteArray)).size + t139.size) = False := eq_false (Nat.not_lt.2 c8)
    simp only [Option.some.injEq, Prod.mk.injEq] at H
    obtain ⟨rfl, rfl⟩ := H
    go_enter Tryd.func23, Tryd.ntmps23
    go_wp2_with (first | ((with_reducible refine gate_dst (N := 3) rfl ?_); refine box_event ?hg (N := 3) ?hd (cs := #[.int .u64 a1_0, .int .u64 a1_1, .int .i64 a1_2]) (t := 28) ?hr ?_; (case hd => rfl); (case hg => rfl); (case hr => first | (go_simp; done) | (go_simp; rfl)); intro gb135 hg w9 hbox hb; have n0_ := Aside0.mk (below_step xB hb); have n1_ := Aside0.mk (hbox); have n2_ := xS w hg; have n3_ := xS w hg; clear HB; have HB := n0_; have BK135 := n1_; have GW135 := n2_; have GE135 := n3_; clear n0_ n1_ n2_ n3_; clear hb hbox hg; have hcz10_0 : w9.cell? ⟨gb135, 0, none⟩ = some (.int .u64 a1_0) := (blk_cell BK135.out 0).trans rfl; have hcz10_1 : w9.cell? ⟨gb135, 1, none⟩ = some (.int .u64 a1_1) := (blk_cell BK135.out 1).trans rfl; have hcz10_2 : w9.cell? ⟨gb135, 2, none⟩ = some (.int .i64 a1_2) := (blk_cell BK135.out 2).trans rfl; have hfz10_0 := blk_frozen BK135.out 0; have hfz10_1 := blk_frozen BK135.out 1; have hfz10_2 := blk_frozen BK135.out 2) | ((with_reducible refine gate_callee (f := 25) rfl ?_); refine goesL_ (some 11) rfl rfl Tryd.func25 (by kernel_rfl) rfl #[.int .i64 a0, .agg #[.int .u64 a1_0, .int .u64 a1_1, .int .i64 a1_2]] rfl xM ?_; (with_reducible refine (prefix_Check.calls k a0 a1_0 a1_1 a1_2 t136 _ A3.out).mono ?_); rintro e w11 ⟨rfl, hb⟩; refine ⟨_, rfl, ?_⟩; have n0_ := xP BK135.out hb; have n1_ := Aside0.mk (below_step xG hb); clear BK135; clear HB; have BK135 := n0_; have HB := n1_; clear n0_ n1_; (try clear hb); (try clear hb2); (try clear hk); (try clear hi); have hcz12_0 : w11.cell? ⟨gb135, 0, none⟩ = some (.int .u64 a1_0) := (blk_cell BK135.out 0).trans rfl; have hcz12_1 : w11.cell? ⟨gb135, 1, none⟩ = some (.int .u64 a1_1) := (blk_cell BK135.out 1).trans rfl; have hcz12_2 : w11.cell? ⟨gb135, 2, none⟩ = some (.int .i64 a1_2) := (blk_cell BK135.out 2).trans rfl; have hfz12_0 := blk_frozen BK135.out 0; have hfz12_1 := blk_frozen BK135.out 1; have hfz12_2 := blk_frozen BK135.out 2) | ((with_reducible refine gate_callee (f := 56) rfl ?_); refine goesL_ (some 19) rfl rfl Tryd.func56 (by kernel_rfl) rfl #[.int .i64 a0, .agg #[.int .u64 a1_0, .int .u64 a1_1]] rfl xM ?_; (with_reducible refine (addr_Text.calls k a0 a1_0 a1_1 t137 t138 _ ?side1 A5.out).mono ?_); (case side1 => first | exact MLOk.below HML.out xG | (repeat (first | exact HML.out | (with_reducible refine MLOk.alloc ?_ _) | (with_reducible refine MLOk.drewN ?_ _) | (with_reducible refine MLOk.drew ?_)))); rintro e w13 ⟨rfl, hb⟩; refine ⟨_, rfl, ?_⟩; have n0_ := xP BK135.out hb; have n1_ := Aside0.mk (below_step xG hb); clear BK135; clear HB; have BK135 := n0_; have HB := n1_; clear n0_ n1_; (try clear hb); (try clear hb2); (try clear hk); (try clear hi); have hcz14_0 : w13.cell? ⟨gb135, 0, none⟩ = some (.int .u64 a1_0) := (blk_cell BK135.out 0).trans rfl; have hcz14_1 : w13.cell? ⟨gb135, 1, none⟩ = some (.int .u64 a1_1) := (blk_cell BK135.out 1).trans rfl; have hcz14_2 : w13.cell? ⟨gb135, 2, none⟩ = some (.int .i64 a1_2) := (blk_cell BK135.out 2).trans rfl; have hfz14_0 := blk_frozen BK135.out 0; have hfz14_1 := blk_frozen BK135.out 1; have hfz14_2 := blk_frozen BK135.out 2) | ((with_reducible refine gate_callee (f := 57) rfl ?_); refine goesL_ (some 26) rfl rfl Tryd.func57 (by kernel_rfl) rfl #[.int .i64 a1_2] rfl xM ?_; (with_reducible refine (strconv_Itoa.calls a1_2 t139 _ ?side1 A7.out).mono ?_); (case side1 => first | exact MLOk.below HML.out xG | (repeat (first | exact HML.out | (with_reducible refine MLOk.alloc ?_ _) | (with_reducible refine MLOk.drewN ?_ _) | (with_reducible refine MLOk.drew ?_)))); rintro e w15 ⟨rfl, hb⟩; refine ⟨_, rfl, ?_⟩; have n0_ := xP BK135.out hb; have n1_ := Aside0.mk (below_step xG hb); clear BK135; clear HB; have BK135 := n0_; have HB := n1_; clear n0_ n1_; (try clear hb); (try clear hb2); (try clear hk); (try clear hi)))
    go_ret2
    exact ⟨xE, xG⟩
   ·rw [if_neg c8] at H
    exact absurd H (by simp)
  ·rw [if_neg c6] at H
   exact absurd H (by simp)
 ·rw [if_neg c4] at H
  have c4b0 : (t136 == 0) = false := beq_eq_false_iff_ne.mpr c4
  have c4b1 : (t136 != 0) = true := bne_iff_ne.mpr c4
  simp only [Option.some.injEq, Prod.mk.injEq] at H
  obtain ⟨rfl, rfl⟩ := H
  go_enter Tryd.func23, Tryd.ntmps23
  go_wp2_with (first | ((with_reducible refine gate_dst (N := 3) rfl ?_); refine box_event ?hg (N := 3) ?hd (cs := #[.int .u64 a1_0, .int .u64 a1_1, .int .i64 a1_2]) (t := 28) ?hr ?_; (case hd => rfl); (case hg => rfl); (case hr => first | (go_simp; done) | (go_simp; rfl)); intro gb135 hg w16 hbox hb; have n0_ := Aside0.mk (below_step xB hb); have n1_ := Aside0.mk (hbox); have n2_ := xS w hg; have n3_ := xS w hg; clear HB; have HB := n0_; have BK135 := n1_; have GW135 := n2_; have GE135 := n3_; clear n0_ n1_ n2_ n3_; clear hb hbox hg; have hcz17_0 : w16.cell? ⟨gb135, 0, none⟩ = some (.int .u64 a1_0) := (blk_cell BK135.out 0).trans rfl; have hcz17_1 : w16.cell? ⟨gb135, 1, none⟩ = some (.int .u64 a1_1) := (blk_cell BK135.out 1).trans rfl; have hcz17_2 : w16.cell? ⟨gb135, 2, none⟩ = some (.int .i64 a1_2) := (blk_cell BK135.out 2).trans rfl; have hfz17_0 := blk_frozen BK135.out 0; have hfz17_1 := blk_frozen BK135.out 1; have hfz17_2 := blk_frozen BK135.out 2) | ((with_reducible refine gate_callee (f := 25) rfl ?_); refine goesL_ (some 11) rfl rfl Tryd.func25 (by kernel_rfl) rfl #[.int .i64 a0, .agg #[.int .u64 a1_0, .int .u64 a1_1, .int .i64 a1_2]] rfl xM ?_; (with_reducible refine (prefix_Check.calls k a0 a1_0 a1_1 a1_2 t136 _ A3.out).mono ?_); rintro e w18 ⟨rfl, hb⟩; refine ⟨_, rfl, ?_⟩; have n0_ := xP BK135.out hb; have n1_ := Aside0.mk (below_step xG hb); clear BK135; clear HB; have BK135 := n0_; have HB := n1_; clear n0_ n1_; (try clear hb); (try clear hb2); (try clear hk); (try clear hi)))
  go_ret2
  exact ⟨xE, xG⟩
def strings_Cut.f (a0 a1 : ByteArray) : Option (ByteArray × ByteArray × Bool) := if a0.size < 4294967281 then some (⟨(Go.Lib.cut a0.data.toList a1.data.toList).1.toArray⟩, ⟨(Go.Lib.cut a0.data.toList a1.data.toList).2.1.toArray⟩, (Go.Lib.cut a0.data.toList a1.data.toList).2.2) else none
theorem strings_Cut.calls (a0 a1 : ByteArray) (r1 : ByteArray) (r2 : ByteArray) (r3 : Bool) (w : World) (hML : MLOk w) (h : strings_Cut.f a0 a1 = some (r1, r2, r3)) :
  Calls Tryd.prog 59 #[.string a0, .string a1] w fun e w' => e = .returned (.tuple #[.string r1, .string r2, .bool r3]) ∧ Drawn0 w w' := by
 unfold strings_Cut.f at h
 split at h
 case isTrue hs =>
  obtain ⟨m, hm⟩ := hML.ml
  cases h
  exact (Tryd.strings_Cut a0 a1 m w hs hm).mono fun e w' ⟨he, hw⟩ => ⟨he, ⟨hw⟩⟩
 case isFalse => cases h
mutual
def addr_quad.l0 : Nat → ByteArray → Int → Int → Int → Option (Int × Bool)
 | 0, _, _, _, _ => none
 | k + 1, x0, x4, x5, x9 => if x9 < 4 then (addr_quad.l1 k x0 x4 x5 x9 x5 0 x9) else (some (x4, (x5 == (x0.size : Int))))
def addr_quad.l1 : Nat → ByteArray → Int → Int → Int → Int → Int → Int → Option (Int × Bool)
 | 0, _, _, _, _, _, _, _ => none
 | k + 1, x0, x4, x5, x6, x7, x8, x9 => if x5 < (x0.size : Int) then (if 0 ≤ x5 then (if (bt x0 x5) ≥ 48 then (addr_quad.j2 k x0 x4 x5 x6 x7 x8 x9 (decide ((bt x0 x5) ≤ 57))) else (addr_quad.j2 k x0 x4 x5 x6 x7 x8 x9 false)) else (none)) else (addr_quad.j2 k x0 x4 x5 x6 x7 x8 x9 false)
def addr_quad.j2 : Nat → ByteArray → Int → Int → Int → Int → Int → Int → Bool → Option (Int × Bool)
 | 0, _, _, _, _, _, _, _, _ => none
 | k + 1, x0, x4, x5, x6, x7, x8, x9, x28 => if x28 = true then (if 0 ≤ x5 then (if x5 < (x0.size : Int) then (if (IntKind.u64.wrap ((IntKind.u64.wrap (x8 * 10)) + (((bt x0 x5) - 48) % 256))) > 255 then (some (0, false)) else (if (wrap64 ((wrap64 (x5 + 1)) - x7)) > 1 then (if 0 ≤ x7 then (if x7 < (x0.size : Int) then (if (bt x0 x7) = 48 then (some (0, false)) else (addr_quad.l1 k x0 x4 (wrap64 (x5 + 1)) x6 x7 (IntKind.u64.wrap ((IntKind.u64.wrap (x8 * 10)) + (((bt x0 x5) - 48) % 256))) x9)) else (none)) else (none)) else (addr_quad.l1 k x0 x4 (wrap64 (x5 + 1)) x6 x7 (IntKind.u64.wrap ((IntKind.u64.wrap (x8 * 10)) + (((bt x0 x5) - 48) % 256))) x9))) else (none)) else (none)) else (if x5 = x7 then (some (0, false)) else (if x6 = 3 then (some (Go.bits .or .u64 (IntKind.u64.wrap (x4 * 256)) x8, (x5 == (x0.size : Int)))) else (if x5 = (x0.size : Int) then (some (0, false)) else (if 0 ≤ x5 then (if x5 < (x0.size : Int) then (if (bt x0 x5) = 46 then (addr_quad.l0 k x0 (Go.bits .or .u64 (IntKind.u64.wrap (x4 * 256)) x8) (wrap64 (x5 + 1)) (wrap64 (x9 + 1))) else (some (0, false))) else (none)) else (none)))))
end
def addr_quad.f (k : Nat) (a0 : ByteArray) : Option (Int × Bool) := addr_quad.l0 k a0 0 0 0
theorem addr_quad.mono_l : ∀ k, (∀ y0 y1 y2 y3, LeO (addr_quad.l0 k y0 y1 y2 y3) (addr_quad.l0 (k + 1) y0 y1 y2 y3)) ∧ (∀ y0 y1 y2 y3 y4 y5 y6, LeO (addr_quad.l1 k y0 y1 y2 y3 y4 y5 y6) (addr_quad.l1 (k + 1) y0 y1 y2 y3 y4 y5 y6)) ∧ (∀ y0 y1 y2 y3 y4 y5 y6 y7, LeO (addr_quad.j2 k y0 y1 y2 y3 y4 y5 y6 y7) (addr_quad.j2 (k + 1) y0 y1 y2 y3 y4 y5 y6 y7))
 | 0 => ⟨fun _ _ _ _ r h => by simp [addr_quad.l0] at h, fun _ _ _ _ _ _ _ r h => by simp [addr_quad.l1] at h, fun _ _ _ _ _ _ _ _ r h => by simp [addr_quad.j2] at h⟩
 | k + 1 => by
  obtain ⟨ih0, ih1, ih2⟩ := addr_quad.mono_l k
  refine ⟨?_, ?_, ?_⟩
  ·intro y0 y1 y2 y3
   unfold addr_quad.l0
   exact xO
  ·intro y0 y1 y2 y3 y4 y5 y6
   unfold addr_quad.l1
   exact xO
  ·intro y0 y1 y2 y3 y4 y5 y6 y7
   unfold addr_quad.j2
   exact xO
theorem addr_quad.mono : ∀ a0 k, LeO (addr_quad.f k a0) (addr_quad.f (k + 1) a0) := by
 intro a0 k
 obtain ⟨ih0, ih1, ih2⟩ := addr_quad.mono_l k
 unfold addr_quad.f
 exact xO
set_option maxHeartbeats 8000000 in
set_option maxRecDepth 100000 in
theorem addr_quad.calls (k : Nat) (a0 : ByteArray) (r1 : Int) (r2 : Bool) (w : World) (h : addr_quad.f k a0 = some (r1, r2)) :
  Calls Tryd.prog 87 #[.string a0] w fun e w' => e = .returned (.tuple #[.int .u64 r1, .bool r2]) ∧ Drawn0 w w' := by
 have H : (addr_quad.l0 k a0 0 0 0) = some (r1, r2) := h
 clear h
 have H' := Aside0.mk H
 clear H
 go_enter Tryd.func87, Tryd.ntmps87
 go_wp2
 repeat (go_step3; go_wp2)
 go_loopg [4, 5, 9] k (fun kq v4 v5 v9 w' => ∃ (x4_1 : Int) (x5_1 : Int) (x9_1 : Int), v4 = .int .u64 x4_1 ∧ v5 = .int .i64 x5_1 ∧ v9 = .int .i64 x9_1 ∧ Aside0 (addr_quad.l0 kq a0 x4_1 x5_1 x9_1 = some (r1, r2)) ∧ Aside0 (kq ≤ k) ∧ Drawn0 w w')
 case atStart => exact ⟨(0), (0), (0), xV, xV, xV, H', ⟨Nat.le_refl _⟩, xD⟩
 case round =>
  clear H'
  obtain ⟨x4_1, x5_1, x9_1, rfl, rfl, rfl, HA, HK1, ⟨m1, rfl⟩⟩ := hrel
  cases gk with
  | zero => exact absurd HA.out (by simp [addr_quad.l0])
  | succ k1 =>
   have H := HA.out
   clear HA
   simp only [addr_quad.l0] at H
   by_cases c2 : x9_1 < 4
   ·rw [if_pos c2] at H
    have c2b0 : decide (x9_1 < 4) = true := decide_eq_true c2
    clear c2
    have H' := Aside0.mk H
    clear H
    go_wp2
    repeat (go_step3; go_wp2)
    go_loopg [5, 8] k1 (fun kq v5 v8 w' => ∃ (x5_2 : Int) (x8_2 : Int), v5 = .int .i64 x5_2 ∧ v8 = .int .u64 x8_2 ∧ Aside0 (addr_quad.l1 kq a0 x4_1 x5_2 x9_1 x5_1 x8_2 x9_1 = some (r1, r2)) ∧ Aside0 (kq ≤ k1) ∧ Drawn0 w w')
    case atStart => exact ⟨(x5_1), (0), xV, xV, H', ⟨Nat.le_refl _⟩, xD⟩
    case round =>
     clear H'
     try clear c2
     try clear c2b0
     try clear p2
     obtain ⟨x5_2, x8_2, rfl, rfl, HA, HK2, ⟨m2, rfl⟩⟩ := hrel
     cases gk with
     | zero => exact absurd HA.out (by simp [addr_quad.l1])
     | succ k2 =>
      have H := HA.out
      clear HA
      simp only [addr_quad.l1] at H
      have HC3 := Aside0.mk H
      clear H
      go_upto_region 8 with (fail)
      go_cut [28] (fun v28 wc => ∃ (kq : Nat) (x28_2 : Bool), v28 = .bool x28_2 ∧ Aside0 (addr_quad.j2 kq a0 x4_1 x5_2 x9_1 x5_1 x8_2 x9_1 x28_2 = some (r1, r2)) ∧ Aside0 (kq ≤ k2) ∧ Drawn0 w wc)
      case first =>
       have H := HC3.out
       clear HC3
       by_cases c4 : x5_2 < (a0.size : Int)
       ·rw [if_pos c4] at H
        have c4b0 : decide (x5_2 < (a0.size : Int)) = true := decide_eq_true c4
        clear c4
        (first | rw [c4b0] | (simp only [i64_w, i32_w]; rw [c4b0]) | skip)
        by_cases c5 : 0 ≤ x5_2
        ·rw [if_pos c5] at H
         have c5b0 : decide (0 ≤ x5_2) = true := decide_eq_true c5
         clear c5
         by_cases c7 : (bt a0 x5_2) ≥ 48
         ·rw [if_pos c7] at H
          have c7b0 : decide (48 ≤ (bt a0 x5_2)) = true := decide_eq_true c7
          clear c7
          have H' := Aside0.mk H
          clear H
          have p6 : 0 ≤ (x5_2 : Int) := of_decide_eq_true xA
          have q6 : x5_2 < (a0.size : Int) := of_decide_eq_true xA
          have hx6 := bt_at a0 x5_2
          replace p6 := eq_true p6
          replace q6 := eq_true q6
          have p8 : 0 ≤ (x5_2 : Int) := of_decide_eq_true xA
          have q8 : x5_2 < (a0.size : Int) := of_decide_eq_true xA
          have hx8 := bt_at a0 x5_2
          replace p8 := eq_true p8
          replace q8 := eq_true q8
          go_wp2
          repeat (go_step3; go_wp2)
          go_meet
          case rel => exact ⟨_, (decide ((bt a0 x5_2) ≤ 57)), xV, H', ⟨by have := HK1.out; have := HK2.out; first | omega | exact Nat.le_refl _⟩, xD⟩
         ·rw [if_neg c7] at H
          have c7b0 : decide (48 ≤ (bt a0 x5_2)) = false := decide_eq_false c7
          clear c7
          have H' := Aside0.mk H
          clear H
          have p6 : 0 ≤ (x5_2 : Int) := of_decide_eq_true xA
          have q6 : x5_2 < (a0.size : Int) := of_decide_eq_true xA
          have hx6 := bt_at a0 x5_2
          replace p6 := eq_true p6
          replace q6 := eq_true q6
          go_wp2
          repeat (go_step3; go_wp2)
          go_meet
          case rel => exact ⟨_, (false), xV, H', ⟨by have := HK1.out; have := HK2.out; first | omega | exact Nat.le_refl _⟩, xD⟩
        ·rw [if_neg c5] at H
         exact absurd H (by simp)
       ·rw [if_neg c4] at H
        have c4b0 : decide (x5_2 < (a0.size : Int)) = false := decide_eq_false c4
        clear c4
        (first | rw [c4b0] | (simp only [i64_w, i32_w]; rw [c4b0]) | skip)
        have H' := Aside0.mk H
        clear H
        go_wp2
        repeat (go_step3; go_wp2)
        go_meet
        case rel => exact ⟨_, (false), xV, H', ⟨by have := HK1.out; have := HK2.out; first | omega | exact Nat.le_refl _⟩, xD⟩
      case rest =>
       clear HC3
       try clear c2
       try clear c2b0
       try clear p2
       try clear p3
       try clear c4
       try clear c4b0
       try clear c5
       try clear c5b0
       try clear p6
       try clear q6
       try clear hx6
       try clear c7
       try clear c7b0
       try clear c8
       try clear p8
       try clear q8
       try clear hx8
       try clear p2
       try clear p6
       try clear p8
       try clear q6
       try clear q8
       obtain ⟨kq, x28_2, rfl, HA, HJ2, ⟨mc2, rfl⟩⟩ := hcut
       cases kq with
       | zero => exact absurd HA.out (by simp [addr_quad.j2])
       | succ kj2 =>
        have H := HA.out
        clear HA
        simp only [addr_quad.j2] at H
        by_cases c9 : x28_2 = true
        ·subst c9
         have H1 : (if 0 ≤ x5_2 then (if x5_2 < (a0.size : Int) then (if (IntKind.u64.wrap ((IntKind.u64.wrap (x8_2 * 10)) + (((bt a0 x5_2) - 48) % 256))) > 255 then (some (0, false)) else (if (wrap64 ((wrap64 (x5_2 + 1)) - x5_1)) > 1 then (if 0 ≤ x5_1 then (if x5_1 < (a0.size : Int) then (if (bt a0 x5_1) = 48 then (some (0, false)) else (addr_quad.l1 kj2 a0 x4_1 (wrap64 (x5_2 + 1)) x9_1 x5_1 (IntKind.u64.wrap ((IntKind.u64.wrap (x8_2 * 10)) + (((bt a0 x5_2) - 48) % 256))) x9_1)) else (none)) else (none)) else (addr_quad.l1 kj2 a0 x4_1 (wrap64 (x5_2 + 1)) x9_1 x5_1 (IntKind.u64.wrap ((IntKind.u64.wrap (x8_2 * 10)) + (((bt a0 x5_2) - 48) % 256))) x9_1))) else (none)) else (none)) = some (r1, r2) := by rw [if_pos rfl] at H; exact H
         clear H
         have H := H1
         clear H1
         by_cases c10 : 0 ≤ x5_2
         ·rw [if_pos c10] at H
          have c10b0 : decide (0 ≤ x5_2) = true := decide_eq_true c10
          clear c10
          by_cases c11 : x5_2 < (a0.size : Int)
          ·rw [if_pos c11] at H
           have c11b0 : decide (x5_2 < (a0.size : Int)) = true := decide_eq_true c11
           clear c11
           by_cases c13 : (IntKind.u64.wrap ((IntKind.u64.wrap (x8_2 * 10)) + (((bt a0 x5_2) - 48) % 256))) > 255
           ·rw [if_pos c13] at H
            have c13b0 : decide (255 < (IntKind.u64.wrap ((IntKind.u64.wrap (x8_2 * 10)) + (((bt a0 x5_2) - 48) % 256)))) = true := decide_eq_true c13
            clear c13
            simp only [Option.some.injEq, Prod.mk.injEq] at H
            obtain ⟨rfl, rfl⟩ := H
            have p12 : 0 ≤ (x5_2 : Int) := of_decide_eq_true xA
            have q12 : x5_2 < (a0.size : Int) := of_decide_eq_true xA
            have hx12 := bt_at a0 x5_2
            replace p12 := eq_true p12
            replace q12 := eq_true q12
            go_wp2
            repeat (go_step3; go_wp2)
            (try rw [Exit.noGoto_ret])
            go_ret2
            exact ⟨by first | rfl | (simp; done) | (simp [*]; done), xD⟩
           ·rw [if_neg c13] at H
            have c13b0 : decide (255 < (IntKind.u64.wrap ((IntKind.u64.wrap (x8_2 * 10)) + (((bt a0 x5_2) - 48) % 256)))) = false := decide_eq_false c13
            clear c13
            by_cases c14 : (wrap64 ((wrap64 (x5_2 + 1)) - x5_1)) > 1
            ·rw [if_pos c14] at H
             have c14b0 : decide (1 < (wrap64 ((wrap64 (x5_2 + 1)) - x5_1))) = true := decide_eq_true c14
             clear c14
             by_cases c15 : 0 ≤ x5_1
             ·rw [if_pos c15] at H
              have c15b0 : decide (0 ≤ x5_1) = true := decide_eq_true c15
              clear c15
              by_cases c16 : x5_1 < (a0.size : Int)
              ·rw [if_pos c16] at H
               have c16b0 : decide (x5_1 < (a0.size : Int)) = true := decide_eq_true c16
               clear c16
               by_cases c18 : (bt a0 x5_1) = 48
               ·rw [if_pos c18] at H
                have c18b0 : ((bt a0 x5_1) == 48) = true := beq_iff_eq.mpr c18
                have c18b1 : ((bt a0 x5_1) != 48) = false := bne_eq_false_iff_eq.mpr c18
                clear c18
                simp only [Option.some.injEq, Prod.mk.injEq] at H
                obtain ⟨rfl, rfl⟩ := H
                have p12 : 0 ≤ (x5_2 : Int) := of_decide_eq_true xA
                have q12 : x5_2 < (a0.size : Int) := of_decide_eq_true xA
                have hx12 := bt_at a0 x5_2
                replace p12 := eq_true p12
                replace q12 := eq_true q12
                have p17 : 0 ≤ (x5_1 : Int) := of_decide_eq_true xA
                have q17 : x5_1 < (a0.size : Int) := of_decide_eq_true xA
                have hx17 := bt_at a0 x5_1
                replace p17 := eq_true p17
                replace q17 := eq_true q17
                go_wp2
                repeat (go_step3; go_wp2)
                (try rw [Exit.noGoto_ret])
                go_ret2
                exact ⟨by first | rfl | (simp; done) | (simp [*]; done), xD⟩
               ·rw [if_neg c18] at H
                have c18b0 : ((bt a0 x5_1) == 48) = false := beq_eq_false_iff_ne.mpr c18
                have c18b1 : ((bt a0 x5_1) != 48) = true := bne_iff_ne.mpr c18
                have H' := Aside0.mk H
                clear H
                have p12 : 0 ≤ (x5_2 : Int) := of_decide_eq_true xA
                have q12 : x5_2 < (a0.size : Int) := of_decide_eq_true xA
                have hx12 := bt_at a0 x5_2
                replace p12 := eq_true p12
                replace q12 := eq_true q12
                have p17 : 0 ≤ (x5_1 : Int) := of_decide_eq_true xA
                have q17 : x5_1 < (a0.size : Int) := of_decide_eq_true xA
                have hx17 := bt_at a0 x5_1
                replace p17 := eq_true p17
                replace q17 := eq_true q17
                go_wp2
                repeat (go_step3; go_wp2)
                go_roundg kj2
                case measure => have := HK1.out; have := HK2.out; have := HJ2.out; omega
                case rel => exact ⟨(wrap64 (x5_2 + 1)), (IntKind.u64.wrap ((IntKind.u64.wrap (x8_2 * 10)) + (((bt a0 x5_2) - 48) % 256))), xV, xV, H', ⟨by have := HK1.out; have := HK2.out; have := HJ2.out; omega⟩, xD⟩
              ·rw [if_neg c16] at H
               exact absurd H (by simp)
             ·rw [if_neg c15] at H
              exact absurd H (by simp)
            ·rw [if_neg c14] at H
             have c14b0 : decide (1 < (wrap64 ((wrap64 (x5_2 + 1)) - x5_1))) = false := decide_eq_false c14
             clear c14
             have H' := Aside0.mk H
             clear H
             have p12 : 0 ≤ (x5_2 : Int) := of_decide_eq_true xA
             have q12 : x5_2 < (a0.size : Int) := of_decide_eq_true xA
             have hx12 := bt_at a0 x5_2
             replace p12 := eq_true p12
             replace q12 := eq_true q12
             go_wp2
             repeat (go_step3; go_wp2)
             go_roundg kj2
             case measure => have := HK1.out; have := HK2.out; have := HJ2.out; omega
             case rel => exact ⟨(wrap64 (x5_2 + 1)), (IntKind.u64.wrap ((IntKind.u64.wrap (x8_2 * 10)) + (((bt a0 x5_2) - 48) % 256))), xV, xV, H', ⟨by have := HK1.out; have := HK2.out; have := HJ2.out; omega⟩, xD⟩
          ·rw [if_neg c11] at H
           exact absurd H (by simp)
         ·rw [if_neg c10] at H
          exact absurd H (by simp)
        ·replace c9 := Bool.eq_false_iff.mpr c9
         subst c9
         have H1 : (if x5_2 = x5_1 then (some (0, false)) else (if x9_1 = 3 then (some (Go.bits .or .u64 (IntKind.u64.wrap (x4_1 * 256)) x8_2, (x5_2 == (a0.size : Int)))) else (if x5_2 = (a0.size : Int) then (some (0, false)) else (if 0 ≤ x5_2 then (if x5_2 < (a0.size : Int) then (if (bt a0 x5_2) = 46 then (addr_quad.l0 kj2 a0 (Go.bits .or .u64 (IntKind.u64.wrap (x4_1 * 256)) x8_2) (wrap64 (x5_2 + 1)) (wrap64 (x9_1 + 1))) else (some (0, false))) else (none)) else (none))))) = some (r1, r2) := by rw [if_neg (show ¬ (false = true) by decide)] at H; exact H
         clear H
         have H := H1
         clear H1
         by_cases c19 : x5_2 = x5_1
         ·rw [if_pos c19] at H
          have c19b0 : (x5_2 == x5_1) = true := beq_iff_eq.mpr c19
          have c19b1 : (x5_2 != x5_1) = false := bne_eq_false_iff_eq.mpr c19
          clear c19
          simp only [Option.some.injEq, Prod.mk.injEq] at H
          obtain ⟨rfl, rfl⟩ := H
          go_wp2
          repeat (go_step3; go_wp2)
          (try rw [Exit.noGoto_ret])
          go_ret2
          exact ⟨by first | rfl | (simp; done) | (simp [*]; done), xD⟩
         ·rw [if_neg c19] at H
          have c19b0 : (x5_2 == x5_1) = false := beq_eq_false_iff_ne.mpr c19
          have c19b1 : (x5_2 != x5_1) = true := bne_iff_ne.mpr c19
          by_cases c20 : x9_1 = 3
          ·rw [if_pos c20] at H
           have c20b0 : (x9_1 == 3) = true := beq_iff_eq.mpr c20
           have c20b1 : (x9_1 != 3) = false := bne_eq_false_iff_eq.mpr c20
           clear c20
           simp only [Option.some.injEq, Prod.mk.injEq] at H
           obtain ⟨rfl, rfl⟩ := H
           go_wp2
           repeat (go_step3; go_wp2)
           (try rw [Exit.noGoto_ret])
           go_ret2
           exact ⟨by first | rfl | (simp; done) | (simp [*]; done), xD⟩
          ·rw [if_neg c20] at H
           have c20b0 : (x9_1 == 3) = false := beq_eq_false_iff_ne.mpr c20
           have c20b1 : (x9_1 != 3) = true := bne_iff_ne.mpr c20
           by_cases c21 : x5_2 = (a0.size : Int)
           ·rw [if_pos c21] at H
            have c21b0 : (x5_2 == (a0.size : Int)) = true := beq_iff_eq.mpr c21
            have c21b1 : (x5_2 != (a0.size : Int)) = false := bne_eq_false_iff_eq.mpr c21
            clear c21
            simp only [Option.some.injEq, Prod.mk.injEq] at H
            obtain ⟨rfl, rfl⟩ := H
            go_wp2
            repeat (go_step3; go_wp2)
            (try rw [Exit.noGoto_ret])
            go_ret2
            exact ⟨by first | rfl | (simp; done) | (simp [*]; done), xD⟩
           ·rw [if_neg c21] at H
            have c21b0 : (x5_2 == (a0.size : Int)) = false := beq_eq_false_iff_ne.mpr c21
            have c21b1 : (x5_2 != (a0.size : Int)) = true := bne_iff_ne.mpr c21
            by_cases c22 : 0 ≤ x5_2
            ·rw [if_pos c22] at H
             have c22b0 : decide (0 ≤ x5_2) = true := decide_eq_true c22
             clear c22
             by_cases c23 : x5_2 < (a0.size : Int)
             ·rw [if_pos c23] at H
              have c23b0 : decide (x5_2 < (a0.size : Int)) = true := decide_eq_true c23
              clear c23
              by_cases c25 : (bt a0 x5_2) = 46
              ·rw [if_pos c25] at H
               have c25b0 : ((bt a0 x5_2) == 46) = true := beq_iff_eq.mpr c25
               have c25b1 : ((bt a0 x5_2) != 46) = false := bne_eq_false_iff_eq.mpr c25
               clear c25
               have H' := Aside0.mk H
               clear H
               have p24 : 0 ≤ (x5_2 : Int) := of_decide_eq_true xA
               have q24 : x5_2 < (a0.size : Int) := of_decide_eq_true xA
               have hx24 := bt_at a0 x5_2
               replace p24 := eq_true p24
               replace q24 := eq_true q24
               go_wp2
               repeat (go_step3; go_wp2)
               go_roundg kj2
               case measure => have := HK1.out; have := HK2.out; have := HJ2.out; omega
               case rel => exact ⟨(Go.bits .or .u64 (IntKind.u64.wrap (x4_1 * 256)) x8_2), (wrap64 (x5_2 + 1)), (wrap64 (x9_1 + 1)), xV, xV, xV, H', ⟨by have := HK1.out; have := HK2.out; have := HJ2.out; omega⟩, xD⟩
              ·rw [if_neg c25] at H
               have c25b0 : ((bt a0 x5_2) == 46) = false := beq_eq_false_iff_ne.mpr c25
               have c25b1 : ((bt a0 x5_2) != 46) = true := bne_iff_ne.mpr c25
               simp only [Option.some.injEq, Prod.mk.injEq] at H
               obtain ⟨rfl, rfl⟩ := H
               have p24 : 0 ≤ (x5_2 : Int) := of_decide_eq_true xA
               have q24 : x5_2 < (a0.size : Int) := of_decide_eq_true xA
               have hx24 := bt_at a0 x5_2
               replace p24 := eq_true p24
               replace q24 := eq_true q24
               go_wp2
               repeat (go_step3; go_wp2)
               (try rw [Exit.noGoto_ret])
               go_ret2
               exact ⟨by first | rfl | (simp; done) | (simp [*]; done), xD⟩
             ·rw [if_neg c23] at H
              exact absurd H (by simp)
            ·rw [if_neg c22] at H
             exact absurd H (by simp)
   ·rw [if_neg c2] at H
    have c2b0 : decide (x9_1 < 4) = false := decide_eq_false c2
    clear c2
    simp only [Option.some.injEq, Prod.mk.injEq] at H
    obtain ⟨rfl, rfl⟩ := H
    go_wp2
    repeat (go_step3; go_wp2)
    (try rw [Exit.noGoto_ret])
    go_ret2
    exact ⟨by first | rfl | (simp; done) | (simp [*]; done), xD⟩
def word_Or.f (a0_0 : Int) (a0_1 : Int) (a1_0 : Int) (a1_1 : Int) : Option (Int × Int) := some (Go.bits .or .u64 a0_0 a1_0, Go.bits .or .u64 a0_1 a1_1)
set_option maxHeartbeats 8000000 in
set_option maxRecDepth 100000 in
theorem word_Or.calls (a0_0 : Int) (a0_1 : Int) (a1_0 : Int) (a1_1 : Int) (r1 : Int) (r2 : Int) (w : World) (h : word_Or.f a0_0 a0_1 a1_0 a1_1 = some (r1, r2)) :
  Calls Tryd.prog 52 #[.agg #[.int .u64 a0_0, .int .u64 a0_1], .agg #[.int .u64 a1_0, .int .u64 a1_1]] w fun e w' => e = .returned (.agg #[.int .u64 r1, .int .u64 r2]) ∧ Below w.heap.size w w' := by
 have hu24 := Tryd.underlying24
 have HB := Aside0.mk (Below.refl w.heap.size w)
 have H : (some (Go.bits .or .u64 a0_0 a1_0, Go.bits .or .u64 a0_1 a1_1)) = some (r1, r2) := h
 clear h
 simp only [Option.some.injEq, Prod.mk.injEq] at H
 obtain ⟨rfl, rfl⟩ := H
 go_enter Tryd.func52, Tryd.ntmps52
 go_wp2_with (first | ((with_reducible refine gate_dst (N := 2) rfl ?_); refine box_event ?hg (N := 2) ?hd (cs := #[.int .u64 a0_0, .int .u64 a0_1]) (t := 24) ?hr ?_; (case hd => rfl); (case hg => rfl); (case hr => first | (go_simp; done) | (go_simp; rfl)); intro gb140 hg w3 hbox hb; have n0_ := Aside0.mk (below_step xB hb); have n1_ := Aside0.mk (hbox); have n2_ := xS w hg; have n3_ := xS w hg; clear HB; have HB := n0_; have BK140 := n1_; have GW140 := n2_; have GE140 := n3_; clear n0_ n1_ n2_ n3_; clear hb hbox hg) | ((with_reducible refine gate_dst (N := 3) rfl ?_); refine box_event ?hg (N := 3) ?hd (cs := #[.int .u64 a1_0, .int .u64 a1_1]) (t := 24) ?hr ?_; (case hd => rfl); (case hg => rfl); (case hr => first | (go_simp; done) | (go_simp; rfl)); intro gb141 hg w4 hbox hb; have n0_ := xP BK140.out hb; have n1_ := Aside0.mk (below_step xG hb); have n2_ := Aside0.mk (hbox); have n3_ := xT w hg; have n4_ := xT w hg; have n5_ := Aside0.mk ((xNl BK140.out hg : gb140 ≠ gb141)); have n6_ := Aside0.mk ((xNr BK140.out hg : gb141 ≠ gb140)); clear BK140; clear HB; have BK140 := n0_; have HB := n1_; have BK141 := n2_; have GW141 := n3_; have GE141 := n4_; have NB140_141 := n5_; have NB141_140 := n6_; clear n0_ n1_ n2_ n3_ n4_ n5_ n6_; clear hb hbox hg) | ((with_reducible refine gate_dst (N := 4) rfl ?_); refine box_event ?hg (N := 4) ?hd (cs := #[.int .u64 0, .int .u64 0]) (t := 24) ?hr ?_; (case hd => rfl); (case hg => rfl); (case hr => first | (go_simp; done) | (go_simp; rfl)); intro gb142 hg w5 hbox hb; have n0_ := xP BK140.out hb; have n1_ := xP BK141.out hb; have n2_ := Aside0.mk (below_step xG hb); have n3_ := Aside0.mk (hbox); have n4_ := xT w hg; have n5_ := xT w hg; have n6_ := Aside0.mk ((xNl BK140.out hg : gb140 ≠ gb142)); have n7_ := Aside0.mk ((xNr BK140.out hg : gb142 ≠ gb140)); have n8_ := Aside0.mk ((xNl BK141.out hg : gb141 ≠ gb142)); have n9_ := Aside0.mk ((xNr BK141.out hg : gb142 ≠ gb141)); clear BK140; clear BK141; clear HB; have BK140 := n0_; have BK141 := n1_; have HB := n2_; have BK142 := n3_; have GW142 := n4_; have GE142 := n5_; have NB140_142 := n6_; have NB142_140 := n7_; have NB141_142 := n8_; have NB142_141 := n9_; clear n0_ n1_ n2_ n3_ n4_ n5_ n6_ n7_ n8_ n9_; clear hb hbox hg; have hnb6 := NB140_141.out; have hnc6 := NB141_140.out; have hnb7 := NB140_142.out; have hnc7 := NB142_140.out; have hcz8_0 : w5.cell? ⟨gb140, 0, none⟩ = some (.int .u64 a0_0) := (blk_cell BK140.out 0).trans rfl; have hcz8_1 : w5.cell? ⟨gb140, 1, none⟩ = some (.int .u64 a0_1) := (blk_cell BK140.out 1).trans rfl; have hfz8_0 := blk_frozen BK140.out 0; have hfz8_1 := blk_frozen BK140.out 1; have hnb9 := NB141_142.out; have hnc9 := NB142_141.out; have hcz10_0 : w5.cell? ⟨gb141, 0, none⟩ = some (.int .u64 a1_0) := (blk_cell BK141.out 0).trans rfl; have hcz10_1 : w5.cell? ⟨gb141, 1, none⟩ = some (.int .u64 a1_1) := (blk_cell BK141.out 1).trans rfl; have hfz10_0 := blk_frozen BK141.out 0; have hfz10_1 := blk_frozen BK141.out 1; have hcz11_0 : w5.cell? ⟨gb142, 0, none⟩ = some (.int .u64 0) := (blk_cell BK142.out 0).trans rfl; have hcz11_1 : w5.cell? ⟨gb142, 1, none⟩ = some (.int .u64 0) := (blk_cell BK142.out 1).trans rfl; have hfz11_0 := blk_frozen BK142.out 0; have hfz11_1 := blk_frozen BK142.out 1))
 refine bodyPost_ret (results_cell_row rfl _ _ gb142 24 #[.int .u64 (Go.bits .or .u64 a0_0 a1_0), .int .u64 (Go.bits .or .u64 a0_1 a1_1)] (0, 0) _ rfl (by (with_reducible repeat (first | refine blk_drewN ?_ _ | refine blk_drew ?_ | refine blk_alloc ?_ _)); refine blk_put (cs := #[.int .u64 (Go.bits .or .u64 a0_0 a1_0), .int .u64 0]) ?_ 1 _ rfl; (with_reducible repeat (first | refine blk_drewN ?_ _ | refine blk_drew ?_ | refine blk_alloc ?_ _)); refine blk_put (cs := #[.int .u64 0, .int .u64 0]) ?_ 0 _ rfl; (with_reducible repeat (first | refine blk_drewN ?_ _ | refine blk_drew ?_ | refine blk_alloc ?_ _)); exact BK142.out) Tryd.underlying24 rfl (by kernel_rfl)) rfl ?_
 exact ⟨xE, xG⟩
def strings_Contains.f (a0 a1 : ByteArray) : Option Bool := if a0.size < 4294967281 then some (Go.Lib.contains a0.data.toList a1.data.toList) else none
theorem strings_Contains.calls (a0 a1 : ByteArray) (r : Bool) (w : World) (hML : MLOk w) (h : strings_Contains.f a0 a1 = some r) :
  Calls Tryd.prog 122 #[.string a0, .string a1] w fun e w' => e = .returned (.bool r) ∧ Drawn0 w w' := by
 unfold strings_Contains.f at h
 split at h
 case isTrue hs =>
  obtain ⟨m, hm⟩ := hML.ml
  cases h
  exact (Tryd.strings_Contains a0 a1 m w hs hm).mono fun e w' ⟨he, hw⟩ => ⟨he, by subst hw; exact Drawn0.refl _⟩
 case isFalse => cases h
mutual
def addr_group.j0 : Nat → ByteArray → Bool → Option (Int × Bool)
 | 0, _, _ => none
 | k + 1, x0, x14 => if x14 = true then (some (0, false)) else (addr_group.l0 k x0 0 (x0.size : Int) 0)
def addr_group.l0 : Nat → ByteArray → Int → Int → Int → Option (Int × Bool)
 | 0, _, _, _, _ => none
 | k + 1, x0, x4, x16, x17 => if x17 < x16 then (if 0 ≤ x17 then (if x17 < (x0.size : Int) then (if (bt x0 x17) ≥ 48 then (addr_group.j2 k x0 x4 (bt x0 x17) x16 x17 (decide ((bt x0 x17) ≤ 57))) else (addr_group.j2 k x0 x4 (bt x0 x17) x16 x17 false)) else (none)) else (none)) else (some (x4, true))
def addr_group.j2 : Nat → ByteArray → Int → Int → Int → Int → Bool → Option (Int × Bool)
 | 0, _, _, _, _, _, _ => none
 | k + 1, x0, x4, x6, x16, x17, x23 => if x23 = true then (addr_group.l0 k x0 (Go.bits .or .u64 (IntKind.u64.wrap (x4 * 16)) ((x6 - 48) % 256)) x16 (wrap64 (x17 + 1))) else (if x6 ≥ 65 then (addr_group.j3 k x0 x4 x6 x16 x17 (decide (x6 ≤ 70))) else (addr_group.j3 k x0 x4 x6 x16 x17 false))
def addr_group.j3 : Nat → ByteArray → Int → Int → Int → Int → Bool → Option (Int × Bool)
 | 0, _, _, _, _, _, _ => none
 | k + 1, x0, x4, x6, x16, x17, x30 => if x30 = true then (addr_group.l0 k x0 (Go.bits .or .u64 (IntKind.u64.wrap (x4 * 16)) ((((((x6 + 32) % 256) - 97) % 256) + 10) % 256)) x16 (wrap64 (x17 + 1))) else (if x6 ≥ 97 then (if x6 ≤ 102 then (addr_group.l0 k x0 (Go.bits .or .u64 (IntKind.u64.wrap (x4 * 16)) ((((x6 - 97) % 256) + 10) % 256)) x16 (wrap64 (x17 + 1))) else (some (0, false))) else (some (0, false)))
end
def addr_group.f (k : Nat) (a0 : ByteArray) : Option (Int × Bool) := if (a0.size : Int) < 1 then (addr_group.j0 k a0 true) else (addr_group.j0 k a0 (decide ((a0.size : Int) > 4)))
theorem addr_group.mono_l : ∀ k, (∀ y0 y1, LeO (addr_group.j0 k y0 y1) (addr_group.j0 (k + 1) y0 y1)) ∧ (∀ y0 y1 y2 y3, LeO (addr_group.l0 k y0 y1 y2 y3) (addr_group.l0 (k + 1) y0 y1 y2 y3)) ∧ (∀ y0 y1 y2 y3 y4 y5, LeO (addr_group.j2 k y0 y1 y2 y3 y4 y5) (addr_group.j2 (k + 1) y0 y1 y2 y3 y4 y5)) ∧ (∀ y0 y1 y2 y3 y4 y5, LeO (addr_group.j3 k y0 y1 y2 y3 y4 y5) (addr_group.j3 (k + 1) y0 y1 y2 y3 y4 y5))
 | 0 => ⟨fun _ _ r h => by simp [addr_group.j0] at h, fun _ _ _ _ r h => by simp [addr_group.l0] at h, fun _ _ _ _ _ _ r h => by simp [addr_group.j2] at h, fun _ _ _ _ _ _ r h => by simp [addr_group.j3] at h⟩
 | k + 1 => by
  obtain ⟨ih0, ih1, ih2, ih3⟩ := addr_group.mono_l k
  refine ⟨?_, ?_, ?_, ?_⟩
  ·intro y0 y1
   unfold addr_group.j0
   exact xO
  ·intro y0 y1 y2 y3
   unfold addr_group.l0
   exact xO
  ·intro y0 y1 y2 y3 y4 y5
   unfold addr_group.j2
   exact xO
  ·intro y0 y1 y2 y3 y4 y5
   unfold addr_group.j3
   exact xO
theorem addr_group.mono : ∀ a0 k, LeO (addr_group.f k a0) (addr_group.f (k + 1) a0) := by
 intro a0 k
 obtain ⟨ih0, ih1, ih2, ih3⟩ := addr_group.mono_l k
 unfold addr_group.f
 exact xO
set_option maxHeartbeats 8000000 in
set_option maxRecDepth 100000 in
theorem addr_group.calls (k : Nat) (a0 : ByteArray) (r1 : Int) (r2 : Bool) (w : World) (h : addr_group.f k a0 = some (r1, r2)) :
  Calls Tryd.prog 123 #[.string a0] w fun e w' => e = .returned (.tuple #[.int .u64 r1, .bool r2]) ∧ Drawn0 w w' := by
 have H : (if (a0.size : Int) < 1 then (addr_group.j0 k a0 true) else (addr_group.j0 k a0 (decide ((a0.size : Int) > 4)))) = some (r1, r2) := h
 clear h
 have HC2 := Aside0.mk H
 clear H
 go_enter Tryd.func123, Tryd.ntmps123
 go_upto_region 1 with (fail)
 go_cut [14] (fun v14 wc => ∃ (kq : Nat) (x14_1 : Bool), v14 = .bool x14_1 ∧ Aside0 (addr_group.j0 kq a0 x14_1 = some (r1, r2)) ∧ Aside0 (kq ≤ k) ∧ Drawn0 w wc)
 case first =>
  have H := HC2.out
  clear HC2
  by_cases c3 : (a0.size : Int) < 1
  ·rw [if_pos c3] at H
   have c3b0 : decide ((a0.size : Int) < 1) = true := decide_eq_true c3
   have c3b1 : decide (a0.size < 1) = true := decide_eq_true (by omega)
   clear c3
   (first | rw [c3b0] | (simp only [i64_w, i32_w]; rw [c3b0]) | skip)
   have H' := Aside0.mk H
   clear H
   go_wp2
   go_meet
   case rel => exact ⟨_, (true), xV, H', ⟨by first | omega | exact Nat.le_refl _⟩, xD⟩
  ·rw [if_neg c3] at H
   have c3b0 : decide ((a0.size : Int) < 1) = false := decide_eq_false c3
   have c3b1 : decide (a0.size < 1) = false := decide_eq_false (by omega)
   clear c3
   (first | rw [c3b0] | (simp only [i64_w, i32_w]; rw [c3b0]) | skip)
   have H' := Aside0.mk H
   clear H
   go_wp2
   go_meet
   case rel => exact ⟨_, (decide ((a0.size : Int) > 4)), xV, H', ⟨by first | omega | exact Nat.le_refl _⟩, xD⟩
 case rest =>
  clear HC2
  try clear c1
  try clear p2
  try clear c3
  try clear c3b0
  try clear c3b1
  obtain ⟨kq, x14_1, rfl, HA, HJ1, ⟨mc1, rfl⟩⟩ := hcut
  cases kq with
  | zero => exact absurd HA.out (by simp [addr_group.j0])
  | succ kj1 =>
   have H := HA.out
   clear HA
   simp only [addr_group.j0] at H
   by_cases c4 : x14_1 = true
   ·subst c4
    have H1 : (some (0, false)) = some (r1, r2) := by rw [if_pos rfl] at H; exact H
    clear H
    have H := H1
    clear H1
    simp only [Option.some.injEq, Prod.mk.injEq] at H
    obtain ⟨rfl, rfl⟩ := H
    go_wp2
    go_ret2
    exact ⟨by first | rfl | (simp; done) | (simp [*]; done), xD⟩
   ·replace c4 := Bool.eq_false_iff.mpr c4
    subst c4
    have H1 : (addr_group.l0 kj1 a0 0 (a0.size : Int) 0) = some (r1, r2) := by rw [if_neg (show ¬ (false = true) by decide)] at H; exact H
    clear H
    have H := H1
    clear H1
    have H' := Aside0.mk H
    clear H
    go_wp2
    go_loopg [4, 17] kj1 (fun kq v4 v17 w' => ∃ (x4_2 : Int) (x17_2 : Int), v4 = .int .u64 x4_2 ∧ v17 = .int .i64 x17_2 ∧ Aside0 (addr_group.l0 kq a0 x4_2 (a0.size : Int) x17_2 = some (r1, r2)) ∧ Aside0 (kq ≤ kj1) ∧ Drawn0 w w')
    case atStart => exact ⟨(0), (0), xV, xV, H', ⟨Nat.le_refl _⟩, xD⟩
    case round =>
     clear H'
     try clear c1
     try clear p2
     try clear c3
     try clear c3b0
     try clear c3b1
     try clear c4
     try clear p2
     obtain ⟨x4_2, x17_2, rfl, rfl, HA, HK2, ⟨m2, rfl⟩⟩ := hrel
     cases gk with
     | zero => exact absurd HA.out (by simp [addr_group.l0])
     | succ k2 =>
      have H := HA.out
      clear HA
      simp only [addr_group.l0] at H
      by_cases c5 : x17_2 < (a0.size : Int)
      ·rw [if_pos c5] at H
       have c5b0 : decide (x17_2 < (a0.size : Int)) = true := decide_eq_true c5
       clear c5
       by_cases c6 : 0 ≤ x17_2
       ·rw [if_pos c6] at H
        have c6b0 : decide (0 ≤ x17_2) = true := decide_eq_true c6
        clear c6
        by_cases c7 : x17_2 < (a0.size : Int)
        ·rw [if_pos c7] at H
         have c7b0 : decide (x17_2 < (a0.size : Int)) = true := decide_eq_true c7
         clear c7
         have HC9 := Aside0.mk H
         clear H
         have p8 : 0 ≤ (x17_2 : Int) := of_decide_eq_true xA
         have q8 : x17_2 < (a0.size : Int) := of_decide_eq_true xA
         have hx8 := bt_at a0 x17_2
         replace p8 := eq_true p8
         replace q8 := eq_true q8
         go_upto_region 8 with (fail)
         go_cut [23] (fun v23 wc => ∃ (kq : Nat) (x23_8 : Bool), v23 = .bool x23_8 ∧ Aside0 (addr_group.j2 kq a0 x4_2 (bt a0 x17_2) (a0.size : Int) x17_2 x23_8 = some (r1, r2)) ∧ Aside0 (kq ≤ k2) ∧ Drawn0 w wc)
         case first =>
          have H := HC9.out
          clear HC9
          by_cases c10 : (bt a0 x17_2) ≥ 48
          ·rw [if_pos c10] at H
           have c10b0 : decide (48 ≤ (bt a0 x17_2)) = true := decide_eq_true c10
           clear c10
           (first | rw [c10b0] | (simp only [i64_w, i32_w]; rw [c10b0]) | skip)
           have H' := Aside0.mk H
           clear H
           go_wp2
           go_meet
           case rel => exact ⟨_, (decide ((bt a0 x17_2) ≤ 57)), xV, H', ⟨by have := HJ1.out; have := HK2.out; first | omega | exact Nat.le_refl _⟩, xD⟩
          ·rw [if_neg c10] at H
           have c10b0 : decide (48 ≤ (bt a0 x17_2)) = false := decide_eq_false c10
           clear c10
           (first | rw [c10b0] | (simp only [i64_w, i32_w]; rw [c10b0]) | skip)
           have H' := Aside0.mk H
           clear H
           go_wp2
           go_meet
           case rel => exact ⟨_, (false), xV, H', ⟨by have := HJ1.out; have := HK2.out; first | omega | exact Nat.le_refl _⟩, xD⟩
         case rest =>
          clear HC9
          try clear c1
          try clear p2
          try clear c3
          try clear c3b0
          try clear c3b1
          try clear c4
          try clear c5
          try clear c5b0
          try clear c6
          try clear c6b0
          try clear c7
          try clear c7b0
          try clear p8
          try clear q8
          try clear hx8
          try clear c10
          try clear c10b0
          try clear p2
          try clear p8
          try clear q8
          obtain ⟨kq, x23_8, rfl, HA, HJ8, ⟨mc8, rfl⟩⟩ := hcut
          cases kq with
          | zero => exact absurd HA.out (by simp [addr_group.j2])
          | succ kj8 =>
           have H := HA.out
           clear HA
           simp only [addr_group.j2] at H
           by_cases c11 : x23_8 = true
           ·subst c11
            have H1 : (addr_group.l0 kj8 a0 (Go.bits .or .u64 (IntKind.u64.wrap (x4_2 * 16)) (((bt a0 x17_2) - 48) % 256)) (a0.size : Int) (wrap64 (x17_2 + 1))) = some (r1, r2) := by rw [if_pos rfl] at H; exact H
            clear H
            have H := H1
            clear H1
            have H' := Aside0.mk H
            clear H
            go_wp2
            go_roundg kj8
            case measure => have := HJ1.out; have := HK2.out; have := HJ8.out; omega
            case rel => exact ⟨(Go.bits .or .u64 (IntKind.u64.wrap (x4_2 * 16)) (((bt a0 x17_2) - 48) % 256)), (wrap64 (x17_2 + 1)), xV, xV, H', ⟨by have := HJ1.out; have := HK2.out; have := HJ8.out; omega⟩, xD⟩
           ·replace c11 := Bool.eq_false_iff.mpr c11
            subst c11
            have H1 : (if (bt a0 x17_2) ≥ 65 then (addr_group.j3 kj8 a0 x4_2 (bt a0 x17_2) (a0.size : Int) x17_2 (decide ((bt a0 x17_2) ≤ 70))) else (addr_group.j3 kj8 a0 x4_2 (bt a0 x17_2) (a0.size : Int) x17_2 false)) = some (r1, r2) := by rw [if_neg (show ¬ (false = true) by decide)] at H; exact H
            clear H
            have H := H1
            clear H1
            have HC12 := Aside0.mk H
            clear H
            go_upto_region 9 with (fail)
            go_cut [30] (fun v30 wc => ∃ (kq : Nat) (x30_11 : Bool), v30 = .bool x30_11 ∧ Aside0 (addr_group.j3 kq a0 x4_2 (bt a0 x17_2) (a0.size : Int) x17_2 x30_11 = some (r1, r2)) ∧ Aside0 (kq ≤ kj8) ∧ Drawn0 w wc)
            case first =>
             have H := HC12.out
             clear HC12
             by_cases c13 : (bt a0 x17_2) ≥ 65
             ·rw [if_pos c13] at H
              have c13b0 : decide (65 ≤ (bt a0 x17_2)) = true := decide_eq_true c13
              clear c13
              (first | rw [c13b0] | (simp only [i64_w, i32_w]; rw [c13b0]) | skip)
              have H' := Aside0.mk H
              clear H
              go_wp2
              go_meet
              case rel => exact ⟨_, (decide ((bt a0 x17_2) ≤ 70)), xV, H', ⟨by have := HJ1.out; have := HK2.out; have := HJ8.out; first | omega | exact Nat.le_refl _⟩, xD⟩
             ·rw [if_neg c13] at H
              have c13b0 : decide (65 ≤ (bt a0 x17_2)) = false := decide_eq_false c13
              clear c13
              (first | rw [c13b0] | (simp only [i64_w, i32_w]; rw [c13b0]) | skip)
              have H' := Aside0.mk H
              clear H
              go_wp2
              go_meet
              case rel => exact ⟨_, (false), xV, H', ⟨by have := HJ1.out; have := HK2.out; have := HJ8.out; first | omega | exact Nat.le_refl _⟩, xD⟩
            case rest =>
             clear HC12
             try clear c1
             try clear p2
             try clear c3
             try clear c3b0
             try clear c3b1
             try clear c4
             try clear c5
             try clear c5b0
             try clear c6
             try clear c6b0
             try clear p6
             try clear c7
             try clear c7b0
             try clear c8
             try clear p8
             try clear q8
             try clear hx8
             try clear c10
             try clear c10b0
             try clear c11
             try clear c12
             try clear c13
             try clear c13b0
             try clear p2
             try clear p8
             try clear q8
             obtain ⟨kq, x30_11, rfl, HA, HJ11, ⟨mc11, rfl⟩⟩ := hcut
             cases kq with
             | zero => exact absurd HA.out (by simp [addr_group.j3])
             | succ kj11 =>
              have H := HA.out
              clear HA
              simp only [addr_group.j3] at H
              by_cases c14 : x30_11 = true
              ·subst c14
               have H1 : (addr_group.l0 kj11 a0 (Go.bits .or .u64 (IntKind.u64.wrap (x4_2 * 16)) (((((((bt a0 x17_2) + 32) % 256) - 97) % 256) + 10) % 256)) (a0.size : Int) (wrap64 (x17_2 + 1))) = some (r1, r2) := by rw [if_pos rfl] at H; exact H
               clear H
               have H := H1
               clear H1
               have H' := Aside0.mk H
               clear H
               go_wp2
               go_roundg kj11
               case measure => have := HJ1.out; have := HK2.out; have := HJ8.out; have := HJ11.out; omega
               case rel => exact ⟨(Go.bits .or .u64 (IntKind.u64.wrap (x4_2 * 16)) (((((((bt a0 x17_2) + 32) % 256) - 97) % 256) + 10) % 256)), (wrap64 (x17_2 + 1)), xV, xV, H', ⟨by have := HJ1.out; have := HK2.out; have := HJ8.out; have := HJ11.out; omega⟩, xD⟩
              ·replace c14 := Bool.eq_false_iff.mpr c14
               subst c14
               have H1 : (if (bt a0 x17_2) ≥ 97 then (if (bt a0 x17_2) ≤ 102 then (addr_group.l0 kj11 a0 (Go.bits .or .u64 (IntKind.u64.wrap (x4_2 * 16)) (((((bt a0 x17_2) - 97) % 256) + 10) % 256)) (a0.size : Int) (wrap64 (x17_2 + 1))) else (some (0, false))) else (some (0, false))) = some (r1, r2) := by rw [if_neg (show ¬ (false = true) by decide)] at H; exact H
               clear H
               have H := H1
               clear H1
               by_cases c15 : (bt a0 x17_2) ≥ 97
               ·rw [if_pos c15] at H
                have c15b0 : decide (97 ≤ (bt a0 x17_2)) = true := decide_eq_true c15
                clear c15
                by_cases c16 : (bt a0 x17_2) ≤ 102
                ·rw [if_pos c16] at H
                 have c16b0 : decide ((bt a0 x17_2) ≤ 102) = true := decide_eq_true c16
                 clear c16
                 have H' := Aside0.mk H
                 clear H
                 go_wp2
                 go_roundg kj11
                 case measure => have := HJ1.out; have := HK2.out; have := HJ8.out; have := HJ11.out; omega
                 case rel => exact ⟨(Go.bits .or .u64 (IntKind.u64.wrap (x4_2 * 16)) (((((bt a0 x17_2) - 97) % 256) + 10) % 256)), (wrap64 (x17_2 + 1)), xV, xV, H', ⟨by have := HJ1.out; have := HK2.out; have := HJ8.out; have := HJ11.out; omega⟩, xD⟩
                ·rw [if_neg c16] at H
                 have c16b0 : decide ((bt a0 x17_2) ≤ 102) = false := decide_eq_false c16
                 clear c16
                 simp only [Option.some.injEq, Prod.mk.injEq] at H
                 obtain ⟨rfl, rfl⟩ := H
                 go_wp2
                 go_ret2
                 exact ⟨by first | rfl | (simp; done) | (simp [*]; done), xD⟩
               ·rw [if_neg c15] at H
                have c15b0 : decide (97 ≤ (bt a0 x17_2)) = false := decide_eq_false c15
                clear c15
                simp only [Option.some.injEq, Prod.mk.injEq] at H
                obtain ⟨rfl, rfl⟩ := H
                go_wp2
                go_ret2
                exact ⟨by first | rfl | (simp; done) | (simp [*]; done), xD⟩
        ·rw [if_neg c7] at H
         exact absurd H (by simp)
       ·rw [if_neg c6] at H
        exact absurd H (by simp)
      ·rw [if_neg c5] at H
       have c5b0 : decide (x17_2 < (a0.size : Int)) = false := decide_eq_false c5
       clear c5
       simp only [Option.some.injEq, Prod.mk.injEq] at H
       obtain ⟨rfl, rfl⟩ := H
       go_wp2
       go_ret2
       exact ⟨by first | rfl | (simp; done) | (simp [*]; done), xD⟩
mutual
def addr_list.l0 : Nat → ByteArray → Bool → List Int → Bool → Option (List Int × Bool)
 | 0, _, _, _, _ => none
 | k + 1, x0, x1, x6, x7 => if x7 = true then ((strings_Cut.f x0 (⟨#[58]⟩ : ByteArray)).bind fun bt143 => (if x1 = true then (if bt143.2.2 = true then (addr_list.j1 k bt143.2.1 x1 x6 bt143.2.2 bt143.1 false) else ((strings_Contains.f bt143.1 (⟨#[46]⟩ : ByteArray)).bind fun t146 => (addr_list.j1 k bt143.2.1 x1 x6 bt143.2.2 bt143.1 t146))) else (addr_list.j1 k bt143.2.1 x1 x6 bt143.2.2 bt143.1 false))) else (some (x6, true))
def addr_list.j1 : Nat → ByteArray → Bool → List Int → Bool → ByteArray → Bool → Option (List Int × Bool)
 | 0, _, _, _, _, _, _ => none
 | k + 1, x0, x1, x6, x7, x8, x30 => if x30 = true then ((addr_quad.f k x8).bind fun bt147 => ((some (([bt147.1 / 65536, Go.bits .and .u64 bt147.1 65535] : List Int) : List Int)).bind fun y149 => (if x6.length + y149.length < 17592186044416 then (some ((x6 ++ y149), bt147.2)) else (none)))) else ((addr_group.f k x8).bind fun bt155 => (if bt155.2 = true then (if (x6.length : Int) = 8 then (some (([] : List Int), false)) else (if x6.length < 17592186044416 then (addr_list.l0 k x0 x1 (x6 ++ [bt155.1]) x7) else (none))) else (some (([] : List Int), false))))
end
def addr_list.f (k : Nat) (a0 : ByteArray) (a1 : Bool) : Option (List Int × Bool) := addr_list.l0 k a0 a1 ([] : List Int) (a0.toList != ([] : List UInt8))
theorem addr_list.mono_l : ∀ k, (∀ y0 y1 y2 y3, LeO (addr_list.l0 k y0 y1 y2 y3) (addr_list.l0 (k + 1) y0 y1 y2 y3)) ∧ (∀ y0 y1 y2 y3 y4 y5, LeO (addr_list.j1 k y0 y1 y2 y3 y4 y5) (addr_list.j1 (k + 1) y0 y1 y2 y3 y4 y5))
 | 0 => ⟨fun _ _ _ _ r h => by simp [addr_list.l0] at h, fun _ _ _ _ _ _ r h => by simp [addr_list.j1] at h⟩
 | k + 1 => by
  obtain ⟨ih0, ih1⟩ := addr_list.mono_l k
  refine ⟨?_, ?_⟩
  ·intro y0 y1 y2 y3
   unfold addr_list.l0
   have m0 := @addr_group.mono
   have m1 := @addr_quad.mono
   exact xO
  ·intro y0 y1 y2 y3 y4 y5
   unfold addr_list.j1
   have m0 := @addr_group.mono
   have m1 := @addr_quad.mono
   exact xO
theorem addr_list.mono : ∀ a0 a1 k, LeO (addr_list.f k a0 a1) (addr_list.f (k + 1) a0 a1) := by
 intro a0 a1 k
 obtain ⟨ih0, ih1⟩ := addr_list.mono_l k
 unfold addr_list.f
 have m0 := @addr_group.mono
 have m1 := @addr_quad.mono
 exact xO
set_option maxHeartbeats 8000000 in
set_option maxRecDepth 100000 in
theorem addr_list.calls (k : Nat) (a0 : ByteArray) (a1 : Bool) (r1 : List Int) (r2 : Bool) (w : World) (hML : MLOk w) (h : addr_list.f k a0 a1 = some (r1, r2)) :
  Calls Tryd.prog 103 #[.string a0, .bool a1] w fun e w' => ∃ v0_ : Value, e = .returned (.tuple #[v0_, .bool r2]) ∧ Kd.R (Kd.int .u64) 22 w' w.heap.size (fun _ => True) v0_ r1 ∧ Below w.heap.size w w' := by
 have HML := Aside0.mk hML
 clear hML
 have HB := Aside0.mk (Below.refl w.heap.size w)
 have H : (addr_list.l0 k a0 a1 ([] : List Int) (a0.toList != ([] : List UInt8))) = some (r1, r2) := h
 clear h
 have H' := Aside0.mk H
 clear H
 go_enter Tryd.func103, Tryd.ntmps103
 go_wp2
 go_loopg [0, 6, 7] k (fun kq v0 v6 v7 w' => ∃ (x0_1 : ByteArray) (x6_1 : List Int) (x7_1 : Bool), v0 = .string x0_1 ∧ v7 = .bool x7_1 ∧ Aside0 (addr_list.l0 kq x0_1 a1 x6_1 x7_1 = some (r1, r2)) ∧ Aside0 (kq ≤ k) ∧ Aside0 (Kd.R (Kd.int .u64) 22 w' w.heap.size (fun _ => True) v6 x6_1) ∧ Aside0 (Below w.heap.size w w'))
 case atStart => exact ⟨(a0), (([] : List Int)), ((a0.toList != ([] : List UInt8))), xV, xV, H', ⟨Nat.le_refl _⟩, ⟨by first | exact Kd.R_nil _ _ _ _ _ | exact Kd.N_nil _ _ _ _ _ | exact Kd.V_nil _ _ _ _ _ | exact Kd.Q_nil _ _ _ _ _ | exact Kd.S_nil _ _ _ _ _⟩, ⟨xB⟩⟩
 case round =>
  clear H'
  try clear c1
  try clear p2
  obtain ⟨x0_1, x6_1, x7_1, rfl, rfl, HA, HK1, HO_6, HB⟩ := hrel
  cases gk with
  | zero => exact absurd HA.out (by simp [addr_list.l0])
  | succ k1 =>
   have H := HA.out
   clear HA
   simp only [addr_list.l0] at H
   by_cases c3 : x7_1 = true
   ·subst c3
    have H1 : ((strings_Cut.f x0_1 (⟨#[58]⟩ : ByteArray)).bind fun bt143 => (if a1 = true then (if bt143.2.2 = true then (addr_list.j1 k1 bt143.2.1 a1 x6_1 bt143.2.2 bt143.1 false) else ((strings_Contains.f bt143.1 (⟨#[46]⟩ : ByteArray)).bind fun t146 => (addr_list.j1 k1 bt143.2.1 a1 x6_1 bt143.2.2 bt143.1 t146))) else (addr_list.j1 k1 bt143.2.1 a1 x6_1 bt143.2.2 bt143.1 false))) = some (r1, r2) := by rw [if_pos rfl] at H; exact H
    clear H
    have H := H1
    clear H1
    replace H := Option.bind_eq_some_iff.mp H
    obtain ⟨⟨t143, t144, t145⟩, A40, H⟩ := H
    replace H : (if a1 = true then (if t145 = true then (addr_list.j1 k1 t144 a1 x6_1 t145 t143 false) else ((strings_Contains.f t143 (⟨#[46]⟩ : ByteArray)).bind fun t146 => (addr_list.j1 k1 t144 a1 x6_1 t145 t143 t146))) else (addr_list.j1 k1 t144 a1 x6_1 t145 t143 false)) = some (r1, r2) := H
    have A4 := Aside0.mk A40
    clear A40
    have HC5 := Aside0.mk H
    clear H
    go_upto_region 6 with (first | ((with_reducible refine gate_callee (f := 59) rfl ?_); refine goesL_ (some 18) rfl rfl Tryd.func59 (by kernel_rfl) rfl #[.string x0_1, .string (⟨#[58]⟩ : ByteArray)] rfl xM ?_; (with_reducible refine (strings_Cut.calls x0_1 (⟨#[58]⟩ : ByteArray) t143 t144 t145 _ ?side1 A4.out).mono ?_); (case side1 => first | exact MLOk.below HML.out xB | (repeat (first | exact HML.out | (with_reducible refine MLOk.alloc ?_ _) | (with_reducible refine MLOk.drewN ?_ _) | (with_reducible refine MLOk.drew ?_)))); rintro e w' ⟨rfl, ⟨nd, rfl⟩⟩; refine ⟨_, rfl, ?_⟩))
    (try simp only [Act.put, List.setIfInBounds_toArray, List.set_cons_zero, List.set_cons_succ])
    go_cut [30] (fun v30 wc => ∃ (kq : Nat) (x30_4 : Bool), v30 = .bool x30_4 ∧ Aside0 (addr_list.j1 kq t144 a1 x6_1 t145 t143 x30_4 = some (r1, r2)) ∧ Aside0 (kq ≤ k1) ∧ Aside0 (Kd.R (Kd.int .u64) 22 wc w.heap.size (fun _ => True) u6 x6_1) ∧ Aside0 (Below w.heap.size w wc))
    case first =>
     have H := HC5.out
     clear HC5
     by_cases c6 : a1 = true
     ·subst c6
      have H1 : (if t145 = true then (addr_list.j1 k1 t144 true x6_1 t145 t143 false) else ((strings_Contains.f t143 (⟨#[46]⟩ : ByteArray)).bind fun t146 => (addr_list.j1 k1 t144 true x6_1 t145 t143 t146))) = some (r1, r2) := by rw [if_pos rfl] at H; exact H
      clear H
      have H := H1
      clear H1
      by_cases c7 : t145 = true
      ·subst c7
       have H1 : (addr_list.j1 k1 t144 true x6_1 true t143 false) = some (r1, r2) := by rw [if_pos rfl] at H; exact H
       clear H
       have H := H1
       clear H1
       have H' := Aside0.mk H
       clear H
       go_wp2
       go_meet
       case rel => exact ⟨_, (false), xV, H', ⟨by have := HK1.out; first | omega | exact Nat.le_refl _⟩, ⟨xR HO_6.out⟩, ⟨xB⟩⟩
      ·replace c7 := Bool.eq_false_iff.mpr c7
       subst c7
       have H1 : ((strings_Contains.f t143 (⟨#[46]⟩ : ByteArray)).bind fun t146 => (addr_list.j1 k1 t144 true x6_1 false t143 t146)) = some (r1, r2) := by rw [if_neg (show ¬ (false = true) by decide)] at H; exact H
       clear H
       have H := H1
       clear H1
       replace H := Option.bind_eq_some_iff.mp H
       obtain ⟨t146, A80, H⟩ := H
       replace H : (addr_list.j1 k1 t144 true x6_1 false t143 t146) = some (r1, r2) := H
       have A8 := Aside0.mk A80
       clear A80
       have H' := Aside0.mk H
       clear H
       go_wp2_with (first | (go_at_call 122; (with_reducible refine (strings_Contains.calls t143 (⟨#[46]⟩ : ByteArray) t146 _ ?side1 A8.out).mono ?_); (case side1 => first | exact MLOk.below HML.out xB | (repeat (first | exact HML.out | (with_reducible refine MLOk.alloc ?_ _) | (with_reducible refine MLOk.drewN ?_ _) | (with_reducible refine MLOk.drew ?_)))); rintro e w' ⟨rfl, ⟨nd, rfl⟩⟩))
       go_meet
       case rel => exact ⟨_, (t146), xV, H', ⟨by have := HK1.out; first | omega | exact Nat.le_refl _⟩, ⟨xR HO_6.out⟩, ⟨xB⟩⟩
     ·replace c6 := Bool.eq_false_iff.mpr c6
      subst c6
      have H1 : (addr_list.j1 k1 t144 false x6_1 t145 t143 false) = some (r1, r2) := by rw [if_neg (show ¬ (false = true) by decide)] at H; exact H
      clear H
      have H := H1
      clear H1
      have H' := Aside0.mk H
      clear H
      go_wp2
      go_meet
      case rel => exact ⟨_, (false), xV, H', ⟨by have := HK1.out; first | omega | exact Nat.le_refl _⟩, ⟨xR HO_6.out⟩, ⟨xB⟩⟩
    case rest =>
     clear HC5
     try clear c1
     try clear p2
     try clear c3
     try clear c5
     try clear c6
     try clear c7
     try clear p2
     obtain ⟨kq, x30_4, rfl, HA, HJ4, HO_6, HB⟩ := hcut
     cases kq with
     | zero => exact absurd HA.out (by simp [addr_list.j1])
     | succ kj4 =>
      have H := HA.out
      clear HA
      simp only [addr_list.j1] at H
      by_cases c9 : x30_4 = true
      ·subst c9
       have H1 : ((addr_quad.f kj4 t143).bind fun bt147 => ((some (([bt147.1 / 65536, Go.bits .and .u64 bt147.1 65535] : List Int) : List Int)).bind fun y149 => (if x6_1.length + y149.length < 17592186044416 then (some ((x6_1 ++ y149), bt147.2)) else (none)))) = some (r1, r2) := by rw [if_pos rfl] at H; exact H
       clear H
       have H := H1
       clear H1
       replace H := Option.bind_eq_some_iff.mp H
       obtain ⟨⟨t147, t148⟩, A100, H⟩ := H
       replace H : ((some (([t147 / 65536, Go.bits .and .u64 t147 65535] : List Int) : List Int)).bind fun y149 => (if x6_1.length + y149.length < 17592186044416 then (some ((x6_1 ++ y149), t148)) else (none))) = some (r1, r2) := H
       have A10 := Aside0.mk A100
       clear A100
       obtain ⟨y149, hy149⟩ : ∃ y_ : List Int, y_ = (([t147 / 65536, Go.bits .and .u64 t147 65535] : List Int)) := ⟨_, rfl⟩
       replace H : (if x6_1.length + y149.length < 17592186044416 then (some ((x6_1 ++ y149), t148)) else (none)) = some (r1, r2) := by first | (rw [hy149]; with_reducible exact H) | (have H2_ := (Option.bind_some _ _).symm.trans H; rw [hy149]; with_reducible exact H2_) | (have H2_ := (Option.bind_some _ _).symm.trans H; with_reducible exact H2_) | with_reducible exact H | (rw [hy149]; exact H) | exact H
       have Ny149 := Aside0.mk hy149
       clear hy149
       by_cases c11 : x6_1.length + y149.length < 17592186044416
       ·rw [if_pos c11] at H
        have LMc11 := Aside0.mk c11
        clear c11
        obtain ⟨y152, hy152⟩ : ∃ y_ : List Int, y_ = (x6_1 ++ y149) := ⟨_, rfl⟩
        replace H : (some (y152, t148)) = some (r1, r2) := by first | (rw [hy152]; with_reducible exact H) | (have H2_ := (Option.bind_some _ _).symm.trans H; rw [hy152]; with_reducible exact H2_) | (have H2_ := (Option.bind_some _ _).symm.trans H; with_reducible exact H2_) | with_reducible exact H | (rw [hy152]; exact H) | exact H
        have Ny152 := Aside0.mk hy152
        clear hy152
        simp only [Option.some.injEq, Prod.mk.injEq] at H
        obtain ⟨rfl, rfl⟩ := H
        go_wp2_with (first | ((with_reducible refine gate_callee (f := 87) rfl ?_); refine goesL_ (some 33) rfl rfl Tryd.func87 (by kernel_rfl) rfl #[.string t143] rfl xM ?_; (with_reducible refine (addr_quad.calls kj4 t143 t147 t148 _ A10.out).mono ?_); rintro e w' ⟨rfl, ⟨nd, rfl⟩⟩; refine ⟨_, rfl, ?_⟩) | ((with_reducible refine gate_dst (N := 41) rfl ?_); (try (refine gate_guard (by rfl) ?_; dsimp only)); refine Kd.R_lit (Kd.int .u64) _ 22 ?hg (N := 41) ?hd (xs := ([t147 / 65536, Go.bits .and .u64 t147 65535] : List Int)) (inner := [.int .u64 (t147 / 65536), .int .u64 (Go.bits .and .u64 t147 65535)]) (ok := fun _ => True) (okp := fun _ => True) ?hr ?hp (fun _ hk => hk) trivial (Below.refl _ _) (Nat.le_refl _) (by simp) ?_; (case hd => rfl); (case hg => rfl); (case hr => first | (go_simp; done) | (go_simp; rfl)); (case hp => exact (Reps.one (show Kd.M (Kd.int .u64) _ _ _ (t147 / 65536) [.int .u64 (t147 / 65536)] from rfl) (Reps.one (show Kd.M (Kd.int .u64) _ _ _ (Go.bits .and .u64 t147 65535) [.int .u64 (Go.bits .and .u64 t147 65535)] from rfl) (Reps.none _ _)))); intro v150 w12 ho13 hb hg_ hnew_; clear hg_ hnew_; (first | rw [← Ny149.out] at ho13 | (simp only [Int.reduceToNat] at ho13; rw [← Ny149.out] at ho13)); have n0_ := Aside0.mk (Kd.R_elder' (xR HO_6.out) (Kd.R_base ho13) hb); have n1_ := Aside0.mk (Kd.R_lower (Kd.R_new' ho13 (Kd.R_lt (xR HO_6.out))) (below_size xB)); have n2_ := Aside0.mk (below_step xB hb); clear HO_6; clear HB; have HO_6 := n0_; have HO151 := n1_; have HB := n2_; clear n0_ n1_ n2_; clear hb ho13; obtain ⟨Ao15, co15, eo15⟩ := Kd.R_slice HO151.out; subst eo15) | ((with_reducible refine gate_builtin (b := .append) (xs := #[.tmp 36, .tmp 41]) rfl ?_); (try (refine gate_guard (by rfl) ?_; dsimp only)); at_builtin; refine Kd.R_append_rows (Kd.int .u64) (w0 := w) w.heap.size rfl (.tmp 36) (.tmp 41) 114 22 (.int .u64 0) 8 rfl Tryd.underlying114 info22 rfl (by decide) (by omega) u6 x6_1 y149 _ _ _ (fun k_ => some k_ ≠ (.slice Ao15 y149.length co15 : Value).ownBlock) (fun _ => False) rfl rfl ?aO ?aR (fun _ _ h => h) (fun _ h => h.elim) ?aF ?aB ?aS ?aL ?_; (case aR => repeat (first | exact (Kd.R_reads' HO151.out).2.2 | (with_reducible refine Kd.C_alloc ?_ _) | (with_reducible refine Kd.C_drewN ?_ _) | (with_reducible refine Kd.C_drew ?_))); (case aB => exact xB); (case aF => exact (fun k_ hk => Kd.fresh' (Kd.R_lt (xR HO151.out)) k_ hk)); (case aO => exact (by (with_reducible repeat (first | apply Kd.R_alloc | apply Kd.R_drewN | apply Kd.R_drew)); exact Kd.R_mono HO_6.out (fun _ hk => hk.2))); (case aS => exact (below_size xB)); (case aL => have := LMc11.out; omega); intro v153 w14 ho hb hg hat; rw [← Ny152.out] at ho; have n0_ := Aside0.mk (Kd.R_after (ok := (fun _ => True)) (xR HO151.out) hg hat); have n1_ := Aside0.mk (hb); have n2_ := Aside0.mk (ho); clear HO151; clear HB; clear HO_6; have HO151 := n0_; have HB := n1_; have HO154 := n2_; clear n0_ n1_ n2_; clear ho hb hg hat))
        go_ret2
        exact ⟨_, xE, by (with_reducible repeat (first | apply Kd.R_alloc | apply Kd.R_drewN | apply Kd.R_drew)); exact Kd.R_mono HO154.out (fun _ hk => trivial), xB⟩
       ·rw [if_neg c11] at H
        exact absurd H (by simp)
      ·replace c9 := Bool.eq_false_iff.mpr c9
       subst c9
       have H1 : ((addr_group.f kj4 t143).bind fun bt155 => (if bt155.2 = true then (if (x6_1.length : Int) = 8 then (some (([] : List Int), false)) else (if x6_1.length < 17592186044416 then (addr_list.l0 kj4 t144 a1 (x6_1 ++ [bt155.1]) t145) else (none))) else (some (([] : List Int), false)))) = some (r1, r2) := by rw [if_neg (show ¬ (false = true) by decide)] at H; exact H
       clear H
       have H := H1
       clear H1
       replace H := Option.bind_eq_some_iff.mp H
       obtain ⟨⟨t155, t156⟩, A160, H⟩ := H
       replace H : (if t156 = true then (if (x6_1.length : Int) = 8 then (some (([] : List Int), false)) else (if x6_1.length < 17592186044416 then (addr_list.l0 kj4 t144 a1 (x6_1 ++ [t155]) t145) else (none))) else (some (([] : List Int), false))) = some (r1, r2) := H
       have A16 := Aside0.mk A160
       clear A160
       by_cases c17 : t156 = true
       ·subst c17
        have H1 : (if (x6_1.length : Int) = 8 then (some (([] : List Int), false)) else (if x6_1.length < 17592186044416 then (addr_list.l0 kj4 t144 a1 (x6_1 ++ [t155]) t145) else (none))) = some (r1, r2) := by rw [if_pos rfl] at H; exact H
        clear H
        have H := H1
        clear H1
        by_cases c18 : (x6_1.length : Int) = 8
        ·rw [if_pos c18] at H
         have c18b0 : ((x6_1.length : Int) == 8) = true := beq_iff_eq.mpr c18
         have c18b1 : ((x6_1.length : Int) != 8) = false := bne_eq_false_iff_eq.mpr c18
         clear c18
         simp only [Option.some.injEq, Prod.mk.injEq] at H
         obtain ⟨rfl, rfl⟩ := H
         go_wp2_with (first | ((with_reducible refine gate_callee (f := 123) rfl ?_); refine goesL_ (some 46) rfl rfl Tryd.func123 (by kernel_rfl) rfl #[.string t143] rfl xM ?_; (with_reducible refine (addr_group.calls kj4 t143 t155 true _ A16.out).mono ?_); rintro e w' ⟨rfl, ⟨nd, rfl⟩⟩; refine ⟨_, rfl, ?_⟩; obtain ⟨Ao19, co19, eo19⟩ := Kd.R_slice HO_6.out; subst eo19))
         go_ret2
         exact ⟨_, xE, by first | exact Kd.R_nil _ _ _ _ _ | exact Kd.N_nil _ _ _ _ _ | exact Kd.V_nil _ _ _ _ _ | exact Kd.Q_nil _ _ _ _ _ | exact Kd.S_nil _ _ _ _ _, xB⟩
        ·rw [if_neg c18] at H
         have c18b0 : ((x6_1.length : Int) == 8) = false := beq_eq_false_iff_ne.mpr c18
         have c18b1 : ((x6_1.length : Int) != 8) = true := bne_iff_ne.mpr c18
         by_cases c20 : x6_1.length < 17592186044416
         ·rw [if_pos c20] at H
          have LMc20 := Aside0.mk c20
          clear c20
          obtain ⟨y157, hy157⟩ : ∃ y_ : List Int, y_ = (x6_1 ++ [t155]) := ⟨_, rfl⟩
          replace H : (addr_list.l0 kj4 t144 a1 y157 t145) = some (r1, r2) := by first | (rw [hy157]; with_reducible exact H) | (have H2_ := (Option.bind_some _ _).symm.trans H; rw [hy157]; with_reducible exact H2_) | (have H2_ := (Option.bind_some _ _).symm.trans H; with_reducible exact H2_) | with_reducible exact H | (rw [hy157]; exact H) | exact H
          have Ny157 := Aside0.mk hy157
          clear hy157
          have H' := Aside0.mk H
          clear H
          go_wp2_with (first | ((with_reducible refine gate_callee (f := 123) rfl ?_); refine goesL_ (some 46) rfl rfl Tryd.func123 (by kernel_rfl) rfl #[.string t143] rfl xM ?_; (with_reducible refine (addr_group.calls kj4 t143 t155 true _ A16.out).mono ?_); rintro e w' ⟨rfl, ⟨nd, rfl⟩⟩; refine ⟨_, rfl, ?_⟩; obtain ⟨Ao21, co21, eo21⟩ := Kd.R_slice HO_6.out; subst eo21) | ((with_reducible refine gate_builtin (b := .append) (xs := #[.tmp 56, .tmp 58]) rfl ?_); (try (refine gate_guard (by rfl) ?_; dsimp only)); at_builtin; refine Kd.R_append (Kd.int .u64) (w0 := w) w.heap.size rfl (.tmp 56) (.tmp 58) 114 22 (.int .u64 0) 8 rfl Tryd.underlying114 info22 rfl (by decide) (by omega) (.slice Ao21 x6_1.length co21) x6_1 t155 [.int .u64 t155] (fun _ => True) (fun _ => False) rfl rfl ?aP (fun _ hk => hk.elim) ?aF ?aO ?aB ?aS ?aL ?_; (case aP => exact rfl); (case aB => exact xB); (case aF => exact (fun _ _ => trivial)); (case aO => exact (xR HO_6.out)); (case aS => exact (below_size xB)); (case aL => have := LMc20.out; omega); intro v158 w22 ho hb hg hat; rw [← Ny157.out] at ho; have n0_ := Aside0.mk (hb); have n1_ := Aside0.mk (ho); clear HB; clear HO_6; have HB := n0_; have HO159 := n1_; clear n0_ n1_; clear ho hb hg hat))
          go_roundg kj4
          case measure => have := HK1.out; have := HJ4.out; omega
          case rel => exact ⟨(t144), (y157), (t145), xV, xV, H', ⟨by have := HK1.out; have := HJ4.out; omega⟩, ⟨xR HO159.out⟩, ⟨xB⟩⟩
         ·rw [if_neg c20] at H
          exact absurd H (by simp)
       ·replace c17 := Bool.eq_false_iff.mpr c17
        subst c17
        have H1 : (some (([] : List Int), false)) = some (r1, r2) := by rw [if_neg (show ¬ (false = true) by decide)] at H; exact H
        clear H
        have H := H1
        clear H1
        simp only [Option.some.injEq, Prod.mk.injEq] at H
        obtain ⟨rfl, rfl⟩ := H
        go_wp2_with (first | ((with_reducible refine gate_callee (f := 123) rfl ?_); refine goesL_ (some 46) rfl rfl Tryd.func123 (by kernel_rfl) rfl #[.string t143] rfl xM ?_; (with_reducible refine (addr_group.calls kj4 t143 t155 false _ A16.out).mono ?_); rintro e w' ⟨rfl, ⟨nd, rfl⟩⟩; refine ⟨_, rfl, ?_⟩))
        go_ret2
        exact ⟨_, xE, by first | exact Kd.R_nil _ _ _ _ _ | exact Kd.N_nil _ _ _ _ _ | exact Kd.V_nil _ _ _ _ _ | exact Kd.Q_nil _ _ _ _ _ | exact Kd.S_nil _ _ _ _ _, xB⟩
   ·replace c3 := Bool.eq_false_iff.mpr c3
    subst c3
    have H1 : (some (x6_1, true)) = some (r1, r2) := by rw [if_neg (show ¬ (false = true) by decide)] at H; exact H
    clear H
    have H := H1
    clear H1
    simp only [Option.some.injEq, Prod.mk.injEq] at H
    obtain ⟨rfl, rfl⟩ := H
    go_wp2
    go_ret2
    exact ⟨_, xE, xR HO_6.out, xB⟩
end Go.Proofs.YtdjhmapmhajkcaaDoor.X
