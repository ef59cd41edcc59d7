/- Of an address's text, a byte turned, cut off, or some laid in: the program's reader and the document's tell the same (of any text). -/
import Derived.Test.YtamiaaeaehdahaaZTPureAddrReads
import Derived.Test.YtamiaaeaehdahaaZTRt
import Derived.Test.YtamiaaeaehdahaaZTLd
import Derived.Test.YtamiaaeaehdahaaZTX13
namespace Go.Proofs.Ytamiaaeaehdahaa.Pure
open Go.RowKit Go.Proofs.Ytamiaaeaehdahaa.X Go.Proofs.YtamiaaeaehdahaaW.PrintWords Go.Proofs.Ytamiaaeaehdahaa.Th
set_option linter.unusedVariables false
set_option linter.unusedSimpArgs false
theorem nums_size (xs : List Int) : (strOfNums xs).size = xs.length := by
  show (xs.map fun n => UInt8.ofNat n.toNat).toArray.size = xs.length
  simp
theorem cut_size (s : ByteArray) (a b : Nat) : (s.extract a b).size ≤ s.size := by
  rw [ByteArray.size_extract]; omega
theorem turns_j0 (f a2 a3 a4 : Int) (m s : ByteArray) (hm : m.size ≤ 40) (h0 : 0 < s.size) (hs : s.size ≤ 200) : Ev (fun k => turnpikelaw2_AddrTurns.j0 k f a2 a3 a4 m s) true := by
  obtain ⟨i, hi, e1⟩ := lwithin a2 (s.size : Int) (by omega) (by omega)
  obtain ⟨j, hj, e2⟩ := lwithin a4 ((s.size : Int) + 1) (by omega) (by omega)
  have ew : wrap64 ((s.size : Int) + 1) = (s.size : Int) + 1 := w64 (by omega) (by omega)
  have hb : (bytesOf s).length = s.size := bytesOf_length s
  have c1 := cut_size s 0 i
  have c2 := cut_size s i s.size
  have c3 := cut_size s 0 j
  refine Ev.step (fun k => turnpikelaw2_AddrTurns.j0.eq_2 _ _ _ _ _ _ _) ?_
  simp only [e1, Option.bind_some, if_pos (show (0 : Int) ≤ (i : Int) by omega), hb, if_pos (show (i : Int) < (s.size : Int) by omega)]
  refine Ev.bind (reads f _ (by rw [nums_size, List.length_set, hb]; omega)) ?_
  simp only [if_true, ew, e2, Option.bind_some, if_pos (show (0 : Int) ≤ (j : Int) by omega), if_pos (show (j : Int) ≤ (s.size : Int) by omega), Int.toNat_natCast]
  refine Ev.bind (reads f _ (by omega)) ?_
  have l1 : (s.extract 0 i).size + m.size ≤ 9223372036854775807 := by omega
  have l2 : (s.extract 0 i ++ m).size + (s.extract i s.size).size ≤ 9223372036854775807 := by rw [ByteArray.size_append]; omega
  simp only [if_true, if_pos (show (i : Int) ≤ (s.size : Int) by omega), if_pos l1, if_pos l2]
  refine Ev.bind (reads f _ (by rw [ByteArray.size_append, ByteArray.size_append]; omega)) ?_
  exact Ev.now _
theorem AddrTurns : turnpikelaw2_AddrTurns.Pure := by
  intro f u v a2 a3 a4 m _ hu hv _ _ _ _
  obtain ⟨w, hw, rfl, rfl⟩ := as_word hu hv
  refine Ev.rounds ?_
  unfold turnpikelaw2_AddrTurns.f
  refine Ev.bind known_f ?_
  simp only [if_true]
  refine Ev.bind (rtext f w hw) ?_
  by_cases h : rightV f w = 0
  · simp only [if_pos h]
    obtain ⟨h1, h2⟩ := textV_fine f w hw
    have h0 : 0 < (OfBy (textV f w)).size := by rw [ofBy_size]; exact List.length_pos_iff.2 h1
    have hs : (OfBy (textV f w)).size ≤ 200 := by rw [ofBy_size]; exact h2
    simp only [if_true]
    by_cases hm : m.size ≤ 40
    · simp only [if_neg (show ¬ (m.size : Int) > 40 by omega)]
      exact turns_j0 f a2 a3 a4 m _ hm h0 hs
    · simp only [if_pos (show (m.size : Int) > 40 by omega), if_pos (show (0 : Int) ≤ 40 by decide), if_pos (show (40 : Int) ≤ (m.size : Int) by omega)]
      exact turns_j0 f a2 a3 a4 _ _ (by rw [ByteArray.size_extract]; omega) h0 hs
  · simp only [if_neg h]; exact Ev.now _
end Go.Proofs.Ytamiaaeaehdahaa.Pure
