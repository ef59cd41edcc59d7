/- '[]byte(s)': a row of bytes of the call's own; one place behind its last cell is frozen, none of its cells is. -/
import Derived.Test.YtamiaaeaehdahaaWWords
import Derived.Laws.IdiomStrings
namespace Go.Proofs.YtamiaaeaehdahaaW.PrintWords
open Go Go.RowKit
/-- a row as '[]byte(s)' lays it -/
def FRow (e : Nat) (w : World) (base : Nat) (v : Value) (xs : List Int) : Prop :=
  ∃ g cap cur fz, v = .slice (some ⟨g, 0, none⟩) xs.length cap ∧ base ≤ g ∧ w.heap[g]? = some (.cells cur e fz) ∧ xs.length ≤ cur.size ∧ cur.size ≤ fz.1 ∧ cur.toList.take xs.length = nums .u8 xs
namespace Kd
def F (_ : Kd Int) (e : Nat) (w : World) (base : Nat) (ok : Nat → Prop) (v : Value) (xs : List Int) : Prop := (∀ k, v.ownBlock = some k → ok k) ∧ FRow e w base v xs
section
variable {e : Nat} {w w1 : World} {base : Nat} {ok : Nat → Prop} {v : Value} {xs : List Int}
theorem F_below (h : (int .u8).F e w base ok v xs) (hb : Below w.heap.size w w1) : (int .u8).F e w1 base ok v xs := by
  obtain ⟨h0, g, cap, cur, fz, he, hg, hh, r⟩ := h
  exact ⟨h0, g, cap, cur, fz, he, hg, (hb.block g (Array.getElem?_eq_some_iff.1 hh).1).trans hh, r⟩
theorem F_alloc (h : (int .u8).F e w base ok v xs) (o : Obj) : (int .u8).F e (w.alloc o) base ok v xs := F_below h (below_alloc (Below.refl _ _) o)
theorem F_drew (h : (int .u8).F e w base ok v xs) : (int .u8).F e w.drew base ok v xs := F_below h (below_drew (Below.refl _ _))
theorem F_drewN (h : (int .u8).F e w base ok v xs) (m : Nat) : (int .u8).F e (w.drewN m) base ok v xs := F_below h (pw_below_drewN (Below.refl _ _) m)
theorem F_lower {base' : Nat} (h : (int .u8).F e w base ok v xs) (hb : base' ≤ base) : (int .u8).F e w base' ok v xs := by
  obtain ⟨h0, g, cap, cur, fz, he, hg, r⟩ := h
  exact ⟨h0, g, cap, cur, fz, he, Nat.le_trans hb hg, r⟩
theorem F_slice (h : (int .u8).F e w base ok v xs) : ∃ A c, v = .slice A xs.length c := by
  obtain ⟨_, g, cap, cur, fz, he, _⟩ := h
  exact ⟨_, cap, he⟩
theorem F_form (h : (int .u8).F e w base ok v xs) (_hp : 0 < xs.length) : ∃ g cap, v = .slice (some ⟨g, 0, none⟩) xs.length cap ∧ base ≤ g ∧ g < w.heap.size ∧ ∃ cells, ∃ fz, w.heap[g]? = some (.cells cells e fz) := by
  obtain ⟨_, g, cap, cur, fz, he, hg, hh, _⟩ := h
  exact ⟨g, cap, he, hg, (Array.getElem?_eq_some_iff.1 hh).1, cur, fz, hh⟩
theorem F_ne (h : (int .u8).F e w base ok v xs) {g t : Nat} {cells : Array Value} (hb : w.heap[g]? = some (.cells cells t (0, 0))) (ht : e ≠ t) : some g ≠ v.ownBlock := by
  obtain ⟨_, g', cap, cur, fz, rfl, _, hh, _⟩ := h
  intro hg
  have : g = g' := by simpa [Value.ownBlock] using hg
  subst this
  rw [hb] at hh
  injection hh with hh
  injection hh with _ h2
  exact ht h2.symm
theorem F_cell {g cap : Nat} (h : (int .u8).F e w base ok (.slice (some ⟨g, 0, none⟩) xs.length cap) xs) (i : Int) (h0 : 0 ≤ i) (hi : i < xs.length) : w.cell? ⟨g, i.toNat, none⟩ = some (.int .u8 (rdOf 0 xs i)) ∧ w.frozen? ⟨g, i.toNat, none⟩ = false := by
  obtain ⟨_, g', cap', cur, fz, he, _, hh, hl, hf, ht⟩ := h
  have : g = g' := by injection he with h; injection h with h; injection h with h
  subst this
  have hlt : i.toNat < xs.length := by omega
  refine ⟨?_, ?_⟩
  · rw [cell_of_row w g i.toNat cur e fz hh]
    have h1 : (cur.toList.take xs.length)[i.toNat]? = (nums .u8 xs)[i.toNat]? := by rw [ht]
    rw [List.getElem?_take, if_pos hlt] at h1
    have h2 : (nums .u8 xs)[i.toNat]? = some (.int .u8 (rdOf 0 xs i)) := by simp [nums, rdOf, List.getElem?_eq_getElem hlt, List.getD_eq_getElem?_getD]
    rw [h2] at h1
    simpa using h1
  · simp [World.frozen?, hh]
    omega
theorem F_celln {g n cap : Nat} (_d : Int) (h : (int .u8).F e w base ok (.slice (some ⟨g, 0, none⟩) n cap) xs) (i : Int) (h0 : 0 ≤ i) (hi : i < n) : w.cell? ⟨g, i.toNat, none⟩ = some (.int .u8 (rdOf 0 xs i)) ∧ w.frozen? ⟨g, i.toNat, none⟩ = false := by
  have hn : n = xs.length := by
    obtain ⟨A, c, he⟩ := F_slice h
    injection he
  subst hn
  exact F_cell h i h0 hi
theorem F_at {A : Option Addr} {n c : Nat} (h : (int .u8).F e w base ok (.slice A n c) xs) (i : Int) (h0 : 0 ≤ i) (hi : i < xs.length) : ∃ ad, A = some ad ∧ w.cell? (ad.add i.toNat) = some (.int .u8 (rd xs i)) := by
  obtain ⟨g, cap, he, _⟩ := F_form h (by omega)
  have hA : A = some ⟨g, 0, none⟩ := by injection he
  subst hA
  refine ⟨_, rfl, ?_⟩
  rw [add_plain]
  exact (F_celln 0 h i h0 (by injection he with _ h2; omega)).1
theorem F_putg {g n cap : Nat} (h : (int .u8).F e w base ok (.slice (some ⟨g, 0, none⟩) n cap) xs) (i : Int) (x : Int) : (int .u8).F e (w.setCell ⟨g, i.toNat, none⟩ (.int .u8 x)) base ok (.slice (some ⟨g, 0, none⟩) n cap) (xs.set i.toNat x) ∧ w.grownBy (w.setCell ⟨g, i.toNat, none⟩ (.int .u8 x)) (some g) := by
  obtain ⟨h0, g', cap', cur, fz, he, hb, hh, hl, hf, ht⟩ := h
  have : g = g' := by injection he with h; injection h with h; injection h with h
  subst this
  injection he with _ hn hc
  subst hn; subst hc
  refine ⟨⟨h0, g, cap, cur.setIfInBounds i.toNat (.int .u8 x), fz, by rw [List.length_set], hb, (by rw [setCell_eq_setRow w g i.toNat cur e fz (.int .u8 x) hh]; exact setRow_heap w g cur _ e fz hh), by rw [List.length_set]; simpa using hl, by simpa using hf, ?_⟩, ⟨rfl, rfl, rfl, by simp, fun k _ hk => heap_setCell_other w ⟨g, i.toNat, none⟩ k (.int .u8 x) (fun e => hk (by simp [e]))⟩⟩
  rw [List.length_set, Array.toList_setIfInBounds, List.take_set, ht]
  simp [nums, List.map_set]
end
theorem string_F {P : Program} {w : World} {base e' src dst e : Nat} {ok : Nat → Prop} {v : Value} {xs : List Int} (hs : P.underlying src = some (.slice e)) (he : P.underlying e = some (.int .u8)) (hd : P.underlying dst = some .string)
    (h : (int .u8).F e' w base ok v xs) : (convert src dst v).run P w = .ok (.string (strOfNums xs)) w := by
  obtain ⟨g, cap, rfl, _⟩ : ∃ g cap, v = .slice (some ⟨g, 0, none⟩) xs.length cap ∧ True := by
    obtain ⟨_, g, cap, cur, fz, h, _⟩ := h
    exact ⟨g, cap, h, trivial⟩
  refine run_convert_bytes_arg w src e hs he g 0 xs.length cap xs rfl (fun i hi => ?_) dst hd
  have hc := (F_cell h (i : Int) (by omega) (by omega)).1
  rw [Int.toNat_natCast] at hc
  rw [Nat.zero_add, hc]
  simp [rdOf]
/-- what 'string(b)' gives in a world -/
def ConvS (P : Program) (src dst : Nat) (v : Value) (s : ByteArray) : World → Prop := fun w' => (convert src dst v).run P w' = .ok (.string s) w'
theorem ConvS.run {P : Program} {src dst : Nat} {v : Value} {s : ByteArray} {w' : World} (h : ConvS P src dst v s w') : (convert src dst v).run P w' = .ok (.string s) w' := h
section
variable {P : Program} {ops : Array Oper} {rest : List Oper} {o : Oper} {a : Act} {Q : Exit → Act → World → Prop}
theorem F_bytes (_d : Kd Int) {w0 W : World} (base e : Nat) (hgd : o.guard = none) {N : Tmp} (_hd : o.dst = some N) (src dst : TypeId) (x : Operand) (ho : o.op = .convert src dst x) (y : ByteArray) (hx : a.eval x = .string y)
    (hs : P.underlying src = some .string) (ht : P.underlying dst = some (.slice e)) (he : P.underlying e = some (.int .u8)) (HB : Below base w0 W) (hbase : base ≤ W.heap.size)
    (h : ∀ v1 w1, (int .u8).F e w1 base (fun _ => True) v1 (bytesOf y) → Below base w0 w1 → W.grownBy w1 none → (∃ b, v1.ownBlock = some b ∧ W.heap.size ≤ b) → wpList P ops Q rest (a.put o.dst v1) w1) : wpList P ops Q (o :: rest) a W := by
  have hr := run_bytes_of_string W src dst e y hs ht he
  have hlen : (bytesOf y).length = y.size := bytesOf_length y
  have hge : y.size ≤ grownCap W y.size 0 e := grownCap_ge W y.size 0 e
  refine event_run hgd (v := .slice (some ⟨W.heap.size, 0, none⟩) y.size (grownCap W y.size 0 e)) (w1 := W.drew.alloc (.cells (bytesRow y (grownCap W y.size 0 e)) e ((bytesRow y (grownCap W y.size 0 e)).size, (bytesRow y (grownCap W y.size 0 e)).size + 1))) ?_ (h _ _ ⟨fun _ _ => trivial, W.heap.size, _, bytesRow y (grownCap W y.size 0 e), ((bytesRow y (grownCap W y.size 0 e)).size, (bytesRow y (grownCap W y.size 0 e)).size + 1), by rw [hlen], hbase, ?_, ?_, Nat.le_refl _, ?_⟩ ((below_drew1 HB).alloc hbase _) ?_ ⟨W.heap.size, by simp [Value.ownBlock], Nat.le_refl _⟩)
  · simp [execOp, ho, hx, hr]
  · show (W.heap.push _)[W.heap.size]? = _
    simp
  · rw [hlen]; unfold bytesRow; simp
  · rw [hlen]
    unfold bytesRow
    simp [nums, bytesOf]
  · exact ⟨rfl, rfl, rfl, by show W.heap.size ≤ (W.heap.push _).size; simp, fun k hk _ => by
      show (W.heap.push _)[k]? = W.heap[k]?
      rw [Array.getElem?_push, if_neg (by omega)]⟩
end
end Kd
end Go.Proofs.YtamiaaeaehdahaaW.PrintWords
