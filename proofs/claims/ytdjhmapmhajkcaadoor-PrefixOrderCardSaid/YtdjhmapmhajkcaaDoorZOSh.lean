/- Short words for the printed walks: each is a theorem whose last part is filled by its own small proof. -/
import Derived.Test.YtdjhmapmhajkcaaDoorZOX0
namespace Go.Proofs.YtdjhmapmhajkcaaDoor.Sh
open Go Go.RowKit Go.Proofs.YtdjhmapmhajkcaaDoorW.PrintWords Go.Proofs.YtdjhmapmhajkcaaDoorW.PrintLast Go.Proofs.YtdjhmapmhajkcaaDoor.Sm Go.Proofs.YtdjhmapmhajkcaaDoor.X
set_option linter.unusedVariables false
theorem xB {q : Prop} (s : q := by repeat (first | (with_reducible first | exact HB.out | apply below_alloc | apply pw_below_drewN | apply below_drew1) | exact HB.out)) : q := s
theorem xG {q : Prop} (s : q := by repeat (first | (with_reducible first | exact HB.out | apply below_alloc | apply pw_below_drewN | apply below_drew1 | refine below_set ?_ (Aside0.out (by with_reducible assumption))) | exact HB.out)) : q := s
theorem xK {p q : Prop} (h : p) (s : Aside0 p → q := by intro h_; (with_reducible repeat (first | refine blk_drewN ?_ _ | refine blk_drew ?_ | refine blk_alloc ?_ _)); exact h_.out) : q := s ⟨h⟩
theorem xR {p q : Prop} (h : p) (s : Aside0 p → q := by intro h_; (with_reducible repeat (first | apply Kd.R_alloc | apply Kd.R_drewN | apply Kd.R_drew)); exact h_.out) : q := s ⟨h⟩
theorem xM {q : Prop} (s : q := by (try simp only [List.map_toArray, List.map_cons, List.map_nil]); first | done | rfl | (simp only [List.length_drop, List.length_take]; rfl)) : q := s
theorem xV {q : Prop} (s : q := by first | rfl | (simp; done) | (simp [*]; done) | exact congrArg Value.bool (isEmpty_bne _)) : q := s
theorem xE {q : Prop} (s : q := by first | rfl | (simp [errW_none, errW_some] <;> rfl) | (simp [*, errW_none, errW_some] <;> rfl)) : q := s
theorem xA {q : Prop} (s : q := by first | (with_reducible assumption) | assumption) : q := s
theorem xD {q : Prop} (s : q := by repeat (first | exact Drawn0.refl _ | apply Drawn0.step)) : q := s
theorem xL {q : Prop} (s : q := by first | omega | exact Nat.le_refl _) : q := s
theorem xNl {w W : World} {g k : Nat} {o : Obj} (h : w.heap[g]? = some o) (hk : k = W.heap.size) (s : Aside0 (w.heap[g]? = some o) → W.heap[g]? = some o := by intro h_; (with_reducible repeat (first | refine blk_drewN ?_ _ | refine blk_drew ?_ | refine blk_alloc ?_ _)); exact h_.out) : g ≠ k := by
  subst hk; exact Nat.ne_of_lt (blk_lt (s ⟨h⟩))
theorem xNr {w W : World} {g k : Nat} {o : Obj} (h : w.heap[g]? = some o) (hk : k = W.heap.size) (s : Aside0 (w.heap[g]? = some o) → W.heap[g]? = some o := by intro h_; (with_reducible repeat (first | refine blk_drewN ?_ _ | refine blk_drew ?_ | refine blk_alloc ?_ _)); exact h_.out) : k ≠ g := by
  subst hk; exact Nat.ne_of_gt (blk_lt (s ⟨h⟩))
theorem xP {w W W' : World} {g : Nat} {o : Obj} (h : w.heap[g]? = some o) (hb : Below W.heap.size W W') (s : Aside0 (w.heap[g]? = some o) → W.heap[g]? = some o := by intro h_; (with_reducible repeat (first | refine blk_drewN ?_ _ | refine blk_drew ?_ | refine blk_alloc ?_ _)); exact h_.out) : Aside0 (W'.heap[g]? = some o) := ⟨blk_below (s ⟨h⟩) hb⟩
theorem xS (w : World) {W : World} {k : Nat} (hk : k = W.heap.size) (s : Below w.heap.size w W := by repeat (first | (with_reducible first | exact HB.out | apply below_alloc | apply pw_below_drewN | apply below_drew1) | exact HB.out)) : Aside0 (w.heap.size ≤ k) := ⟨by subst hk; exact below_size s⟩
theorem xT (w : World) {W : World} {k : Nat} (hk : k = W.heap.size) (s : Below w.heap.size w W := by repeat (first | (with_reducible first | exact HB.out | apply below_alloc | apply pw_below_drewN | apply below_drew1 | refine below_set ?_ (Aside0.out (by with_reducible assumption))) | exact HB.out)) : Aside0 (w.heap.size ≤ k) := ⟨by subst hk; exact below_size s⟩
theorem xO {q : Prop} (s : q := by repeat' first
  | (with_reducible first | exact ih0 .. | exact ih1 .. | exact ih2 .. | exact ih3 .. | exact ih4 .. | exact ih5 .. | exact ih6 .. | exact ih7 .. | exact LeO.refl _ | exact LeO.none _ | exact m0 .. | exact m1 .. | exact m2 .. | exact m3 .. | exact m4 .. | exact m5 .. | exact m6 .. | exact m7 .. | exact m8 .. | exact m9 .. | refine LeO.ite ?_ ?_ | refine LeO.bind ?_ (fun _ => ?_))
  | exact ih0 .. | exact ih1 .. | exact ih2 .. | exact ih3 .. | exact ih4 .. | exact ih5 .. | exact ih6 .. | exact ih7 .. | exact LeO.none _ | exact m0 .. | exact m1 .. | exact m2 .. | exact m3 .. | exact m4 .. | exact m5 .. | exact m6 .. | exact m7 .. | exact m8 .. | exact m9 .. | refine LeO.ite ?_ ?_ | refine LeO.bind ?_ (fun _ => ?_)) : q := s
end Go.Proofs.YtdjhmapmhajkcaaDoor.Sh
