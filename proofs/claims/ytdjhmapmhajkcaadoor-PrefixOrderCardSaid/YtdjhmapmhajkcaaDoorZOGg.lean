/- The groups of a word. -/
import Derived.Test.YtdjhmapmhajkcaaDoorZOTw
import Derived.Test.YtdjhmapmhajkcaaDoorZOLp
namespace Go.Proofs.YtdjhmapmhajkcaaDoor.Th
open Go.RowKit Go.Proofs.YtdjhmapmhajkcaaDoor.X Go.Proofs.YtdjhmapmhajkcaaDoorW.PrintWords
set_option linter.unusedVariables false
set_option linter.unusedSimpArgs false
def GG (w i : Nat) : Nat := w / 2 ^ (112 - 16 * i) % 65536
theorem GG_lt (w i : Nat) : GG w i < 65536 := Nat.mod_lt _ (by decide)
def gl (w i : Nat) : List Nat := (List.range i).map (GG w)
theorem gl_succ (w i : Nat) : gl w (i + 1) = gl w i ++ [GG w i] := by unfold gl; rw [List.range_succ, List.map_append]; rfl
theorem gl_len (w i : Nat) : (gl w i).length = i := by unfold gl; simp
theorem gl_lt (w i : Nat) : ∀ x ∈ gl w i, x < 65536 := by
  intro x hx
  unfold gl at hx
  obtain ⟨j, _, e⟩ := List.mem_map.1 hx
  rw [← e]; exact GG_lt w j
end Go.Proofs.YtdjhmapmhajkcaaDoor.Th
