/- Prefixes: how many first bits are alike; what lies within; kin; what the program and the document tell of them. -/
import Derived.Test.YtdjhmapmhajkcaaDoorZLSo
import Derived.Test.YtdjhmapmhajkcaaDoorZLX10
import Derived.Test.YtdjhmapmhajkcaaDoorZLX0
import Derived.Test.YtdjhmapmhajkcaaDoorZLShelf
import Derived.Test.YtdjhmapmhajkcaaDoorZLX14
import Derived.Test.YtdjhmapmhajkcaaDoorZLX6
namespace Go.Proofs.YtdjhmapmhajkcaaDoor.Th
open Go.RowKit Go.Proofs.YtdjhmapmhajkcaaDoor.X Go.Proofs.YtdjhmapmhajkcaaDoorW.PrintWords Go.Proofs.YtdjhmapmhajkcaaDoorW.PrintLast Go.Proofs.YtdjhmapmhajkcaaDoor.Sm
set_option linter.unusedVariables false
set_option linter.unusedSimpArgs false
def ld (x : Nat) : Nat := if x / 2 ^ 64 = 0 then 128 - Lib.bitLen (x % 2 ^ 64) else 64 - Lib.bitLen (x / 2 ^ 64)
theorem pxor (u v : Nat) (hu : u < 2 ^ 128) (hv : v < 2 ^ 128) : word_Xor.f (hi u) (lo u) (hi v) (lo v) = some (hi (u ^^^ v), lo (u ^^^ v)) := by
  unfold word_Xor.f; rw [xor_hi u v hu hv, xor_lo]
def lst (f w n : Nat) : Nat := w ||| (mk f &&& nt (mk n))
theorem or_lt128 {u v : Nat} (hu : u < 2 ^ 128) (hv : v < 2 ^ 128) : u ||| v < 2 ^ 128 := Nat.or_lt_two_pow hu hv
theorem lst_lt (f n : Nat) {w : Nat} (hw : w < 2 ^ 128) : lst f w n < 2 ^ 128 := or_lt128 hw (and_lt128 _ (mk_lt f))
theorem plastp (f w n : Nat) (hw : w < 2 ^ 128) : prefix_Last.f (f : Int) (hi w) (lo w) (n : Int) = some (hi (lst f w n), lo (lst f w n)) := by
  unfold prefix_Last.f lst
  simp only [pmask, Option.bind_some, pnot _ (mk_lt n), pand _ _ (mk_lt f) (nt_lt (mk n)), por _ _ hw (and_lt128 _ (mk_lt f))]
end Go.Proofs.YtdjhmapmhajkcaaDoor.Th
