/-
  What the difference of two of the program's wide numbers does.
-/
import Derived.Test.YtdkeoanlcninkaaProg
import Derived.Test.YtdkeoanlcninkaaWide
namespace Go.Proofs.Ytdkeoanlcninkaa
set_option linter.unusedVariables false
set_option linter.unusedSimpArgs false
open Go.RowKit Go.Shelf

/-! ### Minus -/
def lessE (h1 l1 h2 l2 : Int) : Int := if wv h1 l1 < wv h2 l2 then 10 else 0
def lessH (h1 l1 h2 l2 : Int) : Int := if wv h1 l1 < wv h2 l2 then 0 else (wv h1 l1 - wv h2 l2) / 18446744073709551616
def lessL (h1 l1 h2 l2 : Int) : Int := if wv h1 l1 < wv h2 l2 then 0 else (l1 - l2) % 18446744073709551616
end Go.Proofs.Ytdkeoanlcninkaa
