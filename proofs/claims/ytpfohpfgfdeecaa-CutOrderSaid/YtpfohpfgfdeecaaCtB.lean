/- The document's Make of cuts. -/
import Derived.Test.YtpfohpfgfdeecaaVcE
import Derived.Test.YtpfohpfgfdeecaaDtK
import Derived.Test.YtpfohpfgfdeecaaPl
import Derived.Test.YtpfohpfgfdeecaaCtA
namespace Go.Proofs.Ytpfohpfgfdeecaa
open Go.RowKit

def rcErr (v : Vm) (xs : List Im) : Int := if vchk v = false then 2 else makeErr xs
def rcV (v : Vm) (xs : List Im) : Vm := if rcErr v xs ≠ 0 then zV else foldV v (makeI xs)
def rcD (v : Vm) (xs : List Im) : List Im := if rcErr v xs ≠ 0 then [] else foldRest v (makeI xs)

end Go.Proofs.Ytpfohpfgfdeecaa
