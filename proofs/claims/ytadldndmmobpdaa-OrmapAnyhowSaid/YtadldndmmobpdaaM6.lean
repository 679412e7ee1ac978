/- slices.Clone at names. slices.Values, AppendSeq, Collect at names. -/
import Derived.Test.YtadldndmmobpdaaM17
import Derived.Lib.SliceRun
import Derived.Test.YtadldndmmobpdaaM3
import Derived.Test.YtadldndmmobpdaaGc
import Derived.TacticsInMore
import Derived.LoopNIn
import Derived.LoopIn
import Derived.Shelf.Abstract
namespace Go.Proofs.Ytadldndmmobpdaa
open Go.RowKit

theorem RdI.kp {N B n0 n : Nat} {w w' : World} {A : Option Addr} {xs : List Im} (h : RdI w n0 A n xs) (hk : KpB N B w w') (h1 : n0 ≤ N) (h2 : n0 ≤ B) : RdI w' n0 A n xs :=
  Rd.keep h fun b o hb => World.cell?_of_block (a := ⟨b, o, none⟩) (hk.block b (by omega) (by omega))
end Go.Proofs.Ytadldndmmobpdaa
namespace Go.Proofs.Ytadldndmmobpdaa
open Go.RowKit

attribute [local go_sem] Oper.semAt_some

end Go.Proofs.Ytadldndmmobpdaa
