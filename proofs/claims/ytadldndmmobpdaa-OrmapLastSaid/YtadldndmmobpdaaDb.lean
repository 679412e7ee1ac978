/- Sets of names: the document's check; whether two lists are the same; a list of one's own. Are two lists of names the same? Is a name in one? -/
import Derived.Test.YtadldndmmobpdaaDa
import Derived.RegionTactic
namespace Go.Proofs.Ytadldndmmobpdaa
open Go.RowKit

theorem infoId : (Try.prog.info? 77).map (fun i => (i.zero, i.size, i.bytes)) = some (some (.agg #[.int .i64 0, .int .u32 0]), 2, 16) := by kernel_rfl
end Go.Proofs.Ytadldndmmobpdaa
namespace Go.Proofs.Ytadldndmmobpdaa
open Go.RowKit

end Go.Proofs.Ytadldndmmobpdaa
