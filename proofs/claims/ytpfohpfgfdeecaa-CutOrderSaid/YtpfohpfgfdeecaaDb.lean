/- Sets of names: the document's check; whether two lists are the same; a list of one's own. Are two lists of names the same? Is a name in one? -/
import Derived.Test.YtpfohpfgfdeecaaDa
import Derived.RegionTactic
namespace Go.Proofs.Ytpfohpfgfdeecaa
open Go.RowKit

theorem infoId : (Try.prog.info? 37).map (fun i => (i.zero, i.size, i.bytes)) = some (some (.agg #[.int .i64 0, .int .u32 0]), 2, 16) := by kernel_rfl
theorem eId : ElemInfo Try.prog 25 37 2 16 := by
  obtain ⟨i, hi, h0, h1, h2⟩ := info_parts infoId
  exact ⟨Try.underlying25, ⟨i, _, hi, h0, h1, h2, rfl⟩, by decide⟩

end Go.Proofs.Ytpfohpfgfdeecaa
namespace Go.Proofs.Ytpfohpfgfdeecaa
open Go.RowKit

end Go.Proofs.Ytpfohpfgfdeecaa
