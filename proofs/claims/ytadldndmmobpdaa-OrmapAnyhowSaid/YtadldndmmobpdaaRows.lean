/-
  No cell of these rows narrows 'for every input' (looked for: loops, veiled, ifaces, maps, wideKeys, modest, calm, conditions, laid).
  DERIVED. THE GIVEN ROWS OF THIS SEAT. 8 by the template 'for every input the law returns true; each argument reads behind the call as it read before'; 0 by the template 'total and deterministic' (their statements: YtadldndmmobpdaaTotals.lean).
  GIVEN WITH THE SEED: the statements are not yours to turn. If you find one false, say at which input.
  Laid BY PROGRAM, IN A SANDBOX (cutbox-rows.mjs): the forced cells as the released guide's own fill.sh prints them over the translation 487206ab30526e03… (all of the seat's roots in one cut). By AI agents, Wed Nov 11 2026. No macro, syntax, notation, axiom, sorry.
-/
import Derived.Test.YtadldndmmobpdaaChecked
import GoSem.Claim
import GoSem.ClaimJoined
import GoSem.ClaimMapViews
import Derived.JoinedTies
import Derived.KernelRfl
namespace Go.Proofs.Ytadldndmmobpdaa
/- THE CELL 'sum', in the pinned program and in every row, IS THE sha256 OF THE DUMP (.gsa) THAT YtadldndmmobpdaaProg.lean LOADS. Nothing in Lean hashes anything: it is a label: what it is worth is what the hold of that sum in a sandbox is worth. -/
noncomputable def Try.pinned : Pinned := { name := "ytadldndmmobpdaa", sum := "487206ab30526e03d0f4cfc626e1776db57016dc1537ca1686d5ddefc86579da", checked := Try.checked }
namespace Rows
def none {H : Type} : Left H := { results := [], args := [] }

/-- 'selkielaw12.OrsetTells': WHATEVER THE INPUT: true; the input reads as it did. -/
def orsetTellsSpec : ChangeSpec := { name := "orsetTells", fn := fun _ => fun
  | [d1, d2, d3] => { results := [.lit (.bool true)], args := [d1, d2, d3] }
  | _ => none }
def orsetTellsRow : OpenClaim := { program := "ytadldndmmobpdaa", sum := "487206ab30526e03d0f4cfc626e1776db57016dc1537ca1686d5ddefc86579da", func := "selkie/selkielaw12.OrsetTells", spec := "orsetTells", unfollowed := true, recurses := true, plainKeys := false, apart := false }
def OrsetTellsSaid : Prop := orsetTellsRow.holds Try.pinned (OpenSpec.ofChange orsetTellsSpec)

/-- ITS FALSE NEIGHBOUR: 'it returns false'. Refute it at one input. -/
def orsetTellsWrong : ChangeSpec := { name := "orsetTells", fn := fun _ => fun
  | [d1, d2, d3] => { results := [.lit (.bool false)], args := [d1, d2, d3] }
  | _ => none }
def OrsetTellsWrongFalsely : Prop := orsetTellsRow.holds Try.pinned (OpenSpec.ofChange orsetTellsWrong)

/-- 'selkielaw13.OrmapTells': WHATEVER THE INPUT: true; the input reads as it did. -/
def ormapTellsSpec : ChangeSpec := { name := "ormapTells", fn := fun _ => fun
  | [d1, d2, d3] => { results := [.lit (.bool true)], args := [d1, d2, d3] }
  | _ => none }
def ormapTellsRow : OpenClaim := { program := "ytadldndmmobpdaa", sum := "487206ab30526e03d0f4cfc626e1776db57016dc1537ca1686d5ddefc86579da", func := "selkie/selkielaw13.OrmapTells", spec := "ormapTells", unfollowed := true, recurses := true, plainKeys := false, apart := false }
def OrmapTellsSaid : Prop := ormapTellsRow.holds Try.pinned (OpenSpec.ofChange ormapTellsSpec)

/-- ITS FALSE NEIGHBOUR: 'it returns false'. Refute it at one input. -/
def ormapTellsWrong : ChangeSpec := { name := "ormapTells", fn := fun _ => fun
  | [d1, d2, d3] => { results := [.lit (.bool false)], args := [d1, d2, d3] }
  | _ => none }
def OrmapTellsWrongFalsely : Prop := ormapTellsRow.holds Try.pinned (OpenSpec.ofChange ormapTellsWrong)

/-- 'selkielaw12.OrsetPuts': WHATEVER THE INPUT: true; the input reads as it did. -/
def orsetPutsSpec : ChangeSpec := { name := "orsetPuts", fn := fun _ => fun
  | [d1, d2, d3] => { results := [.lit (.bool true)], args := [d1, d2, d3] }
  | _ => none }
def orsetPutsRow : OpenClaim := { program := "ytadldndmmobpdaa", sum := "487206ab30526e03d0f4cfc626e1776db57016dc1537ca1686d5ddefc86579da", func := "selkie/selkielaw12.OrsetPuts", spec := "orsetPuts", inPlace := ["slices.overlaps[selkie/orset.Add]"], unfollowed := true, recurses := true, plainKeys := false, apart := false }
def OrsetPutsSaid : Prop := orsetPutsRow.holds Try.pinned (OpenSpec.ofChange orsetPutsSpec)

/-- ITS FALSE NEIGHBOUR: 'it returns false'. Refute it at one input. -/
def orsetPutsWrong : ChangeSpec := { name := "orsetPuts", fn := fun _ => fun
  | [d1, d2, d3] => { results := [.lit (.bool false)], args := [d1, d2, d3] }
  | _ => none }
def OrsetPutsWrongFalsely : Prop := orsetPutsRow.holds Try.pinned (OpenSpec.ofChange orsetPutsWrong)

/-- 'selkielaw13.OrmapPuts': WHATEVER THE INPUT: true; the input reads as it did. -/
def ormapPutsSpec : ChangeSpec := { name := "ormapPuts", fn := fun _ => fun
  | [d1, d2, d3] => { results := [.lit (.bool true)], args := [d1, d2, d3] }
  | _ => none }
def ormapPutsRow : OpenClaim := { program := "ytadldndmmobpdaa", sum := "487206ab30526e03d0f4cfc626e1776db57016dc1537ca1686d5ddefc86579da", func := "selkie/selkielaw13.OrmapPuts", spec := "ormapPuts", inPlace := ["slices.overlaps[selkie/ormap.Put]"], unfollowed := true, recurses := true, plainKeys := false, apart := false }
def OrmapPutsSaid : Prop := ormapPutsRow.holds Try.pinned (OpenSpec.ofChange ormapPutsSpec)

/-- ITS FALSE NEIGHBOUR: 'it returns false'. Refute it at one input. -/
def ormapPutsWrong : ChangeSpec := { name := "ormapPuts", fn := fun _ => fun
  | [d1, d2, d3] => { results := [.lit (.bool false)], args := [d1, d2, d3] }
  | _ => none }
def OrmapPutsWrongFalsely : Prop := ormapPutsRow.holds Try.pinned (OpenSpec.ofChange ormapPutsWrong)

/-- 'selkielaw13.OrmapAnyhow': WHATEVER THE INPUT: true; the input reads as it did. -/
def ormapAnyhowSpec : ChangeSpec := { name := "ormapAnyhow", fn := fun _ => fun
  | [d] => { results := [.lit (.bool true)], args := [d] }
  | _ => none }
def ormapAnyhowRow : OpenClaim := { program := "ytadldndmmobpdaa", sum := "487206ab30526e03d0f4cfc626e1776db57016dc1537ca1686d5ddefc86579da", func := "selkie/selkielaw13.OrmapAnyhow", spec := "ormapAnyhow", inPlace := ["slices.overlaps[selkie/ormap.Put]"], unfollowed := true, recurses := true, plainKeys := false, apart := false }
def OrmapAnyhowSaid : Prop := ormapAnyhowRow.holds Try.pinned (OpenSpec.ofChange ormapAnyhowSpec)

/-- ITS FALSE NEIGHBOUR: 'it returns false'. Refute it at one input. -/
def ormapAnyhowWrong : ChangeSpec := { name := "ormapAnyhow", fn := fun _ => fun
  | [d] => { results := [.lit (.bool false)], args := [d] }
  | _ => none }
def OrmapAnyhowWrongFalsely : Prop := ormapAnyhowRow.holds Try.pinned (OpenSpec.ofChange ormapAnyhowWrong)

/-- 'selkielaw13.OrmapLast': WHATEVER THE INPUT: true; the input reads as it did. -/
def ormapLastSpec : ChangeSpec := { name := "ormapLast", fn := fun _ => fun
  | [d1, d2, d3] => { results := [.lit (.bool true)], args := [d1, d2, d3] }
  | _ => none }
def ormapLastRow : OpenClaim := { program := "ytadldndmmobpdaa", sum := "487206ab30526e03d0f4cfc626e1776db57016dc1537ca1686d5ddefc86579da", func := "selkie/selkielaw13.OrmapLast", spec := "ormapLast", inPlace := ["slices.overlaps[selkie/ormap.Put]"], unfollowed := true, recurses := true, plainKeys := false, apart := false }
def OrmapLastSaid : Prop := ormapLastRow.holds Try.pinned (OpenSpec.ofChange ormapLastSpec)

/-- ITS FALSE NEIGHBOUR: 'it returns false'. Refute it at one input. -/
def ormapLastWrong : ChangeSpec := { name := "ormapLast", fn := fun _ => fun
  | [d1, d2, d3] => { results := [.lit (.bool false)], args := [d1, d2, d3] }
  | _ => none }
def OrmapLastWrongFalsely : Prop := ormapLastRow.holds Try.pinned (OpenSpec.ofChange ormapLastWrong)

/-- 'selkielaw12.OrsetAnyhow': WHATEVER THE INPUT: true; the input reads as it did. -/
def orsetAnyhowSpec : ChangeSpec := { name := "orsetAnyhow", fn := fun _ => fun
  | [d] => { results := [.lit (.bool true)], args := [d] }
  | _ => none }
def orsetAnyhowRow : OpenClaim := { program := "ytadldndmmobpdaa", sum := "487206ab30526e03d0f4cfc626e1776db57016dc1537ca1686d5ddefc86579da", func := "selkie/selkielaw12.OrsetAnyhow", spec := "orsetAnyhow", inPlace := ["slices.overlaps[selkie/orset.Add]"], unfollowed := true, recurses := true, plainKeys := false, apart := false }
def OrsetAnyhowSaid : Prop := orsetAnyhowRow.holds Try.pinned (OpenSpec.ofChange orsetAnyhowSpec)

/-- ITS FALSE NEIGHBOUR: 'it returns false'. Refute it at one input. -/
def orsetAnyhowWrong : ChangeSpec := { name := "orsetAnyhow", fn := fun _ => fun
  | [d] => { results := [.lit (.bool false)], args := [d] }
  | _ => none }
def OrsetAnyhowWrongFalsely : Prop := orsetAnyhowRow.holds Try.pinned (OpenSpec.ofChange orsetAnyhowWrong)

/-- 'selkielaw12.OrsetWins': WHATEVER THE INPUT: true; the input reads as it did. -/
def orsetWinsSpec : ChangeSpec := { name := "orsetWins", fn := fun _ => fun
  | [d1, d2, d3, d4] => { results := [.lit (.bool true)], args := [d1, d2, d3, d4] }
  | _ => none }
def orsetWinsRow : OpenClaim := { program := "ytadldndmmobpdaa", sum := "487206ab30526e03d0f4cfc626e1776db57016dc1537ca1686d5ddefc86579da", func := "selkie/selkielaw12.OrsetWins", spec := "orsetWins", inPlace := ["slices.overlaps[selkie/orset.Add]"], unfollowed := true, recurses := true, plainKeys := false, apart := false }
def OrsetWinsSaid : Prop := orsetWinsRow.holds Try.pinned (OpenSpec.ofChange orsetWinsSpec)

/-- ITS FALSE NEIGHBOUR: 'it returns false'. Refute it at one input. -/
def orsetWinsWrong : ChangeSpec := { name := "orsetWins", fn := fun _ => fun
  | [d1, d2, d3, d4] => { results := [.lit (.bool false)], args := [d1, d2, d3, d4] }
  | _ => none }
def OrsetWinsWrongFalsely : Prop := orsetWinsRow.holds Try.pinned (OpenSpec.ofChange orsetWinsWrong)

/- THE SECOND FORM. 'bulk': how many values and letters a reading holds, each counted each time it is reached (what is shared counts as often as it is met; a slice's spare places count too). A statement '..UptoSaid' is the law's where the arguments, and the package variables that the reading takes, are together of bulk at most 1048576: NARROWER than '..Said'. Prove '..Said' where nothing that the law and all that it calls make is longer than what came in: it says more and counts as full. Else prove '..UptoSaid'. A law counts once. -/
mutual
def uptoBulk {H : Type} : DataW H → Nat
  | .lit (.string bytes) => bytes.length + 1
  | .lit _ => 1
  | .nil => 1
  | .ptr d => uptoBulk d + 1
  | .slice elems spare => uptoBulkAll elems + uptoBulkAll spare + 1
  | .agg parts => uptoBulkAll parts + 1
  | .iface _ d => uptoBulk d + 1
  | .map entries => uptoBulkEntries entries + 1
  | .held _ => 1
def uptoBulkAll {H : Type} : List (DataW H) → Nat
  | [] => 0
  | d :: r => uptoBulk d + uptoBulkAll r
def uptoBulkEntries {H : Type} : List (Lit × DataW H) → Nat
  | [] => 0
  | x :: r => uptoBulkEntry x + uptoBulkEntries r
def uptoBulkEntry {H : Type} : Lit × DataW H → Nat
  | (.string bytes, d) => bytes.length + uptoBulk d + 1
  | (_, d) => uptoBulk d + 1
 end
def uptoSmall : (H : Type) → List (DataW H) → Bool := fun _ ds => decide (uptoBulkAll ds ≤ 1048576)
def OpenSpec.upto (s : _root_.Go.ChangeSpec) : _root_.Go.OpenSpec := { _root_.Go.OpenSpec.ofChange s with cond := some uptoSmall }

/-- 'selkielaw12.OrsetTells', WHERE WHAT IT READS IS OF BULK AT MOST 1048576: true; the input reads as it did. -/
def orsetTellsUptoRow : OpenClaim := { program := "ytadldndmmobpdaa", sum := "487206ab30526e03d0f4cfc626e1776db57016dc1537ca1686d5ddefc86579da", func := "selkie/selkielaw12.OrsetTells", spec := "orsetTells", unfollowed := true, recurses := true, plainKeys := false, apart := false, narrowed := true }
def OrsetTellsUptoSaid : Prop := orsetTellsUptoRow.holds Try.pinned (OpenSpec.upto orsetTellsSpec)

/-- 'selkielaw13.OrmapTells', WHERE WHAT IT READS IS OF BULK AT MOST 1048576: true; the input reads as it did. -/
def ormapTellsUptoRow : OpenClaim := { program := "ytadldndmmobpdaa", sum := "487206ab30526e03d0f4cfc626e1776db57016dc1537ca1686d5ddefc86579da", func := "selkie/selkielaw13.OrmapTells", spec := "ormapTells", unfollowed := true, recurses := true, plainKeys := false, apart := false, narrowed := true }
def OrmapTellsUptoSaid : Prop := ormapTellsUptoRow.holds Try.pinned (OpenSpec.upto ormapTellsSpec)

/-- 'selkielaw12.OrsetPuts', WHERE WHAT IT READS IS OF BULK AT MOST 1048576: true; the input reads as it did. -/
def orsetPutsUptoRow : OpenClaim := { program := "ytadldndmmobpdaa", sum := "487206ab30526e03d0f4cfc626e1776db57016dc1537ca1686d5ddefc86579da", func := "selkie/selkielaw12.OrsetPuts", spec := "orsetPuts", inPlace := ["slices.overlaps[selkie/orset.Add]"], unfollowed := true, recurses := true, plainKeys := false, apart := false, narrowed := true }
def OrsetPutsUptoSaid : Prop := orsetPutsUptoRow.holds Try.pinned (OpenSpec.upto orsetPutsSpec)

/-- 'selkielaw13.OrmapPuts', WHERE WHAT IT READS IS OF BULK AT MOST 1048576: true; the input reads as it did. -/
def ormapPutsUptoRow : OpenClaim := { program := "ytadldndmmobpdaa", sum := "487206ab30526e03d0f4cfc626e1776db57016dc1537ca1686d5ddefc86579da", func := "selkie/selkielaw13.OrmapPuts", spec := "ormapPuts", inPlace := ["slices.overlaps[selkie/ormap.Put]"], unfollowed := true, recurses := true, plainKeys := false, apart := false, narrowed := true }
def OrmapPutsUptoSaid : Prop := ormapPutsUptoRow.holds Try.pinned (OpenSpec.upto ormapPutsSpec)

/-- 'selkielaw13.OrmapAnyhow', WHERE WHAT IT READS IS OF BULK AT MOST 1048576: true; the input reads as it did. -/
def ormapAnyhowUptoRow : OpenClaim := { program := "ytadldndmmobpdaa", sum := "487206ab30526e03d0f4cfc626e1776db57016dc1537ca1686d5ddefc86579da", func := "selkie/selkielaw13.OrmapAnyhow", spec := "ormapAnyhow", inPlace := ["slices.overlaps[selkie/ormap.Put]"], unfollowed := true, recurses := true, plainKeys := false, apart := false, narrowed := true }
def OrmapAnyhowUptoSaid : Prop := ormapAnyhowUptoRow.holds Try.pinned (OpenSpec.upto ormapAnyhowSpec)

/-- 'selkielaw13.OrmapLast', WHERE WHAT IT READS IS OF BULK AT MOST 1048576: true; the input reads as it did. -/
def ormapLastUptoRow : OpenClaim := { program := "ytadldndmmobpdaa", sum := "487206ab30526e03d0f4cfc626e1776db57016dc1537ca1686d5ddefc86579da", func := "selkie/selkielaw13.OrmapLast", spec := "ormapLast", inPlace := ["slices.overlaps[selkie/ormap.Put]"], unfollowed := true, recurses := true, plainKeys := false, apart := false, narrowed := true }
def OrmapLastUptoSaid : Prop := ormapLastUptoRow.holds Try.pinned (OpenSpec.upto ormapLastSpec)

/-- 'selkielaw12.OrsetAnyhow', WHERE WHAT IT READS IS OF BULK AT MOST 1048576: true; the input reads as it did. -/
def orsetAnyhowUptoRow : OpenClaim := { program := "ytadldndmmobpdaa", sum := "487206ab30526e03d0f4cfc626e1776db57016dc1537ca1686d5ddefc86579da", func := "selkie/selkielaw12.OrsetAnyhow", spec := "orsetAnyhow", inPlace := ["slices.overlaps[selkie/orset.Add]"], unfollowed := true, recurses := true, plainKeys := false, apart := false, narrowed := true }
def OrsetAnyhowUptoSaid : Prop := orsetAnyhowUptoRow.holds Try.pinned (OpenSpec.upto orsetAnyhowSpec)

/-- 'selkielaw12.OrsetWins', WHERE WHAT IT READS IS OF BULK AT MOST 1048576: true; the input reads as it did. -/
def orsetWinsUptoRow : OpenClaim := { program := "ytadldndmmobpdaa", sum := "487206ab30526e03d0f4cfc626e1776db57016dc1537ca1686d5ddefc86579da", func := "selkie/selkielaw12.OrsetWins", spec := "orsetWins", inPlace := ["slices.overlaps[selkie/orset.Add]"], unfollowed := true, recurses := true, plainKeys := false, apart := false, narrowed := true }
def OrsetWinsUptoSaid : Prop := orsetWinsUptoRow.holds Try.pinned (OpenSpec.upto orsetWinsSpec)

end Rows
end Go.Proofs.Ytadldndmmobpdaa
