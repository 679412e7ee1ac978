/-
  No cell of these rows narrows 'for every input' (looked for: loops, veiled, ifaces, maps, wideKeys, modest, calm, conditions, laid).
  DERIVED. THE GIVEN ROWS OF THIS SEAT. 3 by the template 'for every input the law returns true; each argument reads behind the call as it read before'; 0 by the template 'total and deterministic' (their statements: YtebpghpeeedgcaaTotals.lean).
  GIVEN WITH THE SEED: the statements are not yours to turn. If you find one false, say at which input.
  Laid BY PROGRAM, IN A SANDBOX (cutbox-rows.mjs): the forced cells as the released guide's own fill.sh prints them over the translation 730825a99e0fe3c8… (all of the seat's roots in one cut). By AI agents, Wed Nov 11 2026. No macro, syntax, notation, axiom, sorry.
-/
import Derived.Test.YtebpghpeeedgcaaChecked
import GoSem.Claim
import GoSem.ClaimJoined
import GoSem.ClaimMapViews
import Derived.JoinedTies
import Derived.KernelRfl
namespace Go.Proofs.Ytebpghpeeedgcaa
/- THE CELL 'sum', in the pinned program and in every row, IS THE sha256 OF THE DUMP (.gsa) THAT YtebpghpeeedgcaaProg.lean LOADS. Nothing in Lean hashes anything: it is a label: what it is worth is what the hold of that sum in a sandbox is worth. -/
noncomputable def Try.pinned : Pinned := { name := "ytebpghpeeedgcaa", sum := "730825a99e0fe3c8dc63708d27cff4c61592ea7e8a37ecfc5d0b7b5cd9d32b7f", checked := Try.checked }
namespace Rows
def none {H : Type} : Left H := { results := [], args := [] }

/-- 'selkielaw27.SccParts': WHATEVER THE INPUT: true; the input reads as it did. -/
def sccPartsSpec : ChangeSpec := { name := "sccParts", fn := fun _ => fun
  | [d1, d2] => { results := [.lit (.bool true)], args := [d1, d2] }
  | _ => none }
def sccPartsRow : OpenClaim := { program := "ytebpghpeeedgcaa", sum := "730825a99e0fe3c8dc63708d27cff4c61592ea7e8a37ecfc5d0b7b5cd9d32b7f", func := "selkie/selkielaw27.SccParts", spec := "sccParts", unfollowed := true, recurses := true, apart := false }
def SccPartsSaid : Prop := sccPartsRow.holds Try.pinned (OpenSpec.ofChange sccPartsSpec)

/-- ITS FALSE NEIGHBOUR: 'it returns false'. Refute it at one input. -/
def sccPartsWrong : ChangeSpec := { name := "sccParts", fn := fun _ => fun
  | [d1, d2] => { results := [.lit (.bool false)], args := [d1, d2] }
  | _ => none }
def SccPartsWrongFalsely : Prop := sccPartsRow.holds Try.pinned (OpenSpec.ofChange sccPartsWrong)

/-- 'selkielaw27.SccBehind': WHATEVER THE INPUT: true; the input reads as it did. -/
def sccBehindSpec : ChangeSpec := { name := "sccBehind", fn := fun _ => fun
  | [d] => { results := [.lit (.bool true)], args := [d] }
  | _ => none }
def sccBehindRow : OpenClaim := { program := "ytebpghpeeedgcaa", sum := "730825a99e0fe3c8dc63708d27cff4c61592ea7e8a37ecfc5d0b7b5cd9d32b7f", func := "selkie/selkielaw27.SccBehind", spec := "sccBehind", unfollowed := true, recurses := true, apart := false }
def SccBehindSaid : Prop := sccBehindRow.holds Try.pinned (OpenSpec.ofChange sccBehindSpec)

/-- ITS FALSE NEIGHBOUR: 'it returns false'. Refute it at one input. -/
def sccBehindWrong : ChangeSpec := { name := "sccBehind", fn := fun _ => fun
  | [d] => { results := [.lit (.bool false)], args := [d] }
  | _ => none }
def SccBehindWrongFalsely : Prop := sccBehindRow.holds Try.pinned (OpenSpec.ofChange sccBehindWrong)

/-- 'selkielaw27.SccDeep': WHATEVER THE INPUT: true; the input reads as it did. -/
def sccDeepSpec : ChangeSpec := { name := "sccDeep", fn := fun _ => fun
  | [d1, d2] => { results := [.lit (.bool true)], args := [d1, d2] }
  | _ => none }
def sccDeepRow : OpenClaim := { program := "ytebpghpeeedgcaa", sum := "730825a99e0fe3c8dc63708d27cff4c61592ea7e8a37ecfc5d0b7b5cd9d32b7f", func := "selkie/selkielaw27.SccDeep", spec := "sccDeep", unfollowed := true, recurses := true, apart := false }
def SccDeepSaid : Prop := sccDeepRow.holds Try.pinned (OpenSpec.ofChange sccDeepSpec)

/-- ITS FALSE NEIGHBOUR: 'it returns false'. Refute it at one input. -/
def sccDeepWrong : ChangeSpec := { name := "sccDeep", fn := fun _ => fun
  | [d1, d2] => { results := [.lit (.bool false)], args := [d1, d2] }
  | _ => none }
def SccDeepWrongFalsely : Prop := sccDeepRow.holds Try.pinned (OpenSpec.ofChange sccDeepWrong)

/- THE SECOND FORM. 'bulk': how many values and letters a reading holds, each counted each time it is reached (what is shared counts as often as it is met; a slice's spare places count too). A statement '..UptoSaid' is the law's where the arguments, and the package variables that the reading takes, are together of bulk at most 1048576: NARROWER than '..Said'. Prove '..Said' where nothing that the law and all that it calls make is longer than what came in: it says more and counts as full. Else prove '..UptoSaid'. A law counts once. -/
mutual
def uptoBulk {H : Type} : DataW H → Nat
  | .lit (.string bytes) => bytes.length + 1
  | .lit _ => 1
  | .nil => 1
  | .ptr d => uptoBulk d + 1
  | .slice elems spare => uptoBulkAll elems + uptoBulkAll spare + 1
  | .agg parts => uptoBulkAll parts + 1
  | .iface _ d => uptoBulk d + 1
  | .map entries => uptoBulkEntries entries + 1
  | .held _ => 1
def uptoBulkAll {H : Type} : List (DataW H) → Nat
  | [] => 0
  | d :: r => uptoBulk d + uptoBulkAll r
def uptoBulkEntries {H : Type} : List (Lit × DataW H) → Nat
  | [] => 0
  | x :: r => uptoBulkEntry x + uptoBulkEntries r
def uptoBulkEntry {H : Type} : Lit × DataW H → Nat
  | (.string bytes, d) => bytes.length + uptoBulk d + 1
  | (_, d) => uptoBulk d + 1
 end
def uptoSmall : (H : Type) → List (DataW H) → Bool := fun _ ds => decide (uptoBulkAll ds ≤ 1048576)
def OpenSpec.upto (s : _root_.Go.ChangeSpec) : _root_.Go.OpenSpec := { _root_.Go.OpenSpec.ofChange s with cond := some uptoSmall }

/-- 'selkielaw27.SccParts', WHERE WHAT IT READS IS OF BULK AT MOST 1048576: true; the input reads as it did. -/
def sccPartsUptoRow : OpenClaim := { program := "ytebpghpeeedgcaa", sum := "730825a99e0fe3c8dc63708d27cff4c61592ea7e8a37ecfc5d0b7b5cd9d32b7f", func := "selkie/selkielaw27.SccParts", spec := "sccParts", unfollowed := true, recurses := true, apart := false, narrowed := true }
def SccPartsUptoSaid : Prop := sccPartsUptoRow.holds Try.pinned (OpenSpec.upto sccPartsSpec)

/-- 'selkielaw27.SccBehind', WHERE WHAT IT READS IS OF BULK AT MOST 1048576: true; the input reads as it did. -/
def sccBehindUptoRow : OpenClaim := { program := "ytebpghpeeedgcaa", sum := "730825a99e0fe3c8dc63708d27cff4c61592ea7e8a37ecfc5d0b7b5cd9d32b7f", func := "selkie/selkielaw27.SccBehind", spec := "sccBehind", unfollowed := true, recurses := true, apart := false, narrowed := true }
def SccBehindUptoSaid : Prop := sccBehindUptoRow.holds Try.pinned (OpenSpec.upto sccBehindSpec)

/-- 'selkielaw27.SccDeep', WHERE WHAT IT READS IS OF BULK AT MOST 1048576: true; the input reads as it did. -/
def sccDeepUptoRow : OpenClaim := { program := "ytebpghpeeedgcaa", sum := "730825a99e0fe3c8dc63708d27cff4c61592ea7e8a37ecfc5d0b7b5cd9d32b7f", func := "selkie/selkielaw27.SccDeep", spec := "sccDeep", unfollowed := true, recurses := true, apart := false, narrowed := true }
def SccDeepUptoSaid : Prop := sccDeepUptoRow.holds Try.pinned (OpenSpec.upto sccDeepSpec)

end Rows
end Go.Proofs.Ytebpghpeeedgcaa
