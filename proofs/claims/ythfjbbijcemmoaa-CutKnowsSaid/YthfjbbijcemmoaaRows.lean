/-
  No cell of these rows narrows 'for every input' (looked for: loops, veiled, ifaces, maps, wideKeys, modest, calm, conditions, laid).
  DERIVED. THE GIVEN ROWS OF THIS SEAT. 10 by the template 'for every input the law returns true; each argument reads behind the call as it read before'; 0 by the template 'total and deterministic' (their statements: YthfjbbijcemmoaaTotals.lean).
  GIVEN WITH THE SEED: the statements are not yours to turn. If you find one false, say at which input.
  Laid BY PROGRAM, IN A SANDBOX (cutbox-rows.mjs): the forced cells as the released guide's own fill.sh prints them over the translation c8a2fb01d8da7ffa… (all of the seat's roots in one cut). By AI agents, Wed Nov 11 2026. No macro, syntax, notation, axiom, sorry.
-/
import Derived.Test.YthfjbbijcemmoaaChecked
import GoSem.Claim
import GoSem.ClaimJoined
import GoSem.ClaimMapViews
import Derived.JoinedTies
import Derived.KernelRfl
namespace Go.Proofs.Ythfjbbijcemmoaa
/- THE CELL 'sum', in the pinned program and in every row, IS THE sha256 OF THE DUMP (.gsa) THAT YthfjbbijcemmoaaProg.lean LOADS. Nothing in Lean hashes anything: it is a label: what it is worth is what the hold of that sum in a sandbox is worth. -/
noncomputable def Try.pinned : Pinned := { name := "ythfjbbijcemmoaa", sum := "c8a2fb01d8da7ffa0272e117b666308e959da2f60ddc1ef619b82f641c991e11", checked := Try.checked }
namespace Rows
def none {H : Type} : Left H := { results := [], args := [] }

/-- 'selkielaw07.DotsTwo': WHATEVER THE INPUT: true; the input reads as it did. -/
def dotsTwoSpec : ChangeSpec := { name := "dotsTwo", fn := fun _ => fun
  | [d1, d2, d3] => { results := [.lit (.bool true)], args := [d1, d2, d3] }
  | _ => none }
def dotsTwoRow : OpenClaim := { program := "ythfjbbijcemmoaa", sum := "c8a2fb01d8da7ffa0272e117b666308e959da2f60ddc1ef619b82f641c991e11", func := "selkie/selkielaw07.DotsTwo", spec := "dotsTwo", unfollowed := true, recurses := true, apart := false }
def DotsTwoSaid : Prop := dotsTwoRow.holds Try.pinned (OpenSpec.ofChange dotsTwoSpec)

/-- ITS FALSE NEIGHBOUR: 'it returns false'. Refute it at one input. -/
def dotsTwoWrong : ChangeSpec := { name := "dotsTwo", fn := fun _ => fun
  | [d1, d2, d3] => { results := [.lit (.bool false)], args := [d1, d2, d3] }
  | _ => none }
def DotsTwoWrongFalsely : Prop := dotsTwoRow.holds Try.pinned (OpenSpec.ofChange dotsTwoWrong)

/-- 'selkielaw07.DotsMakes': WHATEVER THE INPUT: true; the input reads as it did. -/
def dotsMakesSpec : ChangeSpec := { name := "dotsMakes", fn := fun _ => fun
  | [d1, d2] => { results := [.lit (.bool true)], args := [d1, d2] }
  | _ => none }
def dotsMakesRow : OpenClaim := { program := "ythfjbbijcemmoaa", sum := "c8a2fb01d8da7ffa0272e117b666308e959da2f60ddc1ef619b82f641c991e11", func := "selkie/selkielaw07.DotsMakes", spec := "dotsMakes", unfollowed := true, recurses := true, apart := false }
def DotsMakesSaid : Prop := dotsMakesRow.holds Try.pinned (OpenSpec.ofChange dotsMakesSpec)

/-- ITS FALSE NEIGHBOUR: 'it returns false'. Refute it at one input. -/
def dotsMakesWrong : ChangeSpec := { name := "dotsMakes", fn := fun _ => fun
  | [d1, d2] => { results := [.lit (.bool false)], args := [d1, d2] }
  | _ => none }
def DotsMakesWrongFalsely : Prop := dotsMakesRow.holds Try.pinned (OpenSpec.ofChange dotsMakesWrong)

/-- 'selkielaw07.DotsRest': WHATEVER THE INPUT: true; the input reads as it did. -/
def dotsRestSpec : ChangeSpec := { name := "dotsRest", fn := fun _ => fun
  | [d1, d2, d3] => { results := [.lit (.bool true)], args := [d1, d2, d3] }
  | _ => none }
def dotsRestRow : OpenClaim := { program := "ythfjbbijcemmoaa", sum := "c8a2fb01d8da7ffa0272e117b666308e959da2f60ddc1ef619b82f641c991e11", func := "selkie/selkielaw07.DotsRest", spec := "dotsRest", unfollowed := true, recurses := true, apart := false }
def DotsRestSaid : Prop := dotsRestRow.holds Try.pinned (OpenSpec.ofChange dotsRestSpec)

/-- ITS FALSE NEIGHBOUR: 'it returns false'. Refute it at one input. -/
def dotsRestWrong : ChangeSpec := { name := "dotsRest", fn := fun _ => fun
  | [d1, d2, d3] => { results := [.lit (.bool false)], args := [d1, d2, d3] }
  | _ => none }
def DotsRestWrongFalsely : Prop := dotsRestRow.holds Try.pinned (OpenSpec.ofChange dotsRestWrong)

/-- 'selkielaw08.CutMakes': WHATEVER THE INPUT: true; the input reads as it did. -/
def cutMakesSpec : ChangeSpec := { name := "cutMakes", fn := fun _ => fun
  | [d1, d2] => { results := [.lit (.bool true)], args := [d1, d2] }
  | _ => none }
def cutMakesRow : OpenClaim := { program := "ythfjbbijcemmoaa", sum := "c8a2fb01d8da7ffa0272e117b666308e959da2f60ddc1ef619b82f641c991e11", func := "selkie/selkielaw08.CutMakes", spec := "cutMakes", unfollowed := true, recurses := true, apart := false }
def CutMakesSaid : Prop := cutMakesRow.holds Try.pinned (OpenSpec.ofChange cutMakesSpec)

/-- ITS FALSE NEIGHBOUR: 'it returns false'. Refute it at one input. -/
def cutMakesWrong : ChangeSpec := { name := "cutMakes", fn := fun _ => fun
  | [d1, d2] => { results := [.lit (.bool false)], args := [d1, d2] }
  | _ => none }
def CutMakesWrongFalsely : Prop := cutMakesRow.holds Try.pinned (OpenSpec.ofChange cutMakesWrong)

/-- 'selkielaw07.DotsHas': WHATEVER THE INPUT: true; the input reads as it did. -/
def dotsHasSpec : ChangeSpec := { name := "dotsHas", fn := fun _ => fun
  | [d1, d2, d3] => { results := [.lit (.bool true)], args := [d1, d2, d3] }
  | _ => none }
def dotsHasRow : OpenClaim := { program := "ythfjbbijcemmoaa", sum := "c8a2fb01d8da7ffa0272e117b666308e959da2f60ddc1ef619b82f641c991e11", func := "selkie/selkielaw07.DotsHas", spec := "dotsHas", unfollowed := true, recurses := true, apart := false }
def DotsHasSaid : Prop := dotsHasRow.holds Try.pinned (OpenSpec.ofChange dotsHasSpec)

/-- ITS FALSE NEIGHBOUR: 'it returns false'. Refute it at one input. -/
def dotsHasWrong : ChangeSpec := { name := "dotsHas", fn := fun _ => fun
  | [d1, d2, d3] => { results := [.lit (.bool false)], args := [d1, d2, d3] }
  | _ => none }
def DotsHasWrongFalsely : Prop := dotsHasRow.holds Try.pinned (OpenSpec.ofChange dotsHasWrong)

/-- 'selkielaw07.DotsBack': WHATEVER THE INPUT: true; the input reads as it did. -/
def dotsBackSpec : ChangeSpec := { name := "dotsBack", fn := fun _ => fun
  | [d1, d2] => { results := [.lit (.bool true)], args := [d1, d2] }
  | _ => none }
def dotsBackRow : OpenClaim := { program := "ythfjbbijcemmoaa", sum := "c8a2fb01d8da7ffa0272e117b666308e959da2f60ddc1ef619b82f641c991e11", func := "selkie/selkielaw07.DotsBack", spec := "dotsBack", unfollowed := true, recurses := true, apart := false }
def DotsBackSaid : Prop := dotsBackRow.holds Try.pinned (OpenSpec.ofChange dotsBackSpec)

/-- ITS FALSE NEIGHBOUR: 'it returns false'. Refute it at one input. -/
def dotsBackWrong : ChangeSpec := { name := "dotsBack", fn := fun _ => fun
  | [d1, d2] => { results := [.lit (.bool false)], args := [d1, d2] }
  | _ => none }
def DotsBackWrongFalsely : Prop := dotsBackRow.holds Try.pinned (OpenSpec.ofChange dotsBackWrong)

/-- 'selkielaw08.CutTwo': WHATEVER THE INPUT: true; the input reads as it did. -/
def cutTwoSpec : ChangeSpec := { name := "cutTwo", fn := fun _ => fun
  | [d1, d2] => { results := [.lit (.bool true)], args := [d1, d2] }
  | _ => none }
def cutTwoRow : OpenClaim := { program := "ythfjbbijcemmoaa", sum := "c8a2fb01d8da7ffa0272e117b666308e959da2f60ddc1ef619b82f641c991e11", func := "selkie/selkielaw08.CutTwo", spec := "cutTwo", unfollowed := true, recurses := true, apart := false }
def CutTwoSaid : Prop := cutTwoRow.holds Try.pinned (OpenSpec.ofChange cutTwoSpec)

/-- ITS FALSE NEIGHBOUR: 'it returns false'. Refute it at one input. -/
def cutTwoWrong : ChangeSpec := { name := "cutTwo", fn := fun _ => fun
  | [d1, d2] => { results := [.lit (.bool false)], args := [d1, d2] }
  | _ => none }
def CutTwoWrongFalsely : Prop := cutTwoRow.holds Try.pinned (OpenSpec.ofChange cutTwoWrong)

/-- 'selkielaw08.CutKnows': WHATEVER THE INPUT: true; the input reads as it did. -/
def cutKnowsSpec : ChangeSpec := { name := "cutKnows", fn := fun _ => fun
  | [d1, d2, d3] => { results := [.lit (.bool true)], args := [d1, d2, d3] }
  | _ => none }
def cutKnowsRow : OpenClaim := { program := "ythfjbbijcemmoaa", sum := "c8a2fb01d8da7ffa0272e117b666308e959da2f60ddc1ef619b82f641c991e11", func := "selkie/selkielaw08.CutKnows", spec := "cutKnows", unfollowed := true, recurses := true, apart := false }
def CutKnowsSaid : Prop := cutKnowsRow.holds Try.pinned (OpenSpec.ofChange cutKnowsSpec)

/-- ITS FALSE NEIGHBOUR: 'it returns false'. Refute it at one input. -/
def cutKnowsWrong : ChangeSpec := { name := "cutKnows", fn := fun _ => fun
  | [d1, d2, d3] => { results := [.lit (.bool false)], args := [d1, d2, d3] }
  | _ => none }
def CutKnowsWrongFalsely : Prop := cutKnowsRow.holds Try.pinned (OpenSpec.ofChange cutKnowsWrong)

/-- 'selkielaw08.CutOrder': WHATEVER THE INPUT: true; the input reads as it did. -/
def cutOrderSpec : ChangeSpec := { name := "cutOrder", fn := fun _ => fun
  | [d1, d2, d3] => { results := [.lit (.bool true)], args := [d1, d2, d3] }
  | _ => none }
def cutOrderRow : OpenClaim := { program := "ythfjbbijcemmoaa", sum := "c8a2fb01d8da7ffa0272e117b666308e959da2f60ddc1ef619b82f641c991e11", func := "selkie/selkielaw08.CutOrder", spec := "cutOrder", unfollowed := true, recurses := true, apart := false }
def CutOrderSaid : Prop := cutOrderRow.holds Try.pinned (OpenSpec.ofChange cutOrderSpec)

/-- ITS FALSE NEIGHBOUR: 'it returns false'. Refute it at one input. -/
def cutOrderWrong : ChangeSpec := { name := "cutOrder", fn := fun _ => fun
  | [d1, d2, d3] => { results := [.lit (.bool false)], args := [d1, d2, d3] }
  | _ => none }
def CutOrderWrongFalsely : Prop := cutOrderRow.holds Try.pinned (OpenSpec.ofChange cutOrderWrong)

/-- 'selkielaw08.CutBack': WHATEVER THE INPUT: true; the input reads as it did. -/
def cutBackSpec : ChangeSpec := { name := "cutBack", fn := fun _ => fun
  | [d1, d2] => { results := [.lit (.bool true)], args := [d1, d2] }
  | _ => none }
def cutBackRow : OpenClaim := { program := "ythfjbbijcemmoaa", sum := "c8a2fb01d8da7ffa0272e117b666308e959da2f60ddc1ef619b82f641c991e11", func := "selkie/selkielaw08.CutBack", spec := "cutBack", unfollowed := true, recurses := true, apart := false }
def CutBackSaid : Prop := cutBackRow.holds Try.pinned (OpenSpec.ofChange cutBackSpec)

/-- ITS FALSE NEIGHBOUR: 'it returns false'. Refute it at one input. -/
def cutBackWrong : ChangeSpec := { name := "cutBack", fn := fun _ => fun
  | [d1, d2] => { results := [.lit (.bool false)], args := [d1, d2] }
  | _ => none }
def CutBackWrongFalsely : Prop := cutBackRow.holds Try.pinned (OpenSpec.ofChange cutBackWrong)

/- THE SECOND FORM. 'bulk': how many values and letters a reading holds, each counted each time it is reached (what is shared counts as often as it is met; a slice's spare places count too). A statement '..UptoSaid' is the law's where the arguments, and the package variables that the reading takes, are together of bulk at most 1048576: NARROWER than '..Said'. Prove '..Said' where nothing that the law and all that it calls make is longer than what came in: it says more and counts as full. Else prove '..UptoSaid'. A law counts once. -/
mutual
def uptoBulk {H : Type} : DataW H → Nat
  | .lit (.string bytes) => bytes.length + 1
  | .lit _ => 1
  | .nil => 1
  | .ptr d => uptoBulk d + 1
  | .slice elems spare => uptoBulkAll elems + uptoBulkAll spare + 1
  | .agg parts => uptoBulkAll parts + 1
  | .iface _ d => uptoBulk d + 1
  | .map entries => uptoBulkEntries entries + 1
  | .held _ => 1
def uptoBulkAll {H : Type} : List (DataW H) → Nat
  | [] => 0
  | d :: r => uptoBulk d + uptoBulkAll r
def uptoBulkEntries {H : Type} : List (Lit × DataW H) → Nat
  | [] => 0
  | x :: r => uptoBulkEntry x + uptoBulkEntries r
def uptoBulkEntry {H : Type} : Lit × DataW H → Nat
  | (.string bytes, d) => bytes.length + uptoBulk d + 1
  | (_, d) => uptoBulk d + 1
 end
def uptoSmall : (H : Type) → List (DataW H) → Bool := fun _ ds => decide (uptoBulkAll ds ≤ 1048576)
def OpenSpec.upto (s : _root_.Go.ChangeSpec) : _root_.Go.OpenSpec := { _root_.Go.OpenSpec.ofChange s with cond := some uptoSmall }

/-- 'selkielaw07.DotsTwo', WHERE WHAT IT READS IS OF BULK AT MOST 1048576: true; the input reads as it did. -/
def dotsTwoUptoRow : OpenClaim := { program := "ythfjbbijcemmoaa", sum := "c8a2fb01d8da7ffa0272e117b666308e959da2f60ddc1ef619b82f641c991e11", func := "selkie/selkielaw07.DotsTwo", spec := "dotsTwo", unfollowed := true, recurses := true, apart := false, narrowed := true }
def DotsTwoUptoSaid : Prop := dotsTwoUptoRow.holds Try.pinned (OpenSpec.upto dotsTwoSpec)

/-- 'selkielaw07.DotsMakes', WHERE WHAT IT READS IS OF BULK AT MOST 1048576: true; the input reads as it did. -/
def dotsMakesUptoRow : OpenClaim := { program := "ythfjbbijcemmoaa", sum := "c8a2fb01d8da7ffa0272e117b666308e959da2f60ddc1ef619b82f641c991e11", func := "selkie/selkielaw07.DotsMakes", spec := "dotsMakes", unfollowed := true, recurses := true, apart := false, narrowed := true }
def DotsMakesUptoSaid : Prop := dotsMakesUptoRow.holds Try.pinned (OpenSpec.upto dotsMakesSpec)

/-- 'selkielaw07.DotsRest', WHERE WHAT IT READS IS OF BULK AT MOST 1048576: true; the input reads as it did. -/
def dotsRestUptoRow : OpenClaim := { program := "ythfjbbijcemmoaa", sum := "c8a2fb01d8da7ffa0272e117b666308e959da2f60ddc1ef619b82f641c991e11", func := "selkie/selkielaw07.DotsRest", spec := "dotsRest", unfollowed := true, recurses := true, apart := false, narrowed := true }
def DotsRestUptoSaid : Prop := dotsRestUptoRow.holds Try.pinned (OpenSpec.upto dotsRestSpec)

/-- 'selkielaw08.CutMakes', WHERE WHAT IT READS IS OF BULK AT MOST 1048576: true; the input reads as it did. -/
def cutMakesUptoRow : OpenClaim := { program := "ythfjbbijcemmoaa", sum := "c8a2fb01d8da7ffa0272e117b666308e959da2f60ddc1ef619b82f641c991e11", func := "selkie/selkielaw08.CutMakes", spec := "cutMakes", unfollowed := true, recurses := true, apart := false, narrowed := true }
def CutMakesUptoSaid : Prop := cutMakesUptoRow.holds Try.pinned (OpenSpec.upto cutMakesSpec)

/-- 'selkielaw07.DotsHas', WHERE WHAT IT READS IS OF BULK AT MOST 1048576: true; the input reads as it did. -/
def dotsHasUptoRow : OpenClaim := { program := "ythfjbbijcemmoaa", sum := "c8a2fb01d8da7ffa0272e117b666308e959da2f60ddc1ef619b82f641c991e11", func := "selkie/selkielaw07.DotsHas", spec := "dotsHas", unfollowed := true, recurses := true, apart := false, narrowed := true }
def DotsHasUptoSaid : Prop := dotsHasUptoRow.holds Try.pinned (OpenSpec.upto dotsHasSpec)

/-- 'selkielaw07.DotsBack', WHERE WHAT IT READS IS OF BULK AT MOST 1048576: true; the input reads as it did. -/
def dotsBackUptoRow : OpenClaim := { program := "ythfjbbijcemmoaa", sum := "c8a2fb01d8da7ffa0272e117b666308e959da2f60ddc1ef619b82f641c991e11", func := "selkie/selkielaw07.DotsBack", spec := "dotsBack", unfollowed := true, recurses := true, apart := false, narrowed := true }
def DotsBackUptoSaid : Prop := dotsBackUptoRow.holds Try.pinned (OpenSpec.upto dotsBackSpec)

/-- 'selkielaw08.CutTwo', WHERE WHAT IT READS IS OF BULK AT MOST 1048576: true; the input reads as it did. -/
def cutTwoUptoRow : OpenClaim := { program := "ythfjbbijcemmoaa", sum := "c8a2fb01d8da7ffa0272e117b666308e959da2f60ddc1ef619b82f641c991e11", func := "selkie/selkielaw08.CutTwo", spec := "cutTwo", unfollowed := true, recurses := true, apart := false, narrowed := true }
def CutTwoUptoSaid : Prop := cutTwoUptoRow.holds Try.pinned (OpenSpec.upto cutTwoSpec)

/-- 'selkielaw08.CutKnows', WHERE WHAT IT READS IS OF BULK AT MOST 1048576: true; the input reads as it did. -/
def cutKnowsUptoRow : OpenClaim := { program := "ythfjbbijcemmoaa", sum := "c8a2fb01d8da7ffa0272e117b666308e959da2f60ddc1ef619b82f641c991e11", func := "selkie/selkielaw08.CutKnows", spec := "cutKnows", unfollowed := true, recurses := true, apart := false, narrowed := true }
def CutKnowsUptoSaid : Prop := cutKnowsUptoRow.holds Try.pinned (OpenSpec.upto cutKnowsSpec)

/-- 'selkielaw08.CutOrder', WHERE WHAT IT READS IS OF BULK AT MOST 1048576: true; the input reads as it did. -/
def cutOrderUptoRow : OpenClaim := { program := "ythfjbbijcemmoaa", sum := "c8a2fb01d8da7ffa0272e117b666308e959da2f60ddc1ef619b82f641c991e11", func := "selkie/selkielaw08.CutOrder", spec := "cutOrder", unfollowed := true, recurses := true, apart := false, narrowed := true }
def CutOrderUptoSaid : Prop := cutOrderUptoRow.holds Try.pinned (OpenSpec.upto cutOrderSpec)

/-- 'selkielaw08.CutBack', WHERE WHAT IT READS IS OF BULK AT MOST 1048576: true; the input reads as it did. -/
def cutBackUptoRow : OpenClaim := { program := "ythfjbbijcemmoaa", sum := "c8a2fb01d8da7ffa0272e117b666308e959da2f60ddc1ef619b82f641c991e11", func := "selkie/selkielaw08.CutBack", spec := "cutBack", unfollowed := true, recurses := true, apart := false, narrowed := true }
def CutBackUptoSaid : Prop := cutBackUptoRow.holds Try.pinned (OpenSpec.upto cutBackSpec)

end Rows
end Go.Proofs.Ythfjbbijcemmoaa
