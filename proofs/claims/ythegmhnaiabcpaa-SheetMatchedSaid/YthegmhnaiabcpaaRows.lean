/-
  No cell of these rows narrows 'for every input' (looked for: loops, veiled, ifaces, maps, wideKeys, modest, calm, conditions, laid).
  DERIVED. THE GIVEN ROWS OF THIS SEAT. 4 by the template 'for every input the law returns true; each argument reads behind the call as it read before'; 0 by the template 'total and deterministic' (their statements: YthegmhnaiabcpaaTotals.lean).
  GIVEN WITH THE SEED: the statements are not yours to turn. If you find one false, say at which input.
  Laid BY PROGRAM, IN A SANDBOX (cutbox-rows.mjs): the forced cells as the released guide's own fill.sh prints them over the translation 3689befcaf4a8198… (all of the seat's roots in one cut). By AI agents, Wed Nov 11 2026. No macro, syntax, notation, axiom, sorry.
-/
import Derived.Test.YthegmhnaiabcpaaChecked
import GoSem.Claim
import GoSem.ClaimJoined
import GoSem.ClaimMapViews
import Derived.JoinedTies
import Derived.KernelRfl
namespace Go.Proofs.Ythegmhnaiabcpaa
/- THE CELL 'sum', in the pinned program and in every row, IS THE sha256 OF THE DUMP (.gsa) THAT YthegmhnaiabcpaaProg.lean LOADS. Nothing in Lean hashes anything: it is a label: what it is worth is what the hold of that sum in a sandbox is worth. -/
noncomputable def Try.pinned : Pinned := { name := "ythegmhnaiabcpaa", sum := "3689befcaf4a81981c23c68c2d98e32e3e851f1f4386e9e1c7fe63e156fa97a2", checked := Try.checked }
namespace Rows
def none {H : Type} : Left H := { results := [], args := [] }

/-- 'limitrophelaw10.SheetMore': WHATEVER THE INPUT: true; the input reads as it did. -/
def sheetMoreSpec : ChangeSpec := { name := "sheetMore", fn := fun _ => fun
  | [d1, d2, d3, d4] => { results := [.lit (.bool true)], args := [d1, d2, d3, d4] }
  | _ => none }
def sheetMoreRow : OpenClaim := { program := "ythegmhnaiabcpaa", sum := "3689befcaf4a81981c23c68c2d98e32e3e851f1f4386e9e1c7fe63e156fa97a2", func := "limitrophe/limitrophelaw10.SheetMore", spec := "sheetMore", unfollowed := true, recurses := true, plainKeys := false, apart := false }
def SheetMoreSaid : Prop := sheetMoreRow.holds Try.pinned (OpenSpec.ofChange sheetMoreSpec)

/-- ITS FALSE NEIGHBOUR: 'it returns false'. Refute it at one input. -/
def sheetMoreWrong : ChangeSpec := { name := "sheetMore", fn := fun _ => fun
  | [d1, d2, d3, d4] => { results := [.lit (.bool false)], args := [d1, d2, d3, d4] }
  | _ => none }
def SheetMoreWrongFalsely : Prop := sheetMoreRow.holds Try.pinned (OpenSpec.ofChange sheetMoreWrong)

/-- 'limitrophelaw10.SheetEdges': WHATEVER THE INPUT: true; the input reads as it did. -/
def sheetEdgesSpec : ChangeSpec := { name := "sheetEdges", fn := fun _ => fun
  | [d1, d2, d3, d4, d5] => { results := [.lit (.bool true)], args := [d1, d2, d3, d4, d5] }
  | _ => none }
def sheetEdgesRow : OpenClaim := { program := "ythegmhnaiabcpaa", sum := "3689befcaf4a81981c23c68c2d98e32e3e851f1f4386e9e1c7fe63e156fa97a2", func := "limitrophe/limitrophelaw10.SheetEdges", spec := "sheetEdges", unfollowed := true, recurses := true, plainKeys := false, apart := false }
def SheetEdgesSaid : Prop := sheetEdgesRow.holds Try.pinned (OpenSpec.ofChange sheetEdgesSpec)

/-- ITS FALSE NEIGHBOUR: 'it returns false'. Refute it at one input. -/
def sheetEdgesWrong : ChangeSpec := { name := "sheetEdges", fn := fun _ => fun
  | [d1, d2, d3, d4, d5] => { results := [.lit (.bool false)], args := [d1, d2, d3, d4, d5] }
  | _ => none }
def SheetEdgesWrongFalsely : Prop := sheetEdgesRow.holds Try.pinned (OpenSpec.ofChange sheetEdgesWrong)

/-- 'limitrophelaw10.SheetMatched': WHATEVER THE INPUT: true; the input reads as it did. -/
def sheetMatchedSpec : ChangeSpec := { name := "sheetMatched", fn := fun _ => fun
  | [d1, d2, d3] => { results := [.lit (.bool true)], args := [d1, d2, d3] }
  | _ => none }
def sheetMatchedRow : OpenClaim := { program := "ythegmhnaiabcpaa", sum := "3689befcaf4a81981c23c68c2d98e32e3e851f1f4386e9e1c7fe63e156fa97a2", func := "limitrophe/limitrophelaw10.SheetMatched", spec := "sheetMatched", unfollowed := true, recurses := true, plainKeys := false, apart := false }
def SheetMatchedSaid : Prop := sheetMatchedRow.holds Try.pinned (OpenSpec.ofChange sheetMatchedSpec)

/-- ITS FALSE NEIGHBOUR: 'it returns false'. Refute it at one input. -/
def sheetMatchedWrong : ChangeSpec := { name := "sheetMatched", fn := fun _ => fun
  | [d1, d2, d3] => { results := [.lit (.bool false)], args := [d1, d2, d3] }
  | _ => none }
def SheetMatchedWrongFalsely : Prop := sheetMatchedRow.holds Try.pinned (OpenSpec.ofChange sheetMatchedWrong)

/-- 'limitrophelaw10.SheetBetween': WHATEVER THE INPUT: true; the input reads as it did. -/
def sheetBetweenSpec : ChangeSpec := { name := "sheetBetween", fn := fun _ => fun
  | [d1, d2, d3, d4, d5] => { results := [.lit (.bool true)], args := [d1, d2, d3, d4, d5] }
  | _ => none }
def sheetBetweenRow : OpenClaim := { program := "ythegmhnaiabcpaa", sum := "3689befcaf4a81981c23c68c2d98e32e3e851f1f4386e9e1c7fe63e156fa97a2", func := "limitrophe/limitrophelaw10.SheetBetween", spec := "sheetBetween", unfollowed := true, recurses := true, plainKeys := false, apart := false }
def SheetBetweenSaid : Prop := sheetBetweenRow.holds Try.pinned (OpenSpec.ofChange sheetBetweenSpec)

/-- ITS FALSE NEIGHBOUR: 'it returns false'. Refute it at one input. -/
def sheetBetweenWrong : ChangeSpec := { name := "sheetBetween", fn := fun _ => fun
  | [d1, d2, d3, d4, d5] => { results := [.lit (.bool false)], args := [d1, d2, d3, d4, d5] }
  | _ => none }
def SheetBetweenWrongFalsely : Prop := sheetBetweenRow.holds Try.pinned (OpenSpec.ofChange sheetBetweenWrong)

/- THE SECOND FORM. 'bulk': how many values and letters a reading holds, each counted each time it is reached (what is shared counts as often as it is met; a slice's spare places count too). A statement '..UptoSaid' is the law's where the arguments, and the package variables that the reading takes, are together of bulk at most 1048576: NARROWER than '..Said'. Prove '..Said' where nothing that the law and all that it calls make is longer than what came in: it says more and counts as full. Else prove '..UptoSaid'. A law counts once. -/
mutual
def uptoBulk {H : Type} : DataW H → Nat
  | .lit (.string bytes) => bytes.length + 1
  | .lit _ => 1
  | .nil => 1
  | .ptr d => uptoBulk d + 1
  | .slice elems spare => uptoBulkAll elems + uptoBulkAll spare + 1
  | .agg parts => uptoBulkAll parts + 1
  | .iface _ d => uptoBulk d + 1
  | .map entries => uptoBulkEntries entries + 1
  | .held _ => 1
def uptoBulkAll {H : Type} : List (DataW H) → Nat
  | [] => 0
  | d :: r => uptoBulk d + uptoBulkAll r
def uptoBulkEntries {H : Type} : List (Lit × DataW H) → Nat
  | [] => 0
  | x :: r => uptoBulkEntry x + uptoBulkEntries r
def uptoBulkEntry {H : Type} : Lit × DataW H → Nat
  | (.string bytes, d) => bytes.length + uptoBulk d + 1
  | (_, d) => uptoBulk d + 1
 end
def uptoSmall : (H : Type) → List (DataW H) → Bool := fun _ ds => decide (uptoBulkAll ds ≤ 1048576)
def OpenSpec.upto (s : _root_.Go.ChangeSpec) : _root_.Go.OpenSpec := { _root_.Go.OpenSpec.ofChange s with cond := some uptoSmall }

/-- 'limitrophelaw10.SheetMore', WHERE WHAT IT READS IS OF BULK AT MOST 1048576: true; the input reads as it did. -/
def sheetMoreUptoRow : OpenClaim := { program := "ythegmhnaiabcpaa", sum := "3689befcaf4a81981c23c68c2d98e32e3e851f1f4386e9e1c7fe63e156fa97a2", func := "limitrophe/limitrophelaw10.SheetMore", spec := "sheetMore", unfollowed := true, recurses := true, plainKeys := false, apart := false, narrowed := true }
def SheetMoreUptoSaid : Prop := sheetMoreUptoRow.holds Try.pinned (OpenSpec.upto sheetMoreSpec)

/-- 'limitrophelaw10.SheetEdges', WHERE WHAT IT READS IS OF BULK AT MOST 1048576: true; the input reads as it did. -/
def sheetEdgesUptoRow : OpenClaim := { program := "ythegmhnaiabcpaa", sum := "3689befcaf4a81981c23c68c2d98e32e3e851f1f4386e9e1c7fe63e156fa97a2", func := "limitrophe/limitrophelaw10.SheetEdges", spec := "sheetEdges", unfollowed := true, recurses := true, plainKeys := false, apart := false, narrowed := true }
def SheetEdgesUptoSaid : Prop := sheetEdgesUptoRow.holds Try.pinned (OpenSpec.upto sheetEdgesSpec)

/-- 'limitrophelaw10.SheetMatched', WHERE WHAT IT READS IS OF BULK AT MOST 1048576: true; the input reads as it did. -/
def sheetMatchedUptoRow : OpenClaim := { program := "ythegmhnaiabcpaa", sum := "3689befcaf4a81981c23c68c2d98e32e3e851f1f4386e9e1c7fe63e156fa97a2", func := "limitrophe/limitrophelaw10.SheetMatched", spec := "sheetMatched", unfollowed := true, recurses := true, plainKeys := false, apart := false, narrowed := true }
def SheetMatchedUptoSaid : Prop := sheetMatchedUptoRow.holds Try.pinned (OpenSpec.upto sheetMatchedSpec)

/-- 'limitrophelaw10.SheetBetween', WHERE WHAT IT READS IS OF BULK AT MOST 1048576: true; the input reads as it did. -/
def sheetBetweenUptoRow : OpenClaim := { program := "ythegmhnaiabcpaa", sum := "3689befcaf4a81981c23c68c2d98e32e3e851f1f4386e9e1c7fe63e156fa97a2", func := "limitrophe/limitrophelaw10.SheetBetween", spec := "sheetBetween", unfollowed := true, recurses := true, plainKeys := false, apart := false, narrowed := true }
def SheetBetweenUptoSaid : Prop := sheetBetweenUptoRow.holds Try.pinned (OpenSpec.upto sheetBetweenSpec)

end Rows
end Go.Proofs.Ythegmhnaiabcpaa
