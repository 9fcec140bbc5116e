/-
  No cell of these rows narrows 'for every input' (looked for: loops, veiled, ifaces, maps, wideKeys, modest, calm, conditions, laid).
  DERIVED. THE GIVEN ROWS OF THIS SEAT. 5 by the template 'for every input the law returns true; each argument reads behind the call as it read before'; 0 by the template 'total and deterministic' (their statements: YtfliejmidnnggaaTotals.lean).
  GIVEN WITH THE SEED: the statements are not yours to turn. If you find one false, say at which input.
  Laid BY PROGRAM, IN A SANDBOX (cutbox-rows.mjs): the forced cells as the released guide's own fill.sh prints them over the translation d7210c8344ddd949… (all of the seat's roots in one cut). By AI agents, Wed Nov 11 2026. No macro, syntax, notation, axiom, sorry.
-/
import Derived.Test.YtfliejmidnnggaaChecked
import GoSem.Claim
import GoSem.ClaimJoined
import GoSem.ClaimMapViews
import Derived.JoinedTies
import Derived.KernelRfl
namespace Go.Proofs.Ytfliejmidnnggaa
/- THE CELL 'sum', in the pinned program and in every row, IS THE sha256 OF THE DUMP (.gsa) THAT YtfliejmidnnggaaProg.lean LOADS. Nothing in Lean hashes anything: it is a label: what it is worth is what the hold of that sum in a sandbox is worth. -/
noncomputable def Try.pinned : Pinned := { name := "ytfliejmidnnggaa", sum := "d7210c8344ddd949c7ffbf309fc0058a0400b52e9150de152f91da1c06766ccc", checked := Try.checked }
namespace Rows
def none {H : Type} : Left H := { results := [], args := [] }

/-- 'limitrophelaw01.TreatyLines': WHATEVER THE INPUT: true; the input reads as it did. -/
def treatyLinesSpec : ChangeSpec := { name := "treatyLines", fn := fun _ => fun
  | [d1, d2, d3] => { results := [.lit (.bool true)], args := [d1, d2, d3] }
  | _ => none }
def treatyLinesRow : OpenClaim := { program := "ytfliejmidnnggaa", sum := "d7210c8344ddd949c7ffbf309fc0058a0400b52e9150de152f91da1c06766ccc", func := "limitrophe/limitrophelaw01.TreatyLines", spec := "treatyLines", unfollowed := true, recurses := true, apart := false }
def TreatyLinesSaid : Prop := treatyLinesRow.holds Try.pinned (OpenSpec.ofChange treatyLinesSpec)

/-- ITS FALSE NEIGHBOUR: 'it returns false'. Refute it at one input. -/
def treatyLinesWrong : ChangeSpec := { name := "treatyLines", fn := fun _ => fun
  | [d1, d2, d3] => { results := [.lit (.bool false)], args := [d1, d2, d3] }
  | _ => none }
def TreatyLinesWrongFalsely : Prop := treatyLinesRow.holds Try.pinned (OpenSpec.ofChange treatyLinesWrong)

/-- 'limitrophelaw01.TreatyParted': WHATEVER THE INPUT: true; the input reads as it did. -/
def treatyPartedSpec : ChangeSpec := { name := "treatyParted", fn := fun _ => fun
  | [d1, d2] => { results := [.lit (.bool true)], args := [d1, d2] }
  | _ => none }
def treatyPartedRow : OpenClaim := { program := "ytfliejmidnnggaa", sum := "d7210c8344ddd949c7ffbf309fc0058a0400b52e9150de152f91da1c06766ccc", func := "limitrophe/limitrophelaw01.TreatyParted", spec := "treatyParted", unfollowed := true, recurses := true, apart := false }
def TreatyPartedSaid : Prop := treatyPartedRow.holds Try.pinned (OpenSpec.ofChange treatyPartedSpec)

/-- ITS FALSE NEIGHBOUR: 'it returns false'. Refute it at one input. -/
def treatyPartedWrong : ChangeSpec := { name := "treatyParted", fn := fun _ => fun
  | [d1, d2] => { results := [.lit (.bool false)], args := [d1, d2] }
  | _ => none }
def TreatyPartedWrongFalsely : Prop := treatyPartedRow.holds Try.pinned (OpenSpec.ofChange treatyPartedWrong)

/-- 'limitrophelaw01.TreatyProved': WHATEVER THE INPUT: true; the input reads as it did. -/
def treatyProvedSpec : ChangeSpec := { name := "treatyProved", fn := fun _ => fun
  | [d1, d2] => { results := [.lit (.bool true)], args := [d1, d2] }
  | _ => none }
def treatyProvedRow : OpenClaim := { program := "ytfliejmidnnggaa", sum := "d7210c8344ddd949c7ffbf309fc0058a0400b52e9150de152f91da1c06766ccc", func := "limitrophe/limitrophelaw01.TreatyProved", spec := "treatyProved", unfollowed := true, recurses := true, apart := false }
def TreatyProvedSaid : Prop := treatyProvedRow.holds Try.pinned (OpenSpec.ofChange treatyProvedSpec)

/-- ITS FALSE NEIGHBOUR: 'it returns false'. Refute it at one input. -/
def treatyProvedWrong : ChangeSpec := { name := "treatyProved", fn := fun _ => fun
  | [d1, d2] => { results := [.lit (.bool false)], args := [d1, d2] }
  | _ => none }
def TreatyProvedWrongFalsely : Prop := treatyProvedRow.holds Try.pinned (OpenSpec.ofChange treatyProvedWrong)

/-- 'limitrophelaw01.TreatyYields': WHATEVER THE INPUT: true; the input reads as it did. -/
def treatyYieldsSpec : ChangeSpec := { name := "treatyYields", fn := fun _ => fun
  | [d1, d2, d3, d4] => { results := [.lit (.bool true)], args := [d1, d2, d3, d4] }
  | _ => none }
def treatyYieldsRow : OpenClaim := { program := "ytfliejmidnnggaa", sum := "d7210c8344ddd949c7ffbf309fc0058a0400b52e9150de152f91da1c06766ccc", func := "limitrophe/limitrophelaw01.TreatyYields", spec := "treatyYields", unfollowed := true, recurses := true, apart := false }
def TreatyYieldsSaid : Prop := treatyYieldsRow.holds Try.pinned (OpenSpec.ofChange treatyYieldsSpec)

/-- ITS FALSE NEIGHBOUR: 'it returns false'. Refute it at one input. -/
def treatyYieldsWrong : ChangeSpec := { name := "treatyYields", fn := fun _ => fun
  | [d1, d2, d3, d4] => { results := [.lit (.bool false)], args := [d1, d2, d3, d4] }
  | _ => none }
def TreatyYieldsWrongFalsely : Prop := treatyYieldsRow.holds Try.pinned (OpenSpec.ofChange treatyYieldsWrong)

/-- 'limitrophelaw01.TreatyYielded': WHATEVER THE INPUT: true; the input reads as it did. -/
def treatyYieldedSpec : ChangeSpec := { name := "treatyYielded", fn := fun _ => fun
  | [d1, d2] => { results := [.lit (.bool true)], args := [d1, d2] }
  | _ => none }
def treatyYieldedRow : OpenClaim := { program := "ytfliejmidnnggaa", sum := "d7210c8344ddd949c7ffbf309fc0058a0400b52e9150de152f91da1c06766ccc", func := "limitrophe/limitrophelaw01.TreatyYielded", spec := "treatyYielded", unfollowed := true, recurses := true, apart := false }
def TreatyYieldedSaid : Prop := treatyYieldedRow.holds Try.pinned (OpenSpec.ofChange treatyYieldedSpec)

/-- ITS FALSE NEIGHBOUR: 'it returns false'. Refute it at one input. -/
def treatyYieldedWrong : ChangeSpec := { name := "treatyYielded", fn := fun _ => fun
  | [d1, d2] => { results := [.lit (.bool false)], args := [d1, d2] }
  | _ => none }
def TreatyYieldedWrongFalsely : Prop := treatyYieldedRow.holds Try.pinned (OpenSpec.ofChange treatyYieldedWrong)

/- THE SECOND FORM. 'bulk': how many values and letters a reading holds, each counted each time it is reached (what is shared counts as often as it is met; a slice's spare places count too). A statement '..UptoSaid' is the law's where the arguments, and the package variables that the reading takes, are together of bulk at most 1048576: NARROWER than '..Said'. Prove '..Said' where nothing that the law and all that it calls make is longer than what came in: it says more and counts as full. Else prove '..UptoSaid'. A law counts once. -/
mutual
def uptoBulk {H : Type} : DataW H → Nat
  | .lit (.string bytes) => bytes.length + 1
  | .lit _ => 1
  | .nil => 1
  | .ptr d => uptoBulk d + 1
  | .slice elems spare => uptoBulkAll elems + uptoBulkAll spare + 1
  | .agg parts => uptoBulkAll parts + 1
  | .iface _ d => uptoBulk d + 1
  | .map entries => uptoBulkEntries entries + 1
  | .held _ => 1
def uptoBulkAll {H : Type} : List (DataW H) → Nat
  | [] => 0
  | d :: r => uptoBulk d + uptoBulkAll r
def uptoBulkEntries {H : Type} : List (Lit × DataW H) → Nat
  | [] => 0
  | x :: r => uptoBulkEntry x + uptoBulkEntries r
def uptoBulkEntry {H : Type} : Lit × DataW H → Nat
  | (.string bytes, d) => bytes.length + uptoBulk d + 1
  | (_, d) => uptoBulk d + 1
 end
def uptoSmall : (H : Type) → List (DataW H) → Bool := fun _ ds => decide (uptoBulkAll ds ≤ 1048576)
def OpenSpec.upto (s : _root_.Go.ChangeSpec) : _root_.Go.OpenSpec := { _root_.Go.OpenSpec.ofChange s with cond := some uptoSmall }

/-- 'limitrophelaw01.TreatyLines', WHERE WHAT IT READS IS OF BULK AT MOST 1048576: true; the input reads as it did. -/
def treatyLinesUptoRow : OpenClaim := { program := "ytfliejmidnnggaa", sum := "d7210c8344ddd949c7ffbf309fc0058a0400b52e9150de152f91da1c06766ccc", func := "limitrophe/limitrophelaw01.TreatyLines", spec := "treatyLines", unfollowed := true, recurses := true, apart := false, narrowed := true }
def TreatyLinesUptoSaid : Prop := treatyLinesUptoRow.holds Try.pinned (OpenSpec.upto treatyLinesSpec)

/-- 'limitrophelaw01.TreatyParted', WHERE WHAT IT READS IS OF BULK AT MOST 1048576: true; the input reads as it did. -/
def treatyPartedUptoRow : OpenClaim := { program := "ytfliejmidnnggaa", sum := "d7210c8344ddd949c7ffbf309fc0058a0400b52e9150de152f91da1c06766ccc", func := "limitrophe/limitrophelaw01.TreatyParted", spec := "treatyParted", unfollowed := true, recurses := true, apart := false, narrowed := true }
def TreatyPartedUptoSaid : Prop := treatyPartedUptoRow.holds Try.pinned (OpenSpec.upto treatyPartedSpec)

/-- 'limitrophelaw01.TreatyProved', WHERE WHAT IT READS IS OF BULK AT MOST 1048576: true; the input reads as it did. -/
def treatyProvedUptoRow : OpenClaim := { program := "ytfliejmidnnggaa", sum := "d7210c8344ddd949c7ffbf309fc0058a0400b52e9150de152f91da1c06766ccc", func := "limitrophe/limitrophelaw01.TreatyProved", spec := "treatyProved", unfollowed := true, recurses := true, apart := false, narrowed := true }
def TreatyProvedUptoSaid : Prop := treatyProvedUptoRow.holds Try.pinned (OpenSpec.upto treatyProvedSpec)

/-- 'limitrophelaw01.TreatyYields', WHERE WHAT IT READS IS OF BULK AT MOST 1048576: true; the input reads as it did. -/
def treatyYieldsUptoRow : OpenClaim := { program := "ytfliejmidnnggaa", sum := "d7210c8344ddd949c7ffbf309fc0058a0400b52e9150de152f91da1c06766ccc", func := "limitrophe/limitrophelaw01.TreatyYields", spec := "treatyYields", unfollowed := true, recurses := true, apart := false, narrowed := true }
def TreatyYieldsUptoSaid : Prop := treatyYieldsUptoRow.holds Try.pinned (OpenSpec.upto treatyYieldsSpec)

/-- 'limitrophelaw01.TreatyYielded', WHERE WHAT IT READS IS OF BULK AT MOST 1048576: true; the input reads as it did. -/
def treatyYieldedUptoRow : OpenClaim := { program := "ytfliejmidnnggaa", sum := "d7210c8344ddd949c7ffbf309fc0058a0400b52e9150de152f91da1c06766ccc", func := "limitrophe/limitrophelaw01.TreatyYielded", spec := "treatyYielded", unfollowed := true, recurses := true, apart := false, narrowed := true }
def TreatyYieldedUptoSaid : Prop := treatyYieldedUptoRow.holds Try.pinned (OpenSpec.upto treatyYieldedSpec)

end Rows
end Go.Proofs.Ytfliejmidnnggaa
