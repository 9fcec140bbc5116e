/-
  No cell of these rows narrows 'for every input' (looked for: loops, veiled, ifaces, maps, wideKeys, modest, calm, conditions, laid).
  DERIVED. THE GIVEN ROWS OF THIS SEAT. 8 by the template 'for every input the law returns true; each argument reads behind the call as it read before'; 0 by the template 'total and deterministic' (their statements: YtbchfakfdikkjaaGreatTotals.lean).
  GIVEN WITH THE SEED: the statements are not yours to turn. If you find one false, say at which input.
  Laid BY PROGRAM, IN A SANDBOX (cutbox-rows.mjs): the forced cells as the released guide's own fill.sh prints them over the translation e63624c5ce822a37… (all of the seat's roots in one cut). By AI agents, Wed Nov 11 2026. No macro, syntax, notation, axiom, sorry.
-/
import Derived.Test.YtbchfakfdikkjaaGreatChecked
import GoSem.Claim
import GoSem.ClaimJoined
import GoSem.ClaimMapViews
import Derived.JoinedTies
import Derived.KernelRfl
namespace Go.Proofs.YtbchfakfdikkjaaGreat
/- THE CELL 'sum', in the pinned program and in every row, IS THE sha256 OF THE DUMP (.gsa) THAT YtbchfakfdikkjaaGreatProg.lean LOADS. Nothing in Lean hashes anything: it is a label: what it is worth is what the hold of that sum in a sandbox is worth. -/
noncomputable def Tryz.pinned : Pinned := { name := "ytbchfakfdikkjaagreat", sum := "e63624c5ce822a37e2292a52c41e6f03ce2f90357925b5f0d149f8c740a1231a", checked := Tryz.checked }
namespace Rows
def none {H : Type} : Left H := { results := [], args := [] }

/-- 'limitrophelaw13.CourtSurveys': WHATEVER THE INPUT: true; the input reads as it did. -/
def courtSurveysSpec : ChangeSpec := { name := "courtSurveys", fn := fun _ => fun
  | [d1, d2, d3] => { results := [.lit (.bool true)], args := [d1, d2, d3] }
  | _ => none }
def courtSurveysRow : OpenClaim := { program := "ytbchfakfdikkjaagreat", sum := "e63624c5ce822a37e2292a52c41e6f03ce2f90357925b5f0d149f8c740a1231a", func := "limitrophe/limitrophelaw13.CourtSurveys", spec := "courtSurveys", unfollowed := true, recurses := true, plainKeys := false, apart := false }
def CourtSurveysSaid : Prop := courtSurveysRow.holds Tryz.pinned (OpenSpec.ofChange courtSurveysSpec)

/-- ITS FALSE NEIGHBOUR: 'it returns false'. Refute it at one input. -/
def courtSurveysWrong : ChangeSpec := { name := "courtSurveys", fn := fun _ => fun
  | [d1, d2, d3] => { results := [.lit (.bool false)], args := [d1, d2, d3] }
  | _ => none }
def CourtSurveysWrongFalsely : Prop := courtSurveysRow.holds Tryz.pinned (OpenSpec.ofChange courtSurveysWrong)

/-- 'limitrophelaw13.CourtStands': WHATEVER THE INPUT: true; the input reads as it did. -/
def courtStandsSpec : ChangeSpec := { name := "courtStands", fn := fun _ => fun
  | [d1, d2, d3] => { results := [.lit (.bool true)], args := [d1, d2, d3] }
  | _ => none }
def courtStandsRow : OpenClaim := { program := "ytbchfakfdikkjaagreat", sum := "e63624c5ce822a37e2292a52c41e6f03ce2f90357925b5f0d149f8c740a1231a", func := "limitrophe/limitrophelaw13.CourtStands", spec := "courtStands", unfollowed := true, recurses := true, plainKeys := false, apart := false }
def CourtStandsSaid : Prop := courtStandsRow.holds Tryz.pinned (OpenSpec.ofChange courtStandsSpec)

/-- ITS FALSE NEIGHBOUR: 'it returns false'. Refute it at one input. -/
def courtStandsWrong : ChangeSpec := { name := "courtStands", fn := fun _ => fun
  | [d1, d2, d3] => { results := [.lit (.bool false)], args := [d1, d2, d3] }
  | _ => none }
def CourtStandsWrongFalsely : Prop := courtStandsRow.holds Tryz.pinned (OpenSpec.ofChange courtStandsWrong)

/-- 'limitrophelaw13.CourtSmall': WHATEVER THE INPUT: true; the input reads as it did. -/
def courtSmallSpec : ChangeSpec := { name := "courtSmall", fn := fun _ => fun
  | [] => { results := [.lit (.bool true)], args := [] }
  | _ => none }
def courtSmallRow : OpenClaim := { program := "ytbchfakfdikkjaagreat", sum := "e63624c5ce822a37e2292a52c41e6f03ce2f90357925b5f0d149f8c740a1231a", func := "limitrophe/limitrophelaw13.CourtSmall", spec := "courtSmall", unfollowed := true, recurses := true, plainKeys := false, apart := false }
def CourtSmallSaid : Prop := courtSmallRow.holds Tryz.pinned (OpenSpec.ofChange courtSmallSpec)

/-- ITS FALSE NEIGHBOUR: 'it returns false'. Refute it at one input. -/
def courtSmallWrong : ChangeSpec := { name := "courtSmall", fn := fun _ => fun
  | [] => { results := [.lit (.bool false)], args := [] }
  | _ => none }
def CourtSmallWrongFalsely : Prop := courtSmallRow.holds Tryz.pinned (OpenSpec.ofChange courtSmallWrong)

/-- 'limitrophelaw13.CourtSurveyed': WHATEVER THE INPUT: true; the input reads as it did. -/
def courtSurveyedSpec : ChangeSpec := { name := "courtSurveyed", fn := fun _ => fun
  | [d] => { results := [.lit (.bool true)], args := [d] }
  | _ => none }
def courtSurveyedRow : OpenClaim := { program := "ytbchfakfdikkjaagreat", sum := "e63624c5ce822a37e2292a52c41e6f03ce2f90357925b5f0d149f8c740a1231a", func := "limitrophe/limitrophelaw13.CourtSurveyed", spec := "courtSurveyed", unfollowed := true, recurses := true, plainKeys := false, apart := false }
def CourtSurveyedSaid : Prop := courtSurveyedRow.holds Tryz.pinned (OpenSpec.ofChange courtSurveyedSpec)

/-- ITS FALSE NEIGHBOUR: 'it returns false'. Refute it at one input. -/
def courtSurveyedWrong : ChangeSpec := { name := "courtSurveyed", fn := fun _ => fun
  | [d] => { results := [.lit (.bool false)], args := [d] }
  | _ => none }
def CourtSurveyedWrongFalsely : Prop := courtSurveyedRow.holds Tryz.pinned (OpenSpec.ofChange courtSurveyedWrong)

/-- 'limitrophelaw13.CourtNamed': WHATEVER THE INPUT: true; the input reads as it did. -/
def courtNamedSpec : ChangeSpec := { name := "courtNamed", fn := fun _ => fun
  | [d1, d2, d3] => { results := [.lit (.bool true)], args := [d1, d2, d3] }
  | _ => none }
def courtNamedRow : OpenClaim := { program := "ytbchfakfdikkjaagreat", sum := "e63624c5ce822a37e2292a52c41e6f03ce2f90357925b5f0d149f8c740a1231a", func := "limitrophe/limitrophelaw13.CourtNamed", spec := "courtNamed", unfollowed := true, recurses := true, plainKeys := false, apart := false }
def CourtNamedSaid : Prop := courtNamedRow.holds Tryz.pinned (OpenSpec.ofChange courtNamedSpec)

/-- ITS FALSE NEIGHBOUR: 'it returns false'. Refute it at one input. -/
def courtNamedWrong : ChangeSpec := { name := "courtNamed", fn := fun _ => fun
  | [d1, d2, d3] => { results := [.lit (.bool false)], args := [d1, d2, d3] }
  | _ => none }
def CourtNamedWrongFalsely : Prop := courtNamedRow.holds Tryz.pinned (OpenSpec.ofChange courtNamedWrong)

/-- 'limitrophelaw13.CourtAwarded': WHATEVER THE INPUT: true; the input reads as it did. -/
def courtAwardedSpec : ChangeSpec := { name := "courtAwarded", fn := fun _ => fun
  | [d1, d2] => { results := [.lit (.bool true)], args := [d1, d2] }
  | _ => none }
def courtAwardedRow : OpenClaim := { program := "ytbchfakfdikkjaagreat", sum := "e63624c5ce822a37e2292a52c41e6f03ce2f90357925b5f0d149f8c740a1231a", func := "limitrophe/limitrophelaw13.CourtAwarded", spec := "courtAwarded", unfollowed := true, recurses := true, plainKeys := false, apart := false }
def CourtAwardedSaid : Prop := courtAwardedRow.holds Tryz.pinned (OpenSpec.ofChange courtAwardedSpec)

/-- ITS FALSE NEIGHBOUR: 'it returns false'. Refute it at one input. -/
def courtAwardedWrong : ChangeSpec := { name := "courtAwarded", fn := fun _ => fun
  | [d1, d2] => { results := [.lit (.bool false)], args := [d1, d2] }
  | _ => none }
def CourtAwardedWrongFalsely : Prop := courtAwardedRow.holds Tryz.pinned (OpenSpec.ofChange courtAwardedWrong)

/-- 'limitrophelaw13.CourtWon': WHATEVER THE INPUT: true; the input reads as it did. -/
def courtWonSpec : ChangeSpec := { name := "courtWon", fn := fun _ => fun
  | [d1, d2, d3] => { results := [.lit (.bool true)], args := [d1, d2, d3] }
  | _ => none }
def courtWonRow : OpenClaim := { program := "ytbchfakfdikkjaagreat", sum := "e63624c5ce822a37e2292a52c41e6f03ce2f90357925b5f0d149f8c740a1231a", func := "limitrophe/limitrophelaw13.CourtWon", spec := "courtWon", unfollowed := true, recurses := true, plainKeys := false, apart := false }
def CourtWonSaid : Prop := courtWonRow.holds Tryz.pinned (OpenSpec.ofChange courtWonSpec)

/-- ITS FALSE NEIGHBOUR: 'it returns false'. Refute it at one input. -/
def courtWonWrong : ChangeSpec := { name := "courtWon", fn := fun _ => fun
  | [d1, d2, d3] => { results := [.lit (.bool false)], args := [d1, d2, d3] }
  | _ => none }
def CourtWonWrongFalsely : Prop := courtWonRow.holds Tryz.pinned (OpenSpec.ofChange courtWonWrong)

/-- 'limitrophelaw13.CourtStood': WHATEVER THE INPUT: true; the input reads as it did. -/
def courtStoodSpec : ChangeSpec := { name := "courtStood", fn := fun _ => fun
  | [d1, d2] => { results := [.lit (.bool true)], args := [d1, d2] }
  | _ => none }
def courtStoodRow : OpenClaim := { program := "ytbchfakfdikkjaagreat", sum := "e63624c5ce822a37e2292a52c41e6f03ce2f90357925b5f0d149f8c740a1231a", func := "limitrophe/limitrophelaw13.CourtStood", spec := "courtStood", unfollowed := true, recurses := true, plainKeys := false, apart := false }
def CourtStoodSaid : Prop := courtStoodRow.holds Tryz.pinned (OpenSpec.ofChange courtStoodSpec)

/-- ITS FALSE NEIGHBOUR: 'it returns false'. Refute it at one input. -/
def courtStoodWrong : ChangeSpec := { name := "courtStood", fn := fun _ => fun
  | [d1, d2] => { results := [.lit (.bool false)], args := [d1, d2] }
  | _ => none }
def CourtStoodWrongFalsely : Prop := courtStoodRow.holds Tryz.pinned (OpenSpec.ofChange courtStoodWrong)

/- THE SECOND FORM. 'bulk': how many values and letters a reading holds, each counted each time it is reached (what is shared counts as often as it is met; a slice's spare places count too). A statement '..UptoSaid' is the law's where the arguments, and the package variables that the reading takes, are together of bulk at most 1048576: NARROWER than '..Said'. Prove '..Said' where nothing that the law and all that it calls make is longer than what came in: it says more and counts as full. Else prove '..UptoSaid'. A law counts once. -/
mutual
def uptoBulk {H : Type} : DataW H → Nat
  | .lit (.string bytes) => bytes.length + 1
  | .lit _ => 1
  | .nil => 1
  | .ptr d => uptoBulk d + 1
  | .slice elems spare => uptoBulkAll elems + uptoBulkAll spare + 1
  | .agg parts => uptoBulkAll parts + 1
  | .iface _ d => uptoBulk d + 1
  | .map entries => uptoBulkEntries entries + 1
  | .held _ => 1
def uptoBulkAll {H : Type} : List (DataW H) → Nat
  | [] => 0
  | d :: r => uptoBulk d + uptoBulkAll r
def uptoBulkEntries {H : Type} : List (Lit × DataW H) → Nat
  | [] => 0
  | x :: r => uptoBulkEntry x + uptoBulkEntries r
def uptoBulkEntry {H : Type} : Lit × DataW H → Nat
  | (.string bytes, d) => bytes.length + uptoBulk d + 1
  | (_, d) => uptoBulk d + 1
 end
def uptoSmall : (H : Type) → List (DataW H) → Bool := fun _ ds => decide (uptoBulkAll ds ≤ 1048576)
def OpenSpec.upto (s : _root_.Go.ChangeSpec) : _root_.Go.OpenSpec := { _root_.Go.OpenSpec.ofChange s with cond := some uptoSmall }

/-- 'limitrophelaw13.CourtSurveys', WHERE WHAT IT READS IS OF BULK AT MOST 1048576: true; the input reads as it did. -/
def courtSurveysUptoRow : OpenClaim := { program := "ytbchfakfdikkjaagreat", sum := "e63624c5ce822a37e2292a52c41e6f03ce2f90357925b5f0d149f8c740a1231a", func := "limitrophe/limitrophelaw13.CourtSurveys", spec := "courtSurveys", unfollowed := true, recurses := true, plainKeys := false, apart := false, narrowed := true }
def CourtSurveysUptoSaid : Prop := courtSurveysUptoRow.holds Tryz.pinned (OpenSpec.upto courtSurveysSpec)

/-- 'limitrophelaw13.CourtStands', WHERE WHAT IT READS IS OF BULK AT MOST 1048576: true; the input reads as it did. -/
def courtStandsUptoRow : OpenClaim := { program := "ytbchfakfdikkjaagreat", sum := "e63624c5ce822a37e2292a52c41e6f03ce2f90357925b5f0d149f8c740a1231a", func := "limitrophe/limitrophelaw13.CourtStands", spec := "courtStands", unfollowed := true, recurses := true, plainKeys := false, apart := false, narrowed := true }
def CourtStandsUptoSaid : Prop := courtStandsUptoRow.holds Tryz.pinned (OpenSpec.upto courtStandsSpec)

/-- 'limitrophelaw13.CourtSmall', WHERE WHAT IT READS IS OF BULK AT MOST 1048576: true; the input reads as it did. -/
def courtSmallUptoRow : OpenClaim := { program := "ytbchfakfdikkjaagreat", sum := "e63624c5ce822a37e2292a52c41e6f03ce2f90357925b5f0d149f8c740a1231a", func := "limitrophe/limitrophelaw13.CourtSmall", spec := "courtSmall", unfollowed := true, recurses := true, plainKeys := false, apart := false, narrowed := true }
def CourtSmallUptoSaid : Prop := courtSmallUptoRow.holds Tryz.pinned (OpenSpec.upto courtSmallSpec)

/-- 'limitrophelaw13.CourtSurveyed', WHERE WHAT IT READS IS OF BULK AT MOST 1048576: true; the input reads as it did. -/
def courtSurveyedUptoRow : OpenClaim := { program := "ytbchfakfdikkjaagreat", sum := "e63624c5ce822a37e2292a52c41e6f03ce2f90357925b5f0d149f8c740a1231a", func := "limitrophe/limitrophelaw13.CourtSurveyed", spec := "courtSurveyed", unfollowed := true, recurses := true, plainKeys := false, apart := false, narrowed := true }
def CourtSurveyedUptoSaid : Prop := courtSurveyedUptoRow.holds Tryz.pinned (OpenSpec.upto courtSurveyedSpec)

/-- 'limitrophelaw13.CourtNamed', WHERE WHAT IT READS IS OF BULK AT MOST 1048576: true; the input reads as it did. -/
def courtNamedUptoRow : OpenClaim := { program := "ytbchfakfdikkjaagreat", sum := "e63624c5ce822a37e2292a52c41e6f03ce2f90357925b5f0d149f8c740a1231a", func := "limitrophe/limitrophelaw13.CourtNamed", spec := "courtNamed", unfollowed := true, recurses := true, plainKeys := false, apart := false, narrowed := true }
def CourtNamedUptoSaid : Prop := courtNamedUptoRow.holds Tryz.pinned (OpenSpec.upto courtNamedSpec)

/-- 'limitrophelaw13.CourtAwarded', WHERE WHAT IT READS IS OF BULK AT MOST 1048576: true; the input reads as it did. -/
def courtAwardedUptoRow : OpenClaim := { program := "ytbchfakfdikkjaagreat", sum := "e63624c5ce822a37e2292a52c41e6f03ce2f90357925b5f0d149f8c740a1231a", func := "limitrophe/limitrophelaw13.CourtAwarded", spec := "courtAwarded", unfollowed := true, recurses := true, plainKeys := false, apart := false, narrowed := true }
def CourtAwardedUptoSaid : Prop := courtAwardedUptoRow.holds Tryz.pinned (OpenSpec.upto courtAwardedSpec)

/-- 'limitrophelaw13.CourtWon', WHERE WHAT IT READS IS OF BULK AT MOST 1048576: true; the input reads as it did. -/
def courtWonUptoRow : OpenClaim := { program := "ytbchfakfdikkjaagreat", sum := "e63624c5ce822a37e2292a52c41e6f03ce2f90357925b5f0d149f8c740a1231a", func := "limitrophe/limitrophelaw13.CourtWon", spec := "courtWon", unfollowed := true, recurses := true, plainKeys := false, apart := false, narrowed := true }
def CourtWonUptoSaid : Prop := courtWonUptoRow.holds Tryz.pinned (OpenSpec.upto courtWonSpec)

/-- 'limitrophelaw13.CourtStood', WHERE WHAT IT READS IS OF BULK AT MOST 1048576: true; the input reads as it did. -/
def courtStoodUptoRow : OpenClaim := { program := "ytbchfakfdikkjaagreat", sum := "e63624c5ce822a37e2292a52c41e6f03ce2f90357925b5f0d149f8c740a1231a", func := "limitrophe/limitrophelaw13.CourtStood", spec := "courtStood", unfollowed := true, recurses := true, plainKeys := false, apart := false, narrowed := true }
def CourtStoodUptoSaid : Prop := courtStoodUptoRow.holds Tryz.pinned (OpenSpec.upto courtStoodSpec)

end Rows
end Go.Proofs.YtbchfakfdikkjaaGreat
