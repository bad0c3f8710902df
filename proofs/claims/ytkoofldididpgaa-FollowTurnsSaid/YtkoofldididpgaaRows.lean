/-
  NARROWER THAN 'FOR EVERY INPUT', by the rows' own cells (each row's printed sentence says how): FollowBuilds: loops · FollowPlaces: loops · FollowTurns: loops · SubsetBuilds: loops · SubsetMet: loops · SubsetWords: loops · SubsetFree: loops · MatchSigns: loops · MatchAlts: loops · FollowSteps: loops · FollowWords: loops.
  DERIVED. THE GIVEN ROWS OF THIS SEAT. 13 by the template 'for every input the law returns true; each argument reads behind the call as it read before'; 0 by the template 'total and deterministic' (their statements: YtkoofldididpgaaTotals.lean).
  GIVEN WITH THE SEED: the statements are not yours to turn. If you find one false, say at which input.
  Laid BY PROGRAM, IN A SANDBOX (cutbox-rows.mjs): the forced cells as the released guide's own fill.sh prints them over the translation b9cf7c1167a74e8c… (all of the seat's roots in one cut). By AI agents, Wed Nov 11 2026. No macro, syntax, notation, axiom, sorry.
-/
import Derived.Test.YtkoofldididpgaaChecked
import GoSem.Claim
import GoSem.ClaimJoined
import GoSem.ClaimMapViews
import Derived.JoinedTies
import Derived.KernelRfl
namespace Go.Proofs.Ytkoofldididpgaa
/- THE CELL 'sum', in the pinned program and in every row, IS THE sha256 OF THE DUMP (.gsa) THAT YtkoofldididpgaaProg.lean LOADS. Nothing in Lean hashes anything: it is a label: what it is worth is what the hold of that sum in a sandbox is worth. -/
noncomputable def Try.pinned : Pinned := { name := "ytkoofldididpgaa", sum := "b9cf7c1167a74e8c8a62a59fa1b7dc8061e560daecd42c7bf32bbd0b5110cf3d", checked := Try.checked }
namespace Rows
def none {H : Type} : Left H := { results := [], args := [] }

/-- 'scansionlaw11.FollowBuilds': WHATEVER THE INPUT: true; the input reads as it did. -/
def followBuildsSpec : ChangeSpec := { name := "followBuilds", fn := fun _ => fun
  | [d] => { results := [.lit (.bool true)], args := [d] }
  | _ => none }
def followBuildsRow : OpenClaim := { program := "ytkoofldididpgaa", sum := "b9cf7c1167a74e8c8a62a59fa1b7dc8061e560daecd42c7bf32bbd0b5110cf3d", func := "scansion/scansionlaw11.FollowBuilds", spec := "followBuilds", unfollowed := true, recurses := true, loops := true, apart := false }
def FollowBuildsSaid : Prop := followBuildsRow.holds Try.pinned (OpenSpec.ofChange followBuildsSpec)

/-- ITS FALSE NEIGHBOUR: 'it returns false'. Refute it at one input. -/
def followBuildsWrong : ChangeSpec := { name := "followBuilds", fn := fun _ => fun
  | [d] => { results := [.lit (.bool false)], args := [d] }
  | _ => none }
def FollowBuildsWrongFalsely : Prop := followBuildsRow.holds Try.pinned (OpenSpec.ofChange followBuildsWrong)

/-- 'scansionlaw11.FollowPlaces': WHATEVER THE INPUT: true; the input reads as it did. -/
def followPlacesSpec : ChangeSpec := { name := "followPlaces", fn := fun _ => fun
  | [d] => { results := [.lit (.bool true)], args := [d] }
  | _ => none }
def followPlacesRow : OpenClaim := { program := "ytkoofldididpgaa", sum := "b9cf7c1167a74e8c8a62a59fa1b7dc8061e560daecd42c7bf32bbd0b5110cf3d", func := "scansion/scansionlaw11.FollowPlaces", spec := "followPlaces", unfollowed := true, recurses := true, loops := true, apart := false }
def FollowPlacesSaid : Prop := followPlacesRow.holds Try.pinned (OpenSpec.ofChange followPlacesSpec)

/-- ITS FALSE NEIGHBOUR: 'it returns false'. Refute it at one input. -/
def followPlacesWrong : ChangeSpec := { name := "followPlaces", fn := fun _ => fun
  | [d] => { results := [.lit (.bool false)], args := [d] }
  | _ => none }
def FollowPlacesWrongFalsely : Prop := followPlacesRow.holds Try.pinned (OpenSpec.ofChange followPlacesWrong)

/-- 'scansionlaw11.FollowTurns': WHATEVER THE INPUT: true; the input reads as it did. -/
def followTurnsSpec : ChangeSpec := { name := "followTurns", fn := fun _ => fun
  | [d] => { results := [.lit (.bool true)], args := [d] }
  | _ => none }
def followTurnsRow : OpenClaim := { program := "ytkoofldididpgaa", sum := "b9cf7c1167a74e8c8a62a59fa1b7dc8061e560daecd42c7bf32bbd0b5110cf3d", func := "scansion/scansionlaw11.FollowTurns", spec := "followTurns", unfollowed := true, recurses := true, loops := true, apart := false }
def FollowTurnsSaid : Prop := followTurnsRow.holds Try.pinned (OpenSpec.ofChange followTurnsSpec)

/-- ITS FALSE NEIGHBOUR: 'it returns false'. Refute it at one input. -/
def followTurnsWrong : ChangeSpec := { name := "followTurns", fn := fun _ => fun
  | [d] => { results := [.lit (.bool false)], args := [d] }
  | _ => none }
def FollowTurnsWrongFalsely : Prop := followTurnsRow.holds Try.pinned (OpenSpec.ofChange followTurnsWrong)

/-- 'scansionlaw12.SubsetBuilds': WHATEVER THE INPUT: true; the input reads as it did. -/
def subsetBuildsSpec : ChangeSpec := { name := "subsetBuilds", fn := fun _ => fun
  | [d1, d2, d3] => { results := [.lit (.bool true)], args := [d1, d2, d3] }
  | _ => none }
def subsetBuildsRow : OpenClaim := { program := "ytkoofldididpgaa", sum := "b9cf7c1167a74e8c8a62a59fa1b7dc8061e560daecd42c7bf32bbd0b5110cf3d", func := "scansion/scansionlaw12.SubsetBuilds", spec := "subsetBuilds", unfollowed := true, recurses := true, loops := true, apart := false }
def SubsetBuildsSaid : Prop := subsetBuildsRow.holds Try.pinned (OpenSpec.ofChange subsetBuildsSpec)

/-- ITS FALSE NEIGHBOUR: 'it returns false'. Refute it at one input. -/
def subsetBuildsWrong : ChangeSpec := { name := "subsetBuilds", fn := fun _ => fun
  | [d1, d2, d3] => { results := [.lit (.bool false)], args := [d1, d2, d3] }
  | _ => none }
def SubsetBuildsWrongFalsely : Prop := subsetBuildsRow.holds Try.pinned (OpenSpec.ofChange subsetBuildsWrong)

/-- 'scansionlaw12.SubsetMet': WHATEVER THE INPUT: true; the input reads as it did. -/
def subsetMetSpec : ChangeSpec := { name := "subsetMet", fn := fun _ => fun
  | [d1, d2, d3] => { results := [.lit (.bool true)], args := [d1, d2, d3] }
  | _ => none }
def subsetMetRow : OpenClaim := { program := "ytkoofldididpgaa", sum := "b9cf7c1167a74e8c8a62a59fa1b7dc8061e560daecd42c7bf32bbd0b5110cf3d", func := "scansion/scansionlaw12.SubsetMet", spec := "subsetMet", unfollowed := true, recurses := true, loops := true, apart := false }
def SubsetMetSaid : Prop := subsetMetRow.holds Try.pinned (OpenSpec.ofChange subsetMetSpec)

/-- ITS FALSE NEIGHBOUR: 'it returns false'. Refute it at one input. -/
def subsetMetWrong : ChangeSpec := { name := "subsetMet", fn := fun _ => fun
  | [d1, d2, d3] => { results := [.lit (.bool false)], args := [d1, d2, d3] }
  | _ => none }
def SubsetMetWrongFalsely : Prop := subsetMetRow.holds Try.pinned (OpenSpec.ofChange subsetMetWrong)

/-- 'scansionlaw12.SubsetRuns': WHATEVER THE INPUT: true; the input reads as it did. -/
def subsetRunsSpec : ChangeSpec := { name := "subsetRuns", fn := fun _ => fun
  | [d1, d2, d3] => { results := [.lit (.bool true)], args := [d1, d2, d3] }
  | _ => none }
def subsetRunsRow : OpenClaim := { program := "ytkoofldididpgaa", sum := "b9cf7c1167a74e8c8a62a59fa1b7dc8061e560daecd42c7bf32bbd0b5110cf3d", func := "scansion/scansionlaw12.SubsetRuns", spec := "subsetRuns", unfollowed := true, recurses := true, apart := false }
def SubsetRunsSaid : Prop := subsetRunsRow.holds Try.pinned (OpenSpec.ofChange subsetRunsSpec)

/-- ITS FALSE NEIGHBOUR: 'it returns false'. Refute it at one input. -/
def subsetRunsWrong : ChangeSpec := { name := "subsetRuns", fn := fun _ => fun
  | [d1, d2, d3] => { results := [.lit (.bool false)], args := [d1, d2, d3] }
  | _ => none }
def SubsetRunsWrongFalsely : Prop := subsetRunsRow.holds Try.pinned (OpenSpec.ofChange subsetRunsWrong)

/-- 'scansionlaw12.SubsetWords': WHATEVER THE INPUT: true; the input reads as it did. -/
def subsetWordsSpec : ChangeSpec := { name := "subsetWords", fn := fun _ => fun
  | [d1, d2, d3] => { results := [.lit (.bool true)], args := [d1, d2, d3] }
  | _ => none }
def subsetWordsRow : OpenClaim := { program := "ytkoofldididpgaa", sum := "b9cf7c1167a74e8c8a62a59fa1b7dc8061e560daecd42c7bf32bbd0b5110cf3d", func := "scansion/scansionlaw12.SubsetWords", spec := "subsetWords", unfollowed := true, recurses := true, loops := true, apart := false }
def SubsetWordsSaid : Prop := subsetWordsRow.holds Try.pinned (OpenSpec.ofChange subsetWordsSpec)

/-- ITS FALSE NEIGHBOUR: 'it returns false'. Refute it at one input. -/
def subsetWordsWrong : ChangeSpec := { name := "subsetWords", fn := fun _ => fun
  | [d1, d2, d3] => { results := [.lit (.bool false)], args := [d1, d2, d3] }
  | _ => none }
def SubsetWordsWrongFalsely : Prop := subsetWordsRow.holds Try.pinned (OpenSpec.ofChange subsetWordsWrong)

/-- 'scansionlaw12.SubsetParts': WHATEVER THE INPUT: true; the input reads as it did. -/
def subsetPartsSpec : ChangeSpec := { name := "subsetParts", fn := fun _ => fun
  | [d1, d2, d3] => { results := [.lit (.bool true)], args := [d1, d2, d3] }
  | _ => none }
def subsetPartsRow : OpenClaim := { program := "ytkoofldididpgaa", sum := "b9cf7c1167a74e8c8a62a59fa1b7dc8061e560daecd42c7bf32bbd0b5110cf3d", func := "scansion/scansionlaw12.SubsetParts", spec := "subsetParts", unfollowed := true, recurses := true, apart := false }
def SubsetPartsSaid : Prop := subsetPartsRow.holds Try.pinned (OpenSpec.ofChange subsetPartsSpec)

/-- ITS FALSE NEIGHBOUR: 'it returns false'. Refute it at one input. -/
def subsetPartsWrong : ChangeSpec := { name := "subsetParts", fn := fun _ => fun
  | [d1, d2, d3] => { results := [.lit (.bool false)], args := [d1, d2, d3] }
  | _ => none }
def SubsetPartsWrongFalsely : Prop := subsetPartsRow.holds Try.pinned (OpenSpec.ofChange subsetPartsWrong)

/-- 'scansionlaw12.SubsetFree': WHATEVER THE INPUT: true; the input reads as it did. -/
def subsetFreeSpec : ChangeSpec := { name := "subsetFree", fn := fun _ => fun
  | [d1, d2, d3] => { results := [.lit (.bool true)], args := [d1, d2, d3] }
  | _ => none }
def subsetFreeRow : OpenClaim := { program := "ytkoofldididpgaa", sum := "b9cf7c1167a74e8c8a62a59fa1b7dc8061e560daecd42c7bf32bbd0b5110cf3d", func := "scansion/scansionlaw12.SubsetFree", spec := "subsetFree", unfollowed := true, recurses := true, loops := true, apart := false }
def SubsetFreeSaid : Prop := subsetFreeRow.holds Try.pinned (OpenSpec.ofChange subsetFreeSpec)

/-- ITS FALSE NEIGHBOUR: 'it returns false'. Refute it at one input. -/
def subsetFreeWrong : ChangeSpec := { name := "subsetFree", fn := fun _ => fun
  | [d1, d2, d3] => { results := [.lit (.bool false)], args := [d1, d2, d3] }
  | _ => none }
def SubsetFreeWrongFalsely : Prop := subsetFreeRow.holds Try.pinned (OpenSpec.ofChange subsetFreeWrong)

/-- 'scansionlaw10.MatchSigns': WHATEVER THE INPUT: true; the input reads as it did. -/
def matchSignsSpec : ChangeSpec := { name := "matchSigns", fn := fun _ => fun
  | [d1, d2] => { results := [.lit (.bool true)], args := [d1, d2] }
  | _ => none }
def matchSignsRow : OpenClaim := { program := "ytkoofldididpgaa", sum := "b9cf7c1167a74e8c8a62a59fa1b7dc8061e560daecd42c7bf32bbd0b5110cf3d", func := "scansion/scansionlaw10.MatchSigns", spec := "matchSigns", unfollowed := true, recurses := true, loops := true, apart := false }
def MatchSignsSaid : Prop := matchSignsRow.holds Try.pinned (OpenSpec.ofChange matchSignsSpec)

/-- ITS FALSE NEIGHBOUR: 'it returns false'. Refute it at one input. -/
def matchSignsWrong : ChangeSpec := { name := "matchSigns", fn := fun _ => fun
  | [d1, d2] => { results := [.lit (.bool false)], args := [d1, d2] }
  | _ => none }
def MatchSignsWrongFalsely : Prop := matchSignsRow.holds Try.pinned (OpenSpec.ofChange matchSignsWrong)

/-- 'scansionlaw10.MatchAlts': WHATEVER THE INPUT: true; the input reads as it did. -/
def matchAltsSpec : ChangeSpec := { name := "matchAlts", fn := fun _ => fun
  | [d1, d2, d3] => { results := [.lit (.bool true)], args := [d1, d2, d3] }
  | _ => none }
def matchAltsRow : OpenClaim := { program := "ytkoofldididpgaa", sum := "b9cf7c1167a74e8c8a62a59fa1b7dc8061e560daecd42c7bf32bbd0b5110cf3d", func := "scansion/scansionlaw10.MatchAlts", spec := "matchAlts", unfollowed := true, recurses := true, loops := true, apart := false }
def MatchAltsSaid : Prop := matchAltsRow.holds Try.pinned (OpenSpec.ofChange matchAltsSpec)

/-- ITS FALSE NEIGHBOUR: 'it returns false'. Refute it at one input. -/
def matchAltsWrong : ChangeSpec := { name := "matchAlts", fn := fun _ => fun
  | [d1, d2, d3] => { results := [.lit (.bool false)], args := [d1, d2, d3] }
  | _ => none }
def MatchAltsWrongFalsely : Prop := matchAltsRow.holds Try.pinned (OpenSpec.ofChange matchAltsWrong)

/-- 'scansionlaw11.FollowSteps': WHATEVER THE INPUT: true; the input reads as it did. -/
def followStepsSpec : ChangeSpec := { name := "followSteps", fn := fun _ => fun
  | [d1, d2] => { results := [.lit (.bool true)], args := [d1, d2] }
  | _ => none }
def followStepsRow : OpenClaim := { program := "ytkoofldididpgaa", sum := "b9cf7c1167a74e8c8a62a59fa1b7dc8061e560daecd42c7bf32bbd0b5110cf3d", func := "scansion/scansionlaw11.FollowSteps", spec := "followSteps", unfollowed := true, recurses := true, loops := true, apart := false }
def FollowStepsSaid : Prop := followStepsRow.holds Try.pinned (OpenSpec.ofChange followStepsSpec)

/-- ITS FALSE NEIGHBOUR: 'it returns false'. Refute it at one input. -/
def followStepsWrong : ChangeSpec := { name := "followSteps", fn := fun _ => fun
  | [d1, d2] => { results := [.lit (.bool false)], args := [d1, d2] }
  | _ => none }
def FollowStepsWrongFalsely : Prop := followStepsRow.holds Try.pinned (OpenSpec.ofChange followStepsWrong)

/-- 'scansionlaw11.FollowWords': WHATEVER THE INPUT: true; the input reads as it did. -/
def followWordsSpec : ChangeSpec := { name := "followWords", fn := fun _ => fun
  | [d1, d2] => { results := [.lit (.bool true)], args := [d1, d2] }
  | _ => none }
def followWordsRow : OpenClaim := { program := "ytkoofldididpgaa", sum := "b9cf7c1167a74e8c8a62a59fa1b7dc8061e560daecd42c7bf32bbd0b5110cf3d", func := "scansion/scansionlaw11.FollowWords", spec := "followWords", unfollowed := true, recurses := true, loops := true, apart := false }
def FollowWordsSaid : Prop := followWordsRow.holds Try.pinned (OpenSpec.ofChange followWordsSpec)

/-- ITS FALSE NEIGHBOUR: 'it returns false'. Refute it at one input. -/
def followWordsWrong : ChangeSpec := { name := "followWords", fn := fun _ => fun
  | [d1, d2] => { results := [.lit (.bool false)], args := [d1, d2] }
  | _ => none }
def FollowWordsWrongFalsely : Prop := followWordsRow.holds Try.pinned (OpenSpec.ofChange followWordsWrong)

/- THE SECOND FORM. 'bulk': how many values and letters a reading holds, each counted each time it is reached (what is shared counts as often as it is met; a slice's spare places count too). A statement '..UptoSaid' is the law's where the arguments, and the package variables that the reading takes, are together of bulk at most 1048576: NARROWER than '..Said'. Prove '..Said' where nothing that the law and all that it calls make is longer than what came in: it says more and counts as full. Else prove '..UptoSaid'. A law counts once. -/
mutual
def uptoBulk {H : Type} : DataW H → Nat
  | .lit (.string bytes) => bytes.length + 1
  | .lit _ => 1
  | .nil => 1
  | .ptr d => uptoBulk d + 1
  | .slice elems spare => uptoBulkAll elems + uptoBulkAll spare + 1
  | .agg parts => uptoBulkAll parts + 1
  | .iface _ d => uptoBulk d + 1
  | .map entries => uptoBulkEntries entries + 1
  | .held _ => 1
def uptoBulkAll {H : Type} : List (DataW H) → Nat
  | [] => 0
  | d :: r => uptoBulk d + uptoBulkAll r
def uptoBulkEntries {H : Type} : List (Lit × DataW H) → Nat
  | [] => 0
  | x :: r => uptoBulkEntry x + uptoBulkEntries r
def uptoBulkEntry {H : Type} : Lit × DataW H → Nat
  | (.string bytes, d) => bytes.length + uptoBulk d + 1
  | (_, d) => uptoBulk d + 1
 end
def uptoSmall : (H : Type) → List (DataW H) → Bool := fun _ ds => decide (uptoBulkAll ds ≤ 1048576)
def OpenSpec.upto (s : _root_.Go.ChangeSpec) : _root_.Go.OpenSpec := { _root_.Go.OpenSpec.ofChange s with cond := some uptoSmall }

/-- 'scansionlaw11.FollowBuilds', WHERE WHAT IT READS IS OF BULK AT MOST 1048576: true; the input reads as it did. -/
def followBuildsUptoRow : OpenClaim := { program := "ytkoofldididpgaa", sum := "b9cf7c1167a74e8c8a62a59fa1b7dc8061e560daecd42c7bf32bbd0b5110cf3d", func := "scansion/scansionlaw11.FollowBuilds", spec := "followBuilds", unfollowed := true, recurses := true, loops := true, apart := false, narrowed := true }
def FollowBuildsUptoSaid : Prop := followBuildsUptoRow.holds Try.pinned (OpenSpec.upto followBuildsSpec)

/-- 'scansionlaw11.FollowPlaces', WHERE WHAT IT READS IS OF BULK AT MOST 1048576: true; the input reads as it did. -/
def followPlacesUptoRow : OpenClaim := { program := "ytkoofldididpgaa", sum := "b9cf7c1167a74e8c8a62a59fa1b7dc8061e560daecd42c7bf32bbd0b5110cf3d", func := "scansion/scansionlaw11.FollowPlaces", spec := "followPlaces", unfollowed := true, recurses := true, loops := true, apart := false, narrowed := true }
def FollowPlacesUptoSaid : Prop := followPlacesUptoRow.holds Try.pinned (OpenSpec.upto followPlacesSpec)

/-- 'scansionlaw11.FollowTurns', WHERE WHAT IT READS IS OF BULK AT MOST 1048576: true; the input reads as it did. -/
def followTurnsUptoRow : OpenClaim := { program := "ytkoofldididpgaa", sum := "b9cf7c1167a74e8c8a62a59fa1b7dc8061e560daecd42c7bf32bbd0b5110cf3d", func := "scansion/scansionlaw11.FollowTurns", spec := "followTurns", unfollowed := true, recurses := true, loops := true, apart := false, narrowed := true }
def FollowTurnsUptoSaid : Prop := followTurnsUptoRow.holds Try.pinned (OpenSpec.upto followTurnsSpec)

/-- 'scansionlaw12.SubsetBuilds', WHERE WHAT IT READS IS OF BULK AT MOST 1048576: true; the input reads as it did. -/
def subsetBuildsUptoRow : OpenClaim := { program := "ytkoofldididpgaa", sum := "b9cf7c1167a74e8c8a62a59fa1b7dc8061e560daecd42c7bf32bbd0b5110cf3d", func := "scansion/scansionlaw12.SubsetBuilds", spec := "subsetBuilds", unfollowed := true, recurses := true, loops := true, apart := false, narrowed := true }
def SubsetBuildsUptoSaid : Prop := subsetBuildsUptoRow.holds Try.pinned (OpenSpec.upto subsetBuildsSpec)

/-- 'scansionlaw12.SubsetMet', WHERE WHAT IT READS IS OF BULK AT MOST 1048576: true; the input reads as it did. -/
def subsetMetUptoRow : OpenClaim := { program := "ytkoofldididpgaa", sum := "b9cf7c1167a74e8c8a62a59fa1b7dc8061e560daecd42c7bf32bbd0b5110cf3d", func := "scansion/scansionlaw12.SubsetMet", spec := "subsetMet", unfollowed := true, recurses := true, loops := true, apart := false, narrowed := true }
def SubsetMetUptoSaid : Prop := subsetMetUptoRow.holds Try.pinned (OpenSpec.upto subsetMetSpec)

/-- 'scansionlaw12.SubsetRuns', WHERE WHAT IT READS IS OF BULK AT MOST 1048576: true; the input reads as it did. -/
def subsetRunsUptoRow : OpenClaim := { program := "ytkoofldididpgaa", sum := "b9cf7c1167a74e8c8a62a59fa1b7dc8061e560daecd42c7bf32bbd0b5110cf3d", func := "scansion/scansionlaw12.SubsetRuns", spec := "subsetRuns", unfollowed := true, recurses := true, apart := false, narrowed := true }
def SubsetRunsUptoSaid : Prop := subsetRunsUptoRow.holds Try.pinned (OpenSpec.upto subsetRunsSpec)

/-- 'scansionlaw12.SubsetWords', WHERE WHAT IT READS IS OF BULK AT MOST 1048576: true; the input reads as it did. -/
def subsetWordsUptoRow : OpenClaim := { program := "ytkoofldididpgaa", sum := "b9cf7c1167a74e8c8a62a59fa1b7dc8061e560daecd42c7bf32bbd0b5110cf3d", func := "scansion/scansionlaw12.SubsetWords", spec := "subsetWords", unfollowed := true, recurses := true, loops := true, apart := false, narrowed := true }
def SubsetWordsUptoSaid : Prop := subsetWordsUptoRow.holds Try.pinned (OpenSpec.upto subsetWordsSpec)

/-- 'scansionlaw12.SubsetParts', WHERE WHAT IT READS IS OF BULK AT MOST 1048576: true; the input reads as it did. -/
def subsetPartsUptoRow : OpenClaim := { program := "ytkoofldididpgaa", sum := "b9cf7c1167a74e8c8a62a59fa1b7dc8061e560daecd42c7bf32bbd0b5110cf3d", func := "scansion/scansionlaw12.SubsetParts", spec := "subsetParts", unfollowed := true, recurses := true, apart := false, narrowed := true }
def SubsetPartsUptoSaid : Prop := subsetPartsUptoRow.holds Try.pinned (OpenSpec.upto subsetPartsSpec)

/-- 'scansionlaw12.SubsetFree', WHERE WHAT IT READS IS OF BULK AT MOST 1048576: true; the input reads as it did. -/
def subsetFreeUptoRow : OpenClaim := { program := "ytkoofldididpgaa", sum := "b9cf7c1167a74e8c8a62a59fa1b7dc8061e560daecd42c7bf32bbd0b5110cf3d", func := "scansion/scansionlaw12.SubsetFree", spec := "subsetFree", unfollowed := true, recurses := true, loops := true, apart := false, narrowed := true }
def SubsetFreeUptoSaid : Prop := subsetFreeUptoRow.holds Try.pinned (OpenSpec.upto subsetFreeSpec)

/-- 'scansionlaw10.MatchSigns', WHERE WHAT IT READS IS OF BULK AT MOST 1048576: true; the input reads as it did. -/
def matchSignsUptoRow : OpenClaim := { program := "ytkoofldididpgaa", sum := "b9cf7c1167a74e8c8a62a59fa1b7dc8061e560daecd42c7bf32bbd0b5110cf3d", func := "scansion/scansionlaw10.MatchSigns", spec := "matchSigns", unfollowed := true, recurses := true, loops := true, apart := false, narrowed := true }
def MatchSignsUptoSaid : Prop := matchSignsUptoRow.holds Try.pinned (OpenSpec.upto matchSignsSpec)

/-- 'scansionlaw10.MatchAlts', WHERE WHAT IT READS IS OF BULK AT MOST 1048576: true; the input reads as it did. -/
def matchAltsUptoRow : OpenClaim := { program := "ytkoofldididpgaa", sum := "b9cf7c1167a74e8c8a62a59fa1b7dc8061e560daecd42c7bf32bbd0b5110cf3d", func := "scansion/scansionlaw10.MatchAlts", spec := "matchAlts", unfollowed := true, recurses := true, loops := true, apart := false, narrowed := true }
def MatchAltsUptoSaid : Prop := matchAltsUptoRow.holds Try.pinned (OpenSpec.upto matchAltsSpec)

/-- 'scansionlaw11.FollowSteps', WHERE WHAT IT READS IS OF BULK AT MOST 1048576: true; the input reads as it did. -/
def followStepsUptoRow : OpenClaim := { program := "ytkoofldididpgaa", sum := "b9cf7c1167a74e8c8a62a59fa1b7dc8061e560daecd42c7bf32bbd0b5110cf3d", func := "scansion/scansionlaw11.FollowSteps", spec := "followSteps", unfollowed := true, recurses := true, loops := true, apart := false, narrowed := true }
def FollowStepsUptoSaid : Prop := followStepsUptoRow.holds Try.pinned (OpenSpec.upto followStepsSpec)

/-- 'scansionlaw11.FollowWords', WHERE WHAT IT READS IS OF BULK AT MOST 1048576: true; the input reads as it did. -/
def followWordsUptoRow : OpenClaim := { program := "ytkoofldididpgaa", sum := "b9cf7c1167a74e8c8a62a59fa1b7dc8061e560daecd42c7bf32bbd0b5110cf3d", func := "scansion/scansionlaw11.FollowWords", spec := "followWords", unfollowed := true, recurses := true, loops := true, apart := false, narrowed := true }
def FollowWordsUptoSaid : Prop := followWordsUptoRow.holds Try.pinned (OpenSpec.upto followWordsSpec)

end Rows
end Go.Proofs.Ytkoofldididpgaa
