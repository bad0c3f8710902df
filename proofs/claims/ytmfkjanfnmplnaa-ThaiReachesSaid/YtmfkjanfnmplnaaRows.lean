/-
  No cell of these rows narrows 'for every input' (looked for: loops, veiled, ifaces, maps, wideKeys, modest, calm, conditions, laid).
  DERIVED. THE GIVEN ROWS OF THIS SEAT. 7 by the template 'for every input the law returns true; each argument reads behind the call as it read before'; 0 by the template 'total and deterministic' (their statements: YtmfkjanfnmplnaaTotals.lean).
  GIVEN WITH THE SEED: the statements are not yours to turn. If you find one false, say at which input.
  Laid BY PROGRAM, IN A SANDBOX (cutbox-rows.mjs): the forced cells as the released guide's own fill.sh prints them over the translation 71deef61857c4bce… (all of the seat's roots in one cut). By AI agents, Wed Nov 11 2026. No macro, syntax, notation, axiom, sorry.
-/
import Derived.Test.YtmfkjanfnmplnaaChecked
import GoSem.Claim
import GoSem.ClaimJoined
import GoSem.ClaimMapViews
import Derived.JoinedTies
import Derived.KernelRfl
namespace Go.Proofs.Ytmfkjanfnmplnaa
/- THE CELL 'sum', in the pinned program and in every row, IS THE sha256 OF THE DUMP (.gsa) THAT YtmfkjanfnmplnaaProg.lean LOADS. Nothing in Lean hashes anything: it is a label: what it is worth is what the hold of that sum in a sandbox is worth. -/
noncomputable def Try.pinned : Pinned := { name := "ytmfkjanfnmplnaa", sum := "71deef61857c4bcea3588a8422ea4b690cc14d88f4ea12f8cc55dcc201afed08", checked := Try.checked }
namespace Rows
def none {H : Type} : Left H := { results := [], args := [] }

/-- 'scansionlaw19.CoverLeast': WHATEVER THE INPUT: true; the input reads as it did. -/
def coverLeastSpec : ChangeSpec := { name := "coverLeast", fn := fun _ => fun
  | [d1, d2, d3] => { results := [.lit (.bool true)], args := [d1, d2, d3] }
  | _ => none }
def coverLeastRow : OpenClaim := { program := "ytmfkjanfnmplnaa", sum := "71deef61857c4bcea3588a8422ea4b690cc14d88f4ea12f8cc55dcc201afed08", func := "scansion/scansionlaw19.CoverLeast", spec := "coverLeast", recurses := true, plainKeys := false, apart := false }
def CoverLeastSaid : Prop := coverLeastRow.holds Try.pinned (OpenSpec.ofChange coverLeastSpec)

/-- ITS FALSE NEIGHBOUR: 'it returns false'. Refute it at one input. -/
def coverLeastWrong : ChangeSpec := { name := "coverLeast", fn := fun _ => fun
  | [d1, d2, d3] => { results := [.lit (.bool false)], args := [d1, d2, d3] }
  | _ => none }
def CoverLeastWrongFalsely : Prop := coverLeastRow.holds Try.pinned (OpenSpec.ofChange coverLeastWrong)

/-- 'scansionlaw20.ThaiParts': WHATEVER THE INPUT: true; the input reads as it did. -/
def thaiPartsSpec : ChangeSpec := { name := "thaiParts", fn := fun _ => fun
  | [d1, d2] => { results := [.lit (.bool true)], args := [d1, d2] }
  | _ => none }
def thaiPartsRow : OpenClaim := { program := "ytmfkjanfnmplnaa", sum := "71deef61857c4bcea3588a8422ea4b690cc14d88f4ea12f8cc55dcc201afed08", func := "scansion/scansionlaw20.ThaiParts", spec := "thaiParts", unfollowed := true, recurses := true, plainKeys := false, apart := false }
def ThaiPartsSaid : Prop := thaiPartsRow.holds Try.pinned (OpenSpec.ofChange thaiPartsSpec)

/-- ITS FALSE NEIGHBOUR: 'it returns false'. Refute it at one input. -/
def thaiPartsWrong : ChangeSpec := { name := "thaiParts", fn := fun _ => fun
  | [d1, d2] => { results := [.lit (.bool false)], args := [d1, d2] }
  | _ => none }
def ThaiPartsWrongFalsely : Prop := thaiPartsRow.holds Try.pinned (OpenSpec.ofChange thaiPartsWrong)

/-- 'scansionlaw20.ThaiRises': WHATEVER THE INPUT: true; the input reads as it did. -/
def thaiRisesSpec : ChangeSpec := { name := "thaiRises", fn := fun _ => fun
  | [d1, d2] => { results := [.lit (.bool true)], args := [d1, d2] }
  | _ => none }
def thaiRisesRow : OpenClaim := { program := "ytmfkjanfnmplnaa", sum := "71deef61857c4bcea3588a8422ea4b690cc14d88f4ea12f8cc55dcc201afed08", func := "scansion/scansionlaw20.ThaiRises", spec := "thaiRises", unfollowed := true, recurses := true, plainKeys := false, apart := false }
def ThaiRisesSaid : Prop := thaiRisesRow.holds Try.pinned (OpenSpec.ofChange thaiRisesSpec)

/-- ITS FALSE NEIGHBOUR: 'it returns false'. Refute it at one input. -/
def thaiRisesWrong : ChangeSpec := { name := "thaiRises", fn := fun _ => fun
  | [d1, d2] => { results := [.lit (.bool false)], args := [d1, d2] }
  | _ => none }
def ThaiRisesWrongFalsely : Prop := thaiRisesRow.holds Try.pinned (OpenSpec.ofChange thaiRisesWrong)

/-- 'scansionlaw20.ThaiChain': WHATEVER THE INPUT: true; the input reads as it did. -/
def thaiChainSpec : ChangeSpec := { name := "thaiChain", fn := fun _ => fun
  | [d1, d2] => { results := [.lit (.bool true)], args := [d1, d2] }
  | _ => none }
def thaiChainRow : OpenClaim := { program := "ytmfkjanfnmplnaa", sum := "71deef61857c4bcea3588a8422ea4b690cc14d88f4ea12f8cc55dcc201afed08", func := "scansion/scansionlaw20.ThaiChain", spec := "thaiChain", unfollowed := true, recurses := true, plainKeys := false, apart := false }
def ThaiChainSaid : Prop := thaiChainRow.holds Try.pinned (OpenSpec.ofChange thaiChainSpec)

/-- ITS FALSE NEIGHBOUR: 'it returns false'. Refute it at one input. -/
def thaiChainWrong : ChangeSpec := { name := "thaiChain", fn := fun _ => fun
  | [d1, d2] => { results := [.lit (.bool false)], args := [d1, d2] }
  | _ => none }
def ThaiChainWrongFalsely : Prop := thaiChainRow.holds Try.pinned (OpenSpec.ofChange thaiChainWrong)

/-- 'scansionlaw20.ThaiTurned': WHATEVER THE INPUT: true; the input reads as it did. -/
def thaiTurnedSpec : ChangeSpec := { name := "thaiTurned", fn := fun _ => fun
  | [d1, d2] => { results := [.lit (.bool true)], args := [d1, d2] }
  | _ => none }
def thaiTurnedRow : OpenClaim := { program := "ytmfkjanfnmplnaa", sum := "71deef61857c4bcea3588a8422ea4b690cc14d88f4ea12f8cc55dcc201afed08", func := "scansion/scansionlaw20.ThaiTurned", spec := "thaiTurned", unfollowed := true, recurses := true, plainKeys := false, apart := false }
def ThaiTurnedSaid : Prop := thaiTurnedRow.holds Try.pinned (OpenSpec.ofChange thaiTurnedSpec)

/-- ITS FALSE NEIGHBOUR: 'it returns false'. Refute it at one input. -/
def thaiTurnedWrong : ChangeSpec := { name := "thaiTurned", fn := fun _ => fun
  | [d1, d2] => { results := [.lit (.bool false)], args := [d1, d2] }
  | _ => none }
def ThaiTurnedWrongFalsely : Prop := thaiTurnedRow.holds Try.pinned (OpenSpec.ofChange thaiTurnedWrong)

/-- 'scansionlaw20.ThaiReaches': WHATEVER THE INPUT: true; the input reads as it did. -/
def thaiReachesSpec : ChangeSpec := { name := "thaiReaches", fn := fun _ => fun
  | [d1, d2, d3] => { results := [.lit (.bool true)], args := [d1, d2, d3] }
  | _ => none }
def thaiReachesRow : OpenClaim := { program := "ytmfkjanfnmplnaa", sum := "71deef61857c4bcea3588a8422ea4b690cc14d88f4ea12f8cc55dcc201afed08", func := "scansion/scansionlaw20.ThaiReaches", spec := "thaiReaches", unfollowed := true, recurses := true, plainKeys := false, apart := false }
def ThaiReachesSaid : Prop := thaiReachesRow.holds Try.pinned (OpenSpec.ofChange thaiReachesSpec)

/-- ITS FALSE NEIGHBOUR: 'it returns false'. Refute it at one input. -/
def thaiReachesWrong : ChangeSpec := { name := "thaiReaches", fn := fun _ => fun
  | [d1, d2, d3] => { results := [.lit (.bool false)], args := [d1, d2, d3] }
  | _ => none }
def ThaiReachesWrongFalsely : Prop := thaiReachesRow.holds Try.pinned (OpenSpec.ofChange thaiReachesWrong)

/-- 'scansionlaw20.ThaiFar': WHATEVER THE INPUT: true; the input reads as it did. -/
def thaiFarSpec : ChangeSpec := { name := "thaiFar", fn := fun _ => fun
  | [d1, d2] => { results := [.lit (.bool true)], args := [d1, d2] }
  | _ => none }
def thaiFarRow : OpenClaim := { program := "ytmfkjanfnmplnaa", sum := "71deef61857c4bcea3588a8422ea4b690cc14d88f4ea12f8cc55dcc201afed08", func := "scansion/scansionlaw20.ThaiFar", spec := "thaiFar", unfollowed := true, recurses := true, plainKeys := false, apart := false }
def ThaiFarSaid : Prop := thaiFarRow.holds Try.pinned (OpenSpec.ofChange thaiFarSpec)

/-- ITS FALSE NEIGHBOUR: 'it returns false'. Refute it at one input. -/
def thaiFarWrong : ChangeSpec := { name := "thaiFar", fn := fun _ => fun
  | [d1, d2] => { results := [.lit (.bool false)], args := [d1, d2] }
  | _ => none }
def ThaiFarWrongFalsely : Prop := thaiFarRow.holds Try.pinned (OpenSpec.ofChange thaiFarWrong)

/- THE SECOND FORM. 'bulk': how many values and letters a reading holds, each counted each time it is reached (what is shared counts as often as it is met; a slice's spare places count too). A statement '..UptoSaid' is the law's where the arguments, and the package variables that the reading takes, are together of bulk at most 1048576: NARROWER than '..Said'. Prove '..Said' where nothing that the law and all that it calls make is longer than what came in: it says more and counts as full. Else prove '..UptoSaid'. A law counts once. -/
mutual
def uptoBulk {H : Type} : DataW H → Nat
  | .lit (.string bytes) => bytes.length + 1
  | .lit _ => 1
  | .nil => 1
  | .ptr d => uptoBulk d + 1
  | .slice elems spare => uptoBulkAll elems + uptoBulkAll spare + 1
  | .agg parts => uptoBulkAll parts + 1
  | .iface _ d => uptoBulk d + 1
  | .map entries => uptoBulkEntries entries + 1
  | .held _ => 1
def uptoBulkAll {H : Type} : List (DataW H) → Nat
  | [] => 0
  | d :: r => uptoBulk d + uptoBulkAll r
def uptoBulkEntries {H : Type} : List (Lit × DataW H) → Nat
  | [] => 0
  | x :: r => uptoBulkEntry x + uptoBulkEntries r
def uptoBulkEntry {H : Type} : Lit × DataW H → Nat
  | (.string bytes, d) => bytes.length + uptoBulk d + 1
  | (_, d) => uptoBulk d + 1
 end
def uptoSmall : (H : Type) → List (DataW H) → Bool := fun _ ds => decide (uptoBulkAll ds ≤ 1048576)
def OpenSpec.upto (s : _root_.Go.ChangeSpec) : _root_.Go.OpenSpec := { _root_.Go.OpenSpec.ofChange s with cond := some uptoSmall }

/-- 'scansionlaw19.CoverLeast', WHERE WHAT IT READS IS OF BULK AT MOST 1048576: true; the input reads as it did. -/
def coverLeastUptoRow : OpenClaim := { program := "ytmfkjanfnmplnaa", sum := "71deef61857c4bcea3588a8422ea4b690cc14d88f4ea12f8cc55dcc201afed08", func := "scansion/scansionlaw19.CoverLeast", spec := "coverLeast", recurses := true, plainKeys := false, apart := false, narrowed := true }
def CoverLeastUptoSaid : Prop := coverLeastUptoRow.holds Try.pinned (OpenSpec.upto coverLeastSpec)

/-- 'scansionlaw20.ThaiParts', WHERE WHAT IT READS IS OF BULK AT MOST 1048576: true; the input reads as it did. -/
def thaiPartsUptoRow : OpenClaim := { program := "ytmfkjanfnmplnaa", sum := "71deef61857c4bcea3588a8422ea4b690cc14d88f4ea12f8cc55dcc201afed08", func := "scansion/scansionlaw20.ThaiParts", spec := "thaiParts", unfollowed := true, recurses := true, plainKeys := false, apart := false, narrowed := true }
def ThaiPartsUptoSaid : Prop := thaiPartsUptoRow.holds Try.pinned (OpenSpec.upto thaiPartsSpec)

/-- 'scansionlaw20.ThaiRises', WHERE WHAT IT READS IS OF BULK AT MOST 1048576: true; the input reads as it did. -/
def thaiRisesUptoRow : OpenClaim := { program := "ytmfkjanfnmplnaa", sum := "71deef61857c4bcea3588a8422ea4b690cc14d88f4ea12f8cc55dcc201afed08", func := "scansion/scansionlaw20.ThaiRises", spec := "thaiRises", unfollowed := true, recurses := true, plainKeys := false, apart := false, narrowed := true }
def ThaiRisesUptoSaid : Prop := thaiRisesUptoRow.holds Try.pinned (OpenSpec.upto thaiRisesSpec)

/-- 'scansionlaw20.ThaiChain', WHERE WHAT IT READS IS OF BULK AT MOST 1048576: true; the input reads as it did. -/
def thaiChainUptoRow : OpenClaim := { program := "ytmfkjanfnmplnaa", sum := "71deef61857c4bcea3588a8422ea4b690cc14d88f4ea12f8cc55dcc201afed08", func := "scansion/scansionlaw20.ThaiChain", spec := "thaiChain", unfollowed := true, recurses := true, plainKeys := false, apart := false, narrowed := true }
def ThaiChainUptoSaid : Prop := thaiChainUptoRow.holds Try.pinned (OpenSpec.upto thaiChainSpec)

/-- 'scansionlaw20.ThaiTurned', WHERE WHAT IT READS IS OF BULK AT MOST 1048576: true; the input reads as it did. -/
def thaiTurnedUptoRow : OpenClaim := { program := "ytmfkjanfnmplnaa", sum := "71deef61857c4bcea3588a8422ea4b690cc14d88f4ea12f8cc55dcc201afed08", func := "scansion/scansionlaw20.ThaiTurned", spec := "thaiTurned", unfollowed := true, recurses := true, plainKeys := false, apart := false, narrowed := true }
def ThaiTurnedUptoSaid : Prop := thaiTurnedUptoRow.holds Try.pinned (OpenSpec.upto thaiTurnedSpec)

/-- 'scansionlaw20.ThaiReaches', WHERE WHAT IT READS IS OF BULK AT MOST 1048576: true; the input reads as it did. -/
def thaiReachesUptoRow : OpenClaim := { program := "ytmfkjanfnmplnaa", sum := "71deef61857c4bcea3588a8422ea4b690cc14d88f4ea12f8cc55dcc201afed08", func := "scansion/scansionlaw20.ThaiReaches", spec := "thaiReaches", unfollowed := true, recurses := true, plainKeys := false, apart := false, narrowed := true }
def ThaiReachesUptoSaid : Prop := thaiReachesUptoRow.holds Try.pinned (OpenSpec.upto thaiReachesSpec)

/-- 'scansionlaw20.ThaiFar', WHERE WHAT IT READS IS OF BULK AT MOST 1048576: true; the input reads as it did. -/
def thaiFarUptoRow : OpenClaim := { program := "ytmfkjanfnmplnaa", sum := "71deef61857c4bcea3588a8422ea4b690cc14d88f4ea12f8cc55dcc201afed08", func := "scansion/scansionlaw20.ThaiFar", spec := "thaiFar", unfollowed := true, recurses := true, plainKeys := false, apart := false, narrowed := true }
def ThaiFarUptoSaid : Prop := thaiFarUptoRow.holds Try.pinned (OpenSpec.upto thaiFarSpec)

end Rows
end Go.Proofs.Ytmfkjanfnmplnaa
