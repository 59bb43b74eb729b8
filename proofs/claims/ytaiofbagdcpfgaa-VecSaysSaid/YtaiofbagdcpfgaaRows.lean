/-
  No cell of these rows narrows 'for every input' (looked for: loops, veiled, ifaces, maps, wideKeys, modest, calm, conditions, laid).
  DERIVED. THE GIVEN ROWS OF THIS SEAT. 18 by the template 'for every input the law returns true; each argument reads behind the call as it read before'; 0 by the template 'total and deterministic' (their statements: YtaiofbagdcpfgaaTotals.lean).
  GIVEN WITH THE SEED: the statements are not yours to turn. If you find one false, say at which input.
  Laid BY PROGRAM, IN A SANDBOX (cutbox-rows.mjs): the forced cells as the released guide's own fill.sh prints them over the translation e337891ca0c62b55… (all of the seat's roots in one cut). By AI agents, Wed Nov 11 2026. No macro, syntax, notation, axiom, sorry.
-/
import Derived.Test.YtaiofbagdcpfgaaChecked
import GoSem.Claim
import GoSem.ClaimJoined
import GoSem.ClaimMapViews
import Derived.JoinedTies
import Derived.KernelRfl
namespace Go.Proofs.Ytaiofbagdcpfgaa
/- THE CELL 'sum', in the pinned program and in every row, IS THE sha256 OF THE DUMP (.gsa) THAT YtaiofbagdcpfgaaProg.lean LOADS. Nothing in Lean hashes anything: it is a label: what it is worth is what the hold of that sum in a sandbox is worth. -/
noncomputable def Try.pinned : Pinned := { name := "ytaiofbagdcpfgaa", sum := "e337891ca0c62b559ab95d6da7252a62bf4f7bc13cd6671d65146e437877a08e", checked := Try.checked }
namespace Rows
def none {H : Type} : Left H := { results := [], args := [] }

/-- 'rostrumlaw10.TallyApart': WHATEVER THE INPUT: true; the input reads as it did. -/
def tallyApartSpec : ChangeSpec := { name := "tallyApart", fn := fun _ => fun
  | [d1, d2] => { results := [.lit (.bool true)], args := [d1, d2] }
  | _ => none }
def tallyApartRow : OpenClaim := { program := "ytaiofbagdcpfgaa", sum := "e337891ca0c62b559ab95d6da7252a62bf4f7bc13cd6671d65146e437877a08e", func := "rostrum/rostrumlaw10.TallyApart", spec := "tallyApart", apart := false }
def TallyApartSaid : Prop := tallyApartRow.holds Try.pinned (OpenSpec.ofChange tallyApartSpec)

/-- ITS FALSE NEIGHBOUR: 'it returns false'. Refute it at one input. -/
def tallyApartWrong : ChangeSpec := { name := "tallyApart", fn := fun _ => fun
  | [d1, d2] => { results := [.lit (.bool false)], args := [d1, d2] }
  | _ => none }
def TallyApartWrongFalsely : Prop := tallyApartRow.holds Try.pinned (OpenSpec.ofChange tallyApartWrong)

/-- 'rostrumlaw4.PackFew': WHATEVER THE INPUT: true; the input reads as it did. -/
def packFewSpec : ChangeSpec := { name := "packFew", fn := fun _ => fun
  | [d1, d2, d3, d4] => { results := [.lit (.bool true)], args := [d1, d2, d3, d4] }
  | _ => none }
def packFewRow : OpenClaim := { program := "ytaiofbagdcpfgaa", sum := "e337891ca0c62b559ab95d6da7252a62bf4f7bc13cd6671d65146e437877a08e", func := "rostrum/rostrumlaw4.PackFew", spec := "packFew", apart := false }
def PackFewSaid : Prop := packFewRow.holds Try.pinned (OpenSpec.ofChange packFewSpec)

/-- ITS FALSE NEIGHBOUR: 'it returns false'. Refute it at one input. -/
def packFewWrong : ChangeSpec := { name := "packFew", fn := fun _ => fun
  | [d1, d2, d3, d4] => { results := [.lit (.bool false)], args := [d1, d2, d3, d4] }
  | _ => none }
def PackFewWrongFalsely : Prop := packFewRow.holds Try.pinned (OpenSpec.ofChange packFewWrong)

/-- 'rostrumlaw4.PackParts': WHATEVER THE INPUT: true; the input reads as it did. -/
def packPartsSpec : ChangeSpec := { name := "packParts", fn := fun _ => fun
  | [d1, d2, d3] => { results := [.lit (.bool true)], args := [d1, d2, d3] }
  | _ => none }
def packPartsRow : OpenClaim := { program := "ytaiofbagdcpfgaa", sum := "e337891ca0c62b559ab95d6da7252a62bf4f7bc13cd6671d65146e437877a08e", func := "rostrum/rostrumlaw4.PackParts", spec := "packParts", apart := false }
def PackPartsSaid : Prop := packPartsRow.holds Try.pinned (OpenSpec.ofChange packPartsSpec)

/-- ITS FALSE NEIGHBOUR: 'it returns false'. Refute it at one input. -/
def packPartsWrong : ChangeSpec := { name := "packParts", fn := fun _ => fun
  | [d1, d2, d3] => { results := [.lit (.bool false)], args := [d1, d2, d3] }
  | _ => none }
def PackPartsWrongFalsely : Prop := packPartsRow.holds Try.pinned (OpenSpec.ofChange packPartsWrong)

/-- 'rostrumlaw4.PackReads': WHATEVER THE INPUT: true; the input reads as it did. -/
def packReadsSpec : ChangeSpec := { name := "packReads", fn := fun _ => fun
  | [d1, d2] => { results := [.lit (.bool true)], args := [d1, d2] }
  | _ => none }
def packReadsRow : OpenClaim := { program := "ytaiofbagdcpfgaa", sum := "e337891ca0c62b559ab95d6da7252a62bf4f7bc13cd6671d65146e437877a08e", func := "rostrum/rostrumlaw4.PackReads", spec := "packReads", apart := false }
def PackReadsSaid : Prop := packReadsRow.holds Try.pinned (OpenSpec.ofChange packReadsSpec)

/-- ITS FALSE NEIGHBOUR: 'it returns false'. Refute it at one input. -/
def packReadsWrong : ChangeSpec := { name := "packReads", fn := fun _ => fun
  | [d1, d2] => { results := [.lit (.bool false)], args := [d1, d2] }
  | _ => none }
def PackReadsWrongFalsely : Prop := packReadsRow.holds Try.pinned (OpenSpec.ofChange packReadsWrong)

/-- 'rostrumlaw4.PackKnown': WHATEVER THE INPUT: true; the input reads as it did. -/
def packKnownSpec : ChangeSpec := { name := "packKnown", fn := fun _ => fun
  | [] => { results := [.lit (.bool true)], args := [] }
  | _ => none }
def packKnownRow : OpenClaim := { program := "ytaiofbagdcpfgaa", sum := "e337891ca0c62b559ab95d6da7252a62bf4f7bc13cd6671d65146e437877a08e", func := "rostrum/rostrumlaw4.PackKnown", spec := "packKnown", apart := false }
def PackKnownSaid : Prop := packKnownRow.holds Try.pinned (OpenSpec.ofChange packKnownSpec)

/-- ITS FALSE NEIGHBOUR: 'it returns false'. Refute it at one input. -/
def packKnownWrong : ChangeSpec := { name := "packKnown", fn := fun _ => fun
  | [] => { results := [.lit (.bool false)], args := [] }
  | _ => none }
def PackKnownWrongFalsely : Prop := packKnownRow.holds Try.pinned (OpenSpec.ofChange packKnownWrong)

/-- 'rostrumlaw4.PackBack': WHATEVER THE INPUT: true; the input reads as it did. -/
def packBackSpec : ChangeSpec := { name := "packBack", fn := fun _ => fun
  | [d1, d2, d3, d4] => { results := [.lit (.bool true)], args := [d1, d2, d3, d4] }
  | _ => none }
def packBackRow : OpenClaim := { program := "ytaiofbagdcpfgaa", sum := "e337891ca0c62b559ab95d6da7252a62bf4f7bc13cd6671d65146e437877a08e", func := "rostrum/rostrumlaw4.PackBack", spec := "packBack", apart := false }
def PackBackSaid : Prop := packBackRow.holds Try.pinned (OpenSpec.ofChange packBackSpec)

/-- ITS FALSE NEIGHBOUR: 'it returns false'. Refute it at one input. -/
def packBackWrong : ChangeSpec := { name := "packBack", fn := fun _ => fun
  | [d1, d2, d3, d4] => { results := [.lit (.bool false)], args := [d1, d2, d3, d4] }
  | _ => none }
def PackBackWrongFalsely : Prop := packBackRow.holds Try.pinned (OpenSpec.ofChange packBackWrong)

/-- 'rostrumlaw7.VecLattice': WHATEVER THE INPUT: true; the input reads as it did. -/
def vecLatticeSpec : ChangeSpec := { name := "vecLattice", fn := fun _ => fun
  | [d1, d2, d3] => { results := [.lit (.bool true)], args := [d1, d2, d3] }
  | _ => none }
def vecLatticeRow : OpenClaim := { program := "ytaiofbagdcpfgaa", sum := "e337891ca0c62b559ab95d6da7252a62bf4f7bc13cd6671d65146e437877a08e", func := "rostrum/rostrumlaw7.VecLattice", spec := "vecLattice", apart := false }
def VecLatticeSaid : Prop := vecLatticeRow.holds Try.pinned (OpenSpec.ofChange vecLatticeSpec)

/-- ITS FALSE NEIGHBOUR: 'it returns false'. Refute it at one input. -/
def vecLatticeWrong : ChangeSpec := { name := "vecLattice", fn := fun _ => fun
  | [d1, d2, d3] => { results := [.lit (.bool false)], args := [d1, d2, d3] }
  | _ => none }
def VecLatticeWrongFalsely : Prop := vecLatticeRow.holds Try.pinned (OpenSpec.ofChange vecLatticeWrong)

/-- 'rostrumlaw7.VecHas': WHATEVER THE INPUT: true; the input reads as it did. -/
def vecHasSpec : ChangeSpec := { name := "vecHas", fn := fun _ => fun
  | [d1, d2, d3] => { results := [.lit (.bool true)], args := [d1, d2, d3] }
  | _ => none }
def vecHasRow : OpenClaim := { program := "ytaiofbagdcpfgaa", sum := "e337891ca0c62b559ab95d6da7252a62bf4f7bc13cd6671d65146e437877a08e", func := "rostrum/rostrumlaw7.VecHas", spec := "vecHas", apart := false }
def VecHasSaid : Prop := vecHasRow.holds Try.pinned (OpenSpec.ofChange vecHasSpec)

/-- ITS FALSE NEIGHBOUR: 'it returns false'. Refute it at one input. -/
def vecHasWrong : ChangeSpec := { name := "vecHas", fn := fun _ => fun
  | [d1, d2, d3] => { results := [.lit (.bool false)], args := [d1, d2, d3] }
  | _ => none }
def VecHasWrongFalsely : Prop := vecHasRow.holds Try.pinned (OpenSpec.ofChange vecHasWrong)

/-- 'rostrumlaw17.StablePlays': WHATEVER THE INPUT: true; the input reads as it did. -/
def stablePlaysSpec : ChangeSpec := { name := "stablePlays", fn := fun _ => fun
  | [d1, d2, d3, d4] => { results := [.lit (.bool true)], args := [d1, d2, d3, d4] }
  | _ => none }
def stablePlaysRow : OpenClaim := { program := "ytaiofbagdcpfgaa", sum := "e337891ca0c62b559ab95d6da7252a62bf4f7bc13cd6671d65146e437877a08e", func := "rostrum/rostrumlaw17.StablePlays", spec := "stablePlays", apart := false }
def StablePlaysSaid : Prop := stablePlaysRow.holds Try.pinned (OpenSpec.ofChange stablePlaysSpec)

/-- ITS FALSE NEIGHBOUR: 'it returns false'. Refute it at one input. -/
def stablePlaysWrong : ChangeSpec := { name := "stablePlays", fn := fun _ => fun
  | [d1, d2, d3, d4] => { results := [.lit (.bool false)], args := [d1, d2, d3, d4] }
  | _ => none }
def StablePlaysWrongFalsely : Prop := stablePlaysRow.holds Try.pinned (OpenSpec.ofChange stablePlaysWrong)

/-- 'rostrumlaw17.StableAgain': WHATEVER THE INPUT: true; the input reads as it did. -/
def stableAgainSpec : ChangeSpec := { name := "stableAgain", fn := fun _ => fun
  | [d1, d2, d3] => { results := [.lit (.bool true)], args := [d1, d2, d3] }
  | _ => none }
def stableAgainRow : OpenClaim := { program := "ytaiofbagdcpfgaa", sum := "e337891ca0c62b559ab95d6da7252a62bf4f7bc13cd6671d65146e437877a08e", func := "rostrum/rostrumlaw17.StableAgain", spec := "stableAgain", apart := false }
def StableAgainSaid : Prop := stableAgainRow.holds Try.pinned (OpenSpec.ofChange stableAgainSpec)

/-- ITS FALSE NEIGHBOUR: 'it returns false'. Refute it at one input. -/
def stableAgainWrong : ChangeSpec := { name := "stableAgain", fn := fun _ => fun
  | [d1, d2, d3] => { results := [.lit (.bool false)], args := [d1, d2, d3] }
  | _ => none }
def StableAgainWrongFalsely : Prop := stableAgainRow.holds Try.pinned (OpenSpec.ofChange stableAgainWrong)

/-- 'rostrumlaw17.StableGrows': WHATEVER THE INPUT: true; the input reads as it did. -/
def stableGrowsSpec : ChangeSpec := { name := "stableGrows", fn := fun _ => fun
  | [d1, d2, d3] => { results := [.lit (.bool true)], args := [d1, d2, d3] }
  | _ => none }
def stableGrowsRow : OpenClaim := { program := "ytaiofbagdcpfgaa", sum := "e337891ca0c62b559ab95d6da7252a62bf4f7bc13cd6671d65146e437877a08e", func := "rostrum/rostrumlaw17.StableGrows", spec := "stableGrows", apart := false }
def StableGrowsSaid : Prop := stableGrowsRow.holds Try.pinned (OpenSpec.ofChange stableGrowsSpec)

/-- ITS FALSE NEIGHBOUR: 'it returns false'. Refute it at one input. -/
def stableGrowsWrong : ChangeSpec := { name := "stableGrows", fn := fun _ => fun
  | [d1, d2, d3] => { results := [.lit (.bool false)], args := [d1, d2, d3] }
  | _ => none }
def StableGrowsWrongFalsely : Prop := stableGrowsRow.holds Try.pinned (OpenSpec.ofChange stableGrowsWrong)

/-- 'rostrumlaw10.TallyKnown': WHATEVER THE INPUT: true; the input reads as it did. -/
def tallyKnownSpec : ChangeSpec := { name := "tallyKnown", fn := fun _ => fun
  | [] => { results := [.lit (.bool true)], args := [] }
  | _ => none }
def tallyKnownRow : OpenClaim := { program := "ytaiofbagdcpfgaa", sum := "e337891ca0c62b559ab95d6da7252a62bf4f7bc13cd6671d65146e437877a08e", func := "rostrum/rostrumlaw10.TallyKnown", spec := "tallyKnown", apart := false }
def TallyKnownSaid : Prop := tallyKnownRow.holds Try.pinned (OpenSpec.ofChange tallyKnownSpec)

/-- ITS FALSE NEIGHBOUR: 'it returns false'. Refute it at one input. -/
def tallyKnownWrong : ChangeSpec := { name := "tallyKnown", fn := fun _ => fun
  | [] => { results := [.lit (.bool false)], args := [] }
  | _ => none }
def TallyKnownWrongFalsely : Prop := tallyKnownRow.holds Try.pinned (OpenSpec.ofChange tallyKnownWrong)

/-- 'rostrumlaw10.TallyPlays': WHATEVER THE INPUT: true; the input reads as it did. -/
def tallyPlaysSpec : ChangeSpec := { name := "tallyPlays", fn := fun _ => fun
  | [d1, d2, d3, d4] => { results := [.lit (.bool true)], args := [d1, d2, d3, d4] }
  | _ => none }
def tallyPlaysRow : OpenClaim := { program := "ytaiofbagdcpfgaa", sum := "e337891ca0c62b559ab95d6da7252a62bf4f7bc13cd6671d65146e437877a08e", func := "rostrum/rostrumlaw10.TallyPlays", spec := "tallyPlays", apart := false }
def TallyPlaysSaid : Prop := tallyPlaysRow.holds Try.pinned (OpenSpec.ofChange tallyPlaysSpec)

/-- ITS FALSE NEIGHBOUR: 'it returns false'. Refute it at one input. -/
def tallyPlaysWrong : ChangeSpec := { name := "tallyPlays", fn := fun _ => fun
  | [d1, d2, d3, d4] => { results := [.lit (.bool false)], args := [d1, d2, d3, d4] }
  | _ => none }
def TallyPlaysWrongFalsely : Prop := tallyPlaysRow.holds Try.pinned (OpenSpec.ofChange tallyPlaysWrong)

/-- 'rostrumlaw10.TallyBack': WHATEVER THE INPUT: true; the input reads as it did. -/
def tallyBackSpec : ChangeSpec := { name := "tallyBack", fn := fun _ => fun
  | [d1, d2] => { results := [.lit (.bool true)], args := [d1, d2] }
  | _ => none }
def tallyBackRow : OpenClaim := { program := "ytaiofbagdcpfgaa", sum := "e337891ca0c62b559ab95d6da7252a62bf4f7bc13cd6671d65146e437877a08e", func := "rostrum/rostrumlaw10.TallyBack", spec := "tallyBack", apart := false }
def TallyBackSaid : Prop := tallyBackRow.holds Try.pinned (OpenSpec.ofChange tallyBackSpec)

/-- ITS FALSE NEIGHBOUR: 'it returns false'. Refute it at one input. -/
def tallyBackWrong : ChangeSpec := { name := "tallyBack", fn := fun _ => fun
  | [d1, d2] => { results := [.lit (.bool false)], args := [d1, d2] }
  | _ => none }
def TallyBackWrongFalsely : Prop := tallyBackRow.holds Try.pinned (OpenSpec.ofChange tallyBackWrong)

/-- 'rostrumlaw7.VecKnown': WHATEVER THE INPUT: true; the input reads as it did. -/
def vecKnownSpec : ChangeSpec := { name := "vecKnown", fn := fun _ => fun
  | [] => { results := [.lit (.bool true)], args := [] }
  | _ => none }
def vecKnownRow : OpenClaim := { program := "ytaiofbagdcpfgaa", sum := "e337891ca0c62b559ab95d6da7252a62bf4f7bc13cd6671d65146e437877a08e", func := "rostrum/rostrumlaw7.VecKnown", spec := "vecKnown", apart := false }
def VecKnownSaid : Prop := vecKnownRow.holds Try.pinned (OpenSpec.ofChange vecKnownSpec)

/-- ITS FALSE NEIGHBOUR: 'it returns false'. Refute it at one input. -/
def vecKnownWrong : ChangeSpec := { name := "vecKnown", fn := fun _ => fun
  | [] => { results := [.lit (.bool false)], args := [] }
  | _ => none }
def VecKnownWrongFalsely : Prop := vecKnownRow.holds Try.pinned (OpenSpec.ofChange vecKnownWrong)

/-- 'rostrumlaw7.VecBack': WHATEVER THE INPUT: true; the input reads as it did. -/
def vecBackSpec : ChangeSpec := { name := "vecBack", fn := fun _ => fun
  | [d1, d2] => { results := [.lit (.bool true)], args := [d1, d2] }
  | _ => none }
def vecBackRow : OpenClaim := { program := "ytaiofbagdcpfgaa", sum := "e337891ca0c62b559ab95d6da7252a62bf4f7bc13cd6671d65146e437877a08e", func := "rostrum/rostrumlaw7.VecBack", spec := "vecBack", apart := false }
def VecBackSaid : Prop := vecBackRow.holds Try.pinned (OpenSpec.ofChange vecBackSpec)

/-- ITS FALSE NEIGHBOUR: 'it returns false'. Refute it at one input. -/
def vecBackWrong : ChangeSpec := { name := "vecBack", fn := fun _ => fun
  | [d1, d2] => { results := [.lit (.bool false)], args := [d1, d2] }
  | _ => none }
def VecBackWrongFalsely : Prop := vecBackRow.holds Try.pinned (OpenSpec.ofChange vecBackWrong)

/-- 'rostrumlaw7.VecSteps': WHATEVER THE INPUT: true; the input reads as it did. -/
def vecStepsSpec : ChangeSpec := { name := "vecSteps", fn := fun _ => fun
  | [d1, d2] => { results := [.lit (.bool true)], args := [d1, d2] }
  | _ => none }
def vecStepsRow : OpenClaim := { program := "ytaiofbagdcpfgaa", sum := "e337891ca0c62b559ab95d6da7252a62bf4f7bc13cd6671d65146e437877a08e", func := "rostrum/rostrumlaw7.VecSteps", spec := "vecSteps", apart := false }
def VecStepsSaid : Prop := vecStepsRow.holds Try.pinned (OpenSpec.ofChange vecStepsSpec)

/-- ITS FALSE NEIGHBOUR: 'it returns false'. Refute it at one input. -/
def vecStepsWrong : ChangeSpec := { name := "vecSteps", fn := fun _ => fun
  | [d1, d2] => { results := [.lit (.bool false)], args := [d1, d2] }
  | _ => none }
def VecStepsWrongFalsely : Prop := vecStepsRow.holds Try.pinned (OpenSpec.ofChange vecStepsWrong)

/-- 'rostrumlaw7.VecSays': WHATEVER THE INPUT: true; the input reads as it did. -/
def vecSaysSpec : ChangeSpec := { name := "vecSays", fn := fun _ => fun
  | [d1, d2, d3, d4, d5] => { results := [.lit (.bool true)], args := [d1, d2, d3, d4, d5] }
  | _ => none }
def vecSaysRow : OpenClaim := { program := "ytaiofbagdcpfgaa", sum := "e337891ca0c62b559ab95d6da7252a62bf4f7bc13cd6671d65146e437877a08e", func := "rostrum/rostrumlaw7.VecSays", spec := "vecSays", apart := false }
def VecSaysSaid : Prop := vecSaysRow.holds Try.pinned (OpenSpec.ofChange vecSaysSpec)

/-- ITS FALSE NEIGHBOUR: 'it returns false'. Refute it at one input. -/
def vecSaysWrong : ChangeSpec := { name := "vecSays", fn := fun _ => fun
  | [d1, d2, d3, d4, d5] => { results := [.lit (.bool false)], args := [d1, d2, d3, d4, d5] }
  | _ => none }
def VecSaysWrongFalsely : Prop := vecSaysRow.holds Try.pinned (OpenSpec.ofChange vecSaysWrong)

/- THE SECOND FORM. 'bulk': how many values and letters a reading holds, each counted each time it is reached (what is shared counts as often as it is met; a slice's spare places count too). A statement '..UptoSaid' is the law's where the arguments, and the package variables that the reading takes, are together of bulk at most 1048576: NARROWER than '..Said'. Prove '..Said' where nothing that the law and all that it calls make is longer than what came in: it says more and counts as full. Else prove '..UptoSaid'. A law counts once. -/
mutual
def uptoBulk {H : Type} : DataW H → Nat
  | .lit (.string bytes) => bytes.length + 1
  | .lit _ => 1
  | .nil => 1
  | .ptr d => uptoBulk d + 1
  | .slice elems spare => uptoBulkAll elems + uptoBulkAll spare + 1
  | .agg parts => uptoBulkAll parts + 1
  | .iface _ d => uptoBulk d + 1
  | .map entries => uptoBulkEntries entries + 1
  | .held _ => 1
def uptoBulkAll {H : Type} : List (DataW H) → Nat
  | [] => 0
  | d :: r => uptoBulk d + uptoBulkAll r
def uptoBulkEntries {H : Type} : List (Lit × DataW H) → Nat
  | [] => 0
  | x :: r => uptoBulkEntry x + uptoBulkEntries r
def uptoBulkEntry {H : Type} : Lit × DataW H → Nat
  | (.string bytes, d) => bytes.length + uptoBulk d + 1
  | (_, d) => uptoBulk d + 1
 end
def uptoSmall : (H : Type) → List (DataW H) → Bool := fun _ ds => decide (uptoBulkAll ds ≤ 1048576)
def OpenSpec.upto (s : _root_.Go.ChangeSpec) : _root_.Go.OpenSpec := { _root_.Go.OpenSpec.ofChange s with cond := some uptoSmall }

/-- 'rostrumlaw10.TallyApart', WHERE WHAT IT READS IS OF BULK AT MOST 1048576: true; the input reads as it did. -/
def tallyApartUptoRow : OpenClaim := { program := "ytaiofbagdcpfgaa", sum := "e337891ca0c62b559ab95d6da7252a62bf4f7bc13cd6671d65146e437877a08e", func := "rostrum/rostrumlaw10.TallyApart", spec := "tallyApart", apart := false, narrowed := true }
def TallyApartUptoSaid : Prop := tallyApartUptoRow.holds Try.pinned (OpenSpec.upto tallyApartSpec)

/-- 'rostrumlaw4.PackFew', WHERE WHAT IT READS IS OF BULK AT MOST 1048576: true; the input reads as it did. -/
def packFewUptoRow : OpenClaim := { program := "ytaiofbagdcpfgaa", sum := "e337891ca0c62b559ab95d6da7252a62bf4f7bc13cd6671d65146e437877a08e", func := "rostrum/rostrumlaw4.PackFew", spec := "packFew", apart := false, narrowed := true }
def PackFewUptoSaid : Prop := packFewUptoRow.holds Try.pinned (OpenSpec.upto packFewSpec)

/-- 'rostrumlaw4.PackParts', WHERE WHAT IT READS IS OF BULK AT MOST 1048576: true; the input reads as it did. -/
def packPartsUptoRow : OpenClaim := { program := "ytaiofbagdcpfgaa", sum := "e337891ca0c62b559ab95d6da7252a62bf4f7bc13cd6671d65146e437877a08e", func := "rostrum/rostrumlaw4.PackParts", spec := "packParts", apart := false, narrowed := true }
def PackPartsUptoSaid : Prop := packPartsUptoRow.holds Try.pinned (OpenSpec.upto packPartsSpec)

/-- 'rostrumlaw4.PackReads', WHERE WHAT IT READS IS OF BULK AT MOST 1048576: true; the input reads as it did. -/
def packReadsUptoRow : OpenClaim := { program := "ytaiofbagdcpfgaa", sum := "e337891ca0c62b559ab95d6da7252a62bf4f7bc13cd6671d65146e437877a08e", func := "rostrum/rostrumlaw4.PackReads", spec := "packReads", apart := false, narrowed := true }
def PackReadsUptoSaid : Prop := packReadsUptoRow.holds Try.pinned (OpenSpec.upto packReadsSpec)

/-- 'rostrumlaw4.PackKnown', WHERE WHAT IT READS IS OF BULK AT MOST 1048576: true; the input reads as it did. -/
def packKnownUptoRow : OpenClaim := { program := "ytaiofbagdcpfgaa", sum := "e337891ca0c62b559ab95d6da7252a62bf4f7bc13cd6671d65146e437877a08e", func := "rostrum/rostrumlaw4.PackKnown", spec := "packKnown", apart := false, narrowed := true }
def PackKnownUptoSaid : Prop := packKnownUptoRow.holds Try.pinned (OpenSpec.upto packKnownSpec)

/-- 'rostrumlaw4.PackBack', WHERE WHAT IT READS IS OF BULK AT MOST 1048576: true; the input reads as it did. -/
def packBackUptoRow : OpenClaim := { program := "ytaiofbagdcpfgaa", sum := "e337891ca0c62b559ab95d6da7252a62bf4f7bc13cd6671d65146e437877a08e", func := "rostrum/rostrumlaw4.PackBack", spec := "packBack", apart := false, narrowed := true }
def PackBackUptoSaid : Prop := packBackUptoRow.holds Try.pinned (OpenSpec.upto packBackSpec)

/-- 'rostrumlaw7.VecLattice', WHERE WHAT IT READS IS OF BULK AT MOST 1048576: true; the input reads as it did. -/
def vecLatticeUptoRow : OpenClaim := { program := "ytaiofbagdcpfgaa", sum := "e337891ca0c62b559ab95d6da7252a62bf4f7bc13cd6671d65146e437877a08e", func := "rostrum/rostrumlaw7.VecLattice", spec := "vecLattice", apart := false, narrowed := true }
def VecLatticeUptoSaid : Prop := vecLatticeUptoRow.holds Try.pinned (OpenSpec.upto vecLatticeSpec)

/-- 'rostrumlaw7.VecHas', WHERE WHAT IT READS IS OF BULK AT MOST 1048576: true; the input reads as it did. -/
def vecHasUptoRow : OpenClaim := { program := "ytaiofbagdcpfgaa", sum := "e337891ca0c62b559ab95d6da7252a62bf4f7bc13cd6671d65146e437877a08e", func := "rostrum/rostrumlaw7.VecHas", spec := "vecHas", apart := false, narrowed := true }
def VecHasUptoSaid : Prop := vecHasUptoRow.holds Try.pinned (OpenSpec.upto vecHasSpec)

/-- 'rostrumlaw17.StablePlays', WHERE WHAT IT READS IS OF BULK AT MOST 1048576: true; the input reads as it did. -/
def stablePlaysUptoRow : OpenClaim := { program := "ytaiofbagdcpfgaa", sum := "e337891ca0c62b559ab95d6da7252a62bf4f7bc13cd6671d65146e437877a08e", func := "rostrum/rostrumlaw17.StablePlays", spec := "stablePlays", apart := false, narrowed := true }
def StablePlaysUptoSaid : Prop := stablePlaysUptoRow.holds Try.pinned (OpenSpec.upto stablePlaysSpec)

/-- 'rostrumlaw17.StableAgain', WHERE WHAT IT READS IS OF BULK AT MOST 1048576: true; the input reads as it did. -/
def stableAgainUptoRow : OpenClaim := { program := "ytaiofbagdcpfgaa", sum := "e337891ca0c62b559ab95d6da7252a62bf4f7bc13cd6671d65146e437877a08e", func := "rostrum/rostrumlaw17.StableAgain", spec := "stableAgain", apart := false, narrowed := true }
def StableAgainUptoSaid : Prop := stableAgainUptoRow.holds Try.pinned (OpenSpec.upto stableAgainSpec)

/-- 'rostrumlaw17.StableGrows', WHERE WHAT IT READS IS OF BULK AT MOST 1048576: true; the input reads as it did. -/
def stableGrowsUptoRow : OpenClaim := { program := "ytaiofbagdcpfgaa", sum := "e337891ca0c62b559ab95d6da7252a62bf4f7bc13cd6671d65146e437877a08e", func := "rostrum/rostrumlaw17.StableGrows", spec := "stableGrows", apart := false, narrowed := true }
def StableGrowsUptoSaid : Prop := stableGrowsUptoRow.holds Try.pinned (OpenSpec.upto stableGrowsSpec)

/-- 'rostrumlaw10.TallyKnown', WHERE WHAT IT READS IS OF BULK AT MOST 1048576: true; the input reads as it did. -/
def tallyKnownUptoRow : OpenClaim := { program := "ytaiofbagdcpfgaa", sum := "e337891ca0c62b559ab95d6da7252a62bf4f7bc13cd6671d65146e437877a08e", func := "rostrum/rostrumlaw10.TallyKnown", spec := "tallyKnown", apart := false, narrowed := true }
def TallyKnownUptoSaid : Prop := tallyKnownUptoRow.holds Try.pinned (OpenSpec.upto tallyKnownSpec)

/-- 'rostrumlaw10.TallyPlays', WHERE WHAT IT READS IS OF BULK AT MOST 1048576: true; the input reads as it did. -/
def tallyPlaysUptoRow : OpenClaim := { program := "ytaiofbagdcpfgaa", sum := "e337891ca0c62b559ab95d6da7252a62bf4f7bc13cd6671d65146e437877a08e", func := "rostrum/rostrumlaw10.TallyPlays", spec := "tallyPlays", apart := false, narrowed := true }
def TallyPlaysUptoSaid : Prop := tallyPlaysUptoRow.holds Try.pinned (OpenSpec.upto tallyPlaysSpec)

/-- 'rostrumlaw10.TallyBack', WHERE WHAT IT READS IS OF BULK AT MOST 1048576: true; the input reads as it did. -/
def tallyBackUptoRow : OpenClaim := { program := "ytaiofbagdcpfgaa", sum := "e337891ca0c62b559ab95d6da7252a62bf4f7bc13cd6671d65146e437877a08e", func := "rostrum/rostrumlaw10.TallyBack", spec := "tallyBack", apart := false, narrowed := true }
def TallyBackUptoSaid : Prop := tallyBackUptoRow.holds Try.pinned (OpenSpec.upto tallyBackSpec)

/-- 'rostrumlaw7.VecKnown', WHERE WHAT IT READS IS OF BULK AT MOST 1048576: true; the input reads as it did. -/
def vecKnownUptoRow : OpenClaim := { program := "ytaiofbagdcpfgaa", sum := "e337891ca0c62b559ab95d6da7252a62bf4f7bc13cd6671d65146e437877a08e", func := "rostrum/rostrumlaw7.VecKnown", spec := "vecKnown", apart := false, narrowed := true }
def VecKnownUptoSaid : Prop := vecKnownUptoRow.holds Try.pinned (OpenSpec.upto vecKnownSpec)

/-- 'rostrumlaw7.VecBack', WHERE WHAT IT READS IS OF BULK AT MOST 1048576: true; the input reads as it did. -/
def vecBackUptoRow : OpenClaim := { program := "ytaiofbagdcpfgaa", sum := "e337891ca0c62b559ab95d6da7252a62bf4f7bc13cd6671d65146e437877a08e", func := "rostrum/rostrumlaw7.VecBack", spec := "vecBack", apart := false, narrowed := true }
def VecBackUptoSaid : Prop := vecBackUptoRow.holds Try.pinned (OpenSpec.upto vecBackSpec)

/-- 'rostrumlaw7.VecSteps', WHERE WHAT IT READS IS OF BULK AT MOST 1048576: true; the input reads as it did. -/
def vecStepsUptoRow : OpenClaim := { program := "ytaiofbagdcpfgaa", sum := "e337891ca0c62b559ab95d6da7252a62bf4f7bc13cd6671d65146e437877a08e", func := "rostrum/rostrumlaw7.VecSteps", spec := "vecSteps", apart := false, narrowed := true }
def VecStepsUptoSaid : Prop := vecStepsUptoRow.holds Try.pinned (OpenSpec.upto vecStepsSpec)

/-- 'rostrumlaw7.VecSays', WHERE WHAT IT READS IS OF BULK AT MOST 1048576: true; the input reads as it did. -/
def vecSaysUptoRow : OpenClaim := { program := "ytaiofbagdcpfgaa", sum := "e337891ca0c62b559ab95d6da7252a62bf4f7bc13cd6671d65146e437877a08e", func := "rostrum/rostrumlaw7.VecSays", spec := "vecSays", apart := false, narrowed := true }
def VecSaysUptoSaid : Prop := vecSaysUptoRow.holds Try.pinned (OpenSpec.upto vecSaysSpec)

end Rows
end Go.Proofs.Ytaiofbagdcpfgaa
