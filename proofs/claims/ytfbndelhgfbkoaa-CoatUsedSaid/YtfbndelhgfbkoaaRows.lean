/-
  No cell of these rows narrows 'for every input' (looked for: loops, veiled, ifaces, maps, wideKeys, modest, calm, conditions, laid).
  DERIVED. THE GIVEN ROWS OF THIS SEAT. 11 by the template 'for every input the law returns true; each argument reads behind the call as it read before'; 0 by the template 'total and deterministic' (their statements: YtfbndelhgfbkoaaTotals.lean).
  GIVEN WITH THE SEED: the statements are not yours to turn. If you find one false, say at which input.
  Laid BY PROGRAM, IN A SANDBOX (cutbox-rows.mjs): the forced cells as the released guide's own fill.sh prints them over the translation cc54a11d580d6322… (all of the seat's roots in one cut). By AI agents, Wed Nov 11 2026. No macro, syntax, notation, axiom, sorry.
-/
import Derived.Test.YtfbndelhgfbkoaaChecked
import GoSem.Claim
import GoSem.ClaimJoined
import GoSem.ClaimMapViews
import Derived.JoinedTies
import Derived.KernelRfl
namespace Go.Proofs.Ytfbndelhgfbkoaa
/- THE CELL 'sum', in the pinned program and in every row, IS THE sha256 OF THE DUMP (.gsa) THAT YtfbndelhgfbkoaaProg.lean LOADS. Nothing in Lean hashes anything: it is a label: what it is worth is what the hold of that sum in a sandbox is worth. -/
noncomputable def Try.pinned : Pinned := { name := "ytfbndelhgfbkoaa", sum := "cc54a11d580d632207f1d1350c431d9f6e8236108433826ee28e13857ed06326", checked := Try.checked }
namespace Rows
def none {H : Type} : Left H := { results := [], args := [] }

/-- 'smaltolaw10.CoatThicks': WHATEVER THE INPUT: true; the input reads as it did. -/
def coatThicksSpec : ChangeSpec := { name := "coatThicks", fn := fun _ => fun
  | [d1, d2] => { results := [.lit (.bool true)], args := [d1, d2] }
  | _ => none }
def coatThicksRow : OpenClaim := { program := "ytfbndelhgfbkoaa", sum := "cc54a11d580d632207f1d1350c431d9f6e8236108433826ee28e13857ed06326", func := "smalto/smaltolaw10.CoatThicks", spec := "coatThicks", unfollowed := true, recurses := true, apart := false }
def CoatThicksSaid : Prop := coatThicksRow.holds Try.pinned (OpenSpec.ofChange coatThicksSpec)

/-- ITS FALSE NEIGHBOUR: 'it returns false'. Refute it at one input. -/
def coatThicksWrong : ChangeSpec := { name := "coatThicks", fn := fun _ => fun
  | [d1, d2] => { results := [.lit (.bool false)], args := [d1, d2] }
  | _ => none }
def CoatThicksWrongFalsely : Prop := coatThicksRow.holds Try.pinned (OpenSpec.ofChange coatThicksWrong)

/-- 'smaltolaw10.CoatUses': WHATEVER THE INPUT: true; the input reads as it did. -/
def coatUsesSpec : ChangeSpec := { name := "coatUses", fn := fun _ => fun
  | [d1, d2, d3] => { results := [.lit (.bool true)], args := [d1, d2, d3] }
  | _ => none }
def coatUsesRow : OpenClaim := { program := "ytfbndelhgfbkoaa", sum := "cc54a11d580d632207f1d1350c431d9f6e8236108433826ee28e13857ed06326", func := "smalto/smaltolaw10.CoatUses", spec := "coatUses", unfollowed := true, recurses := true, apart := false }
def CoatUsesSaid : Prop := coatUsesRow.holds Try.pinned (OpenSpec.ofChange coatUsesSpec)

/-- ITS FALSE NEIGHBOUR: 'it returns false'. Refute it at one input. -/
def coatUsesWrong : ChangeSpec := { name := "coatUses", fn := fun _ => fun
  | [d1, d2, d3] => { results := [.lit (.bool false)], args := [d1, d2, d3] }
  | _ => none }
def CoatUsesWrongFalsely : Prop := coatUsesRow.holds Try.pinned (OpenSpec.ofChange coatUsesWrong)

/-- 'smaltolaw10.CoatMixes': WHATEVER THE INPUT: true; the input reads as it did. -/
def coatMixesSpec : ChangeSpec := { name := "coatMixes", fn := fun _ => fun
  | [d1, d2] => { results := [.lit (.bool true)], args := [d1, d2] }
  | _ => none }
def coatMixesRow : OpenClaim := { program := "ytfbndelhgfbkoaa", sum := "cc54a11d580d632207f1d1350c431d9f6e8236108433826ee28e13857ed06326", func := "smalto/smaltolaw10.CoatMixes", spec := "coatMixes", unfollowed := true, recurses := true, apart := false }
def CoatMixesSaid : Prop := coatMixesRow.holds Try.pinned (OpenSpec.ofChange coatMixesSpec)

/-- ITS FALSE NEIGHBOUR: 'it returns false'. Refute it at one input. -/
def coatMixesWrong : ChangeSpec := { name := "coatMixes", fn := fun _ => fun
  | [d1, d2] => { results := [.lit (.bool false)], args := [d1, d2] }
  | _ => none }
def CoatMixesWrongFalsely : Prop := coatMixesRow.holds Try.pinned (OpenSpec.ofChange coatMixesWrong)

/-- 'smaltolaw10.CoatTolds': WHATEVER THE INPUT: true; the input reads as it did. -/
def coatToldsSpec : ChangeSpec := { name := "coatTolds", fn := fun _ => fun
  | [d1, d2] => { results := [.lit (.bool true)], args := [d1, d2] }
  | _ => none }
def coatToldsRow : OpenClaim := { program := "ytfbndelhgfbkoaa", sum := "cc54a11d580d632207f1d1350c431d9f6e8236108433826ee28e13857ed06326", func := "smalto/smaltolaw10.CoatTolds", spec := "coatTolds", unfollowed := true, recurses := true, apart := false }
def CoatToldsSaid : Prop := coatToldsRow.holds Try.pinned (OpenSpec.ofChange coatToldsSpec)

/-- ITS FALSE NEIGHBOUR: 'it returns false'. Refute it at one input. -/
def coatToldsWrong : ChangeSpec := { name := "coatTolds", fn := fun _ => fun
  | [d1, d2] => { results := [.lit (.bool false)], args := [d1, d2] }
  | _ => none }
def CoatToldsWrongFalsely : Prop := coatToldsRow.holds Try.pinned (OpenSpec.ofChange coatToldsWrong)

/-- 'smaltolaw10.CoatLooks': WHATEVER THE INPUT: true; the input reads as it did. -/
def coatLooksSpec : ChangeSpec := { name := "coatLooks", fn := fun _ => fun
  | [d1, d2] => { results := [.lit (.bool true)], args := [d1, d2] }
  | _ => none }
def coatLooksRow : OpenClaim := { program := "ytfbndelhgfbkoaa", sum := "cc54a11d580d632207f1d1350c431d9f6e8236108433826ee28e13857ed06326", func := "smalto/smaltolaw10.CoatLooks", spec := "coatLooks", unfollowed := true, recurses := true, apart := false }
def CoatLooksSaid : Prop := coatLooksRow.holds Try.pinned (OpenSpec.ofChange coatLooksSpec)

/-- ITS FALSE NEIGHBOUR: 'it returns false'. Refute it at one input. -/
def coatLooksWrong : ChangeSpec := { name := "coatLooks", fn := fun _ => fun
  | [d1, d2] => { results := [.lit (.bool false)], args := [d1, d2] }
  | _ => none }
def CoatLooksWrongFalsely : Prop := coatLooksRow.holds Try.pinned (OpenSpec.ofChange coatLooksWrong)

/-- 'smaltolaw10.CoatTruth': WHATEVER THE INPUT: true; the input reads as it did. -/
def coatTruthSpec : ChangeSpec := { name := "coatTruth", fn := fun _ => fun
  | [d1, d2] => { results := [.lit (.bool true)], args := [d1, d2] }
  | _ => none }
def coatTruthRow : OpenClaim := { program := "ytfbndelhgfbkoaa", sum := "cc54a11d580d632207f1d1350c431d9f6e8236108433826ee28e13857ed06326", func := "smalto/smaltolaw10.CoatTruth", spec := "coatTruth", unfollowed := true, recurses := true, apart := false }
def CoatTruthSaid : Prop := coatTruthRow.holds Try.pinned (OpenSpec.ofChange coatTruthSpec)

/-- ITS FALSE NEIGHBOUR: 'it returns false'. Refute it at one input. -/
def coatTruthWrong : ChangeSpec := { name := "coatTruth", fn := fun _ => fun
  | [d1, d2] => { results := [.lit (.bool false)], args := [d1, d2] }
  | _ => none }
def CoatTruthWrongFalsely : Prop := coatTruthRow.holds Try.pinned (OpenSpec.ofChange coatTruthWrong)

/-- 'smaltolaw10.CoatCheapest': WHATEVER THE INPUT: true; the input reads as it did. -/
def coatCheapestSpec : ChangeSpec := { name := "coatCheapest", fn := fun _ => fun
  | [d1, d2, d3] => { results := [.lit (.bool true)], args := [d1, d2, d3] }
  | _ => none }
def coatCheapestRow : OpenClaim := { program := "ytfbndelhgfbkoaa", sum := "cc54a11d580d632207f1d1350c431d9f6e8236108433826ee28e13857ed06326", func := "smalto/smaltolaw10.CoatCheapest", spec := "coatCheapest", unfollowed := true, recurses := true, apart := false }
def CoatCheapestSaid : Prop := coatCheapestRow.holds Try.pinned (OpenSpec.ofChange coatCheapestSpec)

/-- ITS FALSE NEIGHBOUR: 'it returns false'. Refute it at one input. -/
def coatCheapestWrong : ChangeSpec := { name := "coatCheapest", fn := fun _ => fun
  | [d1, d2, d3] => { results := [.lit (.bool false)], args := [d1, d2, d3] }
  | _ => none }
def CoatCheapestWrongFalsely : Prop := coatCheapestRow.holds Try.pinned (OpenSpec.ofChange coatCheapestWrong)

/-- 'smaltolaw10.CoatUsed': WHATEVER THE INPUT: true; the input reads as it did. -/
def coatUsedSpec : ChangeSpec := { name := "coatUsed", fn := fun _ => fun
  | [d1, d2, d3] => { results := [.lit (.bool true)], args := [d1, d2, d3] }
  | _ => none }
def coatUsedRow : OpenClaim := { program := "ytfbndelhgfbkoaa", sum := "cc54a11d580d632207f1d1350c431d9f6e8236108433826ee28e13857ed06326", func := "smalto/smaltolaw10.CoatUsed", spec := "coatUsed", unfollowed := true, recurses := true, apart := false }
def CoatUsedSaid : Prop := coatUsedRow.holds Try.pinned (OpenSpec.ofChange coatUsedSpec)

/-- ITS FALSE NEIGHBOUR: 'it returns false'. Refute it at one input. -/
def coatUsedWrong : ChangeSpec := { name := "coatUsed", fn := fun _ => fun
  | [d1, d2, d3] => { results := [.lit (.bool false)], args := [d1, d2, d3] }
  | _ => none }
def CoatUsedWrongFalsely : Prop := coatUsedRow.holds Try.pinned (OpenSpec.ofChange coatUsedWrong)

/-- 'smaltolaw10.CoatMixed': WHATEVER THE INPUT: true; the input reads as it did. -/
def coatMixedSpec : ChangeSpec := { name := "coatMixed", fn := fun _ => fun
  | [d1, d2, d3] => { results := [.lit (.bool true)], args := [d1, d2, d3] }
  | _ => none }
def coatMixedRow : OpenClaim := { program := "ytfbndelhgfbkoaa", sum := "cc54a11d580d632207f1d1350c431d9f6e8236108433826ee28e13857ed06326", func := "smalto/smaltolaw10.CoatMixed", spec := "coatMixed", unfollowed := true, recurses := true, apart := false }
def CoatMixedSaid : Prop := coatMixedRow.holds Try.pinned (OpenSpec.ofChange coatMixedSpec)

/-- ITS FALSE NEIGHBOUR: 'it returns false'. Refute it at one input. -/
def coatMixedWrong : ChangeSpec := { name := "coatMixed", fn := fun _ => fun
  | [d1, d2, d3] => { results := [.lit (.bool false)], args := [d1, d2, d3] }
  | _ => none }
def CoatMixedWrongFalsely : Prop := coatMixedRow.holds Try.pinned (OpenSpec.ofChange coatMixedWrong)

/-- 'smaltolaw10.CoatBarrels': WHATEVER THE INPUT: true; the input reads as it did. -/
def coatBarrelsSpec : ChangeSpec := { name := "coatBarrels", fn := fun _ => fun
  | [d1, d2] => { results := [.lit (.bool true)], args := [d1, d2] }
  | _ => none }
def coatBarrelsRow : OpenClaim := { program := "ytfbndelhgfbkoaa", sum := "cc54a11d580d632207f1d1350c431d9f6e8236108433826ee28e13857ed06326", func := "smalto/smaltolaw10.CoatBarrels", spec := "coatBarrels", unfollowed := true, recurses := true, apart := false }
def CoatBarrelsSaid : Prop := coatBarrelsRow.holds Try.pinned (OpenSpec.ofChange coatBarrelsSpec)

/-- ITS FALSE NEIGHBOUR: 'it returns false'. Refute it at one input. -/
def coatBarrelsWrong : ChangeSpec := { name := "coatBarrels", fn := fun _ => fun
  | [d1, d2] => { results := [.lit (.bool false)], args := [d1, d2] }
  | _ => none }
def CoatBarrelsWrongFalsely : Prop := coatBarrelsRow.holds Try.pinned (OpenSpec.ofChange coatBarrelsWrong)

/-- 'smaltolaw10.CoatSeen': WHATEVER THE INPUT: true; the input reads as it did. -/
def coatSeenSpec : ChangeSpec := { name := "coatSeen", fn := fun _ => fun
  | [d1, d2, d3] => { results := [.lit (.bool true)], args := [d1, d2, d3] }
  | _ => none }
def coatSeenRow : OpenClaim := { program := "ytfbndelhgfbkoaa", sum := "cc54a11d580d632207f1d1350c431d9f6e8236108433826ee28e13857ed06326", func := "smalto/smaltolaw10.CoatSeen", spec := "coatSeen", unfollowed := true, recurses := true, apart := false }
def CoatSeenSaid : Prop := coatSeenRow.holds Try.pinned (OpenSpec.ofChange coatSeenSpec)

/-- ITS FALSE NEIGHBOUR: 'it returns false'. Refute it at one input. -/
def coatSeenWrong : ChangeSpec := { name := "coatSeen", fn := fun _ => fun
  | [d1, d2, d3] => { results := [.lit (.bool false)], args := [d1, d2, d3] }
  | _ => none }
def CoatSeenWrongFalsely : Prop := coatSeenRow.holds Try.pinned (OpenSpec.ofChange coatSeenWrong)

/- THE SECOND FORM. 'bulk': how many values and letters a reading holds, each counted each time it is reached (what is shared counts as often as it is met; a slice's spare places count too). A statement '..UptoSaid' is the law's where the arguments, and the package variables that the reading takes, are together of bulk at most 1048576: NARROWER than '..Said'. Prove '..Said' where nothing that the law and all that it calls make is longer than what came in: it says more and counts as full. Else prove '..UptoSaid'. A law counts once. -/
mutual
def uptoBulk {H : Type} : DataW H → Nat
  | .lit (.string bytes) => bytes.length + 1
  | .lit _ => 1
  | .nil => 1
  | .ptr d => uptoBulk d + 1
  | .slice elems spare => uptoBulkAll elems + uptoBulkAll spare + 1
  | .agg parts => uptoBulkAll parts + 1
  | .iface _ d => uptoBulk d + 1
  | .map entries => uptoBulkEntries entries + 1
  | .held _ => 1
def uptoBulkAll {H : Type} : List (DataW H) → Nat
  | [] => 0
  | d :: r => uptoBulk d + uptoBulkAll r
def uptoBulkEntries {H : Type} : List (Lit × DataW H) → Nat
  | [] => 0
  | x :: r => uptoBulkEntry x + uptoBulkEntries r
def uptoBulkEntry {H : Type} : Lit × DataW H → Nat
  | (.string bytes, d) => bytes.length + uptoBulk d + 1
  | (_, d) => uptoBulk d + 1
 end
def uptoSmall : (H : Type) → List (DataW H) → Bool := fun _ ds => decide (uptoBulkAll ds ≤ 1048576)
def OpenSpec.upto (s : _root_.Go.ChangeSpec) : _root_.Go.OpenSpec := { _root_.Go.OpenSpec.ofChange s with cond := some uptoSmall }

/-- 'smaltolaw10.CoatThicks', WHERE WHAT IT READS IS OF BULK AT MOST 1048576: true; the input reads as it did. -/
def coatThicksUptoRow : OpenClaim := { program := "ytfbndelhgfbkoaa", sum := "cc54a11d580d632207f1d1350c431d9f6e8236108433826ee28e13857ed06326", func := "smalto/smaltolaw10.CoatThicks", spec := "coatThicks", unfollowed := true, recurses := true, apart := false, narrowed := true }
def CoatThicksUptoSaid : Prop := coatThicksUptoRow.holds Try.pinned (OpenSpec.upto coatThicksSpec)

/-- 'smaltolaw10.CoatUses', WHERE WHAT IT READS IS OF BULK AT MOST 1048576: true; the input reads as it did. -/
def coatUsesUptoRow : OpenClaim := { program := "ytfbndelhgfbkoaa", sum := "cc54a11d580d632207f1d1350c431d9f6e8236108433826ee28e13857ed06326", func := "smalto/smaltolaw10.CoatUses", spec := "coatUses", unfollowed := true, recurses := true, apart := false, narrowed := true }
def CoatUsesUptoSaid : Prop := coatUsesUptoRow.holds Try.pinned (OpenSpec.upto coatUsesSpec)

/-- 'smaltolaw10.CoatMixes', WHERE WHAT IT READS IS OF BULK AT MOST 1048576: true; the input reads as it did. -/
def coatMixesUptoRow : OpenClaim := { program := "ytfbndelhgfbkoaa", sum := "cc54a11d580d632207f1d1350c431d9f6e8236108433826ee28e13857ed06326", func := "smalto/smaltolaw10.CoatMixes", spec := "coatMixes", unfollowed := true, recurses := true, apart := false, narrowed := true }
def CoatMixesUptoSaid : Prop := coatMixesUptoRow.holds Try.pinned (OpenSpec.upto coatMixesSpec)

/-- 'smaltolaw10.CoatTolds', WHERE WHAT IT READS IS OF BULK AT MOST 1048576: true; the input reads as it did. -/
def coatToldsUptoRow : OpenClaim := { program := "ytfbndelhgfbkoaa", sum := "cc54a11d580d632207f1d1350c431d9f6e8236108433826ee28e13857ed06326", func := "smalto/smaltolaw10.CoatTolds", spec := "coatTolds", unfollowed := true, recurses := true, apart := false, narrowed := true }
def CoatToldsUptoSaid : Prop := coatToldsUptoRow.holds Try.pinned (OpenSpec.upto coatToldsSpec)

/-- 'smaltolaw10.CoatLooks', WHERE WHAT IT READS IS OF BULK AT MOST 1048576: true; the input reads as it did. -/
def coatLooksUptoRow : OpenClaim := { program := "ytfbndelhgfbkoaa", sum := "cc54a11d580d632207f1d1350c431d9f6e8236108433826ee28e13857ed06326", func := "smalto/smaltolaw10.CoatLooks", spec := "coatLooks", unfollowed := true, recurses := true, apart := false, narrowed := true }
def CoatLooksUptoSaid : Prop := coatLooksUptoRow.holds Try.pinned (OpenSpec.upto coatLooksSpec)

/-- 'smaltolaw10.CoatTruth', WHERE WHAT IT READS IS OF BULK AT MOST 1048576: true; the input reads as it did. -/
def coatTruthUptoRow : OpenClaim := { program := "ytfbndelhgfbkoaa", sum := "cc54a11d580d632207f1d1350c431d9f6e8236108433826ee28e13857ed06326", func := "smalto/smaltolaw10.CoatTruth", spec := "coatTruth", unfollowed := true, recurses := true, apart := false, narrowed := true }
def CoatTruthUptoSaid : Prop := coatTruthUptoRow.holds Try.pinned (OpenSpec.upto coatTruthSpec)

/-- 'smaltolaw10.CoatCheapest', WHERE WHAT IT READS IS OF BULK AT MOST 1048576: true; the input reads as it did. -/
def coatCheapestUptoRow : OpenClaim := { program := "ytfbndelhgfbkoaa", sum := "cc54a11d580d632207f1d1350c431d9f6e8236108433826ee28e13857ed06326", func := "smalto/smaltolaw10.CoatCheapest", spec := "coatCheapest", unfollowed := true, recurses := true, apart := false, narrowed := true }
def CoatCheapestUptoSaid : Prop := coatCheapestUptoRow.holds Try.pinned (OpenSpec.upto coatCheapestSpec)

/-- 'smaltolaw10.CoatUsed', WHERE WHAT IT READS IS OF BULK AT MOST 1048576: true; the input reads as it did. -/
def coatUsedUptoRow : OpenClaim := { program := "ytfbndelhgfbkoaa", sum := "cc54a11d580d632207f1d1350c431d9f6e8236108433826ee28e13857ed06326", func := "smalto/smaltolaw10.CoatUsed", spec := "coatUsed", unfollowed := true, recurses := true, apart := false, narrowed := true }
def CoatUsedUptoSaid : Prop := coatUsedUptoRow.holds Try.pinned (OpenSpec.upto coatUsedSpec)

/-- 'smaltolaw10.CoatMixed', WHERE WHAT IT READS IS OF BULK AT MOST 1048576: true; the input reads as it did. -/
def coatMixedUptoRow : OpenClaim := { program := "ytfbndelhgfbkoaa", sum := "cc54a11d580d632207f1d1350c431d9f6e8236108433826ee28e13857ed06326", func := "smalto/smaltolaw10.CoatMixed", spec := "coatMixed", unfollowed := true, recurses := true, apart := false, narrowed := true }
def CoatMixedUptoSaid : Prop := coatMixedUptoRow.holds Try.pinned (OpenSpec.upto coatMixedSpec)

/-- 'smaltolaw10.CoatBarrels', WHERE WHAT IT READS IS OF BULK AT MOST 1048576: true; the input reads as it did. -/
def coatBarrelsUptoRow : OpenClaim := { program := "ytfbndelhgfbkoaa", sum := "cc54a11d580d632207f1d1350c431d9f6e8236108433826ee28e13857ed06326", func := "smalto/smaltolaw10.CoatBarrels", spec := "coatBarrels", unfollowed := true, recurses := true, apart := false, narrowed := true }
def CoatBarrelsUptoSaid : Prop := coatBarrelsUptoRow.holds Try.pinned (OpenSpec.upto coatBarrelsSpec)

/-- 'smaltolaw10.CoatSeen', WHERE WHAT IT READS IS OF BULK AT MOST 1048576: true; the input reads as it did. -/
def coatSeenUptoRow : OpenClaim := { program := "ytfbndelhgfbkoaa", sum := "cc54a11d580d632207f1d1350c431d9f6e8236108433826ee28e13857ed06326", func := "smalto/smaltolaw10.CoatSeen", spec := "coatSeen", unfollowed := true, recurses := true, apart := false, narrowed := true }
def CoatSeenUptoSaid : Prop := coatSeenUptoRow.holds Try.pinned (OpenSpec.upto coatSeenSpec)

end Rows
end Go.Proofs.Ytfbndelhgfbkoaa
