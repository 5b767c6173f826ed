/-
  No cell of these rows narrows 'for every input' (looked for: loops, veiled, ifaces, maps, wideKeys, modest, calm, conditions, laid).
  DERIVED. THE GIVEN ROWS OF THIS SEAT. 14 by the template 'for every input the law returns true; each argument reads behind the call as it read before'; 0 by the template 'total and deterministic' (their statements: YtckfgdpklpgmdaaTotals.lean).
  GIVEN WITH THE SEED: the statements are not yours to turn. If you find one false, say at which input.
  Laid BY PROGRAM, IN A SANDBOX (cutbox-rows.mjs): the forced cells as the released guide's own fill.sh prints them over the translation 1976e9c2812c6e0c… (all of the seat's roots in one cut). By AI agents, Wed Nov 11 2026. No macro, syntax, notation, axiom, sorry.
-/
import Derived.Test.YtckfgdpklpgmdaaChecked
import GoSem.Claim
import GoSem.ClaimJoined
import GoSem.ClaimMapViews
import Derived.JoinedTies
import Derived.KernelRfl
namespace Go.Proofs.Ytckfgdpklpgmdaa
/- THE CELL 'sum', in the pinned program and in every row, IS THE sha256 OF THE DUMP (.gsa) THAT YtckfgdpklpgmdaaProg.lean LOADS. Nothing in Lean hashes anything: it is a label: what it is worth is what the hold of that sum in a sandbox is worth. -/
noncomputable def Try.pinned : Pinned := { name := "ytckfgdpklpgmdaa", sum := "1976e9c2812c6e0c58b4490cc0c4261b457bc7c5dcd0ceaff1e071c6fe69441c", checked := Try.checked }
namespace Rows
def none {H : Type} : Left H := { results := [], args := [] }

/-- 'smaltolaw06.PickleStrengths': WHATEVER THE INPUT: true; the input reads as it did. -/
def pickleStrengthsSpec : ChangeSpec := { name := "pickleStrengths", fn := fun _ => fun
  | [d1, d2] => { results := [.lit (.bool true)], args := [d1, d2] }
  | _ => none }
def pickleStrengthsRow : OpenClaim := { program := "ytckfgdpklpgmdaa", sum := "1976e9c2812c6e0c58b4490cc0c4261b457bc7c5dcd0ceaff1e071c6fe69441c", func := "smalto/smaltolaw06.PickleStrengths", spec := "pickleStrengths", unfollowed := true, recurses := true, apart := false }
def PickleStrengthsSaid : Prop := pickleStrengthsRow.holds Try.pinned (OpenSpec.ofChange pickleStrengthsSpec)

/-- ITS FALSE NEIGHBOUR: 'it returns false'. Refute it at one input. -/
def pickleStrengthsWrong : ChangeSpec := { name := "pickleStrengths", fn := fun _ => fun
  | [d1, d2] => { results := [.lit (.bool false)], args := [d1, d2] }
  | _ => none }
def PickleStrengthsWrongFalsely : Prop := pickleStrengthsRow.holds Try.pinned (OpenSpec.ofChange pickleStrengthsWrong)

/-- 'smaltolaw06.PickleOuts': WHATEVER THE INPUT: true; the input reads as it did. -/
def pickleOutsSpec : ChangeSpec := { name := "pickleOuts", fn := fun _ => fun
  | [d1, d2] => { results := [.lit (.bool true)], args := [d1, d2] }
  | _ => none }
def pickleOutsRow : OpenClaim := { program := "ytckfgdpklpgmdaa", sum := "1976e9c2812c6e0c58b4490cc0c4261b457bc7c5dcd0ceaff1e071c6fe69441c", func := "smalto/smaltolaw06.PickleOuts", spec := "pickleOuts", unfollowed := true, recurses := true, apart := false }
def PickleOutsSaid : Prop := pickleOutsRow.holds Try.pinned (OpenSpec.ofChange pickleOutsSpec)

/-- ITS FALSE NEIGHBOUR: 'it returns false'. Refute it at one input. -/
def pickleOutsWrong : ChangeSpec := { name := "pickleOuts", fn := fun _ => fun
  | [d1, d2] => { results := [.lit (.bool false)], args := [d1, d2] }
  | _ => none }
def PickleOutsWrongFalsely : Prop := pickleOutsRow.holds Try.pinned (OpenSpec.ofChange pickleOutsWrong)

/-- 'smaltolaw06.PickleHours': WHATEVER THE INPUT: true; the input reads as it did. -/
def pickleHoursSpec : ChangeSpec := { name := "pickleHours", fn := fun _ => fun
  | [d1, d2, d3] => { results := [.lit (.bool true)], args := [d1, d2, d3] }
  | _ => none }
def pickleHoursRow : OpenClaim := { program := "ytckfgdpklpgmdaa", sum := "1976e9c2812c6e0c58b4490cc0c4261b457bc7c5dcd0ceaff1e071c6fe69441c", func := "smalto/smaltolaw06.PickleHours", spec := "pickleHours", unfollowed := true, recurses := true, apart := false }
def PickleHoursSaid : Prop := pickleHoursRow.holds Try.pinned (OpenSpec.ofChange pickleHoursSpec)

/-- ITS FALSE NEIGHBOUR: 'it returns false'. Refute it at one input. -/
def pickleHoursWrong : ChangeSpec := { name := "pickleHours", fn := fun _ => fun
  | [d1, d2, d3] => { results := [.lit (.bool false)], args := [d1, d2, d3] }
  | _ => none }
def PickleHoursWrongFalsely : Prop := pickleHoursRow.holds Try.pinned (OpenSpec.ofChange pickleHoursWrong)

/-- 'smaltolaw06.PickleOrders': WHATEVER THE INPUT: true; the input reads as it did. -/
def pickleOrdersSpec : ChangeSpec := { name := "pickleOrders", fn := fun _ => fun
  | [d] => { results := [.lit (.bool true)], args := [d] }
  | _ => none }
def pickleOrdersRow : OpenClaim := { program := "ytckfgdpklpgmdaa", sum := "1976e9c2812c6e0c58b4490cc0c4261b457bc7c5dcd0ceaff1e071c6fe69441c", func := "smalto/smaltolaw06.PickleOrders", spec := "pickleOrders", unfollowed := true, recurses := true, apart := false }
def PickleOrdersSaid : Prop := pickleOrdersRow.holds Try.pinned (OpenSpec.ofChange pickleOrdersSpec)

/-- ITS FALSE NEIGHBOUR: 'it returns false'. Refute it at one input. -/
def pickleOrdersWrong : ChangeSpec := { name := "pickleOrders", fn := fun _ => fun
  | [d] => { results := [.lit (.bool false)], args := [d] }
  | _ => none }
def PickleOrdersWrongFalsely : Prop := pickleOrdersRow.holds Try.pinned (OpenSpec.ofChange pickleOrdersWrong)

/-- 'smaltolaw06.PickleMixes': WHATEVER THE INPUT: true; the input reads as it did. -/
def pickleMixesSpec : ChangeSpec := { name := "pickleMixes", fn := fun _ => fun
  | [d1, d2] => { results := [.lit (.bool true)], args := [d1, d2] }
  | _ => none }
def pickleMixesRow : OpenClaim := { program := "ytckfgdpklpgmdaa", sum := "1976e9c2812c6e0c58b4490cc0c4261b457bc7c5dcd0ceaff1e071c6fe69441c", func := "smalto/smaltolaw06.PickleMixes", spec := "pickleMixes", unfollowed := true, recurses := true, apart := false }
def PickleMixesSaid : Prop := pickleMixesRow.holds Try.pinned (OpenSpec.ofChange pickleMixesSpec)

/-- ITS FALSE NEIGHBOUR: 'it returns false'. Refute it at one input. -/
def pickleMixesWrong : ChangeSpec := { name := "pickleMixes", fn := fun _ => fun
  | [d1, d2] => { results := [.lit (.bool false)], args := [d1, d2] }
  | _ => none }
def PickleMixesWrongFalsely : Prop := pickleMixesRow.holds Try.pinned (OpenSpec.ofChange pickleMixesWrong)

/-- 'smaltolaw06.PickleWas': WHATEVER THE INPUT: true; the input reads as it did. -/
def pickleWasSpec : ChangeSpec := { name := "pickleWas", fn := fun _ => fun
  | [d1, d2] => { results := [.lit (.bool true)], args := [d1, d2] }
  | _ => none }
def pickleWasRow : OpenClaim := { program := "ytckfgdpklpgmdaa", sum := "1976e9c2812c6e0c58b4490cc0c4261b457bc7c5dcd0ceaff1e071c6fe69441c", func := "smalto/smaltolaw06.PickleWas", spec := "pickleWas", unfollowed := true, recurses := true, apart := false }
def PickleWasSaid : Prop := pickleWasRow.holds Try.pinned (OpenSpec.ofChange pickleWasSpec)

/-- ITS FALSE NEIGHBOUR: 'it returns false'. Refute it at one input. -/
def pickleWasWrong : ChangeSpec := { name := "pickleWas", fn := fun _ => fun
  | [d1, d2] => { results := [.lit (.bool false)], args := [d1, d2] }
  | _ => none }
def PickleWasWrongFalsely : Prop := pickleWasRow.holds Try.pinned (OpenSpec.ofChange pickleWasWrong)

/-- 'smaltolaw06.PickleMisses': WHATEVER THE INPUT: true; the input reads as it did. -/
def pickleMissesSpec : ChangeSpec := { name := "pickleMisses", fn := fun _ => fun
  | [d1, d2, d3] => { results := [.lit (.bool true)], args := [d1, d2, d3] }
  | _ => none }
def pickleMissesRow : OpenClaim := { program := "ytckfgdpklpgmdaa", sum := "1976e9c2812c6e0c58b4490cc0c4261b457bc7c5dcd0ceaff1e071c6fe69441c", func := "smalto/smaltolaw06.PickleMisses", spec := "pickleMisses", unfollowed := true, recurses := true, apart := false }
def PickleMissesSaid : Prop := pickleMissesRow.holds Try.pinned (OpenSpec.ofChange pickleMissesSpec)

/-- ITS FALSE NEIGHBOUR: 'it returns false'. Refute it at one input. -/
def pickleMissesWrong : ChangeSpec := { name := "pickleMisses", fn := fun _ => fun
  | [d1, d2, d3] => { results := [.lit (.bool false)], args := [d1, d2, d3] }
  | _ => none }
def PickleMissesWrongFalsely : Prop := pickleMissesRow.holds Try.pinned (OpenSpec.ofChange pickleMissesWrong)

/-- 'smaltolaw06.PickleTruth': WHATEVER THE INPUT: true; the input reads as it did. -/
def pickleTruthSpec : ChangeSpec := { name := "pickleTruth", fn := fun _ => fun
  | [d1, d2] => { results := [.lit (.bool true)], args := [d1, d2] }
  | _ => none }
def pickleTruthRow : OpenClaim := { program := "ytckfgdpklpgmdaa", sum := "1976e9c2812c6e0c58b4490cc0c4261b457bc7c5dcd0ceaff1e071c6fe69441c", func := "smalto/smaltolaw06.PickleTruth", spec := "pickleTruth", unfollowed := true, recurses := true, apart := false }
def PickleTruthSaid : Prop := pickleTruthRow.holds Try.pinned (OpenSpec.ofChange pickleTruthSpec)

/-- ITS FALSE NEIGHBOUR: 'it returns false'. Refute it at one input. -/
def pickleTruthWrong : ChangeSpec := { name := "pickleTruth", fn := fun _ => fun
  | [d1, d2] => { results := [.lit (.bool false)], args := [d1, d2] }
  | _ => none }
def PickleTruthWrongFalsely : Prop := pickleTruthRow.holds Try.pinned (OpenSpec.ofChange pickleTruthWrong)

/-- 'smaltolaw06.PickleLies': WHATEVER THE INPUT: true; the input reads as it did. -/
def pickleLiesSpec : ChangeSpec := { name := "pickleLies", fn := fun _ => fun
  | [d1, d2, d3] => { results := [.lit (.bool true)], args := [d1, d2, d3] }
  | _ => none }
def pickleLiesRow : OpenClaim := { program := "ytckfgdpklpgmdaa", sum := "1976e9c2812c6e0c58b4490cc0c4261b457bc7c5dcd0ceaff1e071c6fe69441c", func := "smalto/smaltolaw06.PickleLies", spec := "pickleLies", unfollowed := true, recurses := true, apart := false }
def PickleLiesSaid : Prop := pickleLiesRow.holds Try.pinned (OpenSpec.ofChange pickleLiesSpec)

/-- ITS FALSE NEIGHBOUR: 'it returns false'. Refute it at one input. -/
def pickleLiesWrong : ChangeSpec := { name := "pickleLies", fn := fun _ => fun
  | [d1, d2, d3] => { results := [.lit (.bool false)], args := [d1, d2, d3] }
  | _ => none }
def PickleLiesWrongFalsely : Prop := pickleLiesRow.holds Try.pinned (OpenSpec.ofChange pickleLiesWrong)

/-- 'smaltolaw06.PickleFewest': WHATEVER THE INPUT: true; the input reads as it did. -/
def pickleFewestSpec : ChangeSpec := { name := "pickleFewest", fn := fun _ => fun
  | [d1, d2] => { results := [.lit (.bool true)], args := [d1, d2] }
  | _ => none }
def pickleFewestRow : OpenClaim := { program := "ytckfgdpklpgmdaa", sum := "1976e9c2812c6e0c58b4490cc0c4261b457bc7c5dcd0ceaff1e071c6fe69441c", func := "smalto/smaltolaw06.PickleFewest", spec := "pickleFewest", unfollowed := true, recurses := true, apart := false }
def PickleFewestSaid : Prop := pickleFewestRow.holds Try.pinned (OpenSpec.ofChange pickleFewestSpec)

/-- ITS FALSE NEIGHBOUR: 'it returns false'. Refute it at one input. -/
def pickleFewestWrong : ChangeSpec := { name := "pickleFewest", fn := fun _ => fun
  | [d1, d2] => { results := [.lit (.bool false)], args := [d1, d2] }
  | _ => none }
def PickleFewestWrongFalsely : Prop := pickleFewestRow.holds Try.pinned (OpenSpec.ofChange pickleFewestWrong)

/-- 'smaltolaw06.PickleFilled': WHATEVER THE INPUT: true; the input reads as it did. -/
def pickleFilledSpec : ChangeSpec := { name := "pickleFilled", fn := fun _ => fun
  | [d1, d2] => { results := [.lit (.bool true)], args := [d1, d2] }
  | _ => none }
def pickleFilledRow : OpenClaim := { program := "ytckfgdpklpgmdaa", sum := "1976e9c2812c6e0c58b4490cc0c4261b457bc7c5dcd0ceaff1e071c6fe69441c", func := "smalto/smaltolaw06.PickleFilled", spec := "pickleFilled", unfollowed := true, recurses := true, apart := false }
def PickleFilledSaid : Prop := pickleFilledRow.holds Try.pinned (OpenSpec.ofChange pickleFilledSpec)

/-- ITS FALSE NEIGHBOUR: 'it returns false'. Refute it at one input. -/
def pickleFilledWrong : ChangeSpec := { name := "pickleFilled", fn := fun _ => fun
  | [d1, d2] => { results := [.lit (.bool false)], args := [d1, d2] }
  | _ => none }
def PickleFilledWrongFalsely : Prop := pickleFilledRow.holds Try.pinned (OpenSpec.ofChange pickleFilledWrong)

/-- 'smaltolaw06.PickleMixed': WHATEVER THE INPUT: true; the input reads as it did. -/
def pickleMixedSpec : ChangeSpec := { name := "pickleMixed", fn := fun _ => fun
  | [d1, d2] => { results := [.lit (.bool true)], args := [d1, d2] }
  | _ => none }
def pickleMixedRow : OpenClaim := { program := "ytckfgdpklpgmdaa", sum := "1976e9c2812c6e0c58b4490cc0c4261b457bc7c5dcd0ceaff1e071c6fe69441c", func := "smalto/smaltolaw06.PickleMixed", spec := "pickleMixed", unfollowed := true, recurses := true, apart := false }
def PickleMixedSaid : Prop := pickleMixedRow.holds Try.pinned (OpenSpec.ofChange pickleMixedSpec)

/-- ITS FALSE NEIGHBOUR: 'it returns false'. Refute it at one input. -/
def pickleMixedWrong : ChangeSpec := { name := "pickleMixed", fn := fun _ => fun
  | [d1, d2] => { results := [.lit (.bool false)], args := [d1, d2] }
  | _ => none }
def PickleMixedWrongFalsely : Prop := pickleMixedRow.holds Try.pinned (OpenSpec.ofChange pickleMixedWrong)

/-- 'smaltolaw06.PickleSeen': WHATEVER THE INPUT: true; the input reads as it did. -/
def pickleSeenSpec : ChangeSpec := { name := "pickleSeen", fn := fun _ => fun
  | [d1, d2, d3] => { results := [.lit (.bool true)], args := [d1, d2, d3] }
  | _ => none }
def pickleSeenRow : OpenClaim := { program := "ytckfgdpklpgmdaa", sum := "1976e9c2812c6e0c58b4490cc0c4261b457bc7c5dcd0ceaff1e071c6fe69441c", func := "smalto/smaltolaw06.PickleSeen", spec := "pickleSeen", unfollowed := true, recurses := true, apart := false }
def PickleSeenSaid : Prop := pickleSeenRow.holds Try.pinned (OpenSpec.ofChange pickleSeenSpec)

/-- ITS FALSE NEIGHBOUR: 'it returns false'. Refute it at one input. -/
def pickleSeenWrong : ChangeSpec := { name := "pickleSeen", fn := fun _ => fun
  | [d1, d2, d3] => { results := [.lit (.bool false)], args := [d1, d2, d3] }
  | _ => none }
def PickleSeenWrongFalsely : Prop := pickleSeenRow.holds Try.pinned (OpenSpec.ofChange pickleSeenWrong)

/-- 'smaltolaw06.PickleMissed': WHATEVER THE INPUT: true; the input reads as it did. -/
def pickleMissedSpec : ChangeSpec := { name := "pickleMissed", fn := fun _ => fun
  | [d1, d2] => { results := [.lit (.bool true)], args := [d1, d2] }
  | _ => none }
def pickleMissedRow : OpenClaim := { program := "ytckfgdpklpgmdaa", sum := "1976e9c2812c6e0c58b4490cc0c4261b457bc7c5dcd0ceaff1e071c6fe69441c", func := "smalto/smaltolaw06.PickleMissed", spec := "pickleMissed", unfollowed := true, recurses := true, apart := false }
def PickleMissedSaid : Prop := pickleMissedRow.holds Try.pinned (OpenSpec.ofChange pickleMissedSpec)

/-- ITS FALSE NEIGHBOUR: 'it returns false'. Refute it at one input. -/
def pickleMissedWrong : ChangeSpec := { name := "pickleMissed", fn := fun _ => fun
  | [d1, d2] => { results := [.lit (.bool false)], args := [d1, d2] }
  | _ => none }
def PickleMissedWrongFalsely : Prop := pickleMissedRow.holds Try.pinned (OpenSpec.ofChange pickleMissedWrong)

/- THE SECOND FORM. 'bulk': how many values and letters a reading holds, each counted each time it is reached (what is shared counts as often as it is met; a slice's spare places count too). A statement '..UptoSaid' is the law's where the arguments, and the package variables that the reading takes, are together of bulk at most 1048576: NARROWER than '..Said'. Prove '..Said' where nothing that the law and all that it calls make is longer than what came in: it says more and counts as full. Else prove '..UptoSaid'. A law counts once. -/
mutual
def uptoBulk {H : Type} : DataW H → Nat
  | .lit (.string bytes) => bytes.length + 1
  | .lit _ => 1
  | .nil => 1
  | .ptr d => uptoBulk d + 1
  | .slice elems spare => uptoBulkAll elems + uptoBulkAll spare + 1
  | .agg parts => uptoBulkAll parts + 1
  | .iface _ d => uptoBulk d + 1
  | .map entries => uptoBulkEntries entries + 1
  | .held _ => 1
def uptoBulkAll {H : Type} : List (DataW H) → Nat
  | [] => 0
  | d :: r => uptoBulk d + uptoBulkAll r
def uptoBulkEntries {H : Type} : List (Lit × DataW H) → Nat
  | [] => 0
  | x :: r => uptoBulkEntry x + uptoBulkEntries r
def uptoBulkEntry {H : Type} : Lit × DataW H → Nat
  | (.string bytes, d) => bytes.length + uptoBulk d + 1
  | (_, d) => uptoBulk d + 1
 end
def uptoSmall : (H : Type) → List (DataW H) → Bool := fun _ ds => decide (uptoBulkAll ds ≤ 1048576)
def OpenSpec.upto (s : _root_.Go.ChangeSpec) : _root_.Go.OpenSpec := { _root_.Go.OpenSpec.ofChange s with cond := some uptoSmall }

/-- 'smaltolaw06.PickleStrengths', WHERE WHAT IT READS IS OF BULK AT MOST 1048576: true; the input reads as it did. -/
def pickleStrengthsUptoRow : OpenClaim := { program := "ytckfgdpklpgmdaa", sum := "1976e9c2812c6e0c58b4490cc0c4261b457bc7c5dcd0ceaff1e071c6fe69441c", func := "smalto/smaltolaw06.PickleStrengths", spec := "pickleStrengths", unfollowed := true, recurses := true, apart := false, narrowed := true }
def PickleStrengthsUptoSaid : Prop := pickleStrengthsUptoRow.holds Try.pinned (OpenSpec.upto pickleStrengthsSpec)

/-- 'smaltolaw06.PickleOuts', WHERE WHAT IT READS IS OF BULK AT MOST 1048576: true; the input reads as it did. -/
def pickleOutsUptoRow : OpenClaim := { program := "ytckfgdpklpgmdaa", sum := "1976e9c2812c6e0c58b4490cc0c4261b457bc7c5dcd0ceaff1e071c6fe69441c", func := "smalto/smaltolaw06.PickleOuts", spec := "pickleOuts", unfollowed := true, recurses := true, apart := false, narrowed := true }
def PickleOutsUptoSaid : Prop := pickleOutsUptoRow.holds Try.pinned (OpenSpec.upto pickleOutsSpec)

/-- 'smaltolaw06.PickleHours', WHERE WHAT IT READS IS OF BULK AT MOST 1048576: true; the input reads as it did. -/
def pickleHoursUptoRow : OpenClaim := { program := "ytckfgdpklpgmdaa", sum := "1976e9c2812c6e0c58b4490cc0c4261b457bc7c5dcd0ceaff1e071c6fe69441c", func := "smalto/smaltolaw06.PickleHours", spec := "pickleHours", unfollowed := true, recurses := true, apart := false, narrowed := true }
def PickleHoursUptoSaid : Prop := pickleHoursUptoRow.holds Try.pinned (OpenSpec.upto pickleHoursSpec)

/-- 'smaltolaw06.PickleOrders', WHERE WHAT IT READS IS OF BULK AT MOST 1048576: true; the input reads as it did. -/
def pickleOrdersUptoRow : OpenClaim := { program := "ytckfgdpklpgmdaa", sum := "1976e9c2812c6e0c58b4490cc0c4261b457bc7c5dcd0ceaff1e071c6fe69441c", func := "smalto/smaltolaw06.PickleOrders", spec := "pickleOrders", unfollowed := true, recurses := true, apart := false, narrowed := true }
def PickleOrdersUptoSaid : Prop := pickleOrdersUptoRow.holds Try.pinned (OpenSpec.upto pickleOrdersSpec)

/-- 'smaltolaw06.PickleMixes', WHERE WHAT IT READS IS OF BULK AT MOST 1048576: true; the input reads as it did. -/
def pickleMixesUptoRow : OpenClaim := { program := "ytckfgdpklpgmdaa", sum := "1976e9c2812c6e0c58b4490cc0c4261b457bc7c5dcd0ceaff1e071c6fe69441c", func := "smalto/smaltolaw06.PickleMixes", spec := "pickleMixes", unfollowed := true, recurses := true, apart := false, narrowed := true }
def PickleMixesUptoSaid : Prop := pickleMixesUptoRow.holds Try.pinned (OpenSpec.upto pickleMixesSpec)

/-- 'smaltolaw06.PickleWas', WHERE WHAT IT READS IS OF BULK AT MOST 1048576: true; the input reads as it did. -/
def pickleWasUptoRow : OpenClaim := { program := "ytckfgdpklpgmdaa", sum := "1976e9c2812c6e0c58b4490cc0c4261b457bc7c5dcd0ceaff1e071c6fe69441c", func := "smalto/smaltolaw06.PickleWas", spec := "pickleWas", unfollowed := true, recurses := true, apart := false, narrowed := true }
def PickleWasUptoSaid : Prop := pickleWasUptoRow.holds Try.pinned (OpenSpec.upto pickleWasSpec)

/-- 'smaltolaw06.PickleMisses', WHERE WHAT IT READS IS OF BULK AT MOST 1048576: true; the input reads as it did. -/
def pickleMissesUptoRow : OpenClaim := { program := "ytckfgdpklpgmdaa", sum := "1976e9c2812c6e0c58b4490cc0c4261b457bc7c5dcd0ceaff1e071c6fe69441c", func := "smalto/smaltolaw06.PickleMisses", spec := "pickleMisses", unfollowed := true, recurses := true, apart := false, narrowed := true }
def PickleMissesUptoSaid : Prop := pickleMissesUptoRow.holds Try.pinned (OpenSpec.upto pickleMissesSpec)

/-- 'smaltolaw06.PickleTruth', WHERE WHAT IT READS IS OF BULK AT MOST 1048576: true; the input reads as it did. -/
def pickleTruthUptoRow : OpenClaim := { program := "ytckfgdpklpgmdaa", sum := "1976e9c2812c6e0c58b4490cc0c4261b457bc7c5dcd0ceaff1e071c6fe69441c", func := "smalto/smaltolaw06.PickleTruth", spec := "pickleTruth", unfollowed := true, recurses := true, apart := false, narrowed := true }
def PickleTruthUptoSaid : Prop := pickleTruthUptoRow.holds Try.pinned (OpenSpec.upto pickleTruthSpec)

/-- 'smaltolaw06.PickleLies', WHERE WHAT IT READS IS OF BULK AT MOST 1048576: true; the input reads as it did. -/
def pickleLiesUptoRow : OpenClaim := { program := "ytckfgdpklpgmdaa", sum := "1976e9c2812c6e0c58b4490cc0c4261b457bc7c5dcd0ceaff1e071c6fe69441c", func := "smalto/smaltolaw06.PickleLies", spec := "pickleLies", unfollowed := true, recurses := true, apart := false, narrowed := true }
def PickleLiesUptoSaid : Prop := pickleLiesUptoRow.holds Try.pinned (OpenSpec.upto pickleLiesSpec)

/-- 'smaltolaw06.PickleFewest', WHERE WHAT IT READS IS OF BULK AT MOST 1048576: true; the input reads as it did. -/
def pickleFewestUptoRow : OpenClaim := { program := "ytckfgdpklpgmdaa", sum := "1976e9c2812c6e0c58b4490cc0c4261b457bc7c5dcd0ceaff1e071c6fe69441c", func := "smalto/smaltolaw06.PickleFewest", spec := "pickleFewest", unfollowed := true, recurses := true, apart := false, narrowed := true }
def PickleFewestUptoSaid : Prop := pickleFewestUptoRow.holds Try.pinned (OpenSpec.upto pickleFewestSpec)

/-- 'smaltolaw06.PickleFilled', WHERE WHAT IT READS IS OF BULK AT MOST 1048576: true; the input reads as it did. -/
def pickleFilledUptoRow : OpenClaim := { program := "ytckfgdpklpgmdaa", sum := "1976e9c2812c6e0c58b4490cc0c4261b457bc7c5dcd0ceaff1e071c6fe69441c", func := "smalto/smaltolaw06.PickleFilled", spec := "pickleFilled", unfollowed := true, recurses := true, apart := false, narrowed := true }
def PickleFilledUptoSaid : Prop := pickleFilledUptoRow.holds Try.pinned (OpenSpec.upto pickleFilledSpec)

/-- 'smaltolaw06.PickleMixed', WHERE WHAT IT READS IS OF BULK AT MOST 1048576: true; the input reads as it did. -/
def pickleMixedUptoRow : OpenClaim := { program := "ytckfgdpklpgmdaa", sum := "1976e9c2812c6e0c58b4490cc0c4261b457bc7c5dcd0ceaff1e071c6fe69441c", func := "smalto/smaltolaw06.PickleMixed", spec := "pickleMixed", unfollowed := true, recurses := true, apart := false, narrowed := true }
def PickleMixedUptoSaid : Prop := pickleMixedUptoRow.holds Try.pinned (OpenSpec.upto pickleMixedSpec)

/-- 'smaltolaw06.PickleSeen', WHERE WHAT IT READS IS OF BULK AT MOST 1048576: true; the input reads as it did. -/
def pickleSeenUptoRow : OpenClaim := { program := "ytckfgdpklpgmdaa", sum := "1976e9c2812c6e0c58b4490cc0c4261b457bc7c5dcd0ceaff1e071c6fe69441c", func := "smalto/smaltolaw06.PickleSeen", spec := "pickleSeen", unfollowed := true, recurses := true, apart := false, narrowed := true }
def PickleSeenUptoSaid : Prop := pickleSeenUptoRow.holds Try.pinned (OpenSpec.upto pickleSeenSpec)

/-- 'smaltolaw06.PickleMissed', WHERE WHAT IT READS IS OF BULK AT MOST 1048576: true; the input reads as it did. -/
def pickleMissedUptoRow : OpenClaim := { program := "ytckfgdpklpgmdaa", sum := "1976e9c2812c6e0c58b4490cc0c4261b457bc7c5dcd0ceaff1e071c6fe69441c", func := "smalto/smaltolaw06.PickleMissed", spec := "pickleMissed", unfollowed := true, recurses := true, apart := false, narrowed := true }
def PickleMissedUptoSaid : Prop := pickleMissedUptoRow.holds Try.pinned (OpenSpec.upto pickleMissedSpec)

end Rows
end Go.Proofs.Ytckfgdpklpgmdaa
