/-
  No cell of these rows narrows 'for every input' (looked for: loops, veiled, ifaces, maps, wideKeys, modest, calm, conditions, laid).
  DERIVED. THE GIVEN ROWS OF THIS SEAT. 10 by the template 'for every input the law returns true; each argument reads behind the call as it read before'; 0 by the template 'total and deterministic' (their statements: YtglcghgokedbcaaTotals.lean).
  GIVEN WITH THE SEED: the statements are not yours to turn. If you find one false, say at which input.
  Laid BY PROGRAM, IN A SANDBOX (cutbox-rows.mjs): the forced cells as the released guide's own fill.sh prints them over the translation 74048fd0a9e5af7e… (all of the seat's roots in one cut). By AI agents, Wed Nov 11 2026. No macro, syntax, notation, axiom, sorry.
-/
import Derived.Test.YtglcghgokedbcaaChecked
import GoSem.Claim
import GoSem.ClaimJoined
import GoSem.ClaimMapViews
import Derived.JoinedTies
import Derived.KernelRfl
namespace Go.Proofs.Ytglcghgokedbcaa
/- THE CELL 'sum', in the pinned program and in every row, IS THE sha256 OF THE DUMP (.gsa) THAT YtglcghgokedbcaaProg.lean LOADS. Nothing in Lean hashes anything: it is a label: what it is worth is what the hold of that sum in a sandbox is worth. -/
noncomputable def Try.pinned : Pinned := { name := "ytglcghgokedbcaa", sum := "74048fd0a9e5af7e7854802a577799706a83ee6ec1aaca3ce36bc6837c5bb6b2", checked := Try.checked }
namespace Rows
def none {H : Type} : Left H := { results := [], args := [] }

/-- 'smaltolaw12.LedgerLefts': WHATEVER THE INPUT: true; the input reads as it did. -/
def ledgerLeftsSpec : ChangeSpec := { name := "ledgerLefts", fn := fun _ => fun
  | [d1, d2] => { results := [.lit (.bool true)], args := [d1, d2] }
  | _ => none }
def ledgerLeftsRow : OpenClaim := { program := "ytglcghgokedbcaa", sum := "74048fd0a9e5af7e7854802a577799706a83ee6ec1aaca3ce36bc6837c5bb6b2", func := "smalto/smaltolaw12.LedgerLefts", spec := "ledgerLefts", unfollowed := true, recurses := true, apart := false }
def LedgerLeftsSaid : Prop := ledgerLeftsRow.holds Try.pinned (OpenSpec.ofChange ledgerLeftsSpec)

/-- ITS FALSE NEIGHBOUR: 'it returns false'. Refute it at one input. -/
def ledgerLeftsWrong : ChangeSpec := { name := "ledgerLefts", fn := fun _ => fun
  | [d1, d2] => { results := [.lit (.bool false)], args := [d1, d2] }
  | _ => none }
def LedgerLeftsWrongFalsely : Prop := ledgerLeftsRow.holds Try.pinned (OpenSpec.ofChange ledgerLeftsWrong)

/-- 'smaltolaw12.LedgerOdds': WHATEVER THE INPUT: true; the input reads as it did. -/
def ledgerOddsSpec : ChangeSpec := { name := "ledgerOdds", fn := fun _ => fun
  | [d1, d2] => { results := [.lit (.bool true)], args := [d1, d2] }
  | _ => none }
def ledgerOddsRow : OpenClaim := { program := "ytglcghgokedbcaa", sum := "74048fd0a9e5af7e7854802a577799706a83ee6ec1aaca3ce36bc6837c5bb6b2", func := "smalto/smaltolaw12.LedgerOdds", spec := "ledgerOdds", unfollowed := true, recurses := true, apart := false }
def LedgerOddsSaid : Prop := ledgerOddsRow.holds Try.pinned (OpenSpec.ofChange ledgerOddsSpec)

/-- ITS FALSE NEIGHBOUR: 'it returns false'. Refute it at one input. -/
def ledgerOddsWrong : ChangeSpec := { name := "ledgerOdds", fn := fun _ => fun
  | [d1, d2] => { results := [.lit (.bool false)], args := [d1, d2] }
  | _ => none }
def LedgerOddsWrongFalsely : Prop := ledgerOddsRow.holds Try.pinned (OpenSpec.ofChange ledgerOddsWrong)

/-- 'smaltolaw12.LedgerFixes': WHATEVER THE INPUT: true; the input reads as it did. -/
def ledgerFixesSpec : ChangeSpec := { name := "ledgerFixes", fn := fun _ => fun
  | [d1, d2] => { results := [.lit (.bool true)], args := [d1, d2] }
  | _ => none }
def ledgerFixesRow : OpenClaim := { program := "ytglcghgokedbcaa", sum := "74048fd0a9e5af7e7854802a577799706a83ee6ec1aaca3ce36bc6837c5bb6b2", func := "smalto/smaltolaw12.LedgerFixes", spec := "ledgerFixes", unfollowed := true, recurses := true, apart := false }
def LedgerFixesSaid : Prop := ledgerFixesRow.holds Try.pinned (OpenSpec.ofChange ledgerFixesSpec)

/-- ITS FALSE NEIGHBOUR: 'it returns false'. Refute it at one input. -/
def ledgerFixesWrong : ChangeSpec := { name := "ledgerFixes", fn := fun _ => fun
  | [d1, d2] => { results := [.lit (.bool false)], args := [d1, d2] }
  | _ => none }
def LedgerFixesWrongFalsely : Prop := ledgerFixesRow.holds Try.pinned (OpenSpec.ofChange ledgerFixesWrong)

/-- 'smaltolaw12.LedgerLows': WHATEVER THE INPUT: true; the input reads as it did. -/
def ledgerLowsSpec : ChangeSpec := { name := "ledgerLows", fn := fun _ => fun
  | [d1, d2, d3] => { results := [.lit (.bool true)], args := [d1, d2, d3] }
  | _ => none }
def ledgerLowsRow : OpenClaim := { program := "ytglcghgokedbcaa", sum := "74048fd0a9e5af7e7854802a577799706a83ee6ec1aaca3ce36bc6837c5bb6b2", func := "smalto/smaltolaw12.LedgerLows", spec := "ledgerLows", unfollowed := true, recurses := true, apart := false }
def LedgerLowsSaid : Prop := ledgerLowsRow.holds Try.pinned (OpenSpec.ofChange ledgerLowsSpec)

/-- ITS FALSE NEIGHBOUR: 'it returns false'. Refute it at one input. -/
def ledgerLowsWrong : ChangeSpec := { name := "ledgerLows", fn := fun _ => fun
  | [d1, d2, d3] => { results := [.lit (.bool false)], args := [d1, d2, d3] }
  | _ => none }
def LedgerLowsWrongFalsely : Prop := ledgerLowsRow.holds Try.pinned (OpenSpec.ofChange ledgerLowsWrong)

/-- 'smaltolaw12.LedgerShares': WHATEVER THE INPUT: true; the input reads as it did. -/
def ledgerSharesSpec : ChangeSpec := { name := "ledgerShares", fn := fun _ => fun
  | [d1, d2] => { results := [.lit (.bool true)], args := [d1, d2] }
  | _ => none }
def ledgerSharesRow : OpenClaim := { program := "ytglcghgokedbcaa", sum := "74048fd0a9e5af7e7854802a577799706a83ee6ec1aaca3ce36bc6837c5bb6b2", func := "smalto/smaltolaw12.LedgerShares", spec := "ledgerShares", unfollowed := true, recurses := true, apart := false }
def LedgerSharesSaid : Prop := ledgerSharesRow.holds Try.pinned (OpenSpec.ofChange ledgerSharesSpec)

/-- ITS FALSE NEIGHBOUR: 'it returns false'. Refute it at one input. -/
def ledgerSharesWrong : ChangeSpec := { name := "ledgerShares", fn := fun _ => fun
  | [d1, d2] => { results := [.lit (.bool false)], args := [d1, d2] }
  | _ => none }
def LedgerSharesWrongFalsely : Prop := ledgerSharesRow.holds Try.pinned (OpenSpec.ofChange ledgerSharesWrong)

/-- 'smaltolaw12.LedgerChips': WHATEVER THE INPUT: true; the input reads as it did. -/
def ledgerChipsSpec : ChangeSpec := { name := "ledgerChips", fn := fun _ => fun
  | [d] => { results := [.lit (.bool true)], args := [d] }
  | _ => none }
def ledgerChipsRow : OpenClaim := { program := "ytglcghgokedbcaa", sum := "74048fd0a9e5af7e7854802a577799706a83ee6ec1aaca3ce36bc6837c5bb6b2", func := "smalto/smaltolaw12.LedgerChips", spec := "ledgerChips", unfollowed := true, recurses := true, apart := false }
def LedgerChipsSaid : Prop := ledgerChipsRow.holds Try.pinned (OpenSpec.ofChange ledgerChipsSpec)

/-- ITS FALSE NEIGHBOUR: 'it returns false'. Refute it at one input. -/
def ledgerChipsWrong : ChangeSpec := { name := "ledgerChips", fn := fun _ => fun
  | [d] => { results := [.lit (.bool false)], args := [d] }
  | _ => none }
def LedgerChipsWrongFalsely : Prop := ledgerChipsRow.holds Try.pinned (OpenSpec.ofChange ledgerChipsWrong)

/-- 'smaltolaw12.LedgerTruth': WHATEVER THE INPUT: true; the input reads as it did. -/
def ledgerTruthSpec : ChangeSpec := { name := "ledgerTruth", fn := fun _ => fun
  | [d1, d2] => { results := [.lit (.bool true)], args := [d1, d2] }
  | _ => none }
def ledgerTruthRow : OpenClaim := { program := "ytglcghgokedbcaa", sum := "74048fd0a9e5af7e7854802a577799706a83ee6ec1aaca3ce36bc6837c5bb6b2", func := "smalto/smaltolaw12.LedgerTruth", spec := "ledgerTruth", unfollowed := true, recurses := true, apart := false }
def LedgerTruthSaid : Prop := ledgerTruthRow.holds Try.pinned (OpenSpec.ofChange ledgerTruthSpec)

/-- ITS FALSE NEIGHBOUR: 'it returns false'. Refute it at one input. -/
def ledgerTruthWrong : ChangeSpec := { name := "ledgerTruth", fn := fun _ => fun
  | [d1, d2] => { results := [.lit (.bool false)], args := [d1, d2] }
  | _ => none }
def LedgerTruthWrongFalsely : Prop := ledgerTruthRow.holds Try.pinned (OpenSpec.ofChange ledgerTruthWrong)

/-- 'smaltolaw12.LedgerMended': WHATEVER THE INPUT: true; the input reads as it did. -/
def ledgerMendedSpec : ChangeSpec := { name := "ledgerMended", fn := fun _ => fun
  | [d1, d2, d3] => { results := [.lit (.bool true)], args := [d1, d2, d3] }
  | _ => none }
def ledgerMendedRow : OpenClaim := { program := "ytglcghgokedbcaa", sum := "74048fd0a9e5af7e7854802a577799706a83ee6ec1aaca3ce36bc6837c5bb6b2", func := "smalto/smaltolaw12.LedgerMended", spec := "ledgerMended", unfollowed := true, recurses := true, apart := false }
def LedgerMendedSaid : Prop := ledgerMendedRow.holds Try.pinned (OpenSpec.ofChange ledgerMendedSpec)

/-- ITS FALSE NEIGHBOUR: 'it returns false'. Refute it at one input. -/
def ledgerMendedWrong : ChangeSpec := { name := "ledgerMended", fn := fun _ => fun
  | [d1, d2, d3] => { results := [.lit (.bool false)], args := [d1, d2, d3] }
  | _ => none }
def LedgerMendedWrongFalsely : Prop := ledgerMendedRow.holds Try.pinned (OpenSpec.ofChange ledgerMendedWrong)

/-- 'smaltolaw12.LedgerBought': WHATEVER THE INPUT: true; the input reads as it did. -/
def ledgerBoughtSpec : ChangeSpec := { name := "ledgerBought", fn := fun _ => fun
  | [d1, d2] => { results := [.lit (.bool true)], args := [d1, d2] }
  | _ => none }
def ledgerBoughtRow : OpenClaim := { program := "ytglcghgokedbcaa", sum := "74048fd0a9e5af7e7854802a577799706a83ee6ec1aaca3ce36bc6837c5bb6b2", func := "smalto/smaltolaw12.LedgerBought", spec := "ledgerBought", unfollowed := true, recurses := true, apart := false }
def LedgerBoughtSaid : Prop := ledgerBoughtRow.holds Try.pinned (OpenSpec.ofChange ledgerBoughtSpec)

/-- ITS FALSE NEIGHBOUR: 'it returns false'. Refute it at one input. -/
def ledgerBoughtWrong : ChangeSpec := { name := "ledgerBought", fn := fun _ => fun
  | [d1, d2] => { results := [.lit (.bool false)], args := [d1, d2] }
  | _ => none }
def LedgerBoughtWrongFalsely : Prop := ledgerBoughtRow.holds Try.pinned (OpenSpec.ofChange ledgerBoughtWrong)

/-- 'smaltolaw12.LedgerShared': WHATEVER THE INPUT: true; the input reads as it did. -/
def ledgerSharedSpec : ChangeSpec := { name := "ledgerShared", fn := fun _ => fun
  | [d1, d2, d3] => { results := [.lit (.bool true)], args := [d1, d2, d3] }
  | _ => none }
def ledgerSharedRow : OpenClaim := { program := "ytglcghgokedbcaa", sum := "74048fd0a9e5af7e7854802a577799706a83ee6ec1aaca3ce36bc6837c5bb6b2", func := "smalto/smaltolaw12.LedgerShared", spec := "ledgerShared", unfollowed := true, recurses := true, apart := false }
def LedgerSharedSaid : Prop := ledgerSharedRow.holds Try.pinned (OpenSpec.ofChange ledgerSharedSpec)

/-- ITS FALSE NEIGHBOUR: 'it returns false'. Refute it at one input. -/
def ledgerSharedWrong : ChangeSpec := { name := "ledgerShared", fn := fun _ => fun
  | [d1, d2, d3] => { results := [.lit (.bool false)], args := [d1, d2, d3] }
  | _ => none }
def LedgerSharedWrongFalsely : Prop := ledgerSharedRow.holds Try.pinned (OpenSpec.ofChange ledgerSharedWrong)

/- THE SECOND FORM. 'bulk': how many values and letters a reading holds, each counted each time it is reached (what is shared counts as often as it is met; a slice's spare places count too). A statement '..UptoSaid' is the law's where the arguments, and the package variables that the reading takes, are together of bulk at most 1048576: NARROWER than '..Said'. Prove '..Said' where nothing that the law and all that it calls make is longer than what came in: it says more and counts as full. Else prove '..UptoSaid'. A law counts once. -/
mutual
def uptoBulk {H : Type} : DataW H → Nat
  | .lit (.string bytes) => bytes.length + 1
  | .lit _ => 1
  | .nil => 1
  | .ptr d => uptoBulk d + 1
  | .slice elems spare => uptoBulkAll elems + uptoBulkAll spare + 1
  | .agg parts => uptoBulkAll parts + 1
  | .iface _ d => uptoBulk d + 1
  | .map entries => uptoBulkEntries entries + 1
  | .held _ => 1
def uptoBulkAll {H : Type} : List (DataW H) → Nat
  | [] => 0
  | d :: r => uptoBulk d + uptoBulkAll r
def uptoBulkEntries {H : Type} : List (Lit × DataW H) → Nat
  | [] => 0
  | x :: r => uptoBulkEntry x + uptoBulkEntries r
def uptoBulkEntry {H : Type} : Lit × DataW H → Nat
  | (.string bytes, d) => bytes.length + uptoBulk d + 1
  | (_, d) => uptoBulk d + 1
 end
def uptoSmall : (H : Type) → List (DataW H) → Bool := fun _ ds => decide (uptoBulkAll ds ≤ 1048576)
def OpenSpec.upto (s : _root_.Go.ChangeSpec) : _root_.Go.OpenSpec := { _root_.Go.OpenSpec.ofChange s with cond := some uptoSmall }

/-- 'smaltolaw12.LedgerLefts', WHERE WHAT IT READS IS OF BULK AT MOST 1048576: true; the input reads as it did. -/
def ledgerLeftsUptoRow : OpenClaim := { program := "ytglcghgokedbcaa", sum := "74048fd0a9e5af7e7854802a577799706a83ee6ec1aaca3ce36bc6837c5bb6b2", func := "smalto/smaltolaw12.LedgerLefts", spec := "ledgerLefts", unfollowed := true, recurses := true, apart := false, narrowed := true }
def LedgerLeftsUptoSaid : Prop := ledgerLeftsUptoRow.holds Try.pinned (OpenSpec.upto ledgerLeftsSpec)

/-- 'smaltolaw12.LedgerOdds', WHERE WHAT IT READS IS OF BULK AT MOST 1048576: true; the input reads as it did. -/
def ledgerOddsUptoRow : OpenClaim := { program := "ytglcghgokedbcaa", sum := "74048fd0a9e5af7e7854802a577799706a83ee6ec1aaca3ce36bc6837c5bb6b2", func := "smalto/smaltolaw12.LedgerOdds", spec := "ledgerOdds", unfollowed := true, recurses := true, apart := false, narrowed := true }
def LedgerOddsUptoSaid : Prop := ledgerOddsUptoRow.holds Try.pinned (OpenSpec.upto ledgerOddsSpec)

/-- 'smaltolaw12.LedgerFixes', WHERE WHAT IT READS IS OF BULK AT MOST 1048576: true; the input reads as it did. -/
def ledgerFixesUptoRow : OpenClaim := { program := "ytglcghgokedbcaa", sum := "74048fd0a9e5af7e7854802a577799706a83ee6ec1aaca3ce36bc6837c5bb6b2", func := "smalto/smaltolaw12.LedgerFixes", spec := "ledgerFixes", unfollowed := true, recurses := true, apart := false, narrowed := true }
def LedgerFixesUptoSaid : Prop := ledgerFixesUptoRow.holds Try.pinned (OpenSpec.upto ledgerFixesSpec)

/-- 'smaltolaw12.LedgerLows', WHERE WHAT IT READS IS OF BULK AT MOST 1048576: true; the input reads as it did. -/
def ledgerLowsUptoRow : OpenClaim := { program := "ytglcghgokedbcaa", sum := "74048fd0a9e5af7e7854802a577799706a83ee6ec1aaca3ce36bc6837c5bb6b2", func := "smalto/smaltolaw12.LedgerLows", spec := "ledgerLows", unfollowed := true, recurses := true, apart := false, narrowed := true }
def LedgerLowsUptoSaid : Prop := ledgerLowsUptoRow.holds Try.pinned (OpenSpec.upto ledgerLowsSpec)

/-- 'smaltolaw12.LedgerShares', WHERE WHAT IT READS IS OF BULK AT MOST 1048576: true; the input reads as it did. -/
def ledgerSharesUptoRow : OpenClaim := { program := "ytglcghgokedbcaa", sum := "74048fd0a9e5af7e7854802a577799706a83ee6ec1aaca3ce36bc6837c5bb6b2", func := "smalto/smaltolaw12.LedgerShares", spec := "ledgerShares", unfollowed := true, recurses := true, apart := false, narrowed := true }
def LedgerSharesUptoSaid : Prop := ledgerSharesUptoRow.holds Try.pinned (OpenSpec.upto ledgerSharesSpec)

/-- 'smaltolaw12.LedgerChips', WHERE WHAT IT READS IS OF BULK AT MOST 1048576: true; the input reads as it did. -/
def ledgerChipsUptoRow : OpenClaim := { program := "ytglcghgokedbcaa", sum := "74048fd0a9e5af7e7854802a577799706a83ee6ec1aaca3ce36bc6837c5bb6b2", func := "smalto/smaltolaw12.LedgerChips", spec := "ledgerChips", unfollowed := true, recurses := true, apart := false, narrowed := true }
def LedgerChipsUptoSaid : Prop := ledgerChipsUptoRow.holds Try.pinned (OpenSpec.upto ledgerChipsSpec)

/-- 'smaltolaw12.LedgerTruth', WHERE WHAT IT READS IS OF BULK AT MOST 1048576: true; the input reads as it did. -/
def ledgerTruthUptoRow : OpenClaim := { program := "ytglcghgokedbcaa", sum := "74048fd0a9e5af7e7854802a577799706a83ee6ec1aaca3ce36bc6837c5bb6b2", func := "smalto/smaltolaw12.LedgerTruth", spec := "ledgerTruth", unfollowed := true, recurses := true, apart := false, narrowed := true }
def LedgerTruthUptoSaid : Prop := ledgerTruthUptoRow.holds Try.pinned (OpenSpec.upto ledgerTruthSpec)

/-- 'smaltolaw12.LedgerMended', WHERE WHAT IT READS IS OF BULK AT MOST 1048576: true; the input reads as it did. -/
def ledgerMendedUptoRow : OpenClaim := { program := "ytglcghgokedbcaa", sum := "74048fd0a9e5af7e7854802a577799706a83ee6ec1aaca3ce36bc6837c5bb6b2", func := "smalto/smaltolaw12.LedgerMended", spec := "ledgerMended", unfollowed := true, recurses := true, apart := false, narrowed := true }
def LedgerMendedUptoSaid : Prop := ledgerMendedUptoRow.holds Try.pinned (OpenSpec.upto ledgerMendedSpec)

/-- 'smaltolaw12.LedgerBought', WHERE WHAT IT READS IS OF BULK AT MOST 1048576: true; the input reads as it did. -/
def ledgerBoughtUptoRow : OpenClaim := { program := "ytglcghgokedbcaa", sum := "74048fd0a9e5af7e7854802a577799706a83ee6ec1aaca3ce36bc6837c5bb6b2", func := "smalto/smaltolaw12.LedgerBought", spec := "ledgerBought", unfollowed := true, recurses := true, apart := false, narrowed := true }
def LedgerBoughtUptoSaid : Prop := ledgerBoughtUptoRow.holds Try.pinned (OpenSpec.upto ledgerBoughtSpec)

/-- 'smaltolaw12.LedgerShared', WHERE WHAT IT READS IS OF BULK AT MOST 1048576: true; the input reads as it did. -/
def ledgerSharedUptoRow : OpenClaim := { program := "ytglcghgokedbcaa", sum := "74048fd0a9e5af7e7854802a577799706a83ee6ec1aaca3ce36bc6837c5bb6b2", func := "smalto/smaltolaw12.LedgerShared", spec := "ledgerShared", unfollowed := true, recurses := true, apart := false, narrowed := true }
def LedgerSharedUptoSaid : Prop := ledgerSharedUptoRow.holds Try.pinned (OpenSpec.upto ledgerSharedSpec)

end Rows
end Go.Proofs.Ytglcghgokedbcaa
