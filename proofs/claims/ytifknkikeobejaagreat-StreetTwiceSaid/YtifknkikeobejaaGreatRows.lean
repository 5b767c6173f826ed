/-
  No cell of these rows narrows 'for every input' (looked for: loops, veiled, ifaces, maps, wideKeys, modest, calm, conditions, laid).
  DERIVED. THE GIVEN ROWS OF THIS SEAT. 11 by the template 'for every input the law returns true; each argument reads behind the call as it read before'; 0 by the template 'total and deterministic' (their statements: YtifknkikeobejaaGreatTotals.lean).
  GIVEN WITH THE SEED: the statements are not yours to turn. If you find one false, say at which input.
  Laid BY PROGRAM, IN A SANDBOX (cutbox-rows.mjs): the forced cells as the released guide's own fill.sh prints them over the translation 7a81e37728b56a53… (all of the seat's roots in one cut). By AI agents, Wed Nov 11 2026. No macro, syntax, notation, axiom, sorry.
-/
import Derived.Test.YtifknkikeobejaaGreatChecked
import GoSem.Claim
import GoSem.ClaimJoined
import GoSem.ClaimMapViews
import Derived.JoinedTies
import Derived.KernelRfl
namespace Go.Proofs.YtifknkikeobejaaGreat
/- THE CELL 'sum', in the pinned program and in every row, IS THE sha256 OF THE DUMP (.gsa) THAT YtifknkikeobejaaGreatProg.lean LOADS. Nothing in Lean hashes anything: it is a label: what it is worth is what the hold of that sum in a sandbox is worth. -/
noncomputable def Tryz.pinned : Pinned := { name := "ytifknkikeobejaagreat", sum := "7a81e37728b56a531a91ba3857ecbbe9cce1f0021cef55879f8f5648f8b1d884", checked := Tryz.checked }
namespace Rows
def none {H : Type} : Left H := { results := [], args := [] }

/-- 'smaltolaw08.StreetClashes': WHATEVER THE INPUT: true; the input reads as it did. -/
def streetClashesSpec : ChangeSpec := { name := "streetClashes", fn := fun _ => fun
  | [d] => { results := [.lit (.bool true)], args := [d] }
  | _ => none }
def streetClashesRow : OpenClaim := { program := "ytifknkikeobejaagreat", sum := "7a81e37728b56a531a91ba3857ecbbe9cce1f0021cef55879f8f5648f8b1d884", func := "smalto/smaltolaw08.StreetClashes", spec := "streetClashes", inPlace := ["internal/bytealg.abigen_runtime_cmpstring"], unfollowed := true, recurses := true, apart := false }
def StreetClashesSaid : Prop := streetClashesRow.holds Tryz.pinned (OpenSpec.ofChange streetClashesSpec)

/-- ITS FALSE NEIGHBOUR: 'it returns false'. Refute it at one input. -/
def streetClashesWrong : ChangeSpec := { name := "streetClashes", fn := fun _ => fun
  | [d] => { results := [.lit (.bool false)], args := [d] }
  | _ => none }
def StreetClashesWrongFalsely : Prop := streetClashesRow.holds Tryz.pinned (OpenSpec.ofChange streetClashesWrong)

/-- 'smaltolaw08.StreetNames': WHATEVER THE INPUT: true; the input reads as it did. -/
def streetNamesSpec : ChangeSpec := { name := "streetNames", fn := fun _ => fun
  | [d1, d2, d3] => { results := [.lit (.bool true)], args := [d1, d2, d3] }
  | _ => none }
def streetNamesRow : OpenClaim := { program := "ytifknkikeobejaagreat", sum := "7a81e37728b56a531a91ba3857ecbbe9cce1f0021cef55879f8f5648f8b1d884", func := "smalto/smaltolaw08.StreetNames", spec := "streetNames", inPlace := ["internal/bytealg.abigen_runtime_cmpstring"], unfollowed := true, recurses := true, apart := false }
def StreetNamesSaid : Prop := streetNamesRow.holds Tryz.pinned (OpenSpec.ofChange streetNamesSpec)

/-- ITS FALSE NEIGHBOUR: 'it returns false'. Refute it at one input. -/
def streetNamesWrong : ChangeSpec := { name := "streetNames", fn := fun _ => fun
  | [d1, d2, d3] => { results := [.lit (.bool false)], args := [d1, d2, d3] }
  | _ => none }
def StreetNamesWrongFalsely : Prop := streetNamesRow.holds Tryz.pinned (OpenSpec.ofChange streetNamesWrong)

/-- 'smaltolaw08.StreetHistories': WHATEVER THE INPUT: true; the input reads as it did. -/
def streetHistoriesSpec : ChangeSpec := { name := "streetHistories", fn := fun _ => fun
  | [d1, d2] => { results := [.lit (.bool true)], args := [d1, d2] }
  | _ => none }
def streetHistoriesRow : OpenClaim := { program := "ytifknkikeobejaagreat", sum := "7a81e37728b56a531a91ba3857ecbbe9cce1f0021cef55879f8f5648f8b1d884", func := "smalto/smaltolaw08.StreetHistories", spec := "streetHistories", inPlace := ["internal/bytealg.abigen_runtime_cmpstring"], unfollowed := true, recurses := true, apart := false }
def StreetHistoriesSaid : Prop := streetHistoriesRow.holds Tryz.pinned (OpenSpec.ofChange streetHistoriesSpec)

/-- ITS FALSE NEIGHBOUR: 'it returns false'. Refute it at one input. -/
def streetHistoriesWrong : ChangeSpec := { name := "streetHistories", fn := fun _ => fun
  | [d1, d2] => { results := [.lit (.bool false)], args := [d1, d2] }
  | _ => none }
def StreetHistoriesWrongFalsely : Prop := streetHistoriesRow.holds Tryz.pinned (OpenSpec.ofChange streetHistoriesWrong)

/-- 'smaltolaw08.StreetMusts': WHATEVER THE INPUT: true; the input reads as it did. -/
def streetMustsSpec : ChangeSpec := { name := "streetMusts", fn := fun _ => fun
  | [d1, d2, d3] => { results := [.lit (.bool true)], args := [d1, d2, d3] }
  | _ => none }
def streetMustsRow : OpenClaim := { program := "ytifknkikeobejaagreat", sum := "7a81e37728b56a531a91ba3857ecbbe9cce1f0021cef55879f8f5648f8b1d884", func := "smalto/smaltolaw08.StreetMusts", spec := "streetMusts", inPlace := ["internal/bytealg.abigen_runtime_cmpstring"], unfollowed := true, recurses := true, apart := false }
def StreetMustsSaid : Prop := streetMustsRow.holds Tryz.pinned (OpenSpec.ofChange streetMustsSpec)

/-- ITS FALSE NEIGHBOUR: 'it returns false'. Refute it at one input. -/
def streetMustsWrong : ChangeSpec := { name := "streetMusts", fn := fun _ => fun
  | [d1, d2, d3] => { results := [.lit (.bool false)], args := [d1, d2, d3] }
  | _ => none }
def StreetMustsWrongFalsely : Prop := streetMustsRow.holds Tryz.pinned (OpenSpec.ofChange streetMustsWrong)

/-- 'smaltolaw08.StreetMeants': WHATEVER THE INPUT: true; the input reads as it did. -/
def streetMeantsSpec : ChangeSpec := { name := "streetMeants", fn := fun _ => fun
  | [d1, d2, d3] => { results := [.lit (.bool true)], args := [d1, d2, d3] }
  | _ => none }
def streetMeantsRow : OpenClaim := { program := "ytifknkikeobejaagreat", sum := "7a81e37728b56a531a91ba3857ecbbe9cce1f0021cef55879f8f5648f8b1d884", func := "smalto/smaltolaw08.StreetMeants", spec := "streetMeants", inPlace := ["internal/bytealg.abigen_runtime_cmpstring"], unfollowed := true, recurses := true, apart := false }
def StreetMeantsSaid : Prop := streetMeantsRow.holds Tryz.pinned (OpenSpec.ofChange streetMeantsSpec)

/-- ITS FALSE NEIGHBOUR: 'it returns false'. Refute it at one input. -/
def streetMeantsWrong : ChangeSpec := { name := "streetMeants", fn := fun _ => fun
  | [d1, d2, d3] => { results := [.lit (.bool false)], args := [d1, d2, d3] }
  | _ => none }
def StreetMeantsWrongFalsely : Prop := streetMeantsRow.holds Tryz.pinned (OpenSpec.ofChange streetMeantsWrong)

/-- 'smaltolaw08.StreetHours': WHATEVER THE INPUT: true; the input reads as it did. -/
def streetHoursSpec : ChangeSpec := { name := "streetHours", fn := fun _ => fun
  | [d1, d2] => { results := [.lit (.bool true)], args := [d1, d2] }
  | _ => none }
def streetHoursRow : OpenClaim := { program := "ytifknkikeobejaagreat", sum := "7a81e37728b56a531a91ba3857ecbbe9cce1f0021cef55879f8f5648f8b1d884", func := "smalto/smaltolaw08.StreetHours", spec := "streetHours", inPlace := ["internal/bytealg.abigen_runtime_cmpstring"], unfollowed := true, recurses := true, apart := false }
def StreetHoursSaid : Prop := streetHoursRow.holds Tryz.pinned (OpenSpec.ofChange streetHoursSpec)

/-- ITS FALSE NEIGHBOUR: 'it returns false'. Refute it at one input. -/
def streetHoursWrong : ChangeSpec := { name := "streetHours", fn := fun _ => fun
  | [d1, d2] => { results := [.lit (.bool false)], args := [d1, d2] }
  | _ => none }
def StreetHoursWrongFalsely : Prop := streetHoursRow.holds Tryz.pinned (OpenSpec.ofChange streetHoursWrong)

/-- 'smaltolaw08.StreetOwn': WHATEVER THE INPUT: true; the input reads as it did. -/
def streetOwnSpec : ChangeSpec := { name := "streetOwn", fn := fun _ => fun
  | [d1, d2] => { results := [.lit (.bool true)], args := [d1, d2] }
  | _ => none }
def streetOwnRow : OpenClaim := { program := "ytifknkikeobejaagreat", sum := "7a81e37728b56a531a91ba3857ecbbe9cce1f0021cef55879f8f5648f8b1d884", func := "smalto/smaltolaw08.StreetOwn", spec := "streetOwn", inPlace := ["internal/bytealg.abigen_runtime_cmpstring"], unfollowed := true, recurses := true, apart := false }
def StreetOwnSaid : Prop := streetOwnRow.holds Tryz.pinned (OpenSpec.ofChange streetOwnSpec)

/-- ITS FALSE NEIGHBOUR: 'it returns false'. Refute it at one input. -/
def streetOwnWrong : ChangeSpec := { name := "streetOwn", fn := fun _ => fun
  | [d1, d2] => { results := [.lit (.bool false)], args := [d1, d2] }
  | _ => none }
def StreetOwnWrongFalsely : Prop := streetOwnRow.holds Tryz.pinned (OpenSpec.ofChange streetOwnWrong)

/-- 'smaltolaw08.StreetSays': WHATEVER THE INPUT: true; the input reads as it did. -/
def streetSaysSpec : ChangeSpec := { name := "streetSays", fn := fun _ => fun
  | [d1, d2, d3] => { results := [.lit (.bool true)], args := [d1, d2, d3] }
  | _ => none }
def streetSaysRow : OpenClaim := { program := "ytifknkikeobejaagreat", sum := "7a81e37728b56a531a91ba3857ecbbe9cce1f0021cef55879f8f5648f8b1d884", func := "smalto/smaltolaw08.StreetSays", spec := "streetSays", inPlace := ["internal/bytealg.abigen_runtime_cmpstring"], unfollowed := true, recurses := true, apart := false }
def StreetSaysSaid : Prop := streetSaysRow.holds Tryz.pinned (OpenSpec.ofChange streetSaysSpec)

/-- ITS FALSE NEIGHBOUR: 'it returns false'. Refute it at one input. -/
def streetSaysWrong : ChangeSpec := { name := "streetSays", fn := fun _ => fun
  | [d1, d2, d3] => { results := [.lit (.bool false)], args := [d1, d2, d3] }
  | _ => none }
def StreetSaysWrongFalsely : Prop := streetSaysRow.holds Tryz.pinned (OpenSpec.ofChange streetSaysWrong)

/-- 'smaltolaw08.StreetSpelt': WHATEVER THE INPUT: true; the input reads as it did. -/
def streetSpeltSpec : ChangeSpec := { name := "streetSpelt", fn := fun _ => fun
  | [d1, d2, d3] => { results := [.lit (.bool true)], args := [d1, d2, d3] }
  | _ => none }
def streetSpeltRow : OpenClaim := { program := "ytifknkikeobejaagreat", sum := "7a81e37728b56a531a91ba3857ecbbe9cce1f0021cef55879f8f5648f8b1d884", func := "smalto/smaltolaw08.StreetSpelt", spec := "streetSpelt", inPlace := ["internal/bytealg.abigen_runtime_cmpstring"], unfollowed := true, recurses := true, apart := false }
def StreetSpeltSaid : Prop := streetSpeltRow.holds Tryz.pinned (OpenSpec.ofChange streetSpeltSpec)

/-- ITS FALSE NEIGHBOUR: 'it returns false'. Refute it at one input. -/
def streetSpeltWrong : ChangeSpec := { name := "streetSpelt", fn := fun _ => fun
  | [d1, d2, d3] => { results := [.lit (.bool false)], args := [d1, d2, d3] }
  | _ => none }
def StreetSpeltWrongFalsely : Prop := streetSpeltRow.holds Tryz.pinned (OpenSpec.ofChange streetSpeltWrong)

/-- 'smaltolaw08.StreetListed': WHATEVER THE INPUT: true; the input reads as it did. -/
def streetListedSpec : ChangeSpec := { name := "streetListed", fn := fun _ => fun
  | [d1, d2, d3] => { results := [.lit (.bool true)], args := [d1, d2, d3] }
  | _ => none }
def streetListedRow : OpenClaim := { program := "ytifknkikeobejaagreat", sum := "7a81e37728b56a531a91ba3857ecbbe9cce1f0021cef55879f8f5648f8b1d884", func := "smalto/smaltolaw08.StreetListed", spec := "streetListed", inPlace := ["internal/bytealg.abigen_runtime_cmpstring"], unfollowed := true, recurses := true, apart := false }
def StreetListedSaid : Prop := streetListedRow.holds Tryz.pinned (OpenSpec.ofChange streetListedSpec)

/-- ITS FALSE NEIGHBOUR: 'it returns false'. Refute it at one input. -/
def streetListedWrong : ChangeSpec := { name := "streetListed", fn := fun _ => fun
  | [d1, d2, d3] => { results := [.lit (.bool false)], args := [d1, d2, d3] }
  | _ => none }
def StreetListedWrongFalsely : Prop := streetListedRow.holds Tryz.pinned (OpenSpec.ofChange streetListedWrong)

/-- 'smaltolaw08.StreetTwice': WHATEVER THE INPUT: true; the input reads as it did. -/
def streetTwiceSpec : ChangeSpec := { name := "streetTwice", fn := fun _ => fun
  | [d1, d2] => { results := [.lit (.bool true)], args := [d1, d2] }
  | _ => none }
def streetTwiceRow : OpenClaim := { program := "ytifknkikeobejaagreat", sum := "7a81e37728b56a531a91ba3857ecbbe9cce1f0021cef55879f8f5648f8b1d884", func := "smalto/smaltolaw08.StreetTwice", spec := "streetTwice", inPlace := ["internal/bytealg.abigen_runtime_cmpstring"], unfollowed := true, recurses := true, apart := false }
def StreetTwiceSaid : Prop := streetTwiceRow.holds Tryz.pinned (OpenSpec.ofChange streetTwiceSpec)

/-- ITS FALSE NEIGHBOUR: 'it returns false'. Refute it at one input. -/
def streetTwiceWrong : ChangeSpec := { name := "streetTwice", fn := fun _ => fun
  | [d1, d2] => { results := [.lit (.bool false)], args := [d1, d2] }
  | _ => none }
def StreetTwiceWrongFalsely : Prop := streetTwiceRow.holds Tryz.pinned (OpenSpec.ofChange streetTwiceWrong)

/- THE SECOND FORM. 'bulk': how many values and letters a reading holds, each counted each time it is reached (what is shared counts as often as it is met; a slice's spare places count too). A statement '..UptoSaid' is the law's where the arguments, and the package variables that the reading takes, are together of bulk at most 1048576: NARROWER than '..Said'. Prove '..Said' where nothing that the law and all that it calls make is longer than what came in: it says more and counts as full. Else prove '..UptoSaid'. A law counts once. -/
mutual
def uptoBulk {H : Type} : DataW H → Nat
  | .lit (.string bytes) => bytes.length + 1
  | .lit _ => 1
  | .nil => 1
  | .ptr d => uptoBulk d + 1
  | .slice elems spare => uptoBulkAll elems + uptoBulkAll spare + 1
  | .agg parts => uptoBulkAll parts + 1
  | .iface _ d => uptoBulk d + 1
  | .map entries => uptoBulkEntries entries + 1
  | .held _ => 1
def uptoBulkAll {H : Type} : List (DataW H) → Nat
  | [] => 0
  | d :: r => uptoBulk d + uptoBulkAll r
def uptoBulkEntries {H : Type} : List (Lit × DataW H) → Nat
  | [] => 0
  | x :: r => uptoBulkEntry x + uptoBulkEntries r
def uptoBulkEntry {H : Type} : Lit × DataW H → Nat
  | (.string bytes, d) => bytes.length + uptoBulk d + 1
  | (_, d) => uptoBulk d + 1
 end
def uptoSmall : (H : Type) → List (DataW H) → Bool := fun _ ds => decide (uptoBulkAll ds ≤ 1048576)
def OpenSpec.upto (s : _root_.Go.ChangeSpec) : _root_.Go.OpenSpec := { _root_.Go.OpenSpec.ofChange s with cond := some uptoSmall }

/-- 'smaltolaw08.StreetClashes', WHERE WHAT IT READS IS OF BULK AT MOST 1048576: true; the input reads as it did. -/
def streetClashesUptoRow : OpenClaim := { program := "ytifknkikeobejaagreat", sum := "7a81e37728b56a531a91ba3857ecbbe9cce1f0021cef55879f8f5648f8b1d884", func := "smalto/smaltolaw08.StreetClashes", spec := "streetClashes", inPlace := ["internal/bytealg.abigen_runtime_cmpstring"], unfollowed := true, recurses := true, apart := false, narrowed := true }
def StreetClashesUptoSaid : Prop := streetClashesUptoRow.holds Tryz.pinned (OpenSpec.upto streetClashesSpec)

/-- 'smaltolaw08.StreetNames', WHERE WHAT IT READS IS OF BULK AT MOST 1048576: true; the input reads as it did. -/
def streetNamesUptoRow : OpenClaim := { program := "ytifknkikeobejaagreat", sum := "7a81e37728b56a531a91ba3857ecbbe9cce1f0021cef55879f8f5648f8b1d884", func := "smalto/smaltolaw08.StreetNames", spec := "streetNames", inPlace := ["internal/bytealg.abigen_runtime_cmpstring"], unfollowed := true, recurses := true, apart := false, narrowed := true }
def StreetNamesUptoSaid : Prop := streetNamesUptoRow.holds Tryz.pinned (OpenSpec.upto streetNamesSpec)

/-- 'smaltolaw08.StreetHistories', WHERE WHAT IT READS IS OF BULK AT MOST 1048576: true; the input reads as it did. -/
def streetHistoriesUptoRow : OpenClaim := { program := "ytifknkikeobejaagreat", sum := "7a81e37728b56a531a91ba3857ecbbe9cce1f0021cef55879f8f5648f8b1d884", func := "smalto/smaltolaw08.StreetHistories", spec := "streetHistories", inPlace := ["internal/bytealg.abigen_runtime_cmpstring"], unfollowed := true, recurses := true, apart := false, narrowed := true }
def StreetHistoriesUptoSaid : Prop := streetHistoriesUptoRow.holds Tryz.pinned (OpenSpec.upto streetHistoriesSpec)

/-- 'smaltolaw08.StreetMusts', WHERE WHAT IT READS IS OF BULK AT MOST 1048576: true; the input reads as it did. -/
def streetMustsUptoRow : OpenClaim := { program := "ytifknkikeobejaagreat", sum := "7a81e37728b56a531a91ba3857ecbbe9cce1f0021cef55879f8f5648f8b1d884", func := "smalto/smaltolaw08.StreetMusts", spec := "streetMusts", inPlace := ["internal/bytealg.abigen_runtime_cmpstring"], unfollowed := true, recurses := true, apart := false, narrowed := true }
def StreetMustsUptoSaid : Prop := streetMustsUptoRow.holds Tryz.pinned (OpenSpec.upto streetMustsSpec)

/-- 'smaltolaw08.StreetMeants', WHERE WHAT IT READS IS OF BULK AT MOST 1048576: true; the input reads as it did. -/
def streetMeantsUptoRow : OpenClaim := { program := "ytifknkikeobejaagreat", sum := "7a81e37728b56a531a91ba3857ecbbe9cce1f0021cef55879f8f5648f8b1d884", func := "smalto/smaltolaw08.StreetMeants", spec := "streetMeants", inPlace := ["internal/bytealg.abigen_runtime_cmpstring"], unfollowed := true, recurses := true, apart := false, narrowed := true }
def StreetMeantsUptoSaid : Prop := streetMeantsUptoRow.holds Tryz.pinned (OpenSpec.upto streetMeantsSpec)

/-- 'smaltolaw08.StreetHours', WHERE WHAT IT READS IS OF BULK AT MOST 1048576: true; the input reads as it did. -/
def streetHoursUptoRow : OpenClaim := { program := "ytifknkikeobejaagreat", sum := "7a81e37728b56a531a91ba3857ecbbe9cce1f0021cef55879f8f5648f8b1d884", func := "smalto/smaltolaw08.StreetHours", spec := "streetHours", inPlace := ["internal/bytealg.abigen_runtime_cmpstring"], unfollowed := true, recurses := true, apart := false, narrowed := true }
def StreetHoursUptoSaid : Prop := streetHoursUptoRow.holds Tryz.pinned (OpenSpec.upto streetHoursSpec)

/-- 'smaltolaw08.StreetOwn', WHERE WHAT IT READS IS OF BULK AT MOST 1048576: true; the input reads as it did. -/
def streetOwnUptoRow : OpenClaim := { program := "ytifknkikeobejaagreat", sum := "7a81e37728b56a531a91ba3857ecbbe9cce1f0021cef55879f8f5648f8b1d884", func := "smalto/smaltolaw08.StreetOwn", spec := "streetOwn", inPlace := ["internal/bytealg.abigen_runtime_cmpstring"], unfollowed := true, recurses := true, apart := false, narrowed := true }
def StreetOwnUptoSaid : Prop := streetOwnUptoRow.holds Tryz.pinned (OpenSpec.upto streetOwnSpec)

/-- 'smaltolaw08.StreetSays', WHERE WHAT IT READS IS OF BULK AT MOST 1048576: true; the input reads as it did. -/
def streetSaysUptoRow : OpenClaim := { program := "ytifknkikeobejaagreat", sum := "7a81e37728b56a531a91ba3857ecbbe9cce1f0021cef55879f8f5648f8b1d884", func := "smalto/smaltolaw08.StreetSays", spec := "streetSays", inPlace := ["internal/bytealg.abigen_runtime_cmpstring"], unfollowed := true, recurses := true, apart := false, narrowed := true }
def StreetSaysUptoSaid : Prop := streetSaysUptoRow.holds Tryz.pinned (OpenSpec.upto streetSaysSpec)

/-- 'smaltolaw08.StreetSpelt', WHERE WHAT IT READS IS OF BULK AT MOST 1048576: true; the input reads as it did. -/
def streetSpeltUptoRow : OpenClaim := { program := "ytifknkikeobejaagreat", sum := "7a81e37728b56a531a91ba3857ecbbe9cce1f0021cef55879f8f5648f8b1d884", func := "smalto/smaltolaw08.StreetSpelt", spec := "streetSpelt", inPlace := ["internal/bytealg.abigen_runtime_cmpstring"], unfollowed := true, recurses := true, apart := false, narrowed := true }
def StreetSpeltUptoSaid : Prop := streetSpeltUptoRow.holds Tryz.pinned (OpenSpec.upto streetSpeltSpec)

/-- 'smaltolaw08.StreetListed', WHERE WHAT IT READS IS OF BULK AT MOST 1048576: true; the input reads as it did. -/
def streetListedUptoRow : OpenClaim := { program := "ytifknkikeobejaagreat", sum := "7a81e37728b56a531a91ba3857ecbbe9cce1f0021cef55879f8f5648f8b1d884", func := "smalto/smaltolaw08.StreetListed", spec := "streetListed", inPlace := ["internal/bytealg.abigen_runtime_cmpstring"], unfollowed := true, recurses := true, apart := false, narrowed := true }
def StreetListedUptoSaid : Prop := streetListedUptoRow.holds Tryz.pinned (OpenSpec.upto streetListedSpec)

/-- 'smaltolaw08.StreetTwice', WHERE WHAT IT READS IS OF BULK AT MOST 1048576: true; the input reads as it did. -/
def streetTwiceUptoRow : OpenClaim := { program := "ytifknkikeobejaagreat", sum := "7a81e37728b56a531a91ba3857ecbbe9cce1f0021cef55879f8f5648f8b1d884", func := "smalto/smaltolaw08.StreetTwice", spec := "streetTwice", inPlace := ["internal/bytealg.abigen_runtime_cmpstring"], unfollowed := true, recurses := true, apart := false, narrowed := true }
def StreetTwiceUptoSaid : Prop := streetTwiceUptoRow.holds Tryz.pinned (OpenSpec.upto streetTwiceSpec)

end Rows
end Go.Proofs.YtifknkikeobejaaGreat
