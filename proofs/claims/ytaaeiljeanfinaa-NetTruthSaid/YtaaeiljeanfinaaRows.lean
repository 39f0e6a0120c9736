/-
  No cell of these rows narrows 'for every input' (looked for: loops, veiled, ifaces, maps, wideKeys, modest, calm, conditions, laid).
  DERIVED. THE GIVEN ROWS OF THIS SEAT. 5 by the template 'for every input the law returns true; each argument reads behind the call as it read before'; 0 by the template 'total and deterministic' (their statements: YtaaeiljeanfinaaTotals.lean).
  GIVEN WITH THE SEED: the statements are not yours to turn. If you find one false, say at which input.
  Laid BY PROGRAM, IN A SANDBOX (cutbox-rows.mjs): the forced cells as the released guide's own fill.sh prints them over the translation 6e97a2ef22caec9e… (all of the seat's roots in one cut). By AI agents, Wed Nov 11 2026. No macro, syntax, notation, axiom, sorry.
-/
import Derived.Test.YtaaeiljeanfinaaChecked
import GoSem.Claim
import GoSem.ClaimJoined
import GoSem.ClaimMapViews
import Derived.JoinedTies
import Derived.KernelRfl
namespace Go.Proofs.Ytaaeiljeanfinaa
/- THE CELL 'sum', in the pinned program and in every row, IS THE sha256 OF THE DUMP (.gsa) THAT YtaaeiljeanfinaaProg.lean LOADS. Nothing in Lean hashes anything: it is a label: what it is worth is what the hold of that sum in a sandbox is worth. -/
noncomputable def Try.pinned : Pinned := { name := "ytaaeiljeanfinaa", sum := "6e97a2ef22caec9ecf0f9d3e297774b88886c8cbeba1db3fc79ee86bb51b27f2", checked := Try.checked }
namespace Rows
def none {H : Type} : Left H := { results := [], args := [] }

/-- 'skylarklaw03.NetFull': WHATEVER THE INPUT: true; the input reads as it did. -/
def netFullSpec : ChangeSpec := { name := "netFull", fn := fun _ => fun
  | [d] => { results := [.lit (.bool true)], args := [d] }
  | _ => none }
def netFullRow : OpenClaim := { program := "ytaaeiljeanfinaa", sum := "6e97a2ef22caec9ecf0f9d3e297774b88886c8cbeba1db3fc79ee86bb51b27f2", func := "skylark/skylarklaw03.NetFull", spec := "netFull", unfollowed := true, recurses := true, apart := false }
def NetFullSaid : Prop := netFullRow.holds Try.pinned (OpenSpec.ofChange netFullSpec)

/-- ITS FALSE NEIGHBOUR: 'it returns false'. Refute it at one input. -/
def netFullWrong : ChangeSpec := { name := "netFull", fn := fun _ => fun
  | [d] => { results := [.lit (.bool false)], args := [d] }
  | _ => none }
def NetFullWrongFalsely : Prop := netFullRow.holds Try.pinned (OpenSpec.ofChange netFullWrong)

/-- 'skylarklaw03.NetWaits': WHATEVER THE INPUT: true; the input reads as it did. -/
def netWaitsSpec : ChangeSpec := { name := "netWaits", fn := fun _ => fun
  | [d1, d2] => { results := [.lit (.bool true)], args := [d1, d2] }
  | _ => none }
def netWaitsRow : OpenClaim := { program := "ytaaeiljeanfinaa", sum := "6e97a2ef22caec9ecf0f9d3e297774b88886c8cbeba1db3fc79ee86bb51b27f2", func := "skylark/skylarklaw03.NetWaits", spec := "netWaits", unfollowed := true, recurses := true, apart := false }
def NetWaitsSaid : Prop := netWaitsRow.holds Try.pinned (OpenSpec.ofChange netWaitsSpec)

/-- ITS FALSE NEIGHBOUR: 'it returns false'. Refute it at one input. -/
def netWaitsWrong : ChangeSpec := { name := "netWaits", fn := fun _ => fun
  | [d1, d2] => { results := [.lit (.bool false)], args := [d1, d2] }
  | _ => none }
def NetWaitsWrongFalsely : Prop := netWaitsRow.holds Try.pinned (OpenSpec.ofChange netWaitsWrong)

/-- 'skylarklaw03.NetTruth': WHATEVER THE INPUT: true; the input reads as it did. -/
def netTruthSpec : ChangeSpec := { name := "netTruth", fn := fun _ => fun
  | [d] => { results := [.lit (.bool true)], args := [d] }
  | _ => none }
def netTruthRow : OpenClaim := { program := "ytaaeiljeanfinaa", sum := "6e97a2ef22caec9ecf0f9d3e297774b88886c8cbeba1db3fc79ee86bb51b27f2", func := "skylark/skylarklaw03.NetTruth", spec := "netTruth", unfollowed := true, recurses := true, apart := false }
def NetTruthSaid : Prop := netTruthRow.holds Try.pinned (OpenSpec.ofChange netTruthSpec)

/-- ITS FALSE NEIGHBOUR: 'it returns false'. Refute it at one input. -/
def netTruthWrong : ChangeSpec := { name := "netTruth", fn := fun _ => fun
  | [d] => { results := [.lit (.bool false)], args := [d] }
  | _ => none }
def NetTruthWrongFalsely : Prop := netTruthRow.holds Try.pinned (OpenSpec.ofChange netTruthWrong)

/-- 'skylarklaw03.NetDrops': WHATEVER THE INPUT: true; the input reads as it did. -/
def netDropsSpec : ChangeSpec := { name := "netDrops", fn := fun _ => fun
  | [d1, d2] => { results := [.lit (.bool true)], args := [d1, d2] }
  | _ => none }
def netDropsRow : OpenClaim := { program := "ytaaeiljeanfinaa", sum := "6e97a2ef22caec9ecf0f9d3e297774b88886c8cbeba1db3fc79ee86bb51b27f2", func := "skylark/skylarklaw03.NetDrops", spec := "netDrops", unfollowed := true, recurses := true, apart := false }
def NetDropsSaid : Prop := netDropsRow.holds Try.pinned (OpenSpec.ofChange netDropsSpec)

/-- ITS FALSE NEIGHBOUR: 'it returns false'. Refute it at one input. -/
def netDropsWrong : ChangeSpec := { name := "netDrops", fn := fun _ => fun
  | [d1, d2] => { results := [.lit (.bool false)], args := [d1, d2] }
  | _ => none }
def NetDropsWrongFalsely : Prop := netDropsRow.holds Try.pinned (OpenSpec.ofChange netDropsWrong)

/-- 'skylarklaw03.NetPlays': WHATEVER THE INPUT: true; the input reads as it did. -/
def netPlaysSpec : ChangeSpec := { name := "netPlays", fn := fun _ => fun
  | [d1, d2] => { results := [.lit (.bool true)], args := [d1, d2] }
  | _ => none }
def netPlaysRow : OpenClaim := { program := "ytaaeiljeanfinaa", sum := "6e97a2ef22caec9ecf0f9d3e297774b88886c8cbeba1db3fc79ee86bb51b27f2", func := "skylark/skylarklaw03.NetPlays", spec := "netPlays", unfollowed := true, recurses := true, apart := false }
def NetPlaysSaid : Prop := netPlaysRow.holds Try.pinned (OpenSpec.ofChange netPlaysSpec)

/-- ITS FALSE NEIGHBOUR: 'it returns false'. Refute it at one input. -/
def netPlaysWrong : ChangeSpec := { name := "netPlays", fn := fun _ => fun
  | [d1, d2] => { results := [.lit (.bool false)], args := [d1, d2] }
  | _ => none }
def NetPlaysWrongFalsely : Prop := netPlaysRow.holds Try.pinned (OpenSpec.ofChange netPlaysWrong)

/- THE SECOND FORM. 'bulk': how many values and letters a reading holds, each counted each time it is reached (what is shared counts as often as it is met; a slice's spare places count too). A statement '..UptoSaid' is the law's where the arguments, and the package variables that the reading takes, are together of bulk at most 1048576: NARROWER than '..Said'. Prove '..Said' where nothing that the law and all that it calls make is longer than what came in: it says more and counts as full. Else prove '..UptoSaid'. A law counts once. -/
mutual
def uptoBulk {H : Type} : DataW H → Nat
  | .lit (.string bytes) => bytes.length + 1
  | .lit _ => 1
  | .nil => 1
  | .ptr d => uptoBulk d + 1
  | .slice elems spare => uptoBulkAll elems + uptoBulkAll spare + 1
  | .agg parts => uptoBulkAll parts + 1
  | .iface _ d => uptoBulk d + 1
  | .map entries => uptoBulkEntries entries + 1
  | .held _ => 1
def uptoBulkAll {H : Type} : List (DataW H) → Nat
  | [] => 0
  | d :: r => uptoBulk d + uptoBulkAll r
def uptoBulkEntries {H : Type} : List (Lit × DataW H) → Nat
  | [] => 0
  | x :: r => uptoBulkEntry x + uptoBulkEntries r
def uptoBulkEntry {H : Type} : Lit × DataW H → Nat
  | (.string bytes, d) => bytes.length + uptoBulk d + 1
  | (_, d) => uptoBulk d + 1
 end
def uptoSmall : (H : Type) → List (DataW H) → Bool := fun _ ds => decide (uptoBulkAll ds ≤ 1048576)
def OpenSpec.upto (s : _root_.Go.ChangeSpec) : _root_.Go.OpenSpec := { _root_.Go.OpenSpec.ofChange s with cond := some uptoSmall }

/-- 'skylarklaw03.NetFull', WHERE WHAT IT READS IS OF BULK AT MOST 1048576: true; the input reads as it did. -/
def netFullUptoRow : OpenClaim := { program := "ytaaeiljeanfinaa", sum := "6e97a2ef22caec9ecf0f9d3e297774b88886c8cbeba1db3fc79ee86bb51b27f2", func := "skylark/skylarklaw03.NetFull", spec := "netFull", unfollowed := true, recurses := true, apart := false, narrowed := true }
def NetFullUptoSaid : Prop := netFullUptoRow.holds Try.pinned (OpenSpec.upto netFullSpec)

/-- 'skylarklaw03.NetWaits', WHERE WHAT IT READS IS OF BULK AT MOST 1048576: true; the input reads as it did. -/
def netWaitsUptoRow : OpenClaim := { program := "ytaaeiljeanfinaa", sum := "6e97a2ef22caec9ecf0f9d3e297774b88886c8cbeba1db3fc79ee86bb51b27f2", func := "skylark/skylarklaw03.NetWaits", spec := "netWaits", unfollowed := true, recurses := true, apart := false, narrowed := true }
def NetWaitsUptoSaid : Prop := netWaitsUptoRow.holds Try.pinned (OpenSpec.upto netWaitsSpec)

/-- 'skylarklaw03.NetTruth', WHERE WHAT IT READS IS OF BULK AT MOST 1048576: true; the input reads as it did. -/
def netTruthUptoRow : OpenClaim := { program := "ytaaeiljeanfinaa", sum := "6e97a2ef22caec9ecf0f9d3e297774b88886c8cbeba1db3fc79ee86bb51b27f2", func := "skylark/skylarklaw03.NetTruth", spec := "netTruth", unfollowed := true, recurses := true, apart := false, narrowed := true }
def NetTruthUptoSaid : Prop := netTruthUptoRow.holds Try.pinned (OpenSpec.upto netTruthSpec)

/-- 'skylarklaw03.NetDrops', WHERE WHAT IT READS IS OF BULK AT MOST 1048576: true; the input reads as it did. -/
def netDropsUptoRow : OpenClaim := { program := "ytaaeiljeanfinaa", sum := "6e97a2ef22caec9ecf0f9d3e297774b88886c8cbeba1db3fc79ee86bb51b27f2", func := "skylark/skylarklaw03.NetDrops", spec := "netDrops", unfollowed := true, recurses := true, apart := false, narrowed := true }
def NetDropsUptoSaid : Prop := netDropsUptoRow.holds Try.pinned (OpenSpec.upto netDropsSpec)

/-- 'skylarklaw03.NetPlays', WHERE WHAT IT READS IS OF BULK AT MOST 1048576: true; the input reads as it did. -/
def netPlaysUptoRow : OpenClaim := { program := "ytaaeiljeanfinaa", sum := "6e97a2ef22caec9ecf0f9d3e297774b88886c8cbeba1db3fc79ee86bb51b27f2", func := "skylark/skylarklaw03.NetPlays", spec := "netPlays", unfollowed := true, recurses := true, apart := false, narrowed := true }
def NetPlaysUptoSaid : Prop := netPlaysUptoRow.holds Try.pinned (OpenSpec.upto netPlaysSpec)

end Rows
end Go.Proofs.Ytaaeiljeanfinaa
