/-
  No cell of these rows narrows 'for every input' (looked for: loops, veiled, ifaces, maps, wideKeys, modest, calm, conditions, laid).
  DERIVED. THE GIVEN ROWS OF THIS SEAT. 3 by the template 'for every input the law returns true; each argument reads behind the call as it read before'; 0 by the template 'total and deterministic' (their statements: YtcpenjbgiecgnaaTotals.lean).
  GIVEN WITH THE SEED: the statements are not yours to turn. If you find one false, say at which input.
  Laid BY PROGRAM, IN A SANDBOX (cutbox-rows.mjs): the forced cells as the released guide's own fill.sh prints them over the translation b007f7f064151edb… (all of the seat's roots in one cut). By AI agents, Wed Nov 11 2026. No macro, syntax, notation, axiom, sorry.
-/
import Derived.Test.YtcpenjbgiecgnaaChecked
import GoSem.Claim
import GoSem.ClaimJoined
import GoSem.ClaimMapViews
import Derived.JoinedTies
import Derived.KernelRfl
namespace Go.Proofs.Ytcpenjbgiecgnaa
/- THE CELL 'sum', in the pinned program and in every row, IS THE sha256 OF THE DUMP (.gsa) THAT YtcpenjbgiecgnaaProg.lean LOADS. Nothing in Lean hashes anything: it is a label: what it is worth is what the hold of that sum in a sandbox is worth. -/
noncomputable def Try.pinned : Pinned := { name := "ytcpenjbgiecgnaa", sum := "b007f7f064151edb80cefae310b41de0255c1511f109652622e09b23cdb32295", checked := Try.checked }
namespace Rows
def none {H : Type} : Left H := { results := [], args := [] }

/-- 'skylarklaw23.DedupKeeps': WHATEVER THE INPUT: true; the input reads as it did. -/
def dedupKeepsSpec : ChangeSpec := { name := "dedupKeeps", fn := fun _ => fun
  | [d1, d2] => { results := [.lit (.bool true)], args := [d1, d2] }
  | _ => none }
def dedupKeepsRow : OpenClaim := { program := "ytcpenjbgiecgnaa", sum := "b007f7f064151edb80cefae310b41de0255c1511f109652622e09b23cdb32295", func := "skylark/skylarklaw23.DedupKeeps", spec := "dedupKeeps", unfollowed := true, recurses := true, plainKeys := false, apart := false }
def DedupKeepsSaid : Prop := dedupKeepsRow.holds Try.pinned (OpenSpec.ofChange dedupKeepsSpec)

/-- ITS FALSE NEIGHBOUR: 'it returns false'. Refute it at one input. -/
def dedupKeepsWrong : ChangeSpec := { name := "dedupKeeps", fn := fun _ => fun
  | [d1, d2] => { results := [.lit (.bool false)], args := [d1, d2] }
  | _ => none }
def DedupKeepsWrongFalsely : Prop := dedupKeepsRow.holds Try.pinned (OpenSpec.ofChange dedupKeepsWrong)

/-- 'skylarklaw23.DedupDeeper': WHATEVER THE INPUT: true; the input reads as it did. -/
def dedupDeeperSpec : ChangeSpec := { name := "dedupDeeper", fn := fun _ => fun
  | [d1, d2, d3] => { results := [.lit (.bool true)], args := [d1, d2, d3] }
  | _ => none }
def dedupDeeperRow : OpenClaim := { program := "ytcpenjbgiecgnaa", sum := "b007f7f064151edb80cefae310b41de0255c1511f109652622e09b23cdb32295", func := "skylark/skylarklaw23.DedupDeeper", spec := "dedupDeeper", unfollowed := true, recurses := true, plainKeys := false, apart := false }
def DedupDeeperSaid : Prop := dedupDeeperRow.holds Try.pinned (OpenSpec.ofChange dedupDeeperSpec)

/-- ITS FALSE NEIGHBOUR: 'it returns false'. Refute it at one input. -/
def dedupDeeperWrong : ChangeSpec := { name := "dedupDeeper", fn := fun _ => fun
  | [d1, d2, d3] => { results := [.lit (.bool false)], args := [d1, d2, d3] }
  | _ => none }
def DedupDeeperWrongFalsely : Prop := dedupDeeperRow.holds Try.pinned (OpenSpec.ofChange dedupDeeperWrong)

/-- 'skylarklaw23.DedupOnce': WHATEVER THE INPUT: true; the input reads as it did. -/
def dedupOnceSpec : ChangeSpec := { name := "dedupOnce", fn := fun _ => fun
  | [d1, d2, d3] => { results := [.lit (.bool true)], args := [d1, d2, d3] }
  | _ => none }
def dedupOnceRow : OpenClaim := { program := "ytcpenjbgiecgnaa", sum := "b007f7f064151edb80cefae310b41de0255c1511f109652622e09b23cdb32295", func := "skylark/skylarklaw23.DedupOnce", spec := "dedupOnce", unfollowed := true, recurses := true, plainKeys := false, apart := false }
def DedupOnceSaid : Prop := dedupOnceRow.holds Try.pinned (OpenSpec.ofChange dedupOnceSpec)

/-- ITS FALSE NEIGHBOUR: 'it returns false'. Refute it at one input. -/
def dedupOnceWrong : ChangeSpec := { name := "dedupOnce", fn := fun _ => fun
  | [d1, d2, d3] => { results := [.lit (.bool false)], args := [d1, d2, d3] }
  | _ => none }
def DedupOnceWrongFalsely : Prop := dedupOnceRow.holds Try.pinned (OpenSpec.ofChange dedupOnceWrong)

/- THE SECOND FORM. 'bulk': how many values and letters a reading holds, each counted each time it is reached (what is shared counts as often as it is met; a slice's spare places count too). A statement '..UptoSaid' is the law's where the arguments, and the package variables that the reading takes, are together of bulk at most 1048576: NARROWER than '..Said'. Prove '..Said' where nothing that the law and all that it calls make is longer than what came in: it says more and counts as full. Else prove '..UptoSaid'. A law counts once. -/
mutual
def uptoBulk {H : Type} : DataW H → Nat
  | .lit (.string bytes) => bytes.length + 1
  | .lit _ => 1
  | .nil => 1
  | .ptr d => uptoBulk d + 1
  | .slice elems spare => uptoBulkAll elems + uptoBulkAll spare + 1
  | .agg parts => uptoBulkAll parts + 1
  | .iface _ d => uptoBulk d + 1
  | .map entries => uptoBulkEntries entries + 1
  | .held _ => 1
def uptoBulkAll {H : Type} : List (DataW H) → Nat
  | [] => 0
  | d :: r => uptoBulk d + uptoBulkAll r
def uptoBulkEntries {H : Type} : List (Lit × DataW H) → Nat
  | [] => 0
  | x :: r => uptoBulkEntry x + uptoBulkEntries r
def uptoBulkEntry {H : Type} : Lit × DataW H → Nat
  | (.string bytes, d) => bytes.length + uptoBulk d + 1
  | (_, d) => uptoBulk d + 1
 end
def uptoSmall : (H : Type) → List (DataW H) → Bool := fun _ ds => decide (uptoBulkAll ds ≤ 1048576)
def OpenSpec.upto (s : _root_.Go.ChangeSpec) : _root_.Go.OpenSpec := { _root_.Go.OpenSpec.ofChange s with cond := some uptoSmall }

/-- 'skylarklaw23.DedupKeeps', WHERE WHAT IT READS IS OF BULK AT MOST 1048576: true; the input reads as it did. -/
def dedupKeepsUptoRow : OpenClaim := { program := "ytcpenjbgiecgnaa", sum := "b007f7f064151edb80cefae310b41de0255c1511f109652622e09b23cdb32295", func := "skylark/skylarklaw23.DedupKeeps", spec := "dedupKeeps", unfollowed := true, recurses := true, plainKeys := false, apart := false, narrowed := true }
def DedupKeepsUptoSaid : Prop := dedupKeepsUptoRow.holds Try.pinned (OpenSpec.upto dedupKeepsSpec)

/-- 'skylarklaw23.DedupDeeper', WHERE WHAT IT READS IS OF BULK AT MOST 1048576: true; the input reads as it did. -/
def dedupDeeperUptoRow : OpenClaim := { program := "ytcpenjbgiecgnaa", sum := "b007f7f064151edb80cefae310b41de0255c1511f109652622e09b23cdb32295", func := "skylark/skylarklaw23.DedupDeeper", spec := "dedupDeeper", unfollowed := true, recurses := true, plainKeys := false, apart := false, narrowed := true }
def DedupDeeperUptoSaid : Prop := dedupDeeperUptoRow.holds Try.pinned (OpenSpec.upto dedupDeeperSpec)

/-- 'skylarklaw23.DedupOnce', WHERE WHAT IT READS IS OF BULK AT MOST 1048576: true; the input reads as it did. -/
def dedupOnceUptoRow : OpenClaim := { program := "ytcpenjbgiecgnaa", sum := "b007f7f064151edb80cefae310b41de0255c1511f109652622e09b23cdb32295", func := "skylark/skylarklaw23.DedupOnce", spec := "dedupOnce", unfollowed := true, recurses := true, plainKeys := false, apart := false, narrowed := true }
def DedupOnceUptoSaid : Prop := dedupOnceUptoRow.holds Try.pinned (OpenSpec.upto dedupOnceSpec)

end Rows
end Go.Proofs.Ytcpenjbgiecgnaa
