/-
  No cell of these rows narrows 'for every input' (looked for: loops, veiled, ifaces, maps, wideKeys, modest, calm, conditions, laid).
  DERIVED. THE GIVEN ROWS OF THIS SEAT. 7 by the template 'for every input the law returns true; each argument reads behind the call as it read before'; 0 by the template 'total and deterministic' (their statements: YtafmdlegelbfpaaTotals.lean).
  GIVEN WITH THE SEED: the statements are not yours to turn. If you find one false, say at which input.
  Laid BY PROGRAM, IN A SANDBOX (cutbox-rows.mjs): the forced cells as the released guide's own fill.sh prints them over the translation e90c5d2c9f0577e4… (all of the seat's roots in one cut). By AI agents, Wed Nov 11 2026. No macro, syntax, notation, axiom, sorry.
-/
import Derived.Test.YtafmdlegelbfpaaChecked
import GoSem.Claim
import GoSem.ClaimJoined
import GoSem.ClaimMapViews
import Derived.JoinedTies
import Derived.KernelRfl
namespace Go.Proofs.Ytafmdlegelbfpaa
/- THE CELL 'sum', in the pinned program and in every row, IS THE sha256 OF THE DUMP (.gsa) THAT YtafmdlegelbfpaaProg.lean LOADS. Nothing in Lean hashes anything: it is a label: what it is worth is what the hold of that sum in a sandbox is worth. -/
noncomputable def Try.pinned : Pinned := { name := "ytafmdlegelbfpaa", sum := "e90c5d2c9f0577e48ffac6870fc561c0a1fb3801bbba592379f6daf40c124b95", checked := Try.checked }
namespace Rows
def none {H : Type} : Left H := { results := [], args := [] }

/-- 'skylarklaw08.OpStamps': WHATEVER THE INPUT: true; the input reads as it did. -/
def opStampsSpec : ChangeSpec := { name := "opStamps", fn := fun _ => fun
  | [d1, d2, d3] => { results := [.lit (.bool true)], args := [d1, d2, d3] }
  | _ => none }
def opStampsRow : OpenClaim := { program := "ytafmdlegelbfpaa", sum := "e90c5d2c9f0577e48ffac6870fc561c0a1fb3801bbba592379f6daf40c124b95", func := "skylark/skylarklaw08.OpStamps", spec := "opStamps", unfollowed := true, recurses := true, plainKeys := false, apart := false }
def OpStampsSaid : Prop := opStampsRow.holds Try.pinned (OpenSpec.ofChange opStampsSpec)

/-- ITS FALSE NEIGHBOUR: 'it returns false'. Refute it at one input. -/
def opStampsWrong : ChangeSpec := { name := "opStamps", fn := fun _ => fun
  | [d1, d2, d3] => { results := [.lit (.bool false)], args := [d1, d2, d3] }
  | _ => none }
def OpStampsWrongFalsely : Prop := opStampsRow.holds Try.pinned (OpenSpec.ofChange opStampsWrong)

/-- 'skylarklaw08.OpFields': WHATEVER THE INPUT: true; the input reads as it did. -/
def opFieldsSpec : ChangeSpec := { name := "opFields", fn := fun _ => fun
  | [d1, d2] => { results := [.lit (.bool true)], args := [d1, d2] }
  | _ => none }
def opFieldsRow : OpenClaim := { program := "ytafmdlegelbfpaa", sum := "e90c5d2c9f0577e48ffac6870fc561c0a1fb3801bbba592379f6daf40c124b95", func := "skylark/skylarklaw08.OpFields", spec := "opFields", unfollowed := true, recurses := true, plainKeys := false, apart := false }
def OpFieldsSaid : Prop := opFieldsRow.holds Try.pinned (OpenSpec.ofChange opFieldsSpec)

/-- ITS FALSE NEIGHBOUR: 'it returns false'. Refute it at one input. -/
def opFieldsWrong : ChangeSpec := { name := "opFields", fn := fun _ => fun
  | [d1, d2] => { results := [.lit (.bool false)], args := [d1, d2] }
  | _ => none }
def OpFieldsWrongFalsely : Prop := opFieldsRow.holds Try.pinned (OpenSpec.ofChange opFieldsWrong)

/-- 'skylarklaw08.OpRequests': WHATEVER THE INPUT: true; the input reads as it did. -/
def opRequestsSpec : ChangeSpec := { name := "opRequests", fn := fun _ => fun
  | [d1, d2] => { results := [.lit (.bool true)], args := [d1, d2] }
  | _ => none }
def opRequestsRow : OpenClaim := { program := "ytafmdlegelbfpaa", sum := "e90c5d2c9f0577e48ffac6870fc561c0a1fb3801bbba592379f6daf40c124b95", func := "skylark/skylarklaw08.OpRequests", spec := "opRequests", unfollowed := true, recurses := true, plainKeys := false, apart := false }
def OpRequestsSaid : Prop := opRequestsRow.holds Try.pinned (OpenSpec.ofChange opRequestsSpec)

/-- ITS FALSE NEIGHBOUR: 'it returns false'. Refute it at one input. -/
def opRequestsWrong : ChangeSpec := { name := "opRequests", fn := fun _ => fun
  | [d1, d2] => { results := [.lit (.bool false)], args := [d1, d2] }
  | _ => none }
def OpRequestsWrongFalsely : Prop := opRequestsRow.holds Try.pinned (OpenSpec.ofChange opRequestsWrong)

/-- 'skylarklaw08.OpBack': WHATEVER THE INPUT: true; the input reads as it did. -/
def opBackSpec : ChangeSpec := { name := "opBack", fn := fun _ => fun
  | [d1, d2, d3] => { results := [.lit (.bool true)], args := [d1, d2, d3] }
  | _ => none }
def opBackRow : OpenClaim := { program := "ytafmdlegelbfpaa", sum := "e90c5d2c9f0577e48ffac6870fc561c0a1fb3801bbba592379f6daf40c124b95", func := "skylark/skylarklaw08.OpBack", spec := "opBack", unfollowed := true, recurses := true, plainKeys := false, apart := false }
def OpBackSaid : Prop := opBackRow.holds Try.pinned (OpenSpec.ofChange opBackSpec)

/-- ITS FALSE NEIGHBOUR: 'it returns false'. Refute it at one input. -/
def opBackWrong : ChangeSpec := { name := "opBack", fn := fun _ => fun
  | [d1, d2, d3] => { results := [.lit (.bool false)], args := [d1, d2, d3] }
  | _ => none }
def OpBackWrongFalsely : Prop := opBackRow.holds Try.pinned (OpenSpec.ofChange opBackWrong)

/-- 'skylarklaw23.DedupKeeps': WHATEVER THE INPUT: true; the input reads as it did. -/
def dedupKeepsSpec : ChangeSpec := { name := "dedupKeeps", fn := fun _ => fun
  | [d1, d2] => { results := [.lit (.bool true)], args := [d1, d2] }
  | _ => none }
def dedupKeepsRow : OpenClaim := { program := "ytafmdlegelbfpaa", sum := "e90c5d2c9f0577e48ffac6870fc561c0a1fb3801bbba592379f6daf40c124b95", func := "skylark/skylarklaw23.DedupKeeps", spec := "dedupKeeps", unfollowed := true, recurses := true, plainKeys := false, apart := false }
def DedupKeepsSaid : Prop := dedupKeepsRow.holds Try.pinned (OpenSpec.ofChange dedupKeepsSpec)

/-- ITS FALSE NEIGHBOUR: 'it returns false'. Refute it at one input. -/
def dedupKeepsWrong : ChangeSpec := { name := "dedupKeeps", fn := fun _ => fun
  | [d1, d2] => { results := [.lit (.bool false)], args := [d1, d2] }
  | _ => none }
def DedupKeepsWrongFalsely : Prop := dedupKeepsRow.holds Try.pinned (OpenSpec.ofChange dedupKeepsWrong)

/-- 'skylarklaw23.DedupDeeper': WHATEVER THE INPUT: true; the input reads as it did. -/
def dedupDeeperSpec : ChangeSpec := { name := "dedupDeeper", fn := fun _ => fun
  | [d1, d2, d3] => { results := [.lit (.bool true)], args := [d1, d2, d3] }
  | _ => none }
def dedupDeeperRow : OpenClaim := { program := "ytafmdlegelbfpaa", sum := "e90c5d2c9f0577e48ffac6870fc561c0a1fb3801bbba592379f6daf40c124b95", func := "skylark/skylarklaw23.DedupDeeper", spec := "dedupDeeper", unfollowed := true, recurses := true, plainKeys := false, apart := false }
def DedupDeeperSaid : Prop := dedupDeeperRow.holds Try.pinned (OpenSpec.ofChange dedupDeeperSpec)

/-- ITS FALSE NEIGHBOUR: 'it returns false'. Refute it at one input. -/
def dedupDeeperWrong : ChangeSpec := { name := "dedupDeeper", fn := fun _ => fun
  | [d1, d2, d3] => { results := [.lit (.bool false)], args := [d1, d2, d3] }
  | _ => none }
def DedupDeeperWrongFalsely : Prop := dedupDeeperRow.holds Try.pinned (OpenSpec.ofChange dedupDeeperWrong)

/-- 'skylarklaw23.DedupOnce': WHATEVER THE INPUT: true; the input reads as it did. -/
def dedupOnceSpec : ChangeSpec := { name := "dedupOnce", fn := fun _ => fun
  | [d1, d2, d3] => { results := [.lit (.bool true)], args := [d1, d2, d3] }
  | _ => none }
def dedupOnceRow : OpenClaim := { program := "ytafmdlegelbfpaa", sum := "e90c5d2c9f0577e48ffac6870fc561c0a1fb3801bbba592379f6daf40c124b95", func := "skylark/skylarklaw23.DedupOnce", spec := "dedupOnce", unfollowed := true, recurses := true, plainKeys := false, apart := false }
def DedupOnceSaid : Prop := dedupOnceRow.holds Try.pinned (OpenSpec.ofChange dedupOnceSpec)

/-- ITS FALSE NEIGHBOUR: 'it returns false'. Refute it at one input. -/
def dedupOnceWrong : ChangeSpec := { name := "dedupOnce", fn := fun _ => fun
  | [d1, d2, d3] => { results := [.lit (.bool false)], args := [d1, d2, d3] }
  | _ => none }
def DedupOnceWrongFalsely : Prop := dedupOnceRow.holds Try.pinned (OpenSpec.ofChange dedupOnceWrong)

/- THE SECOND FORM. 'bulk': how many values and letters a reading holds, each counted each time it is reached (what is shared counts as often as it is met; a slice's spare places count too). A statement '..UptoSaid' is the law's where the arguments, and the package variables that the reading takes, are together of bulk at most 1048576: NARROWER than '..Said'. Prove '..Said' where nothing that the law and all that it calls make is longer than what came in: it says more and counts as full. Else prove '..UptoSaid'. A law counts once. -/
mutual
def uptoBulk {H : Type} : DataW H → Nat
  | .lit (.string bytes) => bytes.length + 1
  | .lit _ => 1
  | .nil => 1
  | .ptr d => uptoBulk d + 1
  | .slice elems spare => uptoBulkAll elems + uptoBulkAll spare + 1
  | .agg parts => uptoBulkAll parts + 1
  | .iface _ d => uptoBulk d + 1
  | .map entries => uptoBulkEntries entries + 1
  | .held _ => 1
def uptoBulkAll {H : Type} : List (DataW H) → Nat
  | [] => 0
  | d :: r => uptoBulk d + uptoBulkAll r
def uptoBulkEntries {H : Type} : List (Lit × DataW H) → Nat
  | [] => 0
  | x :: r => uptoBulkEntry x + uptoBulkEntries r
def uptoBulkEntry {H : Type} : Lit × DataW H → Nat
  | (.string bytes, d) => bytes.length + uptoBulk d + 1
  | (_, d) => uptoBulk d + 1
 end
def uptoSmall : (H : Type) → List (DataW H) → Bool := fun _ ds => decide (uptoBulkAll ds ≤ 1048576)
def OpenSpec.upto (s : _root_.Go.ChangeSpec) : _root_.Go.OpenSpec := { _root_.Go.OpenSpec.ofChange s with cond := some uptoSmall }

/-- 'skylarklaw08.OpStamps', WHERE WHAT IT READS IS OF BULK AT MOST 1048576: true; the input reads as it did. -/
def opStampsUptoRow : OpenClaim := { program := "ytafmdlegelbfpaa", sum := "e90c5d2c9f0577e48ffac6870fc561c0a1fb3801bbba592379f6daf40c124b95", func := "skylark/skylarklaw08.OpStamps", spec := "opStamps", unfollowed := true, recurses := true, plainKeys := false, apart := false, narrowed := true }
def OpStampsUptoSaid : Prop := opStampsUptoRow.holds Try.pinned (OpenSpec.upto opStampsSpec)

/-- 'skylarklaw08.OpFields', WHERE WHAT IT READS IS OF BULK AT MOST 1048576: true; the input reads as it did. -/
def opFieldsUptoRow : OpenClaim := { program := "ytafmdlegelbfpaa", sum := "e90c5d2c9f0577e48ffac6870fc561c0a1fb3801bbba592379f6daf40c124b95", func := "skylark/skylarklaw08.OpFields", spec := "opFields", unfollowed := true, recurses := true, plainKeys := false, apart := false, narrowed := true }
def OpFieldsUptoSaid : Prop := opFieldsUptoRow.holds Try.pinned (OpenSpec.upto opFieldsSpec)

/-- 'skylarklaw08.OpRequests', WHERE WHAT IT READS IS OF BULK AT MOST 1048576: true; the input reads as it did. -/
def opRequestsUptoRow : OpenClaim := { program := "ytafmdlegelbfpaa", sum := "e90c5d2c9f0577e48ffac6870fc561c0a1fb3801bbba592379f6daf40c124b95", func := "skylark/skylarklaw08.OpRequests", spec := "opRequests", unfollowed := true, recurses := true, plainKeys := false, apart := false, narrowed := true }
def OpRequestsUptoSaid : Prop := opRequestsUptoRow.holds Try.pinned (OpenSpec.upto opRequestsSpec)

/-- 'skylarklaw08.OpBack', WHERE WHAT IT READS IS OF BULK AT MOST 1048576: true; the input reads as it did. -/
def opBackUptoRow : OpenClaim := { program := "ytafmdlegelbfpaa", sum := "e90c5d2c9f0577e48ffac6870fc561c0a1fb3801bbba592379f6daf40c124b95", func := "skylark/skylarklaw08.OpBack", spec := "opBack", unfollowed := true, recurses := true, plainKeys := false, apart := false, narrowed := true }
def OpBackUptoSaid : Prop := opBackUptoRow.holds Try.pinned (OpenSpec.upto opBackSpec)

/-- 'skylarklaw23.DedupKeeps', WHERE WHAT IT READS IS OF BULK AT MOST 1048576: true; the input reads as it did. -/
def dedupKeepsUptoRow : OpenClaim := { program := "ytafmdlegelbfpaa", sum := "e90c5d2c9f0577e48ffac6870fc561c0a1fb3801bbba592379f6daf40c124b95", func := "skylark/skylarklaw23.DedupKeeps", spec := "dedupKeeps", unfollowed := true, recurses := true, plainKeys := false, apart := false, narrowed := true }
def DedupKeepsUptoSaid : Prop := dedupKeepsUptoRow.holds Try.pinned (OpenSpec.upto dedupKeepsSpec)

/-- 'skylarklaw23.DedupDeeper', WHERE WHAT IT READS IS OF BULK AT MOST 1048576: true; the input reads as it did. -/
def dedupDeeperUptoRow : OpenClaim := { program := "ytafmdlegelbfpaa", sum := "e90c5d2c9f0577e48ffac6870fc561c0a1fb3801bbba592379f6daf40c124b95", func := "skylark/skylarklaw23.DedupDeeper", spec := "dedupDeeper", unfollowed := true, recurses := true, plainKeys := false, apart := false, narrowed := true }
def DedupDeeperUptoSaid : Prop := dedupDeeperUptoRow.holds Try.pinned (OpenSpec.upto dedupDeeperSpec)

/-- 'skylarklaw23.DedupOnce', WHERE WHAT IT READS IS OF BULK AT MOST 1048576: true; the input reads as it did. -/
def dedupOnceUptoRow : OpenClaim := { program := "ytafmdlegelbfpaa", sum := "e90c5d2c9f0577e48ffac6870fc561c0a1fb3801bbba592379f6daf40c124b95", func := "skylark/skylarklaw23.DedupOnce", spec := "dedupOnce", unfollowed := true, recurses := true, plainKeys := false, apart := false, narrowed := true }
def DedupOnceUptoSaid : Prop := dedupOnceUptoRow.holds Try.pinned (OpenSpec.upto dedupOnceSpec)

end Rows
end Go.Proofs.Ytafmdlegelbfpaa
