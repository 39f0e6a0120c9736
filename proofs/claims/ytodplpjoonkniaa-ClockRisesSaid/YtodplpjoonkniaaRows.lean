/-
  No cell of these rows narrows 'for every input' (looked for: loops, veiled, ifaces, maps, wideKeys, modest, calm, conditions, laid).
  DERIVED. THE GIVEN ROWS OF THIS SEAT. 4 by the template 'for every input the law returns true; each argument reads behind the call as it read before'; 0 by the template 'total and deterministic' (their statements: YtodplpjoonkniaaTotals.lean).
  GIVEN WITH THE SEED: the statements are not yours to turn. If you find one false, say at which input.
  Laid BY PROGRAM, IN A SANDBOX (cutbox-rows.mjs): the forced cells as the released guide's own fill.sh prints them over the translation 3b13dcbc1444ec5e… (all of the seat's roots in one cut). By AI agents, Wed Nov 11 2026. No macro, syntax, notation, axiom, sorry.
-/
import Derived.Test.YtodplpjoonkniaaChecked
import GoSem.Claim
import GoSem.ClaimJoined
import GoSem.ClaimMapViews
import Derived.JoinedTies
import Derived.KernelRfl
namespace Go.Proofs.Ytodplpjoonkniaa
/- THE CELL 'sum', in the pinned program and in every row, IS THE sha256 OF THE DUMP (.gsa) THAT YtodplpjoonkniaaProg.lean LOADS. Nothing in Lean hashes anything: it is a label: what it is worth is what the hold of that sum in a sandbox is worth. -/
noncomputable def Try.pinned : Pinned := { name := "ytodplpjoonkniaa", sum := "3b13dcbc1444ec5e5eaa588a207d7703ab44d4dd54bdcade53ba891f63414a64", checked := Try.checked }
namespace Rows
def none {H : Type} : Left H := { results := [], args := [] }

/-- 'skylarklaw04.ClockTogether': WHATEVER THE INPUT: true; the input reads as it did. -/
def clockTogetherSpec : ChangeSpec := { name := "clockTogether", fn := fun _ => fun
  | [d1, d2] => { results := [.lit (.bool true)], args := [d1, d2] }
  | _ => none }
def clockTogetherRow : OpenClaim := { program := "ytodplpjoonkniaa", sum := "3b13dcbc1444ec5e5eaa588a207d7703ab44d4dd54bdcade53ba891f63414a64", func := "skylark/skylarklaw04.ClockTogether", spec := "clockTogether", apart := false }
def ClockTogetherSaid : Prop := clockTogetherRow.holds Try.pinned (OpenSpec.ofChange clockTogetherSpec)

/-- ITS FALSE NEIGHBOUR: 'it returns false'. Refute it at one input. -/
def clockTogetherWrong : ChangeSpec := { name := "clockTogether", fn := fun _ => fun
  | [d1, d2] => { results := [.lit (.bool false)], args := [d1, d2] }
  | _ => none }
def ClockTogetherWrongFalsely : Prop := clockTogetherRow.holds Try.pinned (OpenSpec.ofChange clockTogetherWrong)

/-- 'skylarklaw04.ClockRises': WHATEVER THE INPUT: true; the input reads as it did. -/
def clockRisesSpec : ChangeSpec := { name := "clockRises", fn := fun _ => fun
  | [d1, d2] => { results := [.lit (.bool true)], args := [d1, d2] }
  | _ => none }
def clockRisesRow : OpenClaim := { program := "ytodplpjoonkniaa", sum := "3b13dcbc1444ec5e5eaa588a207d7703ab44d4dd54bdcade53ba891f63414a64", func := "skylark/skylarklaw04.ClockRises", spec := "clockRises", apart := false }
def ClockRisesSaid : Prop := clockRisesRow.holds Try.pinned (OpenSpec.ofChange clockRisesSpec)

/-- ITS FALSE NEIGHBOUR: 'it returns false'. Refute it at one input. -/
def clockRisesWrong : ChangeSpec := { name := "clockRises", fn := fun _ => fun
  | [d1, d2] => { results := [.lit (.bool false)], args := [d1, d2] }
  | _ => none }
def ClockRisesWrongFalsely : Prop := clockRisesRow.holds Try.pinned (OpenSpec.ofChange clockRisesWrong)

/-- 'skylarklaw04.ClockForks': WHATEVER THE INPUT: true; the input reads as it did. -/
def clockForksSpec : ChangeSpec := { name := "clockForks", fn := fun _ => fun
  | [d1, d2, d3] => { results := [.lit (.bool true)], args := [d1, d2, d3] }
  | _ => none }
def clockForksRow : OpenClaim := { program := "ytodplpjoonkniaa", sum := "3b13dcbc1444ec5e5eaa588a207d7703ab44d4dd54bdcade53ba891f63414a64", func := "skylark/skylarklaw04.ClockForks", spec := "clockForks", apart := false }
def ClockForksSaid : Prop := clockForksRow.holds Try.pinned (OpenSpec.ofChange clockForksSpec)

/-- ITS FALSE NEIGHBOUR: 'it returns false'. Refute it at one input. -/
def clockForksWrong : ChangeSpec := { name := "clockForks", fn := fun _ => fun
  | [d1, d2, d3] => { results := [.lit (.bool false)], args := [d1, d2, d3] }
  | _ => none }
def ClockForksWrongFalsely : Prop := clockForksRow.holds Try.pinned (OpenSpec.ofChange clockForksWrong)

/-- 'skylarklaw04.ClockPlays': WHATEVER THE INPUT: true; the input reads as it did. -/
def clockPlaysSpec : ChangeSpec := { name := "clockPlays", fn := fun _ => fun
  | [d1, d2, d3] => { results := [.lit (.bool true)], args := [d1, d2, d3] }
  | _ => none }
def clockPlaysRow : OpenClaim := { program := "ytodplpjoonkniaa", sum := "3b13dcbc1444ec5e5eaa588a207d7703ab44d4dd54bdcade53ba891f63414a64", func := "skylark/skylarklaw04.ClockPlays", spec := "clockPlays", apart := false }
def ClockPlaysSaid : Prop := clockPlaysRow.holds Try.pinned (OpenSpec.ofChange clockPlaysSpec)

/-- ITS FALSE NEIGHBOUR: 'it returns false'. Refute it at one input. -/
def clockPlaysWrong : ChangeSpec := { name := "clockPlays", fn := fun _ => fun
  | [d1, d2, d3] => { results := [.lit (.bool false)], args := [d1, d2, d3] }
  | _ => none }
def ClockPlaysWrongFalsely : Prop := clockPlaysRow.holds Try.pinned (OpenSpec.ofChange clockPlaysWrong)

/- THE SECOND FORM. 'bulk': how many values and letters a reading holds, each counted each time it is reached (what is shared counts as often as it is met; a slice's spare places count too). A statement '..UptoSaid' is the law's where the arguments, and the package variables that the reading takes, are together of bulk at most 1048576: NARROWER than '..Said'. Prove '..Said' where nothing that the law and all that it calls make is longer than what came in: it says more and counts as full. Else prove '..UptoSaid'. A law counts once. -/
mutual
def uptoBulk {H : Type} : DataW H → Nat
  | .lit (.string bytes) => bytes.length + 1
  | .lit _ => 1
  | .nil => 1
  | .ptr d => uptoBulk d + 1
  | .slice elems spare => uptoBulkAll elems + uptoBulkAll spare + 1
  | .agg parts => uptoBulkAll parts + 1
  | .iface _ d => uptoBulk d + 1
  | .map entries => uptoBulkEntries entries + 1
  | .held _ => 1
def uptoBulkAll {H : Type} : List (DataW H) → Nat
  | [] => 0
  | d :: r => uptoBulk d + uptoBulkAll r
def uptoBulkEntries {H : Type} : List (Lit × DataW H) → Nat
  | [] => 0
  | x :: r => uptoBulkEntry x + uptoBulkEntries r
def uptoBulkEntry {H : Type} : Lit × DataW H → Nat
  | (.string bytes, d) => bytes.length + uptoBulk d + 1
  | (_, d) => uptoBulk d + 1
 end
def uptoSmall : (H : Type) → List (DataW H) → Bool := fun _ ds => decide (uptoBulkAll ds ≤ 1048576)
def OpenSpec.upto (s : _root_.Go.ChangeSpec) : _root_.Go.OpenSpec := { _root_.Go.OpenSpec.ofChange s with cond := some uptoSmall }

/-- 'skylarklaw04.ClockTogether', WHERE WHAT IT READS IS OF BULK AT MOST 1048576: true; the input reads as it did. -/
def clockTogetherUptoRow : OpenClaim := { program := "ytodplpjoonkniaa", sum := "3b13dcbc1444ec5e5eaa588a207d7703ab44d4dd54bdcade53ba891f63414a64", func := "skylark/skylarklaw04.ClockTogether", spec := "clockTogether", apart := false, narrowed := true }
def ClockTogetherUptoSaid : Prop := clockTogetherUptoRow.holds Try.pinned (OpenSpec.upto clockTogetherSpec)

/-- 'skylarklaw04.ClockRises', WHERE WHAT IT READS IS OF BULK AT MOST 1048576: true; the input reads as it did. -/
def clockRisesUptoRow : OpenClaim := { program := "ytodplpjoonkniaa", sum := "3b13dcbc1444ec5e5eaa588a207d7703ab44d4dd54bdcade53ba891f63414a64", func := "skylark/skylarklaw04.ClockRises", spec := "clockRises", apart := false, narrowed := true }
def ClockRisesUptoSaid : Prop := clockRisesUptoRow.holds Try.pinned (OpenSpec.upto clockRisesSpec)

/-- 'skylarklaw04.ClockForks', WHERE WHAT IT READS IS OF BULK AT MOST 1048576: true; the input reads as it did. -/
def clockForksUptoRow : OpenClaim := { program := "ytodplpjoonkniaa", sum := "3b13dcbc1444ec5e5eaa588a207d7703ab44d4dd54bdcade53ba891f63414a64", func := "skylark/skylarklaw04.ClockForks", spec := "clockForks", apart := false, narrowed := true }
def ClockForksUptoSaid : Prop := clockForksUptoRow.holds Try.pinned (OpenSpec.upto clockForksSpec)

/-- 'skylarklaw04.ClockPlays', WHERE WHAT IT READS IS OF BULK AT MOST 1048576: true; the input reads as it did. -/
def clockPlaysUptoRow : OpenClaim := { program := "ytodplpjoonkniaa", sum := "3b13dcbc1444ec5e5eaa588a207d7703ab44d4dd54bdcade53ba891f63414a64", func := "skylark/skylarklaw04.ClockPlays", spec := "clockPlays", apart := false, narrowed := true }
def ClockPlaysUptoSaid : Prop := clockPlaysUptoRow.holds Try.pinned (OpenSpec.upto clockPlaysSpec)

end Rows
end Go.Proofs.Ytodplpjoonkniaa
