/-
  No cell of these rows narrows 'for every input' (looked for: loops, veiled, ifaces, maps, wideKeys, modest, calm, conditions, laid).
  DERIVED. THE GIVEN ROWS OF THIS SEAT. 9 by the template 'for every input the law returns true; each argument reads behind the call as it read before'; 0 by the template 'total and deterministic' (their statements: YtkmbbipempbilaaTotals.lean).
  GIVEN WITH THE SEED: the statements are not yours to turn. If you find one false, say at which input.
  Laid BY PROGRAM, IN A SANDBOX (cutbox-rows.mjs): the forced cells as the released guide's own fill.sh prints them over the translation febb50515838e62a… (all of the seat's roots in one cut). By AI agents, Wed Nov 11 2026. No macro, syntax, notation, axiom, sorry.
-/
import Derived.Test.YtkmbbipempbilaaChecked
import GoSem.Claim
import GoSem.ClaimJoined
import GoSem.ClaimMapViews
import Derived.JoinedTies
import Derived.KernelRfl
namespace Go.Proofs.Ytkmbbipempbilaa
/- THE CELL 'sum', in the pinned program and in every row, IS THE sha256 OF THE DUMP (.gsa) THAT YtkmbbipempbilaaProg.lean LOADS. Nothing in Lean hashes anything: it is a label: what it is worth is what the hold of that sum in a sandbox is worth. -/
noncomputable def Try.pinned : Pinned := { name := "ytkmbbipempbilaa", sum := "febb50515838e62a7b582539b2f70ea27b4d28e7c7d35d1614802e707ae9279d", checked := Try.checked }
namespace Rows
def none {H : Type} : Left H := { results := [], args := [] }

/-- 'skylarklaw01.CodeLists': WHATEVER THE INPUT: true; the input reads as it did. -/
def codeListsSpec : ChangeSpec := { name := "codeLists", fn := fun _ => fun
  | [d1, d2] => { results := [.lit (.bool true)], args := [d1, d2] }
  | _ => none }
def codeListsRow : OpenClaim := { program := "ytkmbbipempbilaa", sum := "febb50515838e62a7b582539b2f70ea27b4d28e7c7d35d1614802e707ae9279d", func := "skylark/skylarklaw01.CodeLists", spec := "codeLists", apart := false }
def CodeListsSaid : Prop := codeListsRow.holds Try.pinned (OpenSpec.ofChange codeListsSpec)

/-- ITS FALSE NEIGHBOUR: 'it returns false'. Refute it at one input. -/
def codeListsWrong : ChangeSpec := { name := "codeLists", fn := fun _ => fun
  | [d1, d2] => { results := [.lit (.bool false)], args := [d1, d2] }
  | _ => none }
def CodeListsWrongFalsely : Prop := codeListsRow.holds Try.pinned (OpenSpec.ofChange codeListsWrong)

/-- 'skylarklaw01.CodeBack': WHATEVER THE INPUT: true; the input reads as it did. -/
def codeBackSpec : ChangeSpec := { name := "codeBack", fn := fun _ => fun
  | [d1, d2] => { results := [.lit (.bool true)], args := [d1, d2] }
  | _ => none }
def codeBackRow : OpenClaim := { program := "ytkmbbipempbilaa", sum := "febb50515838e62a7b582539b2f70ea27b4d28e7c7d35d1614802e707ae9279d", func := "skylark/skylarklaw01.CodeBack", spec := "codeBack", apart := false }
def CodeBackSaid : Prop := codeBackRow.holds Try.pinned (OpenSpec.ofChange codeBackSpec)

/-- ITS FALSE NEIGHBOUR: 'it returns false'. Refute it at one input. -/
def codeBackWrong : ChangeSpec := { name := "codeBack", fn := fun _ => fun
  | [d1, d2] => { results := [.lit (.bool false)], args := [d1, d2] }
  | _ => none }
def CodeBackWrongFalsely : Prop := codeBackRow.holds Try.pinned (OpenSpec.ofChange codeBackWrong)

/-- 'skylarklaw01.CodeJoins': WHATEVER THE INPUT: true; the input reads as it did. -/
def codeJoinsSpec : ChangeSpec := { name := "codeJoins", fn := fun _ => fun
  | [d1, d2] => { results := [.lit (.bool true)], args := [d1, d2] }
  | _ => none }
def codeJoinsRow : OpenClaim := { program := "ytkmbbipempbilaa", sum := "febb50515838e62a7b582539b2f70ea27b4d28e7c7d35d1614802e707ae9279d", func := "skylark/skylarklaw01.CodeJoins", spec := "codeJoins", apart := false }
def CodeJoinsSaid : Prop := codeJoinsRow.holds Try.pinned (OpenSpec.ofChange codeJoinsSpec)

/-- ITS FALSE NEIGHBOUR: 'it returns false'. Refute it at one input. -/
def codeJoinsWrong : ChangeSpec := { name := "codeJoins", fn := fun _ => fun
  | [d1, d2] => { results := [.lit (.bool false)], args := [d1, d2] }
  | _ => none }
def CodeJoinsWrongFalsely : Prop := codeJoinsRow.holds Try.pinned (OpenSpec.ofChange codeJoinsWrong)

/-- 'skylarklaw01.CodeNumbers': WHATEVER THE INPUT: true; the input reads as it did. -/
def codeNumbersSpec : ChangeSpec := { name := "codeNumbers", fn := fun _ => fun
  | [d] => { results := [.lit (.bool true)], args := [d] }
  | _ => none }
def codeNumbersRow : OpenClaim := { program := "ytkmbbipempbilaa", sum := "febb50515838e62a7b582539b2f70ea27b4d28e7c7d35d1614802e707ae9279d", func := "skylark/skylarklaw01.CodeNumbers", spec := "codeNumbers", apart := false }
def CodeNumbersSaid : Prop := codeNumbersRow.holds Try.pinned (OpenSpec.ofChange codeNumbersSpec)

/-- ITS FALSE NEIGHBOUR: 'it returns false'. Refute it at one input. -/
def codeNumbersWrong : ChangeSpec := { name := "codeNumbers", fn := fun _ => fun
  | [d] => { results := [.lit (.bool false)], args := [d] }
  | _ => none }
def CodeNumbersWrongFalsely : Prop := codeNumbersRow.holds Try.pinned (OpenSpec.ofChange codeNumbersWrong)

/-- 'skylarklaw01.CodeCuts': WHATEVER THE INPUT: true; the input reads as it did. -/
def codeCutsSpec : ChangeSpec := { name := "codeCuts", fn := fun _ => fun
  | [d1, d2] => { results := [.lit (.bool true)], args := [d1, d2] }
  | _ => none }
def codeCutsRow : OpenClaim := { program := "ytkmbbipempbilaa", sum := "febb50515838e62a7b582539b2f70ea27b4d28e7c7d35d1614802e707ae9279d", func := "skylark/skylarklaw01.CodeCuts", spec := "codeCuts", apart := false }
def CodeCutsSaid : Prop := codeCutsRow.holds Try.pinned (OpenSpec.ofChange codeCutsSpec)

/-- ITS FALSE NEIGHBOUR: 'it returns false'. Refute it at one input. -/
def codeCutsWrong : ChangeSpec := { name := "codeCuts", fn := fun _ => fun
  | [d1, d2] => { results := [.lit (.bool false)], args := [d1, d2] }
  | _ => none }
def CodeCutsWrongFalsely : Prop := codeCutsRow.holds Try.pinned (OpenSpec.ofChange codeCutsWrong)

/-- 'skylarklaw01.CodeAdds': WHATEVER THE INPUT: true; the input reads as it did. -/
def codeAddsSpec : ChangeSpec := { name := "codeAdds", fn := fun _ => fun
  | [d1, d2] => { results := [.lit (.bool true)], args := [d1, d2] }
  | _ => none }
def codeAddsRow : OpenClaim := { program := "ytkmbbipempbilaa", sum := "febb50515838e62a7b582539b2f70ea27b4d28e7c7d35d1614802e707ae9279d", func := "skylark/skylarklaw01.CodeAdds", spec := "codeAdds", apart := false }
def CodeAddsSaid : Prop := codeAddsRow.holds Try.pinned (OpenSpec.ofChange codeAddsSpec)

/-- ITS FALSE NEIGHBOUR: 'it returns false'. Refute it at one input. -/
def codeAddsWrong : ChangeSpec := { name := "codeAdds", fn := fun _ => fun
  | [d1, d2] => { results := [.lit (.bool false)], args := [d1, d2] }
  | _ => none }
def CodeAddsWrongFalsely : Prop := codeAddsRow.holds Try.pinned (OpenSpec.ofChange codeAddsWrong)

/-- 'skylarklaw01.CodeTorn': WHATEVER THE INPUT: true; the input reads as it did. -/
def codeTornSpec : ChangeSpec := { name := "codeTorn", fn := fun _ => fun
  | [d1, d2, d3] => { results := [.lit (.bool true)], args := [d1, d2, d3] }
  | _ => none }
def codeTornRow : OpenClaim := { program := "ytkmbbipempbilaa", sum := "febb50515838e62a7b582539b2f70ea27b4d28e7c7d35d1614802e707ae9279d", func := "skylark/skylarklaw01.CodeTorn", spec := "codeTorn", apart := false }
def CodeTornSaid : Prop := codeTornRow.holds Try.pinned (OpenSpec.ofChange codeTornSpec)

/-- ITS FALSE NEIGHBOUR: 'it returns false'. Refute it at one input. -/
def codeTornWrong : ChangeSpec := { name := "codeTorn", fn := fun _ => fun
  | [d1, d2, d3] => { results := [.lit (.bool false)], args := [d1, d2, d3] }
  | _ => none }
def CodeTornWrongFalsely : Prop := codeTornRow.holds Try.pinned (OpenSpec.ofChange codeTornWrong)

/-- 'skylarklaw01.CodeFrames': WHATEVER THE INPUT: true; the input reads as it did. -/
def codeFramesSpec : ChangeSpec := { name := "codeFrames", fn := fun _ => fun
  | [d1, d2] => { results := [.lit (.bool true)], args := [d1, d2] }
  | _ => none }
def codeFramesRow : OpenClaim := { program := "ytkmbbipempbilaa", sum := "febb50515838e62a7b582539b2f70ea27b4d28e7c7d35d1614802e707ae9279d", func := "skylark/skylarklaw01.CodeFrames", spec := "codeFrames", apart := false }
def CodeFramesSaid : Prop := codeFramesRow.holds Try.pinned (OpenSpec.ofChange codeFramesSpec)

/-- ITS FALSE NEIGHBOUR: 'it returns false'. Refute it at one input. -/
def codeFramesWrong : ChangeSpec := { name := "codeFrames", fn := fun _ => fun
  | [d1, d2] => { results := [.lit (.bool false)], args := [d1, d2] }
  | _ => none }
def CodeFramesWrongFalsely : Prop := codeFramesRow.holds Try.pinned (OpenSpec.ofChange codeFramesWrong)

/-- 'skylarklaw01.CodeFound': WHATEVER THE INPUT: true; the input reads as it did. -/
def codeFoundSpec : ChangeSpec := { name := "codeFound", fn := fun _ => fun
  | [d1, d2, d3] => { results := [.lit (.bool true)], args := [d1, d2, d3] }
  | _ => none }
def codeFoundRow : OpenClaim := { program := "ytkmbbipempbilaa", sum := "febb50515838e62a7b582539b2f70ea27b4d28e7c7d35d1614802e707ae9279d", func := "skylark/skylarklaw01.CodeFound", spec := "codeFound", apart := false }
def CodeFoundSaid : Prop := codeFoundRow.holds Try.pinned (OpenSpec.ofChange codeFoundSpec)

/-- ITS FALSE NEIGHBOUR: 'it returns false'. Refute it at one input. -/
def codeFoundWrong : ChangeSpec := { name := "codeFound", fn := fun _ => fun
  | [d1, d2, d3] => { results := [.lit (.bool false)], args := [d1, d2, d3] }
  | _ => none }
def CodeFoundWrongFalsely : Prop := codeFoundRow.holds Try.pinned (OpenSpec.ofChange codeFoundWrong)

/- THE SECOND FORM. 'bulk': how many values and letters a reading holds, each counted each time it is reached (what is shared counts as often as it is met; a slice's spare places count too). A statement '..UptoSaid' is the law's where the arguments, and the package variables that the reading takes, are together of bulk at most 1048576: NARROWER than '..Said'. Prove '..Said' where nothing that the law and all that it calls make is longer than what came in: it says more and counts as full. Else prove '..UptoSaid'. A law counts once. -/
mutual
def uptoBulk {H : Type} : DataW H → Nat
  | .lit (.string bytes) => bytes.length + 1
  | .lit _ => 1
  | .nil => 1
  | .ptr d => uptoBulk d + 1
  | .slice elems spare => uptoBulkAll elems + uptoBulkAll spare + 1
  | .agg parts => uptoBulkAll parts + 1
  | .iface _ d => uptoBulk d + 1
  | .map entries => uptoBulkEntries entries + 1
  | .held _ => 1
def uptoBulkAll {H : Type} : List (DataW H) → Nat
  | [] => 0
  | d :: r => uptoBulk d + uptoBulkAll r
def uptoBulkEntries {H : Type} : List (Lit × DataW H) → Nat
  | [] => 0
  | x :: r => uptoBulkEntry x + uptoBulkEntries r
def uptoBulkEntry {H : Type} : Lit × DataW H → Nat
  | (.string bytes, d) => bytes.length + uptoBulk d + 1
  | (_, d) => uptoBulk d + 1
 end
def uptoSmall : (H : Type) → List (DataW H) → Bool := fun _ ds => decide (uptoBulkAll ds ≤ 1048576)
def OpenSpec.upto (s : _root_.Go.ChangeSpec) : _root_.Go.OpenSpec := { _root_.Go.OpenSpec.ofChange s with cond := some uptoSmall }

/-- 'skylarklaw01.CodeLists', WHERE WHAT IT READS IS OF BULK AT MOST 1048576: true; the input reads as it did. -/
def codeListsUptoRow : OpenClaim := { program := "ytkmbbipempbilaa", sum := "febb50515838e62a7b582539b2f70ea27b4d28e7c7d35d1614802e707ae9279d", func := "skylark/skylarklaw01.CodeLists", spec := "codeLists", apart := false, narrowed := true }
def CodeListsUptoSaid : Prop := codeListsUptoRow.holds Try.pinned (OpenSpec.upto codeListsSpec)

/-- 'skylarklaw01.CodeBack', WHERE WHAT IT READS IS OF BULK AT MOST 1048576: true; the input reads as it did. -/
def codeBackUptoRow : OpenClaim := { program := "ytkmbbipempbilaa", sum := "febb50515838e62a7b582539b2f70ea27b4d28e7c7d35d1614802e707ae9279d", func := "skylark/skylarklaw01.CodeBack", spec := "codeBack", apart := false, narrowed := true }
def CodeBackUptoSaid : Prop := codeBackUptoRow.holds Try.pinned (OpenSpec.upto codeBackSpec)

/-- 'skylarklaw01.CodeJoins', WHERE WHAT IT READS IS OF BULK AT MOST 1048576: true; the input reads as it did. -/
def codeJoinsUptoRow : OpenClaim := { program := "ytkmbbipempbilaa", sum := "febb50515838e62a7b582539b2f70ea27b4d28e7c7d35d1614802e707ae9279d", func := "skylark/skylarklaw01.CodeJoins", spec := "codeJoins", apart := false, narrowed := true }
def CodeJoinsUptoSaid : Prop := codeJoinsUptoRow.holds Try.pinned (OpenSpec.upto codeJoinsSpec)

/-- 'skylarklaw01.CodeNumbers', WHERE WHAT IT READS IS OF BULK AT MOST 1048576: true; the input reads as it did. -/
def codeNumbersUptoRow : OpenClaim := { program := "ytkmbbipempbilaa", sum := "febb50515838e62a7b582539b2f70ea27b4d28e7c7d35d1614802e707ae9279d", func := "skylark/skylarklaw01.CodeNumbers", spec := "codeNumbers", apart := false, narrowed := true }
def CodeNumbersUptoSaid : Prop := codeNumbersUptoRow.holds Try.pinned (OpenSpec.upto codeNumbersSpec)

/-- 'skylarklaw01.CodeCuts', WHERE WHAT IT READS IS OF BULK AT MOST 1048576: true; the input reads as it did. -/
def codeCutsUptoRow : OpenClaim := { program := "ytkmbbipempbilaa", sum := "febb50515838e62a7b582539b2f70ea27b4d28e7c7d35d1614802e707ae9279d", func := "skylark/skylarklaw01.CodeCuts", spec := "codeCuts", apart := false, narrowed := true }
def CodeCutsUptoSaid : Prop := codeCutsUptoRow.holds Try.pinned (OpenSpec.upto codeCutsSpec)

/-- 'skylarklaw01.CodeAdds', WHERE WHAT IT READS IS OF BULK AT MOST 1048576: true; the input reads as it did. -/
def codeAddsUptoRow : OpenClaim := { program := "ytkmbbipempbilaa", sum := "febb50515838e62a7b582539b2f70ea27b4d28e7c7d35d1614802e707ae9279d", func := "skylark/skylarklaw01.CodeAdds", spec := "codeAdds", apart := false, narrowed := true }
def CodeAddsUptoSaid : Prop := codeAddsUptoRow.holds Try.pinned (OpenSpec.upto codeAddsSpec)

/-- 'skylarklaw01.CodeTorn', WHERE WHAT IT READS IS OF BULK AT MOST 1048576: true; the input reads as it did. -/
def codeTornUptoRow : OpenClaim := { program := "ytkmbbipempbilaa", sum := "febb50515838e62a7b582539b2f70ea27b4d28e7c7d35d1614802e707ae9279d", func := "skylark/skylarklaw01.CodeTorn", spec := "codeTorn", apart := false, narrowed := true }
def CodeTornUptoSaid : Prop := codeTornUptoRow.holds Try.pinned (OpenSpec.upto codeTornSpec)

/-- 'skylarklaw01.CodeFrames', WHERE WHAT IT READS IS OF BULK AT MOST 1048576: true; the input reads as it did. -/
def codeFramesUptoRow : OpenClaim := { program := "ytkmbbipempbilaa", sum := "febb50515838e62a7b582539b2f70ea27b4d28e7c7d35d1614802e707ae9279d", func := "skylark/skylarklaw01.CodeFrames", spec := "codeFrames", apart := false, narrowed := true }
def CodeFramesUptoSaid : Prop := codeFramesUptoRow.holds Try.pinned (OpenSpec.upto codeFramesSpec)

/-- 'skylarklaw01.CodeFound', WHERE WHAT IT READS IS OF BULK AT MOST 1048576: true; the input reads as it did. -/
def codeFoundUptoRow : OpenClaim := { program := "ytkmbbipempbilaa", sum := "febb50515838e62a7b582539b2f70ea27b4d28e7c7d35d1614802e707ae9279d", func := "skylark/skylarklaw01.CodeFound", spec := "codeFound", apart := false, narrowed := true }
def CodeFoundUptoSaid : Prop := codeFoundUptoRow.holds Try.pinned (OpenSpec.upto codeFoundSpec)

end Rows
end Go.Proofs.Ytkmbbipempbilaa
