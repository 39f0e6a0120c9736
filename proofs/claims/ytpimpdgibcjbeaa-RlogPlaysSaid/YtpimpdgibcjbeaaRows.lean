/-
  No cell of these rows narrows 'for every input' (looked for: loops, veiled, ifaces, maps, wideKeys, modest, calm, conditions, laid).
  DERIVED. THE GIVEN ROWS OF THIS SEAT. 6 by the template 'for every input the law returns true; each argument reads behind the call as it read before'; 0 by the template 'total and deterministic' (their statements: YtpimpdgibcjbeaaTotals.lean).
  GIVEN WITH THE SEED: the statements are not yours to turn. If you find one false, say at which input.
  Laid BY PROGRAM, IN A SANDBOX (cutbox-rows.mjs): the forced cells as the released guide's own fill.sh prints them over the translation c5b6e76283dc3906… (all of the seat's roots in one cut). By AI agents, Wed Nov 11 2026. No macro, syntax, notation, axiom, sorry.
-/
import Derived.Test.YtpimpdgibcjbeaaChecked
import GoSem.Claim
import GoSem.ClaimJoined
import GoSem.ClaimMapViews
import Derived.JoinedTies
import Derived.KernelRfl
namespace Go.Proofs.Ytpimpdgibcjbeaa
/- THE CELL 'sum', in the pinned program and in every row, IS THE sha256 OF THE DUMP (.gsa) THAT YtpimpdgibcjbeaaProg.lean LOADS. Nothing in Lean hashes anything: it is a label: what it is worth is what the hold of that sum in a sandbox is worth. -/
noncomputable def Try.pinned : Pinned := { name := "ytpimpdgibcjbeaa", sum := "c5b6e76283dc39065c1d80f29267826dda472fdb3a8642f3bce6dcc22314f186", checked := Try.checked }
namespace Rows
def none {H : Type} : Left H := { results := [], args := [] }

/-- 'skylarklaw14.RlogAgreed': WHATEVER THE INPUT: true; the input reads as it did. -/
def rlogAgreedSpec : ChangeSpec := { name := "rlogAgreed", fn := fun _ => fun
  | [d1, d2, d3] => { results := [.lit (.bool true)], args := [d1, d2, d3] }
  | _ => none }
def rlogAgreedRow : OpenClaim := { program := "ytpimpdgibcjbeaa", sum := "c5b6e76283dc39065c1d80f29267826dda472fdb3a8642f3bce6dcc22314f186", func := "skylark/skylarklaw14.RlogAgreed", spec := "rlogAgreed", unfollowed := true, recurses := true, apart := false }
def RlogAgreedSaid : Prop := rlogAgreedRow.holds Try.pinned (OpenSpec.ofChange rlogAgreedSpec)

/-- ITS FALSE NEIGHBOUR: 'it returns false'. Refute it at one input. -/
def rlogAgreedWrong : ChangeSpec := { name := "rlogAgreed", fn := fun _ => fun
  | [d1, d2, d3] => { results := [.lit (.bool false)], args := [d1, d2, d3] }
  | _ => none }
def RlogAgreedWrongFalsely : Prop := rlogAgreedRow.holds Try.pinned (OpenSpec.ofChange rlogAgreedWrong)

/-- 'skylarklaw14.RlogMatch': WHATEVER THE INPUT: true; the input reads as it did. -/
def rlogMatchSpec : ChangeSpec := { name := "rlogMatch", fn := fun _ => fun
  | [d1, d2, d3] => { results := [.lit (.bool true)], args := [d1, d2, d3] }
  | _ => none }
def rlogMatchRow : OpenClaim := { program := "ytpimpdgibcjbeaa", sum := "c5b6e76283dc39065c1d80f29267826dda472fdb3a8642f3bce6dcc22314f186", func := "skylark/skylarklaw14.RlogMatch", spec := "rlogMatch", unfollowed := true, recurses := true, apart := false }
def RlogMatchSaid : Prop := rlogMatchRow.holds Try.pinned (OpenSpec.ofChange rlogMatchSpec)

/-- ITS FALSE NEIGHBOUR: 'it returns false'. Refute it at one input. -/
def rlogMatchWrong : ChangeSpec := { name := "rlogMatch", fn := fun _ => fun
  | [d1, d2, d3] => { results := [.lit (.bool false)], args := [d1, d2, d3] }
  | _ => none }
def RlogMatchWrongFalsely : Prop := rlogMatchRow.holds Try.pinned (OpenSpec.ofChange rlogMatchWrong)

/-- 'skylarklaw14.RlogSlices': WHATEVER THE INPUT: true; the input reads as it did. -/
def rlogSlicesSpec : ChangeSpec := { name := "rlogSlices", fn := fun _ => fun
  | [d1, d2] => { results := [.lit (.bool true)], args := [d1, d2] }
  | _ => none }
def rlogSlicesRow : OpenClaim := { program := "ytpimpdgibcjbeaa", sum := "c5b6e76283dc39065c1d80f29267826dda472fdb3a8642f3bce6dcc22314f186", func := "skylark/skylarklaw14.RlogSlices", spec := "rlogSlices", unfollowed := true, recurses := true, apart := false }
def RlogSlicesSaid : Prop := rlogSlicesRow.holds Try.pinned (OpenSpec.ofChange rlogSlicesSpec)

/-- ITS FALSE NEIGHBOUR: 'it returns false'. Refute it at one input. -/
def rlogSlicesWrong : ChangeSpec := { name := "rlogSlices", fn := fun _ => fun
  | [d1, d2] => { results := [.lit (.bool false)], args := [d1, d2] }
  | _ => none }
def RlogSlicesWrongFalsely : Prop := rlogSlicesRow.holds Try.pinned (OpenSpec.ofChange rlogSlicesWrong)

/-- 'skylarklaw14.RlogAgain': WHATEVER THE INPUT: true; the input reads as it did. -/
def rlogAgainSpec : ChangeSpec := { name := "rlogAgain", fn := fun _ => fun
  | [d1, d2, d3] => { results := [.lit (.bool true)], args := [d1, d2, d3] }
  | _ => none }
def rlogAgainRow : OpenClaim := { program := "ytpimpdgibcjbeaa", sum := "c5b6e76283dc39065c1d80f29267826dda472fdb3a8642f3bce6dcc22314f186", func := "skylark/skylarklaw14.RlogAgain", spec := "rlogAgain", unfollowed := true, recurses := true, apart := false }
def RlogAgainSaid : Prop := rlogAgainRow.holds Try.pinned (OpenSpec.ofChange rlogAgainSpec)

/-- ITS FALSE NEIGHBOUR: 'it returns false'. Refute it at one input. -/
def rlogAgainWrong : ChangeSpec := { name := "rlogAgain", fn := fun _ => fun
  | [d1, d2, d3] => { results := [.lit (.bool false)], args := [d1, d2, d3] }
  | _ => none }
def RlogAgainWrongFalsely : Prop := rlogAgainRow.holds Try.pinned (OpenSpec.ofChange rlogAgainWrong)

/-- 'skylarklaw14.RlogPlays': WHATEVER THE INPUT: true; the input reads as it did. -/
def rlogPlaysSpec : ChangeSpec := { name := "rlogPlays", fn := fun _ => fun
  | [d] => { results := [.lit (.bool true)], args := [d] }
  | _ => none }
def rlogPlaysRow : OpenClaim := { program := "ytpimpdgibcjbeaa", sum := "c5b6e76283dc39065c1d80f29267826dda472fdb3a8642f3bce6dcc22314f186", func := "skylark/skylarklaw14.RlogPlays", spec := "rlogPlays", unfollowed := true, recurses := true, apart := false }
def RlogPlaysSaid : Prop := rlogPlaysRow.holds Try.pinned (OpenSpec.ofChange rlogPlaysSpec)

/-- ITS FALSE NEIGHBOUR: 'it returns false'. Refute it at one input. -/
def rlogPlaysWrong : ChangeSpec := { name := "rlogPlays", fn := fun _ => fun
  | [d] => { results := [.lit (.bool false)], args := [d] }
  | _ => none }
def RlogPlaysWrongFalsely : Prop := rlogPlaysRow.holds Try.pinned (OpenSpec.ofChange rlogPlaysWrong)

/-- 'skylarklaw14.RlogCompacts': WHATEVER THE INPUT: true; the input reads as it did. -/
def rlogCompactsSpec : ChangeSpec := { name := "rlogCompacts", fn := fun _ => fun
  | [d1, d2, d3] => { results := [.lit (.bool true)], args := [d1, d2, d3] }
  | _ => none }
def rlogCompactsRow : OpenClaim := { program := "ytpimpdgibcjbeaa", sum := "c5b6e76283dc39065c1d80f29267826dda472fdb3a8642f3bce6dcc22314f186", func := "skylark/skylarklaw14.RlogCompacts", spec := "rlogCompacts", unfollowed := true, recurses := true, apart := false }
def RlogCompactsSaid : Prop := rlogCompactsRow.holds Try.pinned (OpenSpec.ofChange rlogCompactsSpec)

/-- ITS FALSE NEIGHBOUR: 'it returns false'. Refute it at one input. -/
def rlogCompactsWrong : ChangeSpec := { name := "rlogCompacts", fn := fun _ => fun
  | [d1, d2, d3] => { results := [.lit (.bool false)], args := [d1, d2, d3] }
  | _ => none }
def RlogCompactsWrongFalsely : Prop := rlogCompactsRow.holds Try.pinned (OpenSpec.ofChange rlogCompactsWrong)

/- THE SECOND FORM. 'bulk': how many values and letters a reading holds, each counted each time it is reached (what is shared counts as often as it is met; a slice's spare places count too). A statement '..UptoSaid' is the law's where the arguments, and the package variables that the reading takes, are together of bulk at most 1048576: NARROWER than '..Said'. Prove '..Said' where nothing that the law and all that it calls make is longer than what came in: it says more and counts as full. Else prove '..UptoSaid'. A law counts once. -/
mutual
def uptoBulk {H : Type} : DataW H → Nat
  | .lit (.string bytes) => bytes.length + 1
  | .lit _ => 1
  | .nil => 1
  | .ptr d => uptoBulk d + 1
  | .slice elems spare => uptoBulkAll elems + uptoBulkAll spare + 1
  | .agg parts => uptoBulkAll parts + 1
  | .iface _ d => uptoBulk d + 1
  | .map entries => uptoBulkEntries entries + 1
  | .held _ => 1
def uptoBulkAll {H : Type} : List (DataW H) → Nat
  | [] => 0
  | d :: r => uptoBulk d + uptoBulkAll r
def uptoBulkEntries {H : Type} : List (Lit × DataW H) → Nat
  | [] => 0
  | x :: r => uptoBulkEntry x + uptoBulkEntries r
def uptoBulkEntry {H : Type} : Lit × DataW H → Nat
  | (.string bytes, d) => bytes.length + uptoBulk d + 1
  | (_, d) => uptoBulk d + 1
 end
def uptoSmall : (H : Type) → List (DataW H) → Bool := fun _ ds => decide (uptoBulkAll ds ≤ 1048576)
def OpenSpec.upto (s : _root_.Go.ChangeSpec) : _root_.Go.OpenSpec := { _root_.Go.OpenSpec.ofChange s with cond := some uptoSmall }

/-- 'skylarklaw14.RlogAgreed', WHERE WHAT IT READS IS OF BULK AT MOST 1048576: true; the input reads as it did. -/
def rlogAgreedUptoRow : OpenClaim := { program := "ytpimpdgibcjbeaa", sum := "c5b6e76283dc39065c1d80f29267826dda472fdb3a8642f3bce6dcc22314f186", func := "skylark/skylarklaw14.RlogAgreed", spec := "rlogAgreed", unfollowed := true, recurses := true, apart := false, narrowed := true }
def RlogAgreedUptoSaid : Prop := rlogAgreedUptoRow.holds Try.pinned (OpenSpec.upto rlogAgreedSpec)

/-- 'skylarklaw14.RlogMatch', WHERE WHAT IT READS IS OF BULK AT MOST 1048576: true; the input reads as it did. -/
def rlogMatchUptoRow : OpenClaim := { program := "ytpimpdgibcjbeaa", sum := "c5b6e76283dc39065c1d80f29267826dda472fdb3a8642f3bce6dcc22314f186", func := "skylark/skylarklaw14.RlogMatch", spec := "rlogMatch", unfollowed := true, recurses := true, apart := false, narrowed := true }
def RlogMatchUptoSaid : Prop := rlogMatchUptoRow.holds Try.pinned (OpenSpec.upto rlogMatchSpec)

/-- 'skylarklaw14.RlogSlices', WHERE WHAT IT READS IS OF BULK AT MOST 1048576: true; the input reads as it did. -/
def rlogSlicesUptoRow : OpenClaim := { program := "ytpimpdgibcjbeaa", sum := "c5b6e76283dc39065c1d80f29267826dda472fdb3a8642f3bce6dcc22314f186", func := "skylark/skylarklaw14.RlogSlices", spec := "rlogSlices", unfollowed := true, recurses := true, apart := false, narrowed := true }
def RlogSlicesUptoSaid : Prop := rlogSlicesUptoRow.holds Try.pinned (OpenSpec.upto rlogSlicesSpec)

/-- 'skylarklaw14.RlogAgain', WHERE WHAT IT READS IS OF BULK AT MOST 1048576: true; the input reads as it did. -/
def rlogAgainUptoRow : OpenClaim := { program := "ytpimpdgibcjbeaa", sum := "c5b6e76283dc39065c1d80f29267826dda472fdb3a8642f3bce6dcc22314f186", func := "skylark/skylarklaw14.RlogAgain", spec := "rlogAgain", unfollowed := true, recurses := true, apart := false, narrowed := true }
def RlogAgainUptoSaid : Prop := rlogAgainUptoRow.holds Try.pinned (OpenSpec.upto rlogAgainSpec)

/-- 'skylarklaw14.RlogPlays', WHERE WHAT IT READS IS OF BULK AT MOST 1048576: true; the input reads as it did. -/
def rlogPlaysUptoRow : OpenClaim := { program := "ytpimpdgibcjbeaa", sum := "c5b6e76283dc39065c1d80f29267826dda472fdb3a8642f3bce6dcc22314f186", func := "skylark/skylarklaw14.RlogPlays", spec := "rlogPlays", unfollowed := true, recurses := true, apart := false, narrowed := true }
def RlogPlaysUptoSaid : Prop := rlogPlaysUptoRow.holds Try.pinned (OpenSpec.upto rlogPlaysSpec)

/-- 'skylarklaw14.RlogCompacts', WHERE WHAT IT READS IS OF BULK AT MOST 1048576: true; the input reads as it did. -/
def rlogCompactsUptoRow : OpenClaim := { program := "ytpimpdgibcjbeaa", sum := "c5b6e76283dc39065c1d80f29267826dda472fdb3a8642f3bce6dcc22314f186", func := "skylark/skylarklaw14.RlogCompacts", spec := "rlogCompacts", unfollowed := true, recurses := true, apart := false, narrowed := true }
def RlogCompactsUptoSaid : Prop := rlogCompactsUptoRow.holds Try.pinned (OpenSpec.upto rlogCompactsSpec)

end Rows
end Go.Proofs.Ytpimpdgibcjbeaa
