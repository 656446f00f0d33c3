/-
  No cell of these rows narrows 'for every input' (looked for: loops, veiled, ifaces, maps, wideKeys, modest, calm, conditions, laid).
  DERIVED. THE GIVEN ROWS OF THIS SEAT. 12 by the template 'for every input the law returns true; each argument reads behind the call as it read before'; 0 by the template 'total and deterministic' (their statements: YteeokieokbibbaaTotals.lean).
  GIVEN WITH THE SEED: the statements are not yours to turn. If you find one false, say at which input.
  Laid BY PROGRAM, IN A SANDBOX (cutbox-rows.mjs): the forced cells as the released guide's own fill.sh prints them over the translation 0277fe674d83b55f… (all of the seat's roots in one cut). By AI agents, Wed Nov 11 2026. No macro, syntax, notation, axiom, sorry.
-/
import Derived.Test.YteeokieokbibbaaChecked
import GoSem.Claim
import GoSem.ClaimJoined
import GoSem.ClaimMapViews
import Derived.JoinedTies
import Derived.KernelRfl
namespace Go.Proofs.Yteeokieokbibbaa
/- THE CELL 'sum', in the pinned program and in every row, IS THE sha256 OF THE DUMP (.gsa) THAT YteeokieokbibbaaProg.lean LOADS. Nothing in Lean hashes anything: it is a label: what it is worth is what the hold of that sum in a sandbox is worth. -/
noncomputable def Try.pinned : Pinned := { name := "yteeokieokbibbaa", sum := "0277fe674d83b55f5f0f6d7ee2e07b4a9a67a998d6dab3ddcac447c7296d8920", checked := Try.checked }
namespace Rows
def none {H : Type} : Left H := { results := [], args := [] }

/-- 'laws.FnExactCrc': WHATEVER THE INPUT: true; the input reads as it did. -/
def fnExactCrcSpec : ChangeSpec := { name := "fnExactCrc", fn := fun _ => fun
  | [d] => { results := [.lit (.bool true)], args := [d] }
  | _ => none }
def fnExactCrcRow : OpenClaim := { program := "yteeokieokbibbaa", sum := "0277fe674d83b55f5f0f6d7ee2e07b4a9a67a998d6dab3ddcac447c7296d8920", func := "loop.example/g00322/laws.FnExactCrc", spec := "fnExactCrc", apart := false }
def FnExactCrcSaid : Prop := fnExactCrcRow.holds Try.pinned (OpenSpec.ofChange fnExactCrcSpec)

/-- ITS FALSE NEIGHBOUR: 'it returns false'. Refute it at one input. -/
def fnExactCrcWrong : ChangeSpec := { name := "fnExactCrc", fn := fun _ => fun
  | [d] => { results := [.lit (.bool false)], args := [d] }
  | _ => none }
def FnExactCrcWrongFalsely : Prop := fnExactCrcRow.holds Try.pinned (OpenSpec.ofChange fnExactCrcWrong)

/-- 'laws.FnExactGetU': WHATEVER THE INPUT: true; the input reads as it did. -/
def fnExactGetUSpec : ChangeSpec := { name := "fnExactGetU", fn := fun _ => fun
  | [d1, d2] => { results := [.lit (.bool true)], args := [d1, d2] }
  | _ => none }
def fnExactGetURow : OpenClaim := { program := "yteeokieokbibbaa", sum := "0277fe674d83b55f5f0f6d7ee2e07b4a9a67a998d6dab3ddcac447c7296d8920", func := "loop.example/g00322/laws.FnExactGetU", spec := "fnExactGetU", apart := false }
def FnExactGetUSaid : Prop := fnExactGetURow.holds Try.pinned (OpenSpec.ofChange fnExactGetUSpec)

/-- ITS FALSE NEIGHBOUR: 'it returns false'. Refute it at one input. -/
def fnExactGetUWrong : ChangeSpec := { name := "fnExactGetU", fn := fun _ => fun
  | [d1, d2] => { results := [.lit (.bool false)], args := [d1, d2] }
  | _ => none }
def FnExactGetUWrongFalsely : Prop := fnExactGetURow.holds Try.pinned (OpenSpec.ofChange fnExactGetUWrong)

/-- 'laws.FnExactPutU': WHATEVER THE INPUT: true; the input reads as it did. -/
def fnExactPutUSpec : ChangeSpec := { name := "fnExactPutU", fn := fun _ => fun
  | [d1, d2] => { results := [.lit (.bool true)], args := [d1, d2] }
  | _ => none }
def fnExactPutURow : OpenClaim := { program := "yteeokieokbibbaa", sum := "0277fe674d83b55f5f0f6d7ee2e07b4a9a67a998d6dab3ddcac447c7296d8920", func := "loop.example/g00322/laws.FnExactPutU", spec := "fnExactPutU", apart := false }
def FnExactPutUSaid : Prop := fnExactPutURow.holds Try.pinned (OpenSpec.ofChange fnExactPutUSpec)

/-- ITS FALSE NEIGHBOUR: 'it returns false'. Refute it at one input. -/
def fnExactPutUWrong : ChangeSpec := { name := "fnExactPutU", fn := fun _ => fun
  | [d1, d2] => { results := [.lit (.bool false)], args := [d1, d2] }
  | _ => none }
def FnExactPutUWrongFalsely : Prop := fnExactPutURow.holds Try.pinned (OpenSpec.ofChange fnExactPutUWrong)

/-- 'laws.FnExactPutText': WHATEVER THE INPUT: true; the input reads as it did. -/
def fnExactPutTextSpec : ChangeSpec := { name := "fnExactPutText", fn := fun _ => fun
  | [d1, d2] => { results := [.lit (.bool true)], args := [d1, d2] }
  | _ => none }
def fnExactPutTextRow : OpenClaim := { program := "yteeokieokbibbaa", sum := "0277fe674d83b55f5f0f6d7ee2e07b4a9a67a998d6dab3ddcac447c7296d8920", func := "loop.example/g00322/laws.FnExactPutText", spec := "fnExactPutText", apart := false }
def FnExactPutTextSaid : Prop := fnExactPutTextRow.holds Try.pinned (OpenSpec.ofChange fnExactPutTextSpec)

/-- ITS FALSE NEIGHBOUR: 'it returns false'. Refute it at one input. -/
def fnExactPutTextWrong : ChangeSpec := { name := "fnExactPutText", fn := fun _ => fun
  | [d1, d2] => { results := [.lit (.bool false)], args := [d1, d2] }
  | _ => none }
def FnExactPutTextWrongFalsely : Prop := fnExactPutTextRow.holds Try.pinned (OpenSpec.ofChange fnExactPutTextWrong)

/-- 'laws.FnExactGetText': WHATEVER THE INPUT: true; the input reads as it did. -/
def fnExactGetTextSpec : ChangeSpec := { name := "fnExactGetText", fn := fun _ => fun
  | [d1, d2] => { results := [.lit (.bool true)], args := [d1, d2] }
  | _ => none }
def fnExactGetTextRow : OpenClaim := { program := "yteeokieokbibbaa", sum := "0277fe674d83b55f5f0f6d7ee2e07b4a9a67a998d6dab3ddcac447c7296d8920", func := "loop.example/g00322/laws.FnExactGetText", spec := "fnExactGetText", apart := false }
def FnExactGetTextSaid : Prop := fnExactGetTextRow.holds Try.pinned (OpenSpec.ofChange fnExactGetTextSpec)

/-- ITS FALSE NEIGHBOUR: 'it returns false'. Refute it at one input. -/
def fnExactGetTextWrong : ChangeSpec := { name := "fnExactGetText", fn := fun _ => fun
  | [d1, d2] => { results := [.lit (.bool false)], args := [d1, d2] }
  | _ => none }
def FnExactGetTextWrongFalsely : Prop := fnExactGetTextRow.holds Try.pinned (OpenSpec.ofChange fnExactGetTextWrong)

/-- 'laws.FnExactPutSum': WHATEVER THE INPUT: true; the input reads as it did. -/
def fnExactPutSumSpec : ChangeSpec := { name := "fnExactPutSum", fn := fun _ => fun
  | [d] => { results := [.lit (.bool true)], args := [d] }
  | _ => none }
def fnExactPutSumRow : OpenClaim := { program := "yteeokieokbibbaa", sum := "0277fe674d83b55f5f0f6d7ee2e07b4a9a67a998d6dab3ddcac447c7296d8920", func := "loop.example/g00322/laws.FnExactPutSum", spec := "fnExactPutSum", apart := false }
def FnExactPutSumSaid : Prop := fnExactPutSumRow.holds Try.pinned (OpenSpec.ofChange fnExactPutSumSpec)

/-- ITS FALSE NEIGHBOUR: 'it returns false'. Refute it at one input. -/
def fnExactPutSumWrong : ChangeSpec := { name := "fnExactPutSum", fn := fun _ => fun
  | [d] => { results := [.lit (.bool false)], args := [d] }
  | _ => none }
def FnExactPutSumWrongFalsely : Prop := fnExactPutSumRow.holds Try.pinned (OpenSpec.ofChange fnExactPutSumWrong)

/-- 'laws.FnExactGetSum': WHATEVER THE INPUT: true; the input reads as it did. -/
def fnExactGetSumSpec : ChangeSpec := { name := "fnExactGetSum", fn := fun _ => fun
  | [d] => { results := [.lit (.bool true)], args := [d] }
  | _ => none }
def fnExactGetSumRow : OpenClaim := { program := "yteeokieokbibbaa", sum := "0277fe674d83b55f5f0f6d7ee2e07b4a9a67a998d6dab3ddcac447c7296d8920", func := "loop.example/g00322/laws.FnExactGetSum", spec := "fnExactGetSum", apart := false }
def FnExactGetSumSaid : Prop := fnExactGetSumRow.holds Try.pinned (OpenSpec.ofChange fnExactGetSumSpec)

/-- ITS FALSE NEIGHBOUR: 'it returns false'. Refute it at one input. -/
def fnExactGetSumWrong : ChangeSpec := { name := "fnExactGetSum", fn := fun _ => fun
  | [d] => { results := [.lit (.bool false)], args := [d] }
  | _ => none }
def FnExactGetSumWrongFalsely : Prop := fnExactGetSumRow.holds Try.pinned (OpenSpec.ofChange fnExactGetSumWrong)

/-- 'laws.FnNums': WHATEVER THE INPUT: true; the input reads as it did. -/
def fnNumsSpec : ChangeSpec := { name := "fnNums", fn := fun _ => fun
  | [d] => { results := [.lit (.bool true)], args := [d] }
  | _ => none }
def fnNumsRow : OpenClaim := { program := "yteeokieokbibbaa", sum := "0277fe674d83b55f5f0f6d7ee2e07b4a9a67a998d6dab3ddcac447c7296d8920", func := "loop.example/g00322/laws.FnNums", spec := "fnNums", apart := false }
def FnNumsSaid : Prop := fnNumsRow.holds Try.pinned (OpenSpec.ofChange fnNumsSpec)

/-- ITS FALSE NEIGHBOUR: 'it returns false'. Refute it at one input. -/
def fnNumsWrong : ChangeSpec := { name := "fnNums", fn := fun _ => fun
  | [d] => { results := [.lit (.bool false)], args := [d] }
  | _ => none }
def FnNumsWrongFalsely : Prop := fnNumsRow.holds Try.pinned (OpenSpec.ofChange fnNumsWrong)

/-- 'laws.FnSums': WHATEVER THE INPUT: true; the input reads as it did. -/
def fnSumsSpec : ChangeSpec := { name := "fnSums", fn := fun _ => fun
  | [d] => { results := [.lit (.bool true)], args := [d] }
  | _ => none }
def fnSumsRow : OpenClaim := { program := "yteeokieokbibbaa", sum := "0277fe674d83b55f5f0f6d7ee2e07b4a9a67a998d6dab3ddcac447c7296d8920", func := "loop.example/g00322/laws.FnSums", spec := "fnSums", apart := false }
def FnSumsSaid : Prop := fnSumsRow.holds Try.pinned (OpenSpec.ofChange fnSumsSpec)

/-- ITS FALSE NEIGHBOUR: 'it returns false'. Refute it at one input. -/
def fnSumsWrong : ChangeSpec := { name := "fnSums", fn := fun _ => fun
  | [d] => { results := [.lit (.bool false)], args := [d] }
  | _ => none }
def FnSumsWrongFalsely : Prop := fnSumsRow.holds Try.pinned (OpenSpec.ofChange fnSumsWrong)

/-- 'laws.FnExactFlip': WHATEVER THE INPUT: true; the input reads as it did. -/
def fnExactFlipSpec : ChangeSpec := { name := "fnExactFlip", fn := fun _ => fun
  | [d1, d2] => { results := [.lit (.bool true)], args := [d1, d2] }
  | _ => none }
def fnExactFlipRow : OpenClaim := { program := "yteeokieokbibbaa", sum := "0277fe674d83b55f5f0f6d7ee2e07b4a9a67a998d6dab3ddcac447c7296d8920", func := "loop.example/g00322/laws.FnExactFlip", spec := "fnExactFlip", apart := false }
def FnExactFlipSaid : Prop := fnExactFlipRow.holds Try.pinned (OpenSpec.ofChange fnExactFlipSpec)

/-- ITS FALSE NEIGHBOUR: 'it returns false'. Refute it at one input. -/
def fnExactFlipWrong : ChangeSpec := { name := "fnExactFlip", fn := fun _ => fun
  | [d1, d2] => { results := [.lit (.bool false)], args := [d1, d2] }
  | _ => none }
def FnExactFlipWrongFalsely : Prop := fnExactFlipRow.holds Try.pinned (OpenSpec.ofChange fnExactFlipWrong)

/-- 'laws.FnOrder': WHATEVER THE INPUT: true; the input reads as it did. -/
def fnOrderSpec : ChangeSpec := { name := "fnOrder", fn := fun _ => fun
  | [d] => { results := [.lit (.bool true)], args := [d] }
  | _ => none }
def fnOrderRow : OpenClaim := { program := "yteeokieokbibbaa", sum := "0277fe674d83b55f5f0f6d7ee2e07b4a9a67a998d6dab3ddcac447c7296d8920", func := "loop.example/g00322/laws.FnOrder", spec := "fnOrder", apart := false }
def FnOrderSaid : Prop := fnOrderRow.holds Try.pinned (OpenSpec.ofChange fnOrderSpec)

/-- ITS FALSE NEIGHBOUR: 'it returns false'. Refute it at one input. -/
def fnOrderWrong : ChangeSpec := { name := "fnOrder", fn := fun _ => fun
  | [d] => { results := [.lit (.bool false)], args := [d] }
  | _ => none }
def FnOrderWrongFalsely : Prop := fnOrderRow.holds Try.pinned (OpenSpec.ofChange fnOrderWrong)

/-- 'laws.FnExactPick': WHATEVER THE INPUT: true; the input reads as it did. -/
def fnExactPickSpec : ChangeSpec := { name := "fnExactPick", fn := fun _ => fun
  | [d1, d2] => { results := [.lit (.bool true)], args := [d1, d2] }
  | _ => none }
def fnExactPickRow : OpenClaim := { program := "yteeokieokbibbaa", sum := "0277fe674d83b55f5f0f6d7ee2e07b4a9a67a998d6dab3ddcac447c7296d8920", func := "loop.example/g00322/laws.FnExactPick", spec := "fnExactPick", apart := false }
def FnExactPickSaid : Prop := fnExactPickRow.holds Try.pinned (OpenSpec.ofChange fnExactPickSpec)

/-- ITS FALSE NEIGHBOUR: 'it returns false'. Refute it at one input. -/
def fnExactPickWrong : ChangeSpec := { name := "fnExactPick", fn := fun _ => fun
  | [d1, d2] => { results := [.lit (.bool false)], args := [d1, d2] }
  | _ => none }
def FnExactPickWrongFalsely : Prop := fnExactPickRow.holds Try.pinned (OpenSpec.ofChange fnExactPickWrong)

/- THE SECOND FORM. 'bulk': how many values and letters a reading holds, each counted each time it is reached (what is shared counts as often as it is met; a slice's spare places count too). A statement '..UptoSaid' is the law's where the arguments, and the package variables that the reading takes, are together of bulk at most 1048576: NARROWER than '..Said'. Prove '..Said' where nothing that the law and all that it calls make is longer than what came in: it says more and counts as full. Else prove '..UptoSaid'. A law counts once. -/
mutual
def uptoBulk {H : Type} : DataW H → Nat
  | .lit (.string bytes) => bytes.length + 1
  | .lit _ => 1
  | .nil => 1
  | .ptr d => uptoBulk d + 1
  | .slice elems spare => uptoBulkAll elems + uptoBulkAll spare + 1
  | .agg parts => uptoBulkAll parts + 1
  | .iface _ d => uptoBulk d + 1
  | .map entries => uptoBulkEntries entries + 1
  | .held _ => 1
def uptoBulkAll {H : Type} : List (DataW H) → Nat
  | [] => 0
  | d :: r => uptoBulk d + uptoBulkAll r
def uptoBulkEntries {H : Type} : List (Lit × DataW H) → Nat
  | [] => 0
  | x :: r => uptoBulkEntry x + uptoBulkEntries r
def uptoBulkEntry {H : Type} : Lit × DataW H → Nat
  | (.string bytes, d) => bytes.length + uptoBulk d + 1
  | (_, d) => uptoBulk d + 1
 end
def uptoSmall : (H : Type) → List (DataW H) → Bool := fun _ ds => decide (uptoBulkAll ds ≤ 1048576)
def OpenSpec.upto (s : _root_.Go.ChangeSpec) : _root_.Go.OpenSpec := { _root_.Go.OpenSpec.ofChange s with cond := some uptoSmall }

/-- 'laws.FnExactCrc', WHERE WHAT IT READS IS OF BULK AT MOST 1048576: true; the input reads as it did. -/
def fnExactCrcUptoRow : OpenClaim := { program := "yteeokieokbibbaa", sum := "0277fe674d83b55f5f0f6d7ee2e07b4a9a67a998d6dab3ddcac447c7296d8920", func := "loop.example/g00322/laws.FnExactCrc", spec := "fnExactCrc", apart := false, narrowed := true }
def FnExactCrcUptoSaid : Prop := fnExactCrcUptoRow.holds Try.pinned (OpenSpec.upto fnExactCrcSpec)

/-- 'laws.FnExactGetU', WHERE WHAT IT READS IS OF BULK AT MOST 1048576: true; the input reads as it did. -/
def fnExactGetUUptoRow : OpenClaim := { program := "yteeokieokbibbaa", sum := "0277fe674d83b55f5f0f6d7ee2e07b4a9a67a998d6dab3ddcac447c7296d8920", func := "loop.example/g00322/laws.FnExactGetU", spec := "fnExactGetU", apart := false, narrowed := true }
def FnExactGetUUptoSaid : Prop := fnExactGetUUptoRow.holds Try.pinned (OpenSpec.upto fnExactGetUSpec)

/-- 'laws.FnExactPutU', WHERE WHAT IT READS IS OF BULK AT MOST 1048576: true; the input reads as it did. -/
def fnExactPutUUptoRow : OpenClaim := { program := "yteeokieokbibbaa", sum := "0277fe674d83b55f5f0f6d7ee2e07b4a9a67a998d6dab3ddcac447c7296d8920", func := "loop.example/g00322/laws.FnExactPutU", spec := "fnExactPutU", apart := false, narrowed := true }
def FnExactPutUUptoSaid : Prop := fnExactPutUUptoRow.holds Try.pinned (OpenSpec.upto fnExactPutUSpec)

/-- 'laws.FnExactPutText', WHERE WHAT IT READS IS OF BULK AT MOST 1048576: true; the input reads as it did. -/
def fnExactPutTextUptoRow : OpenClaim := { program := "yteeokieokbibbaa", sum := "0277fe674d83b55f5f0f6d7ee2e07b4a9a67a998d6dab3ddcac447c7296d8920", func := "loop.example/g00322/laws.FnExactPutText", spec := "fnExactPutText", apart := false, narrowed := true }
def FnExactPutTextUptoSaid : Prop := fnExactPutTextUptoRow.holds Try.pinned (OpenSpec.upto fnExactPutTextSpec)

/-- 'laws.FnExactGetText', WHERE WHAT IT READS IS OF BULK AT MOST 1048576: true; the input reads as it did. -/
def fnExactGetTextUptoRow : OpenClaim := { program := "yteeokieokbibbaa", sum := "0277fe674d83b55f5f0f6d7ee2e07b4a9a67a998d6dab3ddcac447c7296d8920", func := "loop.example/g00322/laws.FnExactGetText", spec := "fnExactGetText", apart := false, narrowed := true }
def FnExactGetTextUptoSaid : Prop := fnExactGetTextUptoRow.holds Try.pinned (OpenSpec.upto fnExactGetTextSpec)

/-- 'laws.FnExactPutSum', WHERE WHAT IT READS IS OF BULK AT MOST 1048576: true; the input reads as it did. -/
def fnExactPutSumUptoRow : OpenClaim := { program := "yteeokieokbibbaa", sum := "0277fe674d83b55f5f0f6d7ee2e07b4a9a67a998d6dab3ddcac447c7296d8920", func := "loop.example/g00322/laws.FnExactPutSum", spec := "fnExactPutSum", apart := false, narrowed := true }
def FnExactPutSumUptoSaid : Prop := fnExactPutSumUptoRow.holds Try.pinned (OpenSpec.upto fnExactPutSumSpec)

/-- 'laws.FnExactGetSum', WHERE WHAT IT READS IS OF BULK AT MOST 1048576: true; the input reads as it did. -/
def fnExactGetSumUptoRow : OpenClaim := { program := "yteeokieokbibbaa", sum := "0277fe674d83b55f5f0f6d7ee2e07b4a9a67a998d6dab3ddcac447c7296d8920", func := "loop.example/g00322/laws.FnExactGetSum", spec := "fnExactGetSum", apart := false, narrowed := true }
def FnExactGetSumUptoSaid : Prop := fnExactGetSumUptoRow.holds Try.pinned (OpenSpec.upto fnExactGetSumSpec)

/-- 'laws.FnNums', WHERE WHAT IT READS IS OF BULK AT MOST 1048576: true; the input reads as it did. -/
def fnNumsUptoRow : OpenClaim := { program := "yteeokieokbibbaa", sum := "0277fe674d83b55f5f0f6d7ee2e07b4a9a67a998d6dab3ddcac447c7296d8920", func := "loop.example/g00322/laws.FnNums", spec := "fnNums", apart := false, narrowed := true }
def FnNumsUptoSaid : Prop := fnNumsUptoRow.holds Try.pinned (OpenSpec.upto fnNumsSpec)

/-- 'laws.FnSums', WHERE WHAT IT READS IS OF BULK AT MOST 1048576: true; the input reads as it did. -/
def fnSumsUptoRow : OpenClaim := { program := "yteeokieokbibbaa", sum := "0277fe674d83b55f5f0f6d7ee2e07b4a9a67a998d6dab3ddcac447c7296d8920", func := "loop.example/g00322/laws.FnSums", spec := "fnSums", apart := false, narrowed := true }
def FnSumsUptoSaid : Prop := fnSumsUptoRow.holds Try.pinned (OpenSpec.upto fnSumsSpec)

/-- 'laws.FnExactFlip', WHERE WHAT IT READS IS OF BULK AT MOST 1048576: true; the input reads as it did. -/
def fnExactFlipUptoRow : OpenClaim := { program := "yteeokieokbibbaa", sum := "0277fe674d83b55f5f0f6d7ee2e07b4a9a67a998d6dab3ddcac447c7296d8920", func := "loop.example/g00322/laws.FnExactFlip", spec := "fnExactFlip", apart := false, narrowed := true }
def FnExactFlipUptoSaid : Prop := fnExactFlipUptoRow.holds Try.pinned (OpenSpec.upto fnExactFlipSpec)

/-- 'laws.FnOrder', WHERE WHAT IT READS IS OF BULK AT MOST 1048576: true; the input reads as it did. -/
def fnOrderUptoRow : OpenClaim := { program := "yteeokieokbibbaa", sum := "0277fe674d83b55f5f0f6d7ee2e07b4a9a67a998d6dab3ddcac447c7296d8920", func := "loop.example/g00322/laws.FnOrder", spec := "fnOrder", apart := false, narrowed := true }
def FnOrderUptoSaid : Prop := fnOrderUptoRow.holds Try.pinned (OpenSpec.upto fnOrderSpec)

/-- 'laws.FnExactPick', WHERE WHAT IT READS IS OF BULK AT MOST 1048576: true; the input reads as it did. -/
def fnExactPickUptoRow : OpenClaim := { program := "yteeokieokbibbaa", sum := "0277fe674d83b55f5f0f6d7ee2e07b4a9a67a998d6dab3ddcac447c7296d8920", func := "loop.example/g00322/laws.FnExactPick", spec := "fnExactPick", apart := false, narrowed := true }
def FnExactPickUptoSaid : Prop := fnExactPickUptoRow.holds Try.pinned (OpenSpec.upto fnExactPickSpec)

end Rows
end Go.Proofs.Yteeokieokbibbaa
