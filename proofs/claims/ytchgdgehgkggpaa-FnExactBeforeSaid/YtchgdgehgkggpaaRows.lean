/-
  No cell of these rows narrows 'for every input' (looked for: loops, veiled, ifaces, maps, wideKeys, modest, calm, conditions, laid).
  DERIVED. THE GIVEN ROWS OF THIS SEAT. 12 by the template 'for every input the law returns true; each argument reads behind the call as it read before'; 0 by the template 'total and deterministic' (their statements: YtchgdgehgkggpaaTotals.lean).
  GIVEN WITH THE SEED: the statements are not yours to turn. If you find one false, say at which input.
  Laid BY PROGRAM, IN A SANDBOX (cutbox-rows.mjs): the forced cells as the released guide's own fill.sh prints them over the translation 7a05fa9d1278aef7… (all of the seat's roots in one cut). By AI agents, Wed Nov 11 2026. No macro, syntax, notation, axiom, sorry.
-/
import Derived.Test.YtchgdgehgkggpaaChecked
import GoSem.Claim
import GoSem.ClaimJoined
import GoSem.ClaimMapViews
import Derived.JoinedTies
import Derived.KernelRfl
namespace Go.Proofs.Ytchgdgehgkggpaa
/- THE CELL 'sum', in the pinned program and in every row, IS THE sha256 OF THE DUMP (.gsa) THAT YtchgdgehgkggpaaProg.lean LOADS. Nothing in Lean hashes anything: it is a label: what it is worth is what the hold of that sum in a sandbox is worth. -/
noncomputable def Try.pinned : Pinned := { name := "ytchgdgehgkggpaa", sum := "7a05fa9d1278aef77181463cf5374b236650606e1ab0d99c726a7f2963ab93e5", checked := Try.checked }
namespace Rows
def none {H : Type} : Left H := { results := [], args := [] }

/-- 'laws.FnExactConstants': WHATEVER THE INPUT: true; the input reads as it did. -/
def fnExactConstantsSpec : ChangeSpec := { name := "fnExactConstants", fn := fun _ => fun
  | [] => { results := [.lit (.bool true)], args := [] }
  | _ => none }
def fnExactConstantsRow : OpenClaim := { program := "ytchgdgehgkggpaa", sum := "7a05fa9d1278aef77181463cf5374b236650606e1ab0d99c726a7f2963ab93e5", func := "loop.example/g00322/laws.FnExactConstants", spec := "fnExactConstants", apart := false }
def FnExactConstantsSaid : Prop := fnExactConstantsRow.holds Try.pinned (OpenSpec.ofChange fnExactConstantsSpec)

/-- ITS FALSE NEIGHBOUR: 'it returns false'. Refute it at one input. -/
def fnExactConstantsWrong : ChangeSpec := { name := "fnExactConstants", fn := fun _ => fun
  | [] => { results := [.lit (.bool false)], args := [] }
  | _ => none }
def FnExactConstantsWrongFalsely : Prop := fnExactConstantsRow.holds Try.pinned (OpenSpec.ofChange fnExactConstantsWrong)

/-- 'laws.FnExactPartOk': WHATEVER THE INPUT: true; the input reads as it did. -/
def fnExactPartOkSpec : ChangeSpec := { name := "fnExactPartOk", fn := fun _ => fun
  | [d] => { results := [.lit (.bool true)], args := [d] }
  | _ => none }
def fnExactPartOkRow : OpenClaim := { program := "ytchgdgehgkggpaa", sum := "7a05fa9d1278aef77181463cf5374b236650606e1ab0d99c726a7f2963ab93e5", func := "loop.example/g00322/laws.FnExactPartOk", spec := "fnExactPartOk", apart := false }
def FnExactPartOkSaid : Prop := fnExactPartOkRow.holds Try.pinned (OpenSpec.ofChange fnExactPartOkSpec)

/-- ITS FALSE NEIGHBOUR: 'it returns false'. Refute it at one input. -/
def fnExactPartOkWrong : ChangeSpec := { name := "fnExactPartOk", fn := fun _ => fun
  | [d] => { results := [.lit (.bool false)], args := [d] }
  | _ => none }
def FnExactPartOkWrongFalsely : Prop := fnExactPartOkRow.holds Try.pinned (OpenSpec.ofChange fnExactPartOkWrong)

/-- 'laws.FnExactSameVal': WHATEVER THE INPUT: true; the input reads as it did. -/
def fnExactSameValSpec : ChangeSpec := { name := "fnExactSameVal", fn := fun _ => fun
  | [d1, d2] => { results := [.lit (.bool true)], args := [d1, d2] }
  | _ => none }
def fnExactSameValRow : OpenClaim := { program := "ytchgdgehgkggpaa", sum := "7a05fa9d1278aef77181463cf5374b236650606e1ab0d99c726a7f2963ab93e5", func := "loop.example/g00322/laws.FnExactSameVal", spec := "fnExactSameVal", apart := false }
def FnExactSameValSaid : Prop := fnExactSameValRow.holds Try.pinned (OpenSpec.ofChange fnExactSameValSpec)

/-- ITS FALSE NEIGHBOUR: 'it returns false'. Refute it at one input. -/
def fnExactSameValWrong : ChangeSpec := { name := "fnExactSameVal", fn := fun _ => fun
  | [d1, d2] => { results := [.lit (.bool false)], args := [d1, d2] }
  | _ => none }
def FnExactSameValWrongFalsely : Prop := fnExactSameValRow.holds Try.pinned (OpenSpec.ofChange fnExactSameValWrong)

/-- 'laws.FnExactBefore': WHATEVER THE INPUT: true; the input reads as it did. -/
def fnExactBeforeSpec : ChangeSpec := { name := "fnExactBefore", fn := fun _ => fun
  | [d1, d2] => { results := [.lit (.bool true)], args := [d1, d2] }
  | _ => none }
def fnExactBeforeRow : OpenClaim := { program := "ytchgdgehgkggpaa", sum := "7a05fa9d1278aef77181463cf5374b236650606e1ab0d99c726a7f2963ab93e5", func := "loop.example/g00322/laws.FnExactBefore", spec := "fnExactBefore", apart := false }
def FnExactBeforeSaid : Prop := fnExactBeforeRow.holds Try.pinned (OpenSpec.ofChange fnExactBeforeSpec)

/-- ITS FALSE NEIGHBOUR: 'it returns false'. Refute it at one input. -/
def fnExactBeforeWrong : ChangeSpec := { name := "fnExactBefore", fn := fun _ => fun
  | [d1, d2] => { results := [.lit (.bool false)], args := [d1, d2] }
  | _ => none }
def FnExactBeforeWrongFalsely : Prop := fnExactBeforeRow.holds Try.pinned (OpenSpec.ofChange fnExactBeforeWrong)

/-- 'laws.FnExactLessVal': WHATEVER THE INPUT: true; the input reads as it did. -/
def fnExactLessValSpec : ChangeSpec := { name := "fnExactLessVal", fn := fun _ => fun
  | [d1, d2] => { results := [.lit (.bool true)], args := [d1, d2] }
  | _ => none }
def fnExactLessValRow : OpenClaim := { program := "ytchgdgehgkggpaa", sum := "7a05fa9d1278aef77181463cf5374b236650606e1ab0d99c726a7f2963ab93e5", func := "loop.example/g00322/laws.FnExactLessVal", spec := "fnExactLessVal", apart := false }
def FnExactLessValSaid : Prop := fnExactLessValRow.holds Try.pinned (OpenSpec.ofChange fnExactLessValSpec)

/-- ITS FALSE NEIGHBOUR: 'it returns false'. Refute it at one input. -/
def fnExactLessValWrong : ChangeSpec := { name := "fnExactLessVal", fn := fun _ => fun
  | [d1, d2] => { results := [.lit (.bool false)], args := [d1, d2] }
  | _ => none }
def FnExactLessValWrongFalsely : Prop := fnExactLessValRow.holds Try.pinned (OpenSpec.ofChange fnExactLessValWrong)

/-- 'laws.FnExactValOk': WHATEVER THE INPUT: true; the input reads as it did. -/
def fnExactValOkSpec : ChangeSpec := { name := "fnExactValOk", fn := fun _ => fun
  | [d] => { results := [.lit (.bool true)], args := [d] }
  | _ => none }
def fnExactValOkRow : OpenClaim := { program := "ytchgdgehgkggpaa", sum := "7a05fa9d1278aef77181463cf5374b236650606e1ab0d99c726a7f2963ab93e5", func := "loop.example/g00322/laws.FnExactValOk", spec := "fnExactValOk", apart := false }
def FnExactValOkSaid : Prop := fnExactValOkRow.holds Try.pinned (OpenSpec.ofChange fnExactValOkSpec)

/-- ITS FALSE NEIGHBOUR: 'it returns false'. Refute it at one input. -/
def fnExactValOkWrong : ChangeSpec := { name := "fnExactValOk", fn := fun _ => fun
  | [d] => { results := [.lit (.bool false)], args := [d] }
  | _ => none }
def FnExactValOkWrongFalsely : Prop := fnExactValOkRow.holds Try.pinned (OpenSpec.ofChange fnExactValOkWrong)

/-- 'laws.FnExactLessPart': WHATEVER THE INPUT: true; the input reads as it did. -/
def fnExactLessPartSpec : ChangeSpec := { name := "fnExactLessPart", fn := fun _ => fun
  | [d1, d2, d3] => { results := [.lit (.bool true)], args := [d1, d2, d3] }
  | _ => none }
def fnExactLessPartRow : OpenClaim := { program := "ytchgdgehgkggpaa", sum := "7a05fa9d1278aef77181463cf5374b236650606e1ab0d99c726a7f2963ab93e5", func := "loop.example/g00322/laws.FnExactLessPart", spec := "fnExactLessPart", apart := false }
def FnExactLessPartSaid : Prop := fnExactLessPartRow.holds Try.pinned (OpenSpec.ofChange fnExactLessPartSpec)

/-- ITS FALSE NEIGHBOUR: 'it returns false'. Refute it at one input. -/
def fnExactLessPartWrong : ChangeSpec := { name := "fnExactLessPart", fn := fun _ => fun
  | [d1, d2, d3] => { results := [.lit (.bool false)], args := [d1, d2, d3] }
  | _ => none }
def FnExactLessPartWrongFalsely : Prop := fnExactLessPartRow.holds Try.pinned (OpenSpec.ofChange fnExactLessPartWrong)

/-- 'laws.FnExactFits': WHATEVER THE INPUT: true; the input reads as it did. -/
def fnExactFitsSpec : ChangeSpec := { name := "fnExactFits", fn := fun _ => fun
  | [d1, d2] => { results := [.lit (.bool true)], args := [d1, d2] }
  | _ => none }
def fnExactFitsRow : OpenClaim := { program := "ytchgdgehgkggpaa", sum := "7a05fa9d1278aef77181463cf5374b236650606e1ab0d99c726a7f2963ab93e5", func := "loop.example/g00322/laws.FnExactFits", spec := "fnExactFits", apart := false }
def FnExactFitsSaid : Prop := fnExactFitsRow.holds Try.pinned (OpenSpec.ofChange fnExactFitsSpec)

/-- ITS FALSE NEIGHBOUR: 'it returns false'. Refute it at one input. -/
def fnExactFitsWrong : ChangeSpec := { name := "fnExactFits", fn := fun _ => fun
  | [d1, d2] => { results := [.lit (.bool false)], args := [d1, d2] }
  | _ => none }
def FnExactFitsWrongFalsely : Prop := fnExactFitsRow.holds Try.pinned (OpenSpec.ofChange fnExactFitsWrong)

/-- 'laws.FnExactPlanOk': WHATEVER THE INPUT: true; the input reads as it did. -/
def fnExactPlanOkSpec : ChangeSpec := { name := "fnExactPlanOk", fn := fun _ => fun
  | [d] => { results := [.lit (.bool true)], args := [d] }
  | _ => none }
def fnExactPlanOkRow : OpenClaim := { program := "ytchgdgehgkggpaa", sum := "7a05fa9d1278aef77181463cf5374b236650606e1ab0d99c726a7f2963ab93e5", func := "loop.example/g00322/laws.FnExactPlanOk", spec := "fnExactPlanOk", apart := false }
def FnExactPlanOkSaid : Prop := fnExactPlanOkRow.holds Try.pinned (OpenSpec.ofChange fnExactPlanOkSpec)

/-- ITS FALSE NEIGHBOUR: 'it returns false'. Refute it at one input. -/
def fnExactPlanOkWrong : ChangeSpec := { name := "fnExactPlanOk", fn := fun _ => fun
  | [d] => { results := [.lit (.bool false)], args := [d] }
  | _ => none }
def FnExactPlanOkWrongFalsely : Prop := fnExactPlanOkRow.holds Try.pinned (OpenSpec.ofChange fnExactPlanOkWrong)

/-- 'laws.FnExactFitsAll': WHATEVER THE INPUT: true; the input reads as it did. -/
def fnExactFitsAllSpec : ChangeSpec := { name := "fnExactFitsAll", fn := fun _ => fun
  | [d1, d2] => { results := [.lit (.bool true)], args := [d1, d2] }
  | _ => none }
def fnExactFitsAllRow : OpenClaim := { program := "ytchgdgehgkggpaa", sum := "7a05fa9d1278aef77181463cf5374b236650606e1ab0d99c726a7f2963ab93e5", func := "loop.example/g00322/laws.FnExactFitsAll", spec := "fnExactFitsAll", apart := false }
def FnExactFitsAllSaid : Prop := fnExactFitsAllRow.holds Try.pinned (OpenSpec.ofChange fnExactFitsAllSpec)

/-- ITS FALSE NEIGHBOUR: 'it returns false'. Refute it at one input. -/
def fnExactFitsAllWrong : ChangeSpec := { name := "fnExactFitsAll", fn := fun _ => fun
  | [d1, d2] => { results := [.lit (.bool false)], args := [d1, d2] }
  | _ => none }
def FnExactFitsAllWrongFalsely : Prop := fnExactFitsAllRow.holds Try.pinned (OpenSpec.ofChange fnExactFitsAllWrong)

/-- 'laws.FnExactSameRow': WHATEVER THE INPUT: true; the input reads as it did. -/
def fnExactSameRowSpec : ChangeSpec := { name := "fnExactSameRow", fn := fun _ => fun
  | [d1, d2] => { results := [.lit (.bool true)], args := [d1, d2] }
  | _ => none }
def fnExactSameRowRow : OpenClaim := { program := "ytchgdgehgkggpaa", sum := "7a05fa9d1278aef77181463cf5374b236650606e1ab0d99c726a7f2963ab93e5", func := "loop.example/g00322/laws.FnExactSameRow", spec := "fnExactSameRow", apart := false }
def FnExactSameRowSaid : Prop := fnExactSameRowRow.holds Try.pinned (OpenSpec.ofChange fnExactSameRowSpec)

/-- ITS FALSE NEIGHBOUR: 'it returns false'. Refute it at one input. -/
def fnExactSameRowWrong : ChangeSpec := { name := "fnExactSameRow", fn := fun _ => fun
  | [d1, d2] => { results := [.lit (.bool false)], args := [d1, d2] }
  | _ => none }
def FnExactSameRowWrongFalsely : Prop := fnExactSameRowRow.holds Try.pinned (OpenSpec.ofChange fnExactSameRowWrong)

/-- 'laws.FnExactLessKey': WHATEVER THE INPUT: true; the input reads as it did. -/
def fnExactLessKeySpec : ChangeSpec := { name := "fnExactLessKey", fn := fun _ => fun
  | [d1, d2, d3] => { results := [.lit (.bool true)], args := [d1, d2, d3] }
  | _ => none }
def fnExactLessKeyRow : OpenClaim := { program := "ytchgdgehgkggpaa", sum := "7a05fa9d1278aef77181463cf5374b236650606e1ab0d99c726a7f2963ab93e5", func := "loop.example/g00322/laws.FnExactLessKey", spec := "fnExactLessKey", apart := false }
def FnExactLessKeySaid : Prop := fnExactLessKeyRow.holds Try.pinned (OpenSpec.ofChange fnExactLessKeySpec)

/-- ITS FALSE NEIGHBOUR: 'it returns false'. Refute it at one input. -/
def fnExactLessKeyWrong : ChangeSpec := { name := "fnExactLessKey", fn := fun _ => fun
  | [d1, d2, d3] => { results := [.lit (.bool false)], args := [d1, d2, d3] }
  | _ => none }
def FnExactLessKeyWrongFalsely : Prop := fnExactLessKeyRow.holds Try.pinned (OpenSpec.ofChange fnExactLessKeyWrong)

/- THE SECOND FORM. 'bulk': how many values and letters a reading holds, each counted each time it is reached (what is shared counts as often as it is met; a slice's spare places count too). A statement '..UptoSaid' is the law's where the arguments, and the package variables that the reading takes, are together of bulk at most 1048576: NARROWER than '..Said'. Prove '..Said' where nothing that the law and all that it calls make is longer than what came in: it says more and counts as full. Else prove '..UptoSaid'. A law counts once. -/
mutual
def uptoBulk {H : Type} : DataW H → Nat
  | .lit (.string bytes) => bytes.length + 1
  | .lit _ => 1
  | .nil => 1
  | .ptr d => uptoBulk d + 1
  | .slice elems spare => uptoBulkAll elems + uptoBulkAll spare + 1
  | .agg parts => uptoBulkAll parts + 1
  | .iface _ d => uptoBulk d + 1
  | .map entries => uptoBulkEntries entries + 1
  | .held _ => 1
def uptoBulkAll {H : Type} : List (DataW H) → Nat
  | [] => 0
  | d :: r => uptoBulk d + uptoBulkAll r
def uptoBulkEntries {H : Type} : List (Lit × DataW H) → Nat
  | [] => 0
  | x :: r => uptoBulkEntry x + uptoBulkEntries r
def uptoBulkEntry {H : Type} : Lit × DataW H → Nat
  | (.string bytes, d) => bytes.length + uptoBulk d + 1
  | (_, d) => uptoBulk d + 1
 end
def uptoSmall : (H : Type) → List (DataW H) → Bool := fun _ ds => decide (uptoBulkAll ds ≤ 1048576)
def OpenSpec.upto (s : _root_.Go.ChangeSpec) : _root_.Go.OpenSpec := { _root_.Go.OpenSpec.ofChange s with cond := some uptoSmall }

/-- 'laws.FnExactConstants', WHERE WHAT IT READS IS OF BULK AT MOST 1048576: true; the input reads as it did. -/
def fnExactConstantsUptoRow : OpenClaim := { program := "ytchgdgehgkggpaa", sum := "7a05fa9d1278aef77181463cf5374b236650606e1ab0d99c726a7f2963ab93e5", func := "loop.example/g00322/laws.FnExactConstants", spec := "fnExactConstants", apart := false, narrowed := true }
def FnExactConstantsUptoSaid : Prop := fnExactConstantsUptoRow.holds Try.pinned (OpenSpec.upto fnExactConstantsSpec)

/-- 'laws.FnExactPartOk', WHERE WHAT IT READS IS OF BULK AT MOST 1048576: true; the input reads as it did. -/
def fnExactPartOkUptoRow : OpenClaim := { program := "ytchgdgehgkggpaa", sum := "7a05fa9d1278aef77181463cf5374b236650606e1ab0d99c726a7f2963ab93e5", func := "loop.example/g00322/laws.FnExactPartOk", spec := "fnExactPartOk", apart := false, narrowed := true }
def FnExactPartOkUptoSaid : Prop := fnExactPartOkUptoRow.holds Try.pinned (OpenSpec.upto fnExactPartOkSpec)

/-- 'laws.FnExactSameVal', WHERE WHAT IT READS IS OF BULK AT MOST 1048576: true; the input reads as it did. -/
def fnExactSameValUptoRow : OpenClaim := { program := "ytchgdgehgkggpaa", sum := "7a05fa9d1278aef77181463cf5374b236650606e1ab0d99c726a7f2963ab93e5", func := "loop.example/g00322/laws.FnExactSameVal", spec := "fnExactSameVal", apart := false, narrowed := true }
def FnExactSameValUptoSaid : Prop := fnExactSameValUptoRow.holds Try.pinned (OpenSpec.upto fnExactSameValSpec)

/-- 'laws.FnExactBefore', WHERE WHAT IT READS IS OF BULK AT MOST 1048576: true; the input reads as it did. -/
def fnExactBeforeUptoRow : OpenClaim := { program := "ytchgdgehgkggpaa", sum := "7a05fa9d1278aef77181463cf5374b236650606e1ab0d99c726a7f2963ab93e5", func := "loop.example/g00322/laws.FnExactBefore", spec := "fnExactBefore", apart := false, narrowed := true }
def FnExactBeforeUptoSaid : Prop := fnExactBeforeUptoRow.holds Try.pinned (OpenSpec.upto fnExactBeforeSpec)

/-- 'laws.FnExactLessVal', WHERE WHAT IT READS IS OF BULK AT MOST 1048576: true; the input reads as it did. -/
def fnExactLessValUptoRow : OpenClaim := { program := "ytchgdgehgkggpaa", sum := "7a05fa9d1278aef77181463cf5374b236650606e1ab0d99c726a7f2963ab93e5", func := "loop.example/g00322/laws.FnExactLessVal", spec := "fnExactLessVal", apart := false, narrowed := true }
def FnExactLessValUptoSaid : Prop := fnExactLessValUptoRow.holds Try.pinned (OpenSpec.upto fnExactLessValSpec)

/-- 'laws.FnExactValOk', WHERE WHAT IT READS IS OF BULK AT MOST 1048576: true; the input reads as it did. -/
def fnExactValOkUptoRow : OpenClaim := { program := "ytchgdgehgkggpaa", sum := "7a05fa9d1278aef77181463cf5374b236650606e1ab0d99c726a7f2963ab93e5", func := "loop.example/g00322/laws.FnExactValOk", spec := "fnExactValOk", apart := false, narrowed := true }
def FnExactValOkUptoSaid : Prop := fnExactValOkUptoRow.holds Try.pinned (OpenSpec.upto fnExactValOkSpec)

/-- 'laws.FnExactLessPart', WHERE WHAT IT READS IS OF BULK AT MOST 1048576: true; the input reads as it did. -/
def fnExactLessPartUptoRow : OpenClaim := { program := "ytchgdgehgkggpaa", sum := "7a05fa9d1278aef77181463cf5374b236650606e1ab0d99c726a7f2963ab93e5", func := "loop.example/g00322/laws.FnExactLessPart", spec := "fnExactLessPart", apart := false, narrowed := true }
def FnExactLessPartUptoSaid : Prop := fnExactLessPartUptoRow.holds Try.pinned (OpenSpec.upto fnExactLessPartSpec)

/-- 'laws.FnExactFits', WHERE WHAT IT READS IS OF BULK AT MOST 1048576: true; the input reads as it did. -/
def fnExactFitsUptoRow : OpenClaim := { program := "ytchgdgehgkggpaa", sum := "7a05fa9d1278aef77181463cf5374b236650606e1ab0d99c726a7f2963ab93e5", func := "loop.example/g00322/laws.FnExactFits", spec := "fnExactFits", apart := false, narrowed := true }
def FnExactFitsUptoSaid : Prop := fnExactFitsUptoRow.holds Try.pinned (OpenSpec.upto fnExactFitsSpec)

/-- 'laws.FnExactPlanOk', WHERE WHAT IT READS IS OF BULK AT MOST 1048576: true; the input reads as it did. -/
def fnExactPlanOkUptoRow : OpenClaim := { program := "ytchgdgehgkggpaa", sum := "7a05fa9d1278aef77181463cf5374b236650606e1ab0d99c726a7f2963ab93e5", func := "loop.example/g00322/laws.FnExactPlanOk", spec := "fnExactPlanOk", apart := false, narrowed := true }
def FnExactPlanOkUptoSaid : Prop := fnExactPlanOkUptoRow.holds Try.pinned (OpenSpec.upto fnExactPlanOkSpec)

/-- 'laws.FnExactFitsAll', WHERE WHAT IT READS IS OF BULK AT MOST 1048576: true; the input reads as it did. -/
def fnExactFitsAllUptoRow : OpenClaim := { program := "ytchgdgehgkggpaa", sum := "7a05fa9d1278aef77181463cf5374b236650606e1ab0d99c726a7f2963ab93e5", func := "loop.example/g00322/laws.FnExactFitsAll", spec := "fnExactFitsAll", apart := false, narrowed := true }
def FnExactFitsAllUptoSaid : Prop := fnExactFitsAllUptoRow.holds Try.pinned (OpenSpec.upto fnExactFitsAllSpec)

/-- 'laws.FnExactSameRow', WHERE WHAT IT READS IS OF BULK AT MOST 1048576: true; the input reads as it did. -/
def fnExactSameRowUptoRow : OpenClaim := { program := "ytchgdgehgkggpaa", sum := "7a05fa9d1278aef77181463cf5374b236650606e1ab0d99c726a7f2963ab93e5", func := "loop.example/g00322/laws.FnExactSameRow", spec := "fnExactSameRow", apart := false, narrowed := true }
def FnExactSameRowUptoSaid : Prop := fnExactSameRowUptoRow.holds Try.pinned (OpenSpec.upto fnExactSameRowSpec)

/-- 'laws.FnExactLessKey', WHERE WHAT IT READS IS OF BULK AT MOST 1048576: true; the input reads as it did. -/
def fnExactLessKeyUptoRow : OpenClaim := { program := "ytchgdgehgkggpaa", sum := "7a05fa9d1278aef77181463cf5374b236650606e1ab0d99c726a7f2963ab93e5", func := "loop.example/g00322/laws.FnExactLessKey", spec := "fnExactLessKey", apart := false, narrowed := true }
def FnExactLessKeyUptoSaid : Prop := fnExactLessKeyUptoRow.holds Try.pinned (OpenSpec.upto fnExactLessKeySpec)

end Rows
end Go.Proofs.Ytchgdgehgkggpaa
