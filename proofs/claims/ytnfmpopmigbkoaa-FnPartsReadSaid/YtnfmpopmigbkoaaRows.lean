/-
  No cell of these rows narrows 'for every input' (looked for: loops, veiled, ifaces, maps, wideKeys, modest, calm, conditions, laid).
  DERIVED. THE GIVEN ROWS OF THIS SEAT. 10 by the template 'for every input the law returns true; each argument reads behind the call as it read before'; 0 by the template 'total and deterministic' (their statements: YtnfmpopmigbkoaaTotals.lean).
  GIVEN WITH THE SEED: the statements are not yours to turn. If you find one false, say at which input.
  Laid BY PROGRAM, IN A SANDBOX (cutbox-rows.mjs): the forced cells as the released guide's own fill.sh prints them over the translation 7afb32bc6918f24a… (all of the seat's roots in one cut). By AI agents, Wed Nov 11 2026. No macro, syntax, notation, axiom, sorry.
-/
import Derived.Test.YtnfmpopmigbkoaaChecked
import GoSem.Claim
import GoSem.ClaimJoined
import GoSem.ClaimMapViews
import Derived.JoinedTies
import Derived.KernelRfl
namespace Go.Proofs.Ytnfmpopmigbkoaa
/- THE CELL 'sum', in the pinned program and in every row, IS THE sha256 OF THE DUMP (.gsa) THAT YtnfmpopmigbkoaaProg.lean LOADS. Nothing in Lean hashes anything: it is a label: what it is worth is what the hold of that sum in a sandbox is worth. -/
noncomputable def Try.pinned : Pinned := { name := "ytnfmpopmigbkoaa", sum := "7afb32bc6918f24afc8931dc08b009dbefc273baf9523e49b44f26ea2fb05753", checked := Try.checked }
namespace Rows
def none {H : Type} : Left H := { results := [], args := [] }

/-- 'laws.FnExactPutPart': WHATEVER THE INPUT: true; the input reads as it did. -/
def fnExactPutPartSpec : ChangeSpec := { name := "fnExactPutPart", fn := fun _ => fun
  | [d1, d2, d3] => { results := [.lit (.bool true)], args := [d1, d2, d3] }
  | _ => none }
def fnExactPutPartRow : OpenClaim := { program := "ytnfmpopmigbkoaa", sum := "7afb32bc6918f24afc8931dc08b009dbefc273baf9523e49b44f26ea2fb05753", func := "loop.example/g00322/laws.FnExactPutPart", spec := "fnExactPutPart", apart := false }
def FnExactPutPartSaid : Prop := fnExactPutPartRow.holds Try.pinned (OpenSpec.ofChange fnExactPutPartSpec)

/-- ITS FALSE NEIGHBOUR: 'it returns false'. Refute it at one input. -/
def fnExactPutPartWrong : ChangeSpec := { name := "fnExactPutPart", fn := fun _ => fun
  | [d1, d2, d3] => { results := [.lit (.bool false)], args := [d1, d2, d3] }
  | _ => none }
def FnExactPutPartWrongFalsely : Prop := fnExactPutPartRow.holds Try.pinned (OpenSpec.ofChange fnExactPutPartWrong)

/-- 'laws.FnExactGetPart': WHATEVER THE INPUT: true; the input reads as it did. -/
def fnExactGetPartSpec : ChangeSpec := { name := "fnExactGetPart", fn := fun _ => fun
  | [d1, d2, d3] => { results := [.lit (.bool true)], args := [d1, d2, d3] }
  | _ => none }
def fnExactGetPartRow : OpenClaim := { program := "ytnfmpopmigbkoaa", sum := "7afb32bc6918f24afc8931dc08b009dbefc273baf9523e49b44f26ea2fb05753", func := "loop.example/g00322/laws.FnExactGetPart", spec := "fnExactGetPart", apart := false }
def FnExactGetPartSaid : Prop := fnExactGetPartRow.holds Try.pinned (OpenSpec.ofChange fnExactGetPartSpec)

/-- ITS FALSE NEIGHBOUR: 'it returns false'. Refute it at one input. -/
def fnExactGetPartWrong : ChangeSpec := { name := "fnExactGetPart", fn := fun _ => fun
  | [d1, d2, d3] => { results := [.lit (.bool false)], args := [d1, d2, d3] }
  | _ => none }
def FnExactGetPartWrongFalsely : Prop := fnExactGetPartRow.holds Try.pinned (OpenSpec.ofChange fnExactGetPartWrong)

/-- 'laws.FnParts': WHATEVER THE INPUT: true; the input reads as it did. -/
def fnPartsSpec : ChangeSpec := { name := "fnParts", fn := fun _ => fun
  | [d] => { results := [.lit (.bool true)], args := [d] }
  | _ => none }
def fnPartsRow : OpenClaim := { program := "ytnfmpopmigbkoaa", sum := "7afb32bc6918f24afc8931dc08b009dbefc273baf9523e49b44f26ea2fb05753", func := "loop.example/g00322/laws.FnParts", spec := "fnParts", apart := false }
def FnPartsSaid : Prop := fnPartsRow.holds Try.pinned (OpenSpec.ofChange fnPartsSpec)

/-- ITS FALSE NEIGHBOUR: 'it returns false'. Refute it at one input. -/
def fnPartsWrong : ChangeSpec := { name := "fnParts", fn := fun _ => fun
  | [d] => { results := [.lit (.bool false)], args := [d] }
  | _ => none }
def FnPartsWrongFalsely : Prop := fnPartsRow.holds Try.pinned (OpenSpec.ofChange fnPartsWrong)

/-- 'laws.FnPartsRead': WHATEVER THE INPUT: true; the input reads as it did. -/
def fnPartsReadSpec : ChangeSpec := { name := "fnPartsRead", fn := fun _ => fun
  | [d] => { results := [.lit (.bool true)], args := [d] }
  | _ => none }
def fnPartsReadRow : OpenClaim := { program := "ytnfmpopmigbkoaa", sum := "7afb32bc6918f24afc8931dc08b009dbefc273baf9523e49b44f26ea2fb05753", func := "loop.example/g00322/laws.FnPartsRead", spec := "fnPartsRead", apart := false }
def FnPartsReadSaid : Prop := fnPartsReadRow.holds Try.pinned (OpenSpec.ofChange fnPartsReadSpec)

/-- ITS FALSE NEIGHBOUR: 'it returns false'. Refute it at one input. -/
def fnPartsReadWrong : ChangeSpec := { name := "fnPartsRead", fn := fun _ => fun
  | [d] => { results := [.lit (.bool false)], args := [d] }
  | _ => none }
def FnPartsReadWrongFalsely : Prop := fnPartsReadRow.holds Try.pinned (OpenSpec.ofChange fnPartsReadWrong)

/-- 'laws.FnExactEncodeKey': WHATEVER THE INPUT: true; the input reads as it did. -/
def fnExactEncodeKeySpec : ChangeSpec := { name := "fnExactEncodeKey", fn := fun _ => fun
  | [d1, d2] => { results := [.lit (.bool true)], args := [d1, d2] }
  | _ => none }
def fnExactEncodeKeyRow : OpenClaim := { program := "ytnfmpopmigbkoaa", sum := "7afb32bc6918f24afc8931dc08b009dbefc273baf9523e49b44f26ea2fb05753", func := "loop.example/g00322/laws.FnExactEncodeKey", spec := "fnExactEncodeKey", apart := false }
def FnExactEncodeKeySaid : Prop := fnExactEncodeKeyRow.holds Try.pinned (OpenSpec.ofChange fnExactEncodeKeySpec)

/-- ITS FALSE NEIGHBOUR: 'it returns false'. Refute it at one input. -/
def fnExactEncodeKeyWrong : ChangeSpec := { name := "fnExactEncodeKey", fn := fun _ => fun
  | [d1, d2] => { results := [.lit (.bool false)], args := [d1, d2] }
  | _ => none }
def FnExactEncodeKeyWrongFalsely : Prop := fnExactEncodeKeyRow.holds Try.pinned (OpenSpec.ofChange fnExactEncodeKeyWrong)

/-- 'laws.FnExactDecodeKey': WHATEVER THE INPUT: true; the input reads as it did. -/
def fnExactDecodeKeySpec : ChangeSpec := { name := "fnExactDecodeKey", fn := fun _ => fun
  | [d1, d2] => { results := [.lit (.bool true)], args := [d1, d2] }
  | _ => none }
def fnExactDecodeKeyRow : OpenClaim := { program := "ytnfmpopmigbkoaa", sum := "7afb32bc6918f24afc8931dc08b009dbefc273baf9523e49b44f26ea2fb05753", func := "loop.example/g00322/laws.FnExactDecodeKey", spec := "fnExactDecodeKey", apart := false }
def FnExactDecodeKeySaid : Prop := fnExactDecodeKeyRow.holds Try.pinned (OpenSpec.ofChange fnExactDecodeKeySpec)

/-- ITS FALSE NEIGHBOUR: 'it returns false'. Refute it at one input. -/
def fnExactDecodeKeyWrong : ChangeSpec := { name := "fnExactDecodeKey", fn := fun _ => fun
  | [d1, d2] => { results := [.lit (.bool false)], args := [d1, d2] }
  | _ => none }
def FnExactDecodeKeyWrongFalsely : Prop := fnExactDecodeKeyRow.holds Try.pinned (OpenSpec.ofChange fnExactDecodeKeyWrong)

/-- 'laws.FnKeys': WHATEVER THE INPUT: true; the input reads as it did. -/
def fnKeysSpec : ChangeSpec := { name := "fnKeys", fn := fun _ => fun
  | [d] => { results := [.lit (.bool true)], args := [d] }
  | _ => none }
def fnKeysRow : OpenClaim := { program := "ytnfmpopmigbkoaa", sum := "7afb32bc6918f24afc8931dc08b009dbefc273baf9523e49b44f26ea2fb05753", func := "loop.example/g00322/laws.FnKeys", spec := "fnKeys", apart := false }
def FnKeysSaid : Prop := fnKeysRow.holds Try.pinned (OpenSpec.ofChange fnKeysSpec)

/-- ITS FALSE NEIGHBOUR: 'it returns false'. Refute it at one input. -/
def fnKeysWrong : ChangeSpec := { name := "fnKeys", fn := fun _ => fun
  | [d] => { results := [.lit (.bool false)], args := [d] }
  | _ => none }
def FnKeysWrongFalsely : Prop := fnKeysRow.holds Try.pinned (OpenSpec.ofChange fnKeysWrong)

/-- 'laws.FnBeginnings': WHATEVER THE INPUT: true; the input reads as it did. -/
def fnBeginningsSpec : ChangeSpec := { name := "fnBeginnings", fn := fun _ => fun
  | [d] => { results := [.lit (.bool true)], args := [d] }
  | _ => none }
def fnBeginningsRow : OpenClaim := { program := "ytnfmpopmigbkoaa", sum := "7afb32bc6918f24afc8931dc08b009dbefc273baf9523e49b44f26ea2fb05753", func := "loop.example/g00322/laws.FnBeginnings", spec := "fnBeginnings", apart := false }
def FnBeginningsSaid : Prop := fnBeginningsRow.holds Try.pinned (OpenSpec.ofChange fnBeginningsSpec)

/-- ITS FALSE NEIGHBOUR: 'it returns false'. Refute it at one input. -/
def fnBeginningsWrong : ChangeSpec := { name := "fnBeginnings", fn := fun _ => fun
  | [d] => { results := [.lit (.bool false)], args := [d] }
  | _ => none }
def FnBeginningsWrongFalsely : Prop := fnBeginningsRow.holds Try.pinned (OpenSpec.ofChange fnBeginningsWrong)

/-- 'laws.FnLessKeys': WHATEVER THE INPUT: true; the input reads as it did. -/
def fnLessKeysSpec : ChangeSpec := { name := "fnLessKeys", fn := fun _ => fun
  | [d] => { results := [.lit (.bool true)], args := [d] }
  | _ => none }
def fnLessKeysRow : OpenClaim := { program := "ytnfmpopmigbkoaa", sum := "7afb32bc6918f24afc8931dc08b009dbefc273baf9523e49b44f26ea2fb05753", func := "loop.example/g00322/laws.FnLessKeys", spec := "fnLessKeys", apart := false }
def FnLessKeysSaid : Prop := fnLessKeysRow.holds Try.pinned (OpenSpec.ofChange fnLessKeysSpec)

/-- ITS FALSE NEIGHBOUR: 'it returns false'. Refute it at one input. -/
def fnLessKeysWrong : ChangeSpec := { name := "fnLessKeys", fn := fun _ => fun
  | [d] => { results := [.lit (.bool false)], args := [d] }
  | _ => none }
def FnLessKeysWrongFalsely : Prop := fnLessKeysRow.holds Try.pinned (OpenSpec.ofChange fnLessKeysWrong)

/-- 'laws.FnKeysRead': WHATEVER THE INPUT: true; the input reads as it did. -/
def fnKeysReadSpec : ChangeSpec := { name := "fnKeysRead", fn := fun _ => fun
  | [d] => { results := [.lit (.bool true)], args := [d] }
  | _ => none }
def fnKeysReadRow : OpenClaim := { program := "ytnfmpopmigbkoaa", sum := "7afb32bc6918f24afc8931dc08b009dbefc273baf9523e49b44f26ea2fb05753", func := "loop.example/g00322/laws.FnKeysRead", spec := "fnKeysRead", apart := false }
def FnKeysReadSaid : Prop := fnKeysReadRow.holds Try.pinned (OpenSpec.ofChange fnKeysReadSpec)

/-- ITS FALSE NEIGHBOUR: 'it returns false'. Refute it at one input. -/
def fnKeysReadWrong : ChangeSpec := { name := "fnKeysRead", fn := fun _ => fun
  | [d] => { results := [.lit (.bool false)], args := [d] }
  | _ => none }
def FnKeysReadWrongFalsely : Prop := fnKeysReadRow.holds Try.pinned (OpenSpec.ofChange fnKeysReadWrong)

/- THE SECOND FORM. 'bulk': how many values and letters a reading holds, each counted each time it is reached (what is shared counts as often as it is met; a slice's spare places count too). A statement '..UptoSaid' is the law's where the arguments, and the package variables that the reading takes, are together of bulk at most 1048576: NARROWER than '..Said'. Prove '..Said' where nothing that the law and all that it calls make is longer than what came in: it says more and counts as full. Else prove '..UptoSaid'. A law counts once. -/
mutual
def uptoBulk {H : Type} : DataW H → Nat
  | .lit (.string bytes) => bytes.length + 1
  | .lit _ => 1
  | .nil => 1
  | .ptr d => uptoBulk d + 1
  | .slice elems spare => uptoBulkAll elems + uptoBulkAll spare + 1
  | .agg parts => uptoBulkAll parts + 1
  | .iface _ d => uptoBulk d + 1
  | .map entries => uptoBulkEntries entries + 1
  | .held _ => 1
def uptoBulkAll {H : Type} : List (DataW H) → Nat
  | [] => 0
  | d :: r => uptoBulk d + uptoBulkAll r
def uptoBulkEntries {H : Type} : List (Lit × DataW H) → Nat
  | [] => 0
  | x :: r => uptoBulkEntry x + uptoBulkEntries r
def uptoBulkEntry {H : Type} : Lit × DataW H → Nat
  | (.string bytes, d) => bytes.length + uptoBulk d + 1
  | (_, d) => uptoBulk d + 1
 end
def uptoSmall : (H : Type) → List (DataW H) → Bool := fun _ ds => decide (uptoBulkAll ds ≤ 1048576)
def OpenSpec.upto (s : _root_.Go.ChangeSpec) : _root_.Go.OpenSpec := { _root_.Go.OpenSpec.ofChange s with cond := some uptoSmall }

/-- 'laws.FnExactPutPart', WHERE WHAT IT READS IS OF BULK AT MOST 1048576: true; the input reads as it did. -/
def fnExactPutPartUptoRow : OpenClaim := { program := "ytnfmpopmigbkoaa", sum := "7afb32bc6918f24afc8931dc08b009dbefc273baf9523e49b44f26ea2fb05753", func := "loop.example/g00322/laws.FnExactPutPart", spec := "fnExactPutPart", apart := false, narrowed := true }
def FnExactPutPartUptoSaid : Prop := fnExactPutPartUptoRow.holds Try.pinned (OpenSpec.upto fnExactPutPartSpec)

/-- 'laws.FnExactGetPart', WHERE WHAT IT READS IS OF BULK AT MOST 1048576: true; the input reads as it did. -/
def fnExactGetPartUptoRow : OpenClaim := { program := "ytnfmpopmigbkoaa", sum := "7afb32bc6918f24afc8931dc08b009dbefc273baf9523e49b44f26ea2fb05753", func := "loop.example/g00322/laws.FnExactGetPart", spec := "fnExactGetPart", apart := false, narrowed := true }
def FnExactGetPartUptoSaid : Prop := fnExactGetPartUptoRow.holds Try.pinned (OpenSpec.upto fnExactGetPartSpec)

/-- 'laws.FnParts', WHERE WHAT IT READS IS OF BULK AT MOST 1048576: true; the input reads as it did. -/
def fnPartsUptoRow : OpenClaim := { program := "ytnfmpopmigbkoaa", sum := "7afb32bc6918f24afc8931dc08b009dbefc273baf9523e49b44f26ea2fb05753", func := "loop.example/g00322/laws.FnParts", spec := "fnParts", apart := false, narrowed := true }
def FnPartsUptoSaid : Prop := fnPartsUptoRow.holds Try.pinned (OpenSpec.upto fnPartsSpec)

/-- 'laws.FnPartsRead', WHERE WHAT IT READS IS OF BULK AT MOST 1048576: true; the input reads as it did. -/
def fnPartsReadUptoRow : OpenClaim := { program := "ytnfmpopmigbkoaa", sum := "7afb32bc6918f24afc8931dc08b009dbefc273baf9523e49b44f26ea2fb05753", func := "loop.example/g00322/laws.FnPartsRead", spec := "fnPartsRead", apart := false, narrowed := true }
def FnPartsReadUptoSaid : Prop := fnPartsReadUptoRow.holds Try.pinned (OpenSpec.upto fnPartsReadSpec)

/-- 'laws.FnExactEncodeKey', WHERE WHAT IT READS IS OF BULK AT MOST 1048576: true; the input reads as it did. -/
def fnExactEncodeKeyUptoRow : OpenClaim := { program := "ytnfmpopmigbkoaa", sum := "7afb32bc6918f24afc8931dc08b009dbefc273baf9523e49b44f26ea2fb05753", func := "loop.example/g00322/laws.FnExactEncodeKey", spec := "fnExactEncodeKey", apart := false, narrowed := true }
def FnExactEncodeKeyUptoSaid : Prop := fnExactEncodeKeyUptoRow.holds Try.pinned (OpenSpec.upto fnExactEncodeKeySpec)

/-- 'laws.FnExactDecodeKey', WHERE WHAT IT READS IS OF BULK AT MOST 1048576: true; the input reads as it did. -/
def fnExactDecodeKeyUptoRow : OpenClaim := { program := "ytnfmpopmigbkoaa", sum := "7afb32bc6918f24afc8931dc08b009dbefc273baf9523e49b44f26ea2fb05753", func := "loop.example/g00322/laws.FnExactDecodeKey", spec := "fnExactDecodeKey", apart := false, narrowed := true }
def FnExactDecodeKeyUptoSaid : Prop := fnExactDecodeKeyUptoRow.holds Try.pinned (OpenSpec.upto fnExactDecodeKeySpec)

/-- 'laws.FnKeys', WHERE WHAT IT READS IS OF BULK AT MOST 1048576: true; the input reads as it did. -/
def fnKeysUptoRow : OpenClaim := { program := "ytnfmpopmigbkoaa", sum := "7afb32bc6918f24afc8931dc08b009dbefc273baf9523e49b44f26ea2fb05753", func := "loop.example/g00322/laws.FnKeys", spec := "fnKeys", apart := false, narrowed := true }
def FnKeysUptoSaid : Prop := fnKeysUptoRow.holds Try.pinned (OpenSpec.upto fnKeysSpec)

/-- 'laws.FnBeginnings', WHERE WHAT IT READS IS OF BULK AT MOST 1048576: true; the input reads as it did. -/
def fnBeginningsUptoRow : OpenClaim := { program := "ytnfmpopmigbkoaa", sum := "7afb32bc6918f24afc8931dc08b009dbefc273baf9523e49b44f26ea2fb05753", func := "loop.example/g00322/laws.FnBeginnings", spec := "fnBeginnings", apart := false, narrowed := true }
def FnBeginningsUptoSaid : Prop := fnBeginningsUptoRow.holds Try.pinned (OpenSpec.upto fnBeginningsSpec)

/-- 'laws.FnLessKeys', WHERE WHAT IT READS IS OF BULK AT MOST 1048576: true; the input reads as it did. -/
def fnLessKeysUptoRow : OpenClaim := { program := "ytnfmpopmigbkoaa", sum := "7afb32bc6918f24afc8931dc08b009dbefc273baf9523e49b44f26ea2fb05753", func := "loop.example/g00322/laws.FnLessKeys", spec := "fnLessKeys", apart := false, narrowed := true }
def FnLessKeysUptoSaid : Prop := fnLessKeysUptoRow.holds Try.pinned (OpenSpec.upto fnLessKeysSpec)

/-- 'laws.FnKeysRead', WHERE WHAT IT READS IS OF BULK AT MOST 1048576: true; the input reads as it did. -/
def fnKeysReadUptoRow : OpenClaim := { program := "ytnfmpopmigbkoaa", sum := "7afb32bc6918f24afc8931dc08b009dbefc273baf9523e49b44f26ea2fb05753", func := "loop.example/g00322/laws.FnKeysRead", spec := "fnKeysRead", apart := false, narrowed := true }
def FnKeysReadUptoSaid : Prop := fnKeysReadUptoRow.holds Try.pinned (OpenSpec.upto fnKeysReadSpec)

end Rows
end Go.Proofs.Ytnfmpopmigbkoaa
