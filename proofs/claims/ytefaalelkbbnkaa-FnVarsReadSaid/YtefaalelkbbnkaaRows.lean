/-
  No cell of these rows narrows 'for every input' (looked for: loops, veiled, ifaces, maps, wideKeys, modest, calm, conditions, laid).
  DERIVED. THE GIVEN ROWS OF THIS SEAT. 11 by the template 'for every input the law returns true; each argument reads behind the call as it read before'; 0 by the template 'total and deterministic' (their statements: YtefaalelkbbnkaaTotals.lean).
  GIVEN WITH THE SEED: the statements are not yours to turn. If you find one false, say at which input.
  Laid BY PROGRAM, IN A SANDBOX (cutbox-rows.mjs): the forced cells as the released guide's own fill.sh prints them over the translation a283d5d6c1156948… (all of the seat's roots in one cut). By AI agents, Wed Nov 11 2026. No macro, syntax, notation, axiom, sorry.
-/
import Derived.Test.YtefaalelkbbnkaaChecked
import GoSem.Claim
import GoSem.ClaimJoined
import GoSem.ClaimMapViews
import Derived.JoinedTies
import Derived.KernelRfl
namespace Go.Proofs.Ytefaalelkbbnkaa
/- THE CELL 'sum', in the pinned program and in every row, IS THE sha256 OF THE DUMP (.gsa) THAT YtefaalelkbbnkaaProg.lean LOADS. Nothing in Lean hashes anything: it is a label: what it is worth is what the hold of that sum in a sandbox is worth. -/
noncomputable def Try.pinned : Pinned := { name := "ytefaalelkbbnkaa", sum := "a283d5d6c1156948c9f8b84636410bf42ece0ca82ce18d96ecd2f38f7bf3a0d8", checked := Try.checked }
namespace Rows
def none {H : Type} : Left H := { results := [], args := [] }

/-- 'laws.FnExactPutEsc': WHATEVER THE INPUT: true; the input reads as it did. -/
def fnExactPutEscSpec : ChangeSpec := { name := "fnExactPutEsc", fn := fun _ => fun
  | [d1, d2] => { results := [.lit (.bool true)], args := [d1, d2] }
  | _ => none }
def fnExactPutEscRow : OpenClaim := { program := "ytefaalelkbbnkaa", sum := "a283d5d6c1156948c9f8b84636410bf42ece0ca82ce18d96ecd2f38f7bf3a0d8", func := "loop.example/g00322/laws.FnExactPutEsc", spec := "fnExactPutEsc", apart := false }
def FnExactPutEscSaid : Prop := fnExactPutEscRow.holds Try.pinned (OpenSpec.ofChange fnExactPutEscSpec)

/-- ITS FALSE NEIGHBOUR: 'it returns false'. Refute it at one input. -/
def fnExactPutEscWrong : ChangeSpec := { name := "fnExactPutEsc", fn := fun _ => fun
  | [d1, d2] => { results := [.lit (.bool false)], args := [d1, d2] }
  | _ => none }
def FnExactPutEscWrongFalsely : Prop := fnExactPutEscRow.holds Try.pinned (OpenSpec.ofChange fnExactPutEscWrong)

/-- 'laws.FnExactGetEsc': WHATEVER THE INPUT: true; the input reads as it did. -/
def fnExactGetEscSpec : ChangeSpec := { name := "fnExactGetEsc", fn := fun _ => fun
  | [d1, d2] => { results := [.lit (.bool true)], args := [d1, d2] }
  | _ => none }
def fnExactGetEscRow : OpenClaim := { program := "ytefaalelkbbnkaa", sum := "a283d5d6c1156948c9f8b84636410bf42ece0ca82ce18d96ecd2f38f7bf3a0d8", func := "loop.example/g00322/laws.FnExactGetEsc", spec := "fnExactGetEsc", apart := false }
def FnExactGetEscSaid : Prop := fnExactGetEscRow.holds Try.pinned (OpenSpec.ofChange fnExactGetEscSpec)

/-- ITS FALSE NEIGHBOUR: 'it returns false'. Refute it at one input. -/
def fnExactGetEscWrong : ChangeSpec := { name := "fnExactGetEsc", fn := fun _ => fun
  | [d1, d2] => { results := [.lit (.bool false)], args := [d1, d2] }
  | _ => none }
def FnExactGetEscWrongFalsely : Prop := fnExactGetEscRow.holds Try.pinned (OpenSpec.ofChange fnExactGetEscWrong)

/-- 'laws.FnExactPutFix': WHATEVER THE INPUT: true; the input reads as it did. -/
def fnExactPutFixSpec : ChangeSpec := { name := "fnExactPutFix", fn := fun _ => fun
  | [d1, d2] => { results := [.lit (.bool true)], args := [d1, d2] }
  | _ => none }
def fnExactPutFixRow : OpenClaim := { program := "ytefaalelkbbnkaa", sum := "a283d5d6c1156948c9f8b84636410bf42ece0ca82ce18d96ecd2f38f7bf3a0d8", func := "loop.example/g00322/laws.FnExactPutFix", spec := "fnExactPutFix", apart := false }
def FnExactPutFixSaid : Prop := fnExactPutFixRow.holds Try.pinned (OpenSpec.ofChange fnExactPutFixSpec)

/-- ITS FALSE NEIGHBOUR: 'it returns false'. Refute it at one input. -/
def fnExactPutFixWrong : ChangeSpec := { name := "fnExactPutFix", fn := fun _ => fun
  | [d1, d2] => { results := [.lit (.bool false)], args := [d1, d2] }
  | _ => none }
def FnExactPutFixWrongFalsely : Prop := fnExactPutFixRow.holds Try.pinned (OpenSpec.ofChange fnExactPutFixWrong)

/-- 'laws.FnExactGetFix': WHATEVER THE INPUT: true; the input reads as it did. -/
def fnExactGetFixSpec : ChangeSpec := { name := "fnExactGetFix", fn := fun _ => fun
  | [d1, d2] => { results := [.lit (.bool true)], args := [d1, d2] }
  | _ => none }
def fnExactGetFixRow : OpenClaim := { program := "ytefaalelkbbnkaa", sum := "a283d5d6c1156948c9f8b84636410bf42ece0ca82ce18d96ecd2f38f7bf3a0d8", func := "loop.example/g00322/laws.FnExactGetFix", spec := "fnExactGetFix", apart := false }
def FnExactGetFixSaid : Prop := fnExactGetFixRow.holds Try.pinned (OpenSpec.ofChange fnExactGetFixSpec)

/-- ITS FALSE NEIGHBOUR: 'it returns false'. Refute it at one input. -/
def fnExactGetFixWrong : ChangeSpec := { name := "fnExactGetFix", fn := fun _ => fun
  | [d1, d2] => { results := [.lit (.bool false)], args := [d1, d2] }
  | _ => none }
def FnExactGetFixWrongFalsely : Prop := fnExactGetFixRow.holds Try.pinned (OpenSpec.ofChange fnExactGetFixWrong)

/-- 'laws.FnExactPutVar': WHATEVER THE INPUT: true; the input reads as it did. -/
def fnExactPutVarSpec : ChangeSpec := { name := "fnExactPutVar", fn := fun _ => fun
  | [d1, d2] => { results := [.lit (.bool true)], args := [d1, d2] }
  | _ => none }
def fnExactPutVarRow : OpenClaim := { program := "ytefaalelkbbnkaa", sum := "a283d5d6c1156948c9f8b84636410bf42ece0ca82ce18d96ecd2f38f7bf3a0d8", func := "loop.example/g00322/laws.FnExactPutVar", spec := "fnExactPutVar", apart := false }
def FnExactPutVarSaid : Prop := fnExactPutVarRow.holds Try.pinned (OpenSpec.ofChange fnExactPutVarSpec)

/-- ITS FALSE NEIGHBOUR: 'it returns false'. Refute it at one input. -/
def fnExactPutVarWrong : ChangeSpec := { name := "fnExactPutVar", fn := fun _ => fun
  | [d1, d2] => { results := [.lit (.bool false)], args := [d1, d2] }
  | _ => none }
def FnExactPutVarWrongFalsely : Prop := fnExactPutVarRow.holds Try.pinned (OpenSpec.ofChange fnExactPutVarWrong)

/-- 'laws.FnExactGetVar': WHATEVER THE INPUT: true; the input reads as it did. -/
def fnExactGetVarSpec : ChangeSpec := { name := "fnExactGetVar", fn := fun _ => fun
  | [d1, d2] => { results := [.lit (.bool true)], args := [d1, d2] }
  | _ => none }
def fnExactGetVarRow : OpenClaim := { program := "ytefaalelkbbnkaa", sum := "a283d5d6c1156948c9f8b84636410bf42ece0ca82ce18d96ecd2f38f7bf3a0d8", func := "loop.example/g00322/laws.FnExactGetVar", spec := "fnExactGetVar", apart := false }
def FnExactGetVarSaid : Prop := fnExactGetVarRow.holds Try.pinned (OpenSpec.ofChange fnExactGetVarSpec)

/-- ITS FALSE NEIGHBOUR: 'it returns false'. Refute it at one input. -/
def fnExactGetVarWrong : ChangeSpec := { name := "fnExactGetVar", fn := fun _ => fun
  | [d1, d2] => { results := [.lit (.bool false)], args := [d1, d2] }
  | _ => none }
def FnExactGetVarWrongFalsely : Prop := fnExactGetVarRow.holds Try.pinned (OpenSpec.ofChange fnExactGetVarWrong)

/-- 'laws.FnFixes': WHATEVER THE INPUT: true; the input reads as it did. -/
def fnFixesSpec : ChangeSpec := { name := "fnFixes", fn := fun _ => fun
  | [d] => { results := [.lit (.bool true)], args := [d] }
  | _ => none }
def fnFixesRow : OpenClaim := { program := "ytefaalelkbbnkaa", sum := "a283d5d6c1156948c9f8b84636410bf42ece0ca82ce18d96ecd2f38f7bf3a0d8", func := "loop.example/g00322/laws.FnFixes", spec := "fnFixes", apart := false }
def FnFixesSaid : Prop := fnFixesRow.holds Try.pinned (OpenSpec.ofChange fnFixesSpec)

/-- ITS FALSE NEIGHBOUR: 'it returns false'. Refute it at one input. -/
def fnFixesWrong : ChangeSpec := { name := "fnFixes", fn := fun _ => fun
  | [d] => { results := [.lit (.bool false)], args := [d] }
  | _ => none }
def FnFixesWrongFalsely : Prop := fnFixesRow.holds Try.pinned (OpenSpec.ofChange fnFixesWrong)

/-- 'laws.FnEscs': WHATEVER THE INPUT: true; the input reads as it did. -/
def fnEscsSpec : ChangeSpec := { name := "fnEscs", fn := fun _ => fun
  | [d] => { results := [.lit (.bool true)], args := [d] }
  | _ => none }
def fnEscsRow : OpenClaim := { program := "ytefaalelkbbnkaa", sum := "a283d5d6c1156948c9f8b84636410bf42ece0ca82ce18d96ecd2f38f7bf3a0d8", func := "loop.example/g00322/laws.FnEscs", spec := "fnEscs", apart := false }
def FnEscsSaid : Prop := fnEscsRow.holds Try.pinned (OpenSpec.ofChange fnEscsSpec)

/-- ITS FALSE NEIGHBOUR: 'it returns false'. Refute it at one input. -/
def fnEscsWrong : ChangeSpec := { name := "fnEscs", fn := fun _ => fun
  | [d] => { results := [.lit (.bool false)], args := [d] }
  | _ => none }
def FnEscsWrongFalsely : Prop := fnEscsRow.holds Try.pinned (OpenSpec.ofChange fnEscsWrong)

/-- 'laws.FnVars': WHATEVER THE INPUT: true; the input reads as it did. -/
def fnVarsSpec : ChangeSpec := { name := "fnVars", fn := fun _ => fun
  | [d] => { results := [.lit (.bool true)], args := [d] }
  | _ => none }
def fnVarsRow : OpenClaim := { program := "ytefaalelkbbnkaa", sum := "a283d5d6c1156948c9f8b84636410bf42ece0ca82ce18d96ecd2f38f7bf3a0d8", func := "loop.example/g00322/laws.FnVars", spec := "fnVars", apart := false }
def FnVarsSaid : Prop := fnVarsRow.holds Try.pinned (OpenSpec.ofChange fnVarsSpec)

/-- ITS FALSE NEIGHBOUR: 'it returns false'. Refute it at one input. -/
def fnVarsWrong : ChangeSpec := { name := "fnVars", fn := fun _ => fun
  | [d] => { results := [.lit (.bool false)], args := [d] }
  | _ => none }
def FnVarsWrongFalsely : Prop := fnVarsRow.holds Try.pinned (OpenSpec.ofChange fnVarsWrong)

/-- 'laws.FnEscsRead': WHATEVER THE INPUT: true; the input reads as it did. -/
def fnEscsReadSpec : ChangeSpec := { name := "fnEscsRead", fn := fun _ => fun
  | [d] => { results := [.lit (.bool true)], args := [d] }
  | _ => none }
def fnEscsReadRow : OpenClaim := { program := "ytefaalelkbbnkaa", sum := "a283d5d6c1156948c9f8b84636410bf42ece0ca82ce18d96ecd2f38f7bf3a0d8", func := "loop.example/g00322/laws.FnEscsRead", spec := "fnEscsRead", apart := false }
def FnEscsReadSaid : Prop := fnEscsReadRow.holds Try.pinned (OpenSpec.ofChange fnEscsReadSpec)

/-- ITS FALSE NEIGHBOUR: 'it returns false'. Refute it at one input. -/
def fnEscsReadWrong : ChangeSpec := { name := "fnEscsRead", fn := fun _ => fun
  | [d] => { results := [.lit (.bool false)], args := [d] }
  | _ => none }
def FnEscsReadWrongFalsely : Prop := fnEscsReadRow.holds Try.pinned (OpenSpec.ofChange fnEscsReadWrong)

/-- 'laws.FnVarsRead': WHATEVER THE INPUT: true; the input reads as it did. -/
def fnVarsReadSpec : ChangeSpec := { name := "fnVarsRead", fn := fun _ => fun
  | [d] => { results := [.lit (.bool true)], args := [d] }
  | _ => none }
def fnVarsReadRow : OpenClaim := { program := "ytefaalelkbbnkaa", sum := "a283d5d6c1156948c9f8b84636410bf42ece0ca82ce18d96ecd2f38f7bf3a0d8", func := "loop.example/g00322/laws.FnVarsRead", spec := "fnVarsRead", apart := false }
def FnVarsReadSaid : Prop := fnVarsReadRow.holds Try.pinned (OpenSpec.ofChange fnVarsReadSpec)

/-- ITS FALSE NEIGHBOUR: 'it returns false'. Refute it at one input. -/
def fnVarsReadWrong : ChangeSpec := { name := "fnVarsRead", fn := fun _ => fun
  | [d] => { results := [.lit (.bool false)], args := [d] }
  | _ => none }
def FnVarsReadWrongFalsely : Prop := fnVarsReadRow.holds Try.pinned (OpenSpec.ofChange fnVarsReadWrong)

/- THE SECOND FORM. 'bulk': how many values and letters a reading holds, each counted each time it is reached (what is shared counts as often as it is met; a slice's spare places count too). A statement '..UptoSaid' is the law's where the arguments, and the package variables that the reading takes, are together of bulk at most 1048576: NARROWER than '..Said'. Prove '..Said' where nothing that the law and all that it calls make is longer than what came in: it says more and counts as full. Else prove '..UptoSaid'. A law counts once. -/
mutual
def uptoBulk {H : Type} : DataW H → Nat
  | .lit (.string bytes) => bytes.length + 1
  | .lit _ => 1
  | .nil => 1
  | .ptr d => uptoBulk d + 1
  | .slice elems spare => uptoBulkAll elems + uptoBulkAll spare + 1
  | .agg parts => uptoBulkAll parts + 1
  | .iface _ d => uptoBulk d + 1
  | .map entries => uptoBulkEntries entries + 1
  | .held _ => 1
def uptoBulkAll {H : Type} : List (DataW H) → Nat
  | [] => 0
  | d :: r => uptoBulk d + uptoBulkAll r
def uptoBulkEntries {H : Type} : List (Lit × DataW H) → Nat
  | [] => 0
  | x :: r => uptoBulkEntry x + uptoBulkEntries r
def uptoBulkEntry {H : Type} : Lit × DataW H → Nat
  | (.string bytes, d) => bytes.length + uptoBulk d + 1
  | (_, d) => uptoBulk d + 1
 end
def uptoSmall : (H : Type) → List (DataW H) → Bool := fun _ ds => decide (uptoBulkAll ds ≤ 1048576)
def OpenSpec.upto (s : _root_.Go.ChangeSpec) : _root_.Go.OpenSpec := { _root_.Go.OpenSpec.ofChange s with cond := some uptoSmall }

/-- 'laws.FnExactPutEsc', WHERE WHAT IT READS IS OF BULK AT MOST 1048576: true; the input reads as it did. -/
def fnExactPutEscUptoRow : OpenClaim := { program := "ytefaalelkbbnkaa", sum := "a283d5d6c1156948c9f8b84636410bf42ece0ca82ce18d96ecd2f38f7bf3a0d8", func := "loop.example/g00322/laws.FnExactPutEsc", spec := "fnExactPutEsc", apart := false, narrowed := true }
def FnExactPutEscUptoSaid : Prop := fnExactPutEscUptoRow.holds Try.pinned (OpenSpec.upto fnExactPutEscSpec)

/-- 'laws.FnExactGetEsc', WHERE WHAT IT READS IS OF BULK AT MOST 1048576: true; the input reads as it did. -/
def fnExactGetEscUptoRow : OpenClaim := { program := "ytefaalelkbbnkaa", sum := "a283d5d6c1156948c9f8b84636410bf42ece0ca82ce18d96ecd2f38f7bf3a0d8", func := "loop.example/g00322/laws.FnExactGetEsc", spec := "fnExactGetEsc", apart := false, narrowed := true }
def FnExactGetEscUptoSaid : Prop := fnExactGetEscUptoRow.holds Try.pinned (OpenSpec.upto fnExactGetEscSpec)

/-- 'laws.FnExactPutFix', WHERE WHAT IT READS IS OF BULK AT MOST 1048576: true; the input reads as it did. -/
def fnExactPutFixUptoRow : OpenClaim := { program := "ytefaalelkbbnkaa", sum := "a283d5d6c1156948c9f8b84636410bf42ece0ca82ce18d96ecd2f38f7bf3a0d8", func := "loop.example/g00322/laws.FnExactPutFix", spec := "fnExactPutFix", apart := false, narrowed := true }
def FnExactPutFixUptoSaid : Prop := fnExactPutFixUptoRow.holds Try.pinned (OpenSpec.upto fnExactPutFixSpec)

/-- 'laws.FnExactGetFix', WHERE WHAT IT READS IS OF BULK AT MOST 1048576: true; the input reads as it did. -/
def fnExactGetFixUptoRow : OpenClaim := { program := "ytefaalelkbbnkaa", sum := "a283d5d6c1156948c9f8b84636410bf42ece0ca82ce18d96ecd2f38f7bf3a0d8", func := "loop.example/g00322/laws.FnExactGetFix", spec := "fnExactGetFix", apart := false, narrowed := true }
def FnExactGetFixUptoSaid : Prop := fnExactGetFixUptoRow.holds Try.pinned (OpenSpec.upto fnExactGetFixSpec)

/-- 'laws.FnExactPutVar', WHERE WHAT IT READS IS OF BULK AT MOST 1048576: true; the input reads as it did. -/
def fnExactPutVarUptoRow : OpenClaim := { program := "ytefaalelkbbnkaa", sum := "a283d5d6c1156948c9f8b84636410bf42ece0ca82ce18d96ecd2f38f7bf3a0d8", func := "loop.example/g00322/laws.FnExactPutVar", spec := "fnExactPutVar", apart := false, narrowed := true }
def FnExactPutVarUptoSaid : Prop := fnExactPutVarUptoRow.holds Try.pinned (OpenSpec.upto fnExactPutVarSpec)

/-- 'laws.FnExactGetVar', WHERE WHAT IT READS IS OF BULK AT MOST 1048576: true; the input reads as it did. -/
def fnExactGetVarUptoRow : OpenClaim := { program := "ytefaalelkbbnkaa", sum := "a283d5d6c1156948c9f8b84636410bf42ece0ca82ce18d96ecd2f38f7bf3a0d8", func := "loop.example/g00322/laws.FnExactGetVar", spec := "fnExactGetVar", apart := false, narrowed := true }
def FnExactGetVarUptoSaid : Prop := fnExactGetVarUptoRow.holds Try.pinned (OpenSpec.upto fnExactGetVarSpec)

/-- 'laws.FnFixes', WHERE WHAT IT READS IS OF BULK AT MOST 1048576: true; the input reads as it did. -/
def fnFixesUptoRow : OpenClaim := { program := "ytefaalelkbbnkaa", sum := "a283d5d6c1156948c9f8b84636410bf42ece0ca82ce18d96ecd2f38f7bf3a0d8", func := "loop.example/g00322/laws.FnFixes", spec := "fnFixes", apart := false, narrowed := true }
def FnFixesUptoSaid : Prop := fnFixesUptoRow.holds Try.pinned (OpenSpec.upto fnFixesSpec)

/-- 'laws.FnEscs', WHERE WHAT IT READS IS OF BULK AT MOST 1048576: true; the input reads as it did. -/
def fnEscsUptoRow : OpenClaim := { program := "ytefaalelkbbnkaa", sum := "a283d5d6c1156948c9f8b84636410bf42ece0ca82ce18d96ecd2f38f7bf3a0d8", func := "loop.example/g00322/laws.FnEscs", spec := "fnEscs", apart := false, narrowed := true }
def FnEscsUptoSaid : Prop := fnEscsUptoRow.holds Try.pinned (OpenSpec.upto fnEscsSpec)

/-- 'laws.FnVars', WHERE WHAT IT READS IS OF BULK AT MOST 1048576: true; the input reads as it did. -/
def fnVarsUptoRow : OpenClaim := { program := "ytefaalelkbbnkaa", sum := "a283d5d6c1156948c9f8b84636410bf42ece0ca82ce18d96ecd2f38f7bf3a0d8", func := "loop.example/g00322/laws.FnVars", spec := "fnVars", apart := false, narrowed := true }
def FnVarsUptoSaid : Prop := fnVarsUptoRow.holds Try.pinned (OpenSpec.upto fnVarsSpec)

/-- 'laws.FnEscsRead', WHERE WHAT IT READS IS OF BULK AT MOST 1048576: true; the input reads as it did. -/
def fnEscsReadUptoRow : OpenClaim := { program := "ytefaalelkbbnkaa", sum := "a283d5d6c1156948c9f8b84636410bf42ece0ca82ce18d96ecd2f38f7bf3a0d8", func := "loop.example/g00322/laws.FnEscsRead", spec := "fnEscsRead", apart := false, narrowed := true }
def FnEscsReadUptoSaid : Prop := fnEscsReadUptoRow.holds Try.pinned (OpenSpec.upto fnEscsReadSpec)

/-- 'laws.FnVarsRead', WHERE WHAT IT READS IS OF BULK AT MOST 1048576: true; the input reads as it did. -/
def fnVarsReadUptoRow : OpenClaim := { program := "ytefaalelkbbnkaa", sum := "a283d5d6c1156948c9f8b84636410bf42ece0ca82ce18d96ecd2f38f7bf3a0d8", func := "loop.example/g00322/laws.FnVarsRead", spec := "fnVarsRead", apart := false, narrowed := true }
def FnVarsReadUptoSaid : Prop := fnVarsReadUptoRow.holds Try.pinned (OpenSpec.upto fnVarsReadSpec)

end Rows
end Go.Proofs.Ytefaalelkbbnkaa
