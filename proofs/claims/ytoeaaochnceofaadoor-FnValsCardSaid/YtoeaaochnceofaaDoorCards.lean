/-
  DERIVED. GIVEN WITH THE SEED: THE CARDS: each row of YtoeaaochnceofaaDoorRows.lean that lists a variable, with what it lists TIED to the program's text (the seventh form; the later family's looks); each row that meets fmt, with fmt's text TOLD by the authors' own Lean function (tested against real Go, not proved from fmt's source: count such statements apart). THE CARD IS WHAT COUNTS. Prove the row's statement (the work); the ties are given (YtoeaaochnceofaaDoorTie.lean); close each card by the builder's one call (the guide's Derived/Test/ToyasCard.lean, 'card_holds'). Laid BY PROGRAM, IN A SANDBOX (cutbox-door.mjs). By AI agents, Wed Nov 11 2026. No macro, syntax, notation, axiom, sorry.
-/
import Derived.Test.YtoeaaochnceofaaDoorRows
import GoSem.ClaimSeven
namespace Go.Proofs.YtoeaaochnceofaaDoor
namespace Rows

/-- THE TIED CARD OF 'laws.FnExactParseVal'. -/
def fnExactParseValCard : Claim7 := { stood := { row := fnExactParseValRow, standIns := [], harness := (true, "773ca8da8fea2337a8ce1c4d7951194db628f321e1b89a609445c2bb67a990e2"), looks := true }, kinds := [], alts := [], laidByText := true, laidKinds := [.data, .data, .data, .sentinel, .sentinel], laidTests := true, laidLooks := .later }
def FnExactParseValCardSaid : Prop := Claim7.holds Tryd.pinned (.plain (OpenSpec.ofChange fnExactParseValSpec)) fnExactParseValCard

/-- THE TIED CARD OF 'laws.FnExactValText'. -/
def fnExactValTextCard : Claim7 := { stood := { row := fnExactValTextRow, standIns := [], harness := (true, "773ca8da8fea2337a8ce1c4d7951194db628f321e1b89a609445c2bb67a990e2"), looks := true }, kinds := [], alts := [], laidByText := true, laidKinds := [.data, .data, .data], laidTests := true, laidLooks := .later }
def FnExactValTextCardSaid : Prop := Claim7.holds Tryd.pinned (.plain (OpenSpec.ofChange fnExactValTextSpec)) fnExactValTextCard

/-- THE TIED CARD OF 'laws.FnVals'. -/
def fnValsCard : Claim7 := { stood := { row := fnValsRow, standIns := [], harness := (true, "773ca8da8fea2337a8ce1c4d7951194db628f321e1b89a609445c2bb67a990e2"), looks := true }, kinds := [], alts := [], laidByText := true, laidKinds := [.data, .data, .data, .sentinel, .sentinel], laidTests := true, laidLooks := .later }
def FnValsCardSaid : Prop := Claim7.holds Tryd.pinned (.plain (OpenSpec.ofChange fnValsSpec)) fnValsCard

/-- THE SECOND FORM's CARD OF 'laws.FnExactParseVal'. -/
def fnExactParseValUptoCard : Claim7 := { stood := { row := fnExactParseValUptoRow, standIns := [], harness := (true, "773ca8da8fea2337a8ce1c4d7951194db628f321e1b89a609445c2bb67a990e2"), looks := true }, kinds := [], alts := [], laidByText := true, laidKinds := [.data, .data, .data, .sentinel, .sentinel], laidTests := true, laidLooks := .later }
def FnExactParseValUptoCardSaid : Prop := Claim7.holds Tryd.pinned (.plain (OpenSpec.upto fnExactParseValSpec)) fnExactParseValUptoCard

/-- THE SECOND FORM's CARD OF 'laws.FnExactValText'. -/
def fnExactValTextUptoCard : Claim7 := { stood := { row := fnExactValTextUptoRow, standIns := [], harness := (true, "773ca8da8fea2337a8ce1c4d7951194db628f321e1b89a609445c2bb67a990e2"), looks := true }, kinds := [], alts := [], laidByText := true, laidKinds := [.data, .data, .data], laidTests := true, laidLooks := .later }
def FnExactValTextUptoCardSaid : Prop := Claim7.holds Tryd.pinned (.plain (OpenSpec.upto fnExactValTextSpec)) fnExactValTextUptoCard

/-- THE SECOND FORM's CARD OF 'laws.FnVals'. -/
def fnValsUptoCard : Claim7 := { stood := { row := fnValsUptoRow, standIns := [], harness := (true, "773ca8da8fea2337a8ce1c4d7951194db628f321e1b89a609445c2bb67a990e2"), looks := true }, kinds := [], alts := [], laidByText := true, laidKinds := [.data, .data, .data, .sentinel, .sentinel], laidTests := true, laidLooks := .later }
def FnValsUptoCardSaid : Prop := Claim7.holds Tryd.pinned (.plain (OpenSpec.upto fnValsSpec)) fnValsUptoCard
end Rows
end Go.Proofs.YtoeaaochnceofaaDoor
