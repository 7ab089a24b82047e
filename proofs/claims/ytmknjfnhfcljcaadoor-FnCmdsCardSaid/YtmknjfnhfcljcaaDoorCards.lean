/-
  DERIVED. GIVEN WITH THE SEED: THE CARDS: each row of YtmknjfnhfcljcaaDoorRows.lean that lists a variable, with what it lists TIED to the program's text (the seventh form; the later family's looks); each row that meets fmt, with fmt's text TOLD by the authors' own Lean function (tested against real Go, not proved from fmt's source: count such statements apart). THE CARD IS WHAT COUNTS. Prove the row's statement (the work); the ties are given (YtmknjfnhfcljcaaDoorTie.lean); close each card by the builder's one call (the guide's Derived/Test/ToyasCard.lean, 'card_holds'). Laid BY PROGRAM, IN A SANDBOX (cutbox-door.mjs). By AI agents, Wed Nov 11 2026. No macro, syntax, notation, axiom, sorry.
-/
import Derived.Test.YtmknjfnhfcljcaaDoorRows
import GoSem.ClaimSeven
namespace Go.Proofs.YtmknjfnhfcljcaaDoor
namespace Rows

/-- THE TIED CARD OF 'laws.FnCmds'. -/
def fnCmdsCard : Claim7 := { stood := { row := fnCmdsRow, standIns := [], harness := (true, "8b903c4a56bc5673bd19ff08d7e1dc0be6016b109606da5fa9315c0660a88ff2"), looks := false }, kinds := [], alts := [], laidByText := true, laidKinds := [.data, .data, .data, .data, .pinned], laidTests := true, laidLooks := .later }
def FnCmdsCardSaid : Prop := Claim7.holds Tryd.pinned (.plain (OpenSpec.ofChange fnCmdsSpec)) fnCmdsCard

/-- THE TIED CARD OF 'laws.FnExactCmdText'. -/
def fnExactCmdTextCard : Claim7 := { stood := { row := fnExactCmdTextRow, standIns := [], harness := (true, "8b903c4a56bc5673bd19ff08d7e1dc0be6016b109606da5fa9315c0660a88ff2"), looks := false }, kinds := [], alts := [], laidByText := true, laidKinds := [.data, .data, .data], laidTests := true, laidLooks := .later }
def FnExactCmdTextCardSaid : Prop := Claim7.holds Tryd.pinned (.plain (OpenSpec.ofChange fnExactCmdTextSpec)) fnExactCmdTextCard

/-- THE TIED CARD OF 'laws.FnExactReadCmd'. -/
def fnExactReadCmdCard : Claim7 := { stood := { row := fnExactReadCmdRow, standIns := [], harness := (true, "8b903c4a56bc5673bd19ff08d7e1dc0be6016b109606da5fa9315c0660a88ff2"), looks := false }, kinds := [], alts := [], laidByText := true, laidKinds := [.data, .pinned], laidTests := true, laidLooks := .later }
def FnExactReadCmdCardSaid : Prop := Claim7.holds Tryd.pinned (.plain (OpenSpec.ofChange fnExactReadCmdSpec)) fnExactReadCmdCard

/-- THE TIED CARD OF 'laws.FnExactAttrText'. -/
def fnExactAttrTextCard : Claim7 := { stood := { row := fnExactAttrTextRow, standIns := [], harness := (true, "8b903c4a56bc5673bd19ff08d7e1dc0be6016b109606da5fa9315c0660a88ff2"), looks := false }, kinds := [], alts := [], laidByText := true, laidKinds := [.data, .data, .data], laidTests := true, laidLooks := .later }
def FnExactAttrTextCardSaid : Prop := Claim7.holds Tryd.pinned (.plain (OpenSpec.ofChange fnExactAttrTextSpec)) fnExactAttrTextCard

/-- THE TIED CARD OF 'laws.FnExactReadAttr'. -/
def fnExactReadAttrCard : Claim7 := { stood := { row := fnExactReadAttrRow, standIns := [], harness := (true, "8b903c4a56bc5673bd19ff08d7e1dc0be6016b109606da5fa9315c0660a88ff2"), looks := false }, kinds := [], alts := [], laidByText := true, laidKinds := [.data, .pinned], laidTests := true, laidLooks := .later }
def FnExactReadAttrCardSaid : Prop := Claim7.holds Tryd.pinned (.plain (OpenSpec.ofChange fnExactReadAttrSpec)) fnExactReadAttrCard

/-- THE SECOND FORM's CARD OF 'laws.FnCmds'. -/
def fnCmdsUptoCard : Claim7 := { stood := { row := fnCmdsUptoRow, standIns := [], harness := (true, "8b903c4a56bc5673bd19ff08d7e1dc0be6016b109606da5fa9315c0660a88ff2"), looks := false }, kinds := [], alts := [], laidByText := true, laidKinds := [.data, .data, .data, .data, .pinned], laidTests := true, laidLooks := .later }
def FnCmdsUptoCardSaid : Prop := Claim7.holds Tryd.pinned (.plain (OpenSpec.upto fnCmdsSpec)) fnCmdsUptoCard

/-- THE SECOND FORM's CARD OF 'laws.FnExactCmdText'. -/
def fnExactCmdTextUptoCard : Claim7 := { stood := { row := fnExactCmdTextUptoRow, standIns := [], harness := (true, "8b903c4a56bc5673bd19ff08d7e1dc0be6016b109606da5fa9315c0660a88ff2"), looks := false }, kinds := [], alts := [], laidByText := true, laidKinds := [.data, .data, .data], laidTests := true, laidLooks := .later }
def FnExactCmdTextUptoCardSaid : Prop := Claim7.holds Tryd.pinned (.plain (OpenSpec.upto fnExactCmdTextSpec)) fnExactCmdTextUptoCard

/-- THE SECOND FORM's CARD OF 'laws.FnExactReadCmd'. -/
def fnExactReadCmdUptoCard : Claim7 := { stood := { row := fnExactReadCmdUptoRow, standIns := [], harness := (true, "8b903c4a56bc5673bd19ff08d7e1dc0be6016b109606da5fa9315c0660a88ff2"), looks := false }, kinds := [], alts := [], laidByText := true, laidKinds := [.data, .pinned], laidTests := true, laidLooks := .later }
def FnExactReadCmdUptoCardSaid : Prop := Claim7.holds Tryd.pinned (.plain (OpenSpec.upto fnExactReadCmdSpec)) fnExactReadCmdUptoCard

/-- THE SECOND FORM's CARD OF 'laws.FnExactAttrText'. -/
def fnExactAttrTextUptoCard : Claim7 := { stood := { row := fnExactAttrTextUptoRow, standIns := [], harness := (true, "8b903c4a56bc5673bd19ff08d7e1dc0be6016b109606da5fa9315c0660a88ff2"), looks := false }, kinds := [], alts := [], laidByText := true, laidKinds := [.data, .data, .data], laidTests := true, laidLooks := .later }
def FnExactAttrTextUptoCardSaid : Prop := Claim7.holds Tryd.pinned (.plain (OpenSpec.upto fnExactAttrTextSpec)) fnExactAttrTextUptoCard

/-- THE SECOND FORM's CARD OF 'laws.FnExactReadAttr'. -/
def fnExactReadAttrUptoCard : Claim7 := { stood := { row := fnExactReadAttrUptoRow, standIns := [], harness := (true, "8b903c4a56bc5673bd19ff08d7e1dc0be6016b109606da5fa9315c0660a88ff2"), looks := false }, kinds := [], alts := [], laidByText := true, laidKinds := [.data, .pinned], laidTests := true, laidLooks := .later }
def FnExactReadAttrUptoCardSaid : Prop := Claim7.holds Tryd.pinned (.plain (OpenSpec.upto fnExactReadAttrSpec)) fnExactReadAttrUptoCard
end Rows
end Go.Proofs.YtmknjfnhfcljcaaDoor
