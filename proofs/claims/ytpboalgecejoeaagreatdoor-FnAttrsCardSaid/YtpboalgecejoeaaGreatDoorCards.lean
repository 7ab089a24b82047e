/-
  DERIVED. GIVEN WITH THE SEED: THE CARDS: each row of YtpboalgecejoeaaGreatDoorRows.lean that lists a variable, with what it lists TIED to the program's text (the seventh form; the later family's looks); each row that meets fmt, with fmt's text TOLD by the authors' own Lean function (tested against real Go, not proved from fmt's source: count such statements apart). THE CARD IS WHAT COUNTS. Prove the row's statement (the work); the ties are given (YtpboalgecejoeaaGreatDoorTie.lean); close each card by the builder's one call (the guide's Derived/Test/ToyasCard.lean, 'card_holds'). Laid BY PROGRAM, IN A SANDBOX (cutbox-door.mjs). By AI agents, Wed Nov 11 2026. No macro, syntax, notation, axiom, sorry.
-/
import Derived.Test.YtpboalgecejoeaaGreatDoorRows
import GoSem.ClaimSeven
namespace Go.Proofs.YtpboalgecejoeaaGreatDoor
namespace Rows

/-- THE TIED CARD OF 'laws.FnAttrs'. -/
def fnAttrsCard : Claim7 := { stood := { row := fnAttrsRow, standIns := [], harness := (true, "ad2d12a04b9fbf7ca986886019c85aacfa110d63deee3aa3e94ab2555ff42304"), looks := false }, kinds := [], alts := [], laidByText := true, laidKinds := [.data, .data, .data, .data, .pinned], laidTests := true, laidLooks := .later }
def FnAttrsCardSaid : Prop := Claim7.holds Tryz.pinned (.plain (OpenSpec.ofChange fnAttrsSpec)) fnAttrsCard

/-- THE SECOND FORM's CARD OF 'laws.FnAttrs'. -/
def fnAttrsUptoCard : Claim7 := { stood := { row := fnAttrsUptoRow, standIns := [], harness := (true, "ad2d12a04b9fbf7ca986886019c85aacfa110d63deee3aa3e94ab2555ff42304"), looks := false }, kinds := [], alts := [], laidByText := true, laidKinds := [.data, .data, .data, .data, .pinned], laidTests := true, laidLooks := .later }
def FnAttrsUptoCardSaid : Prop := Claim7.holds Tryz.pinned (.plain (OpenSpec.upto fnAttrsSpec)) fnAttrsUptoCard
end Rows
end Go.Proofs.YtpboalgecejoeaaGreatDoor
