/-
  DERIVED. GIVEN WITH THE SEED: THE CARDS: each row of YtaihfoihlbileaaGreatDoorRows.lean that lists a variable, with what it lists TIED to the program's text (the seventh form; the later family's looks); each row that meets fmt, with fmt's text TOLD by the authors' own Lean function (tested against real Go, not proved from fmt's source: count such statements apart). THE CARD IS WHAT COUNTS. Prove the row's statement (the work); the ties are given (YtaihfoihlbileaaGreatDoorTie.lean); close each card by the builder's one call (the guide's Derived/Test/ToyasCard.lean, 'card_holds'). Laid BY PROGRAM, IN A SANDBOX (cutbox-door.mjs). By AI agents, Wed Nov 11 2026. No macro, syntax, notation, axiom, sorry.
-/
import Derived.Test.YtaihfoihlbileaaGreatDoorRows
import GoSem.ClaimSeven
namespace Go.Proofs.YtaihfoihlbileaaGreatDoor
namespace Rows

/-- THE TIED CARD OF 'interchangelaw11.BillPaysMatchSpec'. -/
def billPaysMatchSpecCard : Claim7 := { stood := { row := billPaysMatchSpecRow, standIns := [], harness := (true, "171d3536e1288f9ce156f385fbc633e551906348cd37d7bfd74581ddf17d1bd4"), looks := false }, kinds := [], alts := [], laidByText := true, laidKinds := [.data, .pinned], laidTests := true, laidLooks := .later }
def BillPaysMatchSpecCardSaid : Prop := Claim7.holds Tryz.pinned (.plain (OpenSpec.ofChange billPaysMatchSpecSpec)) billPaysMatchSpecCard

/-- THE TIED CARD OF 'interchangelaw11.BillAgesMatchSpec'. -/
def billAgesMatchSpecCard : Claim7 := { stood := { row := billAgesMatchSpecRow, standIns := [], harness := (true, "171d3536e1288f9ce156f385fbc633e551906348cd37d7bfd74581ddf17d1bd4"), looks := false }, kinds := [], alts := [], laidByText := true, laidKinds := [.data, .pinned], laidTests := true, laidLooks := .later }
def BillAgesMatchSpecCardSaid : Prop := Claim7.holds Tryz.pinned (.plain (OpenSpec.ofChange billAgesMatchSpecSpec)) billAgesMatchSpecCard

/-- THE SECOND FORM's CARD OF 'interchangelaw11.BillPaysMatchSpec'. -/
def billPaysMatchSpecUptoCard : Claim7 := { stood := { row := billPaysMatchSpecUptoRow, standIns := [], harness := (true, "171d3536e1288f9ce156f385fbc633e551906348cd37d7bfd74581ddf17d1bd4"), looks := false }, kinds := [], alts := [], laidByText := true, laidKinds := [.data, .pinned], laidTests := true, laidLooks := .later }
def BillPaysMatchSpecUptoCardSaid : Prop := Claim7.holds Tryz.pinned (.plain (OpenSpec.upto billPaysMatchSpecSpec)) billPaysMatchSpecUptoCard

/-- THE SECOND FORM's CARD OF 'interchangelaw11.BillAgesMatchSpec'. -/
def billAgesMatchSpecUptoCard : Claim7 := { stood := { row := billAgesMatchSpecUptoRow, standIns := [], harness := (true, "171d3536e1288f9ce156f385fbc633e551906348cd37d7bfd74581ddf17d1bd4"), looks := false }, kinds := [], alts := [], laidByText := true, laidKinds := [.data, .pinned], laidTests := true, laidLooks := .later }
def BillAgesMatchSpecUptoCardSaid : Prop := Claim7.holds Tryz.pinned (.plain (OpenSpec.upto billAgesMatchSpecSpec)) billAgesMatchSpecUptoCard
end Rows
end Go.Proofs.YtaihfoihlbileaaGreatDoor
