/-
  DERIVED. GIVEN WITH THE SEED: THE CARDS: each row of YthgefhnolmloiaaGreatDoorRows.lean that lists a variable, with what it lists TIED to the program's text (the seventh form; the later family's looks); each row that meets fmt, with fmt's text TOLD by the authors' own Lean function (tested against real Go, not proved from fmt's source: count such statements apart). THE CARD IS WHAT COUNTS. Prove the row's statement (the work); the ties are given (YthgefhnolmloiaaGreatDoorTie.lean); close each card by the builder's one call (the guide's Derived/Test/ToyasCard.lean, 'card_holds'). Laid BY PROGRAM, IN A SANDBOX (cutbox-door.mjs). By AI agents, Wed Nov 11 2026. No macro, syntax, notation, axiom, sorry.
-/
import Derived.Test.YthgefhnolmloiaaGreatDoorRows
import GoSem.ClaimSeven
namespace Go.Proofs.YthgefhnolmloiaaGreatDoor
namespace Rows

/-- THE TIED CARD OF 'interchangelaw10.ParcelAdvicesMatchSpec'. -/
def parcelAdvicesMatchSpecCard : Claim7 := { stood := { row := parcelAdvicesMatchSpecRow, standIns := [], harness := (true, "6da8402a452a0c7e4f14cfb68ec5f54020b60129ae0220b6e2715b6524f869e4"), looks := false }, kinds := [], alts := [], laidByText := true, laidKinds := [.data, .data, .data, .data, .pinned], laidTests := true, laidLooks := .later }
def ParcelAdvicesMatchSpecCardSaid : Prop := Claim7.holds Tryz.pinned (.plain (OpenSpec.ofChange parcelAdvicesMatchSpecSpec)) parcelAdvicesMatchSpecCard

/-- THE SECOND FORM's CARD OF 'interchangelaw10.ParcelAdvicesMatchSpec'. -/
def parcelAdvicesMatchSpecUptoCard : Claim7 := { stood := { row := parcelAdvicesMatchSpecUptoRow, standIns := [], harness := (true, "6da8402a452a0c7e4f14cfb68ec5f54020b60129ae0220b6e2715b6524f869e4"), looks := false }, kinds := [], alts := [], laidByText := true, laidKinds := [.data, .data, .data, .data, .pinned], laidTests := true, laidLooks := .later }
def ParcelAdvicesMatchSpecUptoCardSaid : Prop := Claim7.holds Tryz.pinned (.plain (OpenSpec.upto parcelAdvicesMatchSpecSpec)) parcelAdvicesMatchSpecUptoCard
end Rows
end Go.Proofs.YthgefhnolmloiaaGreatDoor
