/-
  DERIVED. GIVEN WITH THE SEED: THE CARDS: each row of YtaihfoihlbileaaDoorRows.lean that lists a variable, with what it lists TIED to the program's text (the seventh form; the later family's looks); each row that meets fmt, with fmt's text TOLD by the authors' own Lean function (tested against real Go, not proved from fmt's source: count such statements apart). THE CARD IS WHAT COUNTS. Prove the row's statement (the work); the ties are given (YtaihfoihlbileaaDoorTie.lean); close each card by the builder's one call (the guide's Derived/Test/ToyasCard.lean, 'card_holds'). Laid BY PROGRAM, IN A SANDBOX (cutbox-door.mjs). By AI agents, Wed Nov 11 2026. No macro, syntax, notation, axiom, sorry.
-/
import Derived.Test.YtaihfoihlbileaaDoorRows
import GoSem.ClaimSeven
namespace Go.Proofs.YtaihfoihlbileaaDoor
namespace Rows

/-- THE TIED CARD OF 'interchangelaw11.BillPaysAddUp'. -/
def billPaysAddUpCard : Claim7 := { stood := { row := billPaysAddUpRow, standIns := [], harness := (true, "46f9e61489190e79bf4cae810210b3d25d22b71ae57b3f2b9d7af46a940a6bcd"), looks := false }, kinds := [], alts := [], laidByText := true, laidKinds := [.data, .pinned], laidTests := true, laidLooks := .later }
def BillPaysAddUpCardSaid : Prop := Claim7.holds Tryd.pinned (.plain (OpenSpec.ofChange billPaysAddUpSpec)) billPaysAddUpCard

/-- THE TIED CARD OF 'interchangelaw11.BillAgesAddUp'. -/
def billAgesAddUpCard : Claim7 := { stood := { row := billAgesAddUpRow, standIns := [], harness := (true, "46f9e61489190e79bf4cae810210b3d25d22b71ae57b3f2b9d7af46a940a6bcd"), looks := false }, kinds := [], alts := [], laidByText := true, laidKinds := [.data, .pinned], laidTests := true, laidLooks := .later }
def BillAgesAddUpCardSaid : Prop := Claim7.holds Tryd.pinned (.plain (OpenSpec.ofChange billAgesAddUpSpec)) billAgesAddUpCard

/-- THE SECOND FORM's CARD OF 'interchangelaw11.BillPaysAddUp'. -/
def billPaysAddUpUptoCard : Claim7 := { stood := { row := billPaysAddUpUptoRow, standIns := [], harness := (true, "46f9e61489190e79bf4cae810210b3d25d22b71ae57b3f2b9d7af46a940a6bcd"), looks := false }, kinds := [], alts := [], laidByText := true, laidKinds := [.data, .pinned], laidTests := true, laidLooks := .later }
def BillPaysAddUpUptoCardSaid : Prop := Claim7.holds Tryd.pinned (.plain (OpenSpec.upto billPaysAddUpSpec)) billPaysAddUpUptoCard

/-- THE SECOND FORM's CARD OF 'interchangelaw11.BillAgesAddUp'. -/
def billAgesAddUpUptoCard : Claim7 := { stood := { row := billAgesAddUpUptoRow, standIns := [], harness := (true, "46f9e61489190e79bf4cae810210b3d25d22b71ae57b3f2b9d7af46a940a6bcd"), looks := false }, kinds := [], alts := [], laidByText := true, laidKinds := [.data, .pinned], laidTests := true, laidLooks := .later }
def BillAgesAddUpUptoCardSaid : Prop := Claim7.holds Tryd.pinned (.plain (OpenSpec.upto billAgesAddUpSpec)) billAgesAddUpUptoCard
end Rows
end Go.Proofs.YtaihfoihlbileaaDoor
