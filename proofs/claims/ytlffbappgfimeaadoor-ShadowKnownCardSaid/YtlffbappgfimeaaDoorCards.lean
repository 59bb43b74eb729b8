/-
  DERIVED. GIVEN WITH THE SEED: THE CARDS: each row of YtlffbappgfimeaaDoorRows.lean that lists a variable, with what it lists TIED to the program's text (the seventh form; the later family's looks); each row that meets fmt, with fmt's text TOLD by the authors' own Lean function (tested against real Go, not proved from fmt's source: count such statements apart). THE CARD IS WHAT COUNTS. Prove the row's statement (the work); the ties are given (YtlffbappgfimeaaDoorTie.lean); close each card by the builder's one call (the guide's Derived/Test/ToyasCard.lean, 'card_holds'). Laid BY PROGRAM, IN A SANDBOX (cutbox-door.mjs). By AI agents, Wed Nov 11 2026. No macro, syntax, notation, axiom, sorry.
-/
import Derived.Test.YtlffbappgfimeaaDoorRows
import GoSem.ClaimSeven
namespace Go.Proofs.YtlffbappgfimeaaDoor
namespace Rows

/-- THE TIED CARD OF 'rostrumlaw13.ShadowKnown'. -/
def shadowKnownCard : Claim7 := { stood := { row := shadowKnownRow, standIns := [], harness := (true, "c4765bfc76baf73c174d53919e1cfb42e151daeaa1a07d7a3d805b2655e1f22b"), looks := false }, kinds := [], alts := [], laidByText := true, laidKinds := [.data, .pinned, .pinned], laidTests := true, laidLooks := .later }
def ShadowKnownCardSaid : Prop := Claim7.holds Tryd.pinned (.plain (OpenSpec.ofChange shadowKnownSpec)) shadowKnownCard

/-- THE TIED CARD OF 'rostrumlaw13.ShadowBytes'. -/
def shadowBytesCard : Claim7 := { stood := { row := shadowBytesRow, standIns := [], harness := (true, "c4765bfc76baf73c174d53919e1cfb42e151daeaa1a07d7a3d805b2655e1f22b"), looks := false }, kinds := [], alts := [], laidByText := true, laidKinds := [.data, .pinned, .pinned], laidTests := true, laidLooks := .later }
def ShadowBytesCardSaid : Prop := Claim7.holds Tryd.pinned (.plain (OpenSpec.ofChange shadowBytesSpec)) shadowBytesCard

/-- THE TIED CARD OF 'rostrumlaw13.ShadowBack'. -/
def shadowBackCard : Claim7 := { stood := { row := shadowBackRow, standIns := [], harness := (true, "c4765bfc76baf73c174d53919e1cfb42e151daeaa1a07d7a3d805b2655e1f22b"), looks := false }, kinds := [], alts := [], laidByText := true, laidKinds := [.data, .pinned, .pinned], laidTests := true, laidLooks := .later }
def ShadowBackCardSaid : Prop := Claim7.holds Tryd.pinned (.plain (OpenSpec.ofChange shadowBackSpec)) shadowBackCard

/-- THE TIED CARD OF 'rostrumlaw13.ShadowReady'. -/
def shadowReadyCard : Claim7 := { stood := { row := shadowReadyRow, standIns := [], harness := (true, "c4765bfc76baf73c174d53919e1cfb42e151daeaa1a07d7a3d805b2655e1f22b"), looks := false }, kinds := [], alts := [], laidByText := true, laidKinds := [.data, .pinned, .pinned], laidTests := true, laidLooks := .later }
def ShadowReadyCardSaid : Prop := Claim7.holds Tryd.pinned (.plain (OpenSpec.ofChange shadowReadySpec)) shadowReadyCard

/-- THE SECOND FORM's CARD OF 'rostrumlaw13.ShadowKnown'. -/
def shadowKnownUptoCard : Claim7 := { stood := { row := shadowKnownUptoRow, standIns := [], harness := (true, "c4765bfc76baf73c174d53919e1cfb42e151daeaa1a07d7a3d805b2655e1f22b"), looks := false }, kinds := [], alts := [], laidByText := true, laidKinds := [.data, .pinned, .pinned], laidTests := true, laidLooks := .later }
def ShadowKnownUptoCardSaid : Prop := Claim7.holds Tryd.pinned (.plain (OpenSpec.upto shadowKnownSpec)) shadowKnownUptoCard

/-- THE SECOND FORM's CARD OF 'rostrumlaw13.ShadowBytes'. -/
def shadowBytesUptoCard : Claim7 := { stood := { row := shadowBytesUptoRow, standIns := [], harness := (true, "c4765bfc76baf73c174d53919e1cfb42e151daeaa1a07d7a3d805b2655e1f22b"), looks := false }, kinds := [], alts := [], laidByText := true, laidKinds := [.data, .pinned, .pinned], laidTests := true, laidLooks := .later }
def ShadowBytesUptoCardSaid : Prop := Claim7.holds Tryd.pinned (.plain (OpenSpec.upto shadowBytesSpec)) shadowBytesUptoCard

/-- THE SECOND FORM's CARD OF 'rostrumlaw13.ShadowBack'. -/
def shadowBackUptoCard : Claim7 := { stood := { row := shadowBackUptoRow, standIns := [], harness := (true, "c4765bfc76baf73c174d53919e1cfb42e151daeaa1a07d7a3d805b2655e1f22b"), looks := false }, kinds := [], alts := [], laidByText := true, laidKinds := [.data, .pinned, .pinned], laidTests := true, laidLooks := .later }
def ShadowBackUptoCardSaid : Prop := Claim7.holds Tryd.pinned (.plain (OpenSpec.upto shadowBackSpec)) shadowBackUptoCard

/-- THE SECOND FORM's CARD OF 'rostrumlaw13.ShadowReady'. -/
def shadowReadyUptoCard : Claim7 := { stood := { row := shadowReadyUptoRow, standIns := [], harness := (true, "c4765bfc76baf73c174d53919e1cfb42e151daeaa1a07d7a3d805b2655e1f22b"), looks := false }, kinds := [], alts := [], laidByText := true, laidKinds := [.data, .pinned, .pinned], laidTests := true, laidLooks := .later }
def ShadowReadyUptoCardSaid : Prop := Claim7.holds Tryd.pinned (.plain (OpenSpec.upto shadowReadySpec)) shadowReadyUptoCard
end Rows
end Go.Proofs.YtlffbappgfimeaaDoor
