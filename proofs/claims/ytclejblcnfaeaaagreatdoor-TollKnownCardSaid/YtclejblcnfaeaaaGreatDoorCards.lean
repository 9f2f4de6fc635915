/-
  DERIVED. GIVEN WITH THE SEED: THE CARDS: each row of YtclejblcnfaeaaaGreatDoorRows.lean that lists a variable, with what it lists TIED to the program's text (the seventh form; the later family's looks); each row that meets fmt, with fmt's text TOLD by the authors' own Lean function (tested against real Go, not proved from fmt's source: count such statements apart). THE CARD IS WHAT COUNTS. Prove the row's statement (the work); the ties are given (YtclejblcnfaeaaaGreatDoorTie.lean); close each card by the builder's one call (the guide's Derived/Test/ToyasCard.lean, 'card_holds'). Laid BY PROGRAM, IN A SANDBOX (cutbox-door.mjs). By AI agents, Wed Nov 11 2026. No macro, syntax, notation, axiom, sorry.
-/
import Derived.Test.YtclejblcnfaeaaaGreatDoorRows
import GoSem.ClaimSeven
namespace Go.Proofs.YtclejblcnfaeaaaGreatDoor
namespace Rows

/-- THE TIED CARD OF 'palfreytop.TopForgot'. -/
def topForgotCard : Claim7 := { stood := { row := topForgotRow, standIns := [], harness := (true, "1f0fb3d9bd39dc94342ad813ef40a8790ad3597f7e6157ac050b8b6fa7afc33b"), looks := true }, kinds := [], alts := [], goes := true, laidByText := true, laidKinds := [.handle], laidTests := true, laidLooks := .later }
def TopForgotCardSaid : Prop := Claim7.holds Tryz.pinned (.plain (OpenSpec.ofChange topForgotSpec)) topForgotCard

/-- THE TIED CARD OF 'palfreylaw12.TollHolds'. -/
def tollHoldsCard : Claim7 := { stood := { row := tollHoldsRow, standIns := [], harness := (true, "1f0fb3d9bd39dc94342ad813ef40a8790ad3597f7e6157ac050b8b6fa7afc33b"), looks := true }, kinds := [], alts := [], goes := true, laidByText := true, laidKinds := [.handle], laidTests := true, laidLooks := .later }
def TollHoldsCardSaid : Prop := Claim7.holds Tryz.pinned (.plain (OpenSpec.ofChange tollHoldsSpec)) tollHoldsCard

/-- THE TIED CARD OF 'palfreylaw12.TollTrade'. -/
def tollTradeCard : Claim7 := { stood := { row := tollTradeRow, standIns := [], harness := (true, "1f0fb3d9bd39dc94342ad813ef40a8790ad3597f7e6157ac050b8b6fa7afc33b"), looks := true }, kinds := [], alts := [], goes := true, laidByText := true, laidKinds := [.handle], laidTests := true, laidLooks := .later }
def TollTradeCardSaid : Prop := Claim7.holds Tryz.pinned (.plain (OpenSpec.ofChange tollTradeSpec)) tollTradeCard

/-- THE TIED CARD OF 'palfreylaw12.TollKnown'. -/
def tollKnownCard : Claim7 := { stood := { row := tollKnownRow, standIns := [], harness := (true, "1f0fb3d9bd39dc94342ad813ef40a8790ad3597f7e6157ac050b8b6fa7afc33b"), looks := true }, kinds := [], alts := [], goes := true, laidByText := true, laidKinds := [.handle], laidTests := true, laidLooks := .later }
def TollKnownCardSaid : Prop := Claim7.holds Tryz.pinned (.plain (OpenSpec.ofChange tollKnownSpec)) tollKnownCard

/-- THE SECOND FORM's CARD OF 'palfreytop.TopForgot'. -/
def topForgotUptoCard : Claim7 := { stood := { row := topForgotUptoRow, standIns := [], harness := (true, "1f0fb3d9bd39dc94342ad813ef40a8790ad3597f7e6157ac050b8b6fa7afc33b"), looks := true }, kinds := [], alts := [], goes := true, laidByText := true, laidKinds := [.handle], laidTests := true, laidLooks := .later }
def TopForgotUptoCardSaid : Prop := Claim7.holds Tryz.pinned (.plain (OpenSpec.upto topForgotSpec)) topForgotUptoCard

/-- THE SECOND FORM's CARD OF 'palfreylaw12.TollHolds'. -/
def tollHoldsUptoCard : Claim7 := { stood := { row := tollHoldsUptoRow, standIns := [], harness := (true, "1f0fb3d9bd39dc94342ad813ef40a8790ad3597f7e6157ac050b8b6fa7afc33b"), looks := true }, kinds := [], alts := [], goes := true, laidByText := true, laidKinds := [.handle], laidTests := true, laidLooks := .later }
def TollHoldsUptoCardSaid : Prop := Claim7.holds Tryz.pinned (.plain (OpenSpec.upto tollHoldsSpec)) tollHoldsUptoCard

/-- THE SECOND FORM's CARD OF 'palfreylaw12.TollTrade'. -/
def tollTradeUptoCard : Claim7 := { stood := { row := tollTradeUptoRow, standIns := [], harness := (true, "1f0fb3d9bd39dc94342ad813ef40a8790ad3597f7e6157ac050b8b6fa7afc33b"), looks := true }, kinds := [], alts := [], goes := true, laidByText := true, laidKinds := [.handle], laidTests := true, laidLooks := .later }
def TollTradeUptoCardSaid : Prop := Claim7.holds Tryz.pinned (.plain (OpenSpec.upto tollTradeSpec)) tollTradeUptoCard

/-- THE SECOND FORM's CARD OF 'palfreylaw12.TollKnown'. -/
def tollKnownUptoCard : Claim7 := { stood := { row := tollKnownUptoRow, standIns := [], harness := (true, "1f0fb3d9bd39dc94342ad813ef40a8790ad3597f7e6157ac050b8b6fa7afc33b"), looks := true }, kinds := [], alts := [], goes := true, laidByText := true, laidKinds := [.handle], laidTests := true, laidLooks := .later }
def TollKnownUptoCardSaid : Prop := Claim7.holds Tryz.pinned (.plain (OpenSpec.upto tollKnownSpec)) tollKnownUptoCard
end Rows
end Go.Proofs.YtclejblcnfaeaaaGreatDoor
