/-
  DERIVED. GIVEN WITH THE SEED: THE CARDS: each row of YteelnmpbnaohpaaDoorRows.lean that lists a variable, with what it lists TIED to the program's text (the seventh form; the later family's looks); each row that meets fmt, with fmt's text TOLD by the authors' own Lean function (tested against real Go, not proved from fmt's source: count such statements apart). THE CARD IS WHAT COUNTS. Prove the row's statement (the work); the ties are given (YteelnmpbnaohpaaDoorTie.lean); close each card by the builder's one call (the guide's Derived/Test/ToyasCard.lean, 'card_holds'). Laid BY PROGRAM, IN A SANDBOX (cutbox-door.mjs). By AI agents, Wed Nov 11 2026. No macro, syntax, notation, axiom, sorry.
-/
import Derived.Test.YteelnmpbnaohpaaDoorRows
import GoSem.ClaimSeven
namespace Go.Proofs.YteelnmpbnaohpaaDoor
namespace Rows

/-- THE TIED CARD OF 'lightermanlaw23.StoreWhole'. -/
def storeWholeCard : Claim7 := { stood := { row := storeWholeRow, standIns := [], harness := (true, "af428c94d2c5f910d0caf60db02614ce9c0665e8f498b145b21d96ff92c4fec8"), looks := true }, kinds := [], alts := [], laidByText := true, laidKinds := [.data, .data], laidTests := true, laidLooks := .later }
def StoreWholeCardSaid : Prop := Claim7.holds Tryd.pinned (.plain (OpenSpec.ofChange storeWholeSpec)) storeWholeCard

/-- THE TIED CARD OF 'lightermanlaw23.StoreClaims'. -/
def storeClaimsCard : Claim7 := { stood := { row := storeClaimsRow, standIns := [], harness := (true, "af428c94d2c5f910d0caf60db02614ce9c0665e8f498b145b21d96ff92c4fec8"), looks := true }, kinds := [], alts := [], laidByText := true, laidKinds := [.data, .data], laidTests := true, laidLooks := .later }
def StoreClaimsCardSaid : Prop := Claim7.holds Tryd.pinned (.plain (OpenSpec.ofChange storeClaimsSpec)) storeClaimsCard

/-- THE TIED CARD OF 'lightermanlaw23.StoreRoom'. -/
def storeRoomCard : Claim7 := { stood := { row := storeRoomRow, standIns := [], harness := (true, "af428c94d2c5f910d0caf60db02614ce9c0665e8f498b145b21d96ff92c4fec8"), looks := true }, kinds := [], alts := [], laidByText := true, laidKinds := [.data, .data], laidTests := true, laidLooks := .later }
def StoreRoomCardSaid : Prop := Claim7.holds Tryd.pinned (.plain (OpenSpec.ofChange storeRoomSpec)) storeRoomCard

/-- THE TIED CARD OF 'lightermanlaw23.StoreSafe'. -/
def storeSafeCard : Claim7 := { stood := { row := storeSafeRow, standIns := [], harness := (true, "af428c94d2c5f910d0caf60db02614ce9c0665e8f498b145b21d96ff92c4fec8"), looks := true }, kinds := [], alts := [], laidByText := true, laidKinds := [.data, .data], laidTests := true, laidLooks := .later }
def StoreSafeCardSaid : Prop := Claim7.holds Tryd.pinned (.plain (OpenSpec.ofChange storeSafeSpec)) storeSafeCard

/-- THE SECOND FORM's CARD OF 'lightermanlaw23.StoreWhole'. -/
def storeWholeUptoCard : Claim7 := { stood := { row := storeWholeUptoRow, standIns := [], harness := (true, "af428c94d2c5f910d0caf60db02614ce9c0665e8f498b145b21d96ff92c4fec8"), looks := true }, kinds := [], alts := [], laidByText := true, laidKinds := [.data, .data], laidTests := true, laidLooks := .later }
def StoreWholeUptoCardSaid : Prop := Claim7.holds Tryd.pinned (.plain (OpenSpec.upto storeWholeSpec)) storeWholeUptoCard

/-- THE SECOND FORM's CARD OF 'lightermanlaw23.StoreClaims'. -/
def storeClaimsUptoCard : Claim7 := { stood := { row := storeClaimsUptoRow, standIns := [], harness := (true, "af428c94d2c5f910d0caf60db02614ce9c0665e8f498b145b21d96ff92c4fec8"), looks := true }, kinds := [], alts := [], laidByText := true, laidKinds := [.data, .data], laidTests := true, laidLooks := .later }
def StoreClaimsUptoCardSaid : Prop := Claim7.holds Tryd.pinned (.plain (OpenSpec.upto storeClaimsSpec)) storeClaimsUptoCard

/-- THE SECOND FORM's CARD OF 'lightermanlaw23.StoreRoom'. -/
def storeRoomUptoCard : Claim7 := { stood := { row := storeRoomUptoRow, standIns := [], harness := (true, "af428c94d2c5f910d0caf60db02614ce9c0665e8f498b145b21d96ff92c4fec8"), looks := true }, kinds := [], alts := [], laidByText := true, laidKinds := [.data, .data], laidTests := true, laidLooks := .later }
def StoreRoomUptoCardSaid : Prop := Claim7.holds Tryd.pinned (.plain (OpenSpec.upto storeRoomSpec)) storeRoomUptoCard

/-- THE SECOND FORM's CARD OF 'lightermanlaw23.StoreSafe'. -/
def storeSafeUptoCard : Claim7 := { stood := { row := storeSafeUptoRow, standIns := [], harness := (true, "af428c94d2c5f910d0caf60db02614ce9c0665e8f498b145b21d96ff92c4fec8"), looks := true }, kinds := [], alts := [], laidByText := true, laidKinds := [.data, .data], laidTests := true, laidLooks := .later }
def StoreSafeUptoCardSaid : Prop := Claim7.holds Tryd.pinned (.plain (OpenSpec.upto storeSafeSpec)) storeSafeUptoCard
end Rows
end Go.Proofs.YteelnmpbnaohpaaDoor
