/-
  DERIVED. GIVEN WITH THE SEED: THE CARDS: each row of YtnmlmgmljoncoaaGreatDoorRows.lean that lists a variable, with what it lists TIED to the program's text (the seventh form; the later family's looks); each row that meets fmt, with fmt's text TOLD by the authors' own Lean function (tested against real Go, not proved from fmt's source: count such statements apart). THE CARD IS WHAT COUNTS. Prove the row's statement (the work); the ties are given (YtnmlmgmljoncoaaGreatDoorTie.lean); close each card by the builder's one call (the guide's Derived/Test/ToyasCard.lean, 'card_holds'). Laid BY PROGRAM, IN A SANDBOX (cutbox-door.mjs). By AI agents, Wed Nov 11 2026. No macro, syntax, notation, axiom, sorry.
-/
import Derived.Test.YtnmlmgmljoncoaaGreatDoorRows
import GoSem.ClaimSeven
namespace Go.Proofs.YtnmlmgmljoncoaaGreatDoor
namespace Rows

/-- THE TIED CARD OF 'trunniontop.TopRoots'. -/
def topRootsCard : Claim7 := { stood := { row := topRootsRow, standIns := [], harness := (true, "4a1c23f6276954754a8f5ca23860efe4c93ba3863ea7029be133ca33ad5b470d"), looks := false }, kinds := [], alts := [], laidByText := true, laidKinds := [.data], laidTests := true, laidLooks := .later }
def TopRootsCardSaid : Prop := Claim7.holds Tryz.pinned (.plain (OpenSpec.ofChange topRootsSpec)) topRootsCard

/-- THE TIED CARD OF 'trunniontop.TopNearest'. -/
def topNearestCard : Claim7 := { stood := { row := topNearestRow, standIns := [], harness := (true, "4a1c23f6276954754a8f5ca23860efe4c93ba3863ea7029be133ca33ad5b470d"), looks := false }, kinds := [], alts := [], laidByText := true, laidKinds := [.data], laidTests := true, laidLooks := .later }
def TopNearestCardSaid : Prop := Claim7.holds Tryz.pinned (.plain (OpenSpec.ofChange topNearestSpec)) topNearestCard

/-- THE TIED CARD OF 'trunnionlaw14.NumericApplies'. -/
def numericAppliesCard : Claim7 := { stood := { row := numericAppliesRow, standIns := [], harness := (true, "4a1c23f6276954754a8f5ca23860efe4c93ba3863ea7029be133ca33ad5b470d"), looks := false }, kinds := [], alts := [], laidByText := true, laidKinds := [.data], laidTests := true, laidLooks := .later }
def NumericAppliesCardSaid : Prop := Claim7.holds Tryz.pinned (.plain (OpenSpec.ofChange numericAppliesSpec)) numericAppliesCard

/-- THE TIED CARD OF 'trunnionlaw14.NumericKeeps'. -/
def numericKeepsCard : Claim7 := { stood := { row := numericKeepsRow, standIns := [], harness := (true, "4a1c23f6276954754a8f5ca23860efe4c93ba3863ea7029be133ca33ad5b470d"), looks := false }, kinds := [], alts := [], laidByText := true, laidKinds := [.data], laidTests := true, laidLooks := .later }
def NumericKeepsCardSaid : Prop := Claim7.holds Tryz.pinned (.plain (OpenSpec.ofChange numericKeepsSpec)) numericKeepsCard

/-- THE TIED CARD OF 'trunnionlaw14.NumericSwaps'. -/
def numericSwapsCard : Claim7 := { stood := { row := numericSwapsRow, standIns := [], harness := (true, "4a1c23f6276954754a8f5ca23860efe4c93ba3863ea7029be133ca33ad5b470d"), looks := false }, kinds := [], alts := [], laidByText := true, laidKinds := [.data], laidTests := true, laidLooks := .later }
def NumericSwapsCardSaid : Prop := Claim7.holds Tryz.pinned (.plain (OpenSpec.ofChange numericSwapsSpec)) numericSwapsCard

/-- THE TIED CARD OF 'trunnionlaw14.NumericKinds'. -/
def numericKindsCard : Claim7 := { stood := { row := numericKindsRow, standIns := [], harness := (true, "4a1c23f6276954754a8f5ca23860efe4c93ba3863ea7029be133ca33ad5b470d"), looks := false }, kinds := [], alts := [], laidByText := true, laidKinds := [.data], laidTests := true, laidLooks := .later }
def NumericKindsCardSaid : Prop := Claim7.holds Tryz.pinned (.plain (OpenSpec.ofChange numericKindsSpec)) numericKindsCard

/-- THE SECOND FORM's CARD OF 'trunniontop.TopRoots'. -/
def topRootsUptoCard : Claim7 := { stood := { row := topRootsUptoRow, standIns := [], harness := (true, "4a1c23f6276954754a8f5ca23860efe4c93ba3863ea7029be133ca33ad5b470d"), looks := false }, kinds := [], alts := [], laidByText := true, laidKinds := [.data], laidTests := true, laidLooks := .later }
def TopRootsUptoCardSaid : Prop := Claim7.holds Tryz.pinned (.plain (OpenSpec.upto topRootsSpec)) topRootsUptoCard

/-- THE SECOND FORM's CARD OF 'trunniontop.TopNearest'. -/
def topNearestUptoCard : Claim7 := { stood := { row := topNearestUptoRow, standIns := [], harness := (true, "4a1c23f6276954754a8f5ca23860efe4c93ba3863ea7029be133ca33ad5b470d"), looks := false }, kinds := [], alts := [], laidByText := true, laidKinds := [.data], laidTests := true, laidLooks := .later }
def TopNearestUptoCardSaid : Prop := Claim7.holds Tryz.pinned (.plain (OpenSpec.upto topNearestSpec)) topNearestUptoCard

/-- THE SECOND FORM's CARD OF 'trunnionlaw14.NumericApplies'. -/
def numericAppliesUptoCard : Claim7 := { stood := { row := numericAppliesUptoRow, standIns := [], harness := (true, "4a1c23f6276954754a8f5ca23860efe4c93ba3863ea7029be133ca33ad5b470d"), looks := false }, kinds := [], alts := [], laidByText := true, laidKinds := [.data], laidTests := true, laidLooks := .later }
def NumericAppliesUptoCardSaid : Prop := Claim7.holds Tryz.pinned (.plain (OpenSpec.upto numericAppliesSpec)) numericAppliesUptoCard

/-- THE SECOND FORM's CARD OF 'trunnionlaw14.NumericKeeps'. -/
def numericKeepsUptoCard : Claim7 := { stood := { row := numericKeepsUptoRow, standIns := [], harness := (true, "4a1c23f6276954754a8f5ca23860efe4c93ba3863ea7029be133ca33ad5b470d"), looks := false }, kinds := [], alts := [], laidByText := true, laidKinds := [.data], laidTests := true, laidLooks := .later }
def NumericKeepsUptoCardSaid : Prop := Claim7.holds Tryz.pinned (.plain (OpenSpec.upto numericKeepsSpec)) numericKeepsUptoCard

/-- THE SECOND FORM's CARD OF 'trunnionlaw14.NumericSwaps'. -/
def numericSwapsUptoCard : Claim7 := { stood := { row := numericSwapsUptoRow, standIns := [], harness := (true, "4a1c23f6276954754a8f5ca23860efe4c93ba3863ea7029be133ca33ad5b470d"), looks := false }, kinds := [], alts := [], laidByText := true, laidKinds := [.data], laidTests := true, laidLooks := .later }
def NumericSwapsUptoCardSaid : Prop := Claim7.holds Tryz.pinned (.plain (OpenSpec.upto numericSwapsSpec)) numericSwapsUptoCard

/-- THE SECOND FORM's CARD OF 'trunnionlaw14.NumericKinds'. -/
def numericKindsUptoCard : Claim7 := { stood := { row := numericKindsUptoRow, standIns := [], harness := (true, "4a1c23f6276954754a8f5ca23860efe4c93ba3863ea7029be133ca33ad5b470d"), looks := false }, kinds := [], alts := [], laidByText := true, laidKinds := [.data], laidTests := true, laidLooks := .later }
def NumericKindsUptoCardSaid : Prop := Claim7.holds Tryz.pinned (.plain (OpenSpec.upto numericKindsSpec)) numericKindsUptoCard
end Rows
end Go.Proofs.YtnmlmgmljoncoaaGreatDoor
