/-
  DERIVED. GIVEN WITH THE SEED: THE CARDS: each row of YthdeeoallfbjmaaDoorRows.lean that lists a variable, with what it lists TIED to the program's text (the seventh form; the later family's looks); each row that meets fmt, with fmt's text TOLD by the authors' own Lean function (tested against real Go, not proved from fmt's source: count such statements apart). THE CARD IS WHAT COUNTS. Prove the row's statement (the work); the ties are given (YthdeeoallfbjmaaDoorTie.lean); close each card by the builder's one call (the guide's Derived/Test/ToyasCard.lean, 'card_holds'). Laid BY PROGRAM, IN A SANDBOX (cutbox-door.mjs). By AI agents, Wed Nov 11 2026. No macro, syntax, notation, axiom, sorry.
-/
import Derived.Test.YthdeeoallfbjmaaDoorRows
import GoSem.ClaimSeven
namespace Go.Proofs.YthdeeoallfbjmaaDoor
namespace Rows

/-- THE TIED CARD OF 'trunnionlaw13.IntsRuns'. -/
def intsRunsCard : Claim7 := { stood := { row := intsRunsRow, standIns := [], harness := (true, "b96310178990f38e2d0d65c47ed25f6bb49f607043c2e8db7f8af07a71d826c0"), looks := false }, kinds := [], alts := [], laidByText := true, laidKinds := [.data], laidTests := true, laidLooks := .later }
def IntsRunsCardSaid : Prop := Claim7.holds Tryd.pinned (.plain (OpenSpec.ofChange intsRunsSpec)) intsRunsCard

/-- THE TIED CARD OF 'trunnionlaw13.IntsCounts'. -/
def intsCountsCard : Claim7 := { stood := { row := intsCountsRow, standIns := [], harness := (true, "b96310178990f38e2d0d65c47ed25f6bb49f607043c2e8db7f8af07a71d826c0"), looks := false }, kinds := [], alts := [], laidByText := true, laidKinds := [.data], laidTests := true, laidLooks := .later }
def IntsCountsCardSaid : Prop := Claim7.holds Tryd.pinned (.plain (OpenSpec.ofChange intsCountsSpec)) intsCountsCard

/-- THE TIED CARD OF 'trunnionlaw11.CastMakes'. -/
def castMakesCard : Claim7 := { stood := { row := castMakesRow, standIns := [], harness := (true, "b96310178990f38e2d0d65c47ed25f6bb49f607043c2e8db7f8af07a71d826c0"), looks := false }, kinds := [], alts := [], laidByText := true, laidKinds := [.data], laidTests := true, laidLooks := .later }
def CastMakesCardSaid : Prop := Claim7.holds Tryd.pinned (.plain (OpenSpec.ofChange castMakesSpec)) castMakesCard

/-- THE TIED CARD OF 'trunnionlaw11.CastBack'. -/
def castBackCard : Claim7 := { stood := { row := castBackRow, standIns := [], harness := (true, "b96310178990f38e2d0d65c47ed25f6bb49f607043c2e8db7f8af07a71d826c0"), looks := false }, kinds := [], alts := [], laidByText := true, laidKinds := [.data], laidTests := true, laidLooks := .later }
def CastBackCardSaid : Prop := Claim7.holds Tryd.pinned (.plain (OpenSpec.ofChange castBackSpec)) castBackCard

/-- THE TIED CARD OF 'trunnionlaw12.ChopBack'. -/
def chopBackCard : Claim7 := { stood := { row := chopBackRow, standIns := [], harness := (true, "b96310178990f38e2d0d65c47ed25f6bb49f607043c2e8db7f8af07a71d826c0"), looks := false }, kinds := [], alts := [], laidByText := true, laidKinds := [.data], laidTests := true, laidLooks := .later }
def ChopBackCardSaid : Prop := Claim7.holds Tryd.pinned (.plain (OpenSpec.ofChange chopBackSpec)) chopBackCard

/-- THE SECOND FORM's CARD OF 'trunnionlaw13.IntsRuns'. -/
def intsRunsUptoCard : Claim7 := { stood := { row := intsRunsUptoRow, standIns := [], harness := (true, "b96310178990f38e2d0d65c47ed25f6bb49f607043c2e8db7f8af07a71d826c0"), looks := false }, kinds := [], alts := [], laidByText := true, laidKinds := [.data], laidTests := true, laidLooks := .later }
def IntsRunsUptoCardSaid : Prop := Claim7.holds Tryd.pinned (.plain (OpenSpec.upto intsRunsSpec)) intsRunsUptoCard

/-- THE SECOND FORM's CARD OF 'trunnionlaw13.IntsCounts'. -/
def intsCountsUptoCard : Claim7 := { stood := { row := intsCountsUptoRow, standIns := [], harness := (true, "b96310178990f38e2d0d65c47ed25f6bb49f607043c2e8db7f8af07a71d826c0"), looks := false }, kinds := [], alts := [], laidByText := true, laidKinds := [.data], laidTests := true, laidLooks := .later }
def IntsCountsUptoCardSaid : Prop := Claim7.holds Tryd.pinned (.plain (OpenSpec.upto intsCountsSpec)) intsCountsUptoCard

/-- THE SECOND FORM's CARD OF 'trunnionlaw11.CastMakes'. -/
def castMakesUptoCard : Claim7 := { stood := { row := castMakesUptoRow, standIns := [], harness := (true, "b96310178990f38e2d0d65c47ed25f6bb49f607043c2e8db7f8af07a71d826c0"), looks := false }, kinds := [], alts := [], laidByText := true, laidKinds := [.data], laidTests := true, laidLooks := .later }
def CastMakesUptoCardSaid : Prop := Claim7.holds Tryd.pinned (.plain (OpenSpec.upto castMakesSpec)) castMakesUptoCard

/-- THE SECOND FORM's CARD OF 'trunnionlaw11.CastBack'. -/
def castBackUptoCard : Claim7 := { stood := { row := castBackUptoRow, standIns := [], harness := (true, "b96310178990f38e2d0d65c47ed25f6bb49f607043c2e8db7f8af07a71d826c0"), looks := false }, kinds := [], alts := [], laidByText := true, laidKinds := [.data], laidTests := true, laidLooks := .later }
def CastBackUptoCardSaid : Prop := Claim7.holds Tryd.pinned (.plain (OpenSpec.upto castBackSpec)) castBackUptoCard

/-- THE SECOND FORM's CARD OF 'trunnionlaw12.ChopBack'. -/
def chopBackUptoCard : Claim7 := { stood := { row := chopBackUptoRow, standIns := [], harness := (true, "b96310178990f38e2d0d65c47ed25f6bb49f607043c2e8db7f8af07a71d826c0"), looks := false }, kinds := [], alts := [], laidByText := true, laidKinds := [.data], laidTests := true, laidLooks := .later }
def ChopBackUptoCardSaid : Prop := Claim7.holds Tryd.pinned (.plain (OpenSpec.upto chopBackSpec)) chopBackUptoCard
end Rows
end Go.Proofs.YthdeeoallfbjmaaDoor
