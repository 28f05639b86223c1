/-
  DERIVED. GIVEN WITH THE SEED: THE CARDS: each row of YtdjfbghdnkjdoaaDoorRows.lean that lists a variable, with what it lists TIED to the program's text (the seventh form; the later family's looks); each row that meets fmt, with fmt's text TOLD by the authors' own Lean function (tested against real Go, not proved from fmt's source: count such statements apart). THE CARD IS WHAT COUNTS. Prove the row's statement (the work); the ties are given (YtdjfbghdnkjdoaaDoorTie.lean); close each card by the builder's one call (the guide's Derived/Test/ToyasCard.lean, 'card_holds'). Laid BY PROGRAM, IN A SANDBOX (cutbox-door.mjs). By AI agents, Wed Nov 11 2026. No macro, syntax, notation, axiom, sorry.
-/
import Derived.Test.YtdjfbghdnkjdoaaDoorRows
import GoSem.ClaimSeven
namespace Go.Proofs.YtdjfbghdnkjdoaaDoor
namespace Rows

/-- THE TIED CARD OF 'timesynclaw13.PllChecks'. -/
def pllChecksCard : Claim7 := { stood := { row := pllChecksRow, standIns := [], harness := (true, "14c5617f3e3af27628ec5af5b8c52471d4a9508a82614337a75a328c26de5dc7"), looks := false }, kinds := [], alts := [], laidByText := true, laidKinds := [.data], laidTests := true, laidLooks := .later }
def PllChecksCardSaid : Prop := Claim7.holds Tryd.pinned (.plain (OpenSpec.ofChange pllChecksSpec)) pllChecksCard

/-- THE TIED CARD OF 'timesynclaw13.PllRuns'. -/
def pllRunsCard : Claim7 := { stood := { row := pllRunsRow, standIns := [], harness := (true, "14c5617f3e3af27628ec5af5b8c52471d4a9508a82614337a75a328c26de5dc7"), looks := false }, kinds := [], alts := [], laidByText := true, laidKinds := [.data], laidTests := true, laidLooks := .later }
def PllRunsCardSaid : Prop := Claim7.holds Tryd.pinned (.plain (OpenSpec.ofChange pllRunsSpec)) pllRunsCard

/-- THE TIED CARD OF 'timesynclaw13.PllLimits'. -/
def pllLimitsCard : Claim7 := { stood := { row := pllLimitsRow, standIns := [], harness := (true, "14c5617f3e3af27628ec5af5b8c52471d4a9508a82614337a75a328c26de5dc7"), looks := false }, kinds := [], alts := [], laidByText := true, laidKinds := [.data], laidTests := true, laidLooks := .later }
def PllLimitsCardSaid : Prop := Claim7.holds Tryd.pinned (.plain (OpenSpec.ofChange pllLimitsSpec)) pllLimitsCard

/-- THE TIED CARD OF 'timesynclaw13.PllTicks'. -/
def pllTicksCard : Claim7 := { stood := { row := pllTicksRow, standIns := [], harness := (true, "14c5617f3e3af27628ec5af5b8c52471d4a9508a82614337a75a328c26de5dc7"), looks := false }, kinds := [], alts := [], laidByText := true, laidKinds := [.data], laidTests := true, laidLooks := .later }
def PllTicksCardSaid : Prop := Claim7.holds Tryd.pinned (.plain (OpenSpec.ofChange pllTicksSpec)) pllTicksCard

/-- THE TIED CARD OF 'timesynclaw13.PllSpikes'. -/
def pllSpikesCard : Claim7 := { stood := { row := pllSpikesRow, standIns := [], harness := (true, "14c5617f3e3af27628ec5af5b8c52471d4a9508a82614337a75a328c26de5dc7"), looks := false }, kinds := [], alts := [], laidByText := true, laidKinds := [.data], laidTests := true, laidLooks := .later }
def PllSpikesCardSaid : Prop := Claim7.holds Tryd.pinned (.plain (OpenSpec.ofChange pllSpikesSpec)) pllSpikesCard

/-- THE TIED CARD OF 'timesynclaw13.PllFirst'. -/
def pllFirstCard : Claim7 := { stood := { row := pllFirstRow, standIns := [], harness := (true, "14c5617f3e3af27628ec5af5b8c52471d4a9508a82614337a75a328c26de5dc7"), looks := false }, kinds := [], alts := [], laidByText := true, laidKinds := [.data], laidTests := true, laidLooks := .later }
def PllFirstCardSaid : Prop := Claim7.holds Tryd.pinned (.plain (OpenSpec.ofChange pllFirstSpec)) pllFirstCard

/-- THE TIED CARD OF 'timesynclaw13.PllNobody'. -/
def pllNobodyCard : Claim7 := { stood := { row := pllNobodyRow, standIns := [], harness := (true, "14c5617f3e3af27628ec5af5b8c52471d4a9508a82614337a75a328c26de5dc7"), looks := false }, kinds := [], alts := [], laidByText := true, laidKinds := [.data], laidTests := true, laidLooks := .later }
def PllNobodyCardSaid : Prop := Claim7.holds Tryd.pinned (.plain (OpenSpec.ofChange pllNobodySpec)) pllNobodyCard

/-- THE SECOND FORM's CARD OF 'timesynclaw13.PllChecks'. -/
def pllChecksUptoCard : Claim7 := { stood := { row := pllChecksUptoRow, standIns := [], harness := (true, "14c5617f3e3af27628ec5af5b8c52471d4a9508a82614337a75a328c26de5dc7"), looks := false }, kinds := [], alts := [], laidByText := true, laidKinds := [.data], laidTests := true, laidLooks := .later }
def PllChecksUptoCardSaid : Prop := Claim7.holds Tryd.pinned (.plain (OpenSpec.upto pllChecksSpec)) pllChecksUptoCard

/-- THE SECOND FORM's CARD OF 'timesynclaw13.PllRuns'. -/
def pllRunsUptoCard : Claim7 := { stood := { row := pllRunsUptoRow, standIns := [], harness := (true, "14c5617f3e3af27628ec5af5b8c52471d4a9508a82614337a75a328c26de5dc7"), looks := false }, kinds := [], alts := [], laidByText := true, laidKinds := [.data], laidTests := true, laidLooks := .later }
def PllRunsUptoCardSaid : Prop := Claim7.holds Tryd.pinned (.plain (OpenSpec.upto pllRunsSpec)) pllRunsUptoCard

/-- THE SECOND FORM's CARD OF 'timesynclaw13.PllLimits'. -/
def pllLimitsUptoCard : Claim7 := { stood := { row := pllLimitsUptoRow, standIns := [], harness := (true, "14c5617f3e3af27628ec5af5b8c52471d4a9508a82614337a75a328c26de5dc7"), looks := false }, kinds := [], alts := [], laidByText := true, laidKinds := [.data], laidTests := true, laidLooks := .later }
def PllLimitsUptoCardSaid : Prop := Claim7.holds Tryd.pinned (.plain (OpenSpec.upto pllLimitsSpec)) pllLimitsUptoCard

/-- THE SECOND FORM's CARD OF 'timesynclaw13.PllTicks'. -/
def pllTicksUptoCard : Claim7 := { stood := { row := pllTicksUptoRow, standIns := [], harness := (true, "14c5617f3e3af27628ec5af5b8c52471d4a9508a82614337a75a328c26de5dc7"), looks := false }, kinds := [], alts := [], laidByText := true, laidKinds := [.data], laidTests := true, laidLooks := .later }
def PllTicksUptoCardSaid : Prop := Claim7.holds Tryd.pinned (.plain (OpenSpec.upto pllTicksSpec)) pllTicksUptoCard

/-- THE SECOND FORM's CARD OF 'timesynclaw13.PllSpikes'. -/
def pllSpikesUptoCard : Claim7 := { stood := { row := pllSpikesUptoRow, standIns := [], harness := (true, "14c5617f3e3af27628ec5af5b8c52471d4a9508a82614337a75a328c26de5dc7"), looks := false }, kinds := [], alts := [], laidByText := true, laidKinds := [.data], laidTests := true, laidLooks := .later }
def PllSpikesUptoCardSaid : Prop := Claim7.holds Tryd.pinned (.plain (OpenSpec.upto pllSpikesSpec)) pllSpikesUptoCard

/-- THE SECOND FORM's CARD OF 'timesynclaw13.PllFirst'. -/
def pllFirstUptoCard : Claim7 := { stood := { row := pllFirstUptoRow, standIns := [], harness := (true, "14c5617f3e3af27628ec5af5b8c52471d4a9508a82614337a75a328c26de5dc7"), looks := false }, kinds := [], alts := [], laidByText := true, laidKinds := [.data], laidTests := true, laidLooks := .later }
def PllFirstUptoCardSaid : Prop := Claim7.holds Tryd.pinned (.plain (OpenSpec.upto pllFirstSpec)) pllFirstUptoCard

/-- THE SECOND FORM's CARD OF 'timesynclaw13.PllNobody'. -/
def pllNobodyUptoCard : Claim7 := { stood := { row := pllNobodyUptoRow, standIns := [], harness := (true, "14c5617f3e3af27628ec5af5b8c52471d4a9508a82614337a75a328c26de5dc7"), looks := false }, kinds := [], alts := [], laidByText := true, laidKinds := [.data], laidTests := true, laidLooks := .later }
def PllNobodyUptoCardSaid : Prop := Claim7.holds Tryd.pinned (.plain (OpenSpec.upto pllNobodySpec)) pllNobodyUptoCard
end Rows
end Go.Proofs.YtdjfbghdnkjdoaaDoor
