/-
  DERIVED. GIVEN WITH THE SEED: THE CARDS: each row of YtihibmcfklddeaaDoorRows.lean that lists a variable, with what it lists TIED to the program's text (the seventh form; the later family's looks); each row that meets fmt, with fmt's text TOLD by the authors' own Lean function (tested against real Go, not proved from fmt's source: count such statements apart). THE CARD IS WHAT COUNTS. Prove the row's statement (the work); the ties are given (YtihibmcfklddeaaDoorTie.lean); close each card by the builder's one call (the guide's Derived/Test/ToyasCard.lean, 'card_holds'). Laid BY PROGRAM, IN A SANDBOX (cutbox-door.mjs). By AI agents, Wed Nov 11 2026. No macro, syntax, notation, axiom, sorry.
-/
import Derived.Test.YtihibmcfklddeaaDoorRows
import GoSem.ClaimSeven
namespace Go.Proofs.YtihibmcfklddeaaDoor
namespace Rows

/-- THE TIED CARD OF 'jobshelllaw43.HistoryValid'. -/
def historyValidCard : Claim7 := { stood := { row := historyValidRow, standIns := [], harness := (true, "41d251cc5dbfcdd8ba4d2540b0ebc1524b5a55e26139d35d160d84acfebad03b"), looks := true }, kinds := [], alts := [], laidByText := true, laidKinds := [.data, .data, .data, .data, .sentinel, .sentinel, .pinned], laidTests := true, laidLooks := .later }
def HistoryValidCardSaid : Prop := Claim7.holds Tryd.pinned (.plain (OpenSpec.ofChange historyValidSpec)) historyValidCard

/-- THE TIED CARD OF 'jobshelllaw43.HistoryAdds'. -/
def historyAddsCard : Claim7 := { stood := { row := historyAddsRow, standIns := [], harness := (true, "41d251cc5dbfcdd8ba4d2540b0ebc1524b5a55e26139d35d160d84acfebad03b"), looks := true }, kinds := [], alts := [], laidByText := true, laidKinds := [.data, .data, .data, .data, .sentinel, .sentinel, .pinned], laidTests := true, laidLooks := .later }
def HistoryAddsCardSaid : Prop := Claim7.holds Tryd.pinned (.plain (OpenSpec.ofChange historyAddsSpec)) historyAddsCard

/-- THE TIED CARD OF 'jobshelllaw43.HistoryFinds'. -/
def historyFindsCard : Claim7 := { stood := { row := historyFindsRow, standIns := [], harness := (true, "41d251cc5dbfcdd8ba4d2540b0ebc1524b5a55e26139d35d160d84acfebad03b"), looks := true }, kinds := [], alts := [], laidByText := true, laidKinds := [.data, .data, .data, .data, .sentinel, .sentinel, .pinned], laidTests := true, laidLooks := .later }
def HistoryFindsCardSaid : Prop := Claim7.holds Tryd.pinned (.plain (OpenSpec.ofChange historyFindsSpec)) historyFindsCard

/-- THE TIED CARD OF 'jobshelllaw43.HistoryLoads'. -/
def historyLoadsCard : Claim7 := { stood := { row := historyLoadsRow, standIns := [], harness := (true, "41d251cc5dbfcdd8ba4d2540b0ebc1524b5a55e26139d35d160d84acfebad03b"), looks := true }, kinds := [], alts := [], laidByText := true, laidKinds := [.data, .data, .data, .data, .sentinel, .sentinel, .pinned], laidTests := true, laidLooks := .later }
def HistoryLoadsCardSaid : Prop := Claim7.holds Tryd.pinned (.plain (OpenSpec.ofChange historyLoadsSpec)) historyLoadsCard

/-- THE TIED CARD OF 'jobshelllaw43.HistoryBack'. -/
def historyBackCard : Claim7 := { stood := { row := historyBackRow, standIns := [], harness := (true, "41d251cc5dbfcdd8ba4d2540b0ebc1524b5a55e26139d35d160d84acfebad03b"), looks := true }, kinds := [], alts := [], laidByText := true, laidKinds := [.data, .data, .data, .data, .sentinel, .sentinel, .pinned], laidTests := true, laidLooks := .later }
def HistoryBackCardSaid : Prop := Claim7.holds Tryd.pinned (.plain (OpenSpec.ofChange historyBackSpec)) historyBackCard

/-- THE TIED CARD OF 'jobshelllaw43.HistoryLasts'. -/
def historyLastsCard : Claim7 := { stood := { row := historyLastsRow, standIns := [], harness := (true, "41d251cc5dbfcdd8ba4d2540b0ebc1524b5a55e26139d35d160d84acfebad03b"), looks := true }, kinds := [], alts := [], laidByText := true, laidKinds := [.data, .data, .data, .data, .sentinel, .sentinel, .pinned], laidTests := true, laidLooks := .later }
def HistoryLastsCardSaid : Prop := Claim7.holds Tryd.pinned (.plain (OpenSpec.ofChange historyLastsSpec)) historyLastsCard

/-- THE TIED CARD OF 'jobshelllaw43.HistoryKeeps'. -/
def historyKeepsCard : Claim7 := { stood := { row := historyKeepsRow, standIns := [], harness := (true, "41d251cc5dbfcdd8ba4d2540b0ebc1524b5a55e26139d35d160d84acfebad03b"), looks := true }, kinds := [], alts := [], laidByText := true, laidKinds := [.data, .data, .data, .data, .sentinel, .sentinel, .pinned], laidTests := true, laidLooks := .later }
def HistoryKeepsCardSaid : Prop := Claim7.holds Tryd.pinned (.plain (OpenSpec.ofChange historyKeepsSpec)) historyKeepsCard

/-- THE SECOND FORM's CARD OF 'jobshelllaw43.HistoryValid'. -/
def historyValidUptoCard : Claim7 := { stood := { row := historyValidUptoRow, standIns := [], harness := (true, "41d251cc5dbfcdd8ba4d2540b0ebc1524b5a55e26139d35d160d84acfebad03b"), looks := true }, kinds := [], alts := [], laidByText := true, laidKinds := [.data, .data, .data, .data, .sentinel, .sentinel, .pinned], laidTests := true, laidLooks := .later }
def HistoryValidUptoCardSaid : Prop := Claim7.holds Tryd.pinned (.plain (OpenSpec.upto historyValidSpec)) historyValidUptoCard

/-- THE SECOND FORM's CARD OF 'jobshelllaw43.HistoryAdds'. -/
def historyAddsUptoCard : Claim7 := { stood := { row := historyAddsUptoRow, standIns := [], harness := (true, "41d251cc5dbfcdd8ba4d2540b0ebc1524b5a55e26139d35d160d84acfebad03b"), looks := true }, kinds := [], alts := [], laidByText := true, laidKinds := [.data, .data, .data, .data, .sentinel, .sentinel, .pinned], laidTests := true, laidLooks := .later }
def HistoryAddsUptoCardSaid : Prop := Claim7.holds Tryd.pinned (.plain (OpenSpec.upto historyAddsSpec)) historyAddsUptoCard

/-- THE SECOND FORM's CARD OF 'jobshelllaw43.HistoryFinds'. -/
def historyFindsUptoCard : Claim7 := { stood := { row := historyFindsUptoRow, standIns := [], harness := (true, "41d251cc5dbfcdd8ba4d2540b0ebc1524b5a55e26139d35d160d84acfebad03b"), looks := true }, kinds := [], alts := [], laidByText := true, laidKinds := [.data, .data, .data, .data, .sentinel, .sentinel, .pinned], laidTests := true, laidLooks := .later }
def HistoryFindsUptoCardSaid : Prop := Claim7.holds Tryd.pinned (.plain (OpenSpec.upto historyFindsSpec)) historyFindsUptoCard

/-- THE SECOND FORM's CARD OF 'jobshelllaw43.HistoryLoads'. -/
def historyLoadsUptoCard : Claim7 := { stood := { row := historyLoadsUptoRow, standIns := [], harness := (true, "41d251cc5dbfcdd8ba4d2540b0ebc1524b5a55e26139d35d160d84acfebad03b"), looks := true }, kinds := [], alts := [], laidByText := true, laidKinds := [.data, .data, .data, .data, .sentinel, .sentinel, .pinned], laidTests := true, laidLooks := .later }
def HistoryLoadsUptoCardSaid : Prop := Claim7.holds Tryd.pinned (.plain (OpenSpec.upto historyLoadsSpec)) historyLoadsUptoCard

/-- THE SECOND FORM's CARD OF 'jobshelllaw43.HistoryBack'. -/
def historyBackUptoCard : Claim7 := { stood := { row := historyBackUptoRow, standIns := [], harness := (true, "41d251cc5dbfcdd8ba4d2540b0ebc1524b5a55e26139d35d160d84acfebad03b"), looks := true }, kinds := [], alts := [], laidByText := true, laidKinds := [.data, .data, .data, .data, .sentinel, .sentinel, .pinned], laidTests := true, laidLooks := .later }
def HistoryBackUptoCardSaid : Prop := Claim7.holds Tryd.pinned (.plain (OpenSpec.upto historyBackSpec)) historyBackUptoCard

/-- THE SECOND FORM's CARD OF 'jobshelllaw43.HistoryLasts'. -/
def historyLastsUptoCard : Claim7 := { stood := { row := historyLastsUptoRow, standIns := [], harness := (true, "41d251cc5dbfcdd8ba4d2540b0ebc1524b5a55e26139d35d160d84acfebad03b"), looks := true }, kinds := [], alts := [], laidByText := true, laidKinds := [.data, .data, .data, .data, .sentinel, .sentinel, .pinned], laidTests := true, laidLooks := .later }
def HistoryLastsUptoCardSaid : Prop := Claim7.holds Tryd.pinned (.plain (OpenSpec.upto historyLastsSpec)) historyLastsUptoCard

/-- THE SECOND FORM's CARD OF 'jobshelllaw43.HistoryKeeps'. -/
def historyKeepsUptoCard : Claim7 := { stood := { row := historyKeepsUptoRow, standIns := [], harness := (true, "41d251cc5dbfcdd8ba4d2540b0ebc1524b5a55e26139d35d160d84acfebad03b"), looks := true }, kinds := [], alts := [], laidByText := true, laidKinds := [.data, .data, .data, .data, .sentinel, .sentinel, .pinned], laidTests := true, laidLooks := .later }
def HistoryKeepsUptoCardSaid : Prop := Claim7.holds Tryd.pinned (.plain (OpenSpec.upto historyKeepsSpec)) historyKeepsUptoCard
end Rows
end Go.Proofs.YtihibmcfklddeaaDoor
