/-
  DERIVED. GIVEN WITH THE SEED: THE CARDS: each row of YtbbddeilbcpmiaaDoorRows.lean that lists a variable, with what it lists TIED to the program's text (the seventh form; the later family's looks); each row that meets fmt, with fmt's text TOLD by the authors' own Lean function (tested against real Go, not proved from fmt's source: count such statements apart). THE CARD IS WHAT COUNTS. Prove the row's statement (the work); the ties are given (YtbbddeilbcpmiaaDoorTie.lean); close each card by the builder's one call (the guide's Derived/Test/ToyasCard.lean, 'card_holds'). Laid BY PROGRAM, IN A SANDBOX (cutbox-door.mjs). By AI agents, Wed Nov 11 2026. No macro, syntax, notation, axiom, sorry.
-/
import Derived.Test.YtbbddeilbcpmiaaDoorRows
import GoSem.ClaimSeven
namespace Go.Proofs.YtbbddeilbcpmiaaDoor
namespace Rows

/-- THE TIED CARD OF 'intervalmonlaw28.AlertValid'. -/
def alertValidCard : Claim7 := { stood := { row := alertValidRow, standIns := [], harness := (true, "1f1a2375b76b6bf36a68c3e84ac86e6dd728b45428fec8ae5926fd5ad6c73209"), looks := false }, kinds := [], alts := [], laidByText := true, laidKinds := [.data], laidTests := true, laidLooks := .later }
def AlertValidCardSaid : Prop := Claim7.holds Tryd.pinned (.plain (OpenSpec.ofChange alertValidSpec)) alertValidCard

/-- THE TIED CARD OF 'intervalmonlaw28.AlertStep'. -/
def alertStepCard : Claim7 := { stood := { row := alertStepRow, standIns := [], harness := (true, "1f1a2375b76b6bf36a68c3e84ac86e6dd728b45428fec8ae5926fd5ad6c73209"), looks := false }, kinds := [], alts := [], laidByText := true, laidKinds := [.data], laidTests := true, laidLooks := .later }
def AlertStepCardSaid : Prop := Claim7.holds Tryd.pinned (.plain (OpenSpec.ofChange alertStepSpec)) alertStepCard

/-- THE TIED CARD OF 'intervalmonlaw28.AlertEscalate'. -/
def alertEscalateCard : Claim7 := { stood := { row := alertEscalateRow, standIns := [], harness := (true, "1f1a2375b76b6bf36a68c3e84ac86e6dd728b45428fec8ae5926fd5ad6c73209"), looks := false }, kinds := [], alts := [], laidByText := true, laidKinds := [.data], laidTests := true, laidLooks := .later }
def AlertEscalateCardSaid : Prop := Claim7.holds Tryd.pinned (.plain (OpenSpec.ofChange alertEscalateSpec)) alertEscalateCard

/-- THE TIED CARD OF 'intervalmonlaw28.AlertHysteresis'. -/
def alertHysteresisCard : Claim7 := { stood := { row := alertHysteresisRow, standIns := [], harness := (true, "1f1a2375b76b6bf36a68c3e84ac86e6dd728b45428fec8ae5926fd5ad6c73209"), looks := false }, kinds := [], alts := [], laidByText := true, laidKinds := [.data], laidTests := true, laidLooks := .later }
def AlertHysteresisCardSaid : Prop := Claim7.holds Tryd.pinned (.plain (OpenSpec.ofChange alertHysteresisSpec)) alertHysteresisCard

/-- THE TIED CARD OF 'intervalmonlaw28.AlertTruths'. -/
def alertTruthsCard : Claim7 := { stood := { row := alertTruthsRow, standIns := [], harness := (true, "1f1a2375b76b6bf36a68c3e84ac86e6dd728b45428fec8ae5926fd5ad6c73209"), looks := false }, kinds := [], alts := [], laidByText := true, laidKinds := [.data], laidTests := true, laidLooks := .later }
def AlertTruthsCardSaid : Prop := Claim7.holds Tryd.pinned (.plain (OpenSpec.ofChange alertTruthsSpec)) alertTruthsCard

/-- THE TIED CARD OF 'intervalmonlaw28.AlertOnce'. -/
def alertOnceCard : Claim7 := { stood := { row := alertOnceRow, standIns := [], harness := (true, "1f1a2375b76b6bf36a68c3e84ac86e6dd728b45428fec8ae5926fd5ad6c73209"), looks := false }, kinds := [], alts := [], laidByText := true, laidKinds := [.data], laidTests := true, laidLooks := .later }
def AlertOnceCardSaid : Prop := Claim7.holds Tryd.pinned (.plain (OpenSpec.ofChange alertOnceSpec)) alertOnceCard

/-- THE TIED CARD OF 'intervalmonlaw28.AlertAck'. -/
def alertAckCard : Claim7 := { stood := { row := alertAckRow, standIns := [], harness := (true, "1f1a2375b76b6bf36a68c3e84ac86e6dd728b45428fec8ae5926fd5ad6c73209"), looks := false }, kinds := [], alts := [], laidByText := true, laidKinds := [.data], laidTests := true, laidLooks := .later }
def AlertAckCardSaid : Prop := Claim7.holds Tryd.pinned (.plain (OpenSpec.ofChange alertAckSpec)) alertAckCard

/-- THE TIED CARD OF 'intervalmonlaw28.AlertRuns'. -/
def alertRunsCard : Claim7 := { stood := { row := alertRunsRow, standIns := [], harness := (true, "1f1a2375b76b6bf36a68c3e84ac86e6dd728b45428fec8ae5926fd5ad6c73209"), looks := false }, kinds := [], alts := [], laidByText := true, laidKinds := [.data], laidTests := true, laidLooks := .later }
def AlertRunsCardSaid : Prop := Claim7.holds Tryd.pinned (.plain (OpenSpec.ofChange alertRunsSpec)) alertRunsCard

/-- THE TIED CARD OF 'intervalmonlaw28.AlertLadder'. -/
def alertLadderCard : Claim7 := { stood := { row := alertLadderRow, standIns := [], harness := (true, "1f1a2375b76b6bf36a68c3e84ac86e6dd728b45428fec8ae5926fd5ad6c73209"), looks := false }, kinds := [], alts := [], laidByText := true, laidKinds := [.data], laidTests := true, laidLooks := .later }
def AlertLadderCardSaid : Prop := Claim7.holds Tryd.pinned (.plain (OpenSpec.ofChange alertLadderSpec)) alertLadderCard

/-- THE TIED CARD OF 'intervalmonlaw28.AlertNarrows'. -/
def alertNarrowsCard : Claim7 := { stood := { row := alertNarrowsRow, standIns := [], harness := (true, "1f1a2375b76b6bf36a68c3e84ac86e6dd728b45428fec8ae5926fd5ad6c73209"), looks := false }, kinds := [], alts := [], laidByText := true, laidKinds := [.data], laidTests := true, laidLooks := .later }
def AlertNarrowsCardSaid : Prop := Claim7.holds Tryd.pinned (.plain (OpenSpec.ofChange alertNarrowsSpec)) alertNarrowsCard

/-- THE SECOND FORM's CARD OF 'intervalmonlaw28.AlertValid'. -/
def alertValidUptoCard : Claim7 := { stood := { row := alertValidUptoRow, standIns := [], harness := (true, "1f1a2375b76b6bf36a68c3e84ac86e6dd728b45428fec8ae5926fd5ad6c73209"), looks := false }, kinds := [], alts := [], laidByText := true, laidKinds := [.data], laidTests := true, laidLooks := .later }
def AlertValidUptoCardSaid : Prop := Claim7.holds Tryd.pinned (.plain (OpenSpec.upto alertValidSpec)) alertValidUptoCard

/-- THE SECOND FORM's CARD OF 'intervalmonlaw28.AlertStep'. -/
def alertStepUptoCard : Claim7 := { stood := { row := alertStepUptoRow, standIns := [], harness := (true, "1f1a2375b76b6bf36a68c3e84ac86e6dd728b45428fec8ae5926fd5ad6c73209"), looks := false }, kinds := [], alts := [], laidByText := true, laidKinds := [.data], laidTests := true, laidLooks := .later }
def AlertStepUptoCardSaid : Prop := Claim7.holds Tryd.pinned (.plain (OpenSpec.upto alertStepSpec)) alertStepUptoCard

/-- THE SECOND FORM's CARD OF 'intervalmonlaw28.AlertEscalate'. -/
def alertEscalateUptoCard : Claim7 := { stood := { row := alertEscalateUptoRow, standIns := [], harness := (true, "1f1a2375b76b6bf36a68c3e84ac86e6dd728b45428fec8ae5926fd5ad6c73209"), looks := false }, kinds := [], alts := [], laidByText := true, laidKinds := [.data], laidTests := true, laidLooks := .later }
def AlertEscalateUptoCardSaid : Prop := Claim7.holds Tryd.pinned (.plain (OpenSpec.upto alertEscalateSpec)) alertEscalateUptoCard

/-- THE SECOND FORM's CARD OF 'intervalmonlaw28.AlertHysteresis'. -/
def alertHysteresisUptoCard : Claim7 := { stood := { row := alertHysteresisUptoRow, standIns := [], harness := (true, "1f1a2375b76b6bf36a68c3e84ac86e6dd728b45428fec8ae5926fd5ad6c73209"), looks := false }, kinds := [], alts := [], laidByText := true, laidKinds := [.data], laidTests := true, laidLooks := .later }
def AlertHysteresisUptoCardSaid : Prop := Claim7.holds Tryd.pinned (.plain (OpenSpec.upto alertHysteresisSpec)) alertHysteresisUptoCard

/-- THE SECOND FORM's CARD OF 'intervalmonlaw28.AlertTruths'. -/
def alertTruthsUptoCard : Claim7 := { stood := { row := alertTruthsUptoRow, standIns := [], harness := (true, "1f1a2375b76b6bf36a68c3e84ac86e6dd728b45428fec8ae5926fd5ad6c73209"), looks := false }, kinds := [], alts := [], laidByText := true, laidKinds := [.data], laidTests := true, laidLooks := .later }
def AlertTruthsUptoCardSaid : Prop := Claim7.holds Tryd.pinned (.plain (OpenSpec.upto alertTruthsSpec)) alertTruthsUptoCard

/-- THE SECOND FORM's CARD OF 'intervalmonlaw28.AlertOnce'. -/
def alertOnceUptoCard : Claim7 := { stood := { row := alertOnceUptoRow, standIns := [], harness := (true, "1f1a2375b76b6bf36a68c3e84ac86e6dd728b45428fec8ae5926fd5ad6c73209"), looks := false }, kinds := [], alts := [], laidByText := true, laidKinds := [.data], laidTests := true, laidLooks := .later }
def AlertOnceUptoCardSaid : Prop := Claim7.holds Tryd.pinned (.plain (OpenSpec.upto alertOnceSpec)) alertOnceUptoCard

/-- THE SECOND FORM's CARD OF 'intervalmonlaw28.AlertAck'. -/
def alertAckUptoCard : Claim7 := { stood := { row := alertAckUptoRow, standIns := [], harness := (true, "1f1a2375b76b6bf36a68c3e84ac86e6dd728b45428fec8ae5926fd5ad6c73209"), looks := false }, kinds := [], alts := [], laidByText := true, laidKinds := [.data], laidTests := true, laidLooks := .later }
def AlertAckUptoCardSaid : Prop := Claim7.holds Tryd.pinned (.plain (OpenSpec.upto alertAckSpec)) alertAckUptoCard

/-- THE SECOND FORM's CARD OF 'intervalmonlaw28.AlertRuns'. -/
def alertRunsUptoCard : Claim7 := { stood := { row := alertRunsUptoRow, standIns := [], harness := (true, "1f1a2375b76b6bf36a68c3e84ac86e6dd728b45428fec8ae5926fd5ad6c73209"), looks := false }, kinds := [], alts := [], laidByText := true, laidKinds := [.data], laidTests := true, laidLooks := .later }
def AlertRunsUptoCardSaid : Prop := Claim7.holds Tryd.pinned (.plain (OpenSpec.upto alertRunsSpec)) alertRunsUptoCard

/-- THE SECOND FORM's CARD OF 'intervalmonlaw28.AlertLadder'. -/
def alertLadderUptoCard : Claim7 := { stood := { row := alertLadderUptoRow, standIns := [], harness := (true, "1f1a2375b76b6bf36a68c3e84ac86e6dd728b45428fec8ae5926fd5ad6c73209"), looks := false }, kinds := [], alts := [], laidByText := true, laidKinds := [.data], laidTests := true, laidLooks := .later }
def AlertLadderUptoCardSaid : Prop := Claim7.holds Tryd.pinned (.plain (OpenSpec.upto alertLadderSpec)) alertLadderUptoCard

/-- THE SECOND FORM's CARD OF 'intervalmonlaw28.AlertNarrows'. -/
def alertNarrowsUptoCard : Claim7 := { stood := { row := alertNarrowsUptoRow, standIns := [], harness := (true, "1f1a2375b76b6bf36a68c3e84ac86e6dd728b45428fec8ae5926fd5ad6c73209"), looks := false }, kinds := [], alts := [], laidByText := true, laidKinds := [.data], laidTests := true, laidLooks := .later }
def AlertNarrowsUptoCardSaid : Prop := Claim7.holds Tryd.pinned (.plain (OpenSpec.upto alertNarrowsSpec)) alertNarrowsUptoCard
end Rows
end Go.Proofs.YtbbddeilbcpmiaaDoor
