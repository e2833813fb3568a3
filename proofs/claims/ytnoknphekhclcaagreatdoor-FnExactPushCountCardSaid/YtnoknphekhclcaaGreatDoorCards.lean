/-
  DERIVED. GIVEN WITH THE SEED: THE CARDS: each row of YtnoknphekhclcaaGreatDoorRows.lean that lists a variable, with what it lists TIED to the program's text (the seventh form; the later family's looks); each row that meets fmt, with fmt's text TOLD by the authors' own Lean function (tested against real Go, not proved from fmt's source: count such statements apart). THE CARD IS WHAT COUNTS. Prove the row's statement (the work); the ties are given (YtnoknphekhclcaaGreatDoorTie.lean); close each card by the builder's one call (the guide's Derived/Test/ToyasCard.lean, 'card_holds'). Laid BY PROGRAM, IN A SANDBOX (cutbox-door.mjs). By AI agents, Wed Nov 11 2026. No macro, syntax, notation, axiom, sorry.
-/
import Derived.Test.YtnoknphekhclcaaGreatDoorRows
import GoSem.ClaimSeven
namespace Go.Proofs.YtnoknphekhclcaaGreatDoor
namespace Rows

/-- THE TIED CARD OF 'laws.FnExactRuleHits'. -/
def fnExactRuleHitsCard : Claim7 := { stood := { row := fnExactRuleHitsRow, standIns := [], harness := (true, "2c3f2310051c3a3ba87363a41a0a00950abd281beb8288ba1e27b1f540fb5d88"), looks := false }, kinds := [], alts := [], laidByText := true, laidKinds := [.data, .data, .data], laidTests := true, laidLooks := .later }
def FnExactRuleHitsCardSaid : Prop := Claim7.holds Tryz.pinned (.plain (OpenSpec.ofChange fnExactRuleHitsSpec)) fnExactRuleHitsCard

/-- THE TIED CARD OF 'laws.FnExactCalls'. -/
def fnExactCallsCard : Claim7 := { stood := { row := fnExactCallsRow, standIns := [], harness := (true, "2c3f2310051c3a3ba87363a41a0a00950abd281beb8288ba1e27b1f540fb5d88"), looks := false }, kinds := [], alts := [], laidByText := true, laidKinds := [.data, .data, .data], laidTests := true, laidLooks := .later }
def FnExactCallsCardSaid : Prop := Claim7.holds Tryz.pinned (.plain (OpenSpec.ofChange fnExactCallsSpec)) fnExactCallsCard

/-- THE TIED CARD OF 'laws.FnExactPushOf'. -/
def fnExactPushOfCard : Claim7 := { stood := { row := fnExactPushOfRow, standIns := [], harness := (true, "2c3f2310051c3a3ba87363a41a0a00950abd281beb8288ba1e27b1f540fb5d88"), looks := false }, kinds := [], alts := [], laidByText := true, laidKinds := [.data, .data, .data], laidTests := true, laidLooks := .later }
def FnExactPushOfCardSaid : Prop := Claim7.holds Tryz.pinned (.plain (OpenSpec.ofChange fnExactPushOfSpec)) fnExactPushOfCard

/-- THE TIED CARD OF 'laws.FnExactPushCount'. -/
def fnExactPushCountCard : Claim7 := { stood := { row := fnExactPushCountRow, standIns := [], harness := (true, "2c3f2310051c3a3ba87363a41a0a00950abd281beb8288ba1e27b1f540fb5d88"), looks := false }, kinds := [], alts := [], laidByText := true, laidKinds := [.data, .data, .data], laidTests := true, laidLooks := .later }
def FnExactPushCountCardSaid : Prop := Claim7.holds Tryz.pinned (.plain (OpenSpec.ofChange fnExactPushCountSpec)) fnExactPushCountCard

/-- THE SECOND FORM's CARD OF 'laws.FnExactRuleHits'. -/
def fnExactRuleHitsUptoCard : Claim7 := { stood := { row := fnExactRuleHitsUptoRow, standIns := [], harness := (true, "2c3f2310051c3a3ba87363a41a0a00950abd281beb8288ba1e27b1f540fb5d88"), looks := false }, kinds := [], alts := [], laidByText := true, laidKinds := [.data, .data, .data], laidTests := true, laidLooks := .later }
def FnExactRuleHitsUptoCardSaid : Prop := Claim7.holds Tryz.pinned (.plain (OpenSpec.upto fnExactRuleHitsSpec)) fnExactRuleHitsUptoCard

/-- THE SECOND FORM's CARD OF 'laws.FnExactCalls'. -/
def fnExactCallsUptoCard : Claim7 := { stood := { row := fnExactCallsUptoRow, standIns := [], harness := (true, "2c3f2310051c3a3ba87363a41a0a00950abd281beb8288ba1e27b1f540fb5d88"), looks := false }, kinds := [], alts := [], laidByText := true, laidKinds := [.data, .data, .data], laidTests := true, laidLooks := .later }
def FnExactCallsUptoCardSaid : Prop := Claim7.holds Tryz.pinned (.plain (OpenSpec.upto fnExactCallsSpec)) fnExactCallsUptoCard

/-- THE SECOND FORM's CARD OF 'laws.FnExactPushOf'. -/
def fnExactPushOfUptoCard : Claim7 := { stood := { row := fnExactPushOfUptoRow, standIns := [], harness := (true, "2c3f2310051c3a3ba87363a41a0a00950abd281beb8288ba1e27b1f540fb5d88"), looks := false }, kinds := [], alts := [], laidByText := true, laidKinds := [.data, .data, .data], laidTests := true, laidLooks := .later }
def FnExactPushOfUptoCardSaid : Prop := Claim7.holds Tryz.pinned (.plain (OpenSpec.upto fnExactPushOfSpec)) fnExactPushOfUptoCard

/-- THE SECOND FORM's CARD OF 'laws.FnExactPushCount'. -/
def fnExactPushCountUptoCard : Claim7 := { stood := { row := fnExactPushCountUptoRow, standIns := [], harness := (true, "2c3f2310051c3a3ba87363a41a0a00950abd281beb8288ba1e27b1f540fb5d88"), looks := false }, kinds := [], alts := [], laidByText := true, laidKinds := [.data, .data, .data], laidTests := true, laidLooks := .later }
def FnExactPushCountUptoCardSaid : Prop := Claim7.holds Tryz.pinned (.plain (OpenSpec.upto fnExactPushCountSpec)) fnExactPushCountUptoCard
end Rows
end Go.Proofs.YtnoknphekhclcaaGreatDoor
