/-
  DERIVED. GIVEN WITH THE SEED: THE CARDS: each row of YtnldgcgngolkiaaGreatDoorRows.lean that lists a variable, with what it lists TIED to the program's text (the seventh form; the later family's looks); each row that meets fmt, with fmt's text TOLD by the authors' own Lean function (tested against real Go, not proved from fmt's source: count such statements apart). THE CARD IS WHAT COUNTS. Prove the row's statement (the work); the ties are given (YtnldgcgngolkiaaGreatDoorTie.lean); close each card by the builder's one call (the guide's Derived/Test/ToyasCard.lean, 'card_holds'). Laid BY PROGRAM, IN A SANDBOX (cutbox-door.mjs). By AI agents, Wed Nov 11 2026. No macro, syntax, notation, axiom, sorry.
-/
import Derived.Test.YtnldgcgngolkiaaGreatDoorRows
import GoSem.ClaimSeven
namespace Go.Proofs.YtnldgcgngolkiaaGreatDoor
namespace Rows

/-- THE TIED CARD OF 'estuarylaw06.StampParses'. -/
def stampParsesCard : Claim7 := { stood := { row := stampParsesRow, standIns := [], harness := (true, "09688f88742037b818855270b9ca5e10b318dac4e2817ff8e8a8f654cb0b556e"), looks := true }, kinds := [], alts := [], laidByText := true, laidKinds := [.data, .data, .data, .data, .sentinel, .sentinel, .pinned], laidTests := true, laidLooks := .later }
def StampParsesCardSaid : Prop := Claim7.holds Tryz.pinned (.plain (OpenSpec.ofChange stampParsesSpec)) stampParsesCard

/-- THE TIED CARD OF 'estuarylaw06.StampTakes'. -/
def stampTakesCard : Claim7 := { stood := { row := stampTakesRow, standIns := [], harness := (true, "09688f88742037b818855270b9ca5e10b318dac4e2817ff8e8a8f654cb0b556e"), looks := true }, kinds := [], alts := [], laidByText := true, laidKinds := [.data, .data, .data, .data, .sentinel, .sentinel, .pinned], laidTests := true, laidLooks := .later }
def StampTakesCardSaid : Prop := Claim7.holds Tryz.pinned (.plain (OpenSpec.ofChange stampTakesSpec)) stampTakesCard

/-- THE TIED CARD OF 'estuarylaw06.StampOrder'. -/
def stampOrderCard : Claim7 := { stood := { row := stampOrderRow, standIns := [], harness := (true, "09688f88742037b818855270b9ca5e10b318dac4e2817ff8e8a8f654cb0b556e"), looks := true }, kinds := [], alts := [], laidByText := true, laidKinds := [.data, .data, .data, .data, .sentinel, .sentinel, .pinned], laidTests := true, laidLooks := .later }
def StampOrderCardSaid : Prop := Claim7.holds Tryz.pinned (.plain (OpenSpec.ofChange stampOrderSpec)) stampOrderCard

/-- THE TIED CARD OF 'estuarylaw16.OpsWrites'. -/
def opsWritesCard : Claim7 := { stood := { row := opsWritesRow, standIns := [], harness := (true, "09688f88742037b818855270b9ca5e10b318dac4e2817ff8e8a8f654cb0b556e"), looks := true }, kinds := [], alts := [], laidByText := true, laidKinds := [.data, .data, .data, .data, .sentinel, .sentinel, .pinned], laidTests := true, laidLooks := .later }
def OpsWritesCardSaid : Prop := Claim7.holds Tryz.pinned (.plain (OpenSpec.ofChange opsWritesSpec)) opsWritesCard

/-- THE TIED CARD OF 'estuarylaw06.StampOrders'. -/
def stampOrdersCard : Claim7 := { stood := { row := stampOrdersRow, standIns := [], harness := (true, "09688f88742037b818855270b9ca5e10b318dac4e2817ff8e8a8f654cb0b556e"), looks := true }, kinds := [], alts := [], laidByText := true, laidKinds := [.data, .data, .data, .data, .sentinel, .sentinel, .pinned], laidTests := true, laidLooks := .later }
def StampOrdersCardSaid : Prop := Claim7.holds Tryz.pinned (.plain (OpenSpec.ofChange stampOrdersSpec)) stampOrdersCard

/-- THE TIED CARD OF 'estuarylaw16.OpsBack'. -/
def opsBackCard : Claim7 := { stood := { row := opsBackRow, standIns := [], harness := (true, "09688f88742037b818855270b9ca5e10b318dac4e2817ff8e8a8f654cb0b556e"), looks := true }, kinds := [], alts := [], laidByText := true, laidKinds := [.data, .data, .data, .data, .sentinel, .sentinel, .pinned], laidTests := true, laidLooks := .later }
def OpsBackCardSaid : Prop := Claim7.holds Tryz.pinned (.plain (OpenSpec.ofChange opsBackSpec)) opsBackCard

/-- THE TIED CARD OF 'estuarylaw16.OpsReads'. -/
def opsReadsCard : Claim7 := { stood := { row := opsReadsRow, standIns := [], harness := (true, "09688f88742037b818855270b9ca5e10b318dac4e2817ff8e8a8f654cb0b556e"), looks := true }, kinds := [], alts := [], laidByText := true, laidKinds := [.data, .data, .data, .data, .sentinel, .sentinel, .pinned], laidTests := true, laidLooks := .later }
def OpsReadsCardSaid : Prop := Claim7.holds Tryz.pinned (.plain (OpenSpec.ofChange opsReadsSpec)) opsReadsCard

/-- THE TIED CARD OF 'estuarylaw16.OpsNil'. -/
def opsNilCard : Claim7 := { stood := { row := opsNilRow, standIns := [], harness := (true, "09688f88742037b818855270b9ca5e10b318dac4e2817ff8e8a8f654cb0b556e"), looks := true }, kinds := [], alts := [], laidByText := true, laidKinds := [.data, .data, .data, .data, .sentinel, .sentinel, .pinned], laidTests := true, laidLooks := .later }
def OpsNilCardSaid : Prop := Claim7.holds Tryz.pinned (.plain (OpenSpec.ofChange opsNilSpec)) opsNilCard

/-- THE TIED CARD OF 'estuarylaw16.OpsThings'. -/
def opsThingsCard : Claim7 := { stood := { row := opsThingsRow, standIns := [], harness := (true, "09688f88742037b818855270b9ca5e10b318dac4e2817ff8e8a8f654cb0b556e"), looks := true }, kinds := [], alts := [], laidByText := true, laidKinds := [.data, .data, .data, .data, .sentinel, .sentinel, .pinned], laidTests := true, laidLooks := .later }
def OpsThingsCardSaid : Prop := Claim7.holds Tryz.pinned (.plain (OpenSpec.ofChange opsThingsSpec)) opsThingsCard

/-- THE TIED CARD OF 'estuarylaw29.ScriptActs'. -/
def scriptActsCard : Claim7 := { stood := { row := scriptActsRow, standIns := [], harness := (true, "09688f88742037b818855270b9ca5e10b318dac4e2817ff8e8a8f654cb0b556e"), looks := true }, kinds := [], alts := [], laidByText := true, laidKinds := [.data, .data, .data, .data, .sentinel, .sentinel, .pinned], laidTests := true, laidLooks := .later }
def ScriptActsCardSaid : Prop := Claim7.holds Tryz.pinned (.plain (OpenSpec.ofChange scriptActsSpec)) scriptActsCard

/-- THE TIED CARD OF 'estuarylaw29.ScriptBack'. -/
def scriptBackCard : Claim7 := { stood := { row := scriptBackRow, standIns := [], harness := (true, "09688f88742037b818855270b9ca5e10b318dac4e2817ff8e8a8f654cb0b556e"), looks := true }, kinds := [], alts := [], laidByText := true, laidKinds := [.data, .data, .data, .data, .sentinel, .sentinel, .pinned], laidTests := true, laidLooks := .later }
def ScriptBackCardSaid : Prop := Claim7.holds Tryz.pinned (.plain (OpenSpec.ofChange scriptBackSpec)) scriptBackCard

/-- THE TIED CARD OF 'estuarylaw29.ScriptNames'. -/
def scriptNamesCard : Claim7 := { stood := { row := scriptNamesRow, standIns := [], harness := (true, "09688f88742037b818855270b9ca5e10b318dac4e2817ff8e8a8f654cb0b556e"), looks := true }, kinds := [], alts := [], laidByText := true, laidKinds := [.data, .data, .data, .data, .sentinel, .sentinel, .pinned], laidTests := true, laidLooks := .later }
def ScriptNamesCardSaid : Prop := Claim7.holds Tryz.pinned (.plain (OpenSpec.ofChange scriptNamesSpec)) scriptNamesCard

/-- THE SECOND FORM's CARD OF 'estuarylaw06.StampParses'. -/
def stampParsesUptoCard : Claim7 := { stood := { row := stampParsesUptoRow, standIns := [], harness := (true, "09688f88742037b818855270b9ca5e10b318dac4e2817ff8e8a8f654cb0b556e"), looks := true }, kinds := [], alts := [], laidByText := true, laidKinds := [.data, .data, .data, .data, .sentinel, .sentinel, .pinned], laidTests := true, laidLooks := .later }
def StampParsesUptoCardSaid : Prop := Claim7.holds Tryz.pinned (.plain (OpenSpec.upto stampParsesSpec)) stampParsesUptoCard

/-- THE SECOND FORM's CARD OF 'estuarylaw06.StampTakes'. -/
def stampTakesUptoCard : Claim7 := { stood := { row := stampTakesUptoRow, standIns := [], harness := (true, "09688f88742037b818855270b9ca5e10b318dac4e2817ff8e8a8f654cb0b556e"), looks := true }, kinds := [], alts := [], laidByText := true, laidKinds := [.data, .data, .data, .data, .sentinel, .sentinel, .pinned], laidTests := true, laidLooks := .later }
def StampTakesUptoCardSaid : Prop := Claim7.holds Tryz.pinned (.plain (OpenSpec.upto stampTakesSpec)) stampTakesUptoCard

/-- THE SECOND FORM's CARD OF 'estuarylaw06.StampOrder'. -/
def stampOrderUptoCard : Claim7 := { stood := { row := stampOrderUptoRow, standIns := [], harness := (true, "09688f88742037b818855270b9ca5e10b318dac4e2817ff8e8a8f654cb0b556e"), looks := true }, kinds := [], alts := [], laidByText := true, laidKinds := [.data, .data, .data, .data, .sentinel, .sentinel, .pinned], laidTests := true, laidLooks := .later }
def StampOrderUptoCardSaid : Prop := Claim7.holds Tryz.pinned (.plain (OpenSpec.upto stampOrderSpec)) stampOrderUptoCard

/-- THE SECOND FORM's CARD OF 'estuarylaw16.OpsWrites'. -/
def opsWritesUptoCard : Claim7 := { stood := { row := opsWritesUptoRow, standIns := [], harness := (true, "09688f88742037b818855270b9ca5e10b318dac4e2817ff8e8a8f654cb0b556e"), looks := true }, kinds := [], alts := [], laidByText := true, laidKinds := [.data, .data, .data, .data, .sentinel, .sentinel, .pinned], laidTests := true, laidLooks := .later }
def OpsWritesUptoCardSaid : Prop := Claim7.holds Tryz.pinned (.plain (OpenSpec.upto opsWritesSpec)) opsWritesUptoCard

/-- THE SECOND FORM's CARD OF 'estuarylaw06.StampOrders'. -/
def stampOrdersUptoCard : Claim7 := { stood := { row := stampOrdersUptoRow, standIns := [], harness := (true, "09688f88742037b818855270b9ca5e10b318dac4e2817ff8e8a8f654cb0b556e"), looks := true }, kinds := [], alts := [], laidByText := true, laidKinds := [.data, .data, .data, .data, .sentinel, .sentinel, .pinned], laidTests := true, laidLooks := .later }
def StampOrdersUptoCardSaid : Prop := Claim7.holds Tryz.pinned (.plain (OpenSpec.upto stampOrdersSpec)) stampOrdersUptoCard

/-- THE SECOND FORM's CARD OF 'estuarylaw16.OpsBack'. -/
def opsBackUptoCard : Claim7 := { stood := { row := opsBackUptoRow, standIns := [], harness := (true, "09688f88742037b818855270b9ca5e10b318dac4e2817ff8e8a8f654cb0b556e"), looks := true }, kinds := [], alts := [], laidByText := true, laidKinds := [.data, .data, .data, .data, .sentinel, .sentinel, .pinned], laidTests := true, laidLooks := .later }
def OpsBackUptoCardSaid : Prop := Claim7.holds Tryz.pinned (.plain (OpenSpec.upto opsBackSpec)) opsBackUptoCard

/-- THE SECOND FORM's CARD OF 'estuarylaw16.OpsReads'. -/
def opsReadsUptoCard : Claim7 := { stood := { row := opsReadsUptoRow, standIns := [], harness := (true, "09688f88742037b818855270b9ca5e10b318dac4e2817ff8e8a8f654cb0b556e"), looks := true }, kinds := [], alts := [], laidByText := true, laidKinds := [.data, .data, .data, .data, .sentinel, .sentinel, .pinned], laidTests := true, laidLooks := .later }
def OpsReadsUptoCardSaid : Prop := Claim7.holds Tryz.pinned (.plain (OpenSpec.upto opsReadsSpec)) opsReadsUptoCard

/-- THE SECOND FORM's CARD OF 'estuarylaw16.OpsNil'. -/
def opsNilUptoCard : Claim7 := { stood := { row := opsNilUptoRow, standIns := [], harness := (true, "09688f88742037b818855270b9ca5e10b318dac4e2817ff8e8a8f654cb0b556e"), looks := true }, kinds := [], alts := [], laidByText := true, laidKinds := [.data, .data, .data, .data, .sentinel, .sentinel, .pinned], laidTests := true, laidLooks := .later }
def OpsNilUptoCardSaid : Prop := Claim7.holds Tryz.pinned (.plain (OpenSpec.upto opsNilSpec)) opsNilUptoCard

/-- THE SECOND FORM's CARD OF 'estuarylaw16.OpsThings'. -/
def opsThingsUptoCard : Claim7 := { stood := { row := opsThingsUptoRow, standIns := [], harness := (true, "09688f88742037b818855270b9ca5e10b318dac4e2817ff8e8a8f654cb0b556e"), looks := true }, kinds := [], alts := [], laidByText := true, laidKinds := [.data, .data, .data, .data, .sentinel, .sentinel, .pinned], laidTests := true, laidLooks := .later }
def OpsThingsUptoCardSaid : Prop := Claim7.holds Tryz.pinned (.plain (OpenSpec.upto opsThingsSpec)) opsThingsUptoCard

/-- THE SECOND FORM's CARD OF 'estuarylaw29.ScriptActs'. -/
def scriptActsUptoCard : Claim7 := { stood := { row := scriptActsUptoRow, standIns := [], harness := (true, "09688f88742037b818855270b9ca5e10b318dac4e2817ff8e8a8f654cb0b556e"), looks := true }, kinds := [], alts := [], laidByText := true, laidKinds := [.data, .data, .data, .data, .sentinel, .sentinel, .pinned], laidTests := true, laidLooks := .later }
def ScriptActsUptoCardSaid : Prop := Claim7.holds Tryz.pinned (.plain (OpenSpec.upto scriptActsSpec)) scriptActsUptoCard

/-- THE SECOND FORM's CARD OF 'estuarylaw29.ScriptBack'. -/
def scriptBackUptoCard : Claim7 := { stood := { row := scriptBackUptoRow, standIns := [], harness := (true, "09688f88742037b818855270b9ca5e10b318dac4e2817ff8e8a8f654cb0b556e"), looks := true }, kinds := [], alts := [], laidByText := true, laidKinds := [.data, .data, .data, .data, .sentinel, .sentinel, .pinned], laidTests := true, laidLooks := .later }
def ScriptBackUptoCardSaid : Prop := Claim7.holds Tryz.pinned (.plain (OpenSpec.upto scriptBackSpec)) scriptBackUptoCard

/-- THE SECOND FORM's CARD OF 'estuarylaw29.ScriptNames'. -/
def scriptNamesUptoCard : Claim7 := { stood := { row := scriptNamesUptoRow, standIns := [], harness := (true, "09688f88742037b818855270b9ca5e10b318dac4e2817ff8e8a8f654cb0b556e"), looks := true }, kinds := [], alts := [], laidByText := true, laidKinds := [.data, .data, .data, .data, .sentinel, .sentinel, .pinned], laidTests := true, laidLooks := .later }
def ScriptNamesUptoCardSaid : Prop := Claim7.holds Tryz.pinned (.plain (OpenSpec.upto scriptNamesSpec)) scriptNamesUptoCard
end Rows
end Go.Proofs.YtnldgcgngolkiaaGreatDoor
