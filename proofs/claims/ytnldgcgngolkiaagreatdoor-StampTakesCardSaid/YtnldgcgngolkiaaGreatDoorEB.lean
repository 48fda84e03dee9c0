/- StampTakes: the closed facts of its row. -/
import Derived.Test.YtnldgcgngolkiaaGreatDoorEF
namespace Go.Proofs.YtnldgcgngolkiaaGreatDoor.stampTakes
open Go Go.Proofs.YtnldgcgngolkiaaGreatDoor
theorem c3 : (Rows.stampTakesRow.inPlace == Tryz.prog.inPlace 4) = true := by kernel_rfl
theorem c4 : (Rows.stampTakesRow.unfollowed == Tryz.prog.unfollowed 4) = true := by kernel_rfl
theorem c5 : (Rows.stampTakesRow.recurses == Tryz.prog.recurses 4) = true := by kernel_rfl
theorem c6 : (Rows.stampTakesRow.named == Tryz.prog.varsNamed 4) = true := by kernel_rfl
theorem c7 : (Rows.stampTakesRow.plainKeys == Tryz.prog.plainKeys) = true := by rw [facts.keys]; kernel_rfl
theorem closed : joinedFacts Tryz.prog 4 Tryz.f4 (OpenSpec.ofChange Rows.stampTakesSpec).bare Rows.stampTakesRow = true :=
  facts.joined facts.laid facts.maps c3 c4 c5 c6 c7 (by kernel_rfl)
end Go.Proofs.YtnldgcgngolkiaaGreatDoor.stampTakes
