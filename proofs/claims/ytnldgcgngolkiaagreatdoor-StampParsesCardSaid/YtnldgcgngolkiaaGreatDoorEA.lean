/- StampParses: the closed facts of its row. -/
import Derived.Test.YtnldgcgngolkiaaGreatDoorEF
namespace Go.Proofs.YtnldgcgngolkiaaGreatDoor.stampParses
open Go Go.Proofs.YtnldgcgngolkiaaGreatDoor
theorem c3 : (Rows.stampParsesRow.inPlace == Tryz.prog.inPlace 3) = true := by kernel_rfl
theorem c4 : (Rows.stampParsesRow.unfollowed == Tryz.prog.unfollowed 3) = true := by kernel_rfl
theorem c5 : (Rows.stampParsesRow.recurses == Tryz.prog.recurses 3) = true := by kernel_rfl
theorem c6 : (Rows.stampParsesRow.named == Tryz.prog.varsNamed 3) = true := by kernel_rfl
theorem c7 : (Rows.stampParsesRow.plainKeys == Tryz.prog.plainKeys) = true := by rw [facts.keys]; kernel_rfl
theorem closed : joinedFacts Tryz.prog 3 Tryz.f3 (OpenSpec.ofChange Rows.stampParsesSpec).bare Rows.stampParsesRow = true :=
  facts.joined facts.laid facts.maps c3 c4 c5 c6 c7 (by kernel_rfl)
end Go.Proofs.YtnldgcgngolkiaaGreatDoor.stampParses
