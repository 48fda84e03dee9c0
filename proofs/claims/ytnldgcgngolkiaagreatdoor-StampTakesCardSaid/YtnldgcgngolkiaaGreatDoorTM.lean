/- The law StampTakes: every way; bytes that came in, opened. -/
import Derived.Test.YtnldgcgngolkiaaGreatDoorTL
import Derived.Test.YtnldgcgngolkiaaGreatDoorE
import Derived.Carry
namespace Go.Proofs.YtnldgcgngolkiaaGreatDoor
open Go Go.ChangeShapes Go.WideShapes Go.ChangeAt Go.RowKit
set_option linter.unusedVariables false
set_option linter.unusedSimpArgs false
set_option linter.unnecessarySimpa false
theorem takes_any (A : Option Addr) (n c : Nat) (at_ : Int) (l : List UInt8) (w : World) (E : Env w) (hC : Came w A n c l) :
    Calls Tryz.prog 4 #[.slice A n c, .int .i64 at_] w (TakesEnd w) := by
  by_cases h : (9000 : Int) < n
  · exact takes_long A n c at_ w E h
  · by_cases h1 : at_ < 0
    · exact takes_neg A n c at_ w E h h1
    · by_cases h2 : (n : Int) < at_
      · exact takes_past A n c at_ w E h h1 h2
      · obtain ⟨a, rfl⟩ := Int.eq_ofNat_of_zero_le (by omega : 0 ≤ at_)
        exact takes_main A n c a l w E hC (by omega) (by omega)
theorem cell_spot {w : World} {a : Addr} {v : Value} (h : w.cell? a = some v) : ∃ b o, a = ⟨b, o, none⟩ ∧ b < w.heap.size := by
  obtain ⟨b, o, s⟩ := a
  cases s with
  | none => exact ⟨b, o, rfl, World.block_lt_of_cell? w _ h⟩
  | some s =>
    unfold World.cell? at h
    split at h
    · simp at h
    · cases h
section
variable {H : Type} {enc : TypeId × Value → H} {W : World}

set_option maxRecDepth 100000 in
theorem came_of {base : Nat} {v : Value} {d : DataW H} {p : List MemPlace} (hval : Value.okWide Tryz.prog W .any base 44 v) (h : DataW.Trod enc Tryz.prog W 0 (fun _ => true) true 44 v d p) :
    ∃ A n c l, v = .slice A n c ∧ Came W A n c l := by
  obtain ⟨A, n, c, rfl⟩ := okWide_slice Tryz.underlying44 hval
  obtain ⟨fuel, hf⟩ := h
  rcases open_ints Tryz.underlying44 Tryz.underlying5 (by kernel_rfl) hf with ⟨hcs, hx⟩ | ⟨a, len, cap, zs, hcs, _, hl, hm, hz, hx, hcell, hwz⟩
  · simp [Value.cells] at hcs
    obtain ⟨rfl, rfl, rfl⟩ := hcs
    exact ⟨none, 0, 0, [], rfl, rfl, by omega, fun h0 => by omega⟩
  · simp [Value.cells] at hcs
    obtain ⟨rfl, rfl, rfl⟩ := hcs
    simp only [if_true] at hz
    refine ⟨_, _, _, (zs.take n).map (fun z => UInt8.ofNat z.toNat), rfl, by simp; omega, hl, fun h0 => ?_⟩
    obtain ⟨b, o, rfl, hb⟩ := cell_spot (hcell 0 (by omega))
    have hb' : b < W.heap.size := by
      have := hcell 0 (by omega)
      exact World.block_lt_of_cell? W _ this
    refine ⟨b, o, rfl, hb', fun j hj => ?_⟩
    have hc := hcell j (by omega)
    rw [add_plain] at hc
    rw [hc]
    have hjz : j < zs.length := by omega
    have hw := hwz zs[j] (List.getElem_mem hjz)
    have hr : 0 ≤ zs[j] ∧ zs[j] ≤ 255 := by simpa [Lit.wf, IntKind.min, IntKind.max, IntKind.signed, IntKind.bits] using hw
    have e1 : zs.getD j 0 = zs[j] := by rw [List.getD_eq_getElem?_getD, List.getElem?_eq_getElem hjz]; rfl
    have e2 : ((zs.take n).map (fun z => UInt8.ofNat z.toNat)).getD j 0 = UInt8.ofNat zs[j].toNat := by
      rw [List.getD_eq_getElem?_getD, List.getElem?_map, List.getElem?_take, if_pos hj, List.getElem?_eq_getElem hjz]; rfl
    rw [e1, e2]
    congr 2
    simp; omega
end
end Go.Proofs.YtnldgcgngolkiaaGreatDoor
