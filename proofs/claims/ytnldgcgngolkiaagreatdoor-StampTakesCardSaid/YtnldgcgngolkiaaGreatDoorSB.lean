/- stamp's Take$1, taken, TakeBranch, TakeName, Take; wire.Open: the walks. -/
import Derived.Test.YtnldgcgngolkiaaGreatDoorSA
namespace Go.Proofs.YtnldgcgngolkiaaGreatDoor
open Go.RowKit
set_option linter.unusedVariables false
set_option linter.unusedSimpArgs false
set_option linter.unnecessarySimpa false
attribute [local go_sem] givesUpon

def gSB (l : List UInt8) (p : Nat) : Bool := gB l p || gNB l (nP l p) || gB l (gNP l (nP l p))
def gSP (l : List UInt8) (p : Nat) : Nat := nP l (gNP l (nP l p))
def gSI (l : List UInt8) (p : Nat) : Int := gV l (gNP l (nP l p))
abbrev gS (l : List UInt8) (p : Nat) : Value := vS (gV l p) (gV l (nP l p)) (gL l (nP l p)) (gNV l (nP l p)) (gSI l p)
def GSt (R X : Nat) (b : Bool) (A : Option Addr) (c : Nat) (l : List UInt8) (p : Nat) (w : World) (e : Ending) (w' : World) : Prop :=
  e = .returned (gS l p) ∧ Rg w' R X (b || gSB l p) A c l (gSP l p) ∧ Keep [R, X] w w'
set_option maxRecDepth 20000 in set_option maxHeartbeats 1000000 in
theorem gst_any (R X : Nat) (b : Bool) (ad : Addr) (c : Nat) (l : List UInt8) (p : Nat) (w : World) (h : Rg w R X b (some ad) c l p) :
    Calls Tryz.prog 131 #[.pointer (some ⟨X, 0, none⟩)] w (GSt R X b (some ad) c l p w) := by
  have hX := h.xlt
  have hR := h.rd.lt
  go_enter Tryz.func131, Tryz.ntmps131
  go_wp2_with fail
  refine (gnum_any R X b ad c l p _ (h.below (below_alloc _ _))).mono ?_
  rintro e w1 ⟨rfl, hg1, hk1⟩
  have hs1 : w.heap.size < w1.heap.size := by have := hk1.size; simp at this; omega
  have r0 : w1.heap[w.heap.size]? = some (.cells #[.int .i64 0, .int .i64 0, .string ⟨#[]⟩, .int .i64 0, .int .i64 0] 37 (0, 0)) := (hk1.block _ (by simp) (by simp; omega)).trans (heap_alloc_new w _)
  have hk1' : Keep [R, X] w w1 := (Keep.of_below (below_alloc w _)).trans hk1
  have hX1 := hg1.xlt
  have hR1 := hg1.rd.lt
  go_wp2_with fail
  refine (gname_any R X _ ad c l (nP l p) _ (hg1.below (below_alloc _ _))).mono ?_
  rintro e w2 ⟨rfl, hg2, hk2⟩
  have hs2 : w1.heap.size < w2.heap.size := by have := hk2.size; simp at this; omega
  have q0 : w2.heap[w.heap.size]? = some (.cells #[.int .i64 0, .int .i64 0, .string ⟨#[]⟩, .int .i64 0, .int .i64 0] 37 (0, 0)) := (hk2.block _ (by simp; omega) (by simp; omega)).trans (((below_alloc w1 _).block _ hs1).trans r0)
  have s0 : w2.heap[w1.heap.size]? = some (.cells #[.int .i64 (gV l p), .int .i64 0, .string ⟨#[]⟩, .int .i64 0, .int .i64 0] 37 (0, 0)) := (hk2.block _ (by simp) (by simp; omega)).trans (heap_alloc_new w1 _)
  have hk2' : Keep [R, X] w w2 := hk1'.trans ((Keep.of_below (below_alloc w1 _)).trans hk2)
  have u0 := box_cells s0 0
  have u1 := box_cells s0 1
  have u2 := box_cells s0 2
  have u3 := box_cells s0 3
  have u4 := box_cells s0 4
  have uf := box_frozen s0
  have HQ := Lib.hid q0
  have HS0 := Lib.hid s0
  clear hk1 hk1' r0 hk2 q0 s0
  go_wp2_with fail
  have S3 := box_set (box_set (box_set HS0.out 1 (.int .i64 (gV l (nP l p)))) 2 (.string (gL l (nP l p)))) 3 (.int .i64 (gNV l (nP l p)))
  have Q3 : (((w2.setCell ⟨w1.heap.size, 1, none⟩ (.int .i64 (gV l (nP l p)))).setCell ⟨w1.heap.size, 2, none⟩ (.string (gL l (nP l p)))).setCell ⟨w1.heap.size, 3, none⟩ (.int .i64 (gNV l (nP l p)))).heap[w.heap.size]? = some (.cells #[.int .i64 0, .int .i64 0, .string ⟨#[]⟩, .int .i64 0, .int .i64 0] 37 (0, 0)) := by
    rw [Below.heap_setCell _ _ _ _ (by simp; omega), Below.heap_setCell _ _ _ _ (by simp; omega), Below.heap_setCell _ _ _ _ (by simp; omega)]
    exact HQ.out
  have hg3 : Rg (((w2.setCell ⟨w1.heap.size, 1, none⟩ (.int .i64 (gV l (nP l p)))).setCell ⟨w1.heap.size, 2, none⟩ (.string (gL l (nP l p)))).setCell ⟨w1.heap.size, 3, none⟩ (.int .i64 (gNV l (nP l p)))) R X _ (some ad) c l _ := Rg.new h (Rg.new h (Rg.new h hg2 (by simp; omega) _) (by simp; omega) _) (by simp; omega) _
  have hk3 : Keep [R, X] w (((w2.setCell ⟨w1.heap.size, 1, none⟩ (.int .i64 (gV l (nP l p)))).setCell ⟨w1.heap.size, 2, none⟩ (.string (gL l (nP l p)))).setCell ⟨w1.heap.size, 3, none⟩ (.int .i64 (gNV l (nP l p)))) := ((hk2'.setCell (.inr (by simp; omega)) _).setCell (.inr (by simp; omega)) _).setCell (.inr (by simp; omega)) _
  have hz3 : (((w2.setCell ⟨w1.heap.size, 1, none⟩ (.int .i64 (gV l (nP l p)))).setCell ⟨w1.heap.size, 2, none⟩ (.string (gL l (nP l p)))).setCell ⟨w1.heap.size, 3, none⟩ (.int .i64 (gNV l (nP l p)))).heap.size = w2.heap.size := by simp
  clear u0 u1 u2 u3 u4 uf hg2 hk2'
  generalize ((w2.setCell ⟨w1.heap.size, 1, none⟩ (.int .i64 (gV l (nP l p)))).setCell ⟨w1.heap.size, 2, none⟩ (.string (gL l (nP l p)))).setCell ⟨w1.heap.size, 3, none⟩ (.int .i64 (gNV l (nP l p))) = w3 at *
  refine (gnum_any R X _ ad c l (gNP l (nP l p)) _ hg3).mono ?_
  rintro e w4 ⟨rfl, hg4, hk4⟩
  have q4 := (hk4.block _ (by omega) (by simp; omega)).trans Q3
  have s4 := (hk4.block _ (by omega) (by simp; omega)).trans S3
  have u0 : w4.cell? ⟨w1.heap.size, 0, none⟩ = some (.int .i64 (gV l p)) := box_cells s4 0
  have u1 : w4.cell? ⟨w1.heap.size, 1, none⟩ = some (.int .i64 (gV l (nP l p))) := box_cells s4 1
  have u2 : w4.cell? ⟨w1.heap.size, 2, none⟩ = some (.string (gL l (nP l p))) := box_cells s4 2
  have u3 : w4.cell? ⟨w1.heap.size, 3, none⟩ = some (.int .i64 (gNV l (nP l p))) := box_cells s4 3
  have u4 : w4.cell? ⟨w1.heap.size, 4, none⟩ = some (.int .i64 0) := box_cells s4 4
  have uf := box_frozen s4
  have v0 : w4.cell? ⟨w.heap.size, 0, none⟩ = some (.int .i64 0) := box_cells q4 0
  have v1 : w4.cell? ⟨w.heap.size, 1, none⟩ = some (.int .i64 0) := box_cells q4 1
  have v2 : w4.cell? ⟨w.heap.size, 2, none⟩ = some (.string ⟨#[]⟩) := box_cells q4 2
  have v3 : w4.cell? ⟨w.heap.size, 3, none⟩ = some (.int .i64 0) := box_cells q4 3
  have v4 : w4.cell? ⟨w.heap.size, 4, none⟩ = some (.int .i64 0) := box_cells q4 4
  have vf := box_frozen q4
  have HM := Lib.hid hg4
  have HK := Lib.hid (hk3.trans hk4)
  clear hg4 hk3 hk4 S3 Q3 s4 q4 hg3
  have d1 : w.heap.size ≠ w1.heap.size := by omega
  go_wp2
  refine bodyPost_ret (v := gS l p) ?_ rfl ⟨rfl, ?_, ?_⟩
  · simp [results, Tryz.results131, go_sem, v0, v1, v2, v3, v4, vf, u0, u1, u2, u3, u4, uf, d1, Ne.symm d1]
    try rfl
  · have := HM.out
    rw [Bool.or_assoc, Bool.or_assoc] at this
    have e : (gB l p || (gNB l (nP l p) || gB l (gNP l (nP l p)))) = gSB l p := by rw [gSB, Bool.or_assoc]
    rw [e] at this
    exact Rg.new h (Rg.new h (Rg.new h (Rg.new h (Rg.new h (Rg.new h this (by simp; omega) _) (by simp) _) (by simp) _) (by simp) _) (by simp) _) (by simp) _
  · exact (((((HK.out.setCell (.inr (by simp; omega)) _).setCell (.inr (by simp)) _).setCell (.inr (by simp)) _).setCell (.inr (by simp)) _).setCell (.inr (by simp)) _).setCell (.inr (by simp)) _
end Go.Proofs.YtnldgcgngolkiaaGreatDoor
