/- stamp's taken at stamps, Take: the walks. -/
import Derived.Test.YtnldgcgngolkiaaGreatDoorSC
namespace Go.Proofs.YtnldgcgngolkiaaGreatDoor
open Go.RowKit
set_option linter.unusedVariables false
set_option linter.unusedSimpArgs false
set_option linter.unnecessarySimpa false
attribute [local go_sem] givesUpon
set_option maxRecDepth 20000 in
set_option maxHeartbeats 1000000 in
theorem takenS_bad (R : Nat) (ad : Addr) (c : Nat) (l : List UInt8) (p : Nat) (w : World) (h : Rd w R TR (some ad) c l p) (hB : gSB l p = true) :
    Calls Tryz.prog 130 #[.pointer (some ⟨R, 0, none⟩), .func (.func 131) #[] #[], .func (.func 133) #[] #[]] w fun e w' => e = .returned (.tuple #[zS, .int .i64 4]) ∧ Rd w' R TR (some ad) c l (p) ∧ Keep [R] w w' := by
  have c0 := h.c0
  have c1 := h.c1
  have hR := h.lt
  have hle := h.le
  have hne := eE_ne l p
  have HB := Lib.hid hB
  have hLs : (gL l (nP l p)).size ≤ 1000000 := gL_size _ _ h.short
  clear hB
  go_enter Tryz.func130, Tryz.ntmps130
  go_wp2_with (go_at_call 173; refine (end_any R ad c l p _ (h.below (by go_grown))).mono ?_; rintro e _ ⟨rfl, n, rfl⟩)
  go_wp2_with fail
  have hb0 : Below w.heap.size w (((w.alloc (.cells #[.int .i64 0, .int .i64 0, .string ⟨#[]⟩, .int .i64 0, .int .i64 0] 37)).alloc (.cells #[.int .i64 0, .int .i64 0, .string ⟨#[]⟩, .int .i64 0, .int .i64 0] 37)).drewN n) := below_dn (by go_grown) n
  refine (gst_any R (w.heap.size + 1 + 1 + 1) false ad c l p _ (Rg.start h (Below.alloc hb0 (by simp <;> omega) _) (by simp))).mono ?_
  rintro e w1 ⟨rfl, hg1, hk1⟩
  rw [Bool.false_or, HB.out] at hg1
  have hz : w.heap.size + 4 ≤ w1.heap.size := by have := hk1.size; simp at this; omega
  have hA : Below (w.heap.size + 1) (w.alloc (.cells #[.int .i64 0, .int .i64 0, .string ⟨#[]⟩, .int .i64 0, .int .i64 0] 37)) (((((w.alloc (.cells #[.int .i64 0, .int .i64 0, .string ⟨#[]⟩, .int .i64 0, .int .i64 0] 37)).alloc (.cells #[.int .i64 0, .int .i64 0, .string ⟨#[]⟩, .int .i64 0, .int .i64 0] 37)).drewN n).alloc (.cells #[.slice (some ad) l.length c, .int .i64 p] TR)).alloc (.cells #[.pointer (some ⟨R, 0, none⟩), .bool false] TX)) := Below.alloc (Below.alloc (below_dn (below_up _ _ (by simp)) n) (by simp) _) (by simp) _
  have hA2 : Below (w.heap.size + 1 + 1) ((w.alloc (.cells #[.int .i64 0, .int .i64 0, .string ⟨#[]⟩, .int .i64 0, .int .i64 0] 37)).alloc (.cells #[.int .i64 0, .int .i64 0, .string ⟨#[]⟩, .int .i64 0, .int .i64 0] 37)) (((((w.alloc (.cells #[.int .i64 0, .int .i64 0, .string ⟨#[]⟩, .int .i64 0, .int .i64 0] 37)).alloc (.cells #[.int .i64 0, .int .i64 0, .string ⟨#[]⟩, .int .i64 0, .int .i64 0] 37)).drewN n).alloc (.cells #[.slice (some ad) l.length c, .int .i64 p] TR)).alloc (.cells #[.pointer (some ⟨R, 0, none⟩), .bool false] TX)) := Below.alloc (Below.alloc (below_dn (Below.refl _ _) n) (by simp) _) (by simp) _
  have hA3 : Below (w.heap.size + 1 + 1 + 1) ((((w.alloc (.cells #[.int .i64 0, .int .i64 0, .string ⟨#[]⟩, .int .i64 0, .int .i64 0] 37)).alloc (.cells #[.int .i64 0, .int .i64 0, .string ⟨#[]⟩, .int .i64 0, .int .i64 0] 37)).drewN n).alloc (.cells #[.slice (some ad) l.length c, .int .i64 p] TR)) (((((w.alloc (.cells #[.int .i64 0, .int .i64 0, .string ⟨#[]⟩, .int .i64 0, .int .i64 0] 37)).alloc (.cells #[.int .i64 0, .int .i64 0, .string ⟨#[]⟩, .int .i64 0, .int .i64 0] 37)).drewN n).alloc (.cells #[.slice (some ad) l.length c, .int .i64 p] TR)).alloc (.cells #[.pointer (some ⟨R, 0, none⟩), .bool false] TX)) := below_up _ _ (by simp)
  have hS : ((((w.alloc (.cells #[.int .i64 0, .int .i64 0, .string ⟨#[]⟩, .int .i64 0, .int .i64 0] 37)).alloc (.cells #[.int .i64 0, .int .i64 0, .string ⟨#[]⟩, .int .i64 0, .int .i64 0] 37)).drewN n).alloc (.cells #[.slice (some ad) l.length c, .int .i64 p] TR)).heap[w.heap.size + 1 + 1]? = some (.cells #[.slice (some ad) l.length c, .int .i64 p] TR (0, 0)) := by
    have := heap_alloc_new (((w.alloc (.cells #[.int .i64 0, .int .i64 0, .string ⟨#[]⟩, .int .i64 0, .int .i64 0] 37)).alloc (.cells #[.int .i64 0, .int .i64 0, .string ⟨#[]⟩, .int .i64 0, .int .i64 0] 37)).drewN n) (.cells #[.slice (some ad) l.length c, .int .i64 p] TR)
    rwa [show (((w.alloc (.cells #[.int .i64 0, .int .i64 0, .string ⟨#[]⟩, .int .i64 0, .int .i64 0] 37)).alloc (.cells #[.int .i64 0, .int .i64 0, .string ⟨#[]⟩, .int .i64 0, .int .i64 0] 37)).drewN n).heap.size = w.heap.size + 1 + 1 by simp] at this
  have a0 : w1.cell? ⟨w.heap.size, 0, none⟩ = some (.int .i64 0) := hk1.cell_on (by simp <;> omega) (by simp <;> omega) (cell_on hA (by simp) (by simp))
  have b0 : w1.cell? ⟨w.heap.size + 1, 0, none⟩ = some (.int .i64 0) := hk1.cell_on (by simp <;> omega) (by simp <;> omega) (cell_on hA2 (by simp) (by simp))
  have a1 : w1.cell? ⟨w.heap.size, 1, none⟩ = some (.int .i64 0) := hk1.cell_on (by simp <;> omega) (by simp <;> omega) (cell_on hA (by simp) (by simp))
  have b1 : w1.cell? ⟨w.heap.size + 1, 1, none⟩ = some (.int .i64 0) := hk1.cell_on (by simp <;> omega) (by simp <;> omega) (cell_on hA2 (by simp) (by simp))
  have a2 : w1.cell? ⟨w.heap.size, 2, none⟩ = some (.string ⟨#[]⟩) := hk1.cell_on (by simp <;> omega) (by simp <;> omega) (cell_on hA (by simp) (by simp))
  have b2 : w1.cell? ⟨w.heap.size + 1, 2, none⟩ = some (.string ⟨#[]⟩) := hk1.cell_on (by simp <;> omega) (by simp <;> omega) (cell_on hA2 (by simp) (by simp))
  have a3 : w1.cell? ⟨w.heap.size, 3, none⟩ = some (.int .i64 0) := hk1.cell_on (by simp <;> omega) (by simp <;> omega) (cell_on hA (by simp) (by simp))
  have b3 : w1.cell? ⟨w.heap.size + 1, 3, none⟩ = some (.int .i64 0) := hk1.cell_on (by simp <;> omega) (by simp <;> omega) (cell_on hA2 (by simp) (by simp))
  have a4 : w1.cell? ⟨w.heap.size, 4, none⟩ = some (.int .i64 0) := hk1.cell_on (by simp <;> omega) (by simp <;> omega) (cell_on hA (by simp) (by simp))
  have b4 : w1.cell? ⟨w.heap.size + 1, 4, none⟩ = some (.int .i64 0) := hk1.cell_on (by simp <;> omega) (by simp <;> omega) (cell_on hA2 (by simp) (by simp))
  have af : ∀ i, w1.frozen? ⟨w.heap.size, i, none⟩ = false := fun i => by rw [hk1.bcell.2 _ _ (by simp <;> omega) (by simp <;> omega), hA.frozen (p := ⟨w.heap.size, i, none⟩) (by simp)]; simp
  have s0 : w1.cell? ⟨w.heap.size + 1 + 1, 0, none⟩ = some (.slice (some ad) l.length c) := hk1.cell_on (by simp <;> omega) (by simp <;> omega) (cell_on hA3 (by simp) (box_cells hS 0))
  have s1 : w1.cell? ⟨w.heap.size + 1 + 1, 1, none⟩ = some (.int .i64 p) := hk1.cell_on (by simp <;> omega) (by simp <;> omega) (cell_on hA3 (by simp) (box_cells hS 1))
  have x1 := hg1.x1
  have hXl := hg1.xlt
  have hRl := hg1.rd.lt
  have hr1 := hg1.rd
  have t0 := hr1.c0
  have t1 := hr1.c1
  have tf := hr1.fr
  have hkw : Keep [R] w w1 := Keep.then (Keep.of_below (S := [R]) (Below.alloc (Below.alloc hb0 (by simp <;> omega) _) (by simp <;> omega) _)) hk1 (fun k hk => by simp at hk; rcases hk with rfl | rfl <;> simp <;> omega)
  have HR := Lib.hid hr1
  have HK := Lib.hid hkw
  have d1 : R ≠ w.heap.size := by omega
  have l0 : w.heap.size < w1.heap.size := by omega
  have l1 : w.heap.size + 1 < w1.heap.size := by omega
  have l2 : w.heap.size + 1 + 1 < w1.heap.size := by omega
  clear hk1 hg1 hr1 hkw c0 c1 hA hA2 hA3 hS hb0
  go_upto_region 7 with (fail)
  have hb2 := below_alloc w1 (.cells #[.int .i64 (gV l p), .int .i64 (gV l (nP l p)), .string (gL l (nP l p)), .int .i64 (gNV l (nP l p)), .int .i64 (gSI l p)] 37)
  generalize w1.alloc (.cells #[.int .i64 (gV l p), .int .i64 (gV l (nP l p)), .string (gL l (nP l p)), .int .i64 (gNV l (nP l p)), .int .i64 (gSI l p)] 37) = w2 at *
  have a0 := cell_on hb2 (by simp <;> omega) a0
  have a1 := cell_on hb2 (by simp <;> omega) a1
  have a2 := cell_on hb2 (by simp <;> omega) a2
  have a3 := cell_on hb2 (by simp <;> omega) a3
  have a4 := cell_on hb2 (by simp <;> omega) a4
  have b0 := cell_on hb2 (by simp <;> omega) b0
  have b1 := cell_on hb2 (by simp <;> omega) b1
  have b2 := cell_on hb2 (by simp <;> omega) b2
  have b3 := cell_on hb2 (by simp <;> omega) b3
  have b4 := cell_on hb2 (by simp <;> omega) b4
  have s0 := cell_on hb2 (by simp <;> omega) s0
  have s1 := cell_on hb2 (by simp <;> omega) s1
  have t0 := cell_on hb2 (by simp <;> omega) t0
  have t1 := cell_on hb2 (by simp <;> omega) t1
  have x1 := cell_on hb2 (by simp <;> omega) x1
  have af : ∀ i, w2.frozen? ⟨w.heap.size, i, none⟩ = false := fun i => (hb2.frozen (p := ⟨w.heap.size, i, none⟩) (by simp <;> omega)).trans (af i)
  have tf : ∀ i, w2.frozen? ⟨R, i, none⟩ = false := fun i => (hb2.frozen (p := ⟨R, i, none⟩) (by simp <;> omega)).trans (tf i)
  have HR := Lib.hid (HR.out.below hb2)
  have HK := Lib.hid (HK.out.trans (Keep.of_below hb2))
  clear hb2
  go_wp2
  refine bodyPost_ret (v := .tuple #[zS, .int .i64 4]) ?_ rfl ⟨rfl, ?_, ?_⟩
  · simp [results, Tryz.results130, go_sem, a0, a1, a2, a3, a4, b0, b1, b2, b3, b4, s0, s1, t0, t1, af, tf, d1, Ne.symm d1]
    try rfl
  · exact (Rd.new h (Rd.new h (Rd.new h (Rd.new h (Rd.new h (Rd.back HR.out hle) (by simp) _) (by simp) _) (by simp) _) (by simp) _) (by simp) _)
  · exact (((((((HK.out.setCell (.inl (by simp)) _).setCell (.inl (by simp)) _).setCell (.inr (by simp)) _).setCell (.inr (by simp)) _).setCell (.inr (by simp)) _).setCell (.inr (by simp)) _).setCell (.inr (by simp)) _)
set_option maxRecDepth 20000 in
set_option maxHeartbeats 1000000 in
theorem takenS_no (R : Nat) (ad : Addr) (c : Nat) (l : List UInt8) (p : Nat) (w : World) (h : Rd w R TR (some ad) c l p) (hB : gSB l p = false) (hO : okS (gV l p) (gV l (nP l p)) (gL l (nP l p)) (gNV l (nP l p)) (gSI l p) = false) :
    Calls Tryz.prog 130 #[.pointer (some ⟨R, 0, none⟩), .func (.func 131) #[] #[], .func (.func 133) #[] #[]] w fun e w' => e = .returned (.tuple #[zS, .int .i64 4]) ∧ Rd w' R TR (some ad) c l (p) ∧ Keep [R] w w' := by
  have c0 := h.c0
  have c1 := h.c1
  have hR := h.lt
  have hle := h.le
  have hne := eE_ne l p
  have HB := Lib.hid hB
  have hLs : (gL l (nP l p)).size ≤ 1000000 := gL_size _ _ h.short
  clear hB
  have HO := Lib.hid hO
  clear hO
  go_enter Tryz.func130, Tryz.ntmps130
  go_wp2_with (go_at_call 173; refine (end_any R ad c l p _ (h.below (by go_grown))).mono ?_; rintro e _ ⟨rfl, n, rfl⟩)
  go_wp2_with fail
  have hb0 : Below w.heap.size w (((w.alloc (.cells #[.int .i64 0, .int .i64 0, .string ⟨#[]⟩, .int .i64 0, .int .i64 0] 37)).alloc (.cells #[.int .i64 0, .int .i64 0, .string ⟨#[]⟩, .int .i64 0, .int .i64 0] 37)).drewN n) := below_dn (by go_grown) n
  refine (gst_any R (w.heap.size + 1 + 1 + 1) false ad c l p _ (Rg.start h (Below.alloc hb0 (by simp <;> omega) _) (by simp))).mono ?_
  rintro e w1 ⟨rfl, hg1, hk1⟩
  rw [Bool.false_or, HB.out] at hg1
  have hz : w.heap.size + 4 ≤ w1.heap.size := by have := hk1.size; simp at this; omega
  have hA : Below (w.heap.size + 1) (w.alloc (.cells #[.int .i64 0, .int .i64 0, .string ⟨#[]⟩, .int .i64 0, .int .i64 0] 37)) (((((w.alloc (.cells #[.int .i64 0, .int .i64 0, .string ⟨#[]⟩, .int .i64 0, .int .i64 0] 37)).alloc (.cells #[.int .i64 0, .int .i64 0, .string ⟨#[]⟩, .int .i64 0, .int .i64 0] 37)).drewN n).alloc (.cells #[.slice (some ad) l.length c, .int .i64 p] TR)).alloc (.cells #[.pointer (some ⟨R, 0, none⟩), .bool false] TX)) := Below.alloc (Below.alloc (below_dn (below_up _ _ (by simp)) n) (by simp) _) (by simp) _
  have hA2 : Below (w.heap.size + 1 + 1) ((w.alloc (.cells #[.int .i64 0, .int .i64 0, .string ⟨#[]⟩, .int .i64 0, .int .i64 0] 37)).alloc (.cells #[.int .i64 0, .int .i64 0, .string ⟨#[]⟩, .int .i64 0, .int .i64 0] 37)) (((((w.alloc (.cells #[.int .i64 0, .int .i64 0, .string ⟨#[]⟩, .int .i64 0, .int .i64 0] 37)).alloc (.cells #[.int .i64 0, .int .i64 0, .string ⟨#[]⟩, .int .i64 0, .int .i64 0] 37)).drewN n).alloc (.cells #[.slice (some ad) l.length c, .int .i64 p] TR)).alloc (.cells #[.pointer (some ⟨R, 0, none⟩), .bool false] TX)) := Below.alloc (Below.alloc (below_dn (Below.refl _ _) n) (by simp) _) (by simp) _
  have hA3 : Below (w.heap.size + 1 + 1 + 1) ((((w.alloc (.cells #[.int .i64 0, .int .i64 0, .string ⟨#[]⟩, .int .i64 0, .int .i64 0] 37)).alloc (.cells #[.int .i64 0, .int .i64 0, .string ⟨#[]⟩, .int .i64 0, .int .i64 0] 37)).drewN n).alloc (.cells #[.slice (some ad) l.length c, .int .i64 p] TR)) (((((w.alloc (.cells #[.int .i64 0, .int .i64 0, .string ⟨#[]⟩, .int .i64 0, .int .i64 0] 37)).alloc (.cells #[.int .i64 0, .int .i64 0, .string ⟨#[]⟩, .int .i64 0, .int .i64 0] 37)).drewN n).alloc (.cells #[.slice (some ad) l.length c, .int .i64 p] TR)).alloc (.cells #[.pointer (some ⟨R, 0, none⟩), .bool false] TX)) := below_up _ _ (by simp)
  have hS : ((((w.alloc (.cells #[.int .i64 0, .int .i64 0, .string ⟨#[]⟩, .int .i64 0, .int .i64 0] 37)).alloc (.cells #[.int .i64 0, .int .i64 0, .string ⟨#[]⟩, .int .i64 0, .int .i64 0] 37)).drewN n).alloc (.cells #[.slice (some ad) l.length c, .int .i64 p] TR)).heap[w.heap.size + 1 + 1]? = some (.cells #[.slice (some ad) l.length c, .int .i64 p] TR (0, 0)) := by
    have := heap_alloc_new (((w.alloc (.cells #[.int .i64 0, .int .i64 0, .string ⟨#[]⟩, .int .i64 0, .int .i64 0] 37)).alloc (.cells #[.int .i64 0, .int .i64 0, .string ⟨#[]⟩, .int .i64 0, .int .i64 0] 37)).drewN n) (.cells #[.slice (some ad) l.length c, .int .i64 p] TR)
    rwa [show (((w.alloc (.cells #[.int .i64 0, .int .i64 0, .string ⟨#[]⟩, .int .i64 0, .int .i64 0] 37)).alloc (.cells #[.int .i64 0, .int .i64 0, .string ⟨#[]⟩, .int .i64 0, .int .i64 0] 37)).drewN n).heap.size = w.heap.size + 1 + 1 by simp] at this
  have a0 : w1.cell? ⟨w.heap.size, 0, none⟩ = some (.int .i64 0) := hk1.cell_on (by simp <;> omega) (by simp <;> omega) (cell_on hA (by simp) (by simp))
  have b0 : w1.cell? ⟨w.heap.size + 1, 0, none⟩ = some (.int .i64 0) := hk1.cell_on (by simp <;> omega) (by simp <;> omega) (cell_on hA2 (by simp) (by simp))
  have a1 : w1.cell? ⟨w.heap.size, 1, none⟩ = some (.int .i64 0) := hk1.cell_on (by simp <;> omega) (by simp <;> omega) (cell_on hA (by simp) (by simp))
  have b1 : w1.cell? ⟨w.heap.size + 1, 1, none⟩ = some (.int .i64 0) := hk1.cell_on (by simp <;> omega) (by simp <;> omega) (cell_on hA2 (by simp) (by simp))
  have a2 : w1.cell? ⟨w.heap.size, 2, none⟩ = some (.string ⟨#[]⟩) := hk1.cell_on (by simp <;> omega) (by simp <;> omega) (cell_on hA (by simp) (by simp))
  have b2 : w1.cell? ⟨w.heap.size + 1, 2, none⟩ = some (.string ⟨#[]⟩) := hk1.cell_on (by simp <;> omega) (by simp <;> omega) (cell_on hA2 (by simp) (by simp))
  have a3 : w1.cell? ⟨w.heap.size, 3, none⟩ = some (.int .i64 0) := hk1.cell_on (by simp <;> omega) (by simp <;> omega) (cell_on hA (by simp) (by simp))
  have b3 : w1.cell? ⟨w.heap.size + 1, 3, none⟩ = some (.int .i64 0) := hk1.cell_on (by simp <;> omega) (by simp <;> omega) (cell_on hA2 (by simp) (by simp))
  have a4 : w1.cell? ⟨w.heap.size, 4, none⟩ = some (.int .i64 0) := hk1.cell_on (by simp <;> omega) (by simp <;> omega) (cell_on hA (by simp) (by simp))
  have b4 : w1.cell? ⟨w.heap.size + 1, 4, none⟩ = some (.int .i64 0) := hk1.cell_on (by simp <;> omega) (by simp <;> omega) (cell_on hA2 (by simp) (by simp))
  have af : ∀ i, w1.frozen? ⟨w.heap.size, i, none⟩ = false := fun i => by rw [hk1.bcell.2 _ _ (by simp <;> omega) (by simp <;> omega), hA.frozen (p := ⟨w.heap.size, i, none⟩) (by simp)]; simp
  have s0 : w1.cell? ⟨w.heap.size + 1 + 1, 0, none⟩ = some (.slice (some ad) l.length c) := hk1.cell_on (by simp <;> omega) (by simp <;> omega) (cell_on hA3 (by simp) (box_cells hS 0))
  have s1 : w1.cell? ⟨w.heap.size + 1 + 1, 1, none⟩ = some (.int .i64 p) := hk1.cell_on (by simp <;> omega) (by simp <;> omega) (cell_on hA3 (by simp) (box_cells hS 1))
  have x1 := hg1.x1
  have hXl := hg1.xlt
  have hRl := hg1.rd.lt
  have hr1 := hg1.rd
  have t0 := hr1.c0
  have t1 := hr1.c1
  have tf := hr1.fr
  have hkw : Keep [R] w w1 := Keep.then (Keep.of_below (S := [R]) (Below.alloc (Below.alloc hb0 (by simp <;> omega) _) (by simp <;> omega) _)) hk1 (fun k hk => by simp at hk; rcases hk with rfl | rfl <;> simp <;> omega)
  have HR := Lib.hid hr1
  have HK := Lib.hid hkw
  have d1 : R ≠ w.heap.size := by omega
  have l0 : w.heap.size < w1.heap.size := by omega
  have l1 : w.heap.size + 1 < w1.heap.size := by omega
  have l2 : w.heap.size + 1 + 1 < w1.heap.size := by omega
  clear hk1 hg1 hr1 hkw c0 c1 hA hA2 hA3 hS hb0
  go_wp2_with fail
  refine (stamp_any (gV l p) (gV l (nP l p)) (gL l (nP l p)) (gNV l (nP l p)) (gSI l p) _ hLs).mono ?_
  rw [HO.out]
  rintro e w2 ⟨rfl, hb2⟩
  have hz2 : w1.heap.size < w2.heap.size := by have := hb2.size; simp at this; omega
  have a0 := cell_on hb2 (by simp <;> omega) ((World.cell?_alloc_lt w1 _ _ (by simp <;> omega)).trans a0)
  have a1 := cell_on hb2 (by simp <;> omega) ((World.cell?_alloc_lt w1 _ _ (by simp <;> omega)).trans a1)
  have a2 := cell_on hb2 (by simp <;> omega) ((World.cell?_alloc_lt w1 _ _ (by simp <;> omega)).trans a2)
  have a3 := cell_on hb2 (by simp <;> omega) ((World.cell?_alloc_lt w1 _ _ (by simp <;> omega)).trans a3)
  have a4 := cell_on hb2 (by simp <;> omega) ((World.cell?_alloc_lt w1 _ _ (by simp <;> omega)).trans a4)
  have b0 := cell_on hb2 (by simp <;> omega) ((World.cell?_alloc_lt w1 _ _ (by simp <;> omega)).trans b0)
  have b1 := cell_on hb2 (by simp <;> omega) ((World.cell?_alloc_lt w1 _ _ (by simp <;> omega)).trans b1)
  have b2 := cell_on hb2 (by simp <;> omega) ((World.cell?_alloc_lt w1 _ _ (by simp <;> omega)).trans b2)
  have b3 := cell_on hb2 (by simp <;> omega) ((World.cell?_alloc_lt w1 _ _ (by simp <;> omega)).trans b3)
  have b4 := cell_on hb2 (by simp <;> omega) ((World.cell?_alloc_lt w1 _ _ (by simp <;> omega)).trans b4)
  have s0 := cell_on hb2 (by simp <;> omega) ((World.cell?_alloc_lt w1 _ _ (by simp <;> omega)).trans s0)
  have s1 := cell_on hb2 (by simp <;> omega) ((World.cell?_alloc_lt w1 _ _ (by simp <;> omega)).trans s1)
  have t0 := cell_on hb2 (by simp <;> omega) ((World.cell?_alloc_lt w1 _ _ (by simp <;> omega)).trans t0)
  have t1 := cell_on hb2 (by simp <;> omega) ((World.cell?_alloc_lt w1 _ _ (by simp <;> omega)).trans t1)
  have m0 : w2.cell? ⟨w1.heap.size, 0, none⟩ = some (.int .i64 (gV l p)) := box_cell hb2 (by simp) 0 rfl
  have m1 : w2.cell? ⟨w1.heap.size, 1, none⟩ = some (.int .i64 (gV l (nP l p))) := box_cell hb2 (by simp) 1 rfl
  have m2 : w2.cell? ⟨w1.heap.size, 2, none⟩ = some (.string (gL l (nP l p))) := box_cell hb2 (by simp) 2 rfl
  have m3 : w2.cell? ⟨w1.heap.size, 3, none⟩ = some (.int .i64 (gNV l (nP l p))) := box_cell hb2 (by simp) 3 rfl
  have m4 : w2.cell? ⟨w1.heap.size, 4, none⟩ = some (.int .i64 (gSI l p)) := box_cell hb2 (by simp) 4 rfl
  have af : ∀ i, w2.frozen? ⟨w.heap.size, i, none⟩ = false := fun i => by rw [hb2.frozen (p := ⟨w.heap.size, i, none⟩) (by simp <;> omega), (below_alloc w1 _).frozen (p := ⟨w.heap.size, i, none⟩) (by simp <;> omega)]; exact af i
  have tf : ∀ i, w2.frozen? ⟨R, i, none⟩ = false := fun i => by rw [hb2.frozen (p := ⟨R, i, none⟩) (by simp <;> omega), (below_alloc w1 _).frozen (p := ⟨R, i, none⟩) (by simp <;> omega)]; exact tf i
  have hb2' := below_step (below_alloc w1 _) hb2
  have HR := Lib.hid (HR.out.below hb2')
  have HK := Lib.hid (HK.out.trans (Keep.of_below hb2'))
  clear hb2 hb2'
  go_wp2
  refine bodyPost_ret (v := .tuple #[zS, .int .i64 4]) ?_ rfl ⟨rfl, ?_, ?_⟩
  · simp [results, Tryz.results130, go_sem, a0, a1, a2, a3, a4, b0, b1, b2, b3, b4, s0, s1, t0, t1, af, tf, d1, Ne.symm d1]
    try rfl
  · exact (Rd.new h (Rd.new h (Rd.new h (Rd.new h (Rd.new h (Rd.back HR.out hle) (by simp) _) (by simp) _) (by simp) _) (by simp) _) (by simp) _)
  · exact (((((((HK.out.setCell (.inl (by simp)) _).setCell (.inl (by simp)) _).setCell (.inr (by simp)) _).setCell (.inr (by simp)) _).setCell (.inr (by simp)) _).setCell (.inr (by simp)) _).setCell (.inr (by simp)) _)
set_option maxRecDepth 20000 in
set_option maxHeartbeats 1000000 in
theorem takenS_yes (R : Nat) (ad : Addr) (c : Nat) (l : List UInt8) (p : Nat) (w : World) (h : Rd w R TR (some ad) c l p) (hB : gSB l p = false) (hO : okS (gV l p) (gV l (nP l p)) (gL l (nP l p)) (gNV l (nP l p)) (gSI l p) = true) :
    Calls Tryz.prog 130 #[.pointer (some ⟨R, 0, none⟩), .func (.func 131) #[] #[], .func (.func 133) #[] #[]] w fun e w' => e = .returned (.tuple #[gS l p, .int .i64 0]) ∧ Rd w' R TR (some ad) c l (gSP l p) ∧ Keep [R] w w' := by
  have c0 := h.c0
  have c1 := h.c1
  have hR := h.lt
  have hle := h.le
  have hne := eE_ne l p
  have HB := Lib.hid hB
  have hLs : (gL l (nP l p)).size ≤ 1000000 := gL_size _ _ h.short
  clear hB
  have HO := Lib.hid hO
  clear hO
  go_enter Tryz.func130, Tryz.ntmps130
  go_wp2_with (go_at_call 173; refine (end_any R ad c l p _ (h.below (by go_grown))).mono ?_; rintro e _ ⟨rfl, n, rfl⟩)
  go_wp2_with fail
  have hb0 : Below w.heap.size w (((w.alloc (.cells #[.int .i64 0, .int .i64 0, .string ⟨#[]⟩, .int .i64 0, .int .i64 0] 37)).alloc (.cells #[.int .i64 0, .int .i64 0, .string ⟨#[]⟩, .int .i64 0, .int .i64 0] 37)).drewN n) := below_dn (by go_grown) n
  refine (gst_any R (w.heap.size + 1 + 1 + 1) false ad c l p _ (Rg.start h (Below.alloc hb0 (by simp <;> omega) _) (by simp))).mono ?_
  rintro e w1 ⟨rfl, hg1, hk1⟩
  rw [Bool.false_or, HB.out] at hg1
  have hz : w.heap.size + 4 ≤ w1.heap.size := by have := hk1.size; simp at this; omega
  have hA : Below (w.heap.size + 1) (w.alloc (.cells #[.int .i64 0, .int .i64 0, .string ⟨#[]⟩, .int .i64 0, .int .i64 0] 37)) (((((w.alloc (.cells #[.int .i64 0, .int .i64 0, .string ⟨#[]⟩, .int .i64 0, .int .i64 0] 37)).alloc (.cells #[.int .i64 0, .int .i64 0, .string ⟨#[]⟩, .int .i64 0, .int .i64 0] 37)).drewN n).alloc (.cells #[.slice (some ad) l.length c, .int .i64 p] TR)).alloc (.cells #[.pointer (some ⟨R, 0, none⟩), .bool false] TX)) := Below.alloc (Below.alloc (below_dn (below_up _ _ (by simp)) n) (by simp) _) (by simp) _
  have hA2 : Below (w.heap.size + 1 + 1) ((w.alloc (.cells #[.int .i64 0, .int .i64 0, .string ⟨#[]⟩, .int .i64 0, .int .i64 0] 37)).alloc (.cells #[.int .i64 0, .int .i64 0, .string ⟨#[]⟩, .int .i64 0, .int .i64 0] 37)) (((((w.alloc (.cells #[.int .i64 0, .int .i64 0, .string ⟨#[]⟩, .int .i64 0, .int .i64 0] 37)).alloc (.cells #[.int .i64 0, .int .i64 0, .string ⟨#[]⟩, .int .i64 0, .int .i64 0] 37)).drewN n).alloc (.cells #[.slice (some ad) l.length c, .int .i64 p] TR)).alloc (.cells #[.pointer (some ⟨R, 0, none⟩), .bool false] TX)) := Below.alloc (Below.alloc (below_dn (Below.refl _ _) n) (by simp) _) (by simp) _
  have hA3 : Below (w.heap.size + 1 + 1 + 1) ((((w.alloc (.cells #[.int .i64 0, .int .i64 0, .string ⟨#[]⟩, .int .i64 0, .int .i64 0] 37)).alloc (.cells #[.int .i64 0, .int .i64 0, .string ⟨#[]⟩, .int .i64 0, .int .i64 0] 37)).drewN n).alloc (.cells #[.slice (some ad) l.length c, .int .i64 p] TR)) (((((w.alloc (.cells #[.int .i64 0, .int .i64 0, .string ⟨#[]⟩, .int .i64 0, .int .i64 0] 37)).alloc (.cells #[.int .i64 0, .int .i64 0, .string ⟨#[]⟩, .int .i64 0, .int .i64 0] 37)).drewN n).alloc (.cells #[.slice (some ad) l.length c, .int .i64 p] TR)).alloc (.cells #[.pointer (some ⟨R, 0, none⟩), .bool false] TX)) := below_up _ _ (by simp)
  have hS : ((((w.alloc (.cells #[.int .i64 0, .int .i64 0, .string ⟨#[]⟩, .int .i64 0, .int .i64 0] 37)).alloc (.cells #[.int .i64 0, .int .i64 0, .string ⟨#[]⟩, .int .i64 0, .int .i64 0] 37)).drewN n).alloc (.cells #[.slice (some ad) l.length c, .int .i64 p] TR)).heap[w.heap.size + 1 + 1]? = some (.cells #[.slice (some ad) l.length c, .int .i64 p] TR (0, 0)) := by
    have := heap_alloc_new (((w.alloc (.cells #[.int .i64 0, .int .i64 0, .string ⟨#[]⟩, .int .i64 0, .int .i64 0] 37)).alloc (.cells #[.int .i64 0, .int .i64 0, .string ⟨#[]⟩, .int .i64 0, .int .i64 0] 37)).drewN n) (.cells #[.slice (some ad) l.length c, .int .i64 p] TR)
    rwa [show (((w.alloc (.cells #[.int .i64 0, .int .i64 0, .string ⟨#[]⟩, .int .i64 0, .int .i64 0] 37)).alloc (.cells #[.int .i64 0, .int .i64 0, .string ⟨#[]⟩, .int .i64 0, .int .i64 0] 37)).drewN n).heap.size = w.heap.size + 1 + 1 by simp] at this
  have a0 : w1.cell? ⟨w.heap.size, 0, none⟩ = some (.int .i64 0) := hk1.cell_on (by simp <;> omega) (by simp <;> omega) (cell_on hA (by simp) (by simp))
  have b0 : w1.cell? ⟨w.heap.size + 1, 0, none⟩ = some (.int .i64 0) := hk1.cell_on (by simp <;> omega) (by simp <;> omega) (cell_on hA2 (by simp) (by simp))
  have a1 : w1.cell? ⟨w.heap.size, 1, none⟩ = some (.int .i64 0) := hk1.cell_on (by simp <;> omega) (by simp <;> omega) (cell_on hA (by simp) (by simp))
  have b1 : w1.cell? ⟨w.heap.size + 1, 1, none⟩ = some (.int .i64 0) := hk1.cell_on (by simp <;> omega) (by simp <;> omega) (cell_on hA2 (by simp) (by simp))
  have a2 : w1.cell? ⟨w.heap.size, 2, none⟩ = some (.string ⟨#[]⟩) := hk1.cell_on (by simp <;> omega) (by simp <;> omega) (cell_on hA (by simp) (by simp))
  have b2 : w1.cell? ⟨w.heap.size + 1, 2, none⟩ = some (.string ⟨#[]⟩) := hk1.cell_on (by simp <;> omega) (by simp <;> omega) (cell_on hA2 (by simp) (by simp))
  have a3 : w1.cell? ⟨w.heap.size, 3, none⟩ = some (.int .i64 0) := hk1.cell_on (by simp <;> omega) (by simp <;> omega) (cell_on hA (by simp) (by simp))
  have b3 : w1.cell? ⟨w.heap.size + 1, 3, none⟩ = some (.int .i64 0) := hk1.cell_on (by simp <;> omega) (by simp <;> omega) (cell_on hA2 (by simp) (by simp))
  have a4 : w1.cell? ⟨w.heap.size, 4, none⟩ = some (.int .i64 0) := hk1.cell_on (by simp <;> omega) (by simp <;> omega) (cell_on hA (by simp) (by simp))
  have b4 : w1.cell? ⟨w.heap.size + 1, 4, none⟩ = some (.int .i64 0) := hk1.cell_on (by simp <;> omega) (by simp <;> omega) (cell_on hA2 (by simp) (by simp))
  have af : ∀ i, w1.frozen? ⟨w.heap.size, i, none⟩ = false := fun i => by rw [hk1.bcell.2 _ _ (by simp <;> omega) (by simp <;> omega), hA.frozen (p := ⟨w.heap.size, i, none⟩) (by simp)]; simp
  have s0 : w1.cell? ⟨w.heap.size + 1 + 1, 0, none⟩ = some (.slice (some ad) l.length c) := hk1.cell_on (by simp <;> omega) (by simp <;> omega) (cell_on hA3 (by simp) (box_cells hS 0))
  have s1 : w1.cell? ⟨w.heap.size + 1 + 1, 1, none⟩ = some (.int .i64 p) := hk1.cell_on (by simp <;> omega) (by simp <;> omega) (cell_on hA3 (by simp) (box_cells hS 1))
  have x1 := hg1.x1
  have hXl := hg1.xlt
  have hRl := hg1.rd.lt
  have hr1 := hg1.rd
  have t0 := hr1.c0
  have t1 := hr1.c1
  have tf := hr1.fr
  have hkw : Keep [R] w w1 := Keep.then (Keep.of_below (S := [R]) (Below.alloc (Below.alloc hb0 (by simp <;> omega) _) (by simp <;> omega) _)) hk1 (fun k hk => by simp at hk; rcases hk with rfl | rfl <;> simp <;> omega)
  have HR := Lib.hid hr1
  have HK := Lib.hid hkw
  have d1 : R ≠ w.heap.size := by omega
  have l0 : w.heap.size < w1.heap.size := by omega
  have l1 : w.heap.size + 1 < w1.heap.size := by omega
  have l2 : w.heap.size + 1 + 1 < w1.heap.size := by omega
  clear hk1 hg1 hr1 hkw c0 c1 hA hA2 hA3 hS hb0
  go_wp2_with fail
  refine (stamp_any (gV l p) (gV l (nP l p)) (gL l (nP l p)) (gNV l (nP l p)) (gSI l p) _ hLs).mono ?_
  rw [HO.out]
  rintro e w2 ⟨rfl, hb2⟩
  have hz2 : w1.heap.size < w2.heap.size := by have := hb2.size; simp at this; omega
  have a0 := cell_on hb2 (by simp <;> omega) ((World.cell?_alloc_lt w1 _ _ (by simp <;> omega)).trans a0)
  have a1 := cell_on hb2 (by simp <;> omega) ((World.cell?_alloc_lt w1 _ _ (by simp <;> omega)).trans a1)
  have a2 := cell_on hb2 (by simp <;> omega) ((World.cell?_alloc_lt w1 _ _ (by simp <;> omega)).trans a2)
  have a3 := cell_on hb2 (by simp <;> omega) ((World.cell?_alloc_lt w1 _ _ (by simp <;> omega)).trans a3)
  have a4 := cell_on hb2 (by simp <;> omega) ((World.cell?_alloc_lt w1 _ _ (by simp <;> omega)).trans a4)
  have b0 := cell_on hb2 (by simp <;> omega) ((World.cell?_alloc_lt w1 _ _ (by simp <;> omega)).trans b0)
  have b1 := cell_on hb2 (by simp <;> omega) ((World.cell?_alloc_lt w1 _ _ (by simp <;> omega)).trans b1)
  have b2 := cell_on hb2 (by simp <;> omega) ((World.cell?_alloc_lt w1 _ _ (by simp <;> omega)).trans b2)
  have b3 := cell_on hb2 (by simp <;> omega) ((World.cell?_alloc_lt w1 _ _ (by simp <;> omega)).trans b3)
  have b4 := cell_on hb2 (by simp <;> omega) ((World.cell?_alloc_lt w1 _ _ (by simp <;> omega)).trans b4)
  have s0 := cell_on hb2 (by simp <;> omega) ((World.cell?_alloc_lt w1 _ _ (by simp <;> omega)).trans s0)
  have s1 := cell_on hb2 (by simp <;> omega) ((World.cell?_alloc_lt w1 _ _ (by simp <;> omega)).trans s1)
  have t0 := cell_on hb2 (by simp <;> omega) ((World.cell?_alloc_lt w1 _ _ (by simp <;> omega)).trans t0)
  have t1 := cell_on hb2 (by simp <;> omega) ((World.cell?_alloc_lt w1 _ _ (by simp <;> omega)).trans t1)
  have m0 : w2.cell? ⟨w1.heap.size, 0, none⟩ = some (.int .i64 (gV l p)) := box_cell hb2 (by simp) 0 rfl
  have m1 : w2.cell? ⟨w1.heap.size, 1, none⟩ = some (.int .i64 (gV l (nP l p))) := box_cell hb2 (by simp) 1 rfl
  have m2 : w2.cell? ⟨w1.heap.size, 2, none⟩ = some (.string (gL l (nP l p))) := box_cell hb2 (by simp) 2 rfl
  have m3 : w2.cell? ⟨w1.heap.size, 3, none⟩ = some (.int .i64 (gNV l (nP l p))) := box_cell hb2 (by simp) 3 rfl
  have m4 : w2.cell? ⟨w1.heap.size, 4, none⟩ = some (.int .i64 (gSI l p)) := box_cell hb2 (by simp) 4 rfl
  have af : ∀ i, w2.frozen? ⟨w.heap.size, i, none⟩ = false := fun i => by rw [hb2.frozen (p := ⟨w.heap.size, i, none⟩) (by simp <;> omega), (below_alloc w1 _).frozen (p := ⟨w.heap.size, i, none⟩) (by simp <;> omega)]; exact af i
  have tf : ∀ i, w2.frozen? ⟨R, i, none⟩ = false := fun i => by rw [hb2.frozen (p := ⟨R, i, none⟩) (by simp <;> omega), (below_alloc w1 _).frozen (p := ⟨R, i, none⟩) (by simp <;> omega)]; exact tf i
  have hb2' := below_step (below_alloc w1 _) hb2
  have HR := Lib.hid (HR.out.below hb2')
  have HK := Lib.hid (HK.out.trans (Keep.of_below hb2'))
  clear hb2 hb2'
  go_wp2
  refine bodyPost_ret (v := .tuple #[gS l p, .int .i64 0]) ?_ rfl ⟨rfl, ?_, ?_⟩
  · simp [results, Tryz.results130, go_sem, a0, a1, a2, a3, a4, m0, m1, m2, m3, m4, af, tf, d1, Ne.symm d1]
    try rfl
  · exact (Rd.new h (Rd.new h (Rd.new h (Rd.new h (Rd.new h HR.out (by simp) _) (by simp) _) (by simp) _) (by simp) _) (by simp) _)
  · exact (((((HK.out.setCell (.inr (by simp)) _).setCell (.inr (by simp)) _).setCell (.inr (by simp)) _).setCell (.inr (by simp)) _).setCell (.inr (by simp)) _)
theorem takenS_not (R : Nat) (ad : Addr) (c : Nat) (l : List UInt8) (p : Nat) (w : World) (h : Rd w R TR (some ad) c l p) (hO : ¬ (gSB l p = false ∧ okS (gV l p) (gV l (nP l p)) (gL l (nP l p)) (gNV l (nP l p)) (gSI l p) = true)) :
    Calls Tryz.prog 130 #[.pointer (some ⟨R, 0, none⟩), .func (.func 131) #[] #[], .func (.func 133) #[] #[]] w fun e w' => e = .returned (.tuple #[zS, .int .i64 4]) ∧ Rd w' R TR (some ad) c l (p) ∧ Keep [R] w w' := by
  cases hB : gSB l p with
  | true => exact takenS_bad R ad c l p w h hB
  | false =>
    cases hK : okS (gV l p) (gV l (nP l p)) (gL l (nP l p)) (gNV l (nP l p)) (gSI l p) with
    | false => exact takenS_no R ad c l p w h hB hK
    | true => exact absurd ⟨hB, hK⟩ hO
set_option maxRecDepth 20000 in
set_option maxHeartbeats 1000000 in
theorem takeS_not (R : Nat) (ad : Addr) (c : Nat) (l : List UInt8) (p : Nat) (w : World) (h : Rd w R TR (some ad) c l p) (hO : ¬ (gSB l p = false ∧ okS (gV l p) (gV l (nP l p)) (gL l (nP l p)) (gNV l (nP l p)) (gSI l p) = true)) :
    Calls Tryz.prog 33 #[.pointer (some ⟨R, 0, none⟩)] w fun e w' => e = .returned (.tuple #[zS, .int .i64 4]) ∧ Rd w' R TR (some ad) c l (p) ∧ Keep [R] w w' := by
  have hR := h.lt
  have HO := Lib.hid hO
  clear hO
  go_enter Tryz.func33, Tryz.ntmps33
  go_wp2_with fail
  refine (takenS_not R ad c l p _ (h.below (below_alloc _ _)) HO.out).mono ?_
  rintro e w1 ⟨rfl, hr1, hk1⟩
  have a0 : w1.cell? ⟨w.heap.size, 0, none⟩ = some (.int .i64 0) := hk1.cell_on (by simp) (by simp <;> omega) (by simp)
  have a1 : w1.cell? ⟨w.heap.size, 1, none⟩ = some (.int .i64 0) := hk1.cell_on (by simp) (by simp <;> omega) (by simp)
  have a2 : w1.cell? ⟨w.heap.size, 2, none⟩ = some (.string ⟨#[]⟩) := hk1.cell_on (by simp) (by simp <;> omega) (by simp)
  have a3 : w1.cell? ⟨w.heap.size, 3, none⟩ = some (.int .i64 0) := hk1.cell_on (by simp) (by simp <;> omega) (by simp)
  have a4 : w1.cell? ⟨w.heap.size, 4, none⟩ = some (.int .i64 0) := hk1.cell_on (by simp) (by simp <;> omega) (by simp)
  have af : ∀ i, w1.frozen? ⟨w.heap.size, i, none⟩ = false := fun i => by rw [hk1.bcell.2 _ _ (by simp) (by simp <;> omega)]; simp
  have HR := Lib.hid hr1
  have HK := Lib.hid ((Keep.of_below (S := [R]) (below_alloc w _)).trans hk1)
  clear hr1 hk1
  go_wp2
  refine bodyPost_ret (v := .tuple #[zS, .int .i64 4]) ?_ rfl ⟨rfl, ?_, ?_⟩
  · simp [results, Tryz.results33, go_sem, a0, a1, a2, a3, a4, af]
    try rfl
  · exact (Rd.new h (Rd.new h (Rd.new h (Rd.new h (Rd.new h HR.out (by simp) _) (by simp) _) (by simp) _) (by simp) _) (by simp) _)
  · exact (((((HK.out.setCell (.inr (by simp)) _).setCell (.inr (by simp)) _).setCell (.inr (by simp)) _).setCell (.inr (by simp)) _).setCell (.inr (by simp)) _)
set_option maxRecDepth 20000 in
set_option maxHeartbeats 1000000 in
theorem takeS_yes (R : Nat) (ad : Addr) (c : Nat) (l : List UInt8) (p : Nat) (w : World) (h : Rd w R TR (some ad) c l p) (hB : gSB l p = false) (hO : okS (gV l p) (gV l (nP l p)) (gL l (nP l p)) (gNV l (nP l p)) (gSI l p) = true) :
    Calls Tryz.prog 33 #[.pointer (some ⟨R, 0, none⟩)] w fun e w' => e = .returned (.tuple #[gS l p, .int .i64 0]) ∧ Rd w' R TR (some ad) c l (gSP l p) ∧ Keep [R] w w' := by
  have hR := h.lt
  have HB := Lib.hid hB
  clear hB
  have HO := Lib.hid hO
  clear hO
  go_enter Tryz.func33, Tryz.ntmps33
  go_wp2_with fail
  refine (takenS_yes R ad c l p _ (h.below (below_alloc _ _)) HB.out HO.out).mono ?_
  rintro e w1 ⟨rfl, hr1, hk1⟩
  have a0 : w1.cell? ⟨w.heap.size, 0, none⟩ = some (.int .i64 0) := hk1.cell_on (by simp) (by simp <;> omega) (by simp)
  have a1 : w1.cell? ⟨w.heap.size, 1, none⟩ = some (.int .i64 0) := hk1.cell_on (by simp) (by simp <;> omega) (by simp)
  have a2 : w1.cell? ⟨w.heap.size, 2, none⟩ = some (.string ⟨#[]⟩) := hk1.cell_on (by simp) (by simp <;> omega) (by simp)
  have a3 : w1.cell? ⟨w.heap.size, 3, none⟩ = some (.int .i64 0) := hk1.cell_on (by simp) (by simp <;> omega) (by simp)
  have a4 : w1.cell? ⟨w.heap.size, 4, none⟩ = some (.int .i64 0) := hk1.cell_on (by simp) (by simp <;> omega) (by simp)
  have af : ∀ i, w1.frozen? ⟨w.heap.size, i, none⟩ = false := fun i => by rw [hk1.bcell.2 _ _ (by simp) (by simp <;> omega)]; simp
  have HR := Lib.hid hr1
  have HK := Lib.hid ((Keep.of_below (S := [R]) (below_alloc w _)).trans hk1)
  clear hr1 hk1
  go_wp2
  refine bodyPost_ret (v := .tuple #[gS l p, .int .i64 0]) ?_ rfl ⟨rfl, ?_, ?_⟩
  · simp [results, Tryz.results33, go_sem, a0, a1, a2, a3, a4, af]
    try rfl
  · exact (Rd.new h (Rd.new h (Rd.new h (Rd.new h (Rd.new h HR.out (by simp) _) (by simp) _) (by simp) _) (by simp) _) (by simp) _)
  · exact (((((HK.out.setCell (.inr (by simp)) _).setCell (.inr (by simp)) _).setCell (.inr (by simp)) _).setCell (.inr (by simp)) _).setCell (.inr (by simp)) _)
end Go.Proofs.YtnldgcgngolkiaaGreatDoor
