/- stamp's taken at its three types, TakeBranch, TakeName, Take: the walks. -/
import Derived.Test.YtnldgcgngolkiaaGreatDoorSB
namespace Go.Proofs.YtnldgcgngolkiaaGreatDoor
open Go.RowKit
set_option linter.unusedVariables false
set_option linter.unusedSimpArgs false
set_option linter.unnecessarySimpa false
attribute [local go_sem] givesUpon
theorem eE_ne (l : List UInt8) (p : Nat) : (eE l p == 1) = false := by unfold eE; split <;> rfl
theorem Rg.start {w w1 : World} {R X : Nat} {A : Option Addr} {c : Nat} {l : List UInt8} {p : Nat} (h : Rd w R TR A c l p) (hb : Below w.heap.size w w1) (hX : X = w1.heap.size) : Rg (w1.alloc (.cells #[.pointer (some ⟨R, 0, none⟩), .bool false] TX)) R X false A c l p := by
  subst hX
  have h1 := h.below hb
  exact ⟨h1.below (below_alloc _ _), heap_alloc_new _ _, by have := h1.lt; omega, fun h0 ad e => by have := (h1.adlt h0 ad e).1; omega⟩
theorem below_dn {B : Nat} {a w : World} (h : Below B a w) (n : Nat) : Below B a (w.drewN n) := ⟨h.os, h.tape, h.output, h.size, h.block⟩
theorem below_up {B : Nat} (w : World) (o : Obj) (h : B ≤ w.heap.size) : Below B w (w.alloc o) := (Below.refl _ _).alloc h o
theorem Rd.back {w : World} {R : Nat} {T : TypeId} {A : Option Addr} {c : Nat} {l : List UInt8} {p q : Nat} (h : Rd w R T A c l p) (hq : q ≤ l.length) :
    Rd ((w.setCell ⟨R, 0, none⟩ (.slice A l.length c)).setCell ⟨R, 1, none⟩ (.int .i64 q)) R T A c l q := by
  have h1 : Rd (w.setCell ⟨R, 0, none⟩ (.slice A l.length c)) R T A c l p :=
    ⟨by rw [box_set h.blk]; rfl, h.le, h.cap, h.short, fun h0 => by
      obtain ⟨G, o, e, g1, g2, g3⟩ := h.bts h0
      exact ⟨G, o, e, g1, by simpa using g2, fun j hj => (World.cell?_setCell_far _ _ _ _ (Ne.symm g1)).trans (g3 j hj)⟩⟩
  exact h1.move hq
theorem yV_len (most : Nat) (l : List UInt8) (p : Nat) : (yV most l p).length ≤ l.length := by
  unfold yV
  split
  · rw [List.length_take, List.length_drop]; omega
  · simp
theorem gL_size (l : List UInt8) (p : Nat) (h : l.length ≤ 1000000) : (gL l p).size ≤ 1000000 := by
  have := yV_len 12 l (nP l p)
  rw [gL, ← str_len]
  exact Nat.le_trans this h
set_option maxRecDepth 20000 in
set_option maxHeartbeats 1000000 in
theorem takenB_bad (R : Nat) (ad : Addr) (c : Nat) (l : List UInt8) (p : Nat) (w : World) (h : Rd w R TR (some ad) c l p) (hB : gBB l p = true) :
    Calls Tryz.prog 120 #[.pointer (some ⟨R, 0, none⟩), .func (.func 121) #[] #[], .func (.func 122) #[] #[]] w fun e w' => e = .returned (.tuple #[zB, .int .i64 4]) ∧ Rd w' R TR (some ad) c l (p) ∧ Keep [R] w w' := by
  have c0 := h.c0
  have c1 := h.c1
  have hR := h.lt
  have hle := h.le
  have hne := eE_ne l p
  have HB := Lib.hid hB
  have hLs : (gL l p).size ≤ 1000000 := gL_size _ _ h.short
  clear hB
  go_enter Tryz.func120, Tryz.ntmps120
  go_wp2_with (go_at_call 173; refine (end_any R ad c l p _ (h.below (by go_grown))).mono ?_; rintro e _ ⟨rfl, n, rfl⟩)
  go_wp2_with fail
  have hb0 : Below w.heap.size w (((w.alloc (.cells #[.int .i64 0, .string ⟨#[]⟩] 24)).alloc (.cells #[.int .i64 0, .string ⟨#[]⟩] 24)).drewN n) := below_dn (by go_grown) n
  refine (gbr_any R (w.heap.size + 1 + 1 + 1) false ad c l p _ (Rg.start h (Below.alloc hb0 (by simp <;> omega) _) (by simp))).mono ?_
  rintro e w1 ⟨rfl, hg1, hk1⟩
  rw [Bool.false_or, HB.out] at hg1
  have hz : w.heap.size + 4 ≤ w1.heap.size := by have := hk1.size; simp at this; omega
  have hA : Below (w.heap.size + 1) (w.alloc (.cells #[.int .i64 0, .string ⟨#[]⟩] 24)) (((((w.alloc (.cells #[.int .i64 0, .string ⟨#[]⟩] 24)).alloc (.cells #[.int .i64 0, .string ⟨#[]⟩] 24)).drewN n).alloc (.cells #[.slice (some ad) l.length c, .int .i64 p] TR)).alloc (.cells #[.pointer (some ⟨R, 0, none⟩), .bool false] TX)) := Below.alloc (Below.alloc (below_dn (below_up _ _ (by simp)) n) (by simp) _) (by simp) _
  have hA2 : Below (w.heap.size + 1 + 1) ((w.alloc (.cells #[.int .i64 0, .string ⟨#[]⟩] 24)).alloc (.cells #[.int .i64 0, .string ⟨#[]⟩] 24)) (((((w.alloc (.cells #[.int .i64 0, .string ⟨#[]⟩] 24)).alloc (.cells #[.int .i64 0, .string ⟨#[]⟩] 24)).drewN n).alloc (.cells #[.slice (some ad) l.length c, .int .i64 p] TR)).alloc (.cells #[.pointer (some ⟨R, 0, none⟩), .bool false] TX)) := Below.alloc (Below.alloc (below_dn (Below.refl _ _) n) (by simp) _) (by simp) _
  have hA3 : Below (w.heap.size + 1 + 1 + 1) ((((w.alloc (.cells #[.int .i64 0, .string ⟨#[]⟩] 24)).alloc (.cells #[.int .i64 0, .string ⟨#[]⟩] 24)).drewN n).alloc (.cells #[.slice (some ad) l.length c, .int .i64 p] TR)) (((((w.alloc (.cells #[.int .i64 0, .string ⟨#[]⟩] 24)).alloc (.cells #[.int .i64 0, .string ⟨#[]⟩] 24)).drewN n).alloc (.cells #[.slice (some ad) l.length c, .int .i64 p] TR)).alloc (.cells #[.pointer (some ⟨R, 0, none⟩), .bool false] TX)) := below_up _ _ (by simp)
  have hS : ((((w.alloc (.cells #[.int .i64 0, .string ⟨#[]⟩] 24)).alloc (.cells #[.int .i64 0, .string ⟨#[]⟩] 24)).drewN n).alloc (.cells #[.slice (some ad) l.length c, .int .i64 p] TR)).heap[w.heap.size + 1 + 1]? = some (.cells #[.slice (some ad) l.length c, .int .i64 p] TR (0, 0)) := by
    have := heap_alloc_new (((w.alloc (.cells #[.int .i64 0, .string ⟨#[]⟩] 24)).alloc (.cells #[.int .i64 0, .string ⟨#[]⟩] 24)).drewN n) (.cells #[.slice (some ad) l.length c, .int .i64 p] TR)
    rwa [show (((w.alloc (.cells #[.int .i64 0, .string ⟨#[]⟩] 24)).alloc (.cells #[.int .i64 0, .string ⟨#[]⟩] 24)).drewN n).heap.size = w.heap.size + 1 + 1 by simp] at this
  have a0 : w1.cell? ⟨w.heap.size, 0, none⟩ = some (.int .i64 0) := hk1.cell_on (by simp <;> omega) (by simp <;> omega) (cell_on hA (by simp) (by simp))
  have b0 : w1.cell? ⟨w.heap.size + 1, 0, none⟩ = some (.int .i64 0) := hk1.cell_on (by simp <;> omega) (by simp <;> omega) (cell_on hA2 (by simp) (by simp))
  have a1 : w1.cell? ⟨w.heap.size, 1, none⟩ = some (.string ⟨#[]⟩) := hk1.cell_on (by simp <;> omega) (by simp <;> omega) (cell_on hA (by simp) (by simp))
  have b1 : w1.cell? ⟨w.heap.size + 1, 1, none⟩ = some (.string ⟨#[]⟩) := hk1.cell_on (by simp <;> omega) (by simp <;> omega) (cell_on hA2 (by simp) (by simp))
  have af : ∀ i, w1.frozen? ⟨w.heap.size, i, none⟩ = false := fun i => by rw [hk1.bcell.2 _ _ (by simp <;> omega) (by simp <;> omega), hA.frozen (p := ⟨w.heap.size, i, none⟩) (by simp)]; simp
  have s0 : w1.cell? ⟨w.heap.size + 1 + 1, 0, none⟩ = some (.slice (some ad) l.length c) := hk1.cell_on (by simp <;> omega) (by simp <;> omega) (cell_on hA3 (by simp) (box_cells hS 0))
  have s1 : w1.cell? ⟨w.heap.size + 1 + 1, 1, none⟩ = some (.int .i64 p) := hk1.cell_on (by simp <;> omega) (by simp <;> omega) (cell_on hA3 (by simp) (box_cells hS 1))
  have x1 := hg1.x1
  have hXl := hg1.xlt
  have hRl := hg1.rd.lt
  have hr1 := hg1.rd
  have t0 := hr1.c0
  have t1 := hr1.c1
  have tf := hr1.fr
  have hkw : Keep [R] w w1 := Keep.then (Keep.of_below (S := [R]) (Below.alloc (Below.alloc hb0 (by simp <;> omega) _) (by simp <;> omega) _)) hk1 (fun k hk => by simp at hk; rcases hk with rfl | rfl <;> simp <;> omega)
  have HR := Lib.hid hr1
  have HK := Lib.hid hkw
  have d1 : R ≠ w.heap.size := by omega
  have l0 : w.heap.size < w1.heap.size := by omega
  have l1 : w.heap.size + 1 < w1.heap.size := by omega
  have l2 : w.heap.size + 1 + 1 < w1.heap.size := by omega
  clear hk1 hg1 hr1 hkw c0 c1 hA hA2 hA3 hS hb0
  go_upto_region 7 with (fail)
  have hb2 := below_alloc w1 (.cells #[.int .i64 (gV l p), .string (gL l p)] 24)
  generalize w1.alloc (.cells #[.int .i64 (gV l p), .string (gL l p)] 24) = w2 at *
  have a0 := cell_on hb2 (by simp <;> omega) a0
  have a1 := cell_on hb2 (by simp <;> omega) a1
  have b0 := cell_on hb2 (by simp <;> omega) b0
  have b1 := cell_on hb2 (by simp <;> omega) b1
  have s0 := cell_on hb2 (by simp <;> omega) s0
  have s1 := cell_on hb2 (by simp <;> omega) s1
  have t0 := cell_on hb2 (by simp <;> omega) t0
  have t1 := cell_on hb2 (by simp <;> omega) t1
  have x1 := cell_on hb2 (by simp <;> omega) x1
  have af : ∀ i, w2.frozen? ⟨w.heap.size, i, none⟩ = false := fun i => (hb2.frozen (p := ⟨w.heap.size, i, none⟩) (by simp <;> omega)).trans (af i)
  have tf : ∀ i, w2.frozen? ⟨R, i, none⟩ = false := fun i => (hb2.frozen (p := ⟨R, i, none⟩) (by simp <;> omega)).trans (tf i)
  have HR := Lib.hid (HR.out.below hb2)
  have HK := Lib.hid (HK.out.trans (Keep.of_below hb2))
  clear hb2
  go_wp2
  refine bodyPost_ret (v := .tuple #[zB, .int .i64 4]) ?_ rfl ⟨rfl, ?_, ?_⟩
  · simp [results, Tryz.results120, go_sem, a0, a1, b0, b1, s0, s1, t0, t1, af, tf, d1, Ne.symm d1]
    try rfl
  · exact (Rd.new h (Rd.new h (Rd.back HR.out hle) (by simp) _) (by simp) _)
  · exact ((((HK.out.setCell (.inl (by simp)) _).setCell (.inl (by simp)) _).setCell (.inr (by simp)) _).setCell (.inr (by simp)) _)
set_option maxRecDepth 20000 in
set_option maxHeartbeats 1000000 in
theorem takenB_no (R : Nat) (ad : Addr) (c : Nat) (l : List UInt8) (p : Nat) (w : World) (h : Rd w R TR (some ad) c l p) (hB : gBB l p = false) (hO : okB (gV l p) (gL l p) = false) :
    Calls Tryz.prog 120 #[.pointer (some ⟨R, 0, none⟩), .func (.func 121) #[] #[], .func (.func 122) #[] #[]] w fun e w' => e = .returned (.tuple #[zB, .int .i64 4]) ∧ Rd w' R TR (some ad) c l (p) ∧ Keep [R] w w' := by
  have c0 := h.c0
  have c1 := h.c1
  have hR := h.lt
  have hle := h.le
  have hne := eE_ne l p
  have HB := Lib.hid hB
  have hLs : (gL l p).size ≤ 1000000 := gL_size _ _ h.short
  clear hB
  have HO := Lib.hid hO
  clear hO
  go_enter Tryz.func120, Tryz.ntmps120
  go_wp2_with (go_at_call 173; refine (end_any R ad c l p _ (h.below (by go_grown))).mono ?_; rintro e _ ⟨rfl, n, rfl⟩)
  go_wp2_with fail
  have hb0 : Below w.heap.size w (((w.alloc (.cells #[.int .i64 0, .string ⟨#[]⟩] 24)).alloc (.cells #[.int .i64 0, .string ⟨#[]⟩] 24)).drewN n) := below_dn (by go_grown) n
  refine (gbr_any R (w.heap.size + 1 + 1 + 1) false ad c l p _ (Rg.start h (Below.alloc hb0 (by simp <;> omega) _) (by simp))).mono ?_
  rintro e w1 ⟨rfl, hg1, hk1⟩
  rw [Bool.false_or, HB.out] at hg1
  have hz : w.heap.size + 4 ≤ w1.heap.size := by have := hk1.size; simp at this; omega
  have hA : Below (w.heap.size + 1) (w.alloc (.cells #[.int .i64 0, .string ⟨#[]⟩] 24)) (((((w.alloc (.cells #[.int .i64 0, .string ⟨#[]⟩] 24)).alloc (.cells #[.int .i64 0, .string ⟨#[]⟩] 24)).drewN n).alloc (.cells #[.slice (some ad) l.length c, .int .i64 p] TR)).alloc (.cells #[.pointer (some ⟨R, 0, none⟩), .bool false] TX)) := Below.alloc (Below.alloc (below_dn (below_up _ _ (by simp)) n) (by simp) _) (by simp) _
  have hA2 : Below (w.heap.size + 1 + 1) ((w.alloc (.cells #[.int .i64 0, .string ⟨#[]⟩] 24)).alloc (.cells #[.int .i64 0, .string ⟨#[]⟩] 24)) (((((w.alloc (.cells #[.int .i64 0, .string ⟨#[]⟩] 24)).alloc (.cells #[.int .i64 0, .string ⟨#[]⟩] 24)).drewN n).alloc (.cells #[.slice (some ad) l.length c, .int .i64 p] TR)).alloc (.cells #[.pointer (some ⟨R, 0, none⟩), .bool false] TX)) := Below.alloc (Below.alloc (below_dn (Below.refl _ _) n) (by simp) _) (by simp) _
  have hA3 : Below (w.heap.size + 1 + 1 + 1) ((((w.alloc (.cells #[.int .i64 0, .string ⟨#[]⟩] 24)).alloc (.cells #[.int .i64 0, .string ⟨#[]⟩] 24)).drewN n).alloc (.cells #[.slice (some ad) l.length c, .int .i64 p] TR)) (((((w.alloc (.cells #[.int .i64 0, .string ⟨#[]⟩] 24)).alloc (.cells #[.int .i64 0, .string ⟨#[]⟩] 24)).drewN n).alloc (.cells #[.slice (some ad) l.length c, .int .i64 p] TR)).alloc (.cells #[.pointer (some ⟨R, 0, none⟩), .bool false] TX)) := below_up _ _ (by simp)
  have hS : ((((w.alloc (.cells #[.int .i64 0, .string ⟨#[]⟩] 24)).alloc (.cells #[.int .i64 0, .string ⟨#[]⟩] 24)).drewN n).alloc (.cells #[.slice (some ad) l.length c, .int .i64 p] TR)).heap[w.heap.size + 1 + 1]? = some (.cells #[.slice (some ad) l.length c, .int .i64 p] TR (0, 0)) := by
    have := heap_alloc_new (((w.alloc (.cells #[.int .i64 0, .string ⟨#[]⟩] 24)).alloc (.cells #[.int .i64 0, .string ⟨#[]⟩] 24)).drewN n) (.cells #[.slice (some ad) l.length c, .int .i64 p] TR)
    rwa [show (((w.alloc (.cells #[.int .i64 0, .string ⟨#[]⟩] 24)).alloc (.cells #[.int .i64 0, .string ⟨#[]⟩] 24)).drewN n).heap.size = w.heap.size + 1 + 1 by simp] at this
  have a0 : w1.cell? ⟨w.heap.size, 0, none⟩ = some (.int .i64 0) := hk1.cell_on (by simp <;> omega) (by simp <;> omega) (cell_on hA (by simp) (by simp))
  have b0 : w1.cell? ⟨w.heap.size + 1, 0, none⟩ = some (.int .i64 0) := hk1.cell_on (by simp <;> omega) (by simp <;> omega) (cell_on hA2 (by simp) (by simp))
  have a1 : w1.cell? ⟨w.heap.size, 1, none⟩ = some (.string ⟨#[]⟩) := hk1.cell_on (by simp <;> omega) (by simp <;> omega) (cell_on hA (by simp) (by simp))
  have b1 : w1.cell? ⟨w.heap.size + 1, 1, none⟩ = some (.string ⟨#[]⟩) := hk1.cell_on (by simp <;> omega) (by simp <;> omega) (cell_on hA2 (by simp) (by simp))
  have af : ∀ i, w1.frozen? ⟨w.heap.size, i, none⟩ = false := fun i => by rw [hk1.bcell.2 _ _ (by simp <;> omega) (by simp <;> omega), hA.frozen (p := ⟨w.heap.size, i, none⟩) (by simp)]; simp
  have s0 : w1.cell? ⟨w.heap.size + 1 + 1, 0, none⟩ = some (.slice (some ad) l.length c) := hk1.cell_on (by simp <;> omega) (by simp <;> omega) (cell_on hA3 (by simp) (box_cells hS 0))
  have s1 : w1.cell? ⟨w.heap.size + 1 + 1, 1, none⟩ = some (.int .i64 p) := hk1.cell_on (by simp <;> omega) (by simp <;> omega) (cell_on hA3 (by simp) (box_cells hS 1))
  have x1 := hg1.x1
  have hXl := hg1.xlt
  have hRl := hg1.rd.lt
  have hr1 := hg1.rd
  have t0 := hr1.c0
  have t1 := hr1.c1
  have tf := hr1.fr
  have hkw : Keep [R] w w1 := Keep.then (Keep.of_below (S := [R]) (Below.alloc (Below.alloc hb0 (by simp <;> omega) _) (by simp <;> omega) _)) hk1 (fun k hk => by simp at hk; rcases hk with rfl | rfl <;> simp <;> omega)
  have HR := Lib.hid hr1
  have HK := Lib.hid hkw
  have d1 : R ≠ w.heap.size := by omega
  have l0 : w.heap.size < w1.heap.size := by omega
  have l1 : w.heap.size + 1 < w1.heap.size := by omega
  have l2 : w.heap.size + 1 + 1 < w1.heap.size := by omega
  clear hk1 hg1 hr1 hkw c0 c1 hA hA2 hA3 hS hb0
  go_wp2_with fail
  refine (branch_any (gV l p) (gL l p) _ hLs).mono ?_
  rw [HO.out]
  rintro e w2 ⟨rfl, hb2⟩
  have hz2 : w1.heap.size < w2.heap.size := by have := hb2.size; simp at this; omega
  have a0 := cell_on hb2 (by simp <;> omega) ((World.cell?_alloc_lt w1 _ _ (by simp <;> omega)).trans a0)
  have a1 := cell_on hb2 (by simp <;> omega) ((World.cell?_alloc_lt w1 _ _ (by simp <;> omega)).trans a1)
  have b0 := cell_on hb2 (by simp <;> omega) ((World.cell?_alloc_lt w1 _ _ (by simp <;> omega)).trans b0)
  have b1 := cell_on hb2 (by simp <;> omega) ((World.cell?_alloc_lt w1 _ _ (by simp <;> omega)).trans b1)
  have s0 := cell_on hb2 (by simp <;> omega) ((World.cell?_alloc_lt w1 _ _ (by simp <;> omega)).trans s0)
  have s1 := cell_on hb2 (by simp <;> omega) ((World.cell?_alloc_lt w1 _ _ (by simp <;> omega)).trans s1)
  have t0 := cell_on hb2 (by simp <;> omega) ((World.cell?_alloc_lt w1 _ _ (by simp <;> omega)).trans t0)
  have t1 := cell_on hb2 (by simp <;> omega) ((World.cell?_alloc_lt w1 _ _ (by simp <;> omega)).trans t1)
  have m0 : w2.cell? ⟨w1.heap.size, 0, none⟩ = some (.int .i64 (gV l p)) := box_cell hb2 (by simp) 0 rfl
  have m1 : w2.cell? ⟨w1.heap.size, 1, none⟩ = some (.string (gL l p)) := box_cell hb2 (by simp) 1 rfl
  have af : ∀ i, w2.frozen? ⟨w.heap.size, i, none⟩ = false := fun i => by rw [hb2.frozen (p := ⟨w.heap.size, i, none⟩) (by simp <;> omega), (below_alloc w1 _).frozen (p := ⟨w.heap.size, i, none⟩) (by simp <;> omega)]; exact af i
  have tf : ∀ i, w2.frozen? ⟨R, i, none⟩ = false := fun i => by rw [hb2.frozen (p := ⟨R, i, none⟩) (by simp <;> omega), (below_alloc w1 _).frozen (p := ⟨R, i, none⟩) (by simp <;> omega)]; exact tf i
  have hb2' := below_step (below_alloc w1 _) hb2
  have HR := Lib.hid (HR.out.below hb2')
  have HK := Lib.hid (HK.out.trans (Keep.of_below hb2'))
  clear hb2 hb2'
  go_wp2
  refine bodyPost_ret (v := .tuple #[zB, .int .i64 4]) ?_ rfl ⟨rfl, ?_, ?_⟩
  · simp [results, Tryz.results120, go_sem, a0, a1, b0, b1, s0, s1, t0, t1, af, tf, d1, Ne.symm d1]
    try rfl
  · exact (Rd.new h (Rd.new h (Rd.back HR.out hle) (by simp) _) (by simp) _)
  · exact ((((HK.out.setCell (.inl (by simp)) _).setCell (.inl (by simp)) _).setCell (.inr (by simp)) _).setCell (.inr (by simp)) _)
set_option maxRecDepth 20000 in
set_option maxHeartbeats 1000000 in
theorem takenB_yes (R : Nat) (ad : Addr) (c : Nat) (l : List UInt8) (p : Nat) (w : World) (h : Rd w R TR (some ad) c l p) (hB : gBB l p = false) (hO : okB (gV l p) (gL l p) = true) :
    Calls Tryz.prog 120 #[.pointer (some ⟨R, 0, none⟩), .func (.func 121) #[] #[], .func (.func 122) #[] #[]] w fun e w' => e = .returned (.tuple #[vB (gV l p) (gL l p), .int .i64 0]) ∧ Rd w' R TR (some ad) c l (gP l p) ∧ Keep [R] w w' := by
  have c0 := h.c0
  have c1 := h.c1
  have hR := h.lt
  have hle := h.le
  have hne := eE_ne l p
  have HB := Lib.hid hB
  have hLs : (gL l p).size ≤ 1000000 := gL_size _ _ h.short
  clear hB
  have HO := Lib.hid hO
  clear hO
  go_enter Tryz.func120, Tryz.ntmps120
  go_wp2_with (go_at_call 173; refine (end_any R ad c l p _ (h.below (by go_grown))).mono ?_; rintro e _ ⟨rfl, n, rfl⟩)
  go_wp2_with fail
  have hb0 : Below w.heap.size w (((w.alloc (.cells #[.int .i64 0, .string ⟨#[]⟩] 24)).alloc (.cells #[.int .i64 0, .string ⟨#[]⟩] 24)).drewN n) := below_dn (by go_grown) n
  refine (gbr_any R (w.heap.size + 1 + 1 + 1) false ad c l p _ (Rg.start h (Below.alloc hb0 (by simp <;> omega) _) (by simp))).mono ?_
  rintro e w1 ⟨rfl, hg1, hk1⟩
  rw [Bool.false_or, HB.out] at hg1
  have hz : w.heap.size + 4 ≤ w1.heap.size := by have := hk1.size; simp at this; omega
  have hA : Below (w.heap.size + 1) (w.alloc (.cells #[.int .i64 0, .string ⟨#[]⟩] 24)) (((((w.alloc (.cells #[.int .i64 0, .string ⟨#[]⟩] 24)).alloc (.cells #[.int .i64 0, .string ⟨#[]⟩] 24)).drewN n).alloc (.cells #[.slice (some ad) l.length c, .int .i64 p] TR)).alloc (.cells #[.pointer (some ⟨R, 0, none⟩), .bool false] TX)) := Below.alloc (Below.alloc (below_dn (below_up _ _ (by simp)) n) (by simp) _) (by simp) _
  have hA2 : Below (w.heap.size + 1 + 1) ((w.alloc (.cells #[.int .i64 0, .string ⟨#[]⟩] 24)).alloc (.cells #[.int .i64 0, .string ⟨#[]⟩] 24)) (((((w.alloc (.cells #[.int .i64 0, .string ⟨#[]⟩] 24)).alloc (.cells #[.int .i64 0, .string ⟨#[]⟩] 24)).drewN n).alloc (.cells #[.slice (some ad) l.length c, .int .i64 p] TR)).alloc (.cells #[.pointer (some ⟨R, 0, none⟩), .bool false] TX)) := Below.alloc (Below.alloc (below_dn (Below.refl _ _) n) (by simp) _) (by simp) _
  have hA3 : Below (w.heap.size + 1 + 1 + 1) ((((w.alloc (.cells #[.int .i64 0, .string ⟨#[]⟩] 24)).alloc (.cells #[.int .i64 0, .string ⟨#[]⟩] 24)).drewN n).alloc (.cells #[.slice (some ad) l.length c, .int .i64 p] TR)) (((((w.alloc (.cells #[.int .i64 0, .string ⟨#[]⟩] 24)).alloc (.cells #[.int .i64 0, .string ⟨#[]⟩] 24)).drewN n).alloc (.cells #[.slice (some ad) l.length c, .int .i64 p] TR)).alloc (.cells #[.pointer (some ⟨R, 0, none⟩), .bool false] TX)) := below_up _ _ (by simp)
  have hS : ((((w.alloc (.cells #[.int .i64 0, .string ⟨#[]⟩] 24)).alloc (.cells #[.int .i64 0, .string ⟨#[]⟩] 24)).drewN n).alloc (.cells #[.slice (some ad) l.length c, .int .i64 p] TR)).heap[w.heap.size + 1 + 1]? = some (.cells #[.slice (some ad) l.length c, .int .i64 p] TR (0, 0)) := by
    have := heap_alloc_new (((w.alloc (.cells #[.int .i64 0, .string ⟨#[]⟩] 24)).alloc (.cells #[.int .i64 0, .string ⟨#[]⟩] 24)).drewN n) (.cells #[.slice (some ad) l.length c, .int .i64 p] TR)
    rwa [show (((w.alloc (.cells #[.int .i64 0, .string ⟨#[]⟩] 24)).alloc (.cells #[.int .i64 0, .string ⟨#[]⟩] 24)).drewN n).heap.size = w.heap.size + 1 + 1 by simp] at this
  have a0 : w1.cell? ⟨w.heap.size, 0, none⟩ = some (.int .i64 0) := hk1.cell_on (by simp <;> omega) (by simp <;> omega) (cell_on hA (by simp) (by simp))
  have b0 : w1.cell? ⟨w.heap.size + 1, 0, none⟩ = some (.int .i64 0) := hk1.cell_on (by simp <;> omega) (by simp <;> omega) (cell_on hA2 (by simp) (by simp))
  have a1 : w1.cell? ⟨w.heap.size, 1, none⟩ = some (.string ⟨#[]⟩) := hk1.cell_on (by simp <;> omega) (by simp <;> omega) (cell_on hA (by simp) (by simp))
  have b1 : w1.cell? ⟨w.heap.size + 1, 1, none⟩ = some (.string ⟨#[]⟩) := hk1.cell_on (by simp <;> omega) (by simp <;> omega) (cell_on hA2 (by simp) (by simp))
  have af : ∀ i, w1.frozen? ⟨w.heap.size, i, none⟩ = false := fun i => by rw [hk1.bcell.2 _ _ (by simp <;> omega) (by simp <;> omega), hA.frozen (p := ⟨w.heap.size, i, none⟩) (by simp)]; simp
  have s0 : w1.cell? ⟨w.heap.size + 1 + 1, 0, none⟩ = some (.slice (some ad) l.length c) := hk1.cell_on (by simp <;> omega) (by simp <;> omega) (cell_on hA3 (by simp) (box_cells hS 0))
  have s1 : w1.cell? ⟨w.heap.size + 1 + 1, 1, none⟩ = some (.int .i64 p) := hk1.cell_on (by simp <;> omega) (by simp <;> omega) (cell_on hA3 (by simp) (box_cells hS 1))
  have x1 := hg1.x1
  have hXl := hg1.xlt
  have hRl := hg1.rd.lt
  have hr1 := hg1.rd
  have t0 := hr1.c0
  have t1 := hr1.c1
  have tf := hr1.fr
  have hkw : Keep [R] w w1 := Keep.then (Keep.of_below (S := [R]) (Below.alloc (Below.alloc hb0 (by simp <;> omega) _) (by simp <;> omega) _)) hk1 (fun k hk => by simp at hk; rcases hk with rfl | rfl <;> simp <;> omega)
  have HR := Lib.hid hr1
  have HK := Lib.hid hkw
  have d1 : R ≠ w.heap.size := by omega
  have l0 : w.heap.size < w1.heap.size := by omega
  have l1 : w.heap.size + 1 < w1.heap.size := by omega
  have l2 : w.heap.size + 1 + 1 < w1.heap.size := by omega
  clear hk1 hg1 hr1 hkw c0 c1 hA hA2 hA3 hS hb0
  go_wp2_with fail
  refine (branch_any (gV l p) (gL l p) _ hLs).mono ?_
  rw [HO.out]
  rintro e w2 ⟨rfl, hb2⟩
  have hz2 : w1.heap.size < w2.heap.size := by have := hb2.size; simp at this; omega
  have a0 := cell_on hb2 (by simp <;> omega) ((World.cell?_alloc_lt w1 _ _ (by simp <;> omega)).trans a0)
  have a1 := cell_on hb2 (by simp <;> omega) ((World.cell?_alloc_lt w1 _ _ (by simp <;> omega)).trans a1)
  have b0 := cell_on hb2 (by simp <;> omega) ((World.cell?_alloc_lt w1 _ _ (by simp <;> omega)).trans b0)
  have b1 := cell_on hb2 (by simp <;> omega) ((World.cell?_alloc_lt w1 _ _ (by simp <;> omega)).trans b1)
  have s0 := cell_on hb2 (by simp <;> omega) ((World.cell?_alloc_lt w1 _ _ (by simp <;> omega)).trans s0)
  have s1 := cell_on hb2 (by simp <;> omega) ((World.cell?_alloc_lt w1 _ _ (by simp <;> omega)).trans s1)
  have t0 := cell_on hb2 (by simp <;> omega) ((World.cell?_alloc_lt w1 _ _ (by simp <;> omega)).trans t0)
  have t1 := cell_on hb2 (by simp <;> omega) ((World.cell?_alloc_lt w1 _ _ (by simp <;> omega)).trans t1)
  have m0 : w2.cell? ⟨w1.heap.size, 0, none⟩ = some (.int .i64 (gV l p)) := box_cell hb2 (by simp) 0 rfl
  have m1 : w2.cell? ⟨w1.heap.size, 1, none⟩ = some (.string (gL l p)) := box_cell hb2 (by simp) 1 rfl
  have af : ∀ i, w2.frozen? ⟨w.heap.size, i, none⟩ = false := fun i => by rw [hb2.frozen (p := ⟨w.heap.size, i, none⟩) (by simp <;> omega), (below_alloc w1 _).frozen (p := ⟨w.heap.size, i, none⟩) (by simp <;> omega)]; exact af i
  have tf : ∀ i, w2.frozen? ⟨R, i, none⟩ = false := fun i => by rw [hb2.frozen (p := ⟨R, i, none⟩) (by simp <;> omega), (below_alloc w1 _).frozen (p := ⟨R, i, none⟩) (by simp <;> omega)]; exact tf i
  have hb2' := below_step (below_alloc w1 _) hb2
  have HR := Lib.hid (HR.out.below hb2')
  have HK := Lib.hid (HK.out.trans (Keep.of_below hb2'))
  clear hb2 hb2'
  go_wp2
  refine bodyPost_ret (v := .tuple #[vB (gV l p) (gL l p), .int .i64 0]) ?_ rfl ⟨rfl, ?_, ?_⟩
  · simp [results, Tryz.results120, go_sem, a0, a1, m0, m1, af, tf, d1, Ne.symm d1]
    try rfl
  · exact (Rd.new h (Rd.new h HR.out (by simp) _) (by simp) _)
  · exact ((HK.out.setCell (.inr (by simp)) _).setCell (.inr (by simp)) _)
theorem takenB_not (R : Nat) (ad : Addr) (c : Nat) (l : List UInt8) (p : Nat) (w : World) (h : Rd w R TR (some ad) c l p) (hO : ¬ (gBB l p = false ∧ okB (gV l p) (gL l p) = true)) :
    Calls Tryz.prog 120 #[.pointer (some ⟨R, 0, none⟩), .func (.func 121) #[] #[], .func (.func 122) #[] #[]] w fun e w' => e = .returned (.tuple #[zB, .int .i64 4]) ∧ Rd w' R TR (some ad) c l (p) ∧ Keep [R] w w' := by
  cases hB : gBB l p with
  | true => exact takenB_bad R ad c l p w h hB
  | false =>
    cases hK : okB (gV l p) (gL l p) with
    | false => exact takenB_no R ad c l p w h hB hK
    | true => exact absurd ⟨hB, hK⟩ hO
set_option maxRecDepth 20000 in
set_option maxHeartbeats 1000000 in
theorem takeB_not (R : Nat) (ad : Addr) (c : Nat) (l : List UInt8) (p : Nat) (w : World) (h : Rd w R TR (some ad) c l p) (hO : ¬ (gBB l p = false ∧ okB (gV l p) (gL l p) = true)) :
    Calls Tryz.prog 29 #[.pointer (some ⟨R, 0, none⟩)] w fun e w' => e = .returned (.tuple #[zB, .int .i64 4]) ∧ Rd w' R TR (some ad) c l (p) ∧ Keep [R] w w' := by
  have hR := h.lt
  have HO := Lib.hid hO
  clear hO
  go_enter Tryz.func29, Tryz.ntmps29
  go_wp2_with fail
  refine (takenB_not R ad c l p _ (h.below (below_alloc _ _)) HO.out).mono ?_
  rintro e w1 ⟨rfl, hr1, hk1⟩
  have a0 : w1.cell? ⟨w.heap.size, 0, none⟩ = some (.int .i64 0) := hk1.cell_on (by simp) (by simp <;> omega) (by simp)
  have a1 : w1.cell? ⟨w.heap.size, 1, none⟩ = some (.string ⟨#[]⟩) := hk1.cell_on (by simp) (by simp <;> omega) (by simp)
  have af : ∀ i, w1.frozen? ⟨w.heap.size, i, none⟩ = false := fun i => by rw [hk1.bcell.2 _ _ (by simp) (by simp <;> omega)]; simp
  have HR := Lib.hid hr1
  have HK := Lib.hid ((Keep.of_below (S := [R]) (below_alloc w _)).trans hk1)
  clear hr1 hk1
  go_wp2
  refine bodyPost_ret (v := .tuple #[zB, .int .i64 4]) ?_ rfl ⟨rfl, ?_, ?_⟩
  · simp [results, Tryz.results29, go_sem, a0, a1, af]
    try rfl
  · exact (Rd.new h (Rd.new h HR.out (by simp) _) (by simp) _)
  · exact ((HK.out.setCell (.inr (by simp)) _).setCell (.inr (by simp)) _)
set_option maxRecDepth 20000 in
set_option maxHeartbeats 1000000 in
theorem takeB_yes (R : Nat) (ad : Addr) (c : Nat) (l : List UInt8) (p : Nat) (w : World) (h : Rd w R TR (some ad) c l p) (hB : gBB l p = false) (hO : okB (gV l p) (gL l p) = true) :
    Calls Tryz.prog 29 #[.pointer (some ⟨R, 0, none⟩)] w fun e w' => e = .returned (.tuple #[vB (gV l p) (gL l p), .int .i64 0]) ∧ Rd w' R TR (some ad) c l (gP l p) ∧ Keep [R] w w' := by
  have hR := h.lt
  have HB := Lib.hid hB
  clear hB
  have HO := Lib.hid hO
  clear hO
  go_enter Tryz.func29, Tryz.ntmps29
  go_wp2_with fail
  refine (takenB_yes R ad c l p _ (h.below (below_alloc _ _)) HB.out HO.out).mono ?_
  rintro e w1 ⟨rfl, hr1, hk1⟩
  have a0 : w1.cell? ⟨w.heap.size, 0, none⟩ = some (.int .i64 0) := hk1.cell_on (by simp) (by simp <;> omega) (by simp)
  have a1 : w1.cell? ⟨w.heap.size, 1, none⟩ = some (.string ⟨#[]⟩) := hk1.cell_on (by simp) (by simp <;> omega) (by simp)
  have af : ∀ i, w1.frozen? ⟨w.heap.size, i, none⟩ = false := fun i => by rw [hk1.bcell.2 _ _ (by simp) (by simp <;> omega)]; simp
  have HR := Lib.hid hr1
  have HK := Lib.hid ((Keep.of_below (S := [R]) (below_alloc w _)).trans hk1)
  clear hr1 hk1
  go_wp2
  refine bodyPost_ret (v := .tuple #[vB (gV l p) (gL l p), .int .i64 0]) ?_ rfl ⟨rfl, ?_, ?_⟩
  · simp [results, Tryz.results29, go_sem, a0, a1, af]
    try rfl
  · exact (Rd.new h (Rd.new h HR.out (by simp) _) (by simp) _)
  · exact ((HK.out.setCell (.inr (by simp)) _).setCell (.inr (by simp)) _)
set_option maxRecDepth 20000 in
set_option maxHeartbeats 1000000 in
theorem takenN_bad (R : Nat) (ad : Addr) (c : Nat) (l : List UInt8) (p : Nat) (w : World) (h : Rd w R TR (some ad) c l p) (hB : gNB l p = true) :
    Calls Tryz.prog 125 #[.pointer (some ⟨R, 0, none⟩), .func (.func 126) #[] #[], .func (.func 127) #[] #[]] w fun e w' => e = .returned (.tuple #[zN, .int .i64 4]) ∧ Rd w' R TR (some ad) c l (p) ∧ Keep [R] w w' := by
  have c0 := h.c0
  have c1 := h.c1
  have hR := h.lt
  have hle := h.le
  have hne := eE_ne l p
  have HB := Lib.hid hB
  have hLs : (gL l p).size ≤ 1000000 := gL_size _ _ h.short
  clear hB
  go_enter Tryz.func125, Tryz.ntmps125
  go_wp2_with (go_at_call 173; refine (end_any R ad c l p _ (h.below (by go_grown))).mono ?_; rintro e _ ⟨rfl, n, rfl⟩)
  go_wp2_with fail
  have hb0 : Below w.heap.size w (((w.alloc (.cells #[.int .i64 0, .string ⟨#[]⟩, .int .i64 0] 31)).alloc (.cells #[.int .i64 0, .string ⟨#[]⟩, .int .i64 0] 31)).drewN n) := below_dn (by go_grown) n
  refine (gname_any R (w.heap.size + 1 + 1 + 1) false ad c l p _ (Rg.start h (Below.alloc hb0 (by simp <;> omega) _) (by simp))).mono ?_
  rintro e w1 ⟨rfl, hg1, hk1⟩
  rw [Bool.false_or, HB.out] at hg1
  have hz : w.heap.size + 4 ≤ w1.heap.size := by have := hk1.size; simp at this; omega
  have hA : Below (w.heap.size + 1) (w.alloc (.cells #[.int .i64 0, .string ⟨#[]⟩, .int .i64 0] 31)) (((((w.alloc (.cells #[.int .i64 0, .string ⟨#[]⟩, .int .i64 0] 31)).alloc (.cells #[.int .i64 0, .string ⟨#[]⟩, .int .i64 0] 31)).drewN n).alloc (.cells #[.slice (some ad) l.length c, .int .i64 p] TR)).alloc (.cells #[.pointer (some ⟨R, 0, none⟩), .bool false] TX)) := Below.alloc (Below.alloc (below_dn (below_up _ _ (by simp)) n) (by simp) _) (by simp) _
  have hA2 : Below (w.heap.size + 1 + 1) ((w.alloc (.cells #[.int .i64 0, .string ⟨#[]⟩, .int .i64 0] 31)).alloc (.cells #[.int .i64 0, .string ⟨#[]⟩, .int .i64 0] 31)) (((((w.alloc (.cells #[.int .i64 0, .string ⟨#[]⟩, .int .i64 0] 31)).alloc (.cells #[.int .i64 0, .string ⟨#[]⟩, .int .i64 0] 31)).drewN n).alloc (.cells #[.slice (some ad) l.length c, .int .i64 p] TR)).alloc (.cells #[.pointer (some ⟨R, 0, none⟩), .bool false] TX)) := Below.alloc (Below.alloc (below_dn (Below.refl _ _) n) (by simp) _) (by simp) _
  have hA3 : Below (w.heap.size + 1 + 1 + 1) ((((w.alloc (.cells #[.int .i64 0, .string ⟨#[]⟩, .int .i64 0] 31)).alloc (.cells #[.int .i64 0, .string ⟨#[]⟩, .int .i64 0] 31)).drewN n).alloc (.cells #[.slice (some ad) l.length c, .int .i64 p] TR)) (((((w.alloc (.cells #[.int .i64 0, .string ⟨#[]⟩, .int .i64 0] 31)).alloc (.cells #[.int .i64 0, .string ⟨#[]⟩, .int .i64 0] 31)).drewN n).alloc (.cells #[.slice (some ad) l.length c, .int .i64 p] TR)).alloc (.cells #[.pointer (some ⟨R, 0, none⟩), .bool false] TX)) := below_up _ _ (by simp)
  have hS : ((((w.alloc (.cells #[.int .i64 0, .string ⟨#[]⟩, .int .i64 0] 31)).alloc (.cells #[.int .i64 0, .string ⟨#[]⟩, .int .i64 0] 31)).drewN n).alloc (.cells #[.slice (some ad) l.length c, .int .i64 p] TR)).heap[w.heap.size + 1 + 1]? = some (.cells #[.slice (some ad) l.length c, .int .i64 p] TR (0, 0)) := by
    have := heap_alloc_new (((w.alloc (.cells #[.int .i64 0, .string ⟨#[]⟩, .int .i64 0] 31)).alloc (.cells #[.int .i64 0, .string ⟨#[]⟩, .int .i64 0] 31)).drewN n) (.cells #[.slice (some ad) l.length c, .int .i64 p] TR)
    rwa [show (((w.alloc (.cells #[.int .i64 0, .string ⟨#[]⟩, .int .i64 0] 31)).alloc (.cells #[.int .i64 0, .string ⟨#[]⟩, .int .i64 0] 31)).drewN n).heap.size = w.heap.size + 1 + 1 by simp] at this
  have a0 : w1.cell? ⟨w.heap.size, 0, none⟩ = some (.int .i64 0) := hk1.cell_on (by simp <;> omega) (by simp <;> omega) (cell_on hA (by simp) (by simp))
  have b0 : w1.cell? ⟨w.heap.size + 1, 0, none⟩ = some (.int .i64 0) := hk1.cell_on (by simp <;> omega) (by simp <;> omega) (cell_on hA2 (by simp) (by simp))
  have a1 : w1.cell? ⟨w.heap.size, 1, none⟩ = some (.string ⟨#[]⟩) := hk1.cell_on (by simp <;> omega) (by simp <;> omega) (cell_on hA (by simp) (by simp))
  have b1 : w1.cell? ⟨w.heap.size + 1, 1, none⟩ = some (.string ⟨#[]⟩) := hk1.cell_on (by simp <;> omega) (by simp <;> omega) (cell_on hA2 (by simp) (by simp))
  have a2 : w1.cell? ⟨w.heap.size, 2, none⟩ = some (.int .i64 0) := hk1.cell_on (by simp <;> omega) (by simp <;> omega) (cell_on hA (by simp) (by simp))
  have b2 : w1.cell? ⟨w.heap.size + 1, 2, none⟩ = some (.int .i64 0) := hk1.cell_on (by simp <;> omega) (by simp <;> omega) (cell_on hA2 (by simp) (by simp))
  have af : ∀ i, w1.frozen? ⟨w.heap.size, i, none⟩ = false := fun i => by rw [hk1.bcell.2 _ _ (by simp <;> omega) (by simp <;> omega), hA.frozen (p := ⟨w.heap.size, i, none⟩) (by simp)]; simp
  have s0 : w1.cell? ⟨w.heap.size + 1 + 1, 0, none⟩ = some (.slice (some ad) l.length c) := hk1.cell_on (by simp <;> omega) (by simp <;> omega) (cell_on hA3 (by simp) (box_cells hS 0))
  have s1 : w1.cell? ⟨w.heap.size + 1 + 1, 1, none⟩ = some (.int .i64 p) := hk1.cell_on (by simp <;> omega) (by simp <;> omega) (cell_on hA3 (by simp) (box_cells hS 1))
  have x1 := hg1.x1
  have hXl := hg1.xlt
  have hRl := hg1.rd.lt
  have hr1 := hg1.rd
  have t0 := hr1.c0
  have t1 := hr1.c1
  have tf := hr1.fr
  have hkw : Keep [R] w w1 := Keep.then (Keep.of_below (S := [R]) (Below.alloc (Below.alloc hb0 (by simp <;> omega) _) (by simp <;> omega) _)) hk1 (fun k hk => by simp at hk; rcases hk with rfl | rfl <;> simp <;> omega)
  have HR := Lib.hid hr1
  have HK := Lib.hid hkw
  have d1 : R ≠ w.heap.size := by omega
  have l0 : w.heap.size < w1.heap.size := by omega
  have l1 : w.heap.size + 1 < w1.heap.size := by omega
  have l2 : w.heap.size + 1 + 1 < w1.heap.size := by omega
  clear hk1 hg1 hr1 hkw c0 c1 hA hA2 hA3 hS hb0
  go_upto_region 7 with (fail)
  have hb2 := below_alloc w1 (.cells #[.int .i64 (gV l p), .string (gL l p), .int .i64 (gNV l p)] 31)
  generalize w1.alloc (.cells #[.int .i64 (gV l p), .string (gL l p), .int .i64 (gNV l p)] 31) = w2 at *
  have a0 := cell_on hb2 (by simp <;> omega) a0
  have a1 := cell_on hb2 (by simp <;> omega) a1
  have a2 := cell_on hb2 (by simp <;> omega) a2
  have b0 := cell_on hb2 (by simp <;> omega) b0
  have b1 := cell_on hb2 (by simp <;> omega) b1
  have b2 := cell_on hb2 (by simp <;> omega) b2
  have s0 := cell_on hb2 (by simp <;> omega) s0
  have s1 := cell_on hb2 (by simp <;> omega) s1
  have t0 := cell_on hb2 (by simp <;> omega) t0
  have t1 := cell_on hb2 (by simp <;> omega) t1
  have x1 := cell_on hb2 (by simp <;> omega) x1
  have af : ∀ i, w2.frozen? ⟨w.heap.size, i, none⟩ = false := fun i => (hb2.frozen (p := ⟨w.heap.size, i, none⟩) (by simp <;> omega)).trans (af i)
  have tf : ∀ i, w2.frozen? ⟨R, i, none⟩ = false := fun i => (hb2.frozen (p := ⟨R, i, none⟩) (by simp <;> omega)).trans (tf i)
  have HR := Lib.hid (HR.out.below hb2)
  have HK := Lib.hid (HK.out.trans (Keep.of_below hb2))
  clear hb2
  go_wp2
  refine bodyPost_ret (v := .tuple #[zN, .int .i64 4]) ?_ rfl ⟨rfl, ?_, ?_⟩
  · simp [results, Tryz.results125, go_sem, a0, a1, a2, b0, b1, b2, s0, s1, t0, t1, af, tf, d1, Ne.symm d1]
    try rfl
  · exact (Rd.new h (Rd.new h (Rd.new h (Rd.back HR.out hle) (by simp) _) (by simp) _) (by simp) _)
  · exact (((((HK.out.setCell (.inl (by simp)) _).setCell (.inl (by simp)) _).setCell (.inr (by simp)) _).setCell (.inr (by simp)) _).setCell (.inr (by simp)) _)
set_option maxRecDepth 20000 in
set_option maxHeartbeats 1000000 in
theorem takenN_no (R : Nat) (ad : Addr) (c : Nat) (l : List UInt8) (p : Nat) (w : World) (h : Rd w R TR (some ad) c l p) (hB : gNB l p = false) (hO : okN (gV l p) (gL l p) (gNV l p) = false) :
    Calls Tryz.prog 125 #[.pointer (some ⟨R, 0, none⟩), .func (.func 126) #[] #[], .func (.func 127) #[] #[]] w fun e w' => e = .returned (.tuple #[zN, .int .i64 4]) ∧ Rd w' R TR (some ad) c l (p) ∧ Keep [R] w w' := by
  have c0 := h.c0
  have c1 := h.c1
  have hR := h.lt
  have hle := h.le
  have hne := eE_ne l p
  have HB := Lib.hid hB
  have hLs : (gL l p).size ≤ 1000000 := gL_size _ _ h.short
  clear hB
  have HO := Lib.hid hO
  clear hO
  go_enter Tryz.func125, Tryz.ntmps125
  go_wp2_with (go_at_call 173; refine (end_any R ad c l p _ (h.below (by go_grown))).mono ?_; rintro e _ ⟨rfl, n, rfl⟩)
  go_wp2_with fail
  have hb0 : Below w.heap.size w (((w.alloc (.cells #[.int .i64 0, .string ⟨#[]⟩, .int .i64 0] 31)).alloc (.cells #[.int .i64 0, .string ⟨#[]⟩, .int .i64 0] 31)).drewN n) := below_dn (by go_grown) n
  refine (gname_any R (w.heap.size + 1 + 1 + 1) false ad c l p _ (Rg.start h (Below.alloc hb0 (by simp <;> omega) _) (by simp))).mono ?_
  rintro e w1 ⟨rfl, hg1, hk1⟩
  rw [Bool.false_or, HB.out] at hg1
  have hz : w.heap.size + 4 ≤ w1.heap.size := by have := hk1.size; simp at this; omega
  have hA : Below (w.heap.size + 1) (w.alloc (.cells #[.int .i64 0, .string ⟨#[]⟩, .int .i64 0] 31)) (((((w.alloc (.cells #[.int .i64 0, .string ⟨#[]⟩, .int .i64 0] 31)).alloc (.cells #[.int .i64 0, .string ⟨#[]⟩, .int .i64 0] 31)).drewN n).alloc (.cells #[.slice (some ad) l.length c, .int .i64 p] TR)).alloc (.cells #[.pointer (some ⟨R, 0, none⟩), .bool false] TX)) := Below.alloc (Below.alloc (below_dn (below_up _ _ (by simp)) n) (by simp) _) (by simp) _
  have hA2 : Below (w.heap.size + 1 + 1) ((w.alloc (.cells #[.int .i64 0, .string ⟨#[]⟩, .int .i64 0] 31)).alloc (.cells #[.int .i64 0, .string ⟨#[]⟩, .int .i64 0] 31)) (((((w.alloc (.cells #[.int .i64 0, .string ⟨#[]⟩, .int .i64 0] 31)).alloc (.cells #[.int .i64 0, .string ⟨#[]⟩, .int .i64 0] 31)).drewN n).alloc (.cells #[.slice (some ad) l.length c, .int .i64 p] TR)).alloc (.cells #[.pointer (some ⟨R, 0, none⟩), .bool false] TX)) := Below.alloc (Below.alloc (below_dn (Below.refl _ _) n) (by simp) _) (by simp) _
  have hA3 : Below (w.heap.size + 1 + 1 + 1) ((((w.alloc (.cells #[.int .i64 0, .string ⟨#[]⟩, .int .i64 0] 31)).alloc (.cells #[.int .i64 0, .string ⟨#[]⟩, .int .i64 0] 31)).drewN n).alloc (.cells #[.slice (some ad) l.length c, .int .i64 p] TR)) (((((w.alloc (.cells #[.int .i64 0, .string ⟨#[]⟩, .int .i64 0] 31)).alloc (.cells #[.int .i64 0, .string ⟨#[]⟩, .int .i64 0] 31)).drewN n).alloc (.cells #[.slice (some ad) l.length c, .int .i64 p] TR)).alloc (.cells #[.pointer (some ⟨R, 0, none⟩), .bool false] TX)) := below_up _ _ (by simp)
  have hS : ((((w.alloc (.cells #[.int .i64 0, .string ⟨#[]⟩, .int .i64 0] 31)).alloc (.cells #[.int .i64 0, .string ⟨#[]⟩, .int .i64 0] 31)).drewN n).alloc (.cells #[.slice (some ad) l.length c, .int .i64 p] TR)).heap[w.heap.size + 1 + 1]? = some (.cells #[.slice (some ad) l.length c, .int .i64 p] TR (0, 0)) := by
    have := heap_alloc_new (((w.alloc (.cells #[.int .i64 0, .string ⟨#[]⟩, .int .i64 0] 31)).alloc (.cells #[.int .i64 0, .string ⟨#[]⟩, .int .i64 0] 31)).drewN n) (.cells #[.slice (some ad) l.length c, .int .i64 p] TR)
    rwa [show (((w.alloc (.cells #[.int .i64 0, .string ⟨#[]⟩, .int .i64 0] 31)).alloc (.cells #[.int .i64 0, .string ⟨#[]⟩, .int .i64 0] 31)).drewN n).heap.size = w.heap.size + 1 + 1 by simp] at this
  have a0 : w1.cell? ⟨w.heap.size, 0, none⟩ = some (.int .i64 0) := hk1.cell_on (by simp <;> omega) (by simp <;> omega) (cell_on hA (by simp) (by simp))
  have b0 : w1.cell? ⟨w.heap.size + 1, 0, none⟩ = some (.int .i64 0) := hk1.cell_on (by simp <;> omega) (by simp <;> omega) (cell_on hA2 (by simp) (by simp))
  have a1 : w1.cell? ⟨w.heap.size, 1, none⟩ = some (.string ⟨#[]⟩) := hk1.cell_on (by simp <;> omega) (by simp <;> omega) (cell_on hA (by simp) (by simp))
  have b1 : w1.cell? ⟨w.heap.size + 1, 1, none⟩ = some (.string ⟨#[]⟩) := hk1.cell_on (by simp <;> omega) (by simp <;> omega) (cell_on hA2 (by simp) (by simp))
  have a2 : w1.cell? ⟨w.heap.size, 2, none⟩ = some (.int .i64 0) := hk1.cell_on (by simp <;> omega) (by simp <;> omega) (cell_on hA (by simp) (by simp))
  have b2 : w1.cell? ⟨w.heap.size + 1, 2, none⟩ = some (.int .i64 0) := hk1.cell_on (by simp <;> omega) (by simp <;> omega) (cell_on hA2 (by simp) (by simp))
  have af : ∀ i, w1.frozen? ⟨w.heap.size, i, none⟩ = false := fun i => by rw [hk1.bcell.2 _ _ (by simp <;> omega) (by simp <;> omega), hA.frozen (p := ⟨w.heap.size, i, none⟩) (by simp)]; simp
  have s0 : w1.cell? ⟨w.heap.size + 1 + 1, 0, none⟩ = some (.slice (some ad) l.length c) := hk1.cell_on (by simp <;> omega) (by simp <;> omega) (cell_on hA3 (by simp) (box_cells hS 0))
  have s1 : w1.cell? ⟨w.heap.size + 1 + 1, 1, none⟩ = some (.int .i64 p) := hk1.cell_on (by simp <;> omega) (by simp <;> omega) (cell_on hA3 (by simp) (box_cells hS 1))
  have x1 := hg1.x1
  have hXl := hg1.xlt
  have hRl := hg1.rd.lt
  have hr1 := hg1.rd
  have t0 := hr1.c0
  have t1 := hr1.c1
  have tf := hr1.fr
  have hkw : Keep [R] w w1 := Keep.then (Keep.of_below (S := [R]) (Below.alloc (Below.alloc hb0 (by simp <;> omega) _) (by simp <;> omega) _)) hk1 (fun k hk => by simp at hk; rcases hk with rfl | rfl <;> simp <;> omega)
  have HR := Lib.hid hr1
  have HK := Lib.hid hkw
  have d1 : R ≠ w.heap.size := by omega
  have l0 : w.heap.size < w1.heap.size := by omega
  have l1 : w.heap.size + 1 < w1.heap.size := by omega
  have l2 : w.heap.size + 1 + 1 < w1.heap.size := by omega
  clear hk1 hg1 hr1 hkw c0 c1 hA hA2 hA3 hS hb0
  go_wp2_with fail
  refine (name_any (gV l p) (gL l p) (gNV l p) _ hLs).mono ?_
  rw [HO.out]
  rintro e w2 ⟨rfl, hb2⟩
  have hz2 : w1.heap.size < w2.heap.size := by have := hb2.size; simp at this; omega
  have a0 := cell_on hb2 (by simp <;> omega) ((World.cell?_alloc_lt w1 _ _ (by simp <;> omega)).trans a0)
  have a1 := cell_on hb2 (by simp <;> omega) ((World.cell?_alloc_lt w1 _ _ (by simp <;> omega)).trans a1)
  have a2 := cell_on hb2 (by simp <;> omega) ((World.cell?_alloc_lt w1 _ _ (by simp <;> omega)).trans a2)
  have b0 := cell_on hb2 (by simp <;> omega) ((World.cell?_alloc_lt w1 _ _ (by simp <;> omega)).trans b0)
  have b1 := cell_on hb2 (by simp <;> omega) ((World.cell?_alloc_lt w1 _ _ (by simp <;> omega)).trans b1)
  have b2 := cell_on hb2 (by simp <;> omega) ((World.cell?_alloc_lt w1 _ _ (by simp <;> omega)).trans b2)
  have s0 := cell_on hb2 (by simp <;> omega) ((World.cell?_alloc_lt w1 _ _ (by simp <;> omega)).trans s0)
  have s1 := cell_on hb2 (by simp <;> omega) ((World.cell?_alloc_lt w1 _ _ (by simp <;> omega)).trans s1)
  have t0 := cell_on hb2 (by simp <;> omega) ((World.cell?_alloc_lt w1 _ _ (by simp <;> omega)).trans t0)
  have t1 := cell_on hb2 (by simp <;> omega) ((World.cell?_alloc_lt w1 _ _ (by simp <;> omega)).trans t1)
  have m0 : w2.cell? ⟨w1.heap.size, 0, none⟩ = some (.int .i64 (gV l p)) := box_cell hb2 (by simp) 0 rfl
  have m1 : w2.cell? ⟨w1.heap.size, 1, none⟩ = some (.string (gL l p)) := box_cell hb2 (by simp) 1 rfl
  have m2 : w2.cell? ⟨w1.heap.size, 2, none⟩ = some (.int .i64 (gNV l p)) := box_cell hb2 (by simp) 2 rfl
  have af : ∀ i, w2.frozen? ⟨w.heap.size, i, none⟩ = false := fun i => by rw [hb2.frozen (p := ⟨w.heap.size, i, none⟩) (by simp <;> omega), (below_alloc w1 _).frozen (p := ⟨w.heap.size, i, none⟩) (by simp <;> omega)]; exact af i
  have tf : ∀ i, w2.frozen? ⟨R, i, none⟩ = false := fun i => by rw [hb2.frozen (p := ⟨R, i, none⟩) (by simp <;> omega), (below_alloc w1 _).frozen (p := ⟨R, i, none⟩) (by simp <;> omega)]; exact tf i
  have hb2' := below_step (below_alloc w1 _) hb2
  have HR := Lib.hid (HR.out.below hb2')
  have HK := Lib.hid (HK.out.trans (Keep.of_below hb2'))
  clear hb2 hb2'
  go_wp2
  refine bodyPost_ret (v := .tuple #[zN, .int .i64 4]) ?_ rfl ⟨rfl, ?_, ?_⟩
  · simp [results, Tryz.results125, go_sem, a0, a1, a2, b0, b1, b2, s0, s1, t0, t1, af, tf, d1, Ne.symm d1]
    try rfl
  · exact (Rd.new h (Rd.new h (Rd.new h (Rd.back HR.out hle) (by simp) _) (by simp) _) (by simp) _)
  · exact (((((HK.out.setCell (.inl (by simp)) _).setCell (.inl (by simp)) _).setCell (.inr (by simp)) _).setCell (.inr (by simp)) _).setCell (.inr (by simp)) _)
set_option maxRecDepth 20000 in
set_option maxHeartbeats 1000000 in
theorem takenN_yes (R : Nat) (ad : Addr) (c : Nat) (l : List UInt8) (p : Nat) (w : World) (h : Rd w R TR (some ad) c l p) (hB : gNB l p = false) (hO : okN (gV l p) (gL l p) (gNV l p) = true) :
    Calls Tryz.prog 125 #[.pointer (some ⟨R, 0, none⟩), .func (.func 126) #[] #[], .func (.func 127) #[] #[]] w fun e w' => e = .returned (.tuple #[vN (gV l p) (gL l p) (gNV l p), .int .i64 0]) ∧ Rd w' R TR (some ad) c l (gNP l p) ∧ Keep [R] w w' := by
  have c0 := h.c0
  have c1 := h.c1
  have hR := h.lt
  have hle := h.le
  have hne := eE_ne l p
  have HB := Lib.hid hB
  have hLs : (gL l p).size ≤ 1000000 := gL_size _ _ h.short
  clear hB
  have HO := Lib.hid hO
  clear hO
  go_enter Tryz.func125, Tryz.ntmps125
  go_wp2_with (go_at_call 173; refine (end_any R ad c l p _ (h.below (by go_grown))).mono ?_; rintro e _ ⟨rfl, n, rfl⟩)
  go_wp2_with fail
  have hb0 : Below w.heap.size w (((w.alloc (.cells #[.int .i64 0, .string ⟨#[]⟩, .int .i64 0] 31)).alloc (.cells #[.int .i64 0, .string ⟨#[]⟩, .int .i64 0] 31)).drewN n) := below_dn (by go_grown) n
  refine (gname_any R (w.heap.size + 1 + 1 + 1) false ad c l p _ (Rg.start h (Below.alloc hb0 (by simp <;> omega) _) (by simp))).mono ?_
  rintro e w1 ⟨rfl, hg1, hk1⟩
  rw [Bool.false_or, HB.out] at hg1
  have hz : w.heap.size + 4 ≤ w1.heap.size := by have := hk1.size; simp at this; omega
  have hA : Below (w.heap.size + 1) (w.alloc (.cells #[.int .i64 0, .string ⟨#[]⟩, .int .i64 0] 31)) (((((w.alloc (.cells #[.int .i64 0, .string ⟨#[]⟩, .int .i64 0] 31)).alloc (.cells #[.int .i64 0, .string ⟨#[]⟩, .int .i64 0] 31)).drewN n).alloc (.cells #[.slice (some ad) l.length c, .int .i64 p] TR)).alloc (.cells #[.pointer (some ⟨R, 0, none⟩), .bool false] TX)) := Below.alloc (Below.alloc (below_dn (below_up _ _ (by simp)) n) (by simp) _) (by simp) _
  have hA2 : Below (w.heap.size + 1 + 1) ((w.alloc (.cells #[.int .i64 0, .string ⟨#[]⟩, .int .i64 0] 31)).alloc (.cells #[.int .i64 0, .string ⟨#[]⟩, .int .i64 0] 31)) (((((w.alloc (.cells #[.int .i64 0, .string ⟨#[]⟩, .int .i64 0] 31)).alloc (.cells #[.int .i64 0, .string ⟨#[]⟩, .int .i64 0] 31)).drewN n).alloc (.cells #[.slice (some ad) l.length c, .int .i64 p] TR)).alloc (.cells #[.pointer (some ⟨R, 0, none⟩), .bool false] TX)) := Below.alloc (Below.alloc (below_dn (Below.refl _ _) n) (by simp) _) (by simp) _
  have hA3 : Below (w.heap.size + 1 + 1 + 1) ((((w.alloc (.cells #[.int .i64 0, .string ⟨#[]⟩, .int .i64 0] 31)).alloc (.cells #[.int .i64 0, .string ⟨#[]⟩, .int .i64 0] 31)).drewN n).alloc (.cells #[.slice (some ad) l.length c, .int .i64 p] TR)) (((((w.alloc (.cells #[.int .i64 0, .string ⟨#[]⟩, .int .i64 0] 31)).alloc (.cells #[.int .i64 0, .string ⟨#[]⟩, .int .i64 0] 31)).drewN n).alloc (.cells #[.slice (some ad) l.length c, .int .i64 p] TR)).alloc (.cells #[.pointer (some ⟨R, 0, none⟩), .bool false] TX)) := below_up _ _ (by simp)
  have hS : ((((w.alloc (.cells #[.int .i64 0, .string ⟨#[]⟩, .int .i64 0] 31)).alloc (.cells #[.int .i64 0, .string ⟨#[]⟩, .int .i64 0] 31)).drewN n).alloc (.cells #[.slice (some ad) l.length c, .int .i64 p] TR)).heap[w.heap.size + 1 + 1]? = some (.cells #[.slice (some ad) l.length c, .int .i64 p] TR (0, 0)) := by
    have := heap_alloc_new (((w.alloc (.cells #[.int .i64 0, .string ⟨#[]⟩, .int .i64 0] 31)).alloc (.cells #[.int .i64 0, .string ⟨#[]⟩, .int .i64 0] 31)).drewN n) (.cells #[.slice (some ad) l.length c, .int .i64 p] TR)
    rwa [show (((w.alloc (.cells #[.int .i64 0, .string ⟨#[]⟩, .int .i64 0] 31)).alloc (.cells #[.int .i64 0, .string ⟨#[]⟩, .int .i64 0] 31)).drewN n).heap.size = w.heap.size + 1 + 1 by simp] at this
  have a0 : w1.cell? ⟨w.heap.size, 0, none⟩ = some (.int .i64 0) := hk1.cell_on (by simp <;> omega) (by simp <;> omega) (cell_on hA (by simp) (by simp))
  have b0 : w1.cell? ⟨w.heap.size + 1, 0, none⟩ = some (.int .i64 0) := hk1.cell_on (by simp <;> omega) (by simp <;> omega) (cell_on hA2 (by simp) (by simp))
  have a1 : w1.cell? ⟨w.heap.size, 1, none⟩ = some (.string ⟨#[]⟩) := hk1.cell_on (by simp <;> omega) (by simp <;> omega) (cell_on hA (by simp) (by simp))
  have b1 : w1.cell? ⟨w.heap.size + 1, 1, none⟩ = some (.string ⟨#[]⟩) := hk1.cell_on (by simp <;> omega) (by simp <;> omega) (cell_on hA2 (by simp) (by simp))
  have a2 : w1.cell? ⟨w.heap.size, 2, none⟩ = some (.int .i64 0) := hk1.cell_on (by simp <;> omega) (by simp <;> omega) (cell_on hA (by simp) (by simp))
  have b2 : w1.cell? ⟨w.heap.size + 1, 2, none⟩ = some (.int .i64 0) := hk1.cell_on (by simp <;> omega) (by simp <;> omega) (cell_on hA2 (by simp) (by simp))
  have af : ∀ i, w1.frozen? ⟨w.heap.size, i, none⟩ = false := fun i => by rw [hk1.bcell.2 _ _ (by simp <;> omega) (by simp <;> omega), hA.frozen (p := ⟨w.heap.size, i, none⟩) (by simp)]; simp
  have s0 : w1.cell? ⟨w.heap.size + 1 + 1, 0, none⟩ = some (.slice (some ad) l.length c) := hk1.cell_on (by simp <;> omega) (by simp <;> omega) (cell_on hA3 (by simp) (box_cells hS 0))
  have s1 : w1.cell? ⟨w.heap.size + 1 + 1, 1, none⟩ = some (.int .i64 p) := hk1.cell_on (by simp <;> omega) (by simp <;> omega) (cell_on hA3 (by simp) (box_cells hS 1))
  have x1 := hg1.x1
  have hXl := hg1.xlt
  have hRl := hg1.rd.lt
  have hr1 := hg1.rd
  have t0 := hr1.c0
  have t1 := hr1.c1
  have tf := hr1.fr
  have hkw : Keep [R] w w1 := Keep.then (Keep.of_below (S := [R]) (Below.alloc (Below.alloc hb0 (by simp <;> omega) _) (by simp <;> omega) _)) hk1 (fun k hk => by simp at hk; rcases hk with rfl | rfl <;> simp <;> omega)
  have HR := Lib.hid hr1
  have HK := Lib.hid hkw
  have d1 : R ≠ w.heap.size := by omega
  have l0 : w.heap.size < w1.heap.size := by omega
  have l1 : w.heap.size + 1 < w1.heap.size := by omega
  have l2 : w.heap.size + 1 + 1 < w1.heap.size := by omega
  clear hk1 hg1 hr1 hkw c0 c1 hA hA2 hA3 hS hb0
  go_wp2_with fail
  refine (name_any (gV l p) (gL l p) (gNV l p) _ hLs).mono ?_
  rw [HO.out]
  rintro e w2 ⟨rfl, hb2⟩
  have hz2 : w1.heap.size < w2.heap.size := by have := hb2.size; simp at this; omega
  have a0 := cell_on hb2 (by simp <;> omega) ((World.cell?_alloc_lt w1 _ _ (by simp <;> omega)).trans a0)
  have a1 := cell_on hb2 (by simp <;> omega) ((World.cell?_alloc_lt w1 _ _ (by simp <;> omega)).trans a1)
  have a2 := cell_on hb2 (by simp <;> omega) ((World.cell?_alloc_lt w1 _ _ (by simp <;> omega)).trans a2)
  have b0 := cell_on hb2 (by simp <;> omega) ((World.cell?_alloc_lt w1 _ _ (by simp <;> omega)).trans b0)
  have b1 := cell_on hb2 (by simp <;> omega) ((World.cell?_alloc_lt w1 _ _ (by simp <;> omega)).trans b1)
  have b2 := cell_on hb2 (by simp <;> omega) ((World.cell?_alloc_lt w1 _ _ (by simp <;> omega)).trans b2)
  have s0 := cell_on hb2 (by simp <;> omega) ((World.cell?_alloc_lt w1 _ _ (by simp <;> omega)).trans s0)
  have s1 := cell_on hb2 (by simp <;> omega) ((World.cell?_alloc_lt w1 _ _ (by simp <;> omega)).trans s1)
  have t0 := cell_on hb2 (by simp <;> omega) ((World.cell?_alloc_lt w1 _ _ (by simp <;> omega)).trans t0)
  have t1 := cell_on hb2 (by simp <;> omega) ((World.cell?_alloc_lt w1 _ _ (by simp <;> omega)).trans t1)
  have m0 : w2.cell? ⟨w1.heap.size, 0, none⟩ = some (.int .i64 (gV l p)) := box_cell hb2 (by simp) 0 rfl
  have m1 : w2.cell? ⟨w1.heap.size, 1, none⟩ = some (.string (gL l p)) := box_cell hb2 (by simp) 1 rfl
  have m2 : w2.cell? ⟨w1.heap.size, 2, none⟩ = some (.int .i64 (gNV l p)) := box_cell hb2 (by simp) 2 rfl
  have af : ∀ i, w2.frozen? ⟨w.heap.size, i, none⟩ = false := fun i => by rw [hb2.frozen (p := ⟨w.heap.size, i, none⟩) (by simp <;> omega), (below_alloc w1 _).frozen (p := ⟨w.heap.size, i, none⟩) (by simp <;> omega)]; exact af i
  have tf : ∀ i, w2.frozen? ⟨R, i, none⟩ = false := fun i => by rw [hb2.frozen (p := ⟨R, i, none⟩) (by simp <;> omega), (below_alloc w1 _).frozen (p := ⟨R, i, none⟩) (by simp <;> omega)]; exact tf i
  have hb2' := below_step (below_alloc w1 _) hb2
  have HR := Lib.hid (HR.out.below hb2')
  have HK := Lib.hid (HK.out.trans (Keep.of_below hb2'))
  clear hb2 hb2'
  go_wp2
  refine bodyPost_ret (v := .tuple #[vN (gV l p) (gL l p) (gNV l p), .int .i64 0]) ?_ rfl ⟨rfl, ?_, ?_⟩
  · simp [results, Tryz.results125, go_sem, a0, a1, a2, m0, m1, m2, af, tf, d1, Ne.symm d1]
    try rfl
  · exact (Rd.new h (Rd.new h (Rd.new h HR.out (by simp) _) (by simp) _) (by simp) _)
  · exact (((HK.out.setCell (.inr (by simp)) _).setCell (.inr (by simp)) _).setCell (.inr (by simp)) _)
theorem takenN_not (R : Nat) (ad : Addr) (c : Nat) (l : List UInt8) (p : Nat) (w : World) (h : Rd w R TR (some ad) c l p) (hO : ¬ (gNB l p = false ∧ okN (gV l p) (gL l p) (gNV l p) = true)) :
    Calls Tryz.prog 125 #[.pointer (some ⟨R, 0, none⟩), .func (.func 126) #[] #[], .func (.func 127) #[] #[]] w fun e w' => e = .returned (.tuple #[zN, .int .i64 4]) ∧ Rd w' R TR (some ad) c l (p) ∧ Keep [R] w w' := by
  cases hB : gNB l p with
  | true => exact takenN_bad R ad c l p w h hB
  | false =>
    cases hK : okN (gV l p) (gL l p) (gNV l p) with
    | false => exact takenN_no R ad c l p w h hB hK
    | true => exact absurd ⟨hB, hK⟩ hO
set_option maxRecDepth 20000 in
set_option maxHeartbeats 1000000 in
theorem takeN_not (R : Nat) (ad : Addr) (c : Nat) (l : List UInt8) (p : Nat) (w : World) (h : Rd w R TR (some ad) c l p) (hO : ¬ (gNB l p = false ∧ okN (gV l p) (gL l p) (gNV l p) = true)) :
    Calls Tryz.prog 31 #[.pointer (some ⟨R, 0, none⟩)] w fun e w' => e = .returned (.tuple #[zN, .int .i64 4]) ∧ Rd w' R TR (some ad) c l (p) ∧ Keep [R] w w' := by
  have hR := h.lt
  have HO := Lib.hid hO
  clear hO
  go_enter Tryz.func31, Tryz.ntmps31
  go_wp2_with fail
  refine (takenN_not R ad c l p _ (h.below (below_alloc _ _)) HO.out).mono ?_
  rintro e w1 ⟨rfl, hr1, hk1⟩
  have a0 : w1.cell? ⟨w.heap.size, 0, none⟩ = some (.int .i64 0) := hk1.cell_on (by simp) (by simp <;> omega) (by simp)
  have a1 : w1.cell? ⟨w.heap.size, 1, none⟩ = some (.string ⟨#[]⟩) := hk1.cell_on (by simp) (by simp <;> omega) (by simp)
  have a2 : w1.cell? ⟨w.heap.size, 2, none⟩ = some (.int .i64 0) := hk1.cell_on (by simp) (by simp <;> omega) (by simp)
  have af : ∀ i, w1.frozen? ⟨w.heap.size, i, none⟩ = false := fun i => by rw [hk1.bcell.2 _ _ (by simp) (by simp <;> omega)]; simp
  have HR := Lib.hid hr1
  have HK := Lib.hid ((Keep.of_below (S := [R]) (below_alloc w _)).trans hk1)
  clear hr1 hk1
  go_wp2
  refine bodyPost_ret (v := .tuple #[zN, .int .i64 4]) ?_ rfl ⟨rfl, ?_, ?_⟩
  · simp [results, Tryz.results31, go_sem, a0, a1, a2, af]
    try rfl
  · exact (Rd.new h (Rd.new h (Rd.new h HR.out (by simp) _) (by simp) _) (by simp) _)
  · exact (((HK.out.setCell (.inr (by simp)) _).setCell (.inr (by simp)) _).setCell (.inr (by simp)) _)
set_option maxRecDepth 20000 in
set_option maxHeartbeats 1000000 in
theorem takeN_yes (R : Nat) (ad : Addr) (c : Nat) (l : List UInt8) (p : Nat) (w : World) (h : Rd w R TR (some ad) c l p) (hB : gNB l p = false) (hO : okN (gV l p) (gL l p) (gNV l p) = true) :
    Calls Tryz.prog 31 #[.pointer (some ⟨R, 0, none⟩)] w fun e w' => e = .returned (.tuple #[vN (gV l p) (gL l p) (gNV l p), .int .i64 0]) ∧ Rd w' R TR (some ad) c l (gNP l p) ∧ Keep [R] w w' := by
  have hR := h.lt
  have HB := Lib.hid hB
  clear hB
  have HO := Lib.hid hO
  clear hO
  go_enter Tryz.func31, Tryz.ntmps31
  go_wp2_with fail
  refine (takenN_yes R ad c l p _ (h.below (below_alloc _ _)) HB.out HO.out).mono ?_
  rintro e w1 ⟨rfl, hr1, hk1⟩
  have a0 : w1.cell? ⟨w.heap.size, 0, none⟩ = some (.int .i64 0) := hk1.cell_on (by simp) (by simp <;> omega) (by simp)
  have a1 : w1.cell? ⟨w.heap.size, 1, none⟩ = some (.string ⟨#[]⟩) := hk1.cell_on (by simp) (by simp <;> omega) (by simp)
  have a2 : w1.cell? ⟨w.heap.size, 2, none⟩ = some (.int .i64 0) := hk1.cell_on (by simp) (by simp <;> omega) (by simp)
  have af : ∀ i, w1.frozen? ⟨w.heap.size, i, none⟩ = false := fun i => by rw [hk1.bcell.2 _ _ (by simp) (by simp <;> omega)]; simp
  have HR := Lib.hid hr1
  have HK := Lib.hid ((Keep.of_below (S := [R]) (below_alloc w _)).trans hk1)
  clear hr1 hk1
  go_wp2
  refine bodyPost_ret (v := .tuple #[vN (gV l p) (gL l p) (gNV l p), .int .i64 0]) ?_ rfl ⟨rfl, ?_, ?_⟩
  · simp [results, Tryz.results31, go_sem, a0, a1, a2, af]
    try rfl
  · exact (Rd.new h (Rd.new h (Rd.new h HR.out (by simp) _) (by simp) _) (by simp) _)
  · exact (((HK.out.setCell (.inr (by simp)) _).setCell (.inr (by simp)) _).setCell (.inr (by simp)) _)
end Go.Proofs.YtnldgcgngolkiaaGreatDoor
