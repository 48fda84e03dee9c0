/- The reference's OfKey: the walk. -/
import Derived.Test.YtnldgcgngolkiaaGreatDoorU
namespace Go.Proofs.YtnldgcgngolkiaaGreatDoor
open Go.RowKit
set_option linter.unusedVariables false
set_option linter.unusedSimpArgs false
attribute [local go_sem] givesUpon


set_option maxRecDepth 20000 in set_option maxHeartbeats 1000000 in
theorem rofKey_len (s : ByteArray) (w : World) (hs : s.size < 19) :
    Calls Tryz.prog 23 #[.string s] w fun e w' => e = .returned (.tuple #[zS, .int .i64 4]) ∧ Below w.heap.size w w' := by
  have h19 : ((s.size : Int) < 19) := by omega
  go_enter Tryz.func23, Tryz.ntmps23
  go_wp2
  exact bodyPost_ret (v := .tuple #[zS, .int .i64 4]) (by simp [results, Tryz.results23, go_sem]) rfl ⟨rfl, by go_grown⟩
-- GEN
set_option maxRecDepth 20000 in set_option maxHeartbeats 1000000 in
theorem rofKey_no (s : ByteArray) (w : World) (E : Env w) (hs : 19 ≤ s.size) (hs1 : s.size ≤ 1000000) (hok : okS (back8 s) (kr s) (kl s) (kn s) (ki s) = false) (ht : True) :
    Calls Tryz.prog 23 #[.string s] w fun e w' => e = .returned (.tuple #[zS, .int .i64 4]) ∧ Below w.heap.size w w' := by
  have h19 : ¬ ((s.size : Int) < 19) := by omega
  have h8 : (8 : Int) < s.size := by omega
  have h9 : (9 : Int) ≤ (s.size : Int) - 10 := by omega
  have wr : IntKind.i64.wrap ((s.size : Int) - 10) = (s.size : Int) - 10 := IntWalk.i64_in _ (by omega)
  have wr9 : IntKind.i64.wrap ((s.size : Int) - 9) = (s.size : Int) - 9 := IntWalk.i64_in _ (by omega)
  have wr1 : IntKind.i64.wrap ((s.size : Int) - 1) = (s.size : Int) - 1 := IntWalk.i64_in _ (by omega)
  have hx : ((s.size : Int) - 10) ≤ s.size := by omega
  have hx9 : ((s.size : Int) - 9) ≤ s.size := by omega
  have hx91 : (9 : Int) ≤ s.size := by omega
  have hx1 : ((s.size : Int) - 1) < s.size := by omega
  have hx11 : (1 : Int) ≤ s.size := by omega
  have e8 : ∀ h, IntKind.i64.wrap ((s[8]'h).toNat : Int) = kr s := fun h => byte_at h
  have eL : s.extract 9 ((s.size : Int) - 10).toNat = kl s := by rw [kl]; congr 1; omega
  have e9 : ((s.size : Int) - 9).toNat = s.size - 9 := by omega
  have e1 : ((s.size : Int) - 1).toNat = s.size - 1 := by omega
  have ei : ∀ h, IntKind.i64.wrap ((s[s.size - 1]'h).toNat : Int) = ki s := fun h => byte_at h
  have hkl : (kl s).size ≤ 1000000 := by simp [kl]; omega
  have hkn8 : 8 ≤ (s.extract (s.size - 9) s.size).size := by simp; omega
  have hkn1 : (s.extract (s.size - 9) s.size).size ≤ 1000000 := by simp; omega
  have HN := Lib.hid (fun w' : World => (show Calls Tryz.prog 117 #[.string (s.extract (s.size - 9) s.size)] w' (fun e w'' => e = .returned (.int .i64 (kn s)) ∧ Below w'.heap.size w' w'') from rback_any _ w' hkn8 hkn1))
  have Hok := Lib.hid hok
  have Ht := Lib.hid ht
  clear hok ht
  go_enter Tryz.func23, Tryz.ntmps23
  go_wp2_with fail
  refine wp_region_plan 23 [(none, []), (none, []), (none, []), (none, []), (none, []), (none, []), (none, []), (none, []), (none, []), (none, []), (none, []), (none, []), (none, []), (none, []), (none, []), (none, []), (none, []), (none, []), (none, []), (none, []), (none, []), (none, []), (some (BoxAt (w.heap.size + 1) 37 [.int .i64 0, .int .i64 0, .string ⟨#[]⟩, .int .i64 0, .int .i64 0]), [])] [22] (by kernel_rfl) (by kernel_rfl) ?_
  simp only [List.take_succ_cons, List.take_zero]
  refine plan_run (v := ?_) rfl (fun _ => rfl) ?_ ?_
  rotate_left
  · intro ρ w' hT
    obtain ⟨hcT, hfT⟩ := bcell hT
    go_simp
    try with_reducible rfl
  simp only [Act.put, List.setIfInBounds_toArray, List.set_cons_zero, List.set_cons_succ]
  refine plan_const (v := .int .i64 (back8 s)) rfl (fun _ => rfl) ?_ ?_
  · intro ρ w' hT hF
    go_simp
    refine (rback_any s w' (by omega) hs1).mono ?_
    rintro e w'' ⟨rfl, hb⟩
    exact ⟨_, rfl, rfl, hb⟩
  simp only [Act.put, List.setIfInBounds_toArray, List.set_cons_zero, List.set_cons_succ]
  refine plan_run (v := ?_) rfl (fun _ => rfl) ?_ ?_
  rotate_left
  · intro ρ w' hT
    obtain ⟨hcT, hfT⟩ := bcell hT
    go_simp
    try with_reducible rfl
  simp only [Act.put, List.setIfInBounds_toArray, List.set_cons_zero, List.set_cons_succ]
  refine plan_run (v := ?_) rfl (fun _ => rfl) ?_ ?_
  rotate_left
  · intro ρ w' hT
    obtain ⟨hcT, hfT⟩ := bcell hT
    go_simp
    try with_reducible rfl
  simp only [Act.put, List.setIfInBounds_toArray, List.set_cons_zero, List.set_cons_succ]
  refine plan_run (v := ?_) rfl (fun _ => rfl) ?_ ?_
  rotate_left
  · intro ρ w' hT
    obtain ⟨hcT, hfT⟩ := bcell hT
    go_simp
    try with_reducible rfl
  simp only [Act.put, List.setIfInBounds_toArray, List.set_cons_zero, List.set_cons_succ]
  refine plan_run (v := ?_) rfl (fun _ => rfl) ?_ ?_
  rotate_left
  · intro ρ w' hT
    obtain ⟨hcT, hfT⟩ := bcell hT
    go_simp
    try with_reducible rfl
  simp only [Act.put, List.setIfInBounds_toArray, List.set_cons_zero, List.set_cons_succ]
  refine plan_run (v := ?_) rfl (fun _ => rfl) ?_ ?_
  rotate_left
  · intro ρ w' hT
    obtain ⟨hcT, hfT⟩ := bcell hT
    go_simp
    try with_reducible rfl
  simp only [Act.put, List.setIfInBounds_toArray, List.set_cons_zero, List.set_cons_succ]
  refine plan_run (v := ?_) rfl (fun _ => rfl) ?_ ?_
  rotate_left
  · intro ρ w' hT
    obtain ⟨hcT, hfT⟩ := bcell hT
    go_simp
    try with_reducible rfl
  simp only [Act.put, List.setIfInBounds_toArray, List.set_cons_zero, List.set_cons_succ]
  refine plan_run (v := ?_) rfl (fun _ => rfl) ?_ ?_
  rotate_left
  · intro ρ w' hT
    obtain ⟨hcT, hfT⟩ := bcell hT
    go_simp
    try with_reducible rfl
  simp only [Act.put, List.setIfInBounds_toArray, List.set_cons_zero, List.set_cons_succ]
  refine plan_run (v := ?_) rfl (fun _ => rfl) ?_ ?_
  rotate_left
  · intro ρ w' hT
    obtain ⟨hcT, hfT⟩ := bcell hT
    go_simp
    try with_reducible rfl
  simp only [Act.put, List.setIfInBounds_toArray, List.set_cons_zero, List.set_cons_succ]
  refine plan_run (v := ?_) rfl (fun _ => rfl) ?_ ?_
  rotate_left
  · intro ρ w' hT
    obtain ⟨hcT, hfT⟩ := bcell hT
    go_simp
    try with_reducible rfl
  simp only [Act.put, List.setIfInBounds_toArray, List.set_cons_zero, List.set_cons_succ]
  refine plan_run (v := ?_) rfl (fun _ => rfl) ?_ ?_
  rotate_left
  · intro ρ w' hT
    obtain ⟨hcT, hfT⟩ := bcell hT
    go_simp
    try with_reducible rfl
  simp only [Act.put, List.setIfInBounds_toArray, List.set_cons_zero, List.set_cons_succ]
  refine plan_run (v := ?_) rfl (fun _ => rfl) ?_ ?_
  rotate_left
  · intro ρ w' hT
    obtain ⟨hcT, hfT⟩ := bcell hT
    go_simp
    try with_reducible rfl
  simp only [Act.put, List.setIfInBounds_toArray, List.set_cons_zero, List.set_cons_succ]
  refine plan_run (v := ?_) rfl (fun _ => rfl) ?_ ?_
  rotate_left
  · intro ρ w' hT
    obtain ⟨hcT, hfT⟩ := bcell hT
    go_simp
    try with_reducible rfl
  simp only [Act.put, List.setIfInBounds_toArray, List.set_cons_zero, List.set_cons_succ]
  refine plan_const (v := .int .i64 (kn s)) rfl (fun _ => rfl) ?_ ?_
  · intro ρ w' hT hF
    go_simp
    refine (HN.out w').mono ?_
    rintro e w'' ⟨rfl, hb⟩
    exact ⟨_, rfl, rfl, hb⟩
  simp only [Act.put, List.setIfInBounds_toArray, List.set_cons_zero, List.set_cons_succ]
  refine plan_run (v := ?_) rfl (fun _ => rfl) ?_ ?_
  rotate_left
  · intro ρ w' hT
    obtain ⟨hcT, hfT⟩ := bcell hT
    go_simp
    try with_reducible rfl
  simp only [Act.put, List.setIfInBounds_toArray, List.set_cons_zero, List.set_cons_succ]
  refine plan_run (v := ?_) rfl (fun _ => rfl) ?_ ?_
  rotate_left
  · intro ρ w' hT
    obtain ⟨hcT, hfT⟩ := bcell hT
    go_simp
    try with_reducible rfl
  simp only [Act.put, List.setIfInBounds_toArray, List.set_cons_zero, List.set_cons_succ]
  refine plan_run (v := ?_) rfl (fun _ => rfl) ?_ ?_
  rotate_left
  · intro ρ w' hT
    obtain ⟨hcT, hfT⟩ := bcell hT
    go_simp
    try with_reducible rfl
  simp only [Act.put, List.setIfInBounds_toArray, List.set_cons_zero, List.set_cons_succ]
  refine plan_run (v := ?_) rfl (fun _ => rfl) ?_ ?_
  rotate_left
  · intro ρ w' hT
    obtain ⟨hcT, hfT⟩ := bcell hT
    go_simp
    try with_reducible rfl
  simp only [Act.put, List.setIfInBounds_toArray, List.set_cons_zero, List.set_cons_succ]
  refine plan_run (v := ?_) rfl (fun _ => rfl) ?_ ?_
  rotate_left
  · intro ρ w' hT
    obtain ⟨hcT, hfT⟩ := bcell hT
    go_simp
    try with_reducible rfl
  simp only [Act.put, List.setIfInBounds_toArray, List.set_cons_zero, List.set_cons_succ]
  refine plan_run (v := ?_) rfl (fun _ => rfl) ?_ ?_
  rotate_left
  · intro ρ w' hT
    obtain ⟨hcT, hfT⟩ := bcell hT
    go_simp
    try with_reducible rfl
  simp only [Act.put, List.setIfInBounds_toArray, List.set_cons_zero, List.set_cons_succ]
  refine plan_run (v := ?_) rfl (fun _ => rfl) ?_ ?_
  rotate_left
  · intro ρ w' hT
    obtain ⟨hcT, hfT⟩ := bcell hT
    go_simp
    try with_reducible rfl
  simp only [Act.put, List.setIfInBounds_toArray, List.set_cons_zero, List.set_cons_succ]
  refine plan_fact rfl (BoxAt.lasts _ _ _) (fun _ => rfl) ?_ ?_
  · intro ρ w' hT hF
    have hz := hT.size
    go_simp
    exact ⟨BoxAt.new _ _ _ (by simp at hz; omega), below_alloc _ _⟩
  simp only [Act.put, List.setIfInBounds_toArray, List.set_cons_zero, List.set_cons_succ]
  intro ρ w2 hT hF
  obtain ⟨f8, _⟩ := hF
  obtain ⟨B, eB, hB0, hB1, hcB, hfB⟩ := BoxAt.open f8
  clear f8
  simp only [List.drop_succ_cons, List.drop_zero, Nat.zero_add, Nat.reduceAdd, eB]
  have b0 : w2.cell? ⟨B, 0, none⟩ = some (.int .i64 0) := hcB 0
  have b1 : w2.cell? ⟨B, 1, none⟩ = some (.int .i64 0) := hcB 1
  have b2 : w2.cell? ⟨B, 2, none⟩ = some (.string ⟨#[]⟩) := hcB 2
  have b3 : w2.cell? ⟨B, 3, none⟩ = some (.int .i64 0) := hcB 3
  have b4 : w2.cell? ⟨B, 4, none⟩ = some (.int .i64 0) := hcB 4
  clear hcB
  obtain ⟨n0, n1, n2, n3, n4⟩ := set5 (v0 := .int .i64 (back8 s)) (v1 := .int .i64 (kr s)) (v2 := .string (kl s)) (v3 := .int .i64 (kn s)) (v4 := .int .i64 (ki s)) b0 b1 b2 b3 b4
  have k0 : w2.cell? ⟨w.heap.size, 0, none⟩ = some (.int .i64 0) := box_cell hT (by simp) 0 rfl
  have k1 : w2.cell? ⟨w.heap.size, 1, none⟩ = some (.int .i64 0) := box_cell hT (by simp) 1 rfl
  have k2 : w2.cell? ⟨w.heap.size, 2, none⟩ = some (.string ⟨#[]⟩) := box_cell hT (by simp) 2 rfl
  have k3 : w2.cell? ⟨w.heap.size, 3, none⟩ = some (.int .i64 0) := box_cell hT (by simp) 3 rfl
  have k4 : w2.cell? ⟨w.heap.size, 4, none⟩ = some (.int .i64 0) := box_cell hT (by simp) 4 rfl
  have f0 : ∀ i, w2.frozen? ⟨w.heap.size, i, none⟩ = false := fun i => by rw [hT.frozen (by simp)]; simp
  have hne : w.heap.size ≠ B := by omega
  have hb2 : Below w.heap.size w w2 := below_step (below_alloc _ _) hT
  have hs2 := hb2.size
  have hb3 : Below w.heap.size w (((((w2.setCell ⟨B, 0, none⟩ (.int .i64 (back8 s))).setCell ⟨B, 1, none⟩ (.int .i64 (kr s))).setCell ⟨B, 2, none⟩ (.string (kl s))).setCell ⟨B, 3, none⟩ (.int .i64 (kn s))).setCell ⟨B, 4, none⟩ (.int .i64 (ki s))) := by go_grown
  have hz3 : (((((w2.setCell ⟨B, 0, none⟩ (.int .i64 (back8 s))).setCell ⟨B, 1, none⟩ (.int .i64 (kr s))).setCell ⟨B, 2, none⟩ (.string (kl s))).setCell ⟨B, 3, none⟩ (.int .i64 (kn s))).setCell ⟨B, 4, none⟩ (.int .i64 (ki s))).heap.size = w2.heap.size := by simp
  have K0 : (((((w2.setCell ⟨B, 0, none⟩ (.int .i64 (back8 s))).setCell ⟨B, 1, none⟩ (.int .i64 (kr s))).setCell ⟨B, 2, none⟩ (.string (kl s))).setCell ⟨B, 3, none⟩ (.int .i64 (kn s))).setCell ⟨B, 4, none⟩ (.int .i64 (ki s))).cell? ⟨w.heap.size, 0, none⟩ = some (.int .i64 0) := by rw [World.cell?_setCell_far _ _ _ _ (Ne.symm hne), World.cell?_setCell_far _ _ _ _ (Ne.symm hne), World.cell?_setCell_far _ _ _ _ (Ne.symm hne), World.cell?_setCell_far _ _ _ _ (Ne.symm hne), World.cell?_setCell_far _ _ _ _ (Ne.symm hne)]; exact k0
  have K1 : (((((w2.setCell ⟨B, 0, none⟩ (.int .i64 (back8 s))).setCell ⟨B, 1, none⟩ (.int .i64 (kr s))).setCell ⟨B, 2, none⟩ (.string (kl s))).setCell ⟨B, 3, none⟩ (.int .i64 (kn s))).setCell ⟨B, 4, none⟩ (.int .i64 (ki s))).cell? ⟨w.heap.size, 1, none⟩ = some (.int .i64 0) := by rw [World.cell?_setCell_far _ _ _ _ (Ne.symm hne), World.cell?_setCell_far _ _ _ _ (Ne.symm hne), World.cell?_setCell_far _ _ _ _ (Ne.symm hne), World.cell?_setCell_far _ _ _ _ (Ne.symm hne), World.cell?_setCell_far _ _ _ _ (Ne.symm hne)]; exact k1
  have K2 : (((((w2.setCell ⟨B, 0, none⟩ (.int .i64 (back8 s))).setCell ⟨B, 1, none⟩ (.int .i64 (kr s))).setCell ⟨B, 2, none⟩ (.string (kl s))).setCell ⟨B, 3, none⟩ (.int .i64 (kn s))).setCell ⟨B, 4, none⟩ (.int .i64 (ki s))).cell? ⟨w.heap.size, 2, none⟩ = some (.string ⟨#[]⟩) := by rw [World.cell?_setCell_far _ _ _ _ (Ne.symm hne), World.cell?_setCell_far _ _ _ _ (Ne.symm hne), World.cell?_setCell_far _ _ _ _ (Ne.symm hne), World.cell?_setCell_far _ _ _ _ (Ne.symm hne), World.cell?_setCell_far _ _ _ _ (Ne.symm hne)]; exact k2
  have K3 : (((((w2.setCell ⟨B, 0, none⟩ (.int .i64 (back8 s))).setCell ⟨B, 1, none⟩ (.int .i64 (kr s))).setCell ⟨B, 2, none⟩ (.string (kl s))).setCell ⟨B, 3, none⟩ (.int .i64 (kn s))).setCell ⟨B, 4, none⟩ (.int .i64 (ki s))).cell? ⟨w.heap.size, 3, none⟩ = some (.int .i64 0) := by rw [World.cell?_setCell_far _ _ _ _ (Ne.symm hne), World.cell?_setCell_far _ _ _ _ (Ne.symm hne), World.cell?_setCell_far _ _ _ _ (Ne.symm hne), World.cell?_setCell_far _ _ _ _ (Ne.symm hne), World.cell?_setCell_far _ _ _ _ (Ne.symm hne)]; exact k3
  have K4 : (((((w2.setCell ⟨B, 0, none⟩ (.int .i64 (back8 s))).setCell ⟨B, 1, none⟩ (.int .i64 (kr s))).setCell ⟨B, 2, none⟩ (.string (kl s))).setCell ⟨B, 3, none⟩ (.int .i64 (kn s))).setCell ⟨B, 4, none⟩ (.int .i64 (ki s))).cell? ⟨w.heap.size, 4, none⟩ = some (.int .i64 0) := by rw [World.cell?_setCell_far _ _ _ _ (Ne.symm hne), World.cell?_setCell_far _ _ _ _ (Ne.symm hne), World.cell?_setCell_far _ _ _ _ (Ne.symm hne), World.cell?_setCell_far _ _ _ _ (Ne.symm hne), World.cell?_setCell_far _ _ _ _ (Ne.symm hne)]; exact k4
  have F0 : ∀ i, (((((w2.setCell ⟨B, 0, none⟩ (.int .i64 (back8 s))).setCell ⟨B, 1, none⟩ (.int .i64 (kr s))).setCell ⟨B, 2, none⟩ (.string (kl s))).setCell ⟨B, 3, none⟩ (.int .i64 (kn s))).setCell ⟨B, 4, none⟩ (.int .i64 (ki s))).frozen? ⟨w.heap.size, i, none⟩ = false := fun i => by simp [f0]
  go_wp2_with fail
  generalize ((((w2.setCell ⟨B, 0, none⟩ (.int .i64 (back8 s))).setCell ⟨B, 1, none⟩ (.int .i64 (kr s))).setCell ⟨B, 2, none⟩ (.string (kl s))).setCell ⟨B, 3, none⟩ (.int .i64 (kn s))).setCell ⟨B, 4, none⟩ (.int .i64 (ki s)) = w3 at *
  clear k0 k1 k2 k3 k4 f0 hT b0 b1 b2 b3 b4 hfB hb2
  have hs3 := hb3.size
  have hB3 : B < w3.heap.size := by omega
  have hw3 : w.heap.size < w3.heap.size := by omega
  refine (rstamp_any _ _ _ _ _ _ hkl).mono ?_
  rw [Hok.out]
  rintro e w4 ⟨rfl, hb4⟩
  have n0 := cell_on hb4 hB3 n0
  have n1 := cell_on hb4 hB3 n1
  have n2 := cell_on hb4 hB3 n2
  have n3 := cell_on hb4 hB3 n3
  have n4 := cell_on hb4 hB3 n4
  have K0 := cell_on hb4 hw3 K0
  have K1 := cell_on hb4 hw3 K1
  have K2 := cell_on hb4 hw3 K2
  have K3 := cell_on hb4 hw3 K3
  have K4 := cell_on hb4 hw3 K4
  have F0 : ∀ i, w4.frozen? ⟨w.heap.size, i, none⟩ = false := fun i => (hb4.frozen (p := ⟨w.heap.size, i, none⟩) hw3).trans (F0 i)
  have hs4 := hb4.size
  have hw4 : w.heap.size < w4.heap.size := by omega
  replace hb4 := below_step hb3 hb4
  have hB4 : B < w4.heap.size := by omega
  (go_wp2; exact bodyPost_ret (v := .tuple #[zS, .int .i64 4]) (by simp [results, Tryz.results23, go_sem, K0, K1, K2, K3, K4]) rfl ⟨rfl, by go_grown⟩)
set_option maxRecDepth 20000 in set_option maxHeartbeats 1000000 in
theorem rofKey_ne (s : ByteArray) (w : World) (E : Env w) (hs : 19 ≤ s.size) (hs1 : s.size ≤ 1000000) (hok : okS (back8 s) (kr s) (kl s) (kn s) (ki s) = true) (ht : ¬ S (kS (back8 s) (kr s) (kl s) (kn s) (ki s)) = s) :
    Calls Tryz.prog 23 #[.string s] w fun e w' => e = .returned (.tuple #[zS, .int .i64 4]) ∧ Below w.heap.size w w' := by
  have h19 : ¬ ((s.size : Int) < 19) := by omega
  have h8 : (8 : Int) < s.size := by omega
  have h9 : (9 : Int) ≤ (s.size : Int) - 10 := by omega
  have wr : IntKind.i64.wrap ((s.size : Int) - 10) = (s.size : Int) - 10 := IntWalk.i64_in _ (by omega)
  have wr9 : IntKind.i64.wrap ((s.size : Int) - 9) = (s.size : Int) - 9 := IntWalk.i64_in _ (by omega)
  have wr1 : IntKind.i64.wrap ((s.size : Int) - 1) = (s.size : Int) - 1 := IntWalk.i64_in _ (by omega)
  have hx : ((s.size : Int) - 10) ≤ s.size := by omega
  have hx9 : ((s.size : Int) - 9) ≤ s.size := by omega
  have hx91 : (9 : Int) ≤ s.size := by omega
  have hx1 : ((s.size : Int) - 1) < s.size := by omega
  have hx11 : (1 : Int) ≤ s.size := by omega
  have e8 : ∀ h, IntKind.i64.wrap ((s[8]'h).toNat : Int) = kr s := fun h => byte_at h
  have eL : s.extract 9 ((s.size : Int) - 10).toNat = kl s := by rw [kl]; congr 1; omega
  have e9 : ((s.size : Int) - 9).toNat = s.size - 9 := by omega
  have e1 : ((s.size : Int) - 1).toNat = s.size - 1 := by omega
  have ei : ∀ h, IntKind.i64.wrap ((s[s.size - 1]'h).toNat : Int) = ki s := fun h => byte_at h
  have hkl : (kl s).size ≤ 1000000 := by simp [kl]; omega
  have hkn8 : 8 ≤ (s.extract (s.size - 9) s.size).size := by simp; omega
  have hkn1 : (s.extract (s.size - 9) s.size).size ≤ 1000000 := by simp; omega
  have HN := Lib.hid (fun w' : World => (show Calls Tryz.prog 117 #[.string (s.extract (s.size - 9) s.size)] w' (fun e w'' => e = .returned (.int .i64 (kn s)) ∧ Below w'.heap.size w' w'') from rback_any _ w' hkn8 hkn1))
  have Hok := Lib.hid hok
  have Ht := Lib.hid ht
  clear hok ht
  go_enter Tryz.func23, Tryz.ntmps23
  go_wp2_with fail
  refine wp_region_plan 23 [(none, []), (none, []), (none, []), (none, []), (none, []), (none, []), (none, []), (none, []), (none, []), (none, []), (none, []), (none, []), (none, []), (none, []), (none, []), (none, []), (none, []), (none, []), (none, []), (none, []), (none, []), (none, []), (some (BoxAt (w.heap.size + 1) 37 [.int .i64 0, .int .i64 0, .string ⟨#[]⟩, .int .i64 0, .int .i64 0]), [])] [22] (by kernel_rfl) (by kernel_rfl) ?_
  simp only [List.take_succ_cons, List.take_zero]
  refine plan_run (v := ?_) rfl (fun _ => rfl) ?_ ?_
  rotate_left
  · intro ρ w' hT
    obtain ⟨hcT, hfT⟩ := bcell hT
    go_simp
    try with_reducible rfl
  simp only [Act.put, List.setIfInBounds_toArray, List.set_cons_zero, List.set_cons_succ]
  refine plan_const (v := .int .i64 (back8 s)) rfl (fun _ => rfl) ?_ ?_
  · intro ρ w' hT hF
    go_simp
    refine (rback_any s w' (by omega) hs1).mono ?_
    rintro e w'' ⟨rfl, hb⟩
    exact ⟨_, rfl, rfl, hb⟩
  simp only [Act.put, List.setIfInBounds_toArray, List.set_cons_zero, List.set_cons_succ]
  refine plan_run (v := ?_) rfl (fun _ => rfl) ?_ ?_
  rotate_left
  · intro ρ w' hT
    obtain ⟨hcT, hfT⟩ := bcell hT
    go_simp
    try with_reducible rfl
  simp only [Act.put, List.setIfInBounds_toArray, List.set_cons_zero, List.set_cons_succ]
  refine plan_run (v := ?_) rfl (fun _ => rfl) ?_ ?_
  rotate_left
  · intro ρ w' hT
    obtain ⟨hcT, hfT⟩ := bcell hT
    go_simp
    try with_reducible rfl
  simp only [Act.put, List.setIfInBounds_toArray, List.set_cons_zero, List.set_cons_succ]
  refine plan_run (v := ?_) rfl (fun _ => rfl) ?_ ?_
  rotate_left
  · intro ρ w' hT
    obtain ⟨hcT, hfT⟩ := bcell hT
    go_simp
    try with_reducible rfl
  simp only [Act.put, List.setIfInBounds_toArray, List.set_cons_zero, List.set_cons_succ]
  refine plan_run (v := ?_) rfl (fun _ => rfl) ?_ ?_
  rotate_left
  · intro ρ w' hT
    obtain ⟨hcT, hfT⟩ := bcell hT
    go_simp
    try with_reducible rfl
  simp only [Act.put, List.setIfInBounds_toArray, List.set_cons_zero, List.set_cons_succ]
  refine plan_run (v := ?_) rfl (fun _ => rfl) ?_ ?_
  rotate_left
  · intro ρ w' hT
    obtain ⟨hcT, hfT⟩ := bcell hT
    go_simp
    try with_reducible rfl
  simp only [Act.put, List.setIfInBounds_toArray, List.set_cons_zero, List.set_cons_succ]
  refine plan_run (v := ?_) rfl (fun _ => rfl) ?_ ?_
  rotate_left
  · intro ρ w' hT
    obtain ⟨hcT, hfT⟩ := bcell hT
    go_simp
    try with_reducible rfl
  simp only [Act.put, List.setIfInBounds_toArray, List.set_cons_zero, List.set_cons_succ]
  refine plan_run (v := ?_) rfl (fun _ => rfl) ?_ ?_
  rotate_left
  · intro ρ w' hT
    obtain ⟨hcT, hfT⟩ := bcell hT
    go_simp
    try with_reducible rfl
  simp only [Act.put, List.setIfInBounds_toArray, List.set_cons_zero, List.set_cons_succ]
  refine plan_run (v := ?_) rfl (fun _ => rfl) ?_ ?_
  rotate_left
  · intro ρ w' hT
    obtain ⟨hcT, hfT⟩ := bcell hT
    go_simp
    try with_reducible rfl
  simp only [Act.put, List.setIfInBounds_toArray, List.set_cons_zero, List.set_cons_succ]
  refine plan_run (v := ?_) rfl (fun _ => rfl) ?_ ?_
  rotate_left
  · intro ρ w' hT
    obtain ⟨hcT, hfT⟩ := bcell hT
    go_simp
    try with_reducible rfl
  simp only [Act.put, List.setIfInBounds_toArray, List.set_cons_zero, List.set_cons_succ]
  refine plan_run (v := ?_) rfl (fun _ => rfl) ?_ ?_
  rotate_left
  · intro ρ w' hT
    obtain ⟨hcT, hfT⟩ := bcell hT
    go_simp
    try with_reducible rfl
  simp only [Act.put, List.setIfInBounds_toArray, List.set_cons_zero, List.set_cons_succ]
  refine plan_run (v := ?_) rfl (fun _ => rfl) ?_ ?_
  rotate_left
  · intro ρ w' hT
    obtain ⟨hcT, hfT⟩ := bcell hT
    go_simp
    try with_reducible rfl
  simp only [Act.put, List.setIfInBounds_toArray, List.set_cons_zero, List.set_cons_succ]
  refine plan_run (v := ?_) rfl (fun _ => rfl) ?_ ?_
  rotate_left
  · intro ρ w' hT
    obtain ⟨hcT, hfT⟩ := bcell hT
    go_simp
    try with_reducible rfl
  simp only [Act.put, List.setIfInBounds_toArray, List.set_cons_zero, List.set_cons_succ]
  refine plan_const (v := .int .i64 (kn s)) rfl (fun _ => rfl) ?_ ?_
  · intro ρ w' hT hF
    go_simp
    refine (HN.out w').mono ?_
    rintro e w'' ⟨rfl, hb⟩
    exact ⟨_, rfl, rfl, hb⟩
  simp only [Act.put, List.setIfInBounds_toArray, List.set_cons_zero, List.set_cons_succ]
  refine plan_run (v := ?_) rfl (fun _ => rfl) ?_ ?_
  rotate_left
  · intro ρ w' hT
    obtain ⟨hcT, hfT⟩ := bcell hT
    go_simp
    try with_reducible rfl
  simp only [Act.put, List.setIfInBounds_toArray, List.set_cons_zero, List.set_cons_succ]
  refine plan_run (v := ?_) rfl (fun _ => rfl) ?_ ?_
  rotate_left
  · intro ρ w' hT
    obtain ⟨hcT, hfT⟩ := bcell hT
    go_simp
    try with_reducible rfl
  simp only [Act.put, List.setIfInBounds_toArray, List.set_cons_zero, List.set_cons_succ]
  refine plan_run (v := ?_) rfl (fun _ => rfl) ?_ ?_
  rotate_left
  · intro ρ w' hT
    obtain ⟨hcT, hfT⟩ := bcell hT
    go_simp
    try with_reducible rfl
  simp only [Act.put, List.setIfInBounds_toArray, List.set_cons_zero, List.set_cons_succ]
  refine plan_run (v := ?_) rfl (fun _ => rfl) ?_ ?_
  rotate_left
  · intro ρ w' hT
    obtain ⟨hcT, hfT⟩ := bcell hT
    go_simp
    try with_reducible rfl
  simp only [Act.put, List.setIfInBounds_toArray, List.set_cons_zero, List.set_cons_succ]
  refine plan_run (v := ?_) rfl (fun _ => rfl) ?_ ?_
  rotate_left
  · intro ρ w' hT
    obtain ⟨hcT, hfT⟩ := bcell hT
    go_simp
    try with_reducible rfl
  simp only [Act.put, List.setIfInBounds_toArray, List.set_cons_zero, List.set_cons_succ]
  refine plan_run (v := ?_) rfl (fun _ => rfl) ?_ ?_
  rotate_left
  · intro ρ w' hT
    obtain ⟨hcT, hfT⟩ := bcell hT
    go_simp
    try with_reducible rfl
  simp only [Act.put, List.setIfInBounds_toArray, List.set_cons_zero, List.set_cons_succ]
  refine plan_run (v := ?_) rfl (fun _ => rfl) ?_ ?_
  rotate_left
  · intro ρ w' hT
    obtain ⟨hcT, hfT⟩ := bcell hT
    go_simp
    try with_reducible rfl
  simp only [Act.put, List.setIfInBounds_toArray, List.set_cons_zero, List.set_cons_succ]
  refine plan_fact rfl (BoxAt.lasts _ _ _) (fun _ => rfl) ?_ ?_
  · intro ρ w' hT hF
    have hz := hT.size
    go_simp
    exact ⟨BoxAt.new _ _ _ (by simp at hz; omega), below_alloc _ _⟩
  simp only [Act.put, List.setIfInBounds_toArray, List.set_cons_zero, List.set_cons_succ]
  intro ρ w2 hT hF
  obtain ⟨f8, _⟩ := hF
  obtain ⟨B, eB, hB0, hB1, hcB, hfB⟩ := BoxAt.open f8
  clear f8
  simp only [List.drop_succ_cons, List.drop_zero, Nat.zero_add, Nat.reduceAdd, eB]
  have b0 : w2.cell? ⟨B, 0, none⟩ = some (.int .i64 0) := hcB 0
  have b1 : w2.cell? ⟨B, 1, none⟩ = some (.int .i64 0) := hcB 1
  have b2 : w2.cell? ⟨B, 2, none⟩ = some (.string ⟨#[]⟩) := hcB 2
  have b3 : w2.cell? ⟨B, 3, none⟩ = some (.int .i64 0) := hcB 3
  have b4 : w2.cell? ⟨B, 4, none⟩ = some (.int .i64 0) := hcB 4
  clear hcB
  obtain ⟨n0, n1, n2, n3, n4⟩ := set5 (v0 := .int .i64 (back8 s)) (v1 := .int .i64 (kr s)) (v2 := .string (kl s)) (v3 := .int .i64 (kn s)) (v4 := .int .i64 (ki s)) b0 b1 b2 b3 b4
  have k0 : w2.cell? ⟨w.heap.size, 0, none⟩ = some (.int .i64 0) := box_cell hT (by simp) 0 rfl
  have k1 : w2.cell? ⟨w.heap.size, 1, none⟩ = some (.int .i64 0) := box_cell hT (by simp) 1 rfl
  have k2 : w2.cell? ⟨w.heap.size, 2, none⟩ = some (.string ⟨#[]⟩) := box_cell hT (by simp) 2 rfl
  have k3 : w2.cell? ⟨w.heap.size, 3, none⟩ = some (.int .i64 0) := box_cell hT (by simp) 3 rfl
  have k4 : w2.cell? ⟨w.heap.size, 4, none⟩ = some (.int .i64 0) := box_cell hT (by simp) 4 rfl
  have f0 : ∀ i, w2.frozen? ⟨w.heap.size, i, none⟩ = false := fun i => by rw [hT.frozen (by simp)]; simp
  have hne : w.heap.size ≠ B := by omega
  have hb2 : Below w.heap.size w w2 := below_step (below_alloc _ _) hT
  have hs2 := hb2.size
  have hb3 : Below w.heap.size w (((((w2.setCell ⟨B, 0, none⟩ (.int .i64 (back8 s))).setCell ⟨B, 1, none⟩ (.int .i64 (kr s))).setCell ⟨B, 2, none⟩ (.string (kl s))).setCell ⟨B, 3, none⟩ (.int .i64 (kn s))).setCell ⟨B, 4, none⟩ (.int .i64 (ki s))) := by go_grown
  have hz3 : (((((w2.setCell ⟨B, 0, none⟩ (.int .i64 (back8 s))).setCell ⟨B, 1, none⟩ (.int .i64 (kr s))).setCell ⟨B, 2, none⟩ (.string (kl s))).setCell ⟨B, 3, none⟩ (.int .i64 (kn s))).setCell ⟨B, 4, none⟩ (.int .i64 (ki s))).heap.size = w2.heap.size := by simp
  have K0 : (((((w2.setCell ⟨B, 0, none⟩ (.int .i64 (back8 s))).setCell ⟨B, 1, none⟩ (.int .i64 (kr s))).setCell ⟨B, 2, none⟩ (.string (kl s))).setCell ⟨B, 3, none⟩ (.int .i64 (kn s))).setCell ⟨B, 4, none⟩ (.int .i64 (ki s))).cell? ⟨w.heap.size, 0, none⟩ = some (.int .i64 0) := by rw [World.cell?_setCell_far _ _ _ _ (Ne.symm hne), World.cell?_setCell_far _ _ _ _ (Ne.symm hne), World.cell?_setCell_far _ _ _ _ (Ne.symm hne), World.cell?_setCell_far _ _ _ _ (Ne.symm hne), World.cell?_setCell_far _ _ _ _ (Ne.symm hne)]; exact k0
  have K1 : (((((w2.setCell ⟨B, 0, none⟩ (.int .i64 (back8 s))).setCell ⟨B, 1, none⟩ (.int .i64 (kr s))).setCell ⟨B, 2, none⟩ (.string (kl s))).setCell ⟨B, 3, none⟩ (.int .i64 (kn s))).setCell ⟨B, 4, none⟩ (.int .i64 (ki s))).cell? ⟨w.heap.size, 1, none⟩ = some (.int .i64 0) := by rw [World.cell?_setCell_far _ _ _ _ (Ne.symm hne), World.cell?_setCell_far _ _ _ _ (Ne.symm hne), World.cell?_setCell_far _ _ _ _ (Ne.symm hne), World.cell?_setCell_far _ _ _ _ (Ne.symm hne), World.cell?_setCell_far _ _ _ _ (Ne.symm hne)]; exact k1
  have K2 : (((((w2.setCell ⟨B, 0, none⟩ (.int .i64 (back8 s))).setCell ⟨B, 1, none⟩ (.int .i64 (kr s))).setCell ⟨B, 2, none⟩ (.string (kl s))).setCell ⟨B, 3, none⟩ (.int .i64 (kn s))).setCell ⟨B, 4, none⟩ (.int .i64 (ki s))).cell? ⟨w.heap.size, 2, none⟩ = some (.string ⟨#[]⟩) := by rw [World.cell?_setCell_far _ _ _ _ (Ne.symm hne), World.cell?_setCell_far _ _ _ _ (Ne.symm hne), World.cell?_setCell_far _ _ _ _ (Ne.symm hne), World.cell?_setCell_far _ _ _ _ (Ne.symm hne), World.cell?_setCell_far _ _ _ _ (Ne.symm hne)]; exact k2
  have K3 : (((((w2.setCell ⟨B, 0, none⟩ (.int .i64 (back8 s))).setCell ⟨B, 1, none⟩ (.int .i64 (kr s))).setCell ⟨B, 2, none⟩ (.string (kl s))).setCell ⟨B, 3, none⟩ (.int .i64 (kn s))).setCell ⟨B, 4, none⟩ (.int .i64 (ki s))).cell? ⟨w.heap.size, 3, none⟩ = some (.int .i64 0) := by rw [World.cell?_setCell_far _ _ _ _ (Ne.symm hne), World.cell?_setCell_far _ _ _ _ (Ne.symm hne), World.cell?_setCell_far _ _ _ _ (Ne.symm hne), World.cell?_setCell_far _ _ _ _ (Ne.symm hne), World.cell?_setCell_far _ _ _ _ (Ne.symm hne)]; exact k3
  have K4 : (((((w2.setCell ⟨B, 0, none⟩ (.int .i64 (back8 s))).setCell ⟨B, 1, none⟩ (.int .i64 (kr s))).setCell ⟨B, 2, none⟩ (.string (kl s))).setCell ⟨B, 3, none⟩ (.int .i64 (kn s))).setCell ⟨B, 4, none⟩ (.int .i64 (ki s))).cell? ⟨w.heap.size, 4, none⟩ = some (.int .i64 0) := by rw [World.cell?_setCell_far _ _ _ _ (Ne.symm hne), World.cell?_setCell_far _ _ _ _ (Ne.symm hne), World.cell?_setCell_far _ _ _ _ (Ne.symm hne), World.cell?_setCell_far _ _ _ _ (Ne.symm hne), World.cell?_setCell_far _ _ _ _ (Ne.symm hne)]; exact k4
  have F0 : ∀ i, (((((w2.setCell ⟨B, 0, none⟩ (.int .i64 (back8 s))).setCell ⟨B, 1, none⟩ (.int .i64 (kr s))).setCell ⟨B, 2, none⟩ (.string (kl s))).setCell ⟨B, 3, none⟩ (.int .i64 (kn s))).setCell ⟨B, 4, none⟩ (.int .i64 (ki s))).frozen? ⟨w.heap.size, i, none⟩ = false := fun i => by simp [f0]
  go_wp2_with fail
  generalize ((((w2.setCell ⟨B, 0, none⟩ (.int .i64 (back8 s))).setCell ⟨B, 1, none⟩ (.int .i64 (kr s))).setCell ⟨B, 2, none⟩ (.string (kl s))).setCell ⟨B, 3, none⟩ (.int .i64 (kn s))).setCell ⟨B, 4, none⟩ (.int .i64 (ki s)) = w3 at *
  clear k0 k1 k2 k3 k4 f0 hT b0 b1 b2 b3 b4 hfB hb2
  have hs3 := hb3.size
  have hB3 : B < w3.heap.size := by omega
  have hw3 : w.heap.size < w3.heap.size := by omega
  refine (rstamp_any _ _ _ _ _ _ hkl).mono ?_
  rw [Hok.out]
  rintro e w4 ⟨rfl, hb4⟩
  have n0 := cell_on hb4 hB3 n0
  have n1 := cell_on hb4 hB3 n1
  have n2 := cell_on hb4 hB3 n2
  have n3 := cell_on hb4 hB3 n3
  have n4 := cell_on hb4 hB3 n4
  have K0 := cell_on hb4 hw3 K0
  have K1 := cell_on hb4 hw3 K1
  have K2 := cell_on hb4 hw3 K2
  have K3 := cell_on hb4 hw3 K3
  have K4 := cell_on hb4 hw3 K4
  have F0 : ∀ i, w4.frozen? ⟨w.heap.size, i, none⟩ = false := fun i => (hb4.frozen (p := ⟨w.heap.size, i, none⟩) hw3).trans (F0 i)
  have hs4 := hb4.size
  have hw4 : w.heap.size < w4.heap.size := by omega
  replace hb4 := below_step hb3 hb4
  have hB4 : B < w4.heap.size := by omega
  ((go_wp2_with fail); refine (rkey_any _ _ _ _ _ _ hkl Hok.out).mono ?_; rintro e w5 ⟨rfl, hb5⟩; have n0 := cell_on hb5 hB4 n0; have n1 := cell_on hb5 hB4 n1; have n2 := cell_on hb5 hB4 n2; have n3 := cell_on hb5 hB4 n3; have n4 := cell_on hb5 hB4 n4; have K0 := cell_on hb5 hw4 K0; have K1 := cell_on hb5 hw4 K1; have K2 := cell_on hb5 hw4 K2; have K3 := cell_on hb5 hw4 K3; have K4 := cell_on hb5 hw4 K4; have F0 : ∀ i, w5.frozen? ⟨w.heap.size, i, none⟩ = false := fun i => (hb5.frozen (p := ⟨w.heap.size, i, none⟩) hw4).trans (F0 i); replace hb5 := below_step hb4 hb5; (go_wp2; (· (exact bodyPost_ret (v := .tuple #[zS, .int .i64 4]) (by simp [results, Tryz.results23, go_sem, K0, K1, K2, K3, K4]) rfl ⟨rfl, by go_grown⟩)); (· (exact absurd (toList_ne (by assumption)) Ht.out))))
set_option maxRecDepth 20000 in set_option maxHeartbeats 1000000 in
theorem rofKey_yes (s : ByteArray) (w : World) (E : Env w) (hs : 19 ≤ s.size) (hs1 : s.size ≤ 1000000) (hok : okS (back8 s) (kr s) (kl s) (kn s) (ki s) = true) (ht : S (kS (back8 s) (kr s) (kl s) (kn s) (ki s)) = s) :
    Calls Tryz.prog 23 #[.string s] w fun e w' => e = .returned (.tuple #[vS (back8 s) (kr s) (kl s) (kn s) (ki s), .int .i64 0]) ∧ Below w.heap.size w w' := by
  have h19 : ¬ ((s.size : Int) < 19) := by omega
  have h8 : (8 : Int) < s.size := by omega
  have h9 : (9 : Int) ≤ (s.size : Int) - 10 := by omega
  have wr : IntKind.i64.wrap ((s.size : Int) - 10) = (s.size : Int) - 10 := IntWalk.i64_in _ (by omega)
  have wr9 : IntKind.i64.wrap ((s.size : Int) - 9) = (s.size : Int) - 9 := IntWalk.i64_in _ (by omega)
  have wr1 : IntKind.i64.wrap ((s.size : Int) - 1) = (s.size : Int) - 1 := IntWalk.i64_in _ (by omega)
  have hx : ((s.size : Int) - 10) ≤ s.size := by omega
  have hx9 : ((s.size : Int) - 9) ≤ s.size := by omega
  have hx91 : (9 : Int) ≤ s.size := by omega
  have hx1 : ((s.size : Int) - 1) < s.size := by omega
  have hx11 : (1 : Int) ≤ s.size := by omega
  have e8 : ∀ h, IntKind.i64.wrap ((s[8]'h).toNat : Int) = kr s := fun h => byte_at h
  have eL : s.extract 9 ((s.size : Int) - 10).toNat = kl s := by rw [kl]; congr 1; omega
  have e9 : ((s.size : Int) - 9).toNat = s.size - 9 := by omega
  have e1 : ((s.size : Int) - 1).toNat = s.size - 1 := by omega
  have ei : ∀ h, IntKind.i64.wrap ((s[s.size - 1]'h).toNat : Int) = ki s := fun h => byte_at h
  have hkl : (kl s).size ≤ 1000000 := by simp [kl]; omega
  have hkn8 : 8 ≤ (s.extract (s.size - 9) s.size).size := by simp; omega
  have hkn1 : (s.extract (s.size - 9) s.size).size ≤ 1000000 := by simp; omega
  have HN := Lib.hid (fun w' : World => (show Calls Tryz.prog 117 #[.string (s.extract (s.size - 9) s.size)] w' (fun e w'' => e = .returned (.int .i64 (kn s)) ∧ Below w'.heap.size w' w'') from rback_any _ w' hkn8 hkn1))
  have Hok := Lib.hid hok
  have Ht := Lib.hid ht
  clear hok ht
  go_enter Tryz.func23, Tryz.ntmps23
  go_wp2_with fail
  refine wp_region_plan 23 [(none, []), (none, []), (none, []), (none, []), (none, []), (none, []), (none, []), (none, []), (none, []), (none, []), (none, []), (none, []), (none, []), (none, []), (none, []), (none, []), (none, []), (none, []), (none, []), (none, []), (none, []), (none, []), (some (BoxAt (w.heap.size + 1) 37 [.int .i64 0, .int .i64 0, .string ⟨#[]⟩, .int .i64 0, .int .i64 0]), [])] [22] (by kernel_rfl) (by kernel_rfl) ?_
  simp only [List.take_succ_cons, List.take_zero]
  refine plan_run (v := ?_) rfl (fun _ => rfl) ?_ ?_
  rotate_left
  · intro ρ w' hT
    obtain ⟨hcT, hfT⟩ := bcell hT
    go_simp
    try with_reducible rfl
  simp only [Act.put, List.setIfInBounds_toArray, List.set_cons_zero, List.set_cons_succ]
  refine plan_const (v := .int .i64 (back8 s)) rfl (fun _ => rfl) ?_ ?_
  · intro ρ w' hT hF
    go_simp
    refine (rback_any s w' (by omega) hs1).mono ?_
    rintro e w'' ⟨rfl, hb⟩
    exact ⟨_, rfl, rfl, hb⟩
  simp only [Act.put, List.setIfInBounds_toArray, List.set_cons_zero, List.set_cons_succ]
  refine plan_run (v := ?_) rfl (fun _ => rfl) ?_ ?_
  rotate_left
  · intro ρ w' hT
    obtain ⟨hcT, hfT⟩ := bcell hT
    go_simp
    try with_reducible rfl
  simp only [Act.put, List.setIfInBounds_toArray, List.set_cons_zero, List.set_cons_succ]
  refine plan_run (v := ?_) rfl (fun _ => rfl) ?_ ?_
  rotate_left
  · intro ρ w' hT
    obtain ⟨hcT, hfT⟩ := bcell hT
    go_simp
    try with_reducible rfl
  simp only [Act.put, List.setIfInBounds_toArray, List.set_cons_zero, List.set_cons_succ]
  refine plan_run (v := ?_) rfl (fun _ => rfl) ?_ ?_
  rotate_left
  · intro ρ w' hT
    obtain ⟨hcT, hfT⟩ := bcell hT
    go_simp
    try with_reducible rfl
  simp only [Act.put, List.setIfInBounds_toArray, List.set_cons_zero, List.set_cons_succ]
  refine plan_run (v := ?_) rfl (fun _ => rfl) ?_ ?_
  rotate_left
  · intro ρ w' hT
    obtain ⟨hcT, hfT⟩ := bcell hT
    go_simp
    try with_reducible rfl
  simp only [Act.put, List.setIfInBounds_toArray, List.set_cons_zero, List.set_cons_succ]
  refine plan_run (v := ?_) rfl (fun _ => rfl) ?_ ?_
  rotate_left
  · intro ρ w' hT
    obtain ⟨hcT, hfT⟩ := bcell hT
    go_simp
    try with_reducible rfl
  simp only [Act.put, List.setIfInBounds_toArray, List.set_cons_zero, List.set_cons_succ]
  refine plan_run (v := ?_) rfl (fun _ => rfl) ?_ ?_
  rotate_left
  · intro ρ w' hT
    obtain ⟨hcT, hfT⟩ := bcell hT
    go_simp
    try with_reducible rfl
  simp only [Act.put, List.setIfInBounds_toArray, List.set_cons_zero, List.set_cons_succ]
  refine plan_run (v := ?_) rfl (fun _ => rfl) ?_ ?_
  rotate_left
  · intro ρ w' hT
    obtain ⟨hcT, hfT⟩ := bcell hT
    go_simp
    try with_reducible rfl
  simp only [Act.put, List.setIfInBounds_toArray, List.set_cons_zero, List.set_cons_succ]
  refine plan_run (v := ?_) rfl (fun _ => rfl) ?_ ?_
  rotate_left
  · intro ρ w' hT
    obtain ⟨hcT, hfT⟩ := bcell hT
    go_simp
    try with_reducible rfl
  simp only [Act.put, List.setIfInBounds_toArray, List.set_cons_zero, List.set_cons_succ]
  refine plan_run (v := ?_) rfl (fun _ => rfl) ?_ ?_
  rotate_left
  · intro ρ w' hT
    obtain ⟨hcT, hfT⟩ := bcell hT
    go_simp
    try with_reducible rfl
  simp only [Act.put, List.setIfInBounds_toArray, List.set_cons_zero, List.set_cons_succ]
  refine plan_run (v := ?_) rfl (fun _ => rfl) ?_ ?_
  rotate_left
  · intro ρ w' hT
    obtain ⟨hcT, hfT⟩ := bcell hT
    go_simp
    try with_reducible rfl
  simp only [Act.put, List.setIfInBounds_toArray, List.set_cons_zero, List.set_cons_succ]
  refine plan_run (v := ?_) rfl (fun _ => rfl) ?_ ?_
  rotate_left
  · intro ρ w' hT
    obtain ⟨hcT, hfT⟩ := bcell hT
    go_simp
    try with_reducible rfl
  simp only [Act.put, List.setIfInBounds_toArray, List.set_cons_zero, List.set_cons_succ]
  refine plan_run (v := ?_) rfl (fun _ => rfl) ?_ ?_
  rotate_left
  · intro ρ w' hT
    obtain ⟨hcT, hfT⟩ := bcell hT
    go_simp
    try with_reducible rfl
  simp only [Act.put, List.setIfInBounds_toArray, List.set_cons_zero, List.set_cons_succ]
  refine plan_const (v := .int .i64 (kn s)) rfl (fun _ => rfl) ?_ ?_
  · intro ρ w' hT hF
    go_simp
    refine (HN.out w').mono ?_
    rintro e w'' ⟨rfl, hb⟩
    exact ⟨_, rfl, rfl, hb⟩
  simp only [Act.put, List.setIfInBounds_toArray, List.set_cons_zero, List.set_cons_succ]
  refine plan_run (v := ?_) rfl (fun _ => rfl) ?_ ?_
  rotate_left
  · intro ρ w' hT
    obtain ⟨hcT, hfT⟩ := bcell hT
    go_simp
    try with_reducible rfl
  simp only [Act.put, List.setIfInBounds_toArray, List.set_cons_zero, List.set_cons_succ]
  refine plan_run (v := ?_) rfl (fun _ => rfl) ?_ ?_
  rotate_left
  · intro ρ w' hT
    obtain ⟨hcT, hfT⟩ := bcell hT
    go_simp
    try with_reducible rfl
  simp only [Act.put, List.setIfInBounds_toArray, List.set_cons_zero, List.set_cons_succ]
  refine plan_run (v := ?_) rfl (fun _ => rfl) ?_ ?_
  rotate_left
  · intro ρ w' hT
    obtain ⟨hcT, hfT⟩ := bcell hT
    go_simp
    try with_reducible rfl
  simp only [Act.put, List.setIfInBounds_toArray, List.set_cons_zero, List.set_cons_succ]
  refine plan_run (v := ?_) rfl (fun _ => rfl) ?_ ?_
  rotate_left
  · intro ρ w' hT
    obtain ⟨hcT, hfT⟩ := bcell hT
    go_simp
    try with_reducible rfl
  simp only [Act.put, List.setIfInBounds_toArray, List.set_cons_zero, List.set_cons_succ]
  refine plan_run (v := ?_) rfl (fun _ => rfl) ?_ ?_
  rotate_left
  · intro ρ w' hT
    obtain ⟨hcT, hfT⟩ := bcell hT
    go_simp
    try with_reducible rfl
  simp only [Act.put, List.setIfInBounds_toArray, List.set_cons_zero, List.set_cons_succ]
  refine plan_run (v := ?_) rfl (fun _ => rfl) ?_ ?_
  rotate_left
  · intro ρ w' hT
    obtain ⟨hcT, hfT⟩ := bcell hT
    go_simp
    try with_reducible rfl
  simp only [Act.put, List.setIfInBounds_toArray, List.set_cons_zero, List.set_cons_succ]
  refine plan_run (v := ?_) rfl (fun _ => rfl) ?_ ?_
  rotate_left
  · intro ρ w' hT
    obtain ⟨hcT, hfT⟩ := bcell hT
    go_simp
    try with_reducible rfl
  simp only [Act.put, List.setIfInBounds_toArray, List.set_cons_zero, List.set_cons_succ]
  refine plan_fact rfl (BoxAt.lasts _ _ _) (fun _ => rfl) ?_ ?_
  · intro ρ w' hT hF
    have hz := hT.size
    go_simp
    exact ⟨BoxAt.new _ _ _ (by simp at hz; omega), below_alloc _ _⟩
  simp only [Act.put, List.setIfInBounds_toArray, List.set_cons_zero, List.set_cons_succ]
  intro ρ w2 hT hF
  obtain ⟨f8, _⟩ := hF
  obtain ⟨B, eB, hB0, hB1, hcB, hfB⟩ := BoxAt.open f8
  clear f8
  simp only [List.drop_succ_cons, List.drop_zero, Nat.zero_add, Nat.reduceAdd, eB]
  have b0 : w2.cell? ⟨B, 0, none⟩ = some (.int .i64 0) := hcB 0
  have b1 : w2.cell? ⟨B, 1, none⟩ = some (.int .i64 0) := hcB 1
  have b2 : w2.cell? ⟨B, 2, none⟩ = some (.string ⟨#[]⟩) := hcB 2
  have b3 : w2.cell? ⟨B, 3, none⟩ = some (.int .i64 0) := hcB 3
  have b4 : w2.cell? ⟨B, 4, none⟩ = some (.int .i64 0) := hcB 4
  clear hcB
  obtain ⟨n0, n1, n2, n3, n4⟩ := set5 (v0 := .int .i64 (back8 s)) (v1 := .int .i64 (kr s)) (v2 := .string (kl s)) (v3 := .int .i64 (kn s)) (v4 := .int .i64 (ki s)) b0 b1 b2 b3 b4
  have k0 : w2.cell? ⟨w.heap.size, 0, none⟩ = some (.int .i64 0) := box_cell hT (by simp) 0 rfl
  have k1 : w2.cell? ⟨w.heap.size, 1, none⟩ = some (.int .i64 0) := box_cell hT (by simp) 1 rfl
  have k2 : w2.cell? ⟨w.heap.size, 2, none⟩ = some (.string ⟨#[]⟩) := box_cell hT (by simp) 2 rfl
  have k3 : w2.cell? ⟨w.heap.size, 3, none⟩ = some (.int .i64 0) := box_cell hT (by simp) 3 rfl
  have k4 : w2.cell? ⟨w.heap.size, 4, none⟩ = some (.int .i64 0) := box_cell hT (by simp) 4 rfl
  have f0 : ∀ i, w2.frozen? ⟨w.heap.size, i, none⟩ = false := fun i => by rw [hT.frozen (by simp)]; simp
  have hne : w.heap.size ≠ B := by omega
  have hb2 : Below w.heap.size w w2 := below_step (below_alloc _ _) hT
  have hs2 := hb2.size
  have hb3 : Below w.heap.size w (((((w2.setCell ⟨B, 0, none⟩ (.int .i64 (back8 s))).setCell ⟨B, 1, none⟩ (.int .i64 (kr s))).setCell ⟨B, 2, none⟩ (.string (kl s))).setCell ⟨B, 3, none⟩ (.int .i64 (kn s))).setCell ⟨B, 4, none⟩ (.int .i64 (ki s))) := by go_grown
  have hz3 : (((((w2.setCell ⟨B, 0, none⟩ (.int .i64 (back8 s))).setCell ⟨B, 1, none⟩ (.int .i64 (kr s))).setCell ⟨B, 2, none⟩ (.string (kl s))).setCell ⟨B, 3, none⟩ (.int .i64 (kn s))).setCell ⟨B, 4, none⟩ (.int .i64 (ki s))).heap.size = w2.heap.size := by simp
  have K0 : (((((w2.setCell ⟨B, 0, none⟩ (.int .i64 (back8 s))).setCell ⟨B, 1, none⟩ (.int .i64 (kr s))).setCell ⟨B, 2, none⟩ (.string (kl s))).setCell ⟨B, 3, none⟩ (.int .i64 (kn s))).setCell ⟨B, 4, none⟩ (.int .i64 (ki s))).cell? ⟨w.heap.size, 0, none⟩ = some (.int .i64 0) := by rw [World.cell?_setCell_far _ _ _ _ (Ne.symm hne), World.cell?_setCell_far _ _ _ _ (Ne.symm hne), World.cell?_setCell_far _ _ _ _ (Ne.symm hne), World.cell?_setCell_far _ _ _ _ (Ne.symm hne), World.cell?_setCell_far _ _ _ _ (Ne.symm hne)]; exact k0
  have K1 : (((((w2.setCell ⟨B, 0, none⟩ (.int .i64 (back8 s))).setCell ⟨B, 1, none⟩ (.int .i64 (kr s))).setCell ⟨B, 2, none⟩ (.string (kl s))).setCell ⟨B, 3, none⟩ (.int .i64 (kn s))).setCell ⟨B, 4, none⟩ (.int .i64 (ki s))).cell? ⟨w.heap.size, 1, none⟩ = some (.int .i64 0) := by rw [World.cell?_setCell_far _ _ _ _ (Ne.symm hne), World.cell?_setCell_far _ _ _ _ (Ne.symm hne), World.cell?_setCell_far _ _ _ _ (Ne.symm hne), World.cell?_setCell_far _ _ _ _ (Ne.symm hne), World.cell?_setCell_far _ _ _ _ (Ne.symm hne)]; exact k1
  have K2 : (((((w2.setCell ⟨B, 0, none⟩ (.int .i64 (back8 s))).setCell ⟨B, 1, none⟩ (.int .i64 (kr s))).setCell ⟨B, 2, none⟩ (.string (kl s))).setCell ⟨B, 3, none⟩ (.int .i64 (kn s))).setCell ⟨B, 4, none⟩ (.int .i64 (ki s))).cell? ⟨w.heap.size, 2, none⟩ = some (.string ⟨#[]⟩) := by rw [World.cell?_setCell_far _ _ _ _ (Ne.symm hne), World.cell?_setCell_far _ _ _ _ (Ne.symm hne), World.cell?_setCell_far _ _ _ _ (Ne.symm hne), World.cell?_setCell_far _ _ _ _ (Ne.symm hne), World.cell?_setCell_far _ _ _ _ (Ne.symm hne)]; exact k2
  have K3 : (((((w2.setCell ⟨B, 0, none⟩ (.int .i64 (back8 s))).setCell ⟨B, 1, none⟩ (.int .i64 (kr s))).setCell ⟨B, 2, none⟩ (.string (kl s))).setCell ⟨B, 3, none⟩ (.int .i64 (kn s))).setCell ⟨B, 4, none⟩ (.int .i64 (ki s))).cell? ⟨w.heap.size, 3, none⟩ = some (.int .i64 0) := by rw [World.cell?_setCell_far _ _ _ _ (Ne.symm hne), World.cell?_setCell_far _ _ _ _ (Ne.symm hne), World.cell?_setCell_far _ _ _ _ (Ne.symm hne), World.cell?_setCell_far _ _ _ _ (Ne.symm hne), World.cell?_setCell_far _ _ _ _ (Ne.symm hne)]; exact k3
  have K4 : (((((w2.setCell ⟨B, 0, none⟩ (.int .i64 (back8 s))).setCell ⟨B, 1, none⟩ (.int .i64 (kr s))).setCell ⟨B, 2, none⟩ (.string (kl s))).setCell ⟨B, 3, none⟩ (.int .i64 (kn s))).setCell ⟨B, 4, none⟩ (.int .i64 (ki s))).cell? ⟨w.heap.size, 4, none⟩ = some (.int .i64 0) := by rw [World.cell?_setCell_far _ _ _ _ (Ne.symm hne), World.cell?_setCell_far _ _ _ _ (Ne.symm hne), World.cell?_setCell_far _ _ _ _ (Ne.symm hne), World.cell?_setCell_far _ _ _ _ (Ne.symm hne), World.cell?_setCell_far _ _ _ _ (Ne.symm hne)]; exact k4
  have F0 : ∀ i, (((((w2.setCell ⟨B, 0, none⟩ (.int .i64 (back8 s))).setCell ⟨B, 1, none⟩ (.int .i64 (kr s))).setCell ⟨B, 2, none⟩ (.string (kl s))).setCell ⟨B, 3, none⟩ (.int .i64 (kn s))).setCell ⟨B, 4, none⟩ (.int .i64 (ki s))).frozen? ⟨w.heap.size, i, none⟩ = false := fun i => by simp [f0]
  go_wp2_with fail
  generalize ((((w2.setCell ⟨B, 0, none⟩ (.int .i64 (back8 s))).setCell ⟨B, 1, none⟩ (.int .i64 (kr s))).setCell ⟨B, 2, none⟩ (.string (kl s))).setCell ⟨B, 3, none⟩ (.int .i64 (kn s))).setCell ⟨B, 4, none⟩ (.int .i64 (ki s)) = w3 at *
  clear k0 k1 k2 k3 k4 f0 hT b0 b1 b2 b3 b4 hfB hb2
  have hs3 := hb3.size
  have hB3 : B < w3.heap.size := by omega
  have hw3 : w.heap.size < w3.heap.size := by omega
  refine (rstamp_any _ _ _ _ _ _ hkl).mono ?_
  rw [Hok.out]
  rintro e w4 ⟨rfl, hb4⟩
  have n0 := cell_on hb4 hB3 n0
  have n1 := cell_on hb4 hB3 n1
  have n2 := cell_on hb4 hB3 n2
  have n3 := cell_on hb4 hB3 n3
  have n4 := cell_on hb4 hB3 n4
  have K0 := cell_on hb4 hw3 K0
  have K1 := cell_on hb4 hw3 K1
  have K2 := cell_on hb4 hw3 K2
  have K3 := cell_on hb4 hw3 K3
  have K4 := cell_on hb4 hw3 K4
  have F0 : ∀ i, w4.frozen? ⟨w.heap.size, i, none⟩ = false := fun i => (hb4.frozen (p := ⟨w.heap.size, i, none⟩) hw3).trans (F0 i)
  have hs4 := hb4.size
  have hw4 : w.heap.size < w4.heap.size := by omega
  replace hb4 := below_step hb3 hb4
  have hB4 : B < w4.heap.size := by omega
  (have ht' := toList_eq Ht.out; (go_wp2_with fail); refine (rkey_any _ _ _ _ _ _ hkl Hok.out).mono ?_; rintro e w5 ⟨rfl, hb5⟩; have n0 := cell_on hb5 hB4 n0; have n1 := cell_on hb5 hB4 n1; have n2 := cell_on hb5 hB4 n2; have n3 := cell_on hb5 hB4 n3; have n4 := cell_on hb5 hB4 n4; have K0 := cell_on hb5 hw4 K0; have K1 := cell_on hb5 hw4 K1; have K2 := cell_on hb5 hw4 K2; have K3 := cell_on hb5 hw4 K3; have K4 := cell_on hb5 hw4 K4; have F0 : ∀ i, w5.frozen? ⟨w.heap.size, i, none⟩ = false := fun i => (hb5.frozen (p := ⟨w.heap.size, i, none⟩) hw4).trans (F0 i); replace hb5 := below_step hb4 hb5; (go_wp2; exact bodyPost_ret (v := .tuple #[vS (back8 s) (kr s) (kl s) (kn s) (ki s), .int .i64 0]) (by simp [results, Tryz.results23, go_sem, K0, K1, K2, K3, K4]) rfl ⟨rfl, by go_grown⟩))
end Go.Proofs.YtnldgcgngolkiaaGreatDoor
