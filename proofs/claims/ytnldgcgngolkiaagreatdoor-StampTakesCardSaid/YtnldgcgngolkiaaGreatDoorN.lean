/- stamp.OfKey: the walk. -/
import Derived.Test.YtnldgcgngolkiaaGreatDoorM
namespace Go.Proofs.YtnldgcgngolkiaaGreatDoor
open Go.RowKit
set_option linter.unusedVariables false
set_option linter.unusedSimpArgs false
attribute [local go_sem] givesUpon
/-- A new box that holds these cells. -/
def BoxAt (B0 : Nat) (t : TypeId) (cs : List Value) : Fact := fun v w => ∃ B, v = .pointer (some ⟨B, 0, none⟩) ∧ B0 ≤ B ∧ w.heap[B]? = some (.cells cs.toArray t (0, 0))
theorem BoxAt.lasts (B0 : Nat) (t : TypeId) (cs : List Value) : Lasts (BoxAt B0 t cs) := fun _ w w' hb ⟨B, hv, h0, hc⟩ => by
  have hB : B < w.heap.size := by
    rcases Nat.lt_or_ge B w.heap.size with h | h
    · exact h
    · rw [Array.getElem?_eq_none h] at hc; cases hc
  exact ⟨B, hv, h0, (hb.block B hB).trans hc⟩
theorem BoxAt.new (w : World) {B0 : Nat} (t : TypeId) (cs : List Value) (h : B0 ≤ w.heap.size) : BoxAt B0 t cs (.pointer (some ⟨w.heap.size, 0, none⟩)) (w.alloc (.cells cs.toArray t)) :=
  ⟨w.heap.size, rfl, h, heap_alloc_new w _⟩

theorem BoxAt.open {B0 : Nat} {t : TypeId} {cs : List Value} {v : Value} {w : World} (h : BoxAt B0 t cs v w) : ∃ B, v = .pointer (some ⟨B, 0, none⟩) ∧ B0 ≤ B ∧ B < w.heap.size ∧ (∀ i, w.cell? ⟨B, i, none⟩ = cs[i]?) ∧ ∀ i, w.frozen? ⟨B, i, none⟩ = false := by
  obtain ⟨B, hv, h0, hc⟩ := h
  refine ⟨B, hv, h0, ?_, fun i => ?_, fun i => ?_⟩
  · rcases Nat.lt_or_ge B w.heap.size with h | h
    · exact h
    · rw [Array.getElem?_eq_none h] at hc; cases hc
  · rw [cell_of_row w B i _ t (0, 0) hc]; simp
  · simp [World.frozen?, hc]

def kr (s : ByteArray) : Int := (s.data.toList.getD 8 0).toNat
def kl (s : ByteArray) : ByteArray := s.extract 9 (s.size - 10)
def kn (s : ByteArray) : Int := back8 (s.extract (s.size - 9) s.size)
def ki (s : ByteArray) : Int := (s.data.toList.getD (s.size - 1) 0).toNat
theorem byte_at {s : ByteArray} {k : Nat} (h : k < s.size) : IntKind.i64.wrap ((s[k]'h).toNat : Int) = ((s.data.toList.getD k 0).toNat : Int) := by
  have e : s.data.toList.getD k 0 = s[k]'h := by
    rw [List.getD_eq_getElem?_getD, List.getElem?_eq_getElem (by simpa using h)]
    rfl
  rw [e]
  have := (s[k]'h).toNat_lt
  exact IntWalk.i64_in _ (by omega)

theorem set2 {w : World} {B : Nat} {u0 u1 v0 v1 : Value} (e0 : w.cell? ⟨B, 0, none⟩ = some u0) (e1 : w.cell? ⟨B, 1, none⟩ = some u1) :
    ((w.setCell ⟨B, 0, none⟩ v0).setCell ⟨B, 1, none⟩ v1).cell? ⟨B, 0, none⟩ = some v0 ∧ ((w.setCell ⟨B, 0, none⟩ v0).setCell ⟨B, 1, none⟩ v1).cell? ⟨B, 1, none⟩ = some v1 := by
  refine ⟨?_, ?_⟩
  · rw [World.cell?_setCell_other _ _ _ _ (by simp), World.cell?_setCell_same' _ _ _ (by rw [e0]; rfl)]
  · exact World.cell?_setCell_same' _ _ _ (by rw [World.cell?_setCell_other _ _ _ _ (by simp), e1]; rfl)


set_option maxRecDepth 20000 in set_option maxHeartbeats 1000000 in
theorem ofKey_not (s : ByteArray) (w : World) (E : Env w) (hs : 19 ≤ s.size) (hs1 : s.size ≤ 1000000) (h : ¬ (okS (back8 s) (kr s) (kl s) (kn s) (ki s) = true ∧ S (kS (back8 s) (kr s) (kl s) (kn s) (ki s)) = s)) :
    Calls Tryz.prog 22 #[.string s] w fun e w' => e = .returned (.tuple #[zS, .int .i64 4]) ∧ Below w.heap.size w w' := by
  have h8 : (8 : Int) < s.size := by omega
  have h9 : (9 : Int) ≤ (s.size : Int) - 10 := by omega
  have wr : IntKind.i64.wrap ((s.size : Int) - 10) = (s.size : Int) - 10 := IntWalk.i64_in _ (by omega)
  have wr9 : IntKind.i64.wrap ((s.size : Int) - 9) = (s.size : Int) - 9 := IntWalk.i64_in _ (by omega)
  have wr1 : IntKind.i64.wrap ((s.size : Int) - 1) = (s.size : Int) - 1 := IntWalk.i64_in _ (by omega)
  have hx : ((s.size : Int) - 10) ≤ s.size := by omega
  have hx9 : ((s.size : Int) - 9) ≤ s.size := by omega
  have hx91 : (9 : Int) ≤ s.size := by omega
  have hx1 : ((s.size : Int) - 1) < s.size := by omega
  have hx11 : (1 : Int) ≤ s.size := by omega
  have e8 : ∀ h, IntKind.i64.wrap ((s[8]'h).toNat : Int) = kr s := fun h => byte_at h
  have eL : s.extract 9 ((s.size : Int) - 10).toNat = kl s := by rw [kl]; congr 1; omega
  have e9 : ((s.size : Int) - 9).toNat = s.size - 9 := by omega
  have e1 : ((s.size : Int) - 1).toNat = s.size - 1 := by omega
  have ei : ∀ h, IntKind.i64.wrap ((s[s.size - 1]'h).toNat : Int) = ki s := fun h => byte_at h
  have hkl : (kl s).size ≤ 1000000 := by simp [kl]; omega
  have hkn8 : 8 ≤ (s.extract (s.size - 9) s.size).size := by simp; omega
  have hkn1 : (s.extract (s.size - 9) s.size).size ≤ 1000000 := by simp; omega
  have HN := Lib.hid (fun w' : World => (show Calls Tryz.prog 116 #[.string (s.extract (s.size - 9) s.size)] w' (fun e w'' => e = .returned (.int .i64 (kn s)) ∧ Below w'.heap.size w' w'') from back_any _ w' hkn8 hkn1))
  have H := Lib.hid h
  clear h
  go_enter Tryz.func22, Tryz.ntmps22
  go_wp2_with fail
  refine wp_region_plan 9 [(none, []), (none, []), (none, []), (none, []), (none, []), (none, []), (none, []), (none, []), (some (BoxAt (w.heap.size + 1) 24 [.int .i64 0, .string ⟨#[]⟩]), [])] [8] (by kernel_rfl) (by kernel_rfl) ?_
  simp only [List.take_succ_cons, List.take_zero]
  refine plan_run (v := ?_) rfl (fun _ => rfl) ?_ ?_
  rotate_left
  · intro ρ w' hT
    obtain ⟨hcT, hfT⟩ := bcell hT
    go_simp
    try with_reducible rfl
  simp only [Act.put, List.setIfInBounds_toArray, List.set_cons_zero, List.set_cons_succ]
  refine plan_run (v := ?_) rfl (fun _ => rfl) ?_ ?_
  rotate_left
  · intro ρ w' hT
    obtain ⟨hcT, hfT⟩ := bcell hT
    go_simp
    try with_reducible rfl
  simp only [Act.put, List.setIfInBounds_toArray, List.set_cons_zero, List.set_cons_succ]
  refine plan_run (v := ?_) rfl (fun _ => rfl) ?_ ?_
  rotate_left
  · intro ρ w' hT
    obtain ⟨hcT, hfT⟩ := bcell hT
    go_simp
    try with_reducible rfl
  simp only [Act.put, List.setIfInBounds_toArray, List.set_cons_zero, List.set_cons_succ]
  refine plan_run (v := ?_) rfl (fun _ => rfl) ?_ ?_
  rotate_left
  · intro ρ w' hT
    obtain ⟨hcT, hfT⟩ := bcell hT
    go_simp
    try with_reducible rfl
  simp only [Act.put, List.setIfInBounds_toArray, List.set_cons_zero, List.set_cons_succ]
  refine plan_run (v := ?_) rfl (fun _ => rfl) ?_ ?_
  rotate_left
  · intro ρ w' hT
    obtain ⟨hcT, hfT⟩ := bcell hT
    go_simp
    try with_reducible rfl
  simp only [Act.put, List.setIfInBounds_toArray, List.set_cons_zero, List.set_cons_succ]
  refine plan_run (v := ?_) rfl (fun _ => rfl) ?_ ?_
  rotate_left
  · intro ρ w' hT
    obtain ⟨hcT, hfT⟩ := bcell hT
    go_simp
    try with_reducible rfl
  simp only [Act.put, List.setIfInBounds_toArray, List.set_cons_zero, List.set_cons_succ]
  refine plan_run (v := ?_) rfl (fun _ => rfl) ?_ ?_
  rotate_left
  · intro ρ w' hT
    obtain ⟨hcT, hfT⟩ := bcell hT
    go_simp
    try with_reducible rfl
  simp only [Act.put, List.setIfInBounds_toArray, List.set_cons_zero, List.set_cons_succ]
  refine plan_run (v := ?_) rfl (fun _ => rfl) ?_ ?_
  rotate_left
  · intro ρ w' hT
    obtain ⟨hcT, hfT⟩ := bcell hT
    go_simp
    try with_reducible rfl
  simp only [Act.put, List.setIfInBounds_toArray, List.set_cons_zero, List.set_cons_succ]
  refine plan_fact rfl (BoxAt.lasts _ _ _) (fun _ => rfl) ?_ ?_
  · intro ρ w' hT hF
    have hz := hT.size
    go_simp
    exact ⟨BoxAt.new _ _ _ (by simp at hz; omega), below_alloc _ _⟩
  simp only [Act.put, List.setIfInBounds_toArray, List.set_cons_zero, List.set_cons_succ]
  intro ρ w1 hT hF
  obtain ⟨f8, _⟩ := hF
  obtain ⟨B, eB, hB0, hB1, hcB, hfB⟩ := BoxAt.open f8
  clear f8
  simp only [List.drop_succ_cons, List.drop_zero, Nat.zero_add, Nat.reduceAdd, eB]
  have b0 : w1.cell? ⟨B, 0, none⟩ = some (.int .i64 0) := hcB 0
  have b1 : w1.cell? ⟨B, 1, none⟩ = some (.string ⟨#[]⟩) := hcB 1
  clear hcB
  obtain ⟨n0, n1⟩ := set2 (v0 := .int .i64 (kr s)) (v1 := .string (kl s)) b0 b1
  have hne : w.heap.size ≠ B := by omega
  have k0 : w1.cell? ⟨w.heap.size, 0, none⟩ = some (.int .i64 0) := box_cell hT (by simp) 0 rfl
  have k1 : w1.cell? ⟨w.heap.size, 1, none⟩ = some (.int .i64 0) := box_cell hT (by simp) 1 rfl
  have k2 : w1.cell? ⟨w.heap.size, 2, none⟩ = some (.string ⟨#[]⟩) := box_cell hT (by simp) 2 rfl
  have k3 : w1.cell? ⟨w.heap.size, 3, none⟩ = some (.int .i64 0) := box_cell hT (by simp) 3 rfl
  have k4 : w1.cell? ⟨w.heap.size, 4, none⟩ = some (.int .i64 0) := box_cell hT (by simp) 4 rfl
  have f0 : ∀ i, w1.frozen? ⟨w.heap.size, i, none⟩ = false := fun i => by rw [hT.frozen (by simp)]; simp
  have hb1 : Below w.heap.size w w1 := below_step (below_alloc _ _) hT
  have hs1' := hb1.size
  have hw1 : w.heap.size < w1.heap.size := by omega
  have hb2 : Below w.heap.size w ((w1.setCell ⟨B, 0, none⟩ (.int .i64 (kr s))).setCell ⟨B, 1, none⟩ (.string (kl s))) := by go_grown
  have hz2 : ((w1.setCell ⟨B, 0, none⟩ (.int .i64 (kr s))).setCell ⟨B, 1, none⟩ (.string (kl s))).heap.size = w1.heap.size := by simp
  have K0 : ((w1.setCell ⟨B, 0, none⟩ (.int .i64 (kr s))).setCell ⟨B, 1, none⟩ (.string (kl s))).cell? ⟨w.heap.size, 0, none⟩ = some (.int .i64 0) := by rw [World.cell?_setCell_far _ _ _ _ (Ne.symm hne), World.cell?_setCell_far _ _ _ _ (Ne.symm hne)]; exact k0
  have K1 : ((w1.setCell ⟨B, 0, none⟩ (.int .i64 (kr s))).setCell ⟨B, 1, none⟩ (.string (kl s))).cell? ⟨w.heap.size, 1, none⟩ = some (.int .i64 0) := by rw [World.cell?_setCell_far _ _ _ _ (Ne.symm hne), World.cell?_setCell_far _ _ _ _ (Ne.symm hne)]; exact k1
  have K2 : ((w1.setCell ⟨B, 0, none⟩ (.int .i64 (kr s))).setCell ⟨B, 1, none⟩ (.string (kl s))).cell? ⟨w.heap.size, 2, none⟩ = some (.string ⟨#[]⟩) := by rw [World.cell?_setCell_far _ _ _ _ (Ne.symm hne), World.cell?_setCell_far _ _ _ _ (Ne.symm hne)]; exact k2
  have K3 : ((w1.setCell ⟨B, 0, none⟩ (.int .i64 (kr s))).setCell ⟨B, 1, none⟩ (.string (kl s))).cell? ⟨w.heap.size, 3, none⟩ = some (.int .i64 0) := by rw [World.cell?_setCell_far _ _ _ _ (Ne.symm hne), World.cell?_setCell_far _ _ _ _ (Ne.symm hne)]; exact k3
  have K4 : ((w1.setCell ⟨B, 0, none⟩ (.int .i64 (kr s))).setCell ⟨B, 1, none⟩ (.string (kl s))).cell? ⟨w.heap.size, 4, none⟩ = some (.int .i64 0) := by rw [World.cell?_setCell_far _ _ _ _ (Ne.symm hne), World.cell?_setCell_far _ _ _ _ (Ne.symm hne)]; exact k4
  have F0 : ∀ i, ((w1.setCell ⟨B, 0, none⟩ (.int .i64 (kr s))).setCell ⟨B, 1, none⟩ (.string (kl s))).frozen? ⟨w.heap.size, i, none⟩ = false := fun i => by simp [f0]
  go_wp2_with fail
  generalize (w1.setCell ⟨B, 0, none⟩ (.int .i64 (kr s))).setCell ⟨B, 1, none⟩ (.string (kl s)) = w2 at *
  have hB2 : B < w2.heap.size := by omega
  have hw2 : w.heap.size < w2.heap.size := by omega
  clear k0 k1 k2 k3 k4 f0 hT b0 b1 hfB hb1
  refine wp_region_plan 19 [(none, []), (none, []), (none, []), (none, []), (none, []), (none, []), (none, []), (none, []), (none, []), (none, []), (none, []), (none, []), (none, []), (none, []), (none, []), (none, []), (none, []), (none, []), (none, [])] [] (by kernel_rfl) (by kernel_rfl) ?_
  simp only [List.take_succ_cons, List.take_zero]
  refine plan_run (v := ?_) rfl (fun _ => rfl) ?_ ?_
  rotate_left
  · intro ρ w' hT
    obtain ⟨hcT, hfT⟩ := bcell hT
    go_simp
    try with_reducible rfl
  simp only [Act.put, List.setIfInBounds_toArray, List.set_cons_zero, List.set_cons_succ]
  refine plan_const (v := .int .i64 (back8 s)) rfl (fun _ => rfl) ?_ ?_
  · intro ρ w' hT hF
    go_simp
    refine (back_any s w' (by omega) hs1).mono ?_
    rintro e w'' ⟨rfl, hb⟩
    exact ⟨_, rfl, rfl, hb⟩
  simp only [Act.put, List.setIfInBounds_toArray, List.set_cons_zero, List.set_cons_succ]
  refine plan_run (v := ?_) rfl (fun _ => rfl) ?_ ?_
  rotate_left
  · intro ρ w' hT
    obtain ⟨hcT, hfT⟩ := bcell hT
    go_simp
    try with_reducible rfl
  simp only [Act.put, List.setIfInBounds_toArray, List.set_cons_zero, List.set_cons_succ]
  refine plan_run (v := ?_) rfl (fun _ => rfl) ?_ ?_
  rotate_left
  · intro ρ w' hT
    obtain ⟨hcT, hfT⟩ := bcell hT
    go_simp
    try with_reducible rfl
  simp only [Act.put, List.setIfInBounds_toArray, List.set_cons_zero, List.set_cons_succ]
  refine plan_run (v := ?_) rfl (fun _ => rfl) ?_ ?_
  rotate_left
  · intro ρ w' hT
    obtain ⟨hcT, hfT⟩ := bcell hT
    go_simp
    try with_reducible rfl
  simp only [Act.put, List.setIfInBounds_toArray, List.set_cons_zero, List.set_cons_succ]
  refine plan_run (v := ?_) rfl (fun _ => rfl) ?_ ?_
  rotate_left
  · intro ρ w' hT
    obtain ⟨hcT, hfT⟩ := bcell hT
    go_simp
    try with_reducible rfl
  simp only [Act.put, List.setIfInBounds_toArray, List.set_cons_zero, List.set_cons_succ]
  refine plan_run (v := ?_) rfl (fun _ => rfl) ?_ ?_
  rotate_left
  · intro ρ w' hT
    obtain ⟨hcT, hfT⟩ := bcell hT
    go_simp
    try with_reducible rfl
  simp only [Act.put, List.setIfInBounds_toArray, List.set_cons_zero, List.set_cons_succ]
  refine plan_const (v := .int .i64 (kn s)) rfl (fun _ => rfl) ?_ ?_
  · intro ρ w' hT hF
    go_simp
    refine (HN.out w').mono ?_
    rintro e w'' ⟨rfl, hb⟩
    exact ⟨_, rfl, rfl, hb⟩
  simp only [Act.put, List.setIfInBounds_toArray, List.set_cons_zero, List.set_cons_succ]
  refine plan_run (v := ?_) rfl (fun _ => rfl) ?_ ?_
  rotate_left
  · intro ρ w' hT
    obtain ⟨hcT, hfT⟩ := bcell hT
    go_simp
    try with_reducible rfl
  simp only [Act.put, List.setIfInBounds_toArray, List.set_cons_zero, List.set_cons_succ]
  refine plan_run (v := ?_) rfl (fun _ => rfl) ?_ ?_
  rotate_left
  · intro ρ w' hT
    obtain ⟨hcT, hfT⟩ := bcell hT
    go_simp
    try with_reducible rfl
  simp only [Act.put, List.setIfInBounds_toArray, List.set_cons_zero, List.set_cons_succ]
  refine plan_run (v := ?_) rfl (fun _ => rfl) ?_ ?_
  rotate_left
  · intro ρ w' hT
    obtain ⟨hcT, hfT⟩ := bcell hT
    go_simp
    try with_reducible rfl
  simp only [Act.put, List.setIfInBounds_toArray, List.set_cons_zero, List.set_cons_succ]
  refine plan_run (v := ?_) rfl (fun _ => rfl) ?_ ?_
  rotate_left
  · intro ρ w' hT
    obtain ⟨hcT, hfT⟩ := bcell hT
    go_simp
    try with_reducible rfl
  simp only [Act.put, List.setIfInBounds_toArray, List.set_cons_zero, List.set_cons_succ]
  refine plan_run (v := ?_) rfl (fun _ => rfl) ?_ ?_
  rotate_left
  · intro ρ w' hT
    obtain ⟨hcT, hfT⟩ := bcell hT
    go_simp
    try with_reducible rfl
  simp only [Act.put, List.setIfInBounds_toArray, List.set_cons_zero, List.set_cons_succ]
  refine plan_run (v := ?_) rfl (fun _ => rfl) ?_ ?_
  rotate_left
  · intro ρ w' hT
    obtain ⟨hcT, hfT⟩ := bcell hT
    go_simp
    try with_reducible rfl
  simp only [Act.put, List.setIfInBounds_toArray, List.set_cons_zero, List.set_cons_succ]
  refine plan_run (v := ?_) rfl (fun _ => rfl) ?_ ?_
  rotate_left
  · intro ρ w' hT
    obtain ⟨hcT, hfT⟩ := bcell hT
    go_simp
    try with_reducible rfl
  simp only [Act.put, List.setIfInBounds_toArray, List.set_cons_zero, List.set_cons_succ]
  refine plan_run (v := ?_) rfl (fun _ => rfl) ?_ ?_
  rotate_left
  · intro ρ w' hT
    obtain ⟨hcT, hfT⟩ := bcell hT
    go_simp
    try with_reducible rfl
  simp only [Act.put, List.setIfInBounds_toArray, List.set_cons_zero, List.set_cons_succ]
  refine plan_const (v := .tuple #[zS, .int .i64 4]) rfl (fun _ => rfl) ?_ ?_
  · intro ρ w' hT hF
    go_simp
    refine (sameK_not _ _ _ _ _ _ _ ((E.below hb2).below hT) hkl H.out).mono ?_
    rintro e w'' ⟨rfl, hb⟩
    exact ⟨_, rfl, rfl, hb⟩
  simp only [Act.put, List.setIfInBounds_toArray, List.set_cons_zero, List.set_cons_succ]
  refine plan_run (v := ?_) rfl (fun _ => rfl) ?_ ?_
  rotate_left
  · intro ρ w' hT
    obtain ⟨hcT, hfT⟩ := bcell hT
    go_simp
    try with_reducible rfl
  simp only [Act.put, List.setIfInBounds_toArray, List.set_cons_zero, List.set_cons_succ]
  refine plan_run (v := ?_) rfl (fun _ => rfl) ?_ ?_
  rotate_left
  · intro ρ w' hT
    obtain ⟨hcT, hfT⟩ := bcell hT
    go_simp
    try with_reducible rfl
  simp only [Act.put, List.setIfInBounds_toArray, List.set_cons_zero, List.set_cons_succ]
  intro ρ w3 hT hF
  simp only [List.drop_succ_cons, List.drop_zero]
  have q0 := cell_on hT hw2 K0
  have q1 := cell_on hT hw2 K1
  have q2 := cell_on hT hw2 K2
  have q3 := cell_on hT hw2 K3
  have q4 := cell_on hT hw2 K4
  have qf : ∀ i, w3.frozen? ⟨w.heap.size, i, none⟩ = false := fun i => (hT.frozen (p := ⟨w.heap.size, i, none⟩) hw2).trans (F0 i)
  have hb3 := below_step hb2 hT
  clear hT K0 K1 K2 K3 K4
  go_wp2
  exact bodyPost_ret (v := .tuple #[zS, .int .i64 4]) (by simp [results, Tryz.results22, go_sem, q0, q1, q2, q3, q4]) rfl ⟨rfl, by go_grown⟩
set_option maxRecDepth 20000 in set_option maxHeartbeats 1000000 in
theorem ofKey_yes (s : ByteArray) (w : World) (E : Env w) (hs : 19 ≤ s.size) (hs1 : s.size ≤ 1000000) (h : okS (back8 s) (kr s) (kl s) (kn s) (ki s) = true ∧ S (kS (back8 s) (kr s) (kl s) (kn s) (ki s)) = s) :
    Calls Tryz.prog 22 #[.string s] w fun e w' => e = .returned (.tuple #[vS (back8 s) (kr s) (kl s) (kn s) (ki s), .int .i64 0]) ∧ Below w.heap.size w w' := by
  have h8 : (8 : Int) < s.size := by omega
  have h9 : (9 : Int) ≤ (s.size : Int) - 10 := by omega
  have wr : IntKind.i64.wrap ((s.size : Int) - 10) = (s.size : Int) - 10 := IntWalk.i64_in _ (by omega)
  have wr9 : IntKind.i64.wrap ((s.size : Int) - 9) = (s.size : Int) - 9 := IntWalk.i64_in _ (by omega)
  have wr1 : IntKind.i64.wrap ((s.size : Int) - 1) = (s.size : Int) - 1 := IntWalk.i64_in _ (by omega)
  have hx : ((s.size : Int) - 10) ≤ s.size := by omega
  have hx9 : ((s.size : Int) - 9) ≤ s.size := by omega
  have hx91 : (9 : Int) ≤ s.size := by omega
  have hx1 : ((s.size : Int) - 1) < s.size := by omega
  have hx11 : (1 : Int) ≤ s.size := by omega
  have e8 : ∀ h, IntKind.i64.wrap ((s[8]'h).toNat : Int) = kr s := fun h => byte_at h
  have eL : s.extract 9 ((s.size : Int) - 10).toNat = kl s := by rw [kl]; congr 1; omega
  have e9 : ((s.size : Int) - 9).toNat = s.size - 9 := by omega
  have e1 : ((s.size : Int) - 1).toNat = s.size - 1 := by omega
  have ei : ∀ h, IntKind.i64.wrap ((s[s.size - 1]'h).toNat : Int) = ki s := fun h => byte_at h
  have hkl : (kl s).size ≤ 1000000 := by simp [kl]; omega
  have hkn8 : 8 ≤ (s.extract (s.size - 9) s.size).size := by simp; omega
  have hkn1 : (s.extract (s.size - 9) s.size).size ≤ 1000000 := by simp; omega
  have HN := Lib.hid (fun w' : World => (show Calls Tryz.prog 116 #[.string (s.extract (s.size - 9) s.size)] w' (fun e w'' => e = .returned (.int .i64 (kn s)) ∧ Below w'.heap.size w' w'') from back_any _ w' hkn8 hkn1))
  have H := Lib.hid h
  clear h
  go_enter Tryz.func22, Tryz.ntmps22
  go_wp2_with fail
  refine wp_region_plan 9 [(none, []), (none, []), (none, []), (none, []), (none, []), (none, []), (none, []), (none, []), (some (BoxAt (w.heap.size + 1) 24 [.int .i64 0, .string ⟨#[]⟩]), [])] [8] (by kernel_rfl) (by kernel_rfl) ?_
  simp only [List.take_succ_cons, List.take_zero]
  refine plan_run (v := ?_) rfl (fun _ => rfl) ?_ ?_
  rotate_left
  · intro ρ w' hT
    obtain ⟨hcT, hfT⟩ := bcell hT
    go_simp
    try with_reducible rfl
  simp only [Act.put, List.setIfInBounds_toArray, List.set_cons_zero, List.set_cons_succ]
  refine plan_run (v := ?_) rfl (fun _ => rfl) ?_ ?_
  rotate_left
  · intro ρ w' hT
    obtain ⟨hcT, hfT⟩ := bcell hT
    go_simp
    try with_reducible rfl
  simp only [Act.put, List.setIfInBounds_toArray, List.set_cons_zero, List.set_cons_succ]
  refine plan_run (v := ?_) rfl (fun _ => rfl) ?_ ?_
  rotate_left
  · intro ρ w' hT
    obtain ⟨hcT, hfT⟩ := bcell hT
    go_simp
    try with_reducible rfl
  simp only [Act.put, List.setIfInBounds_toArray, List.set_cons_zero, List.set_cons_succ]
  refine plan_run (v := ?_) rfl (fun _ => rfl) ?_ ?_
  rotate_left
  · intro ρ w' hT
    obtain ⟨hcT, hfT⟩ := bcell hT
    go_simp
    try with_reducible rfl
  simp only [Act.put, List.setIfInBounds_toArray, List.set_cons_zero, List.set_cons_succ]
  refine plan_run (v := ?_) rfl (fun _ => rfl) ?_ ?_
  rotate_left
  · intro ρ w' hT
    obtain ⟨hcT, hfT⟩ := bcell hT
    go_simp
    try with_reducible rfl
  simp only [Act.put, List.setIfInBounds_toArray, List.set_cons_zero, List.set_cons_succ]
  refine plan_run (v := ?_) rfl (fun _ => rfl) ?_ ?_
  rotate_left
  · intro ρ w' hT
    obtain ⟨hcT, hfT⟩ := bcell hT
    go_simp
    try with_reducible rfl
  simp only [Act.put, List.setIfInBounds_toArray, List.set_cons_zero, List.set_cons_succ]
  refine plan_run (v := ?_) rfl (fun _ => rfl) ?_ ?_
  rotate_left
  · intro ρ w' hT
    obtain ⟨hcT, hfT⟩ := bcell hT
    go_simp
    try with_reducible rfl
  simp only [Act.put, List.setIfInBounds_toArray, List.set_cons_zero, List.set_cons_succ]
  refine plan_run (v := ?_) rfl (fun _ => rfl) ?_ ?_
  rotate_left
  · intro ρ w' hT
    obtain ⟨hcT, hfT⟩ := bcell hT
    go_simp
    try with_reducible rfl
  simp only [Act.put, List.setIfInBounds_toArray, List.set_cons_zero, List.set_cons_succ]
  refine plan_fact rfl (BoxAt.lasts _ _ _) (fun _ => rfl) ?_ ?_
  · intro ρ w' hT hF
    have hz := hT.size
    go_simp
    exact ⟨BoxAt.new _ _ _ (by simp at hz; omega), below_alloc _ _⟩
  simp only [Act.put, List.setIfInBounds_toArray, List.set_cons_zero, List.set_cons_succ]
  intro ρ w1 hT hF
  obtain ⟨f8, _⟩ := hF
  obtain ⟨B, eB, hB0, hB1, hcB, hfB⟩ := BoxAt.open f8
  clear f8
  simp only [List.drop_succ_cons, List.drop_zero, Nat.zero_add, Nat.reduceAdd, eB]
  have b0 : w1.cell? ⟨B, 0, none⟩ = some (.int .i64 0) := hcB 0
  have b1 : w1.cell? ⟨B, 1, none⟩ = some (.string ⟨#[]⟩) := hcB 1
  clear hcB
  obtain ⟨n0, n1⟩ := set2 (v0 := .int .i64 (kr s)) (v1 := .string (kl s)) b0 b1
  have hne : w.heap.size ≠ B := by omega
  have k0 : w1.cell? ⟨w.heap.size, 0, none⟩ = some (.int .i64 0) := box_cell hT (by simp) 0 rfl
  have k1 : w1.cell? ⟨w.heap.size, 1, none⟩ = some (.int .i64 0) := box_cell hT (by simp) 1 rfl
  have k2 : w1.cell? ⟨w.heap.size, 2, none⟩ = some (.string ⟨#[]⟩) := box_cell hT (by simp) 2 rfl
  have k3 : w1.cell? ⟨w.heap.size, 3, none⟩ = some (.int .i64 0) := box_cell hT (by simp) 3 rfl
  have k4 : w1.cell? ⟨w.heap.size, 4, none⟩ = some (.int .i64 0) := box_cell hT (by simp) 4 rfl
  have f0 : ∀ i, w1.frozen? ⟨w.heap.size, i, none⟩ = false := fun i => by rw [hT.frozen (by simp)]; simp
  have hb1 : Below w.heap.size w w1 := below_step (below_alloc _ _) hT
  have hs1' := hb1.size
  have hw1 : w.heap.size < w1.heap.size := by omega
  have hb2 : Below w.heap.size w ((w1.setCell ⟨B, 0, none⟩ (.int .i64 (kr s))).setCell ⟨B, 1, none⟩ (.string (kl s))) := by go_grown
  have hz2 : ((w1.setCell ⟨B, 0, none⟩ (.int .i64 (kr s))).setCell ⟨B, 1, none⟩ (.string (kl s))).heap.size = w1.heap.size := by simp
  have K0 : ((w1.setCell ⟨B, 0, none⟩ (.int .i64 (kr s))).setCell ⟨B, 1, none⟩ (.string (kl s))).cell? ⟨w.heap.size, 0, none⟩ = some (.int .i64 0) := by rw [World.cell?_setCell_far _ _ _ _ (Ne.symm hne), World.cell?_setCell_far _ _ _ _ (Ne.symm hne)]; exact k0
  have K1 : ((w1.setCell ⟨B, 0, none⟩ (.int .i64 (kr s))).setCell ⟨B, 1, none⟩ (.string (kl s))).cell? ⟨w.heap.size, 1, none⟩ = some (.int .i64 0) := by rw [World.cell?_setCell_far _ _ _ _ (Ne.symm hne), World.cell?_setCell_far _ _ _ _ (Ne.symm hne)]; exact k1
  have K2 : ((w1.setCell ⟨B, 0, none⟩ (.int .i64 (kr s))).setCell ⟨B, 1, none⟩ (.string (kl s))).cell? ⟨w.heap.size, 2, none⟩ = some (.string ⟨#[]⟩) := by rw [World.cell?_setCell_far _ _ _ _ (Ne.symm hne), World.cell?_setCell_far _ _ _ _ (Ne.symm hne)]; exact k2
  have K3 : ((w1.setCell ⟨B, 0, none⟩ (.int .i64 (kr s))).setCell ⟨B, 1, none⟩ (.string (kl s))).cell? ⟨w.heap.size, 3, none⟩ = some (.int .i64 0) := by rw [World.cell?_setCell_far _ _ _ _ (Ne.symm hne), World.cell?_setCell_far _ _ _ _ (Ne.symm hne)]; exact k3
  have K4 : ((w1.setCell ⟨B, 0, none⟩ (.int .i64 (kr s))).setCell ⟨B, 1, none⟩ (.string (kl s))).cell? ⟨w.heap.size, 4, none⟩ = some (.int .i64 0) := by rw [World.cell?_setCell_far _ _ _ _ (Ne.symm hne), World.cell?_setCell_far _ _ _ _ (Ne.symm hne)]; exact k4
  have F0 : ∀ i, ((w1.setCell ⟨B, 0, none⟩ (.int .i64 (kr s))).setCell ⟨B, 1, none⟩ (.string (kl s))).frozen? ⟨w.heap.size, i, none⟩ = false := fun i => by simp [f0]
  go_wp2_with fail
  generalize (w1.setCell ⟨B, 0, none⟩ (.int .i64 (kr s))).setCell ⟨B, 1, none⟩ (.string (kl s)) = w2 at *
  have hB2 : B < w2.heap.size := by omega
  have hw2 : w.heap.size < w2.heap.size := by omega
  clear k0 k1 k2 k3 k4 f0 hT b0 b1 hfB hb1
  refine wp_region_plan 19 [(none, []), (none, []), (none, []), (none, []), (none, []), (none, []), (none, []), (none, []), (none, []), (none, []), (none, []), (none, []), (none, []), (none, []), (none, []), (none, []), (none, []), (none, []), (none, [])] [] (by kernel_rfl) (by kernel_rfl) ?_
  simp only [List.take_succ_cons, List.take_zero]
  refine plan_run (v := ?_) rfl (fun _ => rfl) ?_ ?_
  rotate_left
  · intro ρ w' hT
    obtain ⟨hcT, hfT⟩ := bcell hT
    go_simp
    try with_reducible rfl
  simp only [Act.put, List.setIfInBounds_toArray, List.set_cons_zero, List.set_cons_succ]
  refine plan_const (v := .int .i64 (back8 s)) rfl (fun _ => rfl) ?_ ?_
  · intro ρ w' hT hF
    go_simp
    refine (back_any s w' (by omega) hs1).mono ?_
    rintro e w'' ⟨rfl, hb⟩
    exact ⟨_, rfl, rfl, hb⟩
  simp only [Act.put, List.setIfInBounds_toArray, List.set_cons_zero, List.set_cons_succ]
  refine plan_run (v := ?_) rfl (fun _ => rfl) ?_ ?_
  rotate_left
  · intro ρ w' hT
    obtain ⟨hcT, hfT⟩ := bcell hT
    go_simp
    try with_reducible rfl
  simp only [Act.put, List.setIfInBounds_toArray, List.set_cons_zero, List.set_cons_succ]
  refine plan_run (v := ?_) rfl (fun _ => rfl) ?_ ?_
  rotate_left
  · intro ρ w' hT
    obtain ⟨hcT, hfT⟩ := bcell hT
    go_simp
    try with_reducible rfl
  simp only [Act.put, List.setIfInBounds_toArray, List.set_cons_zero, List.set_cons_succ]
  refine plan_run (v := ?_) rfl (fun _ => rfl) ?_ ?_
  rotate_left
  · intro ρ w' hT
    obtain ⟨hcT, hfT⟩ := bcell hT
    go_simp
    try with_reducible rfl
  simp only [Act.put, List.setIfInBounds_toArray, List.set_cons_zero, List.set_cons_succ]
  refine plan_run (v := ?_) rfl (fun _ => rfl) ?_ ?_
  rotate_left
  · intro ρ w' hT
    obtain ⟨hcT, hfT⟩ := bcell hT
    go_simp
    try with_reducible rfl
  simp only [Act.put, List.setIfInBounds_toArray, List.set_cons_zero, List.set_cons_succ]
  refine plan_run (v := ?_) rfl (fun _ => rfl) ?_ ?_
  rotate_left
  · intro ρ w' hT
    obtain ⟨hcT, hfT⟩ := bcell hT
    go_simp
    try with_reducible rfl
  simp only [Act.put, List.setIfInBounds_toArray, List.set_cons_zero, List.set_cons_succ]
  refine plan_const (v := .int .i64 (kn s)) rfl (fun _ => rfl) ?_ ?_
  · intro ρ w' hT hF
    go_simp
    refine (HN.out w').mono ?_
    rintro e w'' ⟨rfl, hb⟩
    exact ⟨_, rfl, rfl, hb⟩
  simp only [Act.put, List.setIfInBounds_toArray, List.set_cons_zero, List.set_cons_succ]
  refine plan_run (v := ?_) rfl (fun _ => rfl) ?_ ?_
  rotate_left
  · intro ρ w' hT
    obtain ⟨hcT, hfT⟩ := bcell hT
    go_simp
    try with_reducible rfl
  simp only [Act.put, List.setIfInBounds_toArray, List.set_cons_zero, List.set_cons_succ]
  refine plan_run (v := ?_) rfl (fun _ => rfl) ?_ ?_
  rotate_left
  · intro ρ w' hT
    obtain ⟨hcT, hfT⟩ := bcell hT
    go_simp
    try with_reducible rfl
  simp only [Act.put, List.setIfInBounds_toArray, List.set_cons_zero, List.set_cons_succ]
  refine plan_run (v := ?_) rfl (fun _ => rfl) ?_ ?_
  rotate_left
  · intro ρ w' hT
    obtain ⟨hcT, hfT⟩ := bcell hT
    go_simp
    try with_reducible rfl
  simp only [Act.put, List.setIfInBounds_toArray, List.set_cons_zero, List.set_cons_succ]
  refine plan_run (v := ?_) rfl (fun _ => rfl) ?_ ?_
  rotate_left
  · intro ρ w' hT
    obtain ⟨hcT, hfT⟩ := bcell hT
    go_simp
    try with_reducible rfl
  simp only [Act.put, List.setIfInBounds_toArray, List.set_cons_zero, List.set_cons_succ]
  refine plan_run (v := ?_) rfl (fun _ => rfl) ?_ ?_
  rotate_left
  · intro ρ w' hT
    obtain ⟨hcT, hfT⟩ := bcell hT
    go_simp
    try with_reducible rfl
  simp only [Act.put, List.setIfInBounds_toArray, List.set_cons_zero, List.set_cons_succ]
  refine plan_run (v := ?_) rfl (fun _ => rfl) ?_ ?_
  rotate_left
  · intro ρ w' hT
    obtain ⟨hcT, hfT⟩ := bcell hT
    go_simp
    try with_reducible rfl
  simp only [Act.put, List.setIfInBounds_toArray, List.set_cons_zero, List.set_cons_succ]
  refine plan_run (v := ?_) rfl (fun _ => rfl) ?_ ?_
  rotate_left
  · intro ρ w' hT
    obtain ⟨hcT, hfT⟩ := bcell hT
    go_simp
    try with_reducible rfl
  simp only [Act.put, List.setIfInBounds_toArray, List.set_cons_zero, List.set_cons_succ]
  refine plan_run (v := ?_) rfl (fun _ => rfl) ?_ ?_
  rotate_left
  · intro ρ w' hT
    obtain ⟨hcT, hfT⟩ := bcell hT
    go_simp
    try with_reducible rfl
  simp only [Act.put, List.setIfInBounds_toArray, List.set_cons_zero, List.set_cons_succ]
  refine plan_const (v := .tuple #[vS (back8 s) (kr s) (kl s) (kn s) (ki s), .int .i64 0]) rfl (fun _ => rfl) ?_ ?_
  · intro ρ w' hT hF
    go_simp
    refine (sameK_yes _ _ _ _ _ _ _ ((E.below hb2).below hT) hkl H.out.1 H.out.2).mono ?_
    rintro e w'' ⟨rfl, hb⟩
    exact ⟨_, rfl, rfl, hb⟩
  simp only [Act.put, List.setIfInBounds_toArray, List.set_cons_zero, List.set_cons_succ]
  refine plan_run (v := ?_) rfl (fun _ => rfl) ?_ ?_
  rotate_left
  · intro ρ w' hT
    obtain ⟨hcT, hfT⟩ := bcell hT
    go_simp
    try with_reducible rfl
  simp only [Act.put, List.setIfInBounds_toArray, List.set_cons_zero, List.set_cons_succ]
  refine plan_run (v := ?_) rfl (fun _ => rfl) ?_ ?_
  rotate_left
  · intro ρ w' hT
    obtain ⟨hcT, hfT⟩ := bcell hT
    go_simp
    try with_reducible rfl
  simp only [Act.put, List.setIfInBounds_toArray, List.set_cons_zero, List.set_cons_succ]
  intro ρ w3 hT hF
  simp only [List.drop_succ_cons, List.drop_zero]
  have q0 := cell_on hT hw2 K0
  have q1 := cell_on hT hw2 K1
  have q2 := cell_on hT hw2 K2
  have q3 := cell_on hT hw2 K3
  have q4 := cell_on hT hw2 K4
  have qf : ∀ i, w3.frozen? ⟨w.heap.size, i, none⟩ = false := fun i => (hT.frozen (p := ⟨w.heap.size, i, none⟩) hw2).trans (F0 i)
  have hb3 := below_step hb2 hT
  clear hT K0 K1 K2 K3 K4
  go_wp2
  exact bodyPost_ret (v := .tuple #[vS (back8 s) (kr s) (kl s) (kn s) (ki s), .int .i64 0]) (by simp [results, Tryz.results22, go_sem, q0, q1, q2, q3, q4]) rfl ⟨rfl, by go_grown⟩
set_option maxRecDepth 20000 in set_option maxHeartbeats 1000000 in
theorem ofKey_len (s : ByteArray) (w : World) (hs : s.size < 19) :
    Calls Tryz.prog 22 #[.string s] w fun e w' => e = .returned (.tuple #[zS, .int .i64 4]) ∧ Below w.heap.size w w' := by
  have h19 : ((s.size : Int) < 19) := by omega
  go_enter Tryz.func22, Tryz.ntmps22
  go_wp2
  exact bodyPost_ret (v := .tuple #[zS, .int .i64 4]) (by simp [results, Tryz.results22, go_sem]) rfl ⟨rfl, by go_grown⟩
end Go.Proofs.YtnldgcgngolkiaaGreatDoor
