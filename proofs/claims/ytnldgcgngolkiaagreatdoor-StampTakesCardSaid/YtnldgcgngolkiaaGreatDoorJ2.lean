/- The reference's ParseName and Parse: the walks (printed by gen-J.py). -/
import Derived.Test.YtnldgcgngolkiaaGreatDoorJ
namespace Go.Proofs.YtnldgcgngolkiaaGreatDoor
open Go.RowKit
set_option linter.unusedVariables false
set_option linter.unusedSimpArgs false
attribute [local go_sem] givesUpon


theorem set5 {w : World} {B : Nat} {u0 u1 u2 u3 u4 v0 v1 v2 v3 v4 : Value} (e0 : w.cell? ⟨B, 0, none⟩ = some u0) (e1 : w.cell? ⟨B, 1, none⟩ = some u1) (e2 : w.cell? ⟨B, 2, none⟩ = some u2) (e3 : w.cell? ⟨B, 3, none⟩ = some u3) (e4 : w.cell? ⟨B, 4, none⟩ = some u4) :
    (((((w.setCell ⟨B, 0, none⟩ v0).setCell ⟨B, 1, none⟩ v1).setCell ⟨B, 2, none⟩ v2).setCell ⟨B, 3, none⟩ v3).setCell ⟨B, 4, none⟩ v4).cell? ⟨B, 0, none⟩ = some v0 ∧ (((((w.setCell ⟨B, 0, none⟩ v0).setCell ⟨B, 1, none⟩ v1).setCell ⟨B, 2, none⟩ v2).setCell ⟨B, 3, none⟩ v3).setCell ⟨B, 4, none⟩ v4).cell? ⟨B, 1, none⟩ = some v1 ∧ (((((w.setCell ⟨B, 0, none⟩ v0).setCell ⟨B, 1, none⟩ v1).setCell ⟨B, 2, none⟩ v2).setCell ⟨B, 3, none⟩ v3).setCell ⟨B, 4, none⟩ v4).cell? ⟨B, 2, none⟩ = some v2 ∧ (((((w.setCell ⟨B, 0, none⟩ v0).setCell ⟨B, 1, none⟩ v1).setCell ⟨B, 2, none⟩ v2).setCell ⟨B, 3, none⟩ v3).setCell ⟨B, 4, none⟩ v4).cell? ⟨B, 3, none⟩ = some v3 ∧ (((((w.setCell ⟨B, 0, none⟩ v0).setCell ⟨B, 1, none⟩ v1).setCell ⟨B, 2, none⟩ v2).setCell ⟨B, 3, none⟩ v3).setCell ⟨B, 4, none⟩ v4).cell? ⟨B, 4, none⟩ = some v4 := by
  refine ⟨?_, ?_, ?_, ?_, ?_⟩
  · rw [World.cell?_setCell_other _ _ _ _ (by simp), World.cell?_setCell_other _ _ _ _ (by simp), World.cell?_setCell_other _ _ _ _ (by simp), World.cell?_setCell_other _ _ _ _ (by simp)]
    exact World.cell?_setCell_same' _ _ _ (by rw [e0]; rfl)
  · rw [World.cell?_setCell_other _ _ _ _ (by simp), World.cell?_setCell_other _ _ _ _ (by simp), World.cell?_setCell_other _ _ _ _ (by simp)]
    exact World.cell?_setCell_same' _ _ _ (by rw [World.cell?_setCell_other _ _ _ _ (by simp), e1]; rfl)
  · rw [World.cell?_setCell_other _ _ _ _ (by simp), World.cell?_setCell_other _ _ _ _ (by simp)]
    exact World.cell?_setCell_same' _ _ _ (by rw [World.cell?_setCell_other _ _ _ _ (by simp), World.cell?_setCell_other _ _ _ _ (by simp), e2]; rfl)
  · rw [World.cell?_setCell_other _ _ _ _ (by simp)]
    exact World.cell?_setCell_same' _ _ _ (by rw [World.cell?_setCell_other _ _ _ _ (by simp), World.cell?_setCell_other _ _ _ _ (by simp), World.cell?_setCell_other _ _ _ _ (by simp), e3]; rfl)
  · exact World.cell?_setCell_same' _ _ _ (by rw [World.cell?_setCell_other _ _ _ _ (by simp), World.cell?_setCell_other _ _ _ _ (by simp), World.cell?_setCell_other _ _ _ _ (by simp), World.cell?_setCell_other _ _ _ _ (by simp), e4]; rfl)
theorem okN_r {r : Int} {l : ByteArray} {n : Int} (h : okN r l n = true) : -9223372036854775808 ≤ r ∧ r ≤ 9223372036854775807 ∧ -9223372036854775808 ≤ n ∧ n ≤ 9223372036854775807 := by
  have h1 : okB r l = true ∧ 1 ≤ n ∧ n ≤ 4611686018427387904 := okN_iff.1 h
  have := okB_rng h1.1
  omega
theorem okS_r {g r : Int} {l : ByteArray} {n i : Int} (h : okS g r l n i = true) : -9223372036854775808 ≤ r ∧ r ≤ 9223372036854775807 ∧ -9223372036854775808 ≤ n ∧ n ≤ 9223372036854775807 ∧ -9223372036854775808 ≤ g ∧ g ≤ 9223372036854775807 ∧ -9223372036854775808 ≤ i ∧ i ≤ 9223372036854775807 := by
  have h1 := okS_iff.1 h
  have h2 := okN_r h1.2.2.1
  omega
set_option maxRecDepth 20000 in set_option maxHeartbeats 1000000 in
theorem rparseName_len (s : ByteArray) (w : World) (hs : s.size ≤ 1000000) (h : (cutR s).length ≠ 3) :
    Calls Tryz.prog 19 #[.string s] w fun e w' => e = .returned (.tuple #[zN, .int .i64 4]) ∧ Below w.heap.size w w' := by
  have hn : (((cutR s).length : Int) != 3) = true := by rw [bne_iff_ne]; omega
  clear h
  go_enter Tryz.func19, Tryz.ntmps19
  go_wp2_with fail
  refine (rcut_any _ _ hs).mono ?_
  rintro e w1 ⟨v, rfl, hown, hb1⟩
  obtain ⟨A, cap0, rfl⟩ := own_form hown
  have Hown := Lib.hid hown
  clear hown
  obtain ⟨hc1, hf1⟩ := bcell hb1
  (have hz1 := hb1.size; (try simp at hz1); replace hb1 := below_to (w := w) hb1 (by go_grown) (by first | omega | (simp <;> omega)); have hs1 := hb1.size)
  have f0 : ∀ i, w1.frozen? ⟨w.heap.size, i, none⟩ = false := fun i => by rw [hf1 _ _ (by simp)]; simp
  have k0 : w1.cell? ⟨w.heap.size, 0, none⟩ = some (.int .i64 0) := by rw [hc1 _ _ (by simp)]; simp
  have k1 : w1.cell? ⟨w.heap.size, 1, none⟩ = some (.string ⟨#[]⟩) := by rw [hc1 _ _ (by simp)]; simp
  have k2 : w1.cell? ⟨w.heap.size, 2, none⟩ = some (.int .i64 0) := by rw [hc1 _ _ (by simp)]; simp
  clear hc1 hf1
  go_wp2
  exact bodyPost_ret (v := .tuple #[zN, .int .i64 4]) (by simp [results, Tryz.results19, go_sem, k0, k1, k2]) rfl ⟨rfl, by go_grown⟩
set_option maxRecDepth 20000 in set_option maxHeartbeats 1000000 in
theorem rparseName_no (s a b c : ByteArray) (w : World) (E : Env w) (hs : s.size ≤ 1000000) (hcut : cutR s = [a, b, c]) (hok : okN (rrd a) b (rrd c) = false) (ht : True) (ha : a.size ≤ 1000000) (hb : b.size ≤ 1000000) (hc : c.size ≤ 1000000) :
    Calls Tryz.prog 19 #[.string s] w fun e w' => e = .returned (.tuple #[zN, .int .i64 4]) ∧ Below w.heap.size w w' := by
  have HS := Lib.hid (fun w => rcut_any s w hs)
  rw [hcut] at HS
  have Hok := Lib.hid hok
  have Ht := Lib.hid ht
  clear hcut hok ht
  go_enter Tryz.func19, Tryz.ntmps19
  go_wp2_with fail
  refine (HS.out _).mono ?_
  rintro e w1 ⟨v, rfl, hown, hb1⟩
  obtain ⟨A, cap0, rfl⟩ := own_form hown
  obtain ⟨g0, rfl, hg0, hg1, hcs⟩ := own_cells hown
  have a0 := hcs 0 _ rfl
  have a1 := hcs 1 _ rfl
  have a2 := hcs 2 _ rfl
  clear hown hcs
  obtain ⟨hc1, hf1⟩ := bcell hb1
  (have hz1 := hb1.size; (try simp at hz1); replace hb1 := below_to (w := w) hb1 (by go_grown) (by first | omega | (simp <;> omega)); have hs1 := hb1.size)
  have f0 : ∀ i, w1.frozen? ⟨w.heap.size, i, none⟩ = false := fun i => by rw [hf1 _ _ (by simp)]; simp
  have k0 : w1.cell? ⟨w.heap.size, 0, none⟩ = some (.int .i64 0) := by rw [hc1 _ _ (by simp)]; simp
  have k1 : w1.cell? ⟨w.heap.size, 1, none⟩ = some (.string ⟨#[]⟩) := by rw [hc1 _ _ (by simp)]; simp
  have k2 : w1.cell? ⟨w.heap.size, 2, none⟩ = some (.int .i64 0) := by rw [hc1 _ _ (by simp)]; simp
  clear hc1 hf1
  simp at hg0
  have E1 := E.below hb1
  have hw1 : w.heap.size < w1.heap.size := by omega
  go_wp2_with fail
  refine wp_region_plan 14 [(none, []), (none, []), (none, []), (none, []), (none, []), (none, []), (none, []), (none, []), (none, []), (none, []), (none, []), (none, []), (none, []), (some (BoxAt w1.heap.size 31 [.int .i64 0, .string ⟨#[]⟩, .int .i64 0]), [])] [13] (by kernel_rfl) (by kernel_rfl) ?_
  simp only [List.take_succ_cons, List.take_zero]
  refine plan_run (v := ?_) rfl (fun _ => rfl) ?_ ?_
  rotate_left
  · intro ρ w' hT
    obtain ⟨hcT, hfT⟩ := bcell hT
    go_simp
    try with_reducible rfl
  simp only [Act.put, List.setIfInBounds_toArray, List.set_cons_zero, List.set_cons_succ]
  refine plan_run (v := ?_) rfl (fun _ => rfl) ?_ ?_
  rotate_left
  · intro ρ w' hT
    obtain ⟨hcT, hfT⟩ := bcell hT
    go_simp
    try with_reducible rfl
  simp only [Act.put, List.setIfInBounds_toArray, List.set_cons_zero, List.set_cons_succ]
  refine plan_run (v := ?_) rfl (fun _ => rfl) ?_ ?_
  rotate_left
  · intro ρ w' hT
    obtain ⟨hcT, hfT⟩ := bcell hT
    go_simp
    try with_reducible rfl
  simp only [Act.put, List.setIfInBounds_toArray, List.set_cons_zero, List.set_cons_succ]
  refine plan_const (v := .int .i64 (rrd a)) rfl (fun _ => rfl) ?_ ?_
  · intro ρ w' hT hF
    go_simp
    refine (rread_any a w' (E1.below hT) ha).mono ?_
    rintro e w'' ⟨rfl, hb⟩
    exact ⟨_, rfl, rfl, hb⟩
  simp only [Act.put, List.setIfInBounds_toArray, List.set_cons_zero, List.set_cons_succ]
  refine plan_run (v := ?_) rfl (fun _ => rfl) ?_ ?_
  rotate_left
  · intro ρ w' hT
    obtain ⟨hcT, hfT⟩ := bcell hT
    go_simp
    try with_reducible rfl
  simp only [Act.put, List.setIfInBounds_toArray, List.set_cons_zero, List.set_cons_succ]
  refine plan_run (v := ?_) rfl (fun _ => rfl) ?_ ?_
  rotate_left
  · intro ρ w' hT
    obtain ⟨hcT, hfT⟩ := bcell hT
    go_simp
    try with_reducible rfl
  simp only [Act.put, List.setIfInBounds_toArray, List.set_cons_zero, List.set_cons_succ]
  refine plan_run (v := ?_) rfl (fun _ => rfl) ?_ ?_
  rotate_left
  · intro ρ w' hT
    obtain ⟨hcT, hfT⟩ := bcell hT
    go_simp
    try with_reducible rfl
  simp only [Act.put, List.setIfInBounds_toArray, List.set_cons_zero, List.set_cons_succ]
  refine plan_run (v := ?_) rfl (fun _ => rfl) ?_ ?_
  rotate_left
  · intro ρ w' hT
    obtain ⟨hcT, hfT⟩ := bcell hT
    go_simp
    try with_reducible rfl
  simp only [Act.put, List.setIfInBounds_toArray, List.set_cons_zero, List.set_cons_succ]
  refine plan_run (v := ?_) rfl (fun _ => rfl) ?_ ?_
  rotate_left
  · intro ρ w' hT
    obtain ⟨hcT, hfT⟩ := bcell hT
    go_simp
    try with_reducible rfl
  simp only [Act.put, List.setIfInBounds_toArray, List.set_cons_zero, List.set_cons_succ]
  refine plan_run (v := ?_) rfl (fun _ => rfl) ?_ ?_
  rotate_left
  · intro ρ w' hT
    obtain ⟨hcT, hfT⟩ := bcell hT
    go_simp
    try with_reducible rfl
  simp only [Act.put, List.setIfInBounds_toArray, List.set_cons_zero, List.set_cons_succ]
  refine plan_run (v := ?_) rfl (fun _ => rfl) ?_ ?_
  rotate_left
  · intro ρ w' hT
    obtain ⟨hcT, hfT⟩ := bcell hT
    go_simp
    try with_reducible rfl
  simp only [Act.put, List.setIfInBounds_toArray, List.set_cons_zero, List.set_cons_succ]
  refine plan_const (v := .int .i64 (rrd c)) rfl (fun _ => rfl) ?_ ?_
  · intro ρ w' hT hF
    go_simp
    refine (rread_any c w' (E1.below hT) hc).mono ?_
    rintro e w'' ⟨rfl, hb⟩
    exact ⟨_, rfl, rfl, hb⟩
  simp only [Act.put, List.setIfInBounds_toArray, List.set_cons_zero, List.set_cons_succ]
  refine plan_run (v := ?_) rfl (fun _ => rfl) ?_ ?_
  rotate_left
  · intro ρ w' hT
    obtain ⟨hcT, hfT⟩ := bcell hT
    go_simp
    try with_reducible rfl
  simp only [Act.put, List.setIfInBounds_toArray, List.set_cons_zero, List.set_cons_succ]
  refine plan_fact rfl (BoxAt.lasts _ _ _) (fun _ => rfl) ?_ ?_
  · intro ρ w' hT hF
    have hz := hT.size
    go_simp
    exact ⟨BoxAt.new _ _ _ (by omega), below_alloc _ _⟩
  simp only [Act.put, List.setIfInBounds_toArray, List.set_cons_zero, List.set_cons_succ]
  intro ρ w2 hT hF
  obtain ⟨f8, _⟩ := hF
  obtain ⟨B, eB, hB0, hB1, hcB, hfB⟩ := BoxAt.open f8
  clear f8
  simp only [List.drop_succ_cons, List.drop_zero, Nat.zero_add, Nat.reduceAdd, eB]
  have b0 : w2.cell? ⟨B, 0, none⟩ = some (.int .i64 0) := hcB 0
  have b1 : w2.cell? ⟨B, 1, none⟩ = some (.string ⟨#[]⟩) := hcB 1
  have b2 : w2.cell? ⟨B, 2, none⟩ = some (.int .i64 0) := hcB 2
  clear hcB
  obtain ⟨n0, n1, n2⟩ := set3 (v0 := .int .i64 (rrd a)) (v1 := .string b) (v2 := .int .i64 (rrd c)) b0 b1 b2
  have k0 := cell_on hT hw1 k0
  have k1 := cell_on hT hw1 k1
  have k2 := cell_on hT hw1 k2
  have f0 : ∀ i, w2.frozen? ⟨w.heap.size, i, none⟩ = false := fun i => (hT.frozen (p := ⟨w.heap.size, i, none⟩) hw1).trans (f0 i)
  have hne : w.heap.size ≠ B := by omega
  have hb2 := below_step hb1 hT
  have hb3 : Below w.heap.size w (((w2.setCell ⟨B, 0, none⟩ (.int .i64 (rrd a))).setCell ⟨B, 1, none⟩ (.string b)).setCell ⟨B, 2, none⟩ (.int .i64 (rrd c))) := by go_grown
  have hz3 : (((w2.setCell ⟨B, 0, none⟩ (.int .i64 (rrd a))).setCell ⟨B, 1, none⟩ (.string b)).setCell ⟨B, 2, none⟩ (.int .i64 (rrd c))).heap.size = w2.heap.size := by simp
  have K0 : (((w2.setCell ⟨B, 0, none⟩ (.int .i64 (rrd a))).setCell ⟨B, 1, none⟩ (.string b)).setCell ⟨B, 2, none⟩ (.int .i64 (rrd c))).cell? ⟨w.heap.size, 0, none⟩ = some (.int .i64 0) := by rw [World.cell?_setCell_far _ _ _ _ (Ne.symm hne), World.cell?_setCell_far _ _ _ _ (Ne.symm hne), World.cell?_setCell_far _ _ _ _ (Ne.symm hne)]; exact k0
  have K1 : (((w2.setCell ⟨B, 0, none⟩ (.int .i64 (rrd a))).setCell ⟨B, 1, none⟩ (.string b)).setCell ⟨B, 2, none⟩ (.int .i64 (rrd c))).cell? ⟨w.heap.size, 1, none⟩ = some (.string ⟨#[]⟩) := by rw [World.cell?_setCell_far _ _ _ _ (Ne.symm hne), World.cell?_setCell_far _ _ _ _ (Ne.symm hne), World.cell?_setCell_far _ _ _ _ (Ne.symm hne)]; exact k1
  have K2 : (((w2.setCell ⟨B, 0, none⟩ (.int .i64 (rrd a))).setCell ⟨B, 1, none⟩ (.string b)).setCell ⟨B, 2, none⟩ (.int .i64 (rrd c))).cell? ⟨w.heap.size, 2, none⟩ = some (.int .i64 0) := by rw [World.cell?_setCell_far _ _ _ _ (Ne.symm hne), World.cell?_setCell_far _ _ _ _ (Ne.symm hne), World.cell?_setCell_far _ _ _ _ (Ne.symm hne)]; exact k2
  have F0 : ∀ i, (((w2.setCell ⟨B, 0, none⟩ (.int .i64 (rrd a))).setCell ⟨B, 1, none⟩ (.string b)).setCell ⟨B, 2, none⟩ (.int .i64 (rrd c))).frozen? ⟨w.heap.size, i, none⟩ = false := fun i => by simp [f0]
  go_wp2_with fail
  generalize ((w2.setCell ⟨B, 0, none⟩ (.int .i64 (rrd a))).setCell ⟨B, 1, none⟩ (.string b)).setCell ⟨B, 2, none⟩ (.int .i64 (rrd c)) = w3 at *
  clear k0 k1 k2 f0 hT b0 b1 b2 hfB hb2
  have hs3 := hb3.size
  have hB3 : B < w3.heap.size := by omega
  have hw3 : w.heap.size < w3.heap.size := by omega
  refine (rname_any _ _ _ _ hb).mono ?_
  rw [Hok.out]
  rintro e w4 ⟨rfl, hb4⟩
  have n0 := cell_on hb4 hB3 n0
  have n1 := cell_on hb4 hB3 n1
  have n2 := cell_on hb4 hB3 n2
  have K0 := cell_on hb4 hw3 K0
  have K1 := cell_on hb4 hw3 K1
  have K2 := cell_on hb4 hw3 K2
  have F0 : ∀ i, w4.frozen? ⟨w.heap.size, i, none⟩ = false := fun i => (hb4.frozen (p := ⟨w.heap.size, i, none⟩) hw3).trans (F0 i)
  have hs4 := hb4.size
  have hw4 : w.heap.size < w4.heap.size := by omega
  replace hb4 := below_step hb3 hb4
  have E4 := E.below hb4
  have hB4 : B < w4.heap.size := by omega
  (go_wp2; exact bodyPost_ret (v := .tuple #[zN, .int .i64 4]) (by simp [results, Tryz.results19, go_sem, K0, K1, K2]) rfl ⟨rfl, by go_grown⟩)
set_option maxRecDepth 20000 in set_option maxHeartbeats 1000000 in
theorem rparseName_ne (s a b c : ByteArray) (w : World) (E : Env w) (hs : s.size ≤ 1000000) (hcut : cutR s = [a, b, c]) (hok : okN (rrd a) b (rrd c) = true) (ht : ¬ S (tN (rrd a) b (rrd c)) = s) (ha : a.size ≤ 1000000) (hb : b.size ≤ 1000000) (hc : c.size ≤ 1000000) :
    Calls Tryz.prog 19 #[.string s] w fun e w' => e = .returned (.tuple #[zN, .int .i64 4]) ∧ Below w.heap.size w w' := by
  have HS := Lib.hid (fun w => rcut_any s w hs)
  rw [hcut] at HS
  have Hok := Lib.hid hok
  have Ht := Lib.hid ht
  clear hcut hok ht
  go_enter Tryz.func19, Tryz.ntmps19
  go_wp2_with fail
  refine (HS.out _).mono ?_
  rintro e w1 ⟨v, rfl, hown, hb1⟩
  obtain ⟨A, cap0, rfl⟩ := own_form hown
  obtain ⟨g0, rfl, hg0, hg1, hcs⟩ := own_cells hown
  have a0 := hcs 0 _ rfl
  have a1 := hcs 1 _ rfl
  have a2 := hcs 2 _ rfl
  clear hown hcs
  obtain ⟨hc1, hf1⟩ := bcell hb1
  (have hz1 := hb1.size; (try simp at hz1); replace hb1 := below_to (w := w) hb1 (by go_grown) (by first | omega | (simp <;> omega)); have hs1 := hb1.size)
  have f0 : ∀ i, w1.frozen? ⟨w.heap.size, i, none⟩ = false := fun i => by rw [hf1 _ _ (by simp)]; simp
  have k0 : w1.cell? ⟨w.heap.size, 0, none⟩ = some (.int .i64 0) := by rw [hc1 _ _ (by simp)]; simp
  have k1 : w1.cell? ⟨w.heap.size, 1, none⟩ = some (.string ⟨#[]⟩) := by rw [hc1 _ _ (by simp)]; simp
  have k2 : w1.cell? ⟨w.heap.size, 2, none⟩ = some (.int .i64 0) := by rw [hc1 _ _ (by simp)]; simp
  clear hc1 hf1
  simp at hg0
  have E1 := E.below hb1
  have hw1 : w.heap.size < w1.heap.size := by omega
  go_wp2_with fail
  refine wp_region_plan 14 [(none, []), (none, []), (none, []), (none, []), (none, []), (none, []), (none, []), (none, []), (none, []), (none, []), (none, []), (none, []), (none, []), (some (BoxAt w1.heap.size 31 [.int .i64 0, .string ⟨#[]⟩, .int .i64 0]), [])] [13] (by kernel_rfl) (by kernel_rfl) ?_
  simp only [List.take_succ_cons, List.take_zero]
  refine plan_run (v := ?_) rfl (fun _ => rfl) ?_ ?_
  rotate_left
  · intro ρ w' hT
    obtain ⟨hcT, hfT⟩ := bcell hT
    go_simp
    try with_reducible rfl
  simp only [Act.put, List.setIfInBounds_toArray, List.set_cons_zero, List.set_cons_succ]
  refine plan_run (v := ?_) rfl (fun _ => rfl) ?_ ?_
  rotate_left
  · intro ρ w' hT
    obtain ⟨hcT, hfT⟩ := bcell hT
    go_simp
    try with_reducible rfl
  simp only [Act.put, List.setIfInBounds_toArray, List.set_cons_zero, List.set_cons_succ]
  refine plan_run (v := ?_) rfl (fun _ => rfl) ?_ ?_
  rotate_left
  · intro ρ w' hT
    obtain ⟨hcT, hfT⟩ := bcell hT
    go_simp
    try with_reducible rfl
  simp only [Act.put, List.setIfInBounds_toArray, List.set_cons_zero, List.set_cons_succ]
  refine plan_const (v := .int .i64 (rrd a)) rfl (fun _ => rfl) ?_ ?_
  · intro ρ w' hT hF
    go_simp
    refine (rread_any a w' (E1.below hT) ha).mono ?_
    rintro e w'' ⟨rfl, hb⟩
    exact ⟨_, rfl, rfl, hb⟩
  simp only [Act.put, List.setIfInBounds_toArray, List.set_cons_zero, List.set_cons_succ]
  refine plan_run (v := ?_) rfl (fun _ => rfl) ?_ ?_
  rotate_left
  · intro ρ w' hT
    obtain ⟨hcT, hfT⟩ := bcell hT
    go_simp
    try with_reducible rfl
  simp only [Act.put, List.setIfInBounds_toArray, List.set_cons_zero, List.set_cons_succ]
  refine plan_run (v := ?_) rfl (fun _ => rfl) ?_ ?_
  rotate_left
  · intro ρ w' hT
    obtain ⟨hcT, hfT⟩ := bcell hT
    go_simp
    try with_reducible rfl
  simp only [Act.put, List.setIfInBounds_toArray, List.set_cons_zero, List.set_cons_succ]
  refine plan_run (v := ?_) rfl (fun _ => rfl) ?_ ?_
  rotate_left
  · intro ρ w' hT
    obtain ⟨hcT, hfT⟩ := bcell hT
    go_simp
    try with_reducible rfl
  simp only [Act.put, List.setIfInBounds_toArray, List.set_cons_zero, List.set_cons_succ]
  refine plan_run (v := ?_) rfl (fun _ => rfl) ?_ ?_
  rotate_left
  · intro ρ w' hT
    obtain ⟨hcT, hfT⟩ := bcell hT
    go_simp
    try with_reducible rfl
  simp only [Act.put, List.setIfInBounds_toArray, List.set_cons_zero, List.set_cons_succ]
  refine plan_run (v := ?_) rfl (fun _ => rfl) ?_ ?_
  rotate_left
  · intro ρ w' hT
    obtain ⟨hcT, hfT⟩ := bcell hT
    go_simp
    try with_reducible rfl
  simp only [Act.put, List.setIfInBounds_toArray, List.set_cons_zero, List.set_cons_succ]
  refine plan_run (v := ?_) rfl (fun _ => rfl) ?_ ?_
  rotate_left
  · intro ρ w' hT
    obtain ⟨hcT, hfT⟩ := bcell hT
    go_simp
    try with_reducible rfl
  simp only [Act.put, List.setIfInBounds_toArray, List.set_cons_zero, List.set_cons_succ]
  refine plan_run (v := ?_) rfl (fun _ => rfl) ?_ ?_
  rotate_left
  · intro ρ w' hT
    obtain ⟨hcT, hfT⟩ := bcell hT
    go_simp
    try with_reducible rfl
  simp only [Act.put, List.setIfInBounds_toArray, List.set_cons_zero, List.set_cons_succ]
  refine plan_const (v := .int .i64 (rrd c)) rfl (fun _ => rfl) ?_ ?_
  · intro ρ w' hT hF
    go_simp
    refine (rread_any c w' (E1.below hT) hc).mono ?_
    rintro e w'' ⟨rfl, hb⟩
    exact ⟨_, rfl, rfl, hb⟩
  simp only [Act.put, List.setIfInBounds_toArray, List.set_cons_zero, List.set_cons_succ]
  refine plan_run (v := ?_) rfl (fun _ => rfl) ?_ ?_
  rotate_left
  · intro ρ w' hT
    obtain ⟨hcT, hfT⟩ := bcell hT
    go_simp
    try with_reducible rfl
  simp only [Act.put, List.setIfInBounds_toArray, List.set_cons_zero, List.set_cons_succ]
  refine plan_fact rfl (BoxAt.lasts _ _ _) (fun _ => rfl) ?_ ?_
  · intro ρ w' hT hF
    have hz := hT.size
    go_simp
    exact ⟨BoxAt.new _ _ _ (by omega), below_alloc _ _⟩
  simp only [Act.put, List.setIfInBounds_toArray, List.set_cons_zero, List.set_cons_succ]
  intro ρ w2 hT hF
  obtain ⟨f8, _⟩ := hF
  obtain ⟨B, eB, hB0, hB1, hcB, hfB⟩ := BoxAt.open f8
  clear f8
  simp only [List.drop_succ_cons, List.drop_zero, Nat.zero_add, Nat.reduceAdd, eB]
  have b0 : w2.cell? ⟨B, 0, none⟩ = some (.int .i64 0) := hcB 0
  have b1 : w2.cell? ⟨B, 1, none⟩ = some (.string ⟨#[]⟩) := hcB 1
  have b2 : w2.cell? ⟨B, 2, none⟩ = some (.int .i64 0) := hcB 2
  clear hcB
  obtain ⟨n0, n1, n2⟩ := set3 (v0 := .int .i64 (rrd a)) (v1 := .string b) (v2 := .int .i64 (rrd c)) b0 b1 b2
  have k0 := cell_on hT hw1 k0
  have k1 := cell_on hT hw1 k1
  have k2 := cell_on hT hw1 k2
  have f0 : ∀ i, w2.frozen? ⟨w.heap.size, i, none⟩ = false := fun i => (hT.frozen (p := ⟨w.heap.size, i, none⟩) hw1).trans (f0 i)
  have hne : w.heap.size ≠ B := by omega
  have hb2 := below_step hb1 hT
  have hb3 : Below w.heap.size w (((w2.setCell ⟨B, 0, none⟩ (.int .i64 (rrd a))).setCell ⟨B, 1, none⟩ (.string b)).setCell ⟨B, 2, none⟩ (.int .i64 (rrd c))) := by go_grown
  have hz3 : (((w2.setCell ⟨B, 0, none⟩ (.int .i64 (rrd a))).setCell ⟨B, 1, none⟩ (.string b)).setCell ⟨B, 2, none⟩ (.int .i64 (rrd c))).heap.size = w2.heap.size := by simp
  have K0 : (((w2.setCell ⟨B, 0, none⟩ (.int .i64 (rrd a))).setCell ⟨B, 1, none⟩ (.string b)).setCell ⟨B, 2, none⟩ (.int .i64 (rrd c))).cell? ⟨w.heap.size, 0, none⟩ = some (.int .i64 0) := by rw [World.cell?_setCell_far _ _ _ _ (Ne.symm hne), World.cell?_setCell_far _ _ _ _ (Ne.symm hne), World.cell?_setCell_far _ _ _ _ (Ne.symm hne)]; exact k0
  have K1 : (((w2.setCell ⟨B, 0, none⟩ (.int .i64 (rrd a))).setCell ⟨B, 1, none⟩ (.string b)).setCell ⟨B, 2, none⟩ (.int .i64 (rrd c))).cell? ⟨w.heap.size, 1, none⟩ = some (.string ⟨#[]⟩) := by rw [World.cell?_setCell_far _ _ _ _ (Ne.symm hne), World.cell?_setCell_far _ _ _ _ (Ne.symm hne), World.cell?_setCell_far _ _ _ _ (Ne.symm hne)]; exact k1
  have K2 : (((w2.setCell ⟨B, 0, none⟩ (.int .i64 (rrd a))).setCell ⟨B, 1, none⟩ (.string b)).setCell ⟨B, 2, none⟩ (.int .i64 (rrd c))).cell? ⟨w.heap.size, 2, none⟩ = some (.int .i64 0) := by rw [World.cell?_setCell_far _ _ _ _ (Ne.symm hne), World.cell?_setCell_far _ _ _ _ (Ne.symm hne), World.cell?_setCell_far _ _ _ _ (Ne.symm hne)]; exact k2
  have F0 : ∀ i, (((w2.setCell ⟨B, 0, none⟩ (.int .i64 (rrd a))).setCell ⟨B, 1, none⟩ (.string b)).setCell ⟨B, 2, none⟩ (.int .i64 (rrd c))).frozen? ⟨w.heap.size, i, none⟩ = false := fun i => by simp [f0]
  go_wp2_with fail
  generalize ((w2.setCell ⟨B, 0, none⟩ (.int .i64 (rrd a))).setCell ⟨B, 1, none⟩ (.string b)).setCell ⟨B, 2, none⟩ (.int .i64 (rrd c)) = w3 at *
  clear k0 k1 k2 f0 hT b0 b1 b2 hfB hb2
  have hs3 := hb3.size
  have hB3 : B < w3.heap.size := by omega
  have hw3 : w.heap.size < w3.heap.size := by omega
  refine (rname_any _ _ _ _ hb).mono ?_
  rw [Hok.out]
  rintro e w4 ⟨rfl, hb4⟩
  have n0 := cell_on hb4 hB3 n0
  have n1 := cell_on hb4 hB3 n1
  have n2 := cell_on hb4 hB3 n2
  have K0 := cell_on hb4 hw3 K0
  have K1 := cell_on hb4 hw3 K1
  have K2 := cell_on hb4 hw3 K2
  have F0 : ∀ i, w4.frozen? ⟨w.heap.size, i, none⟩ = false := fun i => (hb4.frozen (p := ⟨w.heap.size, i, none⟩) hw3).trans (F0 i)
  have hs4 := hb4.size
  have hw4 : w.heap.size < w4.heap.size := by omega
  replace hb4 := below_step hb3 hb4
  have E4 := E.below hb4
  have hB4 : B < w4.heap.size := by omega
  ((go_wp2_with fail); refine (rtextName_any _ _ _ _ E4 (okN_r Hok.out).1 (okN_r Hok.out).2.1 (okN_r Hok.out).2.2.1 (okN_r Hok.out).2.2.2 hb).mono ?_; rintro e w5 ⟨rfl, hb5⟩; have n0 := cell_on hb5 hB4 n0; have n1 := cell_on hb5 hB4 n1; have n2 := cell_on hb5 hB4 n2; have K0 := cell_on hb5 hw4 K0; have K1 := cell_on hb5 hw4 K1; have K2 := cell_on hb5 hw4 K2; have F0 : ∀ i, w5.frozen? ⟨w.heap.size, i, none⟩ = false := fun i => (hb5.frozen (p := ⟨w.heap.size, i, none⟩) hw4).trans (F0 i); replace hb5 := below_step hb4 hb5; (go_wp2; (· (exact bodyPost_ret (v := .tuple #[zN, .int .i64 4]) (by simp [results, Tryz.results19, go_sem, K0, K1, K2]) rfl ⟨rfl, by go_grown⟩)); (· (exact absurd (toList_ne (by assumption)) Ht.out))))
set_option maxRecDepth 20000 in set_option maxHeartbeats 1000000 in
theorem rparseName_yes (s a b c : ByteArray) (w : World) (E : Env w) (hs : s.size ≤ 1000000) (hcut : cutR s = [a, b, c]) (hok : okN (rrd a) b (rrd c) = true) (ht : S (tN (rrd a) b (rrd c)) = s) (ha : a.size ≤ 1000000) (hb : b.size ≤ 1000000) (hc : c.size ≤ 1000000) :
    Calls Tryz.prog 19 #[.string s] w fun e w' => e = .returned (.tuple #[vN (rrd a) b (rrd c), .int .i64 0]) ∧ Below w.heap.size w w' := by
  have HS := Lib.hid (fun w => rcut_any s w hs)
  rw [hcut] at HS
  have Hok := Lib.hid hok
  have Ht := Lib.hid ht
  clear hcut hok ht
  go_enter Tryz.func19, Tryz.ntmps19
  go_wp2_with fail
  refine (HS.out _).mono ?_
  rintro e w1 ⟨v, rfl, hown, hb1⟩
  obtain ⟨A, cap0, rfl⟩ := own_form hown
  obtain ⟨g0, rfl, hg0, hg1, hcs⟩ := own_cells hown
  have a0 := hcs 0 _ rfl
  have a1 := hcs 1 _ rfl
  have a2 := hcs 2 _ rfl
  clear hown hcs
  obtain ⟨hc1, hf1⟩ := bcell hb1
  (have hz1 := hb1.size; (try simp at hz1); replace hb1 := below_to (w := w) hb1 (by go_grown) (by first | omega | (simp <;> omega)); have hs1 := hb1.size)
  have f0 : ∀ i, w1.frozen? ⟨w.heap.size, i, none⟩ = false := fun i => by rw [hf1 _ _ (by simp)]; simp
  have k0 : w1.cell? ⟨w.heap.size, 0, none⟩ = some (.int .i64 0) := by rw [hc1 _ _ (by simp)]; simp
  have k1 : w1.cell? ⟨w.heap.size, 1, none⟩ = some (.string ⟨#[]⟩) := by rw [hc1 _ _ (by simp)]; simp
  have k2 : w1.cell? ⟨w.heap.size, 2, none⟩ = some (.int .i64 0) := by rw [hc1 _ _ (by simp)]; simp
  clear hc1 hf1
  simp at hg0
  have E1 := E.below hb1
  have hw1 : w.heap.size < w1.heap.size := by omega
  go_wp2_with fail
  refine wp_region_plan 14 [(none, []), (none, []), (none, []), (none, []), (none, []), (none, []), (none, []), (none, []), (none, []), (none, []), (none, []), (none, []), (none, []), (some (BoxAt w1.heap.size 31 [.int .i64 0, .string ⟨#[]⟩, .int .i64 0]), [])] [13] (by kernel_rfl) (by kernel_rfl) ?_
  simp only [List.take_succ_cons, List.take_zero]
  refine plan_run (v := ?_) rfl (fun _ => rfl) ?_ ?_
  rotate_left
  · intro ρ w' hT
    obtain ⟨hcT, hfT⟩ := bcell hT
    go_simp
    try with_reducible rfl
  simp only [Act.put, List.setIfInBounds_toArray, List.set_cons_zero, List.set_cons_succ]
  refine plan_run (v := ?_) rfl (fun _ => rfl) ?_ ?_
  rotate_left
  · intro ρ w' hT
    obtain ⟨hcT, hfT⟩ := bcell hT
    go_simp
    try with_reducible rfl
  simp only [Act.put, List.setIfInBounds_toArray, List.set_cons_zero, List.set_cons_succ]
  refine plan_run (v := ?_) rfl (fun _ => rfl) ?_ ?_
  rotate_left
  · intro ρ w' hT
    obtain ⟨hcT, hfT⟩ := bcell hT
    go_simp
    try with_reducible rfl
  simp only [Act.put, List.setIfInBounds_toArray, List.set_cons_zero, List.set_cons_succ]
  refine plan_const (v := .int .i64 (rrd a)) rfl (fun _ => rfl) ?_ ?_
  · intro ρ w' hT hF
    go_simp
    refine (rread_any a w' (E1.below hT) ha).mono ?_
    rintro e w'' ⟨rfl, hb⟩
    exact ⟨_, rfl, rfl, hb⟩
  simp only [Act.put, List.setIfInBounds_toArray, List.set_cons_zero, List.set_cons_succ]
  refine plan_run (v := ?_) rfl (fun _ => rfl) ?_ ?_
  rotate_left
  · intro ρ w' hT
    obtain ⟨hcT, hfT⟩ := bcell hT
    go_simp
    try with_reducible rfl
  simp only [Act.put, List.setIfInBounds_toArray, List.set_cons_zero, List.set_cons_succ]
  refine plan_run (v := ?_) rfl (fun _ => rfl) ?_ ?_
  rotate_left
  · intro ρ w' hT
    obtain ⟨hcT, hfT⟩ := bcell hT
    go_simp
    try with_reducible rfl
  simp only [Act.put, List.setIfInBounds_toArray, List.set_cons_zero, List.set_cons_succ]
  refine plan_run (v := ?_) rfl (fun _ => rfl) ?_ ?_
  rotate_left
  · intro ρ w' hT
    obtain ⟨hcT, hfT⟩ := bcell hT
    go_simp
    try with_reducible rfl
  simp only [Act.put, List.setIfInBounds_toArray, List.set_cons_zero, List.set_cons_succ]
  refine plan_run (v := ?_) rfl (fun _ => rfl) ?_ ?_
  rotate_left
  · intro ρ w' hT
    obtain ⟨hcT, hfT⟩ := bcell hT
    go_simp
    try with_reducible rfl
  simp only [Act.put, List.setIfInBounds_toArray, List.set_cons_zero, List.set_cons_succ]
  refine plan_run (v := ?_) rfl (fun _ => rfl) ?_ ?_
  rotate_left
  · intro ρ w' hT
    obtain ⟨hcT, hfT⟩ := bcell hT
    go_simp
    try with_reducible rfl
  simp only [Act.put, List.setIfInBounds_toArray, List.set_cons_zero, List.set_cons_succ]
  refine plan_run (v := ?_) rfl (fun _ => rfl) ?_ ?_
  rotate_left
  · intro ρ w' hT
    obtain ⟨hcT, hfT⟩ := bcell hT
    go_simp
    try with_reducible rfl
  simp only [Act.put, List.setIfInBounds_toArray, List.set_cons_zero, List.set_cons_succ]
  refine plan_run (v := ?_) rfl (fun _ => rfl) ?_ ?_
  rotate_left
  · intro ρ w' hT
    obtain ⟨hcT, hfT⟩ := bcell hT
    go_simp
    try with_reducible rfl
  simp only [Act.put, List.setIfInBounds_toArray, List.set_cons_zero, List.set_cons_succ]
  refine plan_const (v := .int .i64 (rrd c)) rfl (fun _ => rfl) ?_ ?_
  · intro ρ w' hT hF
    go_simp
    refine (rread_any c w' (E1.below hT) hc).mono ?_
    rintro e w'' ⟨rfl, hb⟩
    exact ⟨_, rfl, rfl, hb⟩
  simp only [Act.put, List.setIfInBounds_toArray, List.set_cons_zero, List.set_cons_succ]
  refine plan_run (v := ?_) rfl (fun _ => rfl) ?_ ?_
  rotate_left
  · intro ρ w' hT
    obtain ⟨hcT, hfT⟩ := bcell hT
    go_simp
    try with_reducible rfl
  simp only [Act.put, List.setIfInBounds_toArray, List.set_cons_zero, List.set_cons_succ]
  refine plan_fact rfl (BoxAt.lasts _ _ _) (fun _ => rfl) ?_ ?_
  · intro ρ w' hT hF
    have hz := hT.size
    go_simp
    exact ⟨BoxAt.new _ _ _ (by omega), below_alloc _ _⟩
  simp only [Act.put, List.setIfInBounds_toArray, List.set_cons_zero, List.set_cons_succ]
  intro ρ w2 hT hF
  obtain ⟨f8, _⟩ := hF
  obtain ⟨B, eB, hB0, hB1, hcB, hfB⟩ := BoxAt.open f8
  clear f8
  simp only [List.drop_succ_cons, List.drop_zero, Nat.zero_add, Nat.reduceAdd, eB]
  have b0 : w2.cell? ⟨B, 0, none⟩ = some (.int .i64 0) := hcB 0
  have b1 : w2.cell? ⟨B, 1, none⟩ = some (.string ⟨#[]⟩) := hcB 1
  have b2 : w2.cell? ⟨B, 2, none⟩ = some (.int .i64 0) := hcB 2
  clear hcB
  obtain ⟨n0, n1, n2⟩ := set3 (v0 := .int .i64 (rrd a)) (v1 := .string b) (v2 := .int .i64 (rrd c)) b0 b1 b2
  have k0 := cell_on hT hw1 k0
  have k1 := cell_on hT hw1 k1
  have k2 := cell_on hT hw1 k2
  have f0 : ∀ i, w2.frozen? ⟨w.heap.size, i, none⟩ = false := fun i => (hT.frozen (p := ⟨w.heap.size, i, none⟩) hw1).trans (f0 i)
  have hne : w.heap.size ≠ B := by omega
  have hb2 := below_step hb1 hT
  have hb3 : Below w.heap.size w (((w2.setCell ⟨B, 0, none⟩ (.int .i64 (rrd a))).setCell ⟨B, 1, none⟩ (.string b)).setCell ⟨B, 2, none⟩ (.int .i64 (rrd c))) := by go_grown
  have hz3 : (((w2.setCell ⟨B, 0, none⟩ (.int .i64 (rrd a))).setCell ⟨B, 1, none⟩ (.string b)).setCell ⟨B, 2, none⟩ (.int .i64 (rrd c))).heap.size = w2.heap.size := by simp
  have K0 : (((w2.setCell ⟨B, 0, none⟩ (.int .i64 (rrd a))).setCell ⟨B, 1, none⟩ (.string b)).setCell ⟨B, 2, none⟩ (.int .i64 (rrd c))).cell? ⟨w.heap.size, 0, none⟩ = some (.int .i64 0) := by rw [World.cell?_setCell_far _ _ _ _ (Ne.symm hne), World.cell?_setCell_far _ _ _ _ (Ne.symm hne), World.cell?_setCell_far _ _ _ _ (Ne.symm hne)]; exact k0
  have K1 : (((w2.setCell ⟨B, 0, none⟩ (.int .i64 (rrd a))).setCell ⟨B, 1, none⟩ (.string b)).setCell ⟨B, 2, none⟩ (.int .i64 (rrd c))).cell? ⟨w.heap.size, 1, none⟩ = some (.string ⟨#[]⟩) := by rw [World.cell?_setCell_far _ _ _ _ (Ne.symm hne), World.cell?_setCell_far _ _ _ _ (Ne.symm hne), World.cell?_setCell_far _ _ _ _ (Ne.symm hne)]; exact k1
  have K2 : (((w2.setCell ⟨B, 0, none⟩ (.int .i64 (rrd a))).setCell ⟨B, 1, none⟩ (.string b)).setCell ⟨B, 2, none⟩ (.int .i64 (rrd c))).cell? ⟨w.heap.size, 2, none⟩ = some (.int .i64 0) := by rw [World.cell?_setCell_far _ _ _ _ (Ne.symm hne), World.cell?_setCell_far _ _ _ _ (Ne.symm hne), World.cell?_setCell_far _ _ _ _ (Ne.symm hne)]; exact k2
  have F0 : ∀ i, (((w2.setCell ⟨B, 0, none⟩ (.int .i64 (rrd a))).setCell ⟨B, 1, none⟩ (.string b)).setCell ⟨B, 2, none⟩ (.int .i64 (rrd c))).frozen? ⟨w.heap.size, i, none⟩ = false := fun i => by simp [f0]
  go_wp2_with fail
  generalize ((w2.setCell ⟨B, 0, none⟩ (.int .i64 (rrd a))).setCell ⟨B, 1, none⟩ (.string b)).setCell ⟨B, 2, none⟩ (.int .i64 (rrd c)) = w3 at *
  clear k0 k1 k2 f0 hT b0 b1 b2 hfB hb2
  have hs3 := hb3.size
  have hB3 : B < w3.heap.size := by omega
  have hw3 : w.heap.size < w3.heap.size := by omega
  refine (rname_any _ _ _ _ hb).mono ?_
  rw [Hok.out]
  rintro e w4 ⟨rfl, hb4⟩
  have n0 := cell_on hb4 hB3 n0
  have n1 := cell_on hb4 hB3 n1
  have n2 := cell_on hb4 hB3 n2
  have K0 := cell_on hb4 hw3 K0
  have K1 := cell_on hb4 hw3 K1
  have K2 := cell_on hb4 hw3 K2
  have F0 : ∀ i, w4.frozen? ⟨w.heap.size, i, none⟩ = false := fun i => (hb4.frozen (p := ⟨w.heap.size, i, none⟩) hw3).trans (F0 i)
  have hs4 := hb4.size
  have hw4 : w.heap.size < w4.heap.size := by omega
  replace hb4 := below_step hb3 hb4
  have E4 := E.below hb4
  have hB4 : B < w4.heap.size := by omega
  (have ht' := toList_eq Ht.out; (go_wp2_with fail); refine (rtextName_any _ _ _ _ E4 (okN_r Hok.out).1 (okN_r Hok.out).2.1 (okN_r Hok.out).2.2.1 (okN_r Hok.out).2.2.2 hb).mono ?_; rintro e w5 ⟨rfl, hb5⟩; have n0 := cell_on hb5 hB4 n0; have n1 := cell_on hb5 hB4 n1; have n2 := cell_on hb5 hB4 n2; have K0 := cell_on hb5 hw4 K0; have K1 := cell_on hb5 hw4 K1; have K2 := cell_on hb5 hw4 K2; have F0 : ∀ i, w5.frozen? ⟨w.heap.size, i, none⟩ = false := fun i => (hb5.frozen (p := ⟨w.heap.size, i, none⟩) hw4).trans (F0 i); replace hb5 := below_step hb4 hb5; (go_wp2; exact bodyPost_ret (v := .tuple #[vN (rrd a) b (rrd c), .int .i64 0]) (by simp [results, Tryz.results19, go_sem, K0, K1, K2]) rfl ⟨rfl, by go_grown⟩))
set_option maxRecDepth 20000 in set_option maxHeartbeats 1000000 in
theorem rparse_len (s : ByteArray) (w : World) (hs : s.size ≤ 1000000) (h : (cutR s).length ≠ 5) :
    Calls Tryz.prog 21 #[.string s] w fun e w' => e = .returned (.tuple #[zS, .int .i64 4]) ∧ Below w.heap.size w w' := by
  have hn : (((cutR s).length : Int) != 5) = true := by rw [bne_iff_ne]; omega
  clear h
  go_enter Tryz.func21, Tryz.ntmps21
  go_wp2_with fail
  refine (rcut_any _ _ hs).mono ?_
  rintro e w1 ⟨v, rfl, hown, hb1⟩
  obtain ⟨A, cap0, rfl⟩ := own_form hown
  have Hown := Lib.hid hown
  clear hown
  obtain ⟨hc1, hf1⟩ := bcell hb1
  (have hz1 := hb1.size; (try simp at hz1); replace hb1 := below_to (w := w) hb1 (by go_grown) (by first | omega | (simp <;> omega)); have hs1 := hb1.size)
  have f0 : ∀ i, w1.frozen? ⟨w.heap.size, i, none⟩ = false := fun i => by rw [hf1 _ _ (by simp)]; simp
  have k0 : w1.cell? ⟨w.heap.size, 0, none⟩ = some (.int .i64 0) := by rw [hc1 _ _ (by simp)]; simp
  have k1 : w1.cell? ⟨w.heap.size, 1, none⟩ = some (.int .i64 0) := by rw [hc1 _ _ (by simp)]; simp
  have k2 : w1.cell? ⟨w.heap.size, 2, none⟩ = some (.string ⟨#[]⟩) := by rw [hc1 _ _ (by simp)]; simp
  have k3 : w1.cell? ⟨w.heap.size, 3, none⟩ = some (.int .i64 0) := by rw [hc1 _ _ (by simp)]; simp
  have k4 : w1.cell? ⟨w.heap.size, 4, none⟩ = some (.int .i64 0) := by rw [hc1 _ _ (by simp)]; simp
  clear hc1 hf1
  go_wp2
  exact bodyPost_ret (v := .tuple #[zS, .int .i64 4]) (by simp [results, Tryz.results21, go_sem, k0, k1, k2, k3, k4]) rfl ⟨rfl, by go_grown⟩
set_option maxRecDepth 20000 in set_option maxHeartbeats 1000000 in
theorem rparse_no (s a b c d g : ByteArray) (w : World) (E : Env w) (hs : s.size ≤ 1000000) (hcut : cutR s = [a, b, c, d, g]) (hok : okS (rrd a) (rrd b) c (rrd d) (rrd g) = false) (ht : True) (ha : a.size ≤ 1000000) (hb : b.size ≤ 1000000) (hc : c.size ≤ 1000000) (hd : d.size ≤ 1000000) (hg : g.size ≤ 1000000) :
    Calls Tryz.prog 21 #[.string s] w fun e w' => e = .returned (.tuple #[zS, .int .i64 4]) ∧ Below w.heap.size w w' := by
  have HS := Lib.hid (fun w => rcut_any s w hs)
  rw [hcut] at HS
  have Hok := Lib.hid hok
  have Ht := Lib.hid ht
  clear hcut hok ht
  go_enter Tryz.func21, Tryz.ntmps21
  go_wp2_with fail
  refine (HS.out _).mono ?_
  rintro e w1 ⟨v, rfl, hown, hb1⟩
  obtain ⟨A, cap0, rfl⟩ := own_form hown
  obtain ⟨g0, rfl, hg0, hg1, hcs⟩ := own_cells hown
  have a0 := hcs 0 _ rfl
  have a1 := hcs 1 _ rfl
  have a2 := hcs 2 _ rfl
  have a3 := hcs 3 _ rfl
  have a4 := hcs 4 _ rfl
  clear hown hcs
  obtain ⟨hc1, hf1⟩ := bcell hb1
  (have hz1 := hb1.size; (try simp at hz1); replace hb1 := below_to (w := w) hb1 (by go_grown) (by first | omega | (simp <;> omega)); have hs1 := hb1.size)
  have f0 : ∀ i, w1.frozen? ⟨w.heap.size, i, none⟩ = false := fun i => by rw [hf1 _ _ (by simp)]; simp
  have k0 : w1.cell? ⟨w.heap.size, 0, none⟩ = some (.int .i64 0) := by rw [hc1 _ _ (by simp)]; simp
  have k1 : w1.cell? ⟨w.heap.size, 1, none⟩ = some (.int .i64 0) := by rw [hc1 _ _ (by simp)]; simp
  have k2 : w1.cell? ⟨w.heap.size, 2, none⟩ = some (.string ⟨#[]⟩) := by rw [hc1 _ _ (by simp)]; simp
  have k3 : w1.cell? ⟨w.heap.size, 3, none⟩ = some (.int .i64 0) := by rw [hc1 _ _ (by simp)]; simp
  have k4 : w1.cell? ⟨w.heap.size, 4, none⟩ = some (.int .i64 0) := by rw [hc1 _ _ (by simp)]; simp
  clear hc1 hf1
  simp at hg0
  have E1 := E.below hb1
  have hw1 : w.heap.size < w1.heap.size := by omega
  go_wp2_with fail
  refine wp_region_plan 23 [(none, []), (none, []), (none, []), (none, []), (none, []), (none, []), (none, []), (none, []), (none, []), (none, []), (none, []), (none, []), (none, []), (none, []), (none, []), (none, []), (none, []), (none, []), (none, []), (none, []), (none, []), (none, []), (some (BoxAt w1.heap.size 37 [.int .i64 0, .int .i64 0, .string ⟨#[]⟩, .int .i64 0, .int .i64 0]), [])] [22] (by kernel_rfl) (by kernel_rfl) ?_
  simp only [List.take_succ_cons, List.take_zero]
  refine plan_run (v := ?_) rfl (fun _ => rfl) ?_ ?_
  rotate_left
  · intro ρ w' hT
    obtain ⟨hcT, hfT⟩ := bcell hT
    go_simp
    try with_reducible rfl
  simp only [Act.put, List.setIfInBounds_toArray, List.set_cons_zero, List.set_cons_succ]
  refine plan_run (v := ?_) rfl (fun _ => rfl) ?_ ?_
  rotate_left
  · intro ρ w' hT
    obtain ⟨hcT, hfT⟩ := bcell hT
    go_simp
    try with_reducible rfl
  simp only [Act.put, List.setIfInBounds_toArray, List.set_cons_zero, List.set_cons_succ]
  refine plan_run (v := ?_) rfl (fun _ => rfl) ?_ ?_
  rotate_left
  · intro ρ w' hT
    obtain ⟨hcT, hfT⟩ := bcell hT
    go_simp
    try with_reducible rfl
  simp only [Act.put, List.setIfInBounds_toArray, List.set_cons_zero, List.set_cons_succ]
  refine plan_const (v := .int .i64 (rrd a)) rfl (fun _ => rfl) ?_ ?_
  · intro ρ w' hT hF
    go_simp
    refine (rread_any a w' (E1.below hT) ha).mono ?_
    rintro e w'' ⟨rfl, hb⟩
    exact ⟨_, rfl, rfl, hb⟩
  simp only [Act.put, List.setIfInBounds_toArray, List.set_cons_zero, List.set_cons_succ]
  refine plan_run (v := ?_) rfl (fun _ => rfl) ?_ ?_
  rotate_left
  · intro ρ w' hT
    obtain ⟨hcT, hfT⟩ := bcell hT
    go_simp
    try with_reducible rfl
  simp only [Act.put, List.setIfInBounds_toArray, List.set_cons_zero, List.set_cons_succ]
  refine plan_run (v := ?_) rfl (fun _ => rfl) ?_ ?_
  rotate_left
  · intro ρ w' hT
    obtain ⟨hcT, hfT⟩ := bcell hT
    go_simp
    try with_reducible rfl
  simp only [Act.put, List.setIfInBounds_toArray, List.set_cons_zero, List.set_cons_succ]
  refine plan_run (v := ?_) rfl (fun _ => rfl) ?_ ?_
  rotate_left
  · intro ρ w' hT
    obtain ⟨hcT, hfT⟩ := bcell hT
    go_simp
    try with_reducible rfl
  simp only [Act.put, List.setIfInBounds_toArray, List.set_cons_zero, List.set_cons_succ]
  refine plan_const (v := .int .i64 (rrd b)) rfl (fun _ => rfl) ?_ ?_
  · intro ρ w' hT hF
    go_simp
    refine (rread_any b w' (E1.below hT) hb).mono ?_
    rintro e w'' ⟨rfl, hb⟩
    exact ⟨_, rfl, rfl, hb⟩
  simp only [Act.put, List.setIfInBounds_toArray, List.set_cons_zero, List.set_cons_succ]
  refine plan_run (v := ?_) rfl (fun _ => rfl) ?_ ?_
  rotate_left
  · intro ρ w' hT
    obtain ⟨hcT, hfT⟩ := bcell hT
    go_simp
    try with_reducible rfl
  simp only [Act.put, List.setIfInBounds_toArray, List.set_cons_zero, List.set_cons_succ]
  refine plan_run (v := ?_) rfl (fun _ => rfl) ?_ ?_
  rotate_left
  · intro ρ w' hT
    obtain ⟨hcT, hfT⟩ := bcell hT
    go_simp
    try with_reducible rfl
  simp only [Act.put, List.setIfInBounds_toArray, List.set_cons_zero, List.set_cons_succ]
  refine plan_run (v := ?_) rfl (fun _ => rfl) ?_ ?_
  rotate_left
  · intro ρ w' hT
    obtain ⟨hcT, hfT⟩ := bcell hT
    go_simp
    try with_reducible rfl
  simp only [Act.put, List.setIfInBounds_toArray, List.set_cons_zero, List.set_cons_succ]
  refine plan_run (v := ?_) rfl (fun _ => rfl) ?_ ?_
  rotate_left
  · intro ρ w' hT
    obtain ⟨hcT, hfT⟩ := bcell hT
    go_simp
    try with_reducible rfl
  simp only [Act.put, List.setIfInBounds_toArray, List.set_cons_zero, List.set_cons_succ]
  refine plan_run (v := ?_) rfl (fun _ => rfl) ?_ ?_
  rotate_left
  · intro ρ w' hT
    obtain ⟨hcT, hfT⟩ := bcell hT
    go_simp
    try with_reducible rfl
  simp only [Act.put, List.setIfInBounds_toArray, List.set_cons_zero, List.set_cons_succ]
  refine plan_run (v := ?_) rfl (fun _ => rfl) ?_ ?_
  rotate_left
  · intro ρ w' hT
    obtain ⟨hcT, hfT⟩ := bcell hT
    go_simp
    try with_reducible rfl
  simp only [Act.put, List.setIfInBounds_toArray, List.set_cons_zero, List.set_cons_succ]
  refine plan_run (v := ?_) rfl (fun _ => rfl) ?_ ?_
  rotate_left
  · intro ρ w' hT
    obtain ⟨hcT, hfT⟩ := bcell hT
    go_simp
    try with_reducible rfl
  simp only [Act.put, List.setIfInBounds_toArray, List.set_cons_zero, List.set_cons_succ]
  refine plan_const (v := .int .i64 (rrd d)) rfl (fun _ => rfl) ?_ ?_
  · intro ρ w' hT hF
    go_simp
    refine (rread_any d w' (E1.below hT) hd).mono ?_
    rintro e w'' ⟨rfl, hb⟩
    exact ⟨_, rfl, rfl, hb⟩
  simp only [Act.put, List.setIfInBounds_toArray, List.set_cons_zero, List.set_cons_succ]
  refine plan_run (v := ?_) rfl (fun _ => rfl) ?_ ?_
  rotate_left
  · intro ρ w' hT
    obtain ⟨hcT, hfT⟩ := bcell hT
    go_simp
    try with_reducible rfl
  simp only [Act.put, List.setIfInBounds_toArray, List.set_cons_zero, List.set_cons_succ]
  refine plan_run (v := ?_) rfl (fun _ => rfl) ?_ ?_
  rotate_left
  · intro ρ w' hT
    obtain ⟨hcT, hfT⟩ := bcell hT
    go_simp
    try with_reducible rfl
  simp only [Act.put, List.setIfInBounds_toArray, List.set_cons_zero, List.set_cons_succ]
  refine plan_run (v := ?_) rfl (fun _ => rfl) ?_ ?_
  rotate_left
  · intro ρ w' hT
    obtain ⟨hcT, hfT⟩ := bcell hT
    go_simp
    try with_reducible rfl
  simp only [Act.put, List.setIfInBounds_toArray, List.set_cons_zero, List.set_cons_succ]
  refine plan_run (v := ?_) rfl (fun _ => rfl) ?_ ?_
  rotate_left
  · intro ρ w' hT
    obtain ⟨hcT, hfT⟩ := bcell hT
    go_simp
    try with_reducible rfl
  simp only [Act.put, List.setIfInBounds_toArray, List.set_cons_zero, List.set_cons_succ]
  refine plan_const (v := .int .i64 (rrd g)) rfl (fun _ => rfl) ?_ ?_
  · intro ρ w' hT hF
    go_simp
    refine (rread_any g w' (E1.below hT) hg).mono ?_
    rintro e w'' ⟨rfl, hb⟩
    exact ⟨_, rfl, rfl, hb⟩
  simp only [Act.put, List.setIfInBounds_toArray, List.set_cons_zero, List.set_cons_succ]
  refine plan_run (v := ?_) rfl (fun _ => rfl) ?_ ?_
  rotate_left
  · intro ρ w' hT
    obtain ⟨hcT, hfT⟩ := bcell hT
    go_simp
    try with_reducible rfl
  simp only [Act.put, List.setIfInBounds_toArray, List.set_cons_zero, List.set_cons_succ]
  refine plan_fact rfl (BoxAt.lasts _ _ _) (fun _ => rfl) ?_ ?_
  · intro ρ w' hT hF
    have hz := hT.size
    go_simp
    exact ⟨BoxAt.new _ _ _ (by omega), below_alloc _ _⟩
  simp only [Act.put, List.setIfInBounds_toArray, List.set_cons_zero, List.set_cons_succ]
  intro ρ w2 hT hF
  obtain ⟨f8, _⟩ := hF
  obtain ⟨B, eB, hB0, hB1, hcB, hfB⟩ := BoxAt.open f8
  clear f8
  simp only [List.drop_succ_cons, List.drop_zero, Nat.zero_add, Nat.reduceAdd, eB]
  have b0 : w2.cell? ⟨B, 0, none⟩ = some (.int .i64 0) := hcB 0
  have b1 : w2.cell? ⟨B, 1, none⟩ = some (.int .i64 0) := hcB 1
  have b2 : w2.cell? ⟨B, 2, none⟩ = some (.string ⟨#[]⟩) := hcB 2
  have b3 : w2.cell? ⟨B, 3, none⟩ = some (.int .i64 0) := hcB 3
  have b4 : w2.cell? ⟨B, 4, none⟩ = some (.int .i64 0) := hcB 4
  clear hcB
  obtain ⟨n0, n1, n2, n3, n4⟩ := set5 (v0 := .int .i64 (rrd a)) (v1 := .int .i64 (rrd b)) (v2 := .string c) (v3 := .int .i64 (rrd d)) (v4 := .int .i64 (rrd g)) b0 b1 b2 b3 b4
  have k0 := cell_on hT hw1 k0
  have k1 := cell_on hT hw1 k1
  have k2 := cell_on hT hw1 k2
  have k3 := cell_on hT hw1 k3
  have k4 := cell_on hT hw1 k4
  have f0 : ∀ i, w2.frozen? ⟨w.heap.size, i, none⟩ = false := fun i => (hT.frozen (p := ⟨w.heap.size, i, none⟩) hw1).trans (f0 i)
  have hne : w.heap.size ≠ B := by omega
  have hb2 := below_step hb1 hT
  have hb3 : Below w.heap.size w (((((w2.setCell ⟨B, 0, none⟩ (.int .i64 (rrd a))).setCell ⟨B, 1, none⟩ (.int .i64 (rrd b))).setCell ⟨B, 2, none⟩ (.string c)).setCell ⟨B, 3, none⟩ (.int .i64 (rrd d))).setCell ⟨B, 4, none⟩ (.int .i64 (rrd g))) := by go_grown
  have hz3 : (((((w2.setCell ⟨B, 0, none⟩ (.int .i64 (rrd a))).setCell ⟨B, 1, none⟩ (.int .i64 (rrd b))).setCell ⟨B, 2, none⟩ (.string c)).setCell ⟨B, 3, none⟩ (.int .i64 (rrd d))).setCell ⟨B, 4, none⟩ (.int .i64 (rrd g))).heap.size = w2.heap.size := by simp
  have K0 : (((((w2.setCell ⟨B, 0, none⟩ (.int .i64 (rrd a))).setCell ⟨B, 1, none⟩ (.int .i64 (rrd b))).setCell ⟨B, 2, none⟩ (.string c)).setCell ⟨B, 3, none⟩ (.int .i64 (rrd d))).setCell ⟨B, 4, none⟩ (.int .i64 (rrd g))).cell? ⟨w.heap.size, 0, none⟩ = some (.int .i64 0) := by rw [World.cell?_setCell_far _ _ _ _ (Ne.symm hne), World.cell?_setCell_far _ _ _ _ (Ne.symm hne), World.cell?_setCell_far _ _ _ _ (Ne.symm hne), World.cell?_setCell_far _ _ _ _ (Ne.symm hne), World.cell?_setCell_far _ _ _ _ (Ne.symm hne)]; exact k0
  have K1 : (((((w2.setCell ⟨B, 0, none⟩ (.int .i64 (rrd a))).setCell ⟨B, 1, none⟩ (.int .i64 (rrd b))).setCell ⟨B, 2, none⟩ (.string c)).setCell ⟨B, 3, none⟩ (.int .i64 (rrd d))).setCell ⟨B, 4, none⟩ (.int .i64 (rrd g))).cell? ⟨w.heap.size, 1, none⟩ = some (.int .i64 0) := by rw [World.cell?_setCell_far _ _ _ _ (Ne.symm hne), World.cell?_setCell_far _ _ _ _ (Ne.symm hne), World.cell?_setCell_far _ _ _ _ (Ne.symm hne), World.cell?_setCell_far _ _ _ _ (Ne.symm hne), World.cell?_setCell_far _ _ _ _ (Ne.symm hne)]; exact k1
  have K2 : (((((w2.setCell ⟨B, 0, none⟩ (.int .i64 (rrd a))).setCell ⟨B, 1, none⟩ (.int .i64 (rrd b))).setCell ⟨B, 2, none⟩ (.string c)).setCell ⟨B, 3, none⟩ (.int .i64 (rrd d))).setCell ⟨B, 4, none⟩ (.int .i64 (rrd g))).cell? ⟨w.heap.size, 2, none⟩ = some (.string ⟨#[]⟩) := by rw [World.cell?_setCell_far _ _ _ _ (Ne.symm hne), World.cell?_setCell_far _ _ _ _ (Ne.symm hne), World.cell?_setCell_far _ _ _ _ (Ne.symm hne), World.cell?_setCell_far _ _ _ _ (Ne.symm hne), World.cell?_setCell_far _ _ _ _ (Ne.symm hne)]; exact k2
  have K3 : (((((w2.setCell ⟨B, 0, none⟩ (.int .i64 (rrd a))).setCell ⟨B, 1, none⟩ (.int .i64 (rrd b))).setCell ⟨B, 2, none⟩ (.string c)).setCell ⟨B, 3, none⟩ (.int .i64 (rrd d))).setCell ⟨B, 4, none⟩ (.int .i64 (rrd g))).cell? ⟨w.heap.size, 3, none⟩ = some (.int .i64 0) := by rw [World.cell?_setCell_far _ _ _ _ (Ne.symm hne), World.cell?_setCell_far _ _ _ _ (Ne.symm hne), World.cell?_setCell_far _ _ _ _ (Ne.symm hne), World.cell?_setCell_far _ _ _ _ (Ne.symm hne), World.cell?_setCell_far _ _ _ _ (Ne.symm hne)]; exact k3
  have K4 : (((((w2.setCell ⟨B, 0, none⟩ (.int .i64 (rrd a))).setCell ⟨B, 1, none⟩ (.int .i64 (rrd b))).setCell ⟨B, 2, none⟩ (.string c)).setCell ⟨B, 3, none⟩ (.int .i64 (rrd d))).setCell ⟨B, 4, none⟩ (.int .i64 (rrd g))).cell? ⟨w.heap.size, 4, none⟩ = some (.int .i64 0) := by rw [World.cell?_setCell_far _ _ _ _ (Ne.symm hne), World.cell?_setCell_far _ _ _ _ (Ne.symm hne), World.cell?_setCell_far _ _ _ _ (Ne.symm hne), World.cell?_setCell_far _ _ _ _ (Ne.symm hne), World.cell?_setCell_far _ _ _ _ (Ne.symm hne)]; exact k4
  have F0 : ∀ i, (((((w2.setCell ⟨B, 0, none⟩ (.int .i64 (rrd a))).setCell ⟨B, 1, none⟩ (.int .i64 (rrd b))).setCell ⟨B, 2, none⟩ (.string c)).setCell ⟨B, 3, none⟩ (.int .i64 (rrd d))).setCell ⟨B, 4, none⟩ (.int .i64 (rrd g))).frozen? ⟨w.heap.size, i, none⟩ = false := fun i => by simp [f0]
  go_wp2_with fail
  generalize ((((w2.setCell ⟨B, 0, none⟩ (.int .i64 (rrd a))).setCell ⟨B, 1, none⟩ (.int .i64 (rrd b))).setCell ⟨B, 2, none⟩ (.string c)).setCell ⟨B, 3, none⟩ (.int .i64 (rrd d))).setCell ⟨B, 4, none⟩ (.int .i64 (rrd g)) = w3 at *
  clear k0 k1 k2 k3 k4 f0 hT b0 b1 b2 b3 b4 hfB hb2
  have hs3 := hb3.size
  have hB3 : B < w3.heap.size := by omega
  have hw3 : w.heap.size < w3.heap.size := by omega
  refine (rstamp_any _ _ _ _ _ _ hc).mono ?_
  rw [Hok.out]
  rintro e w4 ⟨rfl, hb4⟩
  have n0 := cell_on hb4 hB3 n0
  have n1 := cell_on hb4 hB3 n1
  have n2 := cell_on hb4 hB3 n2
  have n3 := cell_on hb4 hB3 n3
  have n4 := cell_on hb4 hB3 n4
  have K0 := cell_on hb4 hw3 K0
  have K1 := cell_on hb4 hw3 K1
  have K2 := cell_on hb4 hw3 K2
  have K3 := cell_on hb4 hw3 K3
  have K4 := cell_on hb4 hw3 K4
  have F0 : ∀ i, w4.frozen? ⟨w.heap.size, i, none⟩ = false := fun i => (hb4.frozen (p := ⟨w.heap.size, i, none⟩) hw3).trans (F0 i)
  have hs4 := hb4.size
  have hw4 : w.heap.size < w4.heap.size := by omega
  replace hb4 := below_step hb3 hb4
  have E4 := E.below hb4
  have hB4 : B < w4.heap.size := by omega
  (go_wp2; exact bodyPost_ret (v := .tuple #[zS, .int .i64 4]) (by simp [results, Tryz.results21, go_sem, K0, K1, K2, K3, K4]) rfl ⟨rfl, by go_grown⟩)
set_option maxRecDepth 20000 in set_option maxHeartbeats 1000000 in
theorem rparse_ne (s a b c d g : ByteArray) (w : World) (E : Env w) (hs : s.size ≤ 1000000) (hcut : cutR s = [a, b, c, d, g]) (hok : okS (rrd a) (rrd b) c (rrd d) (rrd g) = true) (ht : ¬ S (tS (rrd a) (rrd b) c (rrd d) (rrd g)) = s) (ha : a.size ≤ 1000000) (hb : b.size ≤ 1000000) (hc : c.size ≤ 1000000) (hd : d.size ≤ 1000000) (hg : g.size ≤ 1000000) :
    Calls Tryz.prog 21 #[.string s] w fun e w' => e = .returned (.tuple #[zS, .int .i64 4]) ∧ Below w.heap.size w w' := by
  have HS := Lib.hid (fun w => rcut_any s w hs)
  rw [hcut] at HS
  have Hok := Lib.hid hok
  have Ht := Lib.hid ht
  clear hcut hok ht
  go_enter Tryz.func21, Tryz.ntmps21
  go_wp2_with fail
  refine (HS.out _).mono ?_
  rintro e w1 ⟨v, rfl, hown, hb1⟩
  obtain ⟨A, cap0, rfl⟩ := own_form hown
  obtain ⟨g0, rfl, hg0, hg1, hcs⟩ := own_cells hown
  have a0 := hcs 0 _ rfl
  have a1 := hcs 1 _ rfl
  have a2 := hcs 2 _ rfl
  have a3 := hcs 3 _ rfl
  have a4 := hcs 4 _ rfl
  clear hown hcs
  obtain ⟨hc1, hf1⟩ := bcell hb1
  (have hz1 := hb1.size; (try simp at hz1); replace hb1 := below_to (w := w) hb1 (by go_grown) (by first | omega | (simp <;> omega)); have hs1 := hb1.size)
  have f0 : ∀ i, w1.frozen? ⟨w.heap.size, i, none⟩ = false := fun i => by rw [hf1 _ _ (by simp)]; simp
  have k0 : w1.cell? ⟨w.heap.size, 0, none⟩ = some (.int .i64 0) := by rw [hc1 _ _ (by simp)]; simp
  have k1 : w1.cell? ⟨w.heap.size, 1, none⟩ = some (.int .i64 0) := by rw [hc1 _ _ (by simp)]; simp
  have k2 : w1.cell? ⟨w.heap.size, 2, none⟩ = some (.string ⟨#[]⟩) := by rw [hc1 _ _ (by simp)]; simp
  have k3 : w1.cell? ⟨w.heap.size, 3, none⟩ = some (.int .i64 0) := by rw [hc1 _ _ (by simp)]; simp
  have k4 : w1.cell? ⟨w.heap.size, 4, none⟩ = some (.int .i64 0) := by rw [hc1 _ _ (by simp)]; simp
  clear hc1 hf1
  simp at hg0
  have E1 := E.below hb1
  have hw1 : w.heap.size < w1.heap.size := by omega
  go_wp2_with fail
  refine wp_region_plan 23 [(none, []), (none, []), (none, []), (none, []), (none, []), (none, []), (none, []), (none, []), (none, []), (none, []), (none, []), (none, []), (none, []), (none, []), (none, []), (none, []), (none, []), (none, []), (none, []), (none, []), (none, []), (none, []), (some (BoxAt w1.heap.size 37 [.int .i64 0, .int .i64 0, .string ⟨#[]⟩, .int .i64 0, .int .i64 0]), [])] [22] (by kernel_rfl) (by kernel_rfl) ?_
  simp only [List.take_succ_cons, List.take_zero]
  refine plan_run (v := ?_) rfl (fun _ => rfl) ?_ ?_
  rotate_left
  · intro ρ w' hT
    obtain ⟨hcT, hfT⟩ := bcell hT
    go_simp
    try with_reducible rfl
  simp only [Act.put, List.setIfInBounds_toArray, List.set_cons_zero, List.set_cons_succ]
  refine plan_run (v := ?_) rfl (fun _ => rfl) ?_ ?_
  rotate_left
  · intro ρ w' hT
    obtain ⟨hcT, hfT⟩ := bcell hT
    go_simp
    try with_reducible rfl
  simp only [Act.put, List.setIfInBounds_toArray, List.set_cons_zero, List.set_cons_succ]
  refine plan_run (v := ?_) rfl (fun _ => rfl) ?_ ?_
  rotate_left
  · intro ρ w' hT
    obtain ⟨hcT, hfT⟩ := bcell hT
    go_simp
    try with_reducible rfl
  simp only [Act.put, List.setIfInBounds_toArray, List.set_cons_zero, List.set_cons_succ]
  refine plan_const (v := .int .i64 (rrd a)) rfl (fun _ => rfl) ?_ ?_
  · intro ρ w' hT hF
    go_simp
    refine (rread_any a w' (E1.below hT) ha).mono ?_
    rintro e w'' ⟨rfl, hb⟩
    exact ⟨_, rfl, rfl, hb⟩
  simp only [Act.put, List.setIfInBounds_toArray, List.set_cons_zero, List.set_cons_succ]
  refine plan_run (v := ?_) rfl (fun _ => rfl) ?_ ?_
  rotate_left
  · intro ρ w' hT
    obtain ⟨hcT, hfT⟩ := bcell hT
    go_simp
    try with_reducible rfl
  simp only [Act.put, List.setIfInBounds_toArray, List.set_cons_zero, List.set_cons_succ]
  refine plan_run (v := ?_) rfl (fun _ => rfl) ?_ ?_
  rotate_left
  · intro ρ w' hT
    obtain ⟨hcT, hfT⟩ := bcell hT
    go_simp
    try with_reducible rfl
  simp only [Act.put, List.setIfInBounds_toArray, List.set_cons_zero, List.set_cons_succ]
  refine plan_run (v := ?_) rfl (fun _ => rfl) ?_ ?_
  rotate_left
  · intro ρ w' hT
    obtain ⟨hcT, hfT⟩ := bcell hT
    go_simp
    try with_reducible rfl
  simp only [Act.put, List.setIfInBounds_toArray, List.set_cons_zero, List.set_cons_succ]
  refine plan_const (v := .int .i64 (rrd b)) rfl (fun _ => rfl) ?_ ?_
  · intro ρ w' hT hF
    go_simp
    refine (rread_any b w' (E1.below hT) hb).mono ?_
    rintro e w'' ⟨rfl, hb⟩
    exact ⟨_, rfl, rfl, hb⟩
  simp only [Act.put, List.setIfInBounds_toArray, List.set_cons_zero, List.set_cons_succ]
  refine plan_run (v := ?_) rfl (fun _ => rfl) ?_ ?_
  rotate_left
  · intro ρ w' hT
    obtain ⟨hcT, hfT⟩ := bcell hT
    go_simp
    try with_reducible rfl
  simp only [Act.put, List.setIfInBounds_toArray, List.set_cons_zero, List.set_cons_succ]
  refine plan_run (v := ?_) rfl (fun _ => rfl) ?_ ?_
  rotate_left
  · intro ρ w' hT
    obtain ⟨hcT, hfT⟩ := bcell hT
    go_simp
    try with_reducible rfl
  simp only [Act.put, List.setIfInBounds_toArray, List.set_cons_zero, List.set_cons_succ]
  refine plan_run (v := ?_) rfl (fun _ => rfl) ?_ ?_
  rotate_left
  · intro ρ w' hT
    obtain ⟨hcT, hfT⟩ := bcell hT
    go_simp
    try with_reducible rfl
  simp only [Act.put, List.setIfInBounds_toArray, List.set_cons_zero, List.set_cons_succ]
  refine plan_run (v := ?_) rfl (fun _ => rfl) ?_ ?_
  rotate_left
  · intro ρ w' hT
    obtain ⟨hcT, hfT⟩ := bcell hT
    go_simp
    try with_reducible rfl
  simp only [Act.put, List.setIfInBounds_toArray, List.set_cons_zero, List.set_cons_succ]
  refine plan_run (v := ?_) rfl (fun _ => rfl) ?_ ?_
  rotate_left
  · intro ρ w' hT
    obtain ⟨hcT, hfT⟩ := bcell hT
    go_simp
    try with_reducible rfl
  simp only [Act.put, List.setIfInBounds_toArray, List.set_cons_zero, List.set_cons_succ]
  refine plan_run (v := ?_) rfl (fun _ => rfl) ?_ ?_
  rotate_left
  · intro ρ w' hT
    obtain ⟨hcT, hfT⟩ := bcell hT
    go_simp
    try with_reducible rfl
  simp only [Act.put, List.setIfInBounds_toArray, List.set_cons_zero, List.set_cons_succ]
  refine plan_run (v := ?_) rfl (fun _ => rfl) ?_ ?_
  rotate_left
  · intro ρ w' hT
    obtain ⟨hcT, hfT⟩ := bcell hT
    go_simp
    try with_reducible rfl
  simp only [Act.put, List.setIfInBounds_toArray, List.set_cons_zero, List.set_cons_succ]
  refine plan_const (v := .int .i64 (rrd d)) rfl (fun _ => rfl) ?_ ?_
  · intro ρ w' hT hF
    go_simp
    refine (rread_any d w' (E1.below hT) hd).mono ?_
    rintro e w'' ⟨rfl, hb⟩
    exact ⟨_, rfl, rfl, hb⟩
  simp only [Act.put, List.setIfInBounds_toArray, List.set_cons_zero, List.set_cons_succ]
  refine plan_run (v := ?_) rfl (fun _ => rfl) ?_ ?_
  rotate_left
  · intro ρ w' hT
    obtain ⟨hcT, hfT⟩ := bcell hT
    go_simp
    try with_reducible rfl
  simp only [Act.put, List.setIfInBounds_toArray, List.set_cons_zero, List.set_cons_succ]
  refine plan_run (v := ?_) rfl (fun _ => rfl) ?_ ?_
  rotate_left
  · intro ρ w' hT
    obtain ⟨hcT, hfT⟩ := bcell hT
    go_simp
    try with_reducible rfl
  simp only [Act.put, List.setIfInBounds_toArray, List.set_cons_zero, List.set_cons_succ]
  refine plan_run (v := ?_) rfl (fun _ => rfl) ?_ ?_
  rotate_left
  · intro ρ w' hT
    obtain ⟨hcT, hfT⟩ := bcell hT
    go_simp
    try with_reducible rfl
  simp only [Act.put, List.setIfInBounds_toArray, List.set_cons_zero, List.set_cons_succ]
  refine plan_run (v := ?_) rfl (fun _ => rfl) ?_ ?_
  rotate_left
  · intro ρ w' hT
    obtain ⟨hcT, hfT⟩ := bcell hT
    go_simp
    try with_reducible rfl
  simp only [Act.put, List.setIfInBounds_toArray, List.set_cons_zero, List.set_cons_succ]
  refine plan_const (v := .int .i64 (rrd g)) rfl (fun _ => rfl) ?_ ?_
  · intro ρ w' hT hF
    go_simp
    refine (rread_any g w' (E1.below hT) hg).mono ?_
    rintro e w'' ⟨rfl, hb⟩
    exact ⟨_, rfl, rfl, hb⟩
  simp only [Act.put, List.setIfInBounds_toArray, List.set_cons_zero, List.set_cons_succ]
  refine plan_run (v := ?_) rfl (fun _ => rfl) ?_ ?_
  rotate_left
  · intro ρ w' hT
    obtain ⟨hcT, hfT⟩ := bcell hT
    go_simp
    try with_reducible rfl
  simp only [Act.put, List.setIfInBounds_toArray, List.set_cons_zero, List.set_cons_succ]
  refine plan_fact rfl (BoxAt.lasts _ _ _) (fun _ => rfl) ?_ ?_
  · intro ρ w' hT hF
    have hz := hT.size
    go_simp
    exact ⟨BoxAt.new _ _ _ (by omega), below_alloc _ _⟩
  simp only [Act.put, List.setIfInBounds_toArray, List.set_cons_zero, List.set_cons_succ]
  intro ρ w2 hT hF
  obtain ⟨f8, _⟩ := hF
  obtain ⟨B, eB, hB0, hB1, hcB, hfB⟩ := BoxAt.open f8
  clear f8
  simp only [List.drop_succ_cons, List.drop_zero, Nat.zero_add, Nat.reduceAdd, eB]
  have b0 : w2.cell? ⟨B, 0, none⟩ = some (.int .i64 0) := hcB 0
  have b1 : w2.cell? ⟨B, 1, none⟩ = some (.int .i64 0) := hcB 1
  have b2 : w2.cell? ⟨B, 2, none⟩ = some (.string ⟨#[]⟩) := hcB 2
  have b3 : w2.cell? ⟨B, 3, none⟩ = some (.int .i64 0) := hcB 3
  have b4 : w2.cell? ⟨B, 4, none⟩ = some (.int .i64 0) := hcB 4
  clear hcB
  obtain ⟨n0, n1, n2, n3, n4⟩ := set5 (v0 := .int .i64 (rrd a)) (v1 := .int .i64 (rrd b)) (v2 := .string c) (v3 := .int .i64 (rrd d)) (v4 := .int .i64 (rrd g)) b0 b1 b2 b3 b4
  have k0 := cell_on hT hw1 k0
  have k1 := cell_on hT hw1 k1
  have k2 := cell_on hT hw1 k2
  have k3 := cell_on hT hw1 k3
  have k4 := cell_on hT hw1 k4
  have f0 : ∀ i, w2.frozen? ⟨w.heap.size, i, none⟩ = false := fun i => (hT.frozen (p := ⟨w.heap.size, i, none⟩) hw1).trans (f0 i)
  have hne : w.heap.size ≠ B := by omega
  have hb2 := below_step hb1 hT
  have hb3 : Below w.heap.size w (((((w2.setCell ⟨B, 0, none⟩ (.int .i64 (rrd a))).setCell ⟨B, 1, none⟩ (.int .i64 (rrd b))).setCell ⟨B, 2, none⟩ (.string c)).setCell ⟨B, 3, none⟩ (.int .i64 (rrd d))).setCell ⟨B, 4, none⟩ (.int .i64 (rrd g))) := by go_grown
  have hz3 : (((((w2.setCell ⟨B, 0, none⟩ (.int .i64 (rrd a))).setCell ⟨B, 1, none⟩ (.int .i64 (rrd b))).setCell ⟨B, 2, none⟩ (.string c)).setCell ⟨B, 3, none⟩ (.int .i64 (rrd d))).setCell ⟨B, 4, none⟩ (.int .i64 (rrd g))).heap.size = w2.heap.size := by simp
  have K0 : (((((w2.setCell ⟨B, 0, none⟩ (.int .i64 (rrd a))).setCell ⟨B, 1, none⟩ (.int .i64 (rrd b))).setCell ⟨B, 2, none⟩ (.string c)).setCell ⟨B, 3, none⟩ (.int .i64 (rrd d))).setCell ⟨B, 4, none⟩ (.int .i64 (rrd g))).cell? ⟨w.heap.size, 0, none⟩ = some (.int .i64 0) := by rw [World.cell?_setCell_far _ _ _ _ (Ne.symm hne), World.cell?_setCell_far _ _ _ _ (Ne.symm hne), World.cell?_setCell_far _ _ _ _ (Ne.symm hne), World.cell?_setCell_far _ _ _ _ (Ne.symm hne), World.cell?_setCell_far _ _ _ _ (Ne.symm hne)]; exact k0
  have K1 : (((((w2.setCell ⟨B, 0, none⟩ (.int .i64 (rrd a))).setCell ⟨B, 1, none⟩ (.int .i64 (rrd b))).setCell ⟨B, 2, none⟩ (.string c)).setCell ⟨B, 3, none⟩ (.int .i64 (rrd d))).setCell ⟨B, 4, none⟩ (.int .i64 (rrd g))).cell? ⟨w.heap.size, 1, none⟩ = some (.int .i64 0) := by rw [World.cell?_setCell_far _ _ _ _ (Ne.symm hne), World.cell?_setCell_far _ _ _ _ (Ne.symm hne), World.cell?_setCell_far _ _ _ _ (Ne.symm hne), World.cell?_setCell_far _ _ _ _ (Ne.symm hne), World.cell?_setCell_far _ _ _ _ (Ne.symm hne)]; exact k1
  have K2 : (((((w2.setCell ⟨B, 0, none⟩ (.int .i64 (rrd a))).setCell ⟨B, 1, none⟩ (.int .i64 (rrd b))).setCell ⟨B, 2, none⟩ (.string c)).setCell ⟨B, 3, none⟩ (.int .i64 (rrd d))).setCell ⟨B, 4, none⟩ (.int .i64 (rrd g))).cell? ⟨w.heap.size, 2, none⟩ = some (.string ⟨#[]⟩) := by rw [World.cell?_setCell_far _ _ _ _ (Ne.symm hne), World.cell?_setCell_far _ _ _ _ (Ne.symm hne), World.cell?_setCell_far _ _ _ _ (Ne.symm hne), World.cell?_setCell_far _ _ _ _ (Ne.symm hne), World.cell?_setCell_far _ _ _ _ (Ne.symm hne)]; exact k2
  have K3 : (((((w2.setCell ⟨B, 0, none⟩ (.int .i64 (rrd a))).setCell ⟨B, 1, none⟩ (.int .i64 (rrd b))).setCell ⟨B, 2, none⟩ (.string c)).setCell ⟨B, 3, none⟩ (.int .i64 (rrd d))).setCell ⟨B, 4, none⟩ (.int .i64 (rrd g))).cell? ⟨w.heap.size, 3, none⟩ = some (.int .i64 0) := by rw [World.cell?_setCell_far _ _ _ _ (Ne.symm hne), World.cell?_setCell_far _ _ _ _ (Ne.symm hne), World.cell?_setCell_far _ _ _ _ (Ne.symm hne), World.cell?_setCell_far _ _ _ _ (Ne.symm hne), World.cell?_setCell_far _ _ _ _ (Ne.symm hne)]; exact k3
  have K4 : (((((w2.setCell ⟨B, 0, none⟩ (.int .i64 (rrd a))).setCell ⟨B, 1, none⟩ (.int .i64 (rrd b))).setCell ⟨B, 2, none⟩ (.string c)).setCell ⟨B, 3, none⟩ (.int .i64 (rrd d))).setCell ⟨B, 4, none⟩ (.int .i64 (rrd g))).cell? ⟨w.heap.size, 4, none⟩ = some (.int .i64 0) := by rw [World.cell?_setCell_far _ _ _ _ (Ne.symm hne), World.cell?_setCell_far _ _ _ _ (Ne.symm hne), World.cell?_setCell_far _ _ _ _ (Ne.symm hne), World.cell?_setCell_far _ _ _ _ (Ne.symm hne), World.cell?_setCell_far _ _ _ _ (Ne.symm hne)]; exact k4
  have F0 : ∀ i, (((((w2.setCell ⟨B, 0, none⟩ (.int .i64 (rrd a))).setCell ⟨B, 1, none⟩ (.int .i64 (rrd b))).setCell ⟨B, 2, none⟩ (.string c)).setCell ⟨B, 3, none⟩ (.int .i64 (rrd d))).setCell ⟨B, 4, none⟩ (.int .i64 (rrd g))).frozen? ⟨w.heap.size, i, none⟩ = false := fun i => by simp [f0]
  go_wp2_with fail
  generalize ((((w2.setCell ⟨B, 0, none⟩ (.int .i64 (rrd a))).setCell ⟨B, 1, none⟩ (.int .i64 (rrd b))).setCell ⟨B, 2, none⟩ (.string c)).setCell ⟨B, 3, none⟩ (.int .i64 (rrd d))).setCell ⟨B, 4, none⟩ (.int .i64 (rrd g)) = w3 at *
  clear k0 k1 k2 k3 k4 f0 hT b0 b1 b2 b3 b4 hfB hb2
  have hs3 := hb3.size
  have hB3 : B < w3.heap.size := by omega
  have hw3 : w.heap.size < w3.heap.size := by omega
  refine (rstamp_any _ _ _ _ _ _ hc).mono ?_
  rw [Hok.out]
  rintro e w4 ⟨rfl, hb4⟩
  have n0 := cell_on hb4 hB3 n0
  have n1 := cell_on hb4 hB3 n1
  have n2 := cell_on hb4 hB3 n2
  have n3 := cell_on hb4 hB3 n3
  have n4 := cell_on hb4 hB3 n4
  have K0 := cell_on hb4 hw3 K0
  have K1 := cell_on hb4 hw3 K1
  have K2 := cell_on hb4 hw3 K2
  have K3 := cell_on hb4 hw3 K3
  have K4 := cell_on hb4 hw3 K4
  have F0 : ∀ i, w4.frozen? ⟨w.heap.size, i, none⟩ = false := fun i => (hb4.frozen (p := ⟨w.heap.size, i, none⟩) hw3).trans (F0 i)
  have hs4 := hb4.size
  have hw4 : w.heap.size < w4.heap.size := by omega
  replace hb4 := below_step hb3 hb4
  have E4 := E.below hb4
  have hB4 : B < w4.heap.size := by omega
  ((go_wp2_with fail); refine (rtextStamp_any _ _ _ _ _ _ E4 (okS_r Hok.out).1 (okS_r Hok.out).2.1 (okS_r Hok.out).2.2.1 (okS_r Hok.out).2.2.2.1 (okS_r Hok.out).2.2.2.2.1 (okS_r Hok.out).2.2.2.2.2.1 (okS_r Hok.out).2.2.2.2.2.2.1 (okS_r Hok.out).2.2.2.2.2.2.2 hc).mono ?_; rintro e w5 ⟨rfl, hb5⟩; have n0 := cell_on hb5 hB4 n0; have n1 := cell_on hb5 hB4 n1; have n2 := cell_on hb5 hB4 n2; have n3 := cell_on hb5 hB4 n3; have n4 := cell_on hb5 hB4 n4; have K0 := cell_on hb5 hw4 K0; have K1 := cell_on hb5 hw4 K1; have K2 := cell_on hb5 hw4 K2; have K3 := cell_on hb5 hw4 K3; have K4 := cell_on hb5 hw4 K4; have F0 : ∀ i, w5.frozen? ⟨w.heap.size, i, none⟩ = false := fun i => (hb5.frozen (p := ⟨w.heap.size, i, none⟩) hw4).trans (F0 i); replace hb5 := below_step hb4 hb5; (go_wp2; (· (exact bodyPost_ret (v := .tuple #[zS, .int .i64 4]) (by simp [results, Tryz.results21, go_sem, K0, K1, K2, K3, K4]) rfl ⟨rfl, by go_grown⟩)); (· (exact absurd (toList_ne (by assumption)) Ht.out))))
set_option maxRecDepth 20000 in set_option maxHeartbeats 1000000 in
theorem rparse_yes (s a b c d g : ByteArray) (w : World) (E : Env w) (hs : s.size ≤ 1000000) (hcut : cutR s = [a, b, c, d, g]) (hok : okS (rrd a) (rrd b) c (rrd d) (rrd g) = true) (ht : S (tS (rrd a) (rrd b) c (rrd d) (rrd g)) = s) (ha : a.size ≤ 1000000) (hb : b.size ≤ 1000000) (hc : c.size ≤ 1000000) (hd : d.size ≤ 1000000) (hg : g.size ≤ 1000000) :
    Calls Tryz.prog 21 #[.string s] w fun e w' => e = .returned (.tuple #[vS (rrd a) (rrd b) c (rrd d) (rrd g), .int .i64 0]) ∧ Below w.heap.size w w' := by
  have HS := Lib.hid (fun w => rcut_any s w hs)
  rw [hcut] at HS
  have Hok := Lib.hid hok
  have Ht := Lib.hid ht
  clear hcut hok ht
  go_enter Tryz.func21, Tryz.ntmps21
  go_wp2_with fail
  refine (HS.out _).mono ?_
  rintro e w1 ⟨v, rfl, hown, hb1⟩
  obtain ⟨A, cap0, rfl⟩ := own_form hown
  obtain ⟨g0, rfl, hg0, hg1, hcs⟩ := own_cells hown
  have a0 := hcs 0 _ rfl
  have a1 := hcs 1 _ rfl
  have a2 := hcs 2 _ rfl
  have a3 := hcs 3 _ rfl
  have a4 := hcs 4 _ rfl
  clear hown hcs
  obtain ⟨hc1, hf1⟩ := bcell hb1
  (have hz1 := hb1.size; (try simp at hz1); replace hb1 := below_to (w := w) hb1 (by go_grown) (by first | omega | (simp <;> omega)); have hs1 := hb1.size)
  have f0 : ∀ i, w1.frozen? ⟨w.heap.size, i, none⟩ = false := fun i => by rw [hf1 _ _ (by simp)]; simp
  have k0 : w1.cell? ⟨w.heap.size, 0, none⟩ = some (.int .i64 0) := by rw [hc1 _ _ (by simp)]; simp
  have k1 : w1.cell? ⟨w.heap.size, 1, none⟩ = some (.int .i64 0) := by rw [hc1 _ _ (by simp)]; simp
  have k2 : w1.cell? ⟨w.heap.size, 2, none⟩ = some (.string ⟨#[]⟩) := by rw [hc1 _ _ (by simp)]; simp
  have k3 : w1.cell? ⟨w.heap.size, 3, none⟩ = some (.int .i64 0) := by rw [hc1 _ _ (by simp)]; simp
  have k4 : w1.cell? ⟨w.heap.size, 4, none⟩ = some (.int .i64 0) := by rw [hc1 _ _ (by simp)]; simp
  clear hc1 hf1
  simp at hg0
  have E1 := E.below hb1
  have hw1 : w.heap.size < w1.heap.size := by omega
  go_wp2_with fail
  refine wp_region_plan 23 [(none, []), (none, []), (none, []), (none, []), (none, []), (none, []), (none, []), (none, []), (none, []), (none, []), (none, []), (none, []), (none, []), (none, []), (none, []), (none, []), (none, []), (none, []), (none, []), (none, []), (none, []), (none, []), (some (BoxAt w1.heap.size 37 [.int .i64 0, .int .i64 0, .string ⟨#[]⟩, .int .i64 0, .int .i64 0]), [])] [22] (by kernel_rfl) (by kernel_rfl) ?_
  simp only [List.take_succ_cons, List.take_zero]
  refine plan_run (v := ?_) rfl (fun _ => rfl) ?_ ?_
  rotate_left
  · intro ρ w' hT
    obtain ⟨hcT, hfT⟩ := bcell hT
    go_simp
    try with_reducible rfl
  simp only [Act.put, List.setIfInBounds_toArray, List.set_cons_zero, List.set_cons_succ]
  refine plan_run (v := ?_) rfl (fun _ => rfl) ?_ ?_
  rotate_left
  · intro ρ w' hT
    obtain ⟨hcT, hfT⟩ := bcell hT
    go_simp
    try with_reducible rfl
  simp only [Act.put, List.setIfInBounds_toArray, List.set_cons_zero, List.set_cons_succ]
  refine plan_run (v := ?_) rfl (fun _ => rfl) ?_ ?_
  rotate_left
  · intro ρ w' hT
    obtain ⟨hcT, hfT⟩ := bcell hT
    go_simp
    try with_reducible rfl
  simp only [Act.put, List.setIfInBounds_toArray, List.set_cons_zero, List.set_cons_succ]
  refine plan_const (v := .int .i64 (rrd a)) rfl (fun _ => rfl) ?_ ?_
  · intro ρ w' hT hF
    go_simp
    refine (rread_any a w' (E1.below hT) ha).mono ?_
    rintro e w'' ⟨rfl, hb⟩
    exact ⟨_, rfl, rfl, hb⟩
  simp only [Act.put, List.setIfInBounds_toArray, List.set_cons_zero, List.set_cons_succ]
  refine plan_run (v := ?_) rfl (fun _ => rfl) ?_ ?_
  rotate_left
  · intro ρ w' hT
    obtain ⟨hcT, hfT⟩ := bcell hT
    go_simp
    try with_reducible rfl
  simp only [Act.put, List.setIfInBounds_toArray, List.set_cons_zero, List.set_cons_succ]
  refine plan_run (v := ?_) rfl (fun _ => rfl) ?_ ?_
  rotate_left
  · intro ρ w' hT
    obtain ⟨hcT, hfT⟩ := bcell hT
    go_simp
    try with_reducible rfl
  simp only [Act.put, List.setIfInBounds_toArray, List.set_cons_zero, List.set_cons_succ]
  refine plan_run (v := ?_) rfl (fun _ => rfl) ?_ ?_
  rotate_left
  · intro ρ w' hT
    obtain ⟨hcT, hfT⟩ := bcell hT
    go_simp
    try with_reducible rfl
  simp only [Act.put, List.setIfInBounds_toArray, List.set_cons_zero, List.set_cons_succ]
  refine plan_const (v := .int .i64 (rrd b)) rfl (fun _ => rfl) ?_ ?_
  · intro ρ w' hT hF
    go_simp
    refine (rread_any b w' (E1.below hT) hb).mono ?_
    rintro e w'' ⟨rfl, hb⟩
    exact ⟨_, rfl, rfl, hb⟩
  simp only [Act.put, List.setIfInBounds_toArray, List.set_cons_zero, List.set_cons_succ]
  refine plan_run (v := ?_) rfl (fun _ => rfl) ?_ ?_
  rotate_left
  · intro ρ w' hT
    obtain ⟨hcT, hfT⟩ := bcell hT
    go_simp
    try with_reducible rfl
  simp only [Act.put, List.setIfInBounds_toArray, List.set_cons_zero, List.set_cons_succ]
  refine plan_run (v := ?_) rfl (fun _ => rfl) ?_ ?_
  rotate_left
  · intro ρ w' hT
    obtain ⟨hcT, hfT⟩ := bcell hT
    go_simp
    try with_reducible rfl
  simp only [Act.put, List.setIfInBounds_toArray, List.set_cons_zero, List.set_cons_succ]
  refine plan_run (v := ?_) rfl (fun _ => rfl) ?_ ?_
  rotate_left
  · intro ρ w' hT
    obtain ⟨hcT, hfT⟩ := bcell hT
    go_simp
    try with_reducible rfl
  simp only [Act.put, List.setIfInBounds_toArray, List.set_cons_zero, List.set_cons_succ]
  refine plan_run (v := ?_) rfl (fun _ => rfl) ?_ ?_
  rotate_left
  · intro ρ w' hT
    obtain ⟨hcT, hfT⟩ := bcell hT
    go_simp
    try with_reducible rfl
  simp only [Act.put, List.setIfInBounds_toArray, List.set_cons_zero, List.set_cons_succ]
  refine plan_run (v := ?_) rfl (fun _ => rfl) ?_ ?_
  rotate_left
  · intro ρ w' hT
    obtain ⟨hcT, hfT⟩ := bcell hT
    go_simp
    try with_reducible rfl
  simp only [Act.put, List.setIfInBounds_toArray, List.set_cons_zero, List.set_cons_succ]
  refine plan_run (v := ?_) rfl (fun _ => rfl) ?_ ?_
  rotate_left
  · intro ρ w' hT
    obtain ⟨hcT, hfT⟩ := bcell hT
    go_simp
    try with_reducible rfl
  simp only [Act.put, List.setIfInBounds_toArray, List.set_cons_zero, List.set_cons_succ]
  refine plan_run (v := ?_) rfl (fun _ => rfl) ?_ ?_
  rotate_left
  · intro ρ w' hT
    obtain ⟨hcT, hfT⟩ := bcell hT
    go_simp
    try with_reducible rfl
  simp only [Act.put, List.setIfInBounds_toArray, List.set_cons_zero, List.set_cons_succ]
  refine plan_const (v := .int .i64 (rrd d)) rfl (fun _ => rfl) ?_ ?_
  · intro ρ w' hT hF
    go_simp
    refine (rread_any d w' (E1.below hT) hd).mono ?_
    rintro e w'' ⟨rfl, hb⟩
    exact ⟨_, rfl, rfl, hb⟩
  simp only [Act.put, List.setIfInBounds_toArray, List.set_cons_zero, List.set_cons_succ]
  refine plan_run (v := ?_) rfl (fun _ => rfl) ?_ ?_
  rotate_left
  · intro ρ w' hT
    obtain ⟨hcT, hfT⟩ := bcell hT
    go_simp
    try with_reducible rfl
  simp only [Act.put, List.setIfInBounds_toArray, List.set_cons_zero, List.set_cons_succ]
  refine plan_run (v := ?_) rfl (fun _ => rfl) ?_ ?_
  rotate_left
  · intro ρ w' hT
    obtain ⟨hcT, hfT⟩ := bcell hT
    go_simp
    try with_reducible rfl
  simp only [Act.put, List.setIfInBounds_toArray, List.set_cons_zero, List.set_cons_succ]
  refine plan_run (v := ?_) rfl (fun _ => rfl) ?_ ?_
  rotate_left
  · intro ρ w' hT
    obtain ⟨hcT, hfT⟩ := bcell hT
    go_simp
    try with_reducible rfl
  simp only [Act.put, List.setIfInBounds_toArray, List.set_cons_zero, List.set_cons_succ]
  refine plan_run (v := ?_) rfl (fun _ => rfl) ?_ ?_
  rotate_left
  · intro ρ w' hT
    obtain ⟨hcT, hfT⟩ := bcell hT
    go_simp
    try with_reducible rfl
  simp only [Act.put, List.setIfInBounds_toArray, List.set_cons_zero, List.set_cons_succ]
  refine plan_const (v := .int .i64 (rrd g)) rfl (fun _ => rfl) ?_ ?_
  · intro ρ w' hT hF
    go_simp
    refine (rread_any g w' (E1.below hT) hg).mono ?_
    rintro e w'' ⟨rfl, hb⟩
    exact ⟨_, rfl, rfl, hb⟩
  simp only [Act.put, List.setIfInBounds_toArray, List.set_cons_zero, List.set_cons_succ]
  refine plan_run (v := ?_) rfl (fun _ => rfl) ?_ ?_
  rotate_left
  · intro ρ w' hT
    obtain ⟨hcT, hfT⟩ := bcell hT
    go_simp
    try with_reducible rfl
  simp only [Act.put, List.setIfInBounds_toArray, List.set_cons_zero, List.set_cons_succ]
  refine plan_fact rfl (BoxAt.lasts _ _ _) (fun _ => rfl) ?_ ?_
  · intro ρ w' hT hF
    have hz := hT.size
    go_simp
    exact ⟨BoxAt.new _ _ _ (by omega), below_alloc _ _⟩
  simp only [Act.put, List.setIfInBounds_toArray, List.set_cons_zero, List.set_cons_succ]
  intro ρ w2 hT hF
  obtain ⟨f8, _⟩ := hF
  obtain ⟨B, eB, hB0, hB1, hcB, hfB⟩ := BoxAt.open f8
  clear f8
  simp only [List.drop_succ_cons, List.drop_zero, Nat.zero_add, Nat.reduceAdd, eB]
  have b0 : w2.cell? ⟨B, 0, none⟩ = some (.int .i64 0) := hcB 0
  have b1 : w2.cell? ⟨B, 1, none⟩ = some (.int .i64 0) := hcB 1
  have b2 : w2.cell? ⟨B, 2, none⟩ = some (.string ⟨#[]⟩) := hcB 2
  have b3 : w2.cell? ⟨B, 3, none⟩ = some (.int .i64 0) := hcB 3
  have b4 : w2.cell? ⟨B, 4, none⟩ = some (.int .i64 0) := hcB 4
  clear hcB
  obtain ⟨n0, n1, n2, n3, n4⟩ := set5 (v0 := .int .i64 (rrd a)) (v1 := .int .i64 (rrd b)) (v2 := .string c) (v3 := .int .i64 (rrd d)) (v4 := .int .i64 (rrd g)) b0 b1 b2 b3 b4
  have k0 := cell_on hT hw1 k0
  have k1 := cell_on hT hw1 k1
  have k2 := cell_on hT hw1 k2
  have k3 := cell_on hT hw1 k3
  have k4 := cell_on hT hw1 k4
  have f0 : ∀ i, w2.frozen? ⟨w.heap.size, i, none⟩ = false := fun i => (hT.frozen (p := ⟨w.heap.size, i, none⟩) hw1).trans (f0 i)
  have hne : w.heap.size ≠ B := by omega
  have hb2 := below_step hb1 hT
  have hb3 : Below w.heap.size w (((((w2.setCell ⟨B, 0, none⟩ (.int .i64 (rrd a))).setCell ⟨B, 1, none⟩ (.int .i64 (rrd b))).setCell ⟨B, 2, none⟩ (.string c)).setCell ⟨B, 3, none⟩ (.int .i64 (rrd d))).setCell ⟨B, 4, none⟩ (.int .i64 (rrd g))) := by go_grown
  have hz3 : (((((w2.setCell ⟨B, 0, none⟩ (.int .i64 (rrd a))).setCell ⟨B, 1, none⟩ (.int .i64 (rrd b))).setCell ⟨B, 2, none⟩ (.string c)).setCell ⟨B, 3, none⟩ (.int .i64 (rrd d))).setCell ⟨B, 4, none⟩ (.int .i64 (rrd g))).heap.size = w2.heap.size := by simp
  have K0 : (((((w2.setCell ⟨B, 0, none⟩ (.int .i64 (rrd a))).setCell ⟨B, 1, none⟩ (.int .i64 (rrd b))).setCell ⟨B, 2, none⟩ (.string c)).setCell ⟨B, 3, none⟩ (.int .i64 (rrd d))).setCell ⟨B, 4, none⟩ (.int .i64 (rrd g))).cell? ⟨w.heap.size, 0, none⟩ = some (.int .i64 0) := by rw [World.cell?_setCell_far _ _ _ _ (Ne.symm hne), World.cell?_setCell_far _ _ _ _ (Ne.symm hne), World.cell?_setCell_far _ _ _ _ (Ne.symm hne), World.cell?_setCell_far _ _ _ _ (Ne.symm hne), World.cell?_setCell_far _ _ _ _ (Ne.symm hne)]; exact k0
  have K1 : (((((w2.setCell ⟨B, 0, none⟩ (.int .i64 (rrd a))).setCell ⟨B, 1, none⟩ (.int .i64 (rrd b))).setCell ⟨B, 2, none⟩ (.string c)).setCell ⟨B, 3, none⟩ (.int .i64 (rrd d))).setCell ⟨B, 4, none⟩ (.int .i64 (rrd g))).cell? ⟨w.heap.size, 1, none⟩ = some (.int .i64 0) := by rw [World.cell?_setCell_far _ _ _ _ (Ne.symm hne), World.cell?_setCell_far _ _ _ _ (Ne.symm hne), World.cell?_setCell_far _ _ _ _ (Ne.symm hne), World.cell?_setCell_far _ _ _ _ (Ne.symm hne), World.cell?_setCell_far _ _ _ _ (Ne.symm hne)]; exact k1
  have K2 : (((((w2.setCell ⟨B, 0, none⟩ (.int .i64 (rrd a))).setCell ⟨B, 1, none⟩ (.int .i64 (rrd b))).setCell ⟨B, 2, none⟩ (.string c)).setCell ⟨B, 3, none⟩ (.int .i64 (rrd d))).setCell ⟨B, 4, none⟩ (.int .i64 (rrd g))).cell? ⟨w.heap.size, 2, none⟩ = some (.string ⟨#[]⟩) := by rw [World.cell?_setCell_far _ _ _ _ (Ne.symm hne), World.cell?_setCell_far _ _ _ _ (Ne.symm hne), World.cell?_setCell_far _ _ _ _ (Ne.symm hne), World.cell?_setCell_far _ _ _ _ (Ne.symm hne), World.cell?_setCell_far _ _ _ _ (Ne.symm hne)]; exact k2
  have K3 : (((((w2.setCell ⟨B, 0, none⟩ (.int .i64 (rrd a))).setCell ⟨B, 1, none⟩ (.int .i64 (rrd b))).setCell ⟨B, 2, none⟩ (.string c)).setCell ⟨B, 3, none⟩ (.int .i64 (rrd d))).setCell ⟨B, 4, none⟩ (.int .i64 (rrd g))).cell? ⟨w.heap.size, 3, none⟩ = some (.int .i64 0) := by rw [World.cell?_setCell_far _ _ _ _ (Ne.symm hne), World.cell?_setCell_far _ _ _ _ (Ne.symm hne), World.cell?_setCell_far _ _ _ _ (Ne.symm hne), World.cell?_setCell_far _ _ _ _ (Ne.symm hne), World.cell?_setCell_far _ _ _ _ (Ne.symm hne)]; exact k3
  have K4 : (((((w2.setCell ⟨B, 0, none⟩ (.int .i64 (rrd a))).setCell ⟨B, 1, none⟩ (.int .i64 (rrd b))).setCell ⟨B, 2, none⟩ (.string c)).setCell ⟨B, 3, none⟩ (.int .i64 (rrd d))).setCell ⟨B, 4, none⟩ (.int .i64 (rrd g))).cell? ⟨w.heap.size, 4, none⟩ = some (.int .i64 0) := by rw [World.cell?_setCell_far _ _ _ _ (Ne.symm hne), World.cell?_setCell_far _ _ _ _ (Ne.symm hne), World.cell?_setCell_far _ _ _ _ (Ne.symm hne), World.cell?_setCell_far _ _ _ _ (Ne.symm hne), World.cell?_setCell_far _ _ _ _ (Ne.symm hne)]; exact k4
  have F0 : ∀ i, (((((w2.setCell ⟨B, 0, none⟩ (.int .i64 (rrd a))).setCell ⟨B, 1, none⟩ (.int .i64 (rrd b))).setCell ⟨B, 2, none⟩ (.string c)).setCell ⟨B, 3, none⟩ (.int .i64 (rrd d))).setCell ⟨B, 4, none⟩ (.int .i64 (rrd g))).frozen? ⟨w.heap.size, i, none⟩ = false := fun i => by simp [f0]
  go_wp2_with fail
  generalize ((((w2.setCell ⟨B, 0, none⟩ (.int .i64 (rrd a))).setCell ⟨B, 1, none⟩ (.int .i64 (rrd b))).setCell ⟨B, 2, none⟩ (.string c)).setCell ⟨B, 3, none⟩ (.int .i64 (rrd d))).setCell ⟨B, 4, none⟩ (.int .i64 (rrd g)) = w3 at *
  clear k0 k1 k2 k3 k4 f0 hT b0 b1 b2 b3 b4 hfB hb2
  have hs3 := hb3.size
  have hB3 : B < w3.heap.size := by omega
  have hw3 : w.heap.size < w3.heap.size := by omega
  refine (rstamp_any _ _ _ _ _ _ hc).mono ?_
  rw [Hok.out]
  rintro e w4 ⟨rfl, hb4⟩
  have n0 := cell_on hb4 hB3 n0
  have n1 := cell_on hb4 hB3 n1
  have n2 := cell_on hb4 hB3 n2
  have n3 := cell_on hb4 hB3 n3
  have n4 := cell_on hb4 hB3 n4
  have K0 := cell_on hb4 hw3 K0
  have K1 := cell_on hb4 hw3 K1
  have K2 := cell_on hb4 hw3 K2
  have K3 := cell_on hb4 hw3 K3
  have K4 := cell_on hb4 hw3 K4
  have F0 : ∀ i, w4.frozen? ⟨w.heap.size, i, none⟩ = false := fun i => (hb4.frozen (p := ⟨w.heap.size, i, none⟩) hw3).trans (F0 i)
  have hs4 := hb4.size
  have hw4 : w.heap.size < w4.heap.size := by omega
  replace hb4 := below_step hb3 hb4
  have E4 := E.below hb4
  have hB4 : B < w4.heap.size := by omega
  (have ht' := toList_eq Ht.out; (go_wp2_with fail); refine (rtextStamp_any _ _ _ _ _ _ E4 (okS_r Hok.out).1 (okS_r Hok.out).2.1 (okS_r Hok.out).2.2.1 (okS_r Hok.out).2.2.2.1 (okS_r Hok.out).2.2.2.2.1 (okS_r Hok.out).2.2.2.2.2.1 (okS_r Hok.out).2.2.2.2.2.2.1 (okS_r Hok.out).2.2.2.2.2.2.2 hc).mono ?_; rintro e w5 ⟨rfl, hb5⟩; have n0 := cell_on hb5 hB4 n0; have n1 := cell_on hb5 hB4 n1; have n2 := cell_on hb5 hB4 n2; have n3 := cell_on hb5 hB4 n3; have n4 := cell_on hb5 hB4 n4; have K0 := cell_on hb5 hw4 K0; have K1 := cell_on hb5 hw4 K1; have K2 := cell_on hb5 hw4 K2; have K3 := cell_on hb5 hw4 K3; have K4 := cell_on hb5 hw4 K4; have F0 : ∀ i, w5.frozen? ⟨w.heap.size, i, none⟩ = false := fun i => (hb5.frozen (p := ⟨w.heap.size, i, none⟩) hw4).trans (F0 i); replace hb5 := below_step hb4 hb5; (go_wp2; exact bodyPost_ret (v := .tuple #[vS (rrd a) (rrd b) c (rrd d) (rrd g), .int .i64 0]) (by simp [results, Tryz.results21, go_sem, K0, K1, K2, K3, K4]) rfl ⟨rfl, by go_grown⟩))
end Go.Proofs.YtnldgcgngolkiaaGreatDoor
