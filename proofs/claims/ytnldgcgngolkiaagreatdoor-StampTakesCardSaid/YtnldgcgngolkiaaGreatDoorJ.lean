/- The reference's parsers: the walks. -/
import Derived.Test.YtnldgcgngolkiaaGreatDoorI
import Derived.Test.YtnldgcgngolkiaaGreatDoorN
namespace Go.Proofs.YtnldgcgngolkiaaGreatDoor
open Go.RowKit
set_option linter.unusedVariables false
set_option linter.unusedSimpArgs false
attribute [local go_sem] givesUpon


theorem own_cells {w : World} {base n c : Nat} {e : TypeId} {A : Option Addr} {x : Value} {xs : List Value} (h : w.ownsRow base e 1 (.slice A n c) n (x :: xs)) :
    ∃ g, A = some ⟨g, 0, none⟩ ∧ base ≤ g ∧ g < w.heap.size ∧ ∀ j y, (x :: xs)[j]? = some y → w.cell? ⟨g, j, none⟩ = some y := by
  have hx := h.1
  rcases h.2 with ⟨h0, h1⟩ | ⟨g, cap, cur, hv, hg, hh, r⟩
  · subst h1; simp at hx
  · cases hv
    refine ⟨g, rfl, hg, ?_, fun j y hy => ?_⟩
    · rcases Nat.lt_or_ge g w.heap.size with h2 | h2
      · exact h2
      · rw [Array.getElem?_eq_none h2] at hh; cases hh
    · have := h.cells (g := g) rfl j y hy
      simp only [Addr.add] at this
      split at this
      · rename_i hj; subst hj; exact this
      · simpa using this

set_option maxRecDepth 20000 in set_option maxHeartbeats 1000000 in
theorem rparseBranch_len (s : ByteArray) (w : World) (hs : s.size ≤ 1000000) (h : (cutR s).length ≠ 2) :
    Calls Tryz.prog 17 #[.string s] w fun e w' => e = .returned (.tuple #[zB, .int .i64 4]) ∧ Below w.heap.size w w' := by
  have hn : (((cutR s).length : Int) != 2) = true := by rw [bne_iff_ne]; omega
  clear h
  go_enter Tryz.func17, Tryz.ntmps17
  go_wp2_with fail
  refine (rcut_any _ _ hs).mono ?_
  rintro e w1 ⟨v, rfl, hown, hb1⟩
  obtain ⟨A, c, rfl⟩ := own_form hown
  have Hown := Lib.hid hown
  clear hown
  obtain ⟨hc1, hf1⟩ := bcell hb1
  (have hz1 := hb1.size; (try simp at hz1); replace hb1 := below_to (w := w) hb1 (by go_grown) (by first | omega | (simp <;> omega)); have hs1 := hb1.size)
  have f0 : ∀ i, w1.frozen? ⟨w.heap.size, i, none⟩ = false := fun i => by rw [hf1 _ _ (by simp)]; simp
  have k0 : w1.cell? ⟨w.heap.size, 0, none⟩ = some (.int .i64 0) := by rw [hc1 _ _ (by simp)]; simp
  have k1 : w1.cell? ⟨w.heap.size, 1, none⟩ = some (.string ⟨#[]⟩) := by rw [hc1 _ _ (by simp)]; simp
  clear hc1 hf1
  go_wp2
  exact bodyPost_ret (v := .tuple #[zB, .int .i64 4]) (by simp [results, Tryz.results17, go_sem, k0, k1]) rfl ⟨rfl, by go_grown⟩

theorem okB_rng {r : Int} {l : ByteArray} (h : okB r l = true) : 0 ≤ r ∧ r < 8 := by
  simp [okB] at h; omega
theorem okB_lo {r : Int} {l : ByteArray} (h : okB r l = true) : -9223372036854775808 ≤ r := by
  have := okB_rng h
  omega
theorem okB_hi {r : Int} {l : ByteArray} (h : okB r l = true) : r ≤ 9223372036854775807 := by
  have := okB_rng h
  omega
set_option maxRecDepth 20000 in set_option maxHeartbeats 1000000 in
theorem rparseBranch_no (s a b : ByteArray) (w : World) (E : Env w) (hs : s.size ≤ 1000000) (hd : cutR s = [a, b]) (hok : okB (rrd a) b = false) (ht : True) (ha : a.size ≤ 1000000) (hb : b.size ≤ 1000000) :
    Calls Tryz.prog 17 #[.string s] w fun e w' => e = .returned (.tuple #[zB, .int .i64 4]) ∧ Below w.heap.size w w' := by
  have HS := Lib.hid (fun w => rcut_any s w hs)
  rw [hd] at HS
  have Hok := Lib.hid hok
  have Ht := Lib.hid ht
  clear hd hok ht
  go_enter Tryz.func17, Tryz.ntmps17
  go_wp2_with fail
  refine (HS.out _).mono ?_
  rintro e w1 ⟨v, rfl, hown, hb1⟩
  obtain ⟨A, c, rfl⟩ := own_form hown
  obtain ⟨g, rfl, hg0, hg1, hcs⟩ := own_cells hown
  have a0 := hcs 0 _ rfl
  have a1 := hcs 1 _ rfl
  clear hown hcs
  obtain ⟨hc1, hf1⟩ := bcell hb1
  (have hz1 := hb1.size; (try simp at hz1); replace hb1 := below_to (w := w) hb1 (by go_grown) (by first | omega | (simp <;> omega)); have hs1 := hb1.size)
  have f0 : ∀ i, w1.frozen? ⟨w.heap.size, i, none⟩ = false := fun i => by rw [hf1 _ _ (by simp)]; simp
  have k0 : w1.cell? ⟨w.heap.size, 0, none⟩ = some (.int .i64 0) := by rw [hc1 _ _ (by simp)]; simp
  have k1 : w1.cell? ⟨w.heap.size, 1, none⟩ = some (.string ⟨#[]⟩) := by rw [hc1 _ _ (by simp)]; simp
  clear hc1 hf1
  simp at hg0
  have E1 := E.below hb1
  have hw1 : w.heap.size < w1.heap.size := by omega
  go_wp2_with fail
  refine wp_region_plan 9 [(none, []), (none, []), (none, []), (none, []), (none, []), (none, []), (none, []), (none, []), (some (BoxAt w1.heap.size 24 [.int .i64 0, .string ⟨#[]⟩]), [])] [8] (by kernel_rfl) (by kernel_rfl) ?_
  simp only [List.take_succ_cons, List.take_zero]
  refine plan_run (v := ?_) rfl (fun _ => rfl) ?_ ?_
  rotate_left
  · intro ρ w' hT
    obtain ⟨hcT, hfT⟩ := bcell hT
    go_simp
    try with_reducible rfl
  simp only [Act.put, List.setIfInBounds_toArray, List.set_cons_zero, List.set_cons_succ]
  refine plan_run (v := ?_) rfl (fun _ => rfl) ?_ ?_
  rotate_left
  · intro ρ w' hT
    obtain ⟨hcT, hfT⟩ := bcell hT
    go_simp
    try with_reducible rfl
  simp only [Act.put, List.setIfInBounds_toArray, List.set_cons_zero, List.set_cons_succ]
  refine plan_run (v := ?_) rfl (fun _ => rfl) ?_ ?_
  rotate_left
  · intro ρ w' hT
    obtain ⟨hcT, hfT⟩ := bcell hT
    go_simp
    try with_reducible rfl
  simp only [Act.put, List.setIfInBounds_toArray, List.set_cons_zero, List.set_cons_succ]
  refine plan_const (v := .int .i64 (rrd a)) rfl (fun _ => rfl) ?_ ?_
  · intro ρ w' hT hF
    go_simp
    refine (rread_any a w' (E1.below hT) ha).mono ?_
    rintro e w'' ⟨rfl, hb⟩
    exact ⟨_, rfl, rfl, hb⟩
  simp only [Act.put, List.setIfInBounds_toArray, List.set_cons_zero, List.set_cons_succ]
  refine plan_run (v := ?_) rfl (fun _ => rfl) ?_ ?_
  rotate_left
  · intro ρ w' hT
    obtain ⟨hcT, hfT⟩ := bcell hT
    go_simp
    try with_reducible rfl
  simp only [Act.put, List.setIfInBounds_toArray, List.set_cons_zero, List.set_cons_succ]
  refine plan_run (v := ?_) rfl (fun _ => rfl) ?_ ?_
  rotate_left
  · intro ρ w' hT
    obtain ⟨hcT, hfT⟩ := bcell hT
    go_simp
    try with_reducible rfl
  simp only [Act.put, List.setIfInBounds_toArray, List.set_cons_zero, List.set_cons_succ]
  refine plan_run (v := ?_) rfl (fun _ => rfl) ?_ ?_
  rotate_left
  · intro ρ w' hT
    obtain ⟨hcT, hfT⟩ := bcell hT
    go_simp
    try with_reducible rfl
  simp only [Act.put, List.setIfInBounds_toArray, List.set_cons_zero, List.set_cons_succ]
  refine plan_run (v := ?_) rfl (fun _ => rfl) ?_ ?_
  rotate_left
  · intro ρ w' hT
    obtain ⟨hcT, hfT⟩ := bcell hT
    go_simp
    try with_reducible rfl
  simp only [Act.put, List.setIfInBounds_toArray, List.set_cons_zero, List.set_cons_succ]
  refine plan_fact rfl (BoxAt.lasts _ _ _) (fun _ => rfl) ?_ ?_
  · intro ρ w' hT hF
    have hz := hT.size
    go_simp
    exact ⟨BoxAt.new _ _ _ (by omega), below_alloc _ _⟩
  simp only [Act.put, List.setIfInBounds_toArray, List.set_cons_zero, List.set_cons_succ]
  intro ρ w2 hT hF
  obtain ⟨f8, _⟩ := hF
  obtain ⟨B, eB, hB0, hB1, hcB, hfB⟩ := BoxAt.open f8
  clear f8
  simp only [List.drop_succ_cons, List.drop_zero, Nat.zero_add, Nat.reduceAdd, eB]
  have b0 : w2.cell? ⟨B, 0, none⟩ = some (.int .i64 0) := hcB 0
  have b1 : w2.cell? ⟨B, 1, none⟩ = some (.string ⟨#[]⟩) := hcB 1
  clear hcB
  obtain ⟨n0, n1⟩ := set2 (v0 := .int .i64 (rrd a)) (v1 := .string b) b0 b1
  have k0 := cell_on hT hw1 k0
  have k1 := cell_on hT hw1 k1
  have f0 : ∀ i, w2.frozen? ⟨w.heap.size, i, none⟩ = false := fun i => (hT.frozen (p := ⟨w.heap.size, i, none⟩) hw1).trans (f0 i)
  have hne : w.heap.size ≠ B := by omega
  have hb2 := below_step hb1 hT
  have hb3 : Below w.heap.size w ((w2.setCell ⟨B, 0, none⟩ (.int .i64 (rrd a))).setCell ⟨B, 1, none⟩ (.string b)) := by go_grown
  have hz3 : ((w2.setCell ⟨B, 0, none⟩ (.int .i64 (rrd a))).setCell ⟨B, 1, none⟩ (.string b)).heap.size = w2.heap.size := by simp
  have K0 : ((w2.setCell ⟨B, 0, none⟩ (.int .i64 (rrd a))).setCell ⟨B, 1, none⟩ (.string b)).cell? ⟨w.heap.size, 0, none⟩ = some (.int .i64 0) := by rw [World.cell?_setCell_far _ _ _ _ (Ne.symm hne), World.cell?_setCell_far _ _ _ _ (Ne.symm hne)]; exact k0
  have K1 : ((w2.setCell ⟨B, 0, none⟩ (.int .i64 (rrd a))).setCell ⟨B, 1, none⟩ (.string b)).cell? ⟨w.heap.size, 1, none⟩ = some (.string ⟨#[]⟩) := by rw [World.cell?_setCell_far _ _ _ _ (Ne.symm hne), World.cell?_setCell_far _ _ _ _ (Ne.symm hne)]; exact k1
  have F0 : ∀ i, ((w2.setCell ⟨B, 0, none⟩ (.int .i64 (rrd a))).setCell ⟨B, 1, none⟩ (.string b)).frozen? ⟨w.heap.size, i, none⟩ = false := fun i => by simp [f0]
  go_wp2_with fail
  generalize (w2.setCell ⟨B, 0, none⟩ (.int .i64 (rrd a))).setCell ⟨B, 1, none⟩ (.string b) = w3 at *
  clear k0 k1 f0 hT b0 b1 hfB hb2
  have hs3 := hb3.size
  have hB3 : B < w3.heap.size := by omega
  have hw3 : w.heap.size < w3.heap.size := by omega
  refine (rbranch_any _ _ _ hb).mono ?_
  rw [Hok.out]
  rintro e w4 ⟨rfl, hb4⟩
  have n0 := cell_on hb4 hB3 n0
  have n1 := cell_on hb4 hB3 n1
  have K0 := cell_on hb4 hw3 K0
  have K1 := cell_on hb4 hw3 K1
  have F0 : ∀ i, w4.frozen? ⟨w.heap.size, i, none⟩ = false := fun i => (hb4.frozen (p := ⟨w.heap.size, i, none⟩) hw3).trans (F0 i)
  have hs4 := hb4.size
  have hw4 : w.heap.size < w4.heap.size := by omega
  replace hb4 := below_step hb3 hb4
  have E4 := E.below hb4
  have hB4 : B < w4.heap.size := by omega
  (go_wp2; exact bodyPost_ret (v := .tuple #[zB, .int .i64 4]) (by simp [results, Tryz.results17, go_sem, K0, K1]) rfl ⟨rfl, by go_grown⟩)
set_option maxRecDepth 20000 in set_option maxHeartbeats 1000000 in
theorem rparseBranch_ne (s a b : ByteArray) (w : World) (E : Env w) (hs : s.size ≤ 1000000) (hd : cutR s = [a, b]) (hok : okB (rrd a) b = true) (ht : ¬ S (tB (rrd a) b) = s) (ha : a.size ≤ 1000000) (hb : b.size ≤ 1000000) :
    Calls Tryz.prog 17 #[.string s] w fun e w' => e = .returned (.tuple #[zB, .int .i64 4]) ∧ Below w.heap.size w w' := by
  have HS := Lib.hid (fun w => rcut_any s w hs)
  rw [hd] at HS
  have Hok := Lib.hid hok
  have Ht := Lib.hid ht
  clear hd hok ht
  go_enter Tryz.func17, Tryz.ntmps17
  go_wp2_with fail
  refine (HS.out _).mono ?_
  rintro e w1 ⟨v, rfl, hown, hb1⟩
  obtain ⟨A, c, rfl⟩ := own_form hown
  obtain ⟨g, rfl, hg0, hg1, hcs⟩ := own_cells hown
  have a0 := hcs 0 _ rfl
  have a1 := hcs 1 _ rfl
  clear hown hcs
  obtain ⟨hc1, hf1⟩ := bcell hb1
  (have hz1 := hb1.size; (try simp at hz1); replace hb1 := below_to (w := w) hb1 (by go_grown) (by first | omega | (simp <;> omega)); have hs1 := hb1.size)
  have f0 : ∀ i, w1.frozen? ⟨w.heap.size, i, none⟩ = false := fun i => by rw [hf1 _ _ (by simp)]; simp
  have k0 : w1.cell? ⟨w.heap.size, 0, none⟩ = some (.int .i64 0) := by rw [hc1 _ _ (by simp)]; simp
  have k1 : w1.cell? ⟨w.heap.size, 1, none⟩ = some (.string ⟨#[]⟩) := by rw [hc1 _ _ (by simp)]; simp
  clear hc1 hf1
  simp at hg0
  have E1 := E.below hb1
  have hw1 : w.heap.size < w1.heap.size := by omega
  go_wp2_with fail
  refine wp_region_plan 9 [(none, []), (none, []), (none, []), (none, []), (none, []), (none, []), (none, []), (none, []), (some (BoxAt w1.heap.size 24 [.int .i64 0, .string ⟨#[]⟩]), [])] [8] (by kernel_rfl) (by kernel_rfl) ?_
  simp only [List.take_succ_cons, List.take_zero]
  refine plan_run (v := ?_) rfl (fun _ => rfl) ?_ ?_
  rotate_left
  · intro ρ w' hT
    obtain ⟨hcT, hfT⟩ := bcell hT
    go_simp
    try with_reducible rfl
  simp only [Act.put, List.setIfInBounds_toArray, List.set_cons_zero, List.set_cons_succ]
  refine plan_run (v := ?_) rfl (fun _ => rfl) ?_ ?_
  rotate_left
  · intro ρ w' hT
    obtain ⟨hcT, hfT⟩ := bcell hT
    go_simp
    try with_reducible rfl
  simp only [Act.put, List.setIfInBounds_toArray, List.set_cons_zero, List.set_cons_succ]
  refine plan_run (v := ?_) rfl (fun _ => rfl) ?_ ?_
  rotate_left
  · intro ρ w' hT
    obtain ⟨hcT, hfT⟩ := bcell hT
    go_simp
    try with_reducible rfl
  simp only [Act.put, List.setIfInBounds_toArray, List.set_cons_zero, List.set_cons_succ]
  refine plan_const (v := .int .i64 (rrd a)) rfl (fun _ => rfl) ?_ ?_
  · intro ρ w' hT hF
    go_simp
    refine (rread_any a w' (E1.below hT) ha).mono ?_
    rintro e w'' ⟨rfl, hb⟩
    exact ⟨_, rfl, rfl, hb⟩
  simp only [Act.put, List.setIfInBounds_toArray, List.set_cons_zero, List.set_cons_succ]
  refine plan_run (v := ?_) rfl (fun _ => rfl) ?_ ?_
  rotate_left
  · intro ρ w' hT
    obtain ⟨hcT, hfT⟩ := bcell hT
    go_simp
    try with_reducible rfl
  simp only [Act.put, List.setIfInBounds_toArray, List.set_cons_zero, List.set_cons_succ]
  refine plan_run (v := ?_) rfl (fun _ => rfl) ?_ ?_
  rotate_left
  · intro ρ w' hT
    obtain ⟨hcT, hfT⟩ := bcell hT
    go_simp
    try with_reducible rfl
  simp only [Act.put, List.setIfInBounds_toArray, List.set_cons_zero, List.set_cons_succ]
  refine plan_run (v := ?_) rfl (fun _ => rfl) ?_ ?_
  rotate_left
  · intro ρ w' hT
    obtain ⟨hcT, hfT⟩ := bcell hT
    go_simp
    try with_reducible rfl
  simp only [Act.put, List.setIfInBounds_toArray, List.set_cons_zero, List.set_cons_succ]
  refine plan_run (v := ?_) rfl (fun _ => rfl) ?_ ?_
  rotate_left
  · intro ρ w' hT
    obtain ⟨hcT, hfT⟩ := bcell hT
    go_simp
    try with_reducible rfl
  simp only [Act.put, List.setIfInBounds_toArray, List.set_cons_zero, List.set_cons_succ]
  refine plan_fact rfl (BoxAt.lasts _ _ _) (fun _ => rfl) ?_ ?_
  · intro ρ w' hT hF
    have hz := hT.size
    go_simp
    exact ⟨BoxAt.new _ _ _ (by omega), below_alloc _ _⟩
  simp only [Act.put, List.setIfInBounds_toArray, List.set_cons_zero, List.set_cons_succ]
  intro ρ w2 hT hF
  obtain ⟨f8, _⟩ := hF
  obtain ⟨B, eB, hB0, hB1, hcB, hfB⟩ := BoxAt.open f8
  clear f8
  simp only [List.drop_succ_cons, List.drop_zero, Nat.zero_add, Nat.reduceAdd, eB]
  have b0 : w2.cell? ⟨B, 0, none⟩ = some (.int .i64 0) := hcB 0
  have b1 : w2.cell? ⟨B, 1, none⟩ = some (.string ⟨#[]⟩) := hcB 1
  clear hcB
  obtain ⟨n0, n1⟩ := set2 (v0 := .int .i64 (rrd a)) (v1 := .string b) b0 b1
  have k0 := cell_on hT hw1 k0
  have k1 := cell_on hT hw1 k1
  have f0 : ∀ i, w2.frozen? ⟨w.heap.size, i, none⟩ = false := fun i => (hT.frozen (p := ⟨w.heap.size, i, none⟩) hw1).trans (f0 i)
  have hne : w.heap.size ≠ B := by omega
  have hb2 := below_step hb1 hT
  have hb3 : Below w.heap.size w ((w2.setCell ⟨B, 0, none⟩ (.int .i64 (rrd a))).setCell ⟨B, 1, none⟩ (.string b)) := by go_grown
  have hz3 : ((w2.setCell ⟨B, 0, none⟩ (.int .i64 (rrd a))).setCell ⟨B, 1, none⟩ (.string b)).heap.size = w2.heap.size := by simp
  have K0 : ((w2.setCell ⟨B, 0, none⟩ (.int .i64 (rrd a))).setCell ⟨B, 1, none⟩ (.string b)).cell? ⟨w.heap.size, 0, none⟩ = some (.int .i64 0) := by rw [World.cell?_setCell_far _ _ _ _ (Ne.symm hne), World.cell?_setCell_far _ _ _ _ (Ne.symm hne)]; exact k0
  have K1 : ((w2.setCell ⟨B, 0, none⟩ (.int .i64 (rrd a))).setCell ⟨B, 1, none⟩ (.string b)).cell? ⟨w.heap.size, 1, none⟩ = some (.string ⟨#[]⟩) := by rw [World.cell?_setCell_far _ _ _ _ (Ne.symm hne), World.cell?_setCell_far _ _ _ _ (Ne.symm hne)]; exact k1
  have F0 : ∀ i, ((w2.setCell ⟨B, 0, none⟩ (.int .i64 (rrd a))).setCell ⟨B, 1, none⟩ (.string b)).frozen? ⟨w.heap.size, i, none⟩ = false := fun i => by simp [f0]
  go_wp2_with fail
  generalize (w2.setCell ⟨B, 0, none⟩ (.int .i64 (rrd a))).setCell ⟨B, 1, none⟩ (.string b) = w3 at *
  clear k0 k1 f0 hT b0 b1 hfB hb2
  have hs3 := hb3.size
  have hB3 : B < w3.heap.size := by omega
  have hw3 : w.heap.size < w3.heap.size := by omega
  refine (rbranch_any _ _ _ hb).mono ?_
  rw [Hok.out]
  rintro e w4 ⟨rfl, hb4⟩
  have n0 := cell_on hb4 hB3 n0
  have n1 := cell_on hb4 hB3 n1
  have K0 := cell_on hb4 hw3 K0
  have K1 := cell_on hb4 hw3 K1
  have F0 : ∀ i, w4.frozen? ⟨w.heap.size, i, none⟩ = false := fun i => (hb4.frozen (p := ⟨w.heap.size, i, none⟩) hw3).trans (F0 i)
  have hs4 := hb4.size
  have hw4 : w.heap.size < w4.heap.size := by omega
  replace hb4 := below_step hb3 hb4
  have E4 := E.below hb4
  have hB4 : B < w4.heap.size := by omega
  ((go_wp2_with fail); refine (rtextBranch_any _ _ _ E4 (okB_lo Hok.out) (okB_hi Hok.out) hb).mono ?_; rintro e w5 ⟨rfl, hb5⟩; have n0 := cell_on hb5 hB4 n0; have n1 := cell_on hb5 hB4 n1; have K0 := cell_on hb5 hw4 K0; have K1 := cell_on hb5 hw4 K1; have F0 : ∀ i, w5.frozen? ⟨w.heap.size, i, none⟩ = false := fun i => (hb5.frozen (p := ⟨w.heap.size, i, none⟩) hw4).trans (F0 i); replace hb5 := below_step hb4 hb5; (go_wp2; (· (exact bodyPost_ret (v := .tuple #[zB, .int .i64 4]) (by simp [results, Tryz.results17, go_sem, K0, K1]) rfl ⟨rfl, by go_grown⟩)); (· (exact absurd (toList_ne (by assumption)) Ht.out))))
set_option maxRecDepth 20000 in set_option maxHeartbeats 1000000 in
theorem rparseBranch_yes (s a b : ByteArray) (w : World) (E : Env w) (hs : s.size ≤ 1000000) (hd : cutR s = [a, b]) (hok : okB (rrd a) b = true) (ht : S (tB (rrd a) b) = s) (ha : a.size ≤ 1000000) (hb : b.size ≤ 1000000) :
    Calls Tryz.prog 17 #[.string s] w fun e w' => e = .returned (.tuple #[vB (rrd a) b, .int .i64 0]) ∧ Below w.heap.size w w' := by
  have HS := Lib.hid (fun w => rcut_any s w hs)
  rw [hd] at HS
  have Hok := Lib.hid hok
  have Ht := Lib.hid ht
  clear hd hok ht
  go_enter Tryz.func17, Tryz.ntmps17
  go_wp2_with fail
  refine (HS.out _).mono ?_
  rintro e w1 ⟨v, rfl, hown, hb1⟩
  obtain ⟨A, c, rfl⟩ := own_form hown
  obtain ⟨g, rfl, hg0, hg1, hcs⟩ := own_cells hown
  have a0 := hcs 0 _ rfl
  have a1 := hcs 1 _ rfl
  clear hown hcs
  obtain ⟨hc1, hf1⟩ := bcell hb1
  (have hz1 := hb1.size; (try simp at hz1); replace hb1 := below_to (w := w) hb1 (by go_grown) (by first | omega | (simp <;> omega)); have hs1 := hb1.size)
  have f0 : ∀ i, w1.frozen? ⟨w.heap.size, i, none⟩ = false := fun i => by rw [hf1 _ _ (by simp)]; simp
  have k0 : w1.cell? ⟨w.heap.size, 0, none⟩ = some (.int .i64 0) := by rw [hc1 _ _ (by simp)]; simp
  have k1 : w1.cell? ⟨w.heap.size, 1, none⟩ = some (.string ⟨#[]⟩) := by rw [hc1 _ _ (by simp)]; simp
  clear hc1 hf1
  simp at hg0
  have E1 := E.below hb1
  have hw1 : w.heap.size < w1.heap.size := by omega
  go_wp2_with fail
  refine wp_region_plan 9 [(none, []), (none, []), (none, []), (none, []), (none, []), (none, []), (none, []), (none, []), (some (BoxAt w1.heap.size 24 [.int .i64 0, .string ⟨#[]⟩]), [])] [8] (by kernel_rfl) (by kernel_rfl) ?_
  simp only [List.take_succ_cons, List.take_zero]
  refine plan_run (v := ?_) rfl (fun _ => rfl) ?_ ?_
  rotate_left
  · intro ρ w' hT
    obtain ⟨hcT, hfT⟩ := bcell hT
    go_simp
    try with_reducible rfl
  simp only [Act.put, List.setIfInBounds_toArray, List.set_cons_zero, List.set_cons_succ]
  refine plan_run (v := ?_) rfl (fun _ => rfl) ?_ ?_
  rotate_left
  · intro ρ w' hT
    obtain ⟨hcT, hfT⟩ := bcell hT
    go_simp
    try with_reducible rfl
  simp only [Act.put, List.setIfInBounds_toArray, List.set_cons_zero, List.set_cons_succ]
  refine plan_run (v := ?_) rfl (fun _ => rfl) ?_ ?_
  rotate_left
  · intro ρ w' hT
    obtain ⟨hcT, hfT⟩ := bcell hT
    go_simp
    try with_reducible rfl
  simp only [Act.put, List.setIfInBounds_toArray, List.set_cons_zero, List.set_cons_succ]
  refine plan_const (v := .int .i64 (rrd a)) rfl (fun _ => rfl) ?_ ?_
  · intro ρ w' hT hF
    go_simp
    refine (rread_any a w' (E1.below hT) ha).mono ?_
    rintro e w'' ⟨rfl, hb⟩
    exact ⟨_, rfl, rfl, hb⟩
  simp only [Act.put, List.setIfInBounds_toArray, List.set_cons_zero, List.set_cons_succ]
  refine plan_run (v := ?_) rfl (fun _ => rfl) ?_ ?_
  rotate_left
  · intro ρ w' hT
    obtain ⟨hcT, hfT⟩ := bcell hT
    go_simp
    try with_reducible rfl
  simp only [Act.put, List.setIfInBounds_toArray, List.set_cons_zero, List.set_cons_succ]
  refine plan_run (v := ?_) rfl (fun _ => rfl) ?_ ?_
  rotate_left
  · intro ρ w' hT
    obtain ⟨hcT, hfT⟩ := bcell hT
    go_simp
    try with_reducible rfl
  simp only [Act.put, List.setIfInBounds_toArray, List.set_cons_zero, List.set_cons_succ]
  refine plan_run (v := ?_) rfl (fun _ => rfl) ?_ ?_
  rotate_left
  · intro ρ w' hT
    obtain ⟨hcT, hfT⟩ := bcell hT
    go_simp
    try with_reducible rfl
  simp only [Act.put, List.setIfInBounds_toArray, List.set_cons_zero, List.set_cons_succ]
  refine plan_run (v := ?_) rfl (fun _ => rfl) ?_ ?_
  rotate_left
  · intro ρ w' hT
    obtain ⟨hcT, hfT⟩ := bcell hT
    go_simp
    try with_reducible rfl
  simp only [Act.put, List.setIfInBounds_toArray, List.set_cons_zero, List.set_cons_succ]
  refine plan_fact rfl (BoxAt.lasts _ _ _) (fun _ => rfl) ?_ ?_
  · intro ρ w' hT hF
    have hz := hT.size
    go_simp
    exact ⟨BoxAt.new _ _ _ (by omega), below_alloc _ _⟩
  simp only [Act.put, List.setIfInBounds_toArray, List.set_cons_zero, List.set_cons_succ]
  intro ρ w2 hT hF
  obtain ⟨f8, _⟩ := hF
  obtain ⟨B, eB, hB0, hB1, hcB, hfB⟩ := BoxAt.open f8
  clear f8
  simp only [List.drop_succ_cons, List.drop_zero, Nat.zero_add, Nat.reduceAdd, eB]
  have b0 : w2.cell? ⟨B, 0, none⟩ = some (.int .i64 0) := hcB 0
  have b1 : w2.cell? ⟨B, 1, none⟩ = some (.string ⟨#[]⟩) := hcB 1
  clear hcB
  obtain ⟨n0, n1⟩ := set2 (v0 := .int .i64 (rrd a)) (v1 := .string b) b0 b1
  have k0 := cell_on hT hw1 k0
  have k1 := cell_on hT hw1 k1
  have f0 : ∀ i, w2.frozen? ⟨w.heap.size, i, none⟩ = false := fun i => (hT.frozen (p := ⟨w.heap.size, i, none⟩) hw1).trans (f0 i)
  have hne : w.heap.size ≠ B := by omega
  have hb2 := below_step hb1 hT
  have hb3 : Below w.heap.size w ((w2.setCell ⟨B, 0, none⟩ (.int .i64 (rrd a))).setCell ⟨B, 1, none⟩ (.string b)) := by go_grown
  have hz3 : ((w2.setCell ⟨B, 0, none⟩ (.int .i64 (rrd a))).setCell ⟨B, 1, none⟩ (.string b)).heap.size = w2.heap.size := by simp
  have K0 : ((w2.setCell ⟨B, 0, none⟩ (.int .i64 (rrd a))).setCell ⟨B, 1, none⟩ (.string b)).cell? ⟨w.heap.size, 0, none⟩ = some (.int .i64 0) := by rw [World.cell?_setCell_far _ _ _ _ (Ne.symm hne), World.cell?_setCell_far _ _ _ _ (Ne.symm hne)]; exact k0
  have K1 : ((w2.setCell ⟨B, 0, none⟩ (.int .i64 (rrd a))).setCell ⟨B, 1, none⟩ (.string b)).cell? ⟨w.heap.size, 1, none⟩ = some (.string ⟨#[]⟩) := by rw [World.cell?_setCell_far _ _ _ _ (Ne.symm hne), World.cell?_setCell_far _ _ _ _ (Ne.symm hne)]; exact k1
  have F0 : ∀ i, ((w2.setCell ⟨B, 0, none⟩ (.int .i64 (rrd a))).setCell ⟨B, 1, none⟩ (.string b)).frozen? ⟨w.heap.size, i, none⟩ = false := fun i => by simp [f0]
  go_wp2_with fail
  generalize (w2.setCell ⟨B, 0, none⟩ (.int .i64 (rrd a))).setCell ⟨B, 1, none⟩ (.string b) = w3 at *
  clear k0 k1 f0 hT b0 b1 hfB hb2
  have hs3 := hb3.size
  have hB3 : B < w3.heap.size := by omega
  have hw3 : w.heap.size < w3.heap.size := by omega
  refine (rbranch_any _ _ _ hb).mono ?_
  rw [Hok.out]
  rintro e w4 ⟨rfl, hb4⟩
  have n0 := cell_on hb4 hB3 n0
  have n1 := cell_on hb4 hB3 n1
  have K0 := cell_on hb4 hw3 K0
  have K1 := cell_on hb4 hw3 K1
  have F0 : ∀ i, w4.frozen? ⟨w.heap.size, i, none⟩ = false := fun i => (hb4.frozen (p := ⟨w.heap.size, i, none⟩) hw3).trans (F0 i)
  have hs4 := hb4.size
  have hw4 : w.heap.size < w4.heap.size := by omega
  replace hb4 := below_step hb3 hb4
  have E4 := E.below hb4
  have hB4 : B < w4.heap.size := by omega
  (have ht' := toList_eq Ht.out; (go_wp2_with fail); refine (rtextBranch_any _ _ _ E4 (okB_lo Hok.out) (okB_hi Hok.out) hb).mono ?_; rintro e w5 ⟨rfl, hb5⟩; have n0 := cell_on hb5 hB4 n0; have n1 := cell_on hb5 hB4 n1; have K0 := cell_on hb5 hw4 K0; have K1 := cell_on hb5 hw4 K1; have F0 : ∀ i, w5.frozen? ⟨w.heap.size, i, none⟩ = false := fun i => (hb5.frozen (p := ⟨w.heap.size, i, none⟩) hw4).trans (F0 i); replace hb5 := below_step hb4 hb5; (go_wp2; exact bodyPost_ret (v := .tuple #[vB (rrd a) b, .int .i64 0]) (by simp [results, Tryz.results17, go_sem, K0, K1]) rfl ⟨rfl, by go_grown⟩))
end Go.Proofs.YtnldgcgngolkiaaGreatDoor
