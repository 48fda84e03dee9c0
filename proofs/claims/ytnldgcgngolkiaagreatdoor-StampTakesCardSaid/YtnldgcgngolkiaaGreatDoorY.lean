/- The law's known rows: the walk. -/
import Derived.Test.YtnldgcgngolkiaaGreatDoorX
namespace Go.Proofs.YtnldgcgngolkiaaGreatDoor
open Go.RowKit
set_option linter.unusedVariables false
set_option linter.unusedSimpArgs false
attribute [local go_sem] givesUpon


abbrev main4 : ByteArray := ⟨#[109, 97, 105, 110]⟩
set_option maxRecDepth 20000 in set_option maxHeartbeats 1000000 in
theorem one_any (w : World) : Calls Tryz.prog 60 #[] w fun e w' => e = .returned (vS 5 1 main4 3 0) ∧ Below w.heap.size w w' := by
  go_enter Tryz.func60, Tryz.ntmps60
  go_wp2
  exact bodyPost_ret (v := vS 5 1 main4 3 0) (by simp [results, Tryz.results60, go_sem]) rfl ⟨rfl, by go_grown⟩
set_option maxRecDepth 20000 in set_option maxHeartbeats 1000000 in
theorem num_any (n : Int) (w : World) : Calls Tryz.prog 24 #[.int .i64 n] w fun e w' => e = .returned (.int .i64 n) ∧ Below w.heap.size w w' := by
  go_enter Tryz.func24, Tryz.ntmps24
  go_wp2
  go_ret
  exact ⟨rfl, Below.refl _ _⟩
theorem okOne : okS 5 1 main4 3 0 = true := by decide
theorem textOne : S (tS 5 1 main4 3 0) = ⟨#[53, 46, 49, 46, 109, 97, 105, 110, 46, 51, 46, 48]⟩ := by
  simp [tS, tN, tB, Lib.itoa, Lib.decDigits]
theorem formOne : S (fS 5 1 main4 3 0) = ⟨#[5, 1, 4, 109, 97, 105, 110, 3, 0]⟩ := by
  simp [fS, fN, fB, bytL, numL]
theorem keyOne : S (kS 5 1 main4 3 0) = ⟨#[0, 0, 0, 0, 0, 0, 0, 5, 1, 109, 97, 105, 110, 0, 0, 0, 0, 0, 0, 0, 0, 3, 0]⟩ := by decide +kernel
abbrev badName : ByteArray := ⟨#[49, 46, 109, 97, 105, 110, 46, 48, 51]⟩
theorem bad_name (r : Int) (l : ByteArray) (n : Int) (h : okN r l n = true ∧ S (tN r l n) = badName) : False := by
  obtain ⟨hok, ht⟩ := h
  have h0 := okN_iff.1 hok
  have hd : badName.data.toList = tN r l n := data_S ht
  have hp := pcs_tN hok
  rw [← hd] at hp
  have h3 : Lib.itoa n = [48, 51] := by
    have e : pcs badName.data.toList = [[49], [109, 97, 105, 110], [48, 51]] := by decide +kernel
    rw [e] at hp
    simp at hp
    exact hp.2.2.symm
  have hn := parse_itoa (n := n) (by omega) (by omega)
  rw [h3] at hn
  have e : Lib.parseIntB 64 [48, 51] = .ok 3 := by rfl
  rw [e] at hn
  cases hn
  have : Lib.itoa 3 = [51] := by simp [Lib.itoa, Lib.decDigits]
  rw [this] at h3
  cases h3
theorem bad_any (w : World) (E : Env w) : Calls Tryz.prog 18 #[.string badName] w fun e w' => e = .returned (.tuple #[zN, .int .i64 4]) ∧ Below w.heap.size w w' := by
  have ed : dots badName = [S [49], S [109, 97, 105, 110], S [48, 51]] := by
    have e : pcs badName.data.toList = [[49], [109, 97, 105, 110], [48, 51]] := by decide +kernel
    rw [dots_S, e]; rfl
  exact parseName_not badName _ _ _ w E (by decide) ed (bad_name _ _ _)
theorem ofKey_one (w : World) (E : Env w) : Calls Tryz.prog 22 #[.string (S (kS 5 1 main4 3 0))] w fun e w' => e = .returned (.tuple #[vS 5 1 main4 3 0, .int .i64 0]) ∧ Below w.heap.size w w' := by
  have e0 : back8 (S (kS 5 1 main4 3 0)) = 5 := by decide +kernel
  have e1 : kr (S (kS 5 1 main4 3 0)) = 1 := by decide +kernel
  have e2 : kl (S (kS 5 1 main4 3 0)) = main4 := by decide +kernel
  have e3 : kn (S (kS 5 1 main4 3 0)) = 3 := by decide +kernel
  have e4 : ki (S (kS 5 1 main4 3 0)) = 0 := by decide +kernel
  have := ofKey_yes (S (kS 5 1 main4 3 0)) w E (by decide) (by decide) (by rw [e0, e1, e2, e3, e4]; exact ⟨okOne, rfl⟩)
  rwa [e0, e1, e2, e3, e4] at this
set_option maxRecDepth 20000 in set_option maxHeartbeats 1000000 in
theorem known_any (w : World) (E : Env w) : Calls Tryz.prog 15 #[] w fun e w' => e = .returned (.bool true) ∧ Below w.heap.size w w' := by
  go_enter Tryz.func15, Tryz.ntmps15
  have hb0 := Below.refl w.heap.size w
  (go_wp2_with fail); refine (one_any _).mono ?_; rintro e w1 ⟨rfl, hb1⟩; have hs0 := hb0.size; replace hb1 := below_to (w := w) hb1 (by go_grown) (by first | omega | (simp <;> omega)); have E1 := E.below hb1
  (go_wp2_with fail); refine (stextStamp_yes _ _ _ _ _ _ E1 (by decide) okOne).mono ?_; rintro e w2 ⟨rfl, hb2⟩; have hs1 := hb1.size; replace hb2 := below_to (w := w) hb2 (by go_grown) (by first | omega | (simp <;> omega)); have E2 := E.below hb2
  (go_wp2_with fail); refine (one_any _).mono ?_; rintro e w3 ⟨rfl, hb3⟩; have hs2 := hb2.size; replace hb3 := below_to (w := w) hb3 (by go_grown) (by first | omega | (simp <;> omega)); have E3 := E.below hb3
  go_wp2_with fail
  refine (put_yes _ _ _ _ _ _ (by decide) okOne).mono ?_
  rintro e w4 ⟨v, rfl, hv, hb4⟩
  have hs3 := hb3.size
  replace hb4 := below_to (w := w) hb4 (by go_grown) (by first | omega | (simp <;> omega))
  have E4 := E.below hb4
  have hc4 := Below.refl w4.heap.size w4
  (go_wp2_with fail); refine (bad_any _ E4).mono ?_; rintro e w5 ⟨rfl, hb5⟩; have hs4 := hb4.size; have hz4 := hc4.size; have hc5 := below_to (w := w4) hb5 (by go_grown) (by first | omega | (simp <;> omega)); replace hb5 := below_to (w := w) hb5 (by go_grown) (by first | omega | (simp <;> omega)); have E5 := E.below hb5
  (go_wp2_with fail); refine (putBranch_no 8 ⟨#[97]⟩ _ (by decide) (by decide)).mono ?_; rintro e w6 ⟨rfl, hb6⟩; have hs5 := hb5.size; have hz5 := hc5.size; have hc6 := below_to (w := w4) hb6 (by go_grown) (by first | omega | (simp <;> omega)); replace hb6 := below_to (w := w) hb6 (by go_grown) (by first | omega | (simp <;> omega)); have E6 := E.below hb6
  (go_wp2_with fail); refine (one_any _).mono ?_; rintro e w7 ⟨rfl, hb7⟩; have hs6 := hb6.size; have hz6 := hc6.size; have hc7 := below_to (w := w4) hb7 (by go_grown) (by first | omega | (simp <;> omega)); replace hb7 := below_to (w := w) hb7 (by go_grown) (by first | omega | (simp <;> omega)); have E7 := E.below hb7
  (go_wp2_with fail); refine (key_yes _ _ _ _ _ _ (by decide) okOne).mono ?_; rintro e w8 ⟨rfl, hb8⟩; have hs7 := hb7.size; have hz7 := hc7.size; have hc8 := below_to (w := w4) hb8 (by go_grown) (by first | omega | (simp <;> omega)); replace hb8 := below_to (w := w) hb8 (by go_grown) (by first | omega | (simp <;> omega)); have E8 := E.below hb8
  (go_wp2_with fail); refine (ofKey_one _ E8).mono ?_; rintro e w9 ⟨rfl, hb9⟩; have hs8 := hb8.size; have hz8 := hc8.size; have hc9 := below_to (w := w4) hb9 (by go_grown) (by first | omega | (simp <;> omega)); replace hb9 := below_to (w := w) hb9 (by go_grown) (by first | omega | (simp <;> omega)); have E9 := E.below hb9
  go_wp2_with fail
  have hv10 := (BytesAt.lasts _).at (hc9.trans ((below_alloc w9 (.cells #[.int .i64 5, .int .i64 1, .string main4, .int .i64 3, .int .i64 0] 37)).mono hc9.size)) hv
  simp only [textOne, keyOne]
  refine wp_region_plan 46 [(none, []), (none, []), (none, []), (none, []), (none, []), (none, []), (none, []), (none, []), (none, []), (none, []), (none, []), (none, []), (none, []), (none, []), (none, []), (none, []), (none, []), (none, []), (none, []), (none, []), (none, []), (none, []), (none, []), (none, []), (none, []), (none, []), (none, []), (none, []), (none, []), (none, []), (none, []), (none, []), (none, []), (none, []), (none, []), (none, []), (none, []), (none, []), (none, []), (none, []), (none, []), (none, []), (none, []), (none, []), (none, []), (none, [])] [] (by kernel_rfl) (by kernel_rfl) ?_
  simp only [List.take_succ_cons, List.take_zero]
  refine plan_run (v := ?_) rfl (fun _ => rfl) ?_ ?_
  rotate_left
  · intro ρ w' hT
    obtain ⟨hcT, hfT⟩ := bcell hT
    go_simp
    try with_reducible rfl
  simp only [Act.put, List.setIfInBounds_toArray, List.set_cons_zero, List.set_cons_succ]
  refine plan_run (v := .bool true) rfl (fun _ => rfl) ?_ ?_
  · intro ρ w' hT
    go_simp
    try with_reducible rfl
    try decide +kernel
  simp only [Act.put, List.setIfInBounds_toArray, List.set_cons_zero, List.set_cons_succ]
  refine plan_run (v := ?_) rfl (fun _ => rfl) ?_ ?_
  rotate_left
  · intro ρ w' hT
    obtain ⟨hcT, hfT⟩ := bcell hT
    go_simp
    try with_reducible rfl
  simp only [Act.put, List.setIfInBounds_toArray, List.set_cons_zero, List.set_cons_succ]
  refine plan_run (v := ?_) rfl (fun _ => rfl) ?_ ?_
  rotate_left
  · intro ρ w' hT
    obtain ⟨hcT, hfT⟩ := bcell hT
    go_simp
    try with_reducible rfl
  simp only [Act.put, List.setIfInBounds_toArray, List.set_cons_zero, List.set_cons_succ]
  refine plan_const (v := .int .i64 0) rfl (fun _ => rfl) ?_ ?_
  · intro ρ w' hT hF
    go_simp
    refine (num_any _ _).mono ?_
    rintro e w'' ⟨rfl, hb⟩
    exact ⟨_, rfl, rfl, hb⟩
  simp only [Act.put, List.setIfInBounds_toArray, List.set_cons_zero, List.set_cons_succ]
  refine plan_run (v := ?_) rfl (fun _ => rfl) ?_ ?_
  rotate_left
  · intro ρ w' hT
    obtain ⟨hcT, hfT⟩ := bcell hT
    go_simp
    try with_reducible rfl
  simp only [Act.put, List.setIfInBounds_toArray, List.set_cons_zero, List.set_cons_succ]
  refine plan_run (v := ?_) rfl (fun _ => rfl) ?_ ?_
  rotate_left
  · intro ρ w' hT
    obtain ⟨hcT, hfT⟩ := bcell hT
    go_simp
    try with_reducible rfl
  simp only [Act.put, List.setIfInBounds_toArray, List.set_cons_zero, List.set_cons_succ]
  refine plan_run (v := ?_) rfl (fun _ => rfl) ?_ ?_
  rotate_left
  · intro ρ w' hT
    obtain ⟨hcT, hfT⟩ := bcell hT
    go_simp
    try with_reducible rfl
  simp only [Act.put, List.setIfInBounds_toArray, List.set_cons_zero, List.set_cons_succ]
  refine plan_run (v := ?_) rfl (fun _ => rfl) ?_ ?_
  rotate_left
  · intro ρ w' hT
    obtain ⟨hcT, hfT⟩ := bcell hT
    go_simp
    try with_reducible rfl
  simp only [Act.put, List.setIfInBounds_toArray, List.set_cons_zero, List.set_cons_succ]
  refine plan_const (v := .string ⟨#[5, 1, 4, 109, 97, 105, 110, 3, 0]⟩) rfl (fun _ => rfl) ?_ ?_
  · intro ρ w' hT hF
    go_simp
    rw [conv_string ((BytesAt.lasts _).at hT hv10), formOne]
    exact ⟨rfl, Below.refl _ _⟩
  simp only [Act.put, List.setIfInBounds_toArray, List.set_cons_zero, List.set_cons_succ]
  refine plan_run (v := .bool true) rfl (fun _ => rfl) ?_ ?_
  · intro ρ w' hT
    go_simp
    try with_reducible rfl
    try decide +kernel
  simp only [Act.put, List.setIfInBounds_toArray, List.set_cons_zero, List.set_cons_succ]
  refine plan_run (v := ?_) rfl (fun _ => rfl) ?_ ?_
  rotate_left
  · intro ρ w' hT
    obtain ⟨hcT, hfT⟩ := bcell hT
    go_simp
    try with_reducible rfl
  simp only [Act.put, List.setIfInBounds_toArray, List.set_cons_zero, List.set_cons_succ]
  refine plan_run (v := ?_) rfl (fun _ => rfl) ?_ ?_
  rotate_left
  · intro ρ w' hT
    obtain ⟨hcT, hfT⟩ := bcell hT
    go_simp
    try with_reducible rfl
  simp only [Act.put, List.setIfInBounds_toArray, List.set_cons_zero, List.set_cons_succ]
  refine plan_run (v := ?_) rfl (fun _ => rfl) ?_ ?_
  rotate_left
  · intro ρ w' hT
    obtain ⟨hcT, hfT⟩ := bcell hT
    go_simp
    try with_reducible rfl
  simp only [Act.put, List.setIfInBounds_toArray, List.set_cons_zero, List.set_cons_succ]
  refine plan_const (v := .int .i64 0) rfl (fun _ => rfl) ?_ ?_
  · intro ρ w' hT hF
    go_simp
    refine (num_any _ _).mono ?_
    rintro e w'' ⟨rfl, hb⟩
    exact ⟨_, rfl, rfl, hb⟩
  simp only [Act.put, List.setIfInBounds_toArray, List.set_cons_zero, List.set_cons_succ]
  refine plan_run (v := ?_) rfl (fun _ => rfl) ?_ ?_
  rotate_left
  · intro ρ w' hT
    obtain ⟨hcT, hfT⟩ := bcell hT
    go_simp
    try with_reducible rfl
  simp only [Act.put, List.setIfInBounds_toArray, List.set_cons_zero, List.set_cons_succ]
  refine plan_run (v := ?_) rfl (fun _ => rfl) ?_ ?_
  rotate_left
  · intro ρ w' hT
    obtain ⟨hcT, hfT⟩ := bcell hT
    go_simp
    try with_reducible rfl
  simp only [Act.put, List.setIfInBounds_toArray, List.set_cons_zero, List.set_cons_succ]
  refine plan_run (v := ?_) rfl (fun _ => rfl) ?_ ?_
  rotate_left
  · intro ρ w' hT
    obtain ⟨hcT, hfT⟩ := bcell hT
    go_simp
    try with_reducible rfl
  simp only [Act.put, List.setIfInBounds_toArray, List.set_cons_zero, List.set_cons_succ]
  refine plan_run (v := ?_) rfl (fun _ => rfl) ?_ ?_
  rotate_left
  · intro ρ w' hT
    obtain ⟨hcT, hfT⟩ := bcell hT
    go_simp
    try with_reducible rfl
  simp only [Act.put, List.setIfInBounds_toArray, List.set_cons_zero, List.set_cons_succ]
  refine plan_const (v := .int .i64 4) rfl (fun _ => rfl) ?_ ?_
  · intro ρ w' hT hF
    go_simp
    refine (num_any _ _).mono ?_
    rintro e w'' ⟨rfl, hb⟩
    exact ⟨_, rfl, rfl, hb⟩
  simp only [Act.put, List.setIfInBounds_toArray, List.set_cons_zero, List.set_cons_succ]
  refine plan_run (v := ?_) rfl (fun _ => rfl) ?_ ?_
  rotate_left
  · intro ρ w' hT
    obtain ⟨hcT, hfT⟩ := bcell hT
    go_simp
    try with_reducible rfl
  simp only [Act.put, List.setIfInBounds_toArray, List.set_cons_zero, List.set_cons_succ]
  refine plan_run (v := ?_) rfl (fun _ => rfl) ?_ ?_
  rotate_left
  · intro ρ w' hT
    obtain ⟨hcT, hfT⟩ := bcell hT
    go_simp
    try with_reducible rfl
  simp only [Act.put, List.setIfInBounds_toArray, List.set_cons_zero, List.set_cons_succ]
  refine plan_run (v := ?_) rfl (fun _ => rfl) ?_ ?_
  rotate_left
  · intro ρ w' hT
    obtain ⟨hcT, hfT⟩ := bcell hT
    go_simp
    try with_reducible rfl
  simp only [Act.put, List.setIfInBounds_toArray, List.set_cons_zero, List.set_cons_succ]
  refine plan_run (v := ?_) rfl (fun _ => rfl) ?_ ?_
  rotate_left
  · intro ρ w' hT
    obtain ⟨hcT, hfT⟩ := bcell hT
    go_simp
    try with_reducible rfl
  simp only [Act.put, List.setIfInBounds_toArray, List.set_cons_zero, List.set_cons_succ]
  refine plan_const (v := .int .i64 2) rfl (fun _ => rfl) ?_ ?_
  · intro ρ w' hT hF
    go_simp
    refine (num_any _ _).mono ?_
    rintro e w'' ⟨rfl, hb⟩
    exact ⟨_, rfl, rfl, hb⟩
  simp only [Act.put, List.setIfInBounds_toArray, List.set_cons_zero, List.set_cons_succ]
  refine plan_run (v := ?_) rfl (fun _ => rfl) ?_ ?_
  rotate_left
  · intro ρ w' hT
    obtain ⟨hcT, hfT⟩ := bcell hT
    go_simp
    try with_reducible rfl
  simp only [Act.put, List.setIfInBounds_toArray, List.set_cons_zero, List.set_cons_succ]
  refine plan_run (v := ?_) rfl (fun _ => rfl) ?_ ?_
  rotate_left
  · intro ρ w' hT
    obtain ⟨hcT, hfT⟩ := bcell hT
    go_simp
    try with_reducible rfl
  simp only [Act.put, List.setIfInBounds_toArray, List.set_cons_zero, List.set_cons_succ]
  refine plan_run (v := ?_) rfl (fun _ => rfl) ?_ ?_
  rotate_left
  · intro ρ w' hT
    obtain ⟨hcT, hfT⟩ := bcell hT
    go_simp
    try with_reducible rfl
  simp only [Act.put, List.setIfInBounds_toArray, List.set_cons_zero, List.set_cons_succ]
  refine plan_run (v := ?_) rfl (fun _ => rfl) ?_ ?_
  rotate_left
  · intro ρ w' hT
    obtain ⟨hcT, hfT⟩ := bcell hT
    go_simp
    try with_reducible rfl
  simp only [Act.put, List.setIfInBounds_toArray, List.set_cons_zero, List.set_cons_succ]
  refine plan_run (v := .bool true) rfl (fun _ => rfl) ?_ ?_
  · intro ρ w' hT
    go_simp
    try with_reducible rfl
    try decide +kernel
  simp only [Act.put, List.setIfInBounds_toArray, List.set_cons_zero, List.set_cons_succ]
  refine plan_run (v := ?_) rfl (fun _ => rfl) ?_ ?_
  rotate_left
  · intro ρ w' hT
    obtain ⟨hcT, hfT⟩ := bcell hT
    go_simp
    try with_reducible rfl
  simp only [Act.put, List.setIfInBounds_toArray, List.set_cons_zero, List.set_cons_succ]
  refine plan_run (v := ?_) rfl (fun _ => rfl) ?_ ?_
  rotate_left
  · intro ρ w' hT
    obtain ⟨hcT, hfT⟩ := bcell hT
    go_simp
    try with_reducible rfl
  simp only [Act.put, List.setIfInBounds_toArray, List.set_cons_zero, List.set_cons_succ]
  refine plan_run (v := ?_) rfl (fun _ => rfl) ?_ ?_
  rotate_left
  · intro ρ w' hT
    obtain ⟨hcT, hfT⟩ := bcell hT
    go_simp
    try with_reducible rfl
  simp only [Act.put, List.setIfInBounds_toArray, List.set_cons_zero, List.set_cons_succ]
  refine plan_const (v := .int .i64 0) rfl (fun _ => rfl) ?_ ?_
  · intro ρ w' hT hF
    go_simp
    refine (num_any _ _).mono ?_
    rintro e w'' ⟨rfl, hb⟩
    exact ⟨_, rfl, rfl, hb⟩
  simp only [Act.put, List.setIfInBounds_toArray, List.set_cons_zero, List.set_cons_succ]
  refine plan_run (v := ?_) rfl (fun _ => rfl) ?_ ?_
  rotate_left
  · intro ρ w' hT
    obtain ⟨hcT, hfT⟩ := bcell hT
    go_simp
    try with_reducible rfl
  simp only [Act.put, List.setIfInBounds_toArray, List.set_cons_zero, List.set_cons_succ]
  refine plan_run (v := ?_) rfl (fun _ => rfl) ?_ ?_
  rotate_left
  · intro ρ w' hT
    obtain ⟨hcT, hfT⟩ := bcell hT
    go_simp
    try with_reducible rfl
  simp only [Act.put, List.setIfInBounds_toArray, List.set_cons_zero, List.set_cons_succ]
  refine plan_run (v := ?_) rfl (fun _ => rfl) ?_ ?_
  rotate_left
  · intro ρ w' hT
    obtain ⟨hcT, hfT⟩ := bcell hT
    go_simp
    try with_reducible rfl
  simp only [Act.put, List.setIfInBounds_toArray, List.set_cons_zero, List.set_cons_succ]
  refine plan_run (v := ?_) rfl (fun _ => rfl) ?_ ?_
  rotate_left
  · intro ρ w' hT
    obtain ⟨hcT, hfT⟩ := bcell hT
    go_simp
    try with_reducible rfl
  simp only [Act.put, List.setIfInBounds_toArray, List.set_cons_zero, List.set_cons_succ]
  refine plan_const (v := vS 5 1 main4 3 0) rfl (fun _ => rfl) ?_ ?_
  · intro ρ w' hT hF
    go_simp
    refine (one_any _).mono ?_
    rintro e w'' ⟨rfl, hb⟩
    exact ⟨_, rfl, rfl, hb⟩
  simp only [Act.put, List.setIfInBounds_toArray, List.set_cons_zero, List.set_cons_succ]
  refine plan_run (v := .bool true) rfl (fun _ => rfl) ?_ ?_
  · intro ρ w' hT
    go_simp
    try with_reducible rfl
    try decide +kernel
  simp only [Act.put, List.setIfInBounds_toArray, List.set_cons_zero, List.set_cons_succ]
  refine plan_run (v := ?_) rfl (fun _ => rfl) ?_ ?_
  rotate_left
  · intro ρ w' hT
    obtain ⟨hcT, hfT⟩ := bcell hT
    go_simp
    try with_reducible rfl
  simp only [Act.put, List.setIfInBounds_toArray, List.set_cons_zero, List.set_cons_succ]
  refine plan_run (v := ?_) rfl (fun _ => rfl) ?_ ?_
  rotate_left
  · intro ρ w' hT
    obtain ⟨hcT, hfT⟩ := bcell hT
    go_simp
    try with_reducible rfl
  simp only [Act.put, List.setIfInBounds_toArray, List.set_cons_zero, List.set_cons_succ]
  refine plan_run (v := ?_) rfl (fun _ => rfl) ?_ ?_
  rotate_left
  · intro ρ w' hT
    obtain ⟨hcT, hfT⟩ := bcell hT
    go_simp
    try with_reducible rfl
  simp only [Act.put, List.setIfInBounds_toArray, List.set_cons_zero, List.set_cons_succ]
  refine plan_const (v := .int .i64 0) rfl (fun _ => rfl) ?_ ?_
  · intro ρ w' hT hF
    go_simp
    refine (num_any _ _).mono ?_
    rintro e w'' ⟨rfl, hb⟩
    exact ⟨_, rfl, rfl, hb⟩
  simp only [Act.put, List.setIfInBounds_toArray, List.set_cons_zero, List.set_cons_succ]
  refine plan_run (v := ?_) rfl (fun _ => rfl) ?_ ?_
  rotate_left
  · intro ρ w' hT
    obtain ⟨hcT, hfT⟩ := bcell hT
    go_simp
    try with_reducible rfl
  simp only [Act.put, List.setIfInBounds_toArray, List.set_cons_zero, List.set_cons_succ]
  refine plan_run (v := ?_) rfl (fun _ => rfl) ?_ ?_
  rotate_left
  · intro ρ w' hT
    obtain ⟨hcT, hfT⟩ := bcell hT
    go_simp
    try with_reducible rfl
  simp only [Act.put, List.setIfInBounds_toArray, List.set_cons_zero, List.set_cons_succ]
  intro ρ w11 hT hF
  simp only [List.drop_succ_cons, List.drop_zero]
  go_wp2
  go_ret
  exact ⟨rfl, below_step (below_step hb9 (below_alloc _ _)) hT⟩
end Go.Proofs.YtnldgcgngolkiaaGreatDoor
