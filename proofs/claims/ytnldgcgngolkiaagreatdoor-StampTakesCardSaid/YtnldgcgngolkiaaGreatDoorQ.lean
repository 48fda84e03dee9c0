/- The reference's small functions of layers 5 and 6: the walks. -/
import Derived.Test.YtnldgcgngolkiaaGreatDoorP
import Derived.Test.YtnldgcgngolkiaaGreatDoorM
namespace Go.Proofs.YtnldgcgngolkiaaGreatDoor
open Go.RowKit
set_option linter.unusedVariables false
set_option linter.unusedSimpArgs false
attribute [local go_sem] givesUpon

set_option maxRecDepth 20000 in set_option maxHeartbeats 1000000 in
theorem rlabel_any (s : ByteArray) (w : World) (hs : s.size ≤ 1000000) :
    Calls Tryz.prog 214 #[.string s] w fun e w' => e = .returned (.bool (lab s.data.toList)) ∧ Below w.heap.size w w' := by
  go_enter Tryz.func214, Tryz.ntmps214
  go_wp2
  go_loop [3] (fun i => ∃ k : Nat, k ≤ s.size ∧ i = .int .i64 k ∧ (s.data.toList.take k).all okc = true) (fun i => s.size - (intOf i).toNat)
  case atStart => exact ⟨0, by omega, rfl, rfl⟩
  case round =>
    obtain ⟨k, hk, rfl, hall⟩ := hrel
    have Hall := Lib.hid hall
    clear hall
    by_cases hlt : k < s.size
    · have hl : k < s.data.toList.length := by simpa using hlt
      have he : (s[k]'hlt) = s.data.toList[k] := rfl
      have He := Lib.hid he
      clear he
      go_wp2
      · go_ret
        exact ⟨ret_bool (lab_not hl (by rw [← He.out]; simp [okc]; omega)), Below.refl _ _⟩
      · go_round
        case rel => exact ⟨k + 1, by omega, by go_num, all_snoc hl Hall.out (by rw [← He.out]; simp [okc]; omega)⟩
        case measure => simp [intOf]; omega
      · go_ret
        exact ⟨ret_bool (lab_not hl (by rw [← He.out]; simp [okc]; omega)), Below.refl _ _⟩
    · have he := lab_end hk hlt Hall.out
      have He := Lib.hid he
      clear he
      go_wp2
      all_goals
        go_ret
        refine ⟨ret_bool ?_, Below.refl _ _⟩
        rw [He.out]
        simp <;> omega

set_option maxRecDepth 20000 in set_option maxHeartbeats 1000000 in
theorem rbranch_any (r : Int) (l : ByteArray) (w : World) (hs : l.size ≤ 1000000) :
    Calls Tryz.prog 106 #[vB r l] w fun e w' => e = .returned (.bool (okB r l)) ∧ Below w.heap.size w w' := by
  go_enter Tryz.func106, Tryz.ntmps106
  go_wp2_with (go_at_call 214; refine (rlabel_any _ _ hs).mono ?_; rintro e w1 ⟨rfl, hb1⟩; replace hb1 := below_to (w := w) hb1 (by go_grown) (by simp))
  all_goals
    go_ret
    exact ⟨ret_bool (by simp [okB, *] <;> omega), by go_grown⟩

set_option maxRecDepth 20000 in set_option maxHeartbeats 1000000 in
theorem rname_any (r : Int) (l : ByteArray) (n : Int) (w : World) (hs : l.size ≤ 1000000) :
    Calls Tryz.prog 111 #[vN r l n] w fun e w' => e = .returned (.bool (okN r l n)) ∧ Below w.heap.size w w' := by
  generalize hB : okB r l = b
  have HB := Lib.hid hB
  clear hB
  cases b
  all_goals
    go_enter Tryz.func111, Tryz.ntmps111
    go_wp2_with (go_at_call 106; refine (rbranch_any _ _ _ hs).mono ?_; rw [HB.out]; rintro e w1 ⟨rfl, hb1⟩; obtain ⟨hc, hf⟩ := bcell hb1; replace hb1 := below_to (w := w) hb1 (by go_grown) (by simp))
    all_goals
      go_ret
      exact ⟨ret_bool (by simp [okN, HB.out] <;> omega), by go_grown⟩

set_option maxRecDepth 20000 in set_option maxHeartbeats 1000000 in
theorem rstamp_any (g r : Int) (l : ByteArray) (n i : Int) (w : World) (hs : l.size ≤ 1000000) :
    Calls Tryz.prog 114 #[vS g r l n i] w fun e w' => e = .returned (.bool (okS g r l n i)) ∧ Below w.heap.size w w' := by
  generalize hB : okN r l n = b
  have HB := Lib.hid hB
  clear hB
  cases b
  all_goals
    go_enter Tryz.func114, Tryz.ntmps114
    go_wp2_with (go_at_call 111; refine (rname_any _ _ _ _ hs).mono ?_; rw [HB.out]; rintro e w1 ⟨rfl, hb1⟩; obtain ⟨hc, hf⟩ := bcell hb1; replace hb1 := below_to (w := w) hb1 (by go_grown) (by simp))
    all_goals
      go_ret
      exact ⟨ret_bool (by simp [okS, HB.out] <;> omega), by go_grown⟩

set_option maxRecDepth 20000 in set_option maxHeartbeats 1000000 in
theorem rdigits_any (n : Int) (w : World) (E : Env w) (h0 : -9223372036854775808 ≤ n) (h1 : n ≤ 9223372036854775807) :
    Calls Tryz.prog 215 #[.int .i64 n] w fun e w' => e = .returned (.string (S (Lib.itoa n))) ∧ Below w.heap.size w w' := by
  have H := Lib.hid (digits_any n w E h0 h1)
  clear h0 h1
  go_enter Tryz.func215, Tryz.ntmps215
  go_wp2_with (go_at_call 158; refine H.out.mono ?_; rintro e w1 ⟨rfl, hb1⟩)
  go_ret
  exact ⟨rfl, hb1⟩

def rrd (s : ByteArray) : Int := (pint s).1
set_option maxRecDepth 20000 in set_option maxHeartbeats 1000000 in
theorem rread_any (s : ByteArray) (w : World) (E : Env w) (hs : s.size ≤ 1000000) :
    Calls Tryz.prog 105 #[.string s] w fun e w' => e = .returned (.int .i64 (rrd s)) ∧ Below w.heap.size w w' := by
  have H := Lib.hid (pint_any s w E hs)
  go_enter Tryz.func105, Tryz.ntmps105
  go_wp2_with fail
  refine H.out.mono ?_
  rintro e w1 ⟨⟨er, her, rfl⟩, hb1⟩
  rcases her with ⟨hp, rfl⟩ | ⟨hp, t, p, rfl⟩
  all_goals
    have Hp := Lib.hid hp
    clear hp
    go_wp2
    go_ret
    exact ⟨ret_int rfl, hb1⟩

theorem S_append (a b : List UInt8) : S a ++ S b = S (a ++ b) := str_ext (by simp [S, ByteArray.data_append])
theorem S_append_r (a : List UInt8) (b : ByteArray) : S a ++ b = S (a ++ b.data.toList) := str_ext (by simp [S, ByteArray.data_append])

set_option maxRecDepth 20000 in set_option maxHeartbeats 1000000 in
theorem rtextBranch_any (r : Int) (l : ByteArray) (w : World) (E : Env w) (h0 : -9223372036854775808 ≤ r) (h1 : r ≤ 9223372036854775807) (hs : l.size ≤ 1000000) :
    Calls Tryz.prog 107 #[vB r l] w fun e w' => e = .returned (.string (S (tB r l))) ∧ Below w.heap.size w w' := by
  have q0 := itoa_len r h0 h1
  have q1 : ¬ 9223372036854775807 < (Lib.itoa r).length + 1 := by omega
  have q2 : ¬ 9223372036854775807 < (Lib.itoa r).length + 1 + l.size := by omega
  have e1 : S (Lib.itoa r) ++ ⟨#[46]⟩ = S (Lib.itoa r ++ [46]) := S_append _ [46]
  have e2 : S (Lib.itoa r ++ [46]) ++ l = S (tB r l) := by rw [S_append_r]; simp [tB]
  go_enter Tryz.func107, Tryz.ntmps107
  go_wp2_with fail
  refine wp_region_plan 7 [(none, []), (none, []), (none, []), (none, []), (none, []), (none, []), (none, [])] [] (by kernel_rfl) (by kernel_rfl) ?_
  simp only [List.take_succ_cons, List.take_zero]
  refine plan_run (v := ?_) rfl (fun _ => rfl) ?_ ?_
  rotate_left
  · intro ρ w' hT
    obtain ⟨hcT, hfT⟩ := bcell hT
    go_simp
    try with_reducible rfl
  simp only [Act.put, List.setIfInBounds_toArray, List.set_cons_zero, List.set_cons_succ]
  refine plan_run (v := ?_) rfl (fun _ => rfl) ?_ ?_
  rotate_left
  · intro ρ w' hT
    obtain ⟨hcT, hfT⟩ := bcell hT
    go_simp
    try with_reducible rfl
  simp only [Act.put, List.setIfInBounds_toArray, List.set_cons_zero, List.set_cons_succ]
  refine plan_const (v := .string (S (Lib.itoa r))) rfl (fun _ => rfl) ?_ ?_
  · intro ρ w' hT hF
    go_simp
    refine (rdigits_any r w' (E.below (below_step (below_alloc _ _) hT)) h0 h1).mono ?_
    rintro e w'' ⟨rfl, hb⟩
    exact ⟨_, rfl, rfl, hb⟩
  simp only [Act.put, List.setIfInBounds_toArray, List.set_cons_zero, List.set_cons_succ]
  refine plan_run (v := ?_) rfl (fun _ => rfl) ?_ ?_
  rotate_left
  · intro ρ w' hT
    obtain ⟨hcT, hfT⟩ := bcell hT
    go_simp
    try with_reducible rfl
  simp only [Act.put, List.setIfInBounds_toArray, List.set_cons_zero, List.set_cons_succ]
  refine plan_run (v := ?_) rfl (fun _ => rfl) ?_ ?_
  rotate_left
  · intro ρ w' hT
    obtain ⟨hcT, hfT⟩ := bcell hT
    go_simp
    try with_reducible rfl
  simp only [Act.put, List.setIfInBounds_toArray, List.set_cons_zero, List.set_cons_succ]
  refine plan_run (v := ?_) rfl (fun _ => rfl) ?_ ?_
  rotate_left
  · intro ρ w' hT
    obtain ⟨hcT, hfT⟩ := bcell hT
    go_simp
    try with_reducible rfl
  simp only [Act.put, List.setIfInBounds_toArray, List.set_cons_zero, List.set_cons_succ]
  refine plan_run (v := ?_) rfl (fun _ => rfl) ?_ ?_
  rotate_left
  · intro ρ w' hT
    obtain ⟨hcT, hfT⟩ := bcell hT
    go_simp
    try with_reducible rfl
  simp only [Act.put, List.setIfInBounds_toArray, List.set_cons_zero, List.set_cons_succ]
  intro ρ w1 hT hF
  simp only [List.drop_succ_cons, List.drop_zero]
  go_wp2
  have hz := hT.size
  simp at hz
  go_ret
  exact ⟨rfl, below_to (w := w) hT (by go_grown) (by simp)⟩

theorem tB_lenR (r : Int) (l : ByteArray) (h0 : -9223372036854775808 ≤ r) (h1 : r ≤ 9223372036854775807) (hs : l.size ≤ 1000000) : (tB r l).length ≤ 1000100 := by
  have := itoa_len r h0 h1
  simp [tB]; omega
theorem tN_lenR (r : Int) (l : ByteArray) (n : Int) (h0 : -9223372036854775808 ≤ r) (h1 : r ≤ 9223372036854775807) (h2 : -9223372036854775808 ≤ n) (h3 : n ≤ 9223372036854775807) (hs : l.size ≤ 1000000) : (tN r l n).length ≤ 1000200 := by
  have := itoa_len n h2 h3
  have := tB_lenR r l h0 h1 hs
  simp [tN]; omega
set_option maxRecDepth 20000 in set_option maxHeartbeats 1000000 in
theorem rtextName_any (r : Int) (l : ByteArray) (n : Int) (w : World) (E : Env w) (h0 : -9223372036854775808 ≤ r) (h1 : r ≤ 9223372036854775807) (h2 : -9223372036854775808 ≤ n) (h3 : n ≤ 9223372036854775807) (hs : l.size ≤ 1000000) :
    Calls Tryz.prog 112 #[vN r l n] w fun e w' => e = .returned (.string (S (tN r l n))) ∧ Below w.heap.size w w' := by
  have q0 := itoa_len n h2 h3
  have q3 := tB_lenR r l h0 h1 hs
  have q1 : ¬ 9223372036854775807 < (tB r l).length + 1 := by omega
  have q2 : ¬ 9223372036854775807 < (tB r l).length + 1 + (Lib.itoa n).length := by omega
  have e1 : S (tB r l) ++ ⟨#[46]⟩ = S (tB r l ++ [46]) := S_append _ [46]
  have e2 : S (tB r l ++ [46]) ++ S (Lib.itoa n) = S (tN r l n) := by rw [S_append]; simp [tN]
  go_enter Tryz.func112, Tryz.ntmps112
  go_wp2_with fail
  refine wp_region_plan 8 [(none, []), (none, []), (none, []), (none, []), (none, []), (none, []), (none, []), (none, [])] [] (by kernel_rfl) (by kernel_rfl) ?_
  simp only [List.take_succ_cons, List.take_zero]
  refine plan_run (v := ?_) rfl (fun _ => rfl) ?_ ?_
  rotate_left
  · intro ρ w' hT
    obtain ⟨hcT, hfT⟩ := bcell hT
    go_simp
    try with_reducible rfl
  simp only [Act.put, List.setIfInBounds_toArray, List.set_cons_zero, List.set_cons_succ]
  refine plan_run (v := ?_) rfl (fun _ => rfl) ?_ ?_
  rotate_left
  · intro ρ w' hT
    obtain ⟨hcT, hfT⟩ := bcell hT
    go_simp
    try with_reducible rfl
  simp only [Act.put, List.setIfInBounds_toArray, List.set_cons_zero, List.set_cons_succ]
  refine plan_const (v := .string (S (tB r l))) rfl (fun _ => rfl) ?_ ?_
  · intro ρ w' hT hF
    go_simp
    refine (rtextBranch_any r l w' (E.below (below_step (below_alloc _ _) hT)) h0 h1 hs).mono ?_
    rintro e w'' ⟨rfl, hb⟩
    exact ⟨_, rfl, rfl, hb⟩
  simp only [Act.put, List.setIfInBounds_toArray, List.set_cons_zero, List.set_cons_succ]
  refine plan_run (v := ?_) rfl (fun _ => rfl) ?_ ?_
  rotate_left
  · intro ρ w' hT
    obtain ⟨hcT, hfT⟩ := bcell hT
    go_simp
    try with_reducible rfl
  simp only [Act.put, List.setIfInBounds_toArray, List.set_cons_zero, List.set_cons_succ]
  refine plan_run (v := ?_) rfl (fun _ => rfl) ?_ ?_
  rotate_left
  · intro ρ w' hT
    obtain ⟨hcT, hfT⟩ := bcell hT
    go_simp
    try with_reducible rfl
  simp only [Act.put, List.setIfInBounds_toArray, List.set_cons_zero, List.set_cons_succ]
  refine plan_run (v := ?_) rfl (fun _ => rfl) ?_ ?_
  rotate_left
  · intro ρ w' hT
    obtain ⟨hcT, hfT⟩ := bcell hT
    go_simp
    try with_reducible rfl
  simp only [Act.put, List.setIfInBounds_toArray, List.set_cons_zero, List.set_cons_succ]
  refine plan_const (v := .string (S (Lib.itoa n))) rfl (fun _ => rfl) ?_ ?_
  · intro ρ w' hT hF
    go_simp
    refine (rdigits_any n w' (E.below (below_step (below_alloc _ _) hT)) h2 h3).mono ?_
    rintro e w'' ⟨rfl, hb⟩
    exact ⟨_, rfl, rfl, hb⟩
  simp only [Act.put, List.setIfInBounds_toArray, List.set_cons_zero, List.set_cons_succ]
  refine plan_run (v := ?_) rfl (fun _ => rfl) ?_ ?_
  rotate_left
  · intro ρ w' hT
    obtain ⟨hcT, hfT⟩ := bcell hT
    go_simp
    try with_reducible rfl
  simp only [Act.put, List.setIfInBounds_toArray, List.set_cons_zero, List.set_cons_succ]
  intro ρ w1 hT hF
  simp only [List.drop_succ_cons, List.drop_zero]
  go_wp2
  have hz := hT.size
  simp at hz
  go_ret
  exact ⟨rfl, below_to (w := w) hT (by go_grown) (by simp)⟩

set_option maxRecDepth 20000 in set_option maxHeartbeats 1000000 in
theorem rtextStamp_any (g r : Int) (l : ByteArray) (n i : Int) (w : World) (E : Env w) (h0 : -9223372036854775808 ≤ r) (h1 : r ≤ 9223372036854775807) (h2 : -9223372036854775808 ≤ n) (h3 : n ≤ 9223372036854775807) (h4 : -9223372036854775808 ≤ g) (h5 : g ≤ 9223372036854775807) (h6 : -9223372036854775808 ≤ i) (h7 : i ≤ 9223372036854775807) (hs : l.size ≤ 1000000) :
    Calls Tryz.prog 115 #[vS g r l n i] w fun e w' => e = .returned (.string (S (tS g r l n i))) ∧ Below w.heap.size w w' := by
  have q0 := itoa_len g h4 h5
  have q4 := itoa_len i h6 h7
  have q3 := tN_lenR r l n h0 h1 h2 h3 hs
  have q1 : ¬ 9223372036854775807 < (Lib.itoa g).length + 1 := by omega
  have q2 : ¬ 9223372036854775807 < (Lib.itoa g).length + 1 + (tN r l n).length := by omega
  have ex : ∃ a, a = Lib.itoa g ++ 46 :: tN r l n := ⟨_, rfl⟩
  obtain ⟨a, ha⟩ := ex
  have hal : a.length = (Lib.itoa g).length + ((tN r l n).length + 1) := by rw [ha]; simp
  have q5 : ¬ 9223372036854775807 < a.length + 1 := by omega
  have q6 : ¬ 9223372036854775807 < a.length + 1 + (Lib.itoa i).length := by omega
  have e1 : S (Lib.itoa g) ++ ⟨#[46]⟩ = S (Lib.itoa g ++ [46]) := S_append _ [46]
  have e2 : S (Lib.itoa g ++ [46]) ++ S (tN r l n) = S a := by rw [S_append, ha]; simp
  have e3 : S a ++ ⟨#[46]⟩ = S (a ++ [46]) := S_append _ [46]
  have e4 : S (a ++ [46]) ++ S (Lib.itoa i) = S (tS g r l n i) := by rw [S_append, ha]; simp [tS]
  clear ha hal
  go_enter Tryz.func115, Tryz.ntmps115
  go_wp2_with fail
  refine wp_region_plan 13 [(none, []), (none, []), (none, []), (none, []), (none, []), (none, []), (none, []), (none, []), (none, []), (none, []), (none, []), (none, []), (none, [])] [] (by kernel_rfl) (by kernel_rfl) ?_
  simp only [List.take_succ_cons, List.take_zero]
  refine plan_run (v := ?_) rfl (fun _ => rfl) ?_ ?_
  rotate_left
  · intro ρ w' hT
    obtain ⟨hcT, hfT⟩ := bcell hT
    go_simp
    try with_reducible rfl
  simp only [Act.put, List.setIfInBounds_toArray, List.set_cons_zero, List.set_cons_succ]
  refine plan_run (v := ?_) rfl (fun _ => rfl) ?_ ?_
  rotate_left
  · intro ρ w' hT
    obtain ⟨hcT, hfT⟩ := bcell hT
    go_simp
    try with_reducible rfl
  simp only [Act.put, List.setIfInBounds_toArray, List.set_cons_zero, List.set_cons_succ]
  refine plan_const (v := .string (S (Lib.itoa g))) rfl (fun _ => rfl) ?_ ?_
  · intro ρ w' hT hF
    go_simp
    refine (rdigits_any g w' (E.below (below_step (below_alloc _ _) hT)) h4 h5).mono ?_
    rintro e w'' ⟨rfl, hb⟩
    exact ⟨_, rfl, rfl, hb⟩
  simp only [Act.put, List.setIfInBounds_toArray, List.set_cons_zero, List.set_cons_succ]
  refine plan_run (v := ?_) rfl (fun _ => rfl) ?_ ?_
  rotate_left
  · intro ρ w' hT
    obtain ⟨hcT, hfT⟩ := bcell hT
    go_simp
    try with_reducible rfl
  simp only [Act.put, List.setIfInBounds_toArray, List.set_cons_zero, List.set_cons_succ]
  refine plan_run (v := ?_) rfl (fun _ => rfl) ?_ ?_
  rotate_left
  · intro ρ w' hT
    obtain ⟨hcT, hfT⟩ := bcell hT
    go_simp
    try with_reducible rfl
  simp only [Act.put, List.setIfInBounds_toArray, List.set_cons_zero, List.set_cons_succ]
  refine plan_run (v := ?_) rfl (fun _ => rfl) ?_ ?_
  rotate_left
  · intro ρ w' hT
    obtain ⟨hcT, hfT⟩ := bcell hT
    go_simp
    try with_reducible rfl
  simp only [Act.put, List.setIfInBounds_toArray, List.set_cons_zero, List.set_cons_succ]
  refine plan_const (v := .string (S (tN r l n))) rfl (fun _ => rfl) ?_ ?_
  · intro ρ w' hT hF
    go_simp
    refine (rtextName_any r l n w' (E.below (below_step (below_alloc _ _) hT)) h0 h1 h2 h3 hs).mono ?_
    rintro e w'' ⟨rfl, hb⟩
    exact ⟨_, rfl, rfl, hb⟩
  simp only [Act.put, List.setIfInBounds_toArray, List.set_cons_zero, List.set_cons_succ]
  refine plan_run (v := ?_) rfl (fun _ => rfl) ?_ ?_
  rotate_left
  · intro ρ w' hT
    obtain ⟨hcT, hfT⟩ := bcell hT
    go_simp
    try with_reducible rfl
  simp only [Act.put, List.setIfInBounds_toArray, List.set_cons_zero, List.set_cons_succ]
  refine plan_run (v := ?_) rfl (fun _ => rfl) ?_ ?_
  rotate_left
  · intro ρ w' hT
    obtain ⟨hcT, hfT⟩ := bcell hT
    go_simp
    try with_reducible rfl
  simp only [Act.put, List.setIfInBounds_toArray, List.set_cons_zero, List.set_cons_succ]
  refine plan_run (v := ?_) rfl (fun _ => rfl) ?_ ?_
  rotate_left
  · intro ρ w' hT
    obtain ⟨hcT, hfT⟩ := bcell hT
    go_simp
    try with_reducible rfl
  simp only [Act.put, List.setIfInBounds_toArray, List.set_cons_zero, List.set_cons_succ]
  refine plan_run (v := ?_) rfl (fun _ => rfl) ?_ ?_
  rotate_left
  · intro ρ w' hT
    obtain ⟨hcT, hfT⟩ := bcell hT
    go_simp
    try with_reducible rfl
  simp only [Act.put, List.setIfInBounds_toArray, List.set_cons_zero, List.set_cons_succ]
  refine plan_const (v := .string (S (Lib.itoa i))) rfl (fun _ => rfl) ?_ ?_
  · intro ρ w' hT hF
    go_simp
    refine (rdigits_any i w' (E.below (below_step (below_alloc _ _) hT)) h6 h7).mono ?_
    rintro e w'' ⟨rfl, hb⟩
    exact ⟨_, rfl, rfl, hb⟩
  simp only [Act.put, List.setIfInBounds_toArray, List.set_cons_zero, List.set_cons_succ]
  refine plan_run (v := ?_) rfl (fun _ => rfl) ?_ ?_
  rotate_left
  · intro ρ w' hT
    obtain ⟨hcT, hfT⟩ := bcell hT
    go_simp
    try with_reducible rfl
  simp only [Act.put, List.setIfInBounds_toArray, List.set_cons_zero, List.set_cons_succ]
  intro ρ w1 hT hF
  simp only [List.drop_succ_cons, List.drop_zero]
  go_wp2
  have hz := hT.size
  simp at hz
  go_ret
  exact ⟨rfl, below_to (w := w) hT (by go_grown) (by simp)⟩
end Go.Proofs.YtnldgcgngolkiaaGreatDoor
