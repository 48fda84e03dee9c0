/- The reference's Key, OfKey: the walks. -/
import Derived.Test.YtnldgcgngolkiaaGreatDoorT
namespace Go.Proofs.YtnldgcgngolkiaaGreatDoor
open Go.RowKit
set_option linter.unusedVariables false
set_option linter.unusedSimpArgs false
attribute [local go_sem] givesUpon

theorem own_less {w : World} {b0 b1 size n : Nat} {e : TypeId} {v : Value} {xs : List Value} (h : w.ownsRow b1 e size v n xs) (hb : b0 ≤ b1) : w.ownsRow b0 e size v n xs := by
  refine ⟨h.1, ?_⟩
  rcases h.2 with h0 | ⟨g, cap, cur, hv, hg, r⟩
  · exact .inl h0
  · exact .inr ⟨g, cap, cur, hv, Nat.le_trans hb hg, r⟩
theorem own_keep {w w' : World} {base size n : Nat} {e : TypeId} {v : Value} {xs : List Value} (h : w.ownsRow base e size v n xs) (hb : Below w.heap.size w w') : w'.ownsRow base e size v n xs := by
  refine ⟨h.1, ?_⟩
  rcases h.2 with h0 | ⟨g, cap, cur, hv, hg, hh, r⟩
  · exact .inl h0
  · have hgl : g < w.heap.size := by
      rcases Nat.lt_or_ge g w.heap.size with h | h
      · exact h
      · rw [Array.getElem?_eq_none h] at hh; cases hh
    exact .inr ⟨g, cap, cur, hv, hg, (hb.block g hgl).trans hh, r⟩
/-- What owns these bytes, behind a place. -/
def OwnAt (base : Nat) (l : List UInt8) : Fact := fun v w => w.ownsRow base 5 1 v l.length (u8s l)
theorem OwnAt.lasts {l : List UInt8} {base : Nat} : Lasts (OwnAt base l) := Owns.lasts
theorem OwnAt.of {l : List UInt8} {base : Nat} {w w' : World} {e : Ending} (h : Owns l w e w') (hb : base ≤ w.heap.size) : ∃ v, e = .returned v ∧ OwnAt base l v w' ∧ Below w.heap.size w w' := by
  obtain ⟨v, he, ho, hbw⟩ := h
  exact ⟨v, he, own_less ho hb, hbw⟩

set_option maxRecDepth 20000 in set_option maxHeartbeats 1000000 in
theorem rkey_any (g r : Int) (l : ByteArray) (n i : Int) (w : World) (hs : l.size ≤ 1000000) (h : okS g r l n i = true) :
    Calls Tryz.prog 118 #[vS g r l n i] w fun e w' => e = .returned (.string (S (kS g r l n i))) ∧ Below w.heap.size w w' := by
  obtain ⟨i0, hi0, hz0, hz1, hz2⟩ := info_parts info5
  have h1 := okS_iff.1 h
  have h2 : okB r l = true ∧ 1 ≤ n ∧ n ≤ 4611686018427387904 := okN_iff.1 h1.2.2.1
  have h3 := okB_rng h2.1
  have wg0 : 0 ≤ g := by omega
  have wn0 : 0 ≤ n := by omega
  have wr8 : IntKind.u8.wrap r = r := IntWalk.u8_in _ (by omega)
  have wi8 : IntKind.u8.wrap i = i := IntWalk.u8_in _ (by omega)
  have hr0 := h3.1
  have hr8 := h3.2
  have hi0' := h1.2.2.2.1
  have hi64 := h1.2.2.2.2
  have H := Lib.hid h1
  have H2 := Lib.hid h2
  have H3 := Lib.hid h3
  clear h h1 h2 h3
  go_enter Tryz.func118, Tryz.ntmps118
  go_wp2_with fail
  refine wp_region_plan 9 [(none, []), (none, []), (some (OwnAt (w.heap.size + 1) (eight g)), []), (none, []), (none, []), (none, []), (none, []), (none, []), (some (BytesAt [byteOf r]), [])] [2, 8] (by kernel_rfl) (by kernel_rfl) ?_
  simp only [List.take_succ_cons, List.take_zero]
  refine plan_run (v := ?_) rfl (fun _ => rfl) ?_ ?_
  rotate_left
  · intro ρ w' hT
    obtain ⟨hcT, hfT⟩ := bcell hT
    go_simp
    try with_reducible rfl
  simp only [Act.put, List.setIfInBounds_toArray, List.set_cons_zero, List.set_cons_succ]
  refine plan_run (v := ?_) rfl (fun _ => rfl) ?_ ?_
  rotate_left
  · intro ρ w' hT
    obtain ⟨hcT, hfT⟩ := bcell hT
    go_simp
    try with_reducible rfl
  simp only [Act.put, List.setIfInBounds_toArray, List.set_cons_zero, List.set_cons_succ]
  refine plan_fact rfl OwnAt.lasts (fun _ => rfl) ?_ ?_
  · intro ρ w' hT hF
    have hz := hT.size
    go_simp
    refine (reight_any g w' wg0 (by have := H.out; omega)).mono ?_
    intro e w'' ho
    obtain ⟨v, rfl, hv, hb⟩ := OwnAt.of ho (base := w.heap.size + 1) (by simpa using hz)
    exact ⟨v, rfl, hv, hb⟩
  simp only [Act.put, List.setIfInBounds_toArray, List.set_cons_zero, List.set_cons_succ]
  refine plan_run (v := ?_) rfl (fun _ => rfl) ?_ ?_
  rotate_left
  · intro ρ w' hT
    obtain ⟨hcT, hfT⟩ := bcell hT
    go_simp
    try with_reducible rfl
  simp only [Act.put, List.setIfInBounds_toArray, List.set_cons_zero, List.set_cons_succ]
  refine plan_run (v := ?_) rfl (fun _ => rfl) ?_ ?_
  rotate_left
  · intro ρ w' hT
    obtain ⟨hcT, hfT⟩ := bcell hT
    go_simp
    try with_reducible rfl
  simp only [Act.put, List.setIfInBounds_toArray, List.set_cons_zero, List.set_cons_succ]
  refine plan_run (v := ?_) rfl (fun _ => rfl) ?_ ?_
  rotate_left
  · intro ρ w' hT
    obtain ⟨hcT, hfT⟩ := bcell hT
    go_simp
    try with_reducible rfl
  simp only [Act.put, List.setIfInBounds_toArray, List.set_cons_zero, List.set_cons_succ]
  refine plan_run (v := ?_) rfl (fun _ => rfl) ?_ ?_
  rotate_left
  · intro ρ w' hT
    obtain ⟨hcT, hfT⟩ := bcell hT
    go_simp
    try with_reducible rfl
  simp only [Act.put, List.setIfInBounds_toArray, List.set_cons_zero, List.set_cons_succ]
  refine plan_run (v := ?_) rfl (fun _ => rfl) ?_ ?_
  rotate_left
  · intro ρ w' hT
    obtain ⟨hcT, hfT⟩ := bcell hT
    go_simp
    try with_reducible rfl
  simp only [Act.put, List.setIfInBounds_toArray, List.set_cons_zero, List.set_cons_succ]
  refine plan_fact rfl (BytesAt.lasts _) (fun _ => rfl) ?_ ?_
  · intro ρ w' hT hF
    go_simp
    exact ⟨one_byte _ _ (by rw [byteOf_int] <;> omega), below_alloc _ _⟩
  simp only [Act.put, List.setIfInBounds_toArray, List.set_cons_zero, List.set_cons_succ]
  intro ρ w1 hT hF
  obtain ⟨f2, f8, _⟩ := hF
  simp only [List.drop_succ_cons, List.drop_zero, Nat.zero_add, Nat.reduceAdd]
  have hz := hT.size
  simp at hz
  have o2 : w1.ownsRow (w.heap.size + 1) 5 1 (ρ 2) 8 (u8s (eight g)) := f2
  obtain ⟨A8, c8, e8, r8⟩ := f8
  simp only [e8]
  refine wpList_append_any _ rfl (.tmp 6) (.tmp 12) 44 rfl (w.heap.size + 1) 5 i0 (.int .u8 0) 1 1 Tryz.underlying44 hi0 hz0 hz1 hz2 rfl (by omega) _ _ _ rfl o2 _ _ _ _ (u8s [byteOf r]) rfl r8 (u8s_one _) (by simp only [maxLen, List.length_cons, List.length_nil]; omega) (by simp only [List.length_cons, List.length_nil]; omega) hz ?_
  intro v2 w2 o3 hg2 hat2
  have k2 := box_cell hT (by simp) 2 rfl
  have k3 := box_cell hT (by simp) 3 rfl
  have k4 := box_cell hT (by simp) 4 rfl
  have hb1 : Below w.heap.size w w1 := below_step (below_alloc _ _) hT
  have g2 : Below (w.heap.size + 1) w1 w2 := (Below.refl _ _).grown hg2 hz (fun q hq => (o2.lt q hq).1)
  clear f2 hT e8 r8 o2 hg2 hat2
  have k2 := cell_on g2 (Nat.lt_succ_self _) k2
  have k3 := cell_on g2 (Nat.lt_succ_self _) k3
  have k4 := cell_on g2 (Nat.lt_succ_self _) k4
  have hb2 : Below w.heap.size w w2 := hb1.trans (g2.mono (Nat.le_succ _))
  have hz2' : w.heap.size + 1 ≤ w2.heap.size := by have := g2.size; omega
  go_wp2_with (first | (at_builtin; refine Lib.wpList_append_own_string _ rfl (.tmp 14) (.tmp 18) 44 9 rfl (w.heap.size + 1) 5 i0 Tryz.underlying44 Tryz.underlying9 hi0 hz0 hz1 hz2 _ _ _ rfl o3 l rfl (by simp only [maxLen, List.length_cons, List.length_nil]; omega) (by simp only [List.length_cons, List.length_nil]; omega) hz2' ?_; intro v3 w3 o4 hg3 hat3; clear hat3; have g3 : Below (w.heap.size + 1) w2 w3 := (Below.refl _ _).grown hg3 hz2' (fun q hq => (o3.lt q hq).1); have hz3' : w.heap.size + 1 ≤ w3.heap.size := Nat.le_trans hz2' g3.size; have o4' := o4.alloc (.cells #[.int .u8 0] 5); have r4 := Lib.hid (reads_new w3 [.int .u8 0] 5)) | (at_builtin; refine wpList_append_any _ rfl (.tmp 20) (.tmp 21) 44 rfl (w.heap.size + 1) 5 i0 (.int .u8 0) 1 1 Tryz.underlying44 hi0 hz0 hz1 hz2 rfl (by omega) _ _ _ rfl o4' _ (some ⟨w3.heap.size, 0, none⟩) 1 1 [.int .u8 0] rfl r4.out (by simp [Value.oneCell']) (by simp only [maxLen, List.length_cons, List.length_nil]; omega) (by simp only [List.length_cons, List.length_nil]; omega) (by simp; omega) ?_; intro v4 w4 o5 hg4 hat4; clear hat4; have g4 : Below (w.heap.size + 1) w3 w4 := ((Below.refl _ _).alloc hz3' _).grown hg4 (by simp; omega) (fun q hq => (o4'.lt q hq).1); have k3 := cell_on g4 (Nat.lt_succ_self _) (cell_on g3 (Nat.lt_succ_self _) k3); have k4 := cell_on g4 (Nat.lt_succ_self _) (cell_on g3 (Nat.lt_succ_self _) k4)))
  have hz4' : w.heap.size + 1 ≤ w4.heap.size := Nat.le_trans hz3' g4.size
  refine (reight_any n w4 wn0 (by have := H2.out; omega)).mono ?_
  rintro e w5 ⟨v5, rfl, o6, hb5⟩
  obtain ⟨A5, c5, rfl, r5⟩ := of_own o6
  have R5 := Lib.hid (show Reads w5 w5.heap.size 1 A5 8 (u8s (eight n)) from r5)
  have O5 := own_keep o5 hb5
  have hz5' : w.heap.size + 1 ≤ w5.heap.size := Nat.le_trans hz4' hb5.size
  have g5 : Below (w.heap.size + 1) w4 w5 := hb5.mono hz4'
  have k4 := cell_on g5 (Nat.lt_succ_self _) k4
  have hb5' : Below w.heap.size w w5 := hb2.trans ((g3.trans (g4.trans g5)).mono (Nat.le_succ _))
  clear o6 r5 o5 o4 o4' o3 r4 g2 hb1 g3 g4 g5 hg3 hg4 hb2 hb5 k2 k3
  go_wp2_with (first | (at_builtin; refine wpList_append_any _ rfl (.tmp 23) (.tmp 27) 44 rfl (w.heap.size + 1) 5 i0 (.int .u8 0) 1 1 Tryz.underlying44 hi0 hz0 hz1 hz2 rfl (by omega) _ _ _ rfl O5 _ A5 8 c5 (u8s (eight n)) rfl R5.out (u8s_one _) (by simp only [maxLen, List.length_cons, List.length_nil]; omega) (by simp only [List.length_cons, List.length_nil]; omega) hz5' ?_; intro v6 w6 o7 hg6 hat6; clear hat6; have g6 : Below (w.heap.size + 1) w5 w6 := (Below.refl _ _).grown hg6 hz5' (fun q hq => (O5.lt q hq).1); have k4 := cell_on g6 (Nat.lt_succ_self _) k4; have hz6' : w.heap.size + 1 ≤ w6.heap.size := Nat.le_trans hz5' g6.size; have o7' := o7.alloc (.cells #[.int .u8 i] 5); have r7 := Lib.hid (reads_new w6 [.int .u8 i] 5)) | (at_builtin; refine wpList_append_any _ rfl (.tmp 29) (.tmp 33) 44 rfl (w.heap.size + 1) 5 i0 (.int .u8 0) 1 1 Tryz.underlying44 hi0 hz0 hz1 hz2 rfl (by omega) _ _ _ rfl o7' _ (some ⟨w6.heap.size, 0, none⟩) 1 1 [.int .u8 i] rfl r7.out (by simp [Value.oneCell']) (by simp only [maxLen, List.length_cons, List.length_nil]; omega) (by simp only [List.length_cons, List.length_nil]; omega) (by simp; omega) ?_; intro v8 w8 o8 hg8 hat8; clear hat8; have g8 : Below (w.heap.size + 1) w6 w8 := ((Below.refl _ _).alloc hz6' _).grown hg8 (by simp; omega) (fun q hq => (o7'.lt q hq).1)))
  have EX : u8s (eight g) ++ u8s [byteOf r] ++ Lib.strCells l ++ [.int .u8 0] ++ u8s (eight n) ++ [.int .u8 i] = u8s (kS g r l n i) := by
    have e1 : Lib.strCells l = u8s l.data.toList := rfl
    have e2 : [Value.int .u8 i] = u8s [byteOf i] := by simp only [u8s, List.map_cons, List.map_nil]; rw [byteOf_int (by omega) (by omega)]
    have e3 : [Value.int .u8 0] = u8s [0] := rfl
    rw [e1, e2, e3, ← u8s_append, ← u8s_append, ← u8s_append, ← u8s_append, ← u8s_append]
    congr 1
    simp [kS]
  have EL : (kS g r l n i).length = 8 + [byteOf r].length + l.size + 1 + 8 + 1 := by simp [kS, eight_len, str_len]; omega
  have O8 : w8.ownsRow (w.heap.size + 1) 5 1 v8 (kS g r l n i).length (u8s (kS g r l n i)) := by rw [← EX, EL]; exact o8
  rw [conv_string (of_own O8)]
  go_wp2
  go_ret
  exact ⟨rfl, hb5'.trans ((g6.trans g8).mono (Nat.le_succ _))⟩
end Go.Proofs.YtnldgcgngolkiaaGreatDoor
