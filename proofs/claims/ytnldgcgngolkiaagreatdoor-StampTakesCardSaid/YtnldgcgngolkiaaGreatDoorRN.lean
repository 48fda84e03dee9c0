/- The reference's forms: Number, Bytes, PutBranch, PutName, Put: the walks. -/
import Derived.Test.YtnldgcgngolkiaaGreatDoorCC
namespace Go.Proofs.YtnldgcgngolkiaaGreatDoor
open Go.RowKit
set_option linter.unusedVariables false
set_option linter.unusedSimpArgs false
set_option linter.unnecessarySimpa false
attribute [local go_sem] givesUpon

set_option maxRecDepth 20000 in set_option maxHeartbeats 2000000 in
theorem qform_any (n : Nat) (w : World) (hn : n < 18446744073709551616) :
    Calls Tryz.prog 152 #[.int .u64 n] w (Owns (numL n) w) := by
  obtain ⟨i0, hi0, hz0, hz1, hz2⟩ := info_parts info5
  go_enter Tryz.func152, Tryz.ntmps152
  go_wp2
  go_loopw [0, 3] (fun m v wr => ∃ (k : Nat) (xs : List UInt8), m = .int .u64 k ∧ k ≤ n ∧ xs ++ numL k = numL n ∧ xs.length + (numL k).length ≤ 20 ∧ wr.ownsRow w.heap.size 5 1 v xs.length (u8s xs) ∧ Below w.heap.size w wr) (fun m _ _ => (intOf m).toNat)
  case atStart => exact ⟨n, [], rfl, by omega, by simp, by have := numL_len 9 n (by omega); simp; omega, World.ownsRow_nil _ _ _ _, Below.refl _ _⟩
  case round =>
    obtain ⟨k, xs, rfl, hk, hxs, hlen, hown, hbw⟩ := hrel
    have Hxs := Lib.hid hxs
    clear hxs
    have hsz := hbw.size
    by_cases hlt : 127 < (k : Int)
    · have hb := numL_big (n := k) (by omega)
      have hor : IntKind.u8.wrap ((k : Int) % 128 + 128) = ((UInt8.ofNat (k % 128 + 128)).toNat : Int) := by
        have : ((UInt8.ofNat (k % 128 + 128)).toNat : Int) = (k : Int) % 128 + 128 := by simp; omega
        rw [this]
        exact IntWalk.u8_in _ (by omega)
      have hl1 : xs.length + 1 ≤ 20 := by rw [hb] at hlen; simp at hlen; omega
      have hl2 : xs.length + 1 + (numL (k / 128)).length ≤ 20 := by rw [hb] at hlen; simp at hlen; omega
      have HB := Lib.hid hb
      have hown' := hown.alloc (.cells #[.int .u8 (UInt8.ofNat (k % 128 + 128)).toNat] 5)
      have hr := Lib.hid (reads_new wr [.int .u8 (UInt8.ofNat (k % 128 + 128)).toNat] 5)
      clear hb hlen
      go_wp2_with (at_builtin; refine wpList_append_any _ rfl (.tmp 6) (.tmp 11) 44 rfl w.heap.size 5 i0 (.int .u8 0) 1 1 Tryz.underlying44 hi0 hz0 hz1 hz2 rfl (by omega) _ _ _ rfl hown' _ (some ⟨wr.heap.size, 0, none⟩) 1 1 [.int .u8 (UInt8.ofNat (k % 128 + 128)).toNat] rfl hr.out (by simp [Value.oneCell']) (by simp only [maxLen]; omega) (by omega) (by simp; omega) ?_; intro v1 w1 hown1 hg1 hat1)
      go_roundw
      case rel => exact ⟨k / 128, xs ++ [UInt8.ofNat (k % 128 + 128)], by go_num, by omega, by rw [← Hxs.out, HB.out]; simp, by simp; omega, by rw [u8s_append]; simpa [u8s] using hown1, (hbw.alloc (by omega) _).grown hg1 (by simp; omega) (fun q hq => (hown'.lt q hq).1)⟩
      case measure => simp [intOf]; omega
    · have hb := numL_small (n := k) (by omega)
      have hl1 : xs.length + 1 ≤ 20 := by rw [hb] at hlen; simp at hlen; omega
      have HF := Lib.hid (show xs ++ [UInt8.ofNat k] = numL n by rw [← Hxs.out, hb])
      have hown' := hown.alloc (.cells #[.int .u8 (k : Int)] 5)
      have hr := Lib.hid (reads_new wr [.int .u8 (k : Int)] 5)
      clear hb hlen
      go_wp2_with (at_builtin; refine wpList_append_any _ rfl (.tmp 15) (.tmp 18) 44 rfl w.heap.size 5 i0 (.int .u8 0) 1 1 Tryz.underlying44 hi0 hz0 hz1 hz2 rfl (by omega) _ _ _ rfl hown' _ (some ⟨wr.heap.size, 0, none⟩) 1 1 [.int .u8 (k : Int)] rfl hr.out (by simp [Value.oneCell']) (by simp only [maxLen]; omega) (by omega) (by simp; omega) ?_; intro v1 w1 hown1 hg1 hat1)
      go_ret
      refine ⟨_, rfl, ?_, (hbw.alloc (by omega) _).grown hg1 (by simp; omega) (fun q hq => (hown'.lt q hq).1)⟩
      rw [← HF.out, u8s_append]
      have hm : ((UInt8.ofNat k).toNat : Int) = (k : Int) := by simp; omega
      simp only [List.length_append, List.length_cons, List.length_nil, u8s, List.map_cons, List.map_nil, hm]
      exact hown1
set_option maxRecDepth 20000 in set_option maxHeartbeats 2000000 in
theorem qbytes_any (l : List UInt8) (v : Value) (w : World) (h : BytesAt l v w) (hl : l.length ≤ 1000000) :
    Calls Tryz.prog 153 #[v] w (Owns (bytL l) w) := by
  obtain ⟨A, c, rfl, hr⟩ := h
  obtain ⟨i0, hi0, hz0, hz1, hz2⟩ := info_parts info5
  have hn := numL_len 9 l.length (by omega)
  have hone := Lib.hid (u8s_one l)
  have Hr := Lib.hid hr
  clear hr
  go_enter Tryz.func153, Tryz.ntmps153
  go_wp2_with fail
  refine (qform_any l.length w (by omega)).mono ?_
  rintro e w1 ⟨v1, rfl, hown, hb1⟩
  go_wp2_with (at_builtin; refine wpList_append_any _ rfl (.tmp 6) (.tmp 7) 44 rfl w.heap.size 5 i0 (.int .u8 0) 1 1 Tryz.underlying44 hi0 hz0 hz1 hz2 rfl (by omega) _ _ _ rfl hown _ A l.length c (u8s l) rfl (Hr.out.below hb1) hone.out (by simp only [maxLen]; omega) (by omega) hb1.size ?_; intro v2 w2 hown2 hg2 hat2)
  go_ret
  exact ⟨_, rfl, by rw [bytL, u8s_append, List.length_append]; exact hown2, hb1.grown hg2 hb1.size (fun q hq => (hown.lt q hq).1)⟩
theorem own_on {w w' : World} {base size n : Nat} {e : TypeId} {v : Value} {xs : List Value} (h : w.ownsRow base e size v n xs) (hb : Below w.heap.size w w') : w'.ownsRow base e size v n xs := by
  refine ⟨h.1, ?_⟩
  rcases h.2 with h0 | ⟨g, cap, cur, hv, hg, hh, r⟩
  · exact .inl h0
  · have hgl : g < w.heap.size := by
      rcases Nat.lt_or_ge g w.heap.size with h | h
      · exact h
      · rw [Array.getElem?_eq_none h] at hh; cases hh
    exact .inr ⟨g, cap, cur, hv, hg, (hb.block g hgl).trans hh, r⟩
/-- What owns these bytes, behind a place. -/
abbrev OwnQ (b : Nat) (l : List UInt8) : Fact := fun v w => w.ownsRow b 5 1 v l.length (u8s l)
theorem qform_int (z : Int) (w : World) (h0 : 0 ≤ z) (h1 : z < 18446744073709551616) : Calls Tryz.prog 152 #[.int .u64 z] w (Owns (numL z.toNat) w) := by
  obtain ⟨n, rfl⟩ := Int.eq_ofNat_of_zero_le h0
  exact qform_any n w (by omega)
set_option maxRecDepth 20000 in set_option maxHeartbeats 2000000 in
theorem qputB_any (r : Int) (l : ByteArray) (w : World) (hl : l.size ≤ 1000000) (h0 : 0 ≤ r) (h1 : r < 18446744073709551616) :
    Calls Tryz.prog 124 #[vB r l] w (Owns (fB r l) w) := by
  have wr : IntKind.u64.wrap r = r := IntWalk.u64_in _ (by omega)
  have hle := fB_len (r := r) (l := l) (by omega) hl
  have hsum : (numL r.toNat).length + (bytL l.data.toList).length = (fB r l).length := by simp [fB]
  have HF := Lib.hid (show u8s (numL r.toNat) ++ u8s (bytL l.data.toList) = u8s (fB r l) by rw [← u8s_append]; rfl)
  obtain ⟨i0, hi0, hz0, hz1, hz2⟩ := info_parts info5
  go_enter Tryz.func124, Tryz.ntmps124
  go_wp2_with fail
  refine wp_region_plan 8 [(none, []), (none, []), (none, []), (some (OwnQ (w.heap.size + 1) (numL r.toNat)), []), (none, []), (none, []), (some (BytesAt l.data.toList), []), (some (BytesAt (bytL l.data.toList)), [6])] [3, 7] (by kernel_rfl) (by kernel_rfl) ?_
  simp only [List.take_succ_cons, List.take_zero]
  refine plan_run (v := ?_) rfl (fun _ => rfl) ?_ ?_
  rotate_left
  · intro ρ w' hT
    obtain ⟨hcT, hfT⟩ := bcell hT
    go_simp
    try with_reducible rfl
  simp only [Act.put, List.setIfInBounds_toArray, List.set_cons_zero, List.set_cons_succ]
  refine plan_run (v := ?_) rfl (fun _ => rfl) ?_ ?_
  rotate_left
  · intro ρ w' hT
    obtain ⟨hcT, hfT⟩ := bcell hT
    go_simp
    try with_reducible rfl
  simp only [Act.put, List.setIfInBounds_toArray, List.set_cons_zero, List.set_cons_succ]
  refine plan_run (v := ?_) rfl (fun _ => rfl) ?_ ?_
  rotate_left
  · intro ρ w' hT
    obtain ⟨hcT, hfT⟩ := bcell hT
    go_simp
    try with_reducible rfl
  simp only [Act.put, List.setIfInBounds_toArray, List.set_cons_zero, List.set_cons_succ]
  refine plan_fact rfl Owns.lasts (fun _ => rfl) ?_ ?_
  · intro ρ w' hT hF
    have hz := hT.size
    go_simp
    refine (qform_int r w' h0 h1).mono ?_
    rintro e w'' ⟨v, rfl, hv, hb⟩
    exact ⟨v, rfl, own_base hv (by simp at hz ⊢; omega), hb⟩
  simp only [Act.put, List.setIfInBounds_toArray, List.set_cons_zero, List.set_cons_succ]
  refine plan_run (v := ?_) rfl (fun _ => rfl) ?_ ?_
  rotate_left
  · intro ρ w' hT
    obtain ⟨hcT, hfT⟩ := bcell hT
    go_simp
    try with_reducible rfl
  simp only [Act.put, List.setIfInBounds_toArray, List.set_cons_zero, List.set_cons_succ]
  refine plan_run (v := ?_) rfl (fun _ => rfl) ?_ ?_
  rotate_left
  · intro ρ w' hT
    obtain ⟨hcT, hfT⟩ := bcell hT
    go_simp
    try with_reducible rfl
  simp only [Act.put, List.setIfInBounds_toArray, List.set_cons_zero, List.set_cons_succ]
  refine plan_fact rfl (BytesAt.lasts _) (fun _ => rfl) ?_ ?_
  · intro ρ w' hT hF
    obtain ⟨v, w2, hconv, hv, hb⟩ := conv_makes w' l
    have Hv := Lib.hid hv
    have Hb := Lib.hid hb
    clear hv hb hT
    go_simp
    exact ⟨Hv.out, Hb.out⟩
  simp only [Act.put, List.setIfInBounds_toArray, List.set_cons_zero, List.set_cons_succ]
  refine plan_fact rfl (BytesAt.lasts _) (fun _ => rfl) ?_ ?_
  · intro ρ w' hT hF
    obtain ⟨f6, _⟩ := hF
    have F6 := Lib.hid f6
    clear f6
    go_simp
    refine (qbytes_any l.data.toList _ w' F6.out (by simpa using hl)).mono ?_
    rintro e w'' ⟨v, rfl, hv, hb⟩
    exact ⟨v, rfl, of_own hv, hb⟩
  simp only [Act.put, List.setIfInBounds_toArray, List.set_cons_zero, List.set_cons_succ]
  intro ρ w1 hT hF
  obtain ⟨f3, f7, _⟩ := hF
  obtain ⟨A7, c7, e7, r7⟩ := f7
  have F3 : w1.ownsRow (w.heap.size + 1) 5 1 (ρ 3) (numL r.toNat).length (u8s (numL r.toNat)) := f3
  have R7 := Lib.hid r7
  have hz := hT.size
  simp at hz
  have hone := Lib.hid (u8s_one (bytL l.data.toList))
  clear f3 r7
  simp only [List.drop_succ_cons, List.drop_zero, Nat.zero_add, Nat.reduceAdd, e7]
  go_wp2_with (at_builtin; refine wpList_append_any _ rfl (.tmp 6) (.tmp 10) 44 rfl (w.heap.size + 1) 5 i0 (.int .u8 0) 1 1 Tryz.underlying44 hi0 hz0 hz1 hz2 rfl (by omega) _ _ _ rfl F3 _ A7 (bytL l.data.toList).length c7 (u8s (bytL l.data.toList)) rfl R7.out hone.out (by simp only [maxLen]; omega) (by omega) hz ?_; intro v2 w2 hown2 hg2 hat2)
  go_ret
  refine ⟨_, rfl, ?_, (below_step (below_alloc _ _) hT).grown hg2 (by omega) (fun q hq => by have := (F3.lt q hq).1; omega)⟩
  rw [← HF.out, ← hsum]
  exact own_base hown2 (by omega)
set_option maxRecDepth 20000 in set_option maxHeartbeats 2000000 in
theorem qputN_any (r : Int) (l : ByteArray) (n : Int) (w : World) (hl : l.size ≤ 1000000) (h0 : 0 ≤ r) (h1 : r < 18446744073709551616) (h2 : 0 ≤ n) (h3 : n < 18446744073709551616) :
    Calls Tryz.prog 129 #[vN r l n] w (Owns (fN r l n) w) := by
  have wn : IntKind.u64.wrap n = n := IntWalk.u64_in _ (by omega)
  have hle := fN_len (r := r) (l := l) (n := n) h1 h3 hl
  have hsum : (fB r l).length + (numL n.toNat).length = (fN r l n).length := by simp [fN]
  have HF := Lib.hid (show u8s (fB r l) ++ u8s (numL n.toNat) = u8s (fN r l n) by rw [← u8s_append]; rfl)
  obtain ⟨i0, hi0, hz0, hz1, hz2⟩ := info_parts info5
  go_enter Tryz.func129, Tryz.ntmps129
  go_wp2_with fail
  refine wp_region_plan 7 [(none, []), (none, []), (some (OwnQ (w.heap.size + 1) (fB r l)), []), (none, []), (none, []), (none, []), (some (BytesAt (numL n.toNat)), [])] [2, 6] (by kernel_rfl) (by kernel_rfl) ?_
  simp only [List.take_succ_cons, List.take_zero]
  refine plan_run (v := ?_) rfl (fun _ => rfl) ?_ ?_
  rotate_left
  · intro ρ w' hT
    obtain ⟨hcT, hfT⟩ := bcell hT
    go_simp
    try with_reducible rfl
  simp only [Act.put, List.setIfInBounds_toArray, List.set_cons_zero, List.set_cons_succ]
  refine plan_run (v := ?_) rfl (fun _ => rfl) ?_ ?_
  rotate_left
  · intro ρ w' hT
    obtain ⟨hcT, hfT⟩ := bcell hT
    go_simp
    try with_reducible rfl
  simp only [Act.put, List.setIfInBounds_toArray, List.set_cons_zero, List.set_cons_succ]
  refine plan_fact rfl Owns.lasts (fun _ => rfl) ?_ ?_
  · intro ρ w' hT hF
    have hz := hT.size
    go_simp
    refine (qputB_any r l w' hl h0 h1).mono ?_
    rintro e w'' ⟨v, rfl, hv, hb⟩
    exact ⟨v, rfl, own_base hv (by simp at hz ⊢; omega), hb⟩
  simp only [Act.put, List.setIfInBounds_toArray, List.set_cons_zero, List.set_cons_succ]
  refine plan_run (v := ?_) rfl (fun _ => rfl) ?_ ?_
  rotate_left
  · intro ρ w' hT
    obtain ⟨hcT, hfT⟩ := bcell hT
    go_simp
    try with_reducible rfl
  simp only [Act.put, List.setIfInBounds_toArray, List.set_cons_zero, List.set_cons_succ]
  refine plan_run (v := ?_) rfl (fun _ => rfl) ?_ ?_
  rotate_left
  · intro ρ w' hT
    obtain ⟨hcT, hfT⟩ := bcell hT
    go_simp
    try with_reducible rfl
  simp only [Act.put, List.setIfInBounds_toArray, List.set_cons_zero, List.set_cons_succ]
  refine plan_run (v := ?_) rfl (fun _ => rfl) ?_ ?_
  rotate_left
  · intro ρ w' hT
    obtain ⟨hcT, hfT⟩ := bcell hT
    go_simp
    try with_reducible rfl
  simp only [Act.put, List.setIfInBounds_toArray, List.set_cons_zero, List.set_cons_succ]
  refine plan_fact rfl (BytesAt.lasts _) (fun _ => rfl) ?_ ?_
  · intro ρ w' hT hF
    go_simp
    refine (qform_int n w' h2 h3).mono ?_
    rintro e w'' ⟨v, rfl, hv, hb⟩
    exact ⟨v, rfl, of_own hv, hb⟩
  simp only [Act.put, List.setIfInBounds_toArray, List.set_cons_zero, List.set_cons_succ]
  intro ρ w1 hT hF
  obtain ⟨f3, f7, _⟩ := hF
  obtain ⟨A7, c7, e7, r7⟩ := f7
  have F3 : w1.ownsRow (w.heap.size + 1) 5 1 (ρ 2) (fB r l).length (u8s (fB r l)) := f3
  have R7 := Lib.hid r7
  have hz := hT.size
  simp at hz
  have hone := Lib.hid (u8s_one (numL n.toNat))
  clear f3 r7
  simp only [List.drop_succ_cons, List.drop_zero, Nat.zero_add, Nat.reduceAdd, e7]
  go_wp2_with (at_builtin; refine wpList_append_any _ rfl (.tmp 5) (.tmp 9) 44 rfl (w.heap.size + 1) 5 i0 (.int .u8 0) 1 1 Tryz.underlying44 hi0 hz0 hz1 hz2 rfl (by omega) _ _ _ rfl F3 _ A7 (numL n.toNat).length c7 (u8s (numL n.toNat)) rfl R7.out hone.out (by simp only [maxLen]; omega) (by omega) hz ?_; intro v2 w2 hown2 hg2 hat2)
  go_ret
  refine ⟨_, rfl, ?_, (below_step (below_alloc _ _) hT).grown hg2 (by omega) (fun q hq => by have := (F3.lt q hq).1; omega)⟩
  rw [← HF.out, ← hsum]
  exact own_base hown2 (by omega)
set_option maxRecDepth 20000 in set_option maxHeartbeats 2000000 in
theorem qput_any (g r : Int) (l : ByteArray) (n i : Int) (w : World) (hl : l.size ≤ 1000000) (h0 : 0 ≤ r) (h1 : r < 18446744073709551616) (h2 : 0 ≤ n) (h3 : n < 18446744073709551616) (h4 : 0 ≤ g) (h5 : g < 18446744073709551616) (h6 : 0 ≤ i) (h7 : i < 18446744073709551616) :
    Calls Tryz.prog 135 #[vS g r l n i] w (Owns (fS g r l n i) w) := by
  have wg : IntKind.u64.wrap g = g := IntWalk.u64_in _ (by omega)
  have wi : IntKind.u64.wrap i = i := IntWalk.u64_in _ (by omega)
  have hle := fN_len (r := r) (l := l) (n := n) h1 h3 hl
  have hlg := num_len h5
  have hli := num_len h7
  have hsum : (numL g.toNat).length + (fN r l n).length + (numL i.toNat).length = (fS g r l n i).length := by simp [fS]; omega
  have HF := Lib.hid (show u8s (numL g.toNat) ++ u8s (fN r l n) ++ u8s (numL i.toNat) = u8s (fS g r l n i) by rw [← u8s_append, ← u8s_append, fS, List.append_assoc])
  obtain ⟨i0, hi0, hz0, hz1, hz2⟩ := info_parts info5
  go_enter Tryz.func135, Tryz.ntmps135
  go_wp2_with fail
  refine wp_region_plan 7 [(none, []), (none, []), (none, []), (some (OwnQ (w.heap.size + 1) (numL g.toNat)), []), (none, []), (none, []), (some (BytesAt (fN r l n)), [])] [3, 6] (by kernel_rfl) (by kernel_rfl) ?_
  simp only [List.take_succ_cons, List.take_zero]
  refine plan_run (v := ?_) rfl (fun _ => rfl) ?_ ?_
  rotate_left
  · intro ρ w' hT
    obtain ⟨hcT, hfT⟩ := bcell hT
    go_simp
    try with_reducible rfl
  simp only [Act.put, List.setIfInBounds_toArray, List.set_cons_zero, List.set_cons_succ]
  refine plan_run (v := ?_) rfl (fun _ => rfl) ?_ ?_
  rotate_left
  · intro ρ w' hT
    obtain ⟨hcT, hfT⟩ := bcell hT
    go_simp
    try with_reducible rfl
  simp only [Act.put, List.setIfInBounds_toArray, List.set_cons_zero, List.set_cons_succ]
  refine plan_run (v := ?_) rfl (fun _ => rfl) ?_ ?_
  rotate_left
  · intro ρ w' hT
    obtain ⟨hcT, hfT⟩ := bcell hT
    go_simp
    try with_reducible rfl
  simp only [Act.put, List.setIfInBounds_toArray, List.set_cons_zero, List.set_cons_succ]
  refine plan_fact rfl Owns.lasts (fun _ => rfl) ?_ ?_
  · intro ρ w' hT hF
    have hz := hT.size
    go_simp
    refine (qform_int g w' h4 h5).mono ?_
    rintro e w'' ⟨v, rfl, hv, hb⟩
    exact ⟨v, rfl, own_base hv (by simp at hz ⊢; omega), hb⟩
  simp only [Act.put, List.setIfInBounds_toArray, List.set_cons_zero, List.set_cons_succ]
  refine plan_run (v := ?_) rfl (fun _ => rfl) ?_ ?_
  rotate_left
  · intro ρ w' hT
    obtain ⟨hcT, hfT⟩ := bcell hT
    go_simp
    try with_reducible rfl
  simp only [Act.put, List.setIfInBounds_toArray, List.set_cons_zero, List.set_cons_succ]
  refine plan_run (v := ?_) rfl (fun _ => rfl) ?_ ?_
  rotate_left
  · intro ρ w' hT
    obtain ⟨hcT, hfT⟩ := bcell hT
    go_simp
    try with_reducible rfl
  simp only [Act.put, List.setIfInBounds_toArray, List.set_cons_zero, List.set_cons_succ]
  refine plan_fact rfl (BytesAt.lasts _) (fun _ => rfl) ?_ ?_
  · intro ρ w' hT hF
    go_simp
    refine (qputN_any r l n w' hl h0 h1 h2 h3).mono ?_
    rintro e w'' ⟨v, rfl, hv, hb⟩
    exact ⟨v, rfl, of_own hv, hb⟩
  simp only [Act.put, List.setIfInBounds_toArray, List.set_cons_zero, List.set_cons_succ]
  intro ρ w1 hT hF
  obtain ⟨f3, f7, _⟩ := hF
  obtain ⟨A7, c7, e7, r7⟩ := f7
  have F3 : w1.ownsRow (w.heap.size + 1) 5 1 (ρ 3) (numL g.toNat).length (u8s (numL g.toNat)) := f3
  have R7 := Lib.hid r7
  have hz := hT.size
  simp at hz
  have hzw : w.heap.size < w1.heap.size := by omega
  have k4 : w1.cell? ⟨w.heap.size, 4, none⟩ = some (.int .i64 i) := box_cell hT (by simp) 4 rfl
  have hone := Lib.hid (u8s_one (fN r l n))
  have hb1 : Below w.heap.size w w1 := below_step (below_alloc _ _) hT
  clear f3 r7 hT
  simp only [List.drop_succ_cons, List.drop_zero, Nat.zero_add, Nat.reduceAdd, e7]
  go_wp2_with (at_builtin; refine wpList_append_any _ rfl (.tmp 7) (.tmp 10) 44 rfl (w.heap.size + 1) 5 i0 (.int .u8 0) 1 1 Tryz.underlying44 hi0 hz0 hz1 hz2 rfl (by omega) _ _ _ rfl F3 _ A7 (fN r l n).length c7 (u8s (fN r l n)) rfl R7.out hone.out (by simp only [maxLen]; omega) (by omega) hz ?_; intro v2 w2 hown2 hg2 hat2; have hgb : Below (w.heap.size + 1) w1 w2 := (Below.refl _ _).grown hg2 hz (fun q hq => (F3.lt q hq).1); have k4' := cell_on hgb (by simp) k4; clear hat2)
  have hs2 := hgb.size
  refine (qform_int i w2 h6 h7).mono ?_
  rintro e w3 ⟨v3, rfl, hv3, hb3⟩
  obtain ⟨A8, c8, e8, r8⟩ := of_own hv3
  subst e8
  have R8 := Lib.hid r8
  have O3 : w3.ownsRow (w.heap.size + 1) 5 1 v2 ((numL g.toNat).length + (fN r l n).length) (u8s (numL g.toNat) ++ u8s (fN r l n)) := own_on hown2 hb3
  have hs3 := hb3.size
  have hone3 := Lib.hid (u8s_one (numL i.toNat))
  clear hown2 hv3 r8 hg2
  go_wp2_with (at_builtin; refine wpList_append_any _ rfl (.tmp 12) (.tmp 16) 44 rfl (w.heap.size + 1) 5 i0 (.int .u8 0) 1 1 Tryz.underlying44 hi0 hz0 hz1 hz2 rfl (by omega) _ _ _ rfl O3 _ A8 (numL i.toNat).length c8 (u8s (numL i.toNat)) rfl R8.out hone3.out (by simp only [maxLen]; omega) (by omega) (by omega) ?_; intro v4 w4 hown4 hg4 hat4)
  go_ret
  have hb2 : Below w.heap.size w w2 := hb1.trans (hgb.mono (by omega))
  refine ⟨_, rfl, ?_, (below_step hb2 hb3).grown hg4 (by omega) (fun q hq => by have := (O3.lt q hq).1; omega)⟩
  rw [← HF.out, ← hsum]
  exact own_base hown4 (by omega)
end Go.Proofs.YtnldgcgngolkiaaGreatDoor
