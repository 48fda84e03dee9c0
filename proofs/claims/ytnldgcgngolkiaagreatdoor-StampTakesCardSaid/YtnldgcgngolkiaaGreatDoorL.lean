/- stamp.Key: the walk. -/
import Derived.Test.YtnldgcgngolkiaaGreatDoorK
namespace Go.Proofs.YtnldgcgngolkiaaGreatDoor
open Go.RowKit
set_option linter.unusedVariables false
set_option linter.unusedSimpArgs false
attribute [local go_sem] givesUpon

def kS (g r : Int) (l : ByteArray) (n i : Int) : List UInt8 := eight g ++ byteOf r :: (l.data.toList ++ 0 :: (eight n ++ [byteOf i]))
theorem one_byte (w : World) (c : UInt8) {z : Int} {t : TypeId} (h : (c.toNat : Int) = z) : BytesAt [c] (.slice (some ⟨w.heap.size, 0, none⟩) 1 1) (w.alloc (.cells #[.int .u8 z] t)) :=
  BytesAt.of_cells (l := [c]) (by simp) (fun j x hx => by
    match j, hx with
    | 0, hx => simp [u8s] at hx; rw [← hx, h]; simp)
theorem conv_makes (w : World) (s : ByteArray) : ∃ v w1, (convert 9 44 (.string s)).run Tryz.prog w = .ok v w1 ∧ BytesAt s.data.toList v w1 ∧ Below w.heap.size w w1 := by
  obtain ⟨cap, w1, hr, hb, hz, hc⟩ := conv_bytes w s
  refine ⟨_, w1, hr, ?_, hb⟩
  have h := BytesAt.of_cells (l := s.data.toList) (b := w.heap.size) (o := 0) (c := cap) (w := w1) (by omega) (fun j x hx => by
    simp only [u8s, List.getElem?_map, Option.map_eq_some_iff] at hx
    obtain ⟨c, hj, rfl⟩ := hx
    have hl : j < s.data.toList.length := (List.getElem?_eq_some_iff.1 hj).1
    rw [Nat.zero_add, hc j (by simpa using hl), List.getD_eq_getElem?_getD, hj]
    rfl)
  rw [str_len] at h
  exact h
/-- A slice of slices of bytes. -/
def VecAt (ls : List (List UInt8)) : Fact := fun v w => ∃ (b : Nat) (vs : List Value), v = .slice (some ⟨b, 0, none⟩) ls.length ls.length ∧ vs.length = ls.length ∧ b < w.heap.size ∧
  (∀ (j : Nat) (x : Value), vs[j]? = some x → w.cell? ⟨b, j, none⟩ = some x) ∧ ∀ (j : Nat) (x : Value) (l : List UInt8), vs[j]? = some x → ls[j]? = some l → BytesAt l x w
theorem VecAt.lasts (ls : List (List UInt8)) : Lasts (VecAt ls) := fun _ _ _ hb ⟨b, vs, hv, hl, hs, hc, ha⟩ =>
  ⟨b, vs, hv, hl, by have := hb.size; omega, fun j x hj => cell_on hb hs (hc j x hj), fun j x l hj hl => (BytesAt.lasts l).at hb (ha j x l hj hl)⟩

theorem vec_of {ls : List (List UInt8)} {vs : List Value} {w : World} {t : TypeId} {n : Nat} (hn : ls.length = n) (hl : vs.length = n) (h : ∀ (j : Nat) (x : Value) (l : List UInt8), vs[j]? = some x → ls[j]? = some l → BytesAt l x w) :
    VecAt ls (.slice (some ⟨w.heap.size, 0, none⟩) n n) (w.alloc (.cells vs.toArray t)) :=
  ⟨w.heap.size, vs, by rw [hn], by omega, by simp, fun j x hj => by simpa using hj, fun j x l hx hl => (BytesAt.lasts l).at (below_alloc w _) (h j x l hx hl)⟩

theorem BytesAt.open {l : List UInt8} {v : Value} {w : World} (h : BytesAt l v w) : ∃ A n d, v = .slice A n d ∧ Hid (BytesAt l (.slice A n d) w) := by
  obtain ⟨A, c, rfl, hr⟩ := h
  exact ⟨A, l.length, c, rfl, A, c, rfl, hr⟩
theorem all6 {w : World} {v0 v1 v2 v3 v4 v5 : Value} {l0 l1 l2 l3 l4 l5 : List UInt8} (h0 : BytesAt l0 v0 w) (h1 : BytesAt l1 v1 w) (h2 : BytesAt l2 v2 w) (h3 : BytesAt l3 v3 w) (h4 : BytesAt l4 v4 w) (h5 : BytesAt l5 v5 w) :
    ∀ (j : Nat) (x : Value) (l : List UInt8), [v0, v1, v2, v3, v4, v5][j]? = some x → [l0, l1, l2, l3, l4, l5][j]? = some l → BytesAt l x w := by
  intro j x l hx hl
  match j, hx, hl with
  | 0, hx, hl => simp at hx hl; subst hx hl; exact h0
  | 1, hx, hl => simp at hx hl; subst hx hl; exact h1
  | 2, hx, hl => simp at hx hl; subst hx hl; exact h2
  | 3, hx, hl => simp at hx hl; subst hx hl; exact h3
  | 4, hx, hl => simp at hx hl; subst hx hl; exact h4
  | 5, hx, hl => simp at hx hl; subst hx hl; exact h5
theorem eight_len (n : Int) : (eight n).length = 8 := rfl
theorem kS_flat (g r : Int) (l : ByteArray) (n i : Int) : [eight g, [byteOf r], l.data.toList, [0], eight n, [byteOf i]].flatten = kS g r l n i := by simp [kS]
/-- Bytes as a string. -/
theorem conv_string {l : List UInt8} {v : Value} {w : World} (h : BytesAt l v w) : (convert 44 9 v).run Tryz.prog w = .ok (.string (S l)) w := by
  obtain ⟨A, c, rfl, hr⟩ := h
  rw [run_convert_bytes_string w 44 9 5 A l.length c (by kernel_rfl) (by kernel_rfl) (by kernel_rfl)]
  cases A with
  | none =>
    have hl : l = [] := by
      rcases Nat.eq_zero_or_pos l.length with h0 | h0
      · exact List.eq_nil_of_length_eq_zero h0
      · obtain ⟨ad, he, _⟩ := hr.2 h0
        cases he
    subst hl
    simp [Conv.bytesToString]
    rfl
  | some a =>
    have hcells : ∀ j u, (u8s l)[j]? = some u → w.cell? (a.add j) = some u := by
      intro j u hu
      have hj : j < l.length := by have := (List.getElem?_eq_some_iff.1 hu).1; simpa [u8s] using this
      obtain ⟨ad, he, _, hc⟩ := hr.2 (by omega)
      cases he
      exact hc j u hu
    have hl := run_loadCells_list (P := Tryz.prog) w a (u8s l) hcells
    have e : u8s l = (l.map fun c => ((c.toNat : Nat) : Int)).map (Value.int .u8) := by simp [u8s]
    rw [u8s_len, e] at hl
    rw [run_bytesToString w a l.length c _ hl, foldl_push_bytes]
    have hid : ((fun n : Int => UInt8.ofNat n.toNat) ∘ fun c : UInt8 => ((c.toNat : Nat) : Int)) = id := by funext c; simp
    simp [S, ByteArray.empty, ByteArray.emptyWithCapacity, hid]
    rfl

set_option maxRecDepth 20000 in set_option maxHeartbeats 1000000 in
theorem key_no (g r : Int) (l : ByteArray) (n i : Int) (w : World) (hs : l.size ≤ 1000000) (h : okS g r l n i = false) :
    Calls Tryz.prog 37 #[vS g r l n i] w fun e w' => e = .returned (.tuple #[.string (S []), .int .i64 2]) ∧ Below w.heap.size w w' := by
  have HB := Lib.hid h
  clear h
  go_enter Tryz.func37, Tryz.ntmps37
  go_wp2_with (go_at_call 133; refine (stamp_any _ _ _ _ _ _ hs).mono ?_; rw [HB.out]; rintro e w1 ⟨rfl, hb1⟩; replace hb1 := below_to (w := w) hb1 (by go_grown) (by simp))
  go_ret2
  exact ⟨rfl, hb1⟩

set_option maxRecDepth 20000 in set_option maxHeartbeats 1000000 in
theorem key_yes (g r : Int) (l : ByteArray) (n i : Int) (w : World) (hs : l.size ≤ 1000000) (h : okS g r l n i = true) :
    Calls Tryz.prog 37 #[vS g r l n i] w fun e w' => e = .returned (.tuple #[.string (S (kS g r l n i)), .int .i64 0]) ∧ Below w.heap.size w w' := by
  have h1 := okS_iff.1 h
  have h2 := okN_iff.1 h1.2.2.1
  have h3 := okB_iff.1 h2.1
  have g0 : 0 ≤ g := by omega
  have g1 : g ≤ 4611686018427387904 := by omega
  have n0 : 0 ≤ n := by omega
  have n1 : n ≤ 4611686018427387904 := by omega
  have r0 : 0 ≤ r := by omega
  have r1 : r < 8 := by omega
  have i0 : 0 ≤ i := by omega
  have i1 : i < 64 := by omega
  have wr : IntKind.u8.wrap r = r := IntWalk.u8_in r (by omega)
  have wi : IntKind.u8.wrap i = i := IntWalk.u8_in i (by omega)
  have HB := Lib.hid h
  clear h h1 h2 h3
  go_enter Tryz.func37, Tryz.ntmps37
  go_wp2_with fail
  refine (stamp_any _ _ _ _ _ _ hs).mono ?_
  rw [HB.out]
  rintro e w1 ⟨rfl, hb1⟩
  have c0 := box_cell hb1 (by simp) 0 rfl
  have c1 := box_cell hb1 (by simp) 1 rfl
  have c2 := box_cell hb1 (by simp) 2 rfl
  have c3 := box_cell hb1 (by simp) 3 rfl
  have c4 := box_cell hb1 (by simp) 4 rfl
  (have hz1 := hb1.size; (try simp at hz1); replace hb1 := below_to (w := w) hb1 (by go_grown) (by first | omega | (simp <;> omega)); have hs1 := hb1.size)
  have hzw : w.heap.size < w1.heap.size := by omega
  have hkl : (kS g r l n i).length ≤ 10000000 := by simp [kS, eight_len]; omega
  go_wp2_with fail
  refine wp_region_plan 22 [(none, []), (none, []), (some (BytesAt (eight g)), []), (none, []), (none, []), (none, []), (some (BytesAt [byteOf r]), []), (none, []), (none, []), (some (BytesAt l.data.toList), []), (some (BytesAt [0]), []), (none, []), (none, []), (none, []), (some (BytesAt (eight n)), []), (none, []), (none, []), (none, []), (some (BytesAt [byteOf i]), []), (some (VecAt [eight g, [byteOf r], l.data.toList, [0], eight n, [byteOf i]]), [2, 6, 9, 10, 14, 18]), (some (BytesAt (kS g r l n i)), [19]), (none, [20])] [] (by kernel_rfl) (by kernel_rfl) ?_
  simp only [List.take_succ_cons, List.take_zero]
  refine plan_run (v := ?_) rfl (fun _ => rfl) ?_ ?_
  rotate_left
  · intro ρ w' hT
    obtain ⟨hcT, hfT⟩ := bcell hT
    go_simp
    try with_reducible rfl
  simp only [Act.put, List.setIfInBounds_toArray, List.set_cons_zero, List.set_cons_succ]
  refine plan_run (v := ?_) rfl (fun _ => rfl) ?_ ?_
  rotate_left
  · intro ρ w' hT
    obtain ⟨hcT, hfT⟩ := bcell hT
    go_simp
    try with_reducible rfl
  simp only [Act.put, List.setIfInBounds_toArray, List.set_cons_zero, List.set_cons_succ]
  refine plan_fact rfl (BytesAt.lasts _) (fun _ => rfl) ?_ ?_
  · intro ρ w' hT hF
    go_simp
    refine (eight_any g w' g0 g1).mono ?_
    rintro e w'' ⟨v, rfl, hv, hb⟩
    exact ⟨v, rfl, hv, hb⟩
  simp only [Act.put, List.setIfInBounds_toArray, List.set_cons_zero, List.set_cons_succ]
  refine plan_run (v := ?_) rfl (fun _ => rfl) ?_ ?_
  rotate_left
  · intro ρ w' hT
    obtain ⟨hcT, hfT⟩ := bcell hT
    go_simp
    try with_reducible rfl
  simp only [Act.put, List.setIfInBounds_toArray, List.set_cons_zero, List.set_cons_succ]
  refine plan_run (v := ?_) rfl (fun _ => rfl) ?_ ?_
  rotate_left
  · intro ρ w' hT
    obtain ⟨hcT, hfT⟩ := bcell hT
    go_simp
    try with_reducible rfl
  simp only [Act.put, List.setIfInBounds_toArray, List.set_cons_zero, List.set_cons_succ]
  refine plan_run (v := ?_) rfl (fun _ => rfl) ?_ ?_
  rotate_left
  · intro ρ w' hT
    obtain ⟨hcT, hfT⟩ := bcell hT
    go_simp
    try with_reducible rfl
  simp only [Act.put, List.setIfInBounds_toArray, List.set_cons_zero, List.set_cons_succ]
  refine plan_fact rfl (BytesAt.lasts _) (fun _ => rfl) ?_ ?_
  · intro ρ w' hT hF
    go_simp
    exact ⟨one_byte _ _ (by rw [byteOf_int] <;> omega), below_alloc _ _⟩
  simp only [Act.put, List.setIfInBounds_toArray, List.set_cons_zero, List.set_cons_succ]
  refine plan_run (v := ?_) rfl (fun _ => rfl) ?_ ?_
  rotate_left
  · intro ρ w' hT
    obtain ⟨hcT, hfT⟩ := bcell hT
    go_simp
    try with_reducible rfl
  simp only [Act.put, List.setIfInBounds_toArray, List.set_cons_zero, List.set_cons_succ]
  refine plan_run (v := ?_) rfl (fun _ => rfl) ?_ ?_
  rotate_left
  · intro ρ w' hT
    obtain ⟨hcT, hfT⟩ := bcell hT
    go_simp
    try with_reducible rfl
  simp only [Act.put, List.setIfInBounds_toArray, List.set_cons_zero, List.set_cons_succ]
  refine plan_fact rfl (BytesAt.lasts _) (fun _ => rfl) ?_ ?_
  · intro ρ w' hT hF
    obtain ⟨v, w2, hconv, hv, hb⟩ := conv_makes w' l
    have Hv := Lib.hid hv
    have Hb := Lib.hid hb
    clear hv hb hT
    go_simp
    exact ⟨Hv.out, Hb.out⟩
  simp only [Act.put, List.setIfInBounds_toArray, List.set_cons_zero, List.set_cons_succ]
  refine plan_fact rfl (BytesAt.lasts _) (fun _ => rfl) ?_ ?_
  · intro ρ w' hT hF
    go_simp
    exact ⟨one_byte _ _ (by simp), below_alloc _ _⟩
  simp only [Act.put, List.setIfInBounds_toArray, List.set_cons_zero, List.set_cons_succ]
  refine plan_run (v := ?_) rfl (fun _ => rfl) ?_ ?_
  rotate_left
  · intro ρ w' hT
    obtain ⟨hcT, hfT⟩ := bcell hT
    go_simp
    try with_reducible rfl
  simp only [Act.put, List.setIfInBounds_toArray, List.set_cons_zero, List.set_cons_succ]
  refine plan_run (v := ?_) rfl (fun _ => rfl) ?_ ?_
  rotate_left
  · intro ρ w' hT
    obtain ⟨hcT, hfT⟩ := bcell hT
    go_simp
    try with_reducible rfl
  simp only [Act.put, List.setIfInBounds_toArray, List.set_cons_zero, List.set_cons_succ]
  refine plan_run (v := ?_) rfl (fun _ => rfl) ?_ ?_
  rotate_left
  · intro ρ w' hT
    obtain ⟨hcT, hfT⟩ := bcell hT
    go_simp
    try with_reducible rfl
  simp only [Act.put, List.setIfInBounds_toArray, List.set_cons_zero, List.set_cons_succ]
  refine plan_fact rfl (BytesAt.lasts _) (fun _ => rfl) ?_ ?_
  · intro ρ w' hT hF
    go_simp
    refine (eight_any n w' n0 n1).mono ?_
    rintro e w'' ⟨v, rfl, hv, hb⟩
    exact ⟨v, rfl, hv, hb⟩
  simp only [Act.put, List.setIfInBounds_toArray, List.set_cons_zero, List.set_cons_succ]
  refine plan_run (v := ?_) rfl (fun _ => rfl) ?_ ?_
  rotate_left
  · intro ρ w' hT
    obtain ⟨hcT, hfT⟩ := bcell hT
    go_simp
    try with_reducible rfl
  simp only [Act.put, List.setIfInBounds_toArray, List.set_cons_zero, List.set_cons_succ]
  refine plan_run (v := ?_) rfl (fun _ => rfl) ?_ ?_
  rotate_left
  · intro ρ w' hT
    obtain ⟨hcT, hfT⟩ := bcell hT
    go_simp
    try with_reducible rfl
  simp only [Act.put, List.setIfInBounds_toArray, List.set_cons_zero, List.set_cons_succ]
  refine plan_run (v := ?_) rfl (fun _ => rfl) ?_ ?_
  rotate_left
  · intro ρ w' hT
    obtain ⟨hcT, hfT⟩ := bcell hT
    go_simp
    try with_reducible rfl
  simp only [Act.put, List.setIfInBounds_toArray, List.set_cons_zero, List.set_cons_succ]
  refine plan_fact rfl (BytesAt.lasts _) (fun _ => rfl) ?_ ?_
  · intro ρ w' hT hF
    go_simp
    exact ⟨one_byte _ _ (by rw [byteOf_int] <;> omega), below_alloc _ _⟩
  simp only [Act.put, List.setIfInBounds_toArray, List.set_cons_zero, List.set_cons_succ]
  refine plan_fact rfl (VecAt.lasts _) (fun _ => rfl) ?_ ?_
  · intro ρ w' hT hF
    obtain ⟨f2, f6, f9, f10, f14, f18, _⟩ := hF
    obtain ⟨A2, m2, d2, e2, q2⟩ := BytesAt.open f2
    obtain ⟨A6, m6, d6, e6, q6⟩ := BytesAt.open f6
    obtain ⟨A9, m9, d9, e9, q9⟩ := BytesAt.open f9
    obtain ⟨A10, m10, d10, e10, q10⟩ := BytesAt.open f10
    obtain ⟨A14, m14, d14, e14, q14⟩ := BytesAt.open f14
    obtain ⟨A18, m18, d18, e18, q18⟩ := BytesAt.open f18
    clear f2 f6 f9 f10 f14 f18 hT
    go_simp
    refine ⟨vec_of (vs := [.slice A2 m2 d2, .slice A6 m6 d6, .slice A9 m9 d9, .slice A10 m10 d10, .slice A14 m14 d14, .slice A18 m18 d18]) rfl rfl ?_, below_alloc _ _⟩
    exact all6 q2.out q6.out q9.out q10.out q14.out q18.out
  simp only [Act.put, List.setIfInBounds_toArray, List.set_cons_zero, List.set_cons_succ]
  refine plan_fact rfl (BytesAt.lasts _) (fun _ => rfl) ?_ ?_
  · intro ρ w' hT hF
    obtain ⟨f19, _⟩ := hF
    obtain ⟨b, vs, hv, hl, hs', hc, ha⟩ := f19
    go_simp
    refine (join_any b 6 6 _ vs w' rfl hl (by omega) (by omega) hs' hc ha (by rw [kS_flat]; exact hkl)).mono ?_
    rintro e w'' ⟨v, rfl, hv, hb⟩
    exact ⟨v, rfl, by rw [← kS_flat]; exact hv, hb⟩
  simp only [Act.put, List.setIfInBounds_toArray, List.set_cons_zero, List.set_cons_succ]
  refine plan_const (v := .string (S (kS g r l n i))) rfl (fun _ => rfl) ?_ ?_
  · intro ρ w' hT hF
    obtain ⟨f20, _⟩ := hF
    have hcv := conv_string f20
    clear f20 hT
    go_simp
    exact Below.refl _ _
  simp only [Act.put, List.setIfInBounds_toArray, List.set_cons_zero, List.set_cons_succ]
  intro ρ w' hT _
  simp only [List.drop_succ_cons, List.drop_zero]
  go_wp2
  go_ret2
  exact ⟨rfl, below_step hb1 (below_step (below_alloc _ _) hT)⟩
end Go.Proofs.YtnldgcgngolkiaaGreatDoor
