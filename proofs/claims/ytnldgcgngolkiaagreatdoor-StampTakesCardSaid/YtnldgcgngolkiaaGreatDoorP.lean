/- stamp.form, PutName, Put: the walks. -/
import Derived.Test.YtnldgcgngolkiaaGreatDoorO
namespace Go.Proofs.YtnldgcgngolkiaaGreatDoor
open Go.RowKit
set_option linter.unusedVariables false
set_option linter.unusedSimpArgs false
attribute [local go_sem] givesUpon
theorem Makes.of_owns {l : List UInt8} {w : World} {e : Ending} {w' : World} (h : Owns l w e w') : Makes l w e w' := by
  obtain ⟨v, he, ho, hb⟩ := h
  exact ⟨v, he, of_own ho, hb⟩
theorem number_int (z : Int) (w : World) (h0 : 0 ≤ z) (h1 : z < 18446744073709551616) : Calls Tryz.prog 141 #[.int .u64 z] w (Makes (numL z.toNat) w) := by
  obtain ⟨n, rfl⟩ := Int.eq_ofNat_of_zero_le h0
  exact (number_any n w (by omega)).mono fun _ _ h => Makes.of_owns h
theorem bytes_makes (l : List UInt8) (v : Value) (w : World) (h : BytesAt l v w) (hl : l.length ≤ 1000000) : Calls Tryz.prog 261 #[v] w (Makes (bytL l) w) :=
  (wbytes_any l v w h hl).mono fun _ _ h => Makes.of_owns h

def AllAt (vs : List Value) (ls : List (List UInt8)) (w : World) : Prop := ∀ (j : Nat) (x : Value) (l : List UInt8), vs[j]? = some x → ls[j]? = some l → BytesAt l x w
theorem AllAt.nil {w : World} : AllAt [] [] w := fun j x l h => by simp at h
theorem AllAt.cons {vs : List Value} {ls : List (List UInt8)} {w : World} {v0 : Value} {l0 : List UInt8} (h : BytesAt l0 v0 w) (h' : AllAt vs ls w) : AllAt (v0 :: vs) (l0 :: ls) w := by
  intro j x l hx hl
  cases j with
  | zero => simp at hx hl; subst hx hl; exact h
  | succ j => exact h' j x l (by simpa using hx) (by simpa using hl)

theorem join_vec {ls : List (List UInt8)} {n : Nat} (hn : ls.length = n) (v : Value) (w : World) (h : VecAt ls v w) (h100 : n ≤ 100) (htot : ls.flatten.length ≤ 10000000) : Calls Tryz.prog 138 #[v] w (Makes ls.flatten w) := by
  obtain ⟨b, vs, rfl, hl, hb, hc, ha⟩ := h
  subst hn
  exact join_any b ls.length ls.length ls vs w rfl hl h100 (Nat.le_refl _) hb hc ha htot

def fB (r : Int) (l : ByteArray) : List UInt8 := numL r.toNat ++ bytL l.data.toList
def fN (r : Int) (l : ByteArray) (n : Int) : List UInt8 := fB r l ++ numL n.toNat
def fS (g r : Int) (l : ByteArray) (n i : Int) : List UInt8 := numL g.toNat ++ (fN r l n ++ numL i.toNat)
theorem num_len {z : Int} (h1 : z < 18446744073709551616) : (numL z.toNat).length ≤ 10 := numL_len 9 _ (by omega)
theorem fB_len {r : Int} {l : ByteArray} (h1 : r < 18446744073709551616) (hl : l.size ≤ 1000000) : (fB r l).length ≤ 1000020 := by
  have := num_len h1
  have := numL_len 9 l.size (by omega)
  simp [fB, bytL]; omega
theorem fN_len {r : Int} {l : ByteArray} {n : Int} (h1 : r < 18446744073709551616) (h2 : n < 18446744073709551616) (hl : l.size ≤ 1000000) : (fN r l n).length ≤ 1000030 := by
  have := num_len h2
  have := fB_len h1 hl
  simp [fN]; omega

set_option maxRecDepth 20000 in set_option maxHeartbeats 1000000 in
theorem form_any (r : Int) (l : ByteArray) (w : World) (hl : l.size ≤ 1000000) (h0 : 0 ≤ r) (h1 : r < 8) :
    Calls Tryz.prog 212 #[vB r l] w (Makes (fB r l) w) := by
  have wr : IntKind.u64.wrap r = r := IntWalk.u64_in _ (by omega)
  have hle := fB_len (r := r) (l := l) (by omega) hl
  have HF := Lib.hid (show [numL r.toNat, bytL l.data.toList].flatten = fB r l by simp [fB])
  go_enter Tryz.func212, Tryz.ntmps212
  go_wp2_with fail
  refine wp_region_plan 10 [(none, []), (none, []), (none, []), (some (BytesAt (numL r.toNat)), []), (none, []), (none, []), (some (BytesAt l.data.toList), []), (some (BytesAt (bytL l.data.toList)), [6]), (some (VecAt [numL r.toNat, bytL l.data.toList]), [3, 7]), (some (BytesAt (fB r l)), [8])] [9] (by kernel_rfl) (by kernel_rfl) ?_
  simp only [List.take_succ_cons, List.take_zero]
  refine plan_run (v := ?_) rfl (fun _ => rfl) ?_ ?_
  rotate_left
  · intro ρ w' hT
    obtain ⟨hcT, hfT⟩ := bcell hT
    go_simp
    try with_reducible rfl
  simp only [Act.put, List.setIfInBounds_toArray, List.set_cons_zero, List.set_cons_succ]
  refine plan_run (v := ?_) rfl (fun _ => rfl) ?_ ?_
  rotate_left
  · intro ρ w' hT
    obtain ⟨hcT, hfT⟩ := bcell hT
    go_simp
    try with_reducible rfl
  simp only [Act.put, List.setIfInBounds_toArray, List.set_cons_zero, List.set_cons_succ]
  refine plan_run (v := ?_) rfl (fun _ => rfl) ?_ ?_
  rotate_left
  · intro ρ w' hT
    obtain ⟨hcT, hfT⟩ := bcell hT
    go_simp
    try with_reducible rfl
  simp only [Act.put, List.setIfInBounds_toArray, List.set_cons_zero, List.set_cons_succ]
  refine plan_fact rfl (BytesAt.lasts _) (fun _ => rfl) ?_ ?_
  · intro ρ w' hT hF
    go_simp
    refine (number_int r w' (by omega) (by omega)).mono ?_
    rintro e w'' ⟨v, rfl, hv, hb⟩
    exact ⟨v, rfl, hv, hb⟩
  simp only [Act.put, List.setIfInBounds_toArray, List.set_cons_zero, List.set_cons_succ]
  refine plan_run (v := ?_) rfl (fun _ => rfl) ?_ ?_
  rotate_left
  · intro ρ w' hT
    obtain ⟨hcT, hfT⟩ := bcell hT
    go_simp
    try with_reducible rfl
  simp only [Act.put, List.setIfInBounds_toArray, List.set_cons_zero, List.set_cons_succ]
  refine plan_run (v := ?_) rfl (fun _ => rfl) ?_ ?_
  rotate_left
  · intro ρ w' hT
    obtain ⟨hcT, hfT⟩ := bcell hT
    go_simp
    try with_reducible rfl
  simp only [Act.put, List.setIfInBounds_toArray, List.set_cons_zero, List.set_cons_succ]
  refine plan_fact rfl (BytesAt.lasts _) (fun _ => rfl) ?_ ?_
  · intro ρ w' hT hF
    obtain ⟨v, w2, hconv, hv, hb⟩ := conv_makes w' l
    have Hv := Lib.hid hv
    have Hb := Lib.hid hb
    clear hv hb hT
    go_simp
    exact ⟨Hv.out, Hb.out⟩
  simp only [Act.put, List.setIfInBounds_toArray, List.set_cons_zero, List.set_cons_succ]
  refine plan_fact rfl (BytesAt.lasts _) (fun _ => rfl) ?_ ?_
  · intro ρ w' hT hF
    obtain ⟨f6, _⟩ := hF
    have F6 := Lib.hid f6
    clear f6
    go_simp
    refine (bytes_makes l.data.toList _ w' F6.out (by simpa using hl)).mono ?_
    rintro e w'' ⟨v, rfl, hv, hb⟩
    exact ⟨v, rfl, hv, hb⟩
  simp only [Act.put, List.setIfInBounds_toArray, List.set_cons_zero, List.set_cons_succ]
  refine plan_fact rfl (VecAt.lasts _) (fun _ => rfl) ?_ ?_
  · intro ρ w' hT hF
    obtain ⟨f0, f1, _⟩ := hF
    obtain ⟨A0, m0, d0, e0, q0⟩ := BytesAt.open f0
    obtain ⟨A1, m1, d1, e1, q1⟩ := BytesAt.open f1
    clear f0 f1 hT
    go_simp
    exact ⟨vec_of (vs := [.slice A0 m0 d0, .slice A1 m1 d1]) rfl rfl (AllAt.cons q0.out (AllAt.cons q1.out AllAt.nil)), below_alloc _ _⟩
  simp only [Act.put, List.setIfInBounds_toArray, List.set_cons_zero, List.set_cons_succ]
  refine plan_fact rfl (BytesAt.lasts _) (fun _ => rfl) ?_ ?_
  · intro ρ w' hT hF
    obtain ⟨f8, _⟩ := hF
    have F8 := Lib.hid f8
    clear f8
    go_simp
    refine (join_vec (n := 2) rfl _ w' F8.out (by omega) (by rw [HF.out]; omega)).mono ?_
    rintro e w'' ⟨v, rfl, hv, hb⟩
    exact ⟨v, rfl, by rw [← HF.out]; exact hv, hb⟩
  simp only [Act.put, List.setIfInBounds_toArray, List.set_cons_zero, List.set_cons_succ]
  intro ρ w1 hT hF
  obtain ⟨f9, _⟩ := hF
  have F9 := Lib.hid f9
  clear f9
  simp only [List.drop_succ_cons, List.drop_zero]
  go_wp2
  go_ret
  exact ⟨_, rfl, F9.out, below_step (below_alloc _ _) hT⟩

def PutEnd (l : List UInt8) (w : World) (e : Ending) (w' : World) : Prop := ∃ v, e = .returned (.tuple #[v, .int .i64 0]) ∧ BytesAt l v w' ∧ Below w.heap.size w w'

set_option maxRecDepth 20000 in set_option maxHeartbeats 1000000 in
theorem putBranch_no (r : Int) (l : ByteArray) (w : World) (hs : l.size ≤ 1000000) (h : okB r l = false) :
    Calls Tryz.prog 99 #[vB r l] w fun e w' => e = .returned (.tuple #[.slice none 0 0, .int .i64 2]) ∧ Below w.heap.size w w' := by
  have HB := Lib.hid h
  clear h
  go_enter Tryz.func99, Tryz.ntmps99
  go_wp2_with (go_at_call 122; refine (branch_any _ _ _ hs).mono ?_; rw [HB.out]; rintro e w1 ⟨rfl, hb1⟩; replace hb1 := below_to (w := w) hb1 (by go_grown) (by simp))
  go_ret2
  exact ⟨rfl, hb1⟩
set_option maxRecDepth 20000 in set_option maxHeartbeats 1000000 in
theorem putName_no (r : Int) (l : ByteArray) (n : Int) (w : World) (hs : l.size ≤ 1000000) (h : okN r l n = false) :
    Calls Tryz.prog 140 #[vN r l n] w fun e w' => e = .returned (.tuple #[.slice none 0 0, .int .i64 2]) ∧ Below w.heap.size w w' := by
  have HB := Lib.hid h
  clear h
  go_enter Tryz.func140, Tryz.ntmps140
  go_wp2_with (go_at_call 127; refine (name_any _ _ _ _ hs).mono ?_; rw [HB.out]; rintro e w1 ⟨rfl, hb1⟩; replace hb1 := below_to (w := w) hb1 (by go_grown) (by simp))
  go_ret2
  exact ⟨rfl, hb1⟩
set_option maxRecDepth 20000 in set_option maxHeartbeats 1000000 in
theorem put_no (g r : Int) (l : ByteArray) (n i : Int) (w : World) (hs : l.size ≤ 1000000) (h : okS g r l n i = false) :
    Calls Tryz.prog 38 #[vS g r l n i] w fun e w' => e = .returned (.tuple #[.slice none 0 0, .int .i64 2]) ∧ Below w.heap.size w w' := by
  have HB := Lib.hid h
  clear h
  go_enter Tryz.func38, Tryz.ntmps38
  go_wp2_with (go_at_call 133; refine (stamp_any _ _ _ _ _ _ hs).mono ?_; rw [HB.out]; rintro e w1 ⟨rfl, hb1⟩; replace hb1 := below_to (w := w) hb1 (by go_grown) (by simp))
  go_ret2
  exact ⟨rfl, hb1⟩

set_option maxRecDepth 20000 in set_option maxHeartbeats 1000000 in
theorem putBranch_yes (r : Int) (l : ByteArray) (w : World) (hs : l.size ≤ 1000000) (h : okB r l = true) : Calls Tryz.prog 99 #[vB r l] w (PutEnd (fB r l) w) := by
  have h1 := okB_iff.1 h
  have r0 : 0 ≤ r := by omega
  have r1 : r < 8 := by omega
  have HB := Lib.hid h
  clear h h1
  go_enter Tryz.func99, Tryz.ntmps99
  go_wp2_with fail
  refine (branch_any _ _ _ hs).mono ?_
  rw [HB.out]
  rintro e w1 ⟨rfl, hb1⟩
  have c0 := box_cell hb1 (by simp) 0 rfl
  have c1 := box_cell hb1 (by simp) 1 rfl
  (have hz1 := hb1.size; (try simp at hz1); replace hb1 := below_to (w := w) hb1 (by go_grown) (by first | omega | (simp <;> omega)); have hs1 := hb1.size)
  go_wp2_with fail
  refine (form_any r l _ hs r0 r1).mono ?_
  rintro e w2 ⟨v, rfl, hv, hb2⟩
  have Hv := Lib.hid hv
  clear hv
  (have hz2 := hb2.size; (try simp at hz2); replace hb2 := below_to (w := w1) hb2 (by go_grown) (by first | omega | (simp <;> omega)); have hs2 := hb2.size)
  go_wp2
  go_ret2
  exact ⟨_, rfl, Hv.out, below_step hb1 hb2⟩

set_option maxRecDepth 20000 in set_option maxHeartbeats 1000000 in
theorem putName_yes (r : Int) (l : ByteArray) (n : Int) (w : World) (hs : l.size ≤ 1000000) (h : okN r l n = true) : Calls Tryz.prog 140 #[vN r l n] w (PutEnd (fN r l n) w) := by
  have h2 := okN_iff.1 h
  have h1 := okB_iff.1 h2.1
  have r0 : 0 ≤ r := by omega
  have r1 : r < 8 := by omega
  have n0 : 0 ≤ n := by omega
  have n1 : n < 18446744073709551616 := by omega
  have wn : IntKind.u64.wrap n = n := IntWalk.u64_in _ (by omega)
  have hle := fN_len (r := r) (l := l) (n := n) (by omega) n1 hs
  have HF := Lib.hid (show [fB r l, numL n.toNat].flatten = fN r l n by simp [fN])
  have HB := Lib.hid h
  clear h h1 h2
  go_enter Tryz.func140, Tryz.ntmps140
  go_wp2_with fail
  refine (name_any _ _ _ _ hs).mono ?_
  rw [HB.out]
  rintro e w1 ⟨rfl, hb1⟩
  have c0 := box_cell hb1 (by simp) 0 rfl
  have c1 := box_cell hb1 (by simp) 1 rfl
  have c2 := box_cell hb1 (by simp) 2 rfl
  (have hz1 := hb1.size; (try simp at hz1); replace hb1 := below_to (w := w) hb1 (by go_grown) (by first | omega | (simp <;> omega)); have hs1 := hb1.size)
  have hzw : w.heap.size < w1.heap.size := by omega
  go_wp2_with fail
  refine wp_region_plan 9 [(none, []), (none, []), (some (BytesAt (fB r l)), []), (none, []), (none, []), (none, []), (some (BytesAt (numL n.toNat)), []), (some (VecAt [fB r l, numL n.toNat]), [2, 6]), (some (BytesAt (fN r l n)), [7])] [8] (by kernel_rfl) (by kernel_rfl) ?_
  simp only [List.take_succ_cons, List.take_zero]
  refine plan_run (v := ?_) rfl (fun _ => rfl) ?_ ?_
  rotate_left
  · intro ρ w' hT
    obtain ⟨hcT, hfT⟩ := bcell hT
    go_simp
    try with_reducible rfl
  simp only [Act.put, List.setIfInBounds_toArray, List.set_cons_zero, List.set_cons_succ]
  refine plan_run (v := ?_) rfl (fun _ => rfl) ?_ ?_
  rotate_left
  · intro ρ w' hT
    obtain ⟨hcT, hfT⟩ := bcell hT
    go_simp
    try with_reducible rfl
  simp only [Act.put, List.setIfInBounds_toArray, List.set_cons_zero, List.set_cons_succ]
  refine plan_fact rfl (BytesAt.lasts _) (fun _ => rfl) ?_ ?_
  · intro ρ w' hT hF
    go_simp
    refine (form_any r l w' hs r0 r1).mono ?_
    rintro e w'' ⟨v, rfl, hv, hb⟩
    exact ⟨v, rfl, hv, hb⟩
  simp only [Act.put, List.setIfInBounds_toArray, List.set_cons_zero, List.set_cons_succ]
  refine plan_run (v := ?_) rfl (fun _ => rfl) ?_ ?_
  rotate_left
  · intro ρ w' hT
    obtain ⟨hcT, hfT⟩ := bcell hT
    go_simp
    try with_reducible rfl
  simp only [Act.put, List.setIfInBounds_toArray, List.set_cons_zero, List.set_cons_succ]
  refine plan_run (v := ?_) rfl (fun _ => rfl) ?_ ?_
  rotate_left
  · intro ρ w' hT
    obtain ⟨hcT, hfT⟩ := bcell hT
    go_simp
    try with_reducible rfl
  simp only [Act.put, List.setIfInBounds_toArray, List.set_cons_zero, List.set_cons_succ]
  refine plan_run (v := ?_) rfl (fun _ => rfl) ?_ ?_
  rotate_left
  · intro ρ w' hT
    obtain ⟨hcT, hfT⟩ := bcell hT
    go_simp
    try with_reducible rfl
  simp only [Act.put, List.setIfInBounds_toArray, List.set_cons_zero, List.set_cons_succ]
  refine plan_fact rfl (BytesAt.lasts _) (fun _ => rfl) ?_ ?_
  · intro ρ w' hT hF
    go_simp
    refine (number_int n w' n0 n1).mono ?_
    rintro e w'' ⟨v, rfl, hv, hb⟩
    exact ⟨v, rfl, hv, hb⟩
  simp only [Act.put, List.setIfInBounds_toArray, List.set_cons_zero, List.set_cons_succ]
  refine plan_fact rfl (VecAt.lasts _) (fun _ => rfl) ?_ ?_
  · intro ρ w' hT hF
    obtain ⟨f0, f1, _⟩ := hF
    obtain ⟨A0, m0, d0, e0, q0⟩ := BytesAt.open f0
    obtain ⟨A1, m1, d1, e1, q1⟩ := BytesAt.open f1
    clear f0 f1 hT
    go_simp
    exact ⟨vec_of (vs := [.slice A0 m0 d0, .slice A1 m1 d1]) rfl rfl (AllAt.cons q0.out (AllAt.cons q1.out AllAt.nil)), below_alloc _ _⟩
  simp only [Act.put, List.setIfInBounds_toArray, List.set_cons_zero, List.set_cons_succ]
  refine plan_fact rfl (BytesAt.lasts _) (fun _ => rfl) ?_ ?_
  · intro ρ w' hT hF
    obtain ⟨f8, _⟩ := hF
    have F8 := Lib.hid f8
    clear f8
    go_simp
    refine (join_vec (n := 2) rfl _ w' F8.out (by omega) (by rw [HF.out]; omega)).mono ?_
    rintro e w'' ⟨v, rfl, hv, hb⟩
    exact ⟨v, rfl, by rw [← HF.out]; exact hv, hb⟩
  simp only [Act.put, List.setIfInBounds_toArray, List.set_cons_zero, List.set_cons_succ]
  intro ρ w3 hT hF
  obtain ⟨f8, _⟩ := hF
  have F8 := Lib.hid f8
  clear f8
  simp only [List.drop_succ_cons, List.drop_zero]
  go_wp2
  go_ret2
  exact ⟨_, rfl, F8.out, below_step hb1 hT⟩

set_option maxRecDepth 20000 in set_option maxHeartbeats 1000000 in
theorem put_yes (g r : Int) (l : ByteArray) (n i : Int) (w : World) (hs : l.size ≤ 1000000) (h : okS g r l n i = true) : Calls Tryz.prog 38 #[vS g r l n i] w (PutEnd (fS g r l n i) w) := by
  have h3 := okS_iff.1 h
  have h2 := okN_iff.1 h3.2.2.1
  have h1 := okB_iff.1 h2.1
  have HN := Lib.hid h3.2.2.1
  have g0 : 0 ≤ g := by omega
  have g1 : g < 18446744073709551616 := by omega
  have i0 : 0 ≤ i := by omega
  have i1 : i < 18446744073709551616 := by omega
  have wg : IntKind.u64.wrap g = g := IntWalk.u64_in _ (by omega)
  have wi : IntKind.u64.wrap i = i := IntWalk.u64_in _ (by omega)
  have hle := fN_len (r := r) (l := l) (n := n) (by omega) (by omega) hs
  have hle1 := num_len g1
  have hle2 := num_len i1
  have hfl : (fS g r l n i).length ≤ 1000100 := by simp [fS]; omega
  have HF := Lib.hid (show [numL g.toNat, fN r l n, numL i.toNat].flatten = fS g r l n i by simp [fS])
  have HB := Lib.hid h
  clear h h1 h2 h3 hle hle1 hle2
  go_enter Tryz.func38, Tryz.ntmps38
  go_wp2_with fail
  refine (stamp_any _ _ _ _ _ _ hs).mono ?_
  rw [HB.out]
  rintro e w1 ⟨rfl, hb1⟩
  have c0 := box_cell hb1 (by simp) 0 rfl
  have c1 := box_cell hb1 (by simp) 1 rfl
  have c2 := box_cell hb1 (by simp) 2 rfl
  have c3 := box_cell hb1 (by simp) 3 rfl
  have c4 := box_cell hb1 (by simp) 4 rfl
  (have hz1 := hb1.size; (try simp at hz1); replace hb1 := below_to (w := w) hb1 (by go_grown) (by first | omega | (simp <;> omega)); have hs1 := hb1.size)
  have hzw : w.heap.size < w1.heap.size := by omega
  go_wp2_with fail
  refine (putName_yes r l n _ hs HN.out).mono ?_
  rintro e w2 ⟨v, rfl, hv, hb2⟩
  have d0 := cell_on hb2 hzw c0
  have d4 := cell_on hb2 hzw c4
  (have hz2 := hb2.size; (try simp at hz2); replace hb2 := below_to (w := w1) hb2 (by go_grown) (by first | omega | (simp <;> omega)); have hs2 := hb2.size)
  have hzw2 : w.heap.size < w2.heap.size := by omega
  clear c0 c1 c2 c3 c4
  obtain ⟨A, m, cp, rfl, hq⟩ := BytesAt.open hv
  clear hv
  go_wp2_with fail
  refine wp_region_plan 11 [(none, []), (none, []), (none, []), (some (BytesAt (numL g.toNat)), []), (none, []), (none, []), (none, []), (none, []), (some (BytesAt (numL i.toNat)), []), (some (VecAt [numL g.toNat, fN r l n, numL i.toNat]), [3, 8]), (some (BytesAt (fS g r l n i)), [9])] [10] (by kernel_rfl) (by kernel_rfl) ?_
  simp only [List.take_succ_cons, List.take_zero]
  refine plan_run (v := ?_) rfl (fun _ => rfl) ?_ ?_
  rotate_left
  · intro ρ w' hT
    obtain ⟨hcT, hfT⟩ := bcell hT
    go_simp
    try with_reducible rfl
  simp only [Act.put, List.setIfInBounds_toArray, List.set_cons_zero, List.set_cons_succ]
  refine plan_run (v := ?_) rfl (fun _ => rfl) ?_ ?_
  rotate_left
  · intro ρ w' hT
    obtain ⟨hcT, hfT⟩ := bcell hT
    go_simp
    try with_reducible rfl
  simp only [Act.put, List.setIfInBounds_toArray, List.set_cons_zero, List.set_cons_succ]
  refine plan_run (v := ?_) rfl (fun _ => rfl) ?_ ?_
  rotate_left
  · intro ρ w' hT
    obtain ⟨hcT, hfT⟩ := bcell hT
    go_simp
    try with_reducible rfl
  simp only [Act.put, List.setIfInBounds_toArray, List.set_cons_zero, List.set_cons_succ]
  refine plan_fact rfl (BytesAt.lasts _) (fun _ => rfl) ?_ ?_
  · intro ρ w' hT hF
    go_simp
    refine (number_int g w' g0 g1).mono ?_
    rintro e w'' ⟨v, rfl, hv, hb⟩
    exact ⟨v, rfl, hv, hb⟩
  simp only [Act.put, List.setIfInBounds_toArray, List.set_cons_zero, List.set_cons_succ]
  refine plan_run (v := ?_) rfl (fun _ => rfl) ?_ ?_
  rotate_left
  · intro ρ w' hT
    obtain ⟨hcT, hfT⟩ := bcell hT
    go_simp
    try with_reducible rfl
  simp only [Act.put, List.setIfInBounds_toArray, List.set_cons_zero, List.set_cons_succ]
  refine plan_run (v := ?_) rfl (fun _ => rfl) ?_ ?_
  rotate_left
  · intro ρ w' hT
    obtain ⟨hcT, hfT⟩ := bcell hT
    go_simp
    try with_reducible rfl
  simp only [Act.put, List.setIfInBounds_toArray, List.set_cons_zero, List.set_cons_succ]
  refine plan_run (v := ?_) rfl (fun _ => rfl) ?_ ?_
  rotate_left
  · intro ρ w' hT
    obtain ⟨hcT, hfT⟩ := bcell hT
    go_simp
    try with_reducible rfl
  simp only [Act.put, List.setIfInBounds_toArray, List.set_cons_zero, List.set_cons_succ]
  refine plan_run (v := ?_) rfl (fun _ => rfl) ?_ ?_
  rotate_left
  · intro ρ w' hT
    obtain ⟨hcT, hfT⟩ := bcell hT
    go_simp
    try with_reducible rfl
  simp only [Act.put, List.setIfInBounds_toArray, List.set_cons_zero, List.set_cons_succ]
  refine plan_fact rfl (BytesAt.lasts _) (fun _ => rfl) ?_ ?_
  · intro ρ w' hT hF
    go_simp
    refine (number_int i w' i0 i1).mono ?_
    rintro e w'' ⟨v, rfl, hv, hb⟩
    exact ⟨v, rfl, hv, hb⟩
  simp only [Act.put, List.setIfInBounds_toArray, List.set_cons_zero, List.set_cons_succ]
  refine plan_fact rfl (VecAt.lasts _) (fun _ => rfl) ?_ ?_
  · intro ρ w' hT hF
    obtain ⟨f0, f1, _⟩ := hF
    obtain ⟨A0, m0, d0', e0, q0⟩ := BytesAt.open f0
    obtain ⟨A1, m1, d1', e1, q1⟩ := BytesAt.open f1
    have HV := Lib.hid ((BytesAt.lasts _).at hT hq.out)
    clear f0 f1 hT
    go_simp
    exact ⟨vec_of (vs := [.slice A0 m0 d0', .slice A m cp, .slice A1 m1 d1']) rfl rfl (AllAt.cons q0.out (AllAt.cons HV.out (AllAt.cons q1.out AllAt.nil))), below_alloc _ _⟩
  simp only [Act.put, List.setIfInBounds_toArray, List.set_cons_zero, List.set_cons_succ]
  refine plan_fact rfl (BytesAt.lasts _) (fun _ => rfl) ?_ ?_
  · intro ρ w' hT hF
    obtain ⟨f8, _⟩ := hF
    have F8 := Lib.hid f8
    clear f8
    go_simp
    refine (join_vec (n := 3) rfl _ w' F8.out (by omega) (by rw [HF.out]; omega)).mono ?_
    rintro e w'' ⟨v, rfl, hv, hb⟩
    exact ⟨v, rfl, by rw [← HF.out]; exact hv, hb⟩
  simp only [Act.put, List.setIfInBounds_toArray, List.set_cons_zero, List.set_cons_succ]
  intro ρ w3 hT hF
  obtain ⟨f8, _⟩ := hF
  have F8 := Lib.hid f8
  clear f8
  simp only [List.drop_succ_cons, List.drop_zero]
  go_wp2
  go_ret2
  exact ⟨_, rfl, F8.out, below_step hb1 (below_step hb2 hT)⟩
end Go.Proofs.YtnldgcgngolkiaaGreatDoor
