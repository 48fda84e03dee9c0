/- The reference's TakeBranch, TakeName, Take: the walks. -/
import Derived.Test.YtnldgcgngolkiaaGreatDoorRB
import Derived.Test.YtnldgcgngolkiaaGreatDoorRN
import Derived.Test.YtnldgcgngolkiaaGreatDoorQ
namespace Go.Proofs.YtnldgcgngolkiaaGreatDoor
open Go.RowKit
set_option linter.unusedVariables false
set_option linter.unusedSimpArgs false
set_option linter.unnecessarySimpa false
attribute [local go_sem] givesUpon
theorem qL_size (l : List UInt8) (p : Nat) (h : l.length ≤ 1000000) : (qL l p).size ≤ 1000000 := by
  have : (yV 99 l (nP l p)).length ≤ l.length := by
    unfold yV
    split
    · rw [List.length_take, List.length_drop]; omega
    · simp
  rw [qL, ← str_len]
  exact Nat.le_trans this h
theorem qV_le (l : List UInt8) (p : Nat) : -1 ≤ qV l p ∧ qV l p ≤ 4611686018427387904 := by
  unfold qV; split <;> omega
theorem qP_le {l : List UInt8} {p : Nat} (h : p ≤ l.length) : p ≤ qP l p ∧ qP l p ≤ l.length := by
  have h1 := nP_le h
  have h2 := yP_le (most := 99) h1.2
  unfold qP; omega
theorem qNP_le {l : List UInt8} {p : Nat} (h : p ≤ l.length) : p ≤ qNP l p ∧ qNP l p ≤ l.length := by
  have h1 := qP_le h
  have h2 := nP_le h1.2
  unfold qNP; omega
def qSP (l : List UInt8) (p : Nat) : Nat := nP l (qNP l (nP l p))
def qSI (l : List UInt8) (p : Nat) : Int := qV l (qNP l (nP l p))
theorem qSP_le {l : List UInt8} {p : Nat} (h : p ≤ l.length) : p ≤ qSP l p ∧ qSP l p ≤ l.length := by
  have h0 := nP_le h
  have h1 := qNP_le h0.2
  have h2 := nP_le h1.2
  unfold qSP; omega

/-! ### what was read is just what the form is -/
theorem num_piece {l : List UInt8} {p : Nat} (h : nE l p = 0) (hp : p ≤ l.length) : (l.drop p).take (nP l p - p) = numL (nV l p) := by
  unfold nE at h
  cases hn : numAt l p with
  | none => rw [hn] at h; simp at h
  | some x =>
    obtain ⟨v, k⟩ := x
    have hc := numAt_canon hn
    obtain ⟨e1, e2, e3⟩ := num_some hn
    rw [e1, e3, show p + k - p = k by omega]
    exact hc.2.2.2.1
theorem take_two {l : List UInt8} {p q r : Nat} (h1 : p ≤ q) (h2 : q ≤ r) (a b : List UInt8) (ha : (l.drop p).take (q - p) = a) (hb : (l.drop q).take (r - q) = b) : (l.drop p).take (r - p) = a ++ b := by
  rw [show r - p = (q - p) + (r - q) by omega, List.take_add, ha, List.drop_drop, show p + (q - p) = q by omega, hb]
theorem qV_ok {l : List UInt8} {p : Nat} (h : 0 ≤ qV l p) : nE l p = 0 ∧ qV l p = nV l p := by
  unfold qV at h ⊢
  split at h
  · rename_i hh; rw [if_pos hh]; exact ⟨hh.1, rfl⟩
  · omega
theorem lab_pos {l : List UInt8} (h : lab l = true) : 0 < l.length := by
  simp only [lab, Bool.and_eq_true, decide_eq_true_eq] at h; omega
theorem qB_form {l : List UInt8} {p : Nat} (hp : p ≤ l.length) (hok : okB (qV l p) (qL l p) = true) : (l.drop p).take (qP l p - p) = fB (qV l p) (qL l p) := by
  have h := okB_iff.1 hok
  obtain ⟨h0, h1⟩ := qV_ok h.1
  have hlp := lab_pos h.2.2
  have hd : (qL l p).data.toList = yV 99 l (nP l p) := by simp [qL]
  rw [hd] at hlp
  have hy : yE 99 l (nP l p) = 0 := by
    by_cases hy : yE 99 l (nP l p) = 0
    · exact hy
    · rw [yV, if_neg hy] at hlp; simp at hlp
  obtain ⟨y0, y1, y2⟩ := yE_ok hy
  have hn := nP_le hp
  have hn2 := nP_le hn.2
  have eq : qP l p = nP l (nP l p) + nV l (nP l p) := by rw [qP, yP, if_pos hy]
  have eV : yV 99 l (nP l p) = (l.drop (nP l (nP l p))).take (nV l (nP l p)) := by rw [yV, if_pos hy]
  have hlen : (yV 99 l (nP l p)).length = nV l (nP l p) := by rw [eV, List.length_take, List.length_drop]; omega
  have p1 := num_piece h0 hp
  have p2 := num_piece y0 hn.2
  have p3 : (l.drop (nP l (nP l p))).take (qP l p - nP l (nP l p)) = yV 99 l (nP l p) := by rw [eV, eq]; congr 1; omega
  have p23 := take_two hn2.1 (by rw [eq]; omega) _ _ p2 p3
  have p123 := take_two hn.1 (by rw [eq]; omega) _ _ p1 p23
  rw [p123, fB, bytL, hd, hlen, h1]
  rfl
theorem qN_form {l : List UInt8} {p : Nat} (hp : p ≤ l.length) (hok : okN (qV l p) (qL l p) (qNV l p) = true) : (l.drop p).take (qNP l p - p) = fN (qV l p) (qL l p) (qNV l p) := by
  have h := okN_iff.1 hok
  have hB := qB_form hp h.1
  have hq := qP_le hp
  obtain ⟨h0, h1⟩ := qV_ok (l := l) (p := qP l p) (by have := h.2.1; rw [qNV] at this; omega)
  have p1 := num_piece h0 hq.2
  have := take_two hq.1 (nP_le hq.2).1 _ _ hB p1
  rw [qNP, this, fN, qNV, h1]
  rfl
theorem qS_form {l : List UInt8} {p : Nat} (hp : p ≤ l.length) (hok : okS (qV l p) (qV l (nP l p)) (qL l (nP l p)) (qNV l (nP l p)) (qSI l p) = true) :
    (l.drop p).take (qSP l p - p) = fS (qV l p) (qV l (nP l p)) (qL l (nP l p)) (qNV l (nP l p)) (qSI l p) := by
  have h := okS_iff.1 hok
  have hn := nP_le hp
  have hN := qN_form hn.2 h.2.2.1
  have hq := qNP_le hn.2
  obtain ⟨h0, h1⟩ := qV_ok (l := l) (p := p) (by omega)
  obtain ⟨h2, h3⟩ := qV_ok (l := l) (p := qNP l (nP l p)) (by have := h.2.2.2.1; rw [qSI] at this; omega)
  have p1 := num_piece h0 hp
  have p3 := num_piece h2 hq.2
  have p23 := take_two hq.1 (nP_le hq.2).1 _ _ hN p3
  have := take_two hn.1 (Nat.le_trans hq.1 (nP_le hq.2).1) _ _ p1 p23
  rw [qSP, this, fS, qSI, h1, h3]
  rfl
set_option maxRecDepth 20000 in
set_option maxHeartbeats 2000000 in
theorem qtakeB_no (R : Nat) (A : Option Addr) (c : Nat) (l : List UInt8) (p : Nat) (w : World) (h : Rd w R TQ A c l p) (hO : okB (qV l p) (qL l p) = false) :
    Calls Tryz.prog 30 #[.pointer (some ⟨R, 0, none⟩)] w fun e w' => e = .returned (.tuple #[zB, .int .i64 4]) ∧ Rd w' R TQ A c l (p) ∧ Keep [R] w w' := by
  have c1 := h.c1
  have hR := h.lt
  have hle := h.le
  have hsh := h.short
  have hLs := qL_size l p h.short
  have HB := Lib.hid (fun w' : World => (rbranch_any (qV l p) (qL l p) w' hLs))
  rw [hO] at HB
  clear hO
  go_enter Tryz.func30, Tryz.ntmps30
  go_wp2_with fail
  refine (qbr_any R A c l p _ (h.below (below_alloc _ _))).mono ?_
  rintro e w1 ⟨rfl, hr1, hk1⟩
  have hs1 : w.heap.size < w1.heap.size := by have := hk1.size; simp at this; omega
  have z0 : w1.heap[w.heap.size]? = some (.cells #[.int .i64 0, .string ⟨#[]⟩] 24 (0, 0)) := (hk1.block _ (by simp) (by simp; omega)).trans (heap_alloc_new w _)
  have hk1' : Keep [R] w w1 := (Keep.of_below (below_alloc w _)).trans hk1
  go_wp2_with fail
  have hb2 := below_alloc w1 (.cells #[.int .i64 (qV l p), .string (qL l p)] 24)
  have y0 : (w1.alloc (.cells #[.int .i64 (qV l p), .string (qL l p)] 24)).heap[w1.heap.size]? = some (.cells #[.int .i64 (qV l p), .string (qL l p)] 24 (0, 0)) := heap_alloc_new w1 _
  have hz2 : (w1.alloc (.cells #[.int .i64 (qV l p), .string (qL l p)] 24)).heap.size = w1.heap.size + 1 := by simp
  generalize w1.alloc (.cells #[.int .i64 (qV l p), .string (qL l p)] 24) = w2 at *
  have z2 := (hb2.block _ hs1).trans z0
  have hr2 := hr1.below hb2
  have hk2 : Keep [R] w w2 := hk1'.trans (Keep.of_below hb2)
  clear hr1 hk1 hk1' hb2 z0
  have z2_0 : w2.cell? ⟨w.heap.size, 0, none⟩ = some (.int .i64 0) := box_cells z2 0
  have z2_1 : w2.cell? ⟨w.heap.size, 1, none⟩ = some (.string ⟨#[]⟩) := box_cells z2 1
  have y0_0 : w2.cell? ⟨w1.heap.size, 0, none⟩ = some (.int .i64 (qV l p)) := box_cells y0 0
  have y0_1 : w2.cell? ⟨w1.heap.size, 1, none⟩ = some (.string (qL l p)) := box_cells y0 1
  have hw2 : w.heap.size < w2.heap.size := by omega
  have hw12 : w1.heap.size < w2.heap.size := by omega
  have hRw := hr2.lt
  clear hz2
  have c0' := hr2.c0
  have c1' := hr2.c1
  clear c1
  refine wp_region_plan 19 [(none, []), (none, []), (none, []), (none, []), (none, []), (none, []), (none, []), (none, []), (none, []), (none, []), (none, []), (none, []), (none, []), (none, []), (none, []), (none, []), (none, []), (none, []), (none, [])] [] (by kernel_rfl) (by kernel_rfl) ?_
  simp only [List.take_succ_cons, List.take_zero]
  refine plan_run (v := ?_) rfl (fun _ => rfl) ?_ ?_
  rotate_left
  · intro ρ w' hT
    obtain ⟨hcT, hfT⟩ := bcell hT
    go_simp
    try with_reducible rfl
  simp only [Act.put, List.setIfInBounds_toArray, List.set_cons_zero, List.set_cons_succ]
  refine plan_const (v := .bool false) rfl (fun _ => rfl) ?_ ?_
  · intro ρ w' hT hF
    go_simp
    refine (HB.out w').mono ?_
    rintro e w'' ⟨rfl, hb⟩
    exact ⟨_, rfl, rfl, hb⟩
  simp only [Act.put, List.setIfInBounds_toArray, List.set_cons_zero, List.set_cons_succ]
  refine plan_run (v := ?_) rfl (fun _ => rfl) ?_ ?_
  rotate_left
  · intro ρ w' hT
    obtain ⟨hcT, hfT⟩ := bcell hT
    go_simp
    try with_reducible rfl
  simp only [Act.put, List.setIfInBounds_toArray, List.set_cons_zero, List.set_cons_succ]
  refine plan_run (v := ?_) rfl (fun _ => rfl) ?_ ?_
  rotate_left
  · intro ρ w' hT
    obtain ⟨hcT, hfT⟩ := bcell hT
    go_simp
    try with_reducible rfl
  simp only [Act.put, List.setIfInBounds_toArray, List.set_cons_zero, List.set_cons_succ]
  refine plan_skip rfl (fun _ => rfl) ?_
  simp only [Act.put, List.setIfInBounds_toArray, List.set_cons_zero, List.set_cons_succ]
  refine plan_skip rfl (fun _ => rfl) ?_
  simp only [Act.put, List.setIfInBounds_toArray, List.set_cons_zero, List.set_cons_succ]
  refine plan_skip rfl (fun _ => rfl) ?_
  simp only [Act.put, List.setIfInBounds_toArray, List.set_cons_zero, List.set_cons_succ]
  refine plan_skip rfl (fun _ => rfl) ?_
  simp only [Act.put, List.setIfInBounds_toArray, List.set_cons_zero, List.set_cons_succ]
  refine plan_skip rfl (fun _ => rfl) ?_
  simp only [Act.put, List.setIfInBounds_toArray, List.set_cons_zero, List.set_cons_succ]
  refine plan_skip rfl (fun _ => rfl) ?_
  simp only [Act.put, List.setIfInBounds_toArray, List.set_cons_zero, List.set_cons_succ]
  refine plan_skip rfl (fun _ => rfl) ?_
  simp only [Act.put, List.setIfInBounds_toArray, List.set_cons_zero, List.set_cons_succ]
  refine plan_skip rfl (fun _ => rfl) ?_
  simp only [Act.put, List.setIfInBounds_toArray, List.set_cons_zero, List.set_cons_succ]
  refine plan_skip rfl (fun _ => rfl) ?_
  simp only [Act.put, List.setIfInBounds_toArray, List.set_cons_zero, List.set_cons_succ]
  refine plan_skip rfl (fun _ => rfl) ?_
  simp only [Act.put, List.setIfInBounds_toArray, List.set_cons_zero, List.set_cons_succ]
  refine plan_skip rfl (fun _ => rfl) ?_
  simp only [Act.put, List.setIfInBounds_toArray, List.set_cons_zero, List.set_cons_succ]
  refine plan_skip rfl (fun _ => rfl) ?_
  simp only [Act.put, List.setIfInBounds_toArray, List.set_cons_zero, List.set_cons_succ]
  refine plan_skip rfl (fun _ => rfl) ?_
  simp only [Act.put, List.setIfInBounds_toArray, List.set_cons_zero, List.set_cons_succ]
  refine plan_skip rfl (fun _ => rfl) ?_
  simp only [Act.put, List.setIfInBounds_toArray, List.set_cons_zero, List.set_cons_succ]
  refine plan_skip rfl (fun _ => rfl) ?_
  simp only [Act.put, List.setIfInBounds_toArray, List.set_cons_zero, List.set_cons_succ]
  intro ρ w3 hT hF
  simp only [List.drop_succ_cons, List.drop_zero]
  have hr3 := hr2.below hT
  have hk3 : Keep [R] w w3 := hk2.trans (Keep.of_below hT)
  have c0'' := hr3.c0
  have c1'' := hr3.c1
  have cf'' := hr3.fr
  have z3_0 := cell_on hT hw2 z2_0
  have z3_1 := cell_on hT hw2 z2_1
  have y3_0 := cell_on hT hw12 y0_0
  have y3_1 := cell_on hT hw12 y0_1
  have zf : ∀ i, w3.frozen? ⟨w.heap.size, i, none⟩ = false := fun i => (hT.frozen (p := ⟨w.heap.size, i, none⟩) hw2).trans (box_frozen z2 i)
  have d1 : R ≠ w.heap.size := by omega
  have d2 : w1.heap.size ≠ w.heap.size := by omega
  have d3 : R ≠ w1.heap.size := by omega
  have HR := Lib.hid hr3
  have HK := Lib.hid hk3
  clear hT hr3 hk3 hk2 hr2 c0' c1' z2 y0 
  clear z2_0 y0_0 z2_1 y0_1
  go_wp2
  refine bodyPost_ret (v := .tuple #[zB, .int .i64 4]) ?_ rfl ⟨rfl, ?_, ?_⟩
  · simp [results, Tryz.results30, go_sem, z3_0, z3_1, y3_0, y3_1, zf, d1, d2, d3, Ne.symm d1, Ne.symm d2]
    try rfl
  · exact (Rd.new h (Rd.new h (HR.out.move hle) (by simp) _) (by simp) _)
  · exact (((HK.out.setCell (.inl (by simp)) _).setCell (.inr (by simp)) _).setCell (.inr (by simp)) _)
set_option maxRecDepth 20000 in
set_option maxHeartbeats 2000000 in
theorem qtakeB_yes (R : Nat) (A : Option Addr) (c : Nat) (l : List UInt8) (p : Nat) (w : World) (h : Rd w R TQ A c l p) (hO : okB (qV l p) (qL l p) = true) :
    Calls Tryz.prog 30 #[.pointer (some ⟨R, 0, none⟩)] w fun e w' => e = .returned (.tuple #[vB (qV l p) (qL l p), .int .i64 0]) ∧ Rd w' R TQ A c l (qP l p) ∧ Keep [R] w w' := by
  have c1 := h.c1
  have hR := h.lt
  have hle := h.le
  have hsh := h.short
  have hLs := qL_size l p h.short
  have HB := Lib.hid (fun w' : World => (rbranch_any (qV l p) (qL l p) w' hLs))
  rw [hO] at HB
  have hF := qB_form hle hO
  have hqp := qP_le hle
  have hb := okB_iff.1 hO
  have r0 : 0 ≤ (qV l p) := by omega
  have r1 : (qV l p) < 18446744073709551616 := by omega
  have HP := Lib.hid (fun w' : World => (qputB_any (qV l p) (qL l p) w' hLs r0 r1))
  obtain ⟨F, eF⟩ : ∃ F, Hid (F = fB (qV l p) (qL l p)) := ⟨_, rfl⟩
  rw [← eF.out] at hF HP
  obtain ⟨m, em⟩ : ∃ m, Hid (m = qP l p) := ⟨_, rfl⟩
  rw [← em.out] at hF hqp
  have hFl : F.length = m - p := by rw [← hF, List.length_take, List.length_drop]; omega
  have HFF := Lib.hid hF
  have HFL := Lib.hid hFl
  clear hF hFl hb
  clear r0 r1
  clear hO
  go_enter Tryz.func30, Tryz.ntmps30
  go_wp2_with fail
  refine (qbr_any R A c l p _ (h.below (below_alloc _ _))).mono ?_
  rintro e w1 ⟨rfl, hr1, hk1⟩
  have hs1 : w.heap.size < w1.heap.size := by have := hk1.size; simp at this; omega
  have z0 : w1.heap[w.heap.size]? = some (.cells #[.int .i64 0, .string ⟨#[]⟩] 24 (0, 0)) := (hk1.block _ (by simp) (by simp; omega)).trans (heap_alloc_new w _)
  have hk1' : Keep [R] w w1 := (Keep.of_below (below_alloc w _)).trans hk1
  go_wp2_with fail
  have hb2 := below_alloc w1 (.cells #[.int .i64 (qV l p), .string (qL l p)] 24)
  have y0 : (w1.alloc (.cells #[.int .i64 (qV l p), .string (qL l p)] 24)).heap[w1.heap.size]? = some (.cells #[.int .i64 (qV l p), .string (qL l p)] 24 (0, 0)) := heap_alloc_new w1 _
  have hz2 : (w1.alloc (.cells #[.int .i64 (qV l p), .string (qL l p)] 24)).heap.size = w1.heap.size + 1 := by simp
  generalize w1.alloc (.cells #[.int .i64 (qV l p), .string (qL l p)] 24) = w2 at *
  have z2 := (hb2.block _ hs1).trans z0
  have hr2 := hr1.below hb2
  have hk2 : Keep [R] w w2 := hk1'.trans (Keep.of_below hb2)
  clear hr1 hk1 hk1' hb2 z0
  have z2_0 : w2.cell? ⟨w.heap.size, 0, none⟩ = some (.int .i64 0) := box_cells z2 0
  have z2_1 : w2.cell? ⟨w.heap.size, 1, none⟩ = some (.string ⟨#[]⟩) := box_cells z2 1
  have y0_0 : w2.cell? ⟨w1.heap.size, 0, none⟩ = some (.int .i64 (qV l p)) := box_cells y0 0
  have y0_1 : w2.cell? ⟨w1.heap.size, 1, none⟩ = some (.string (qL l p)) := box_cells y0 1
  have hw2 : w.heap.size < w2.heap.size := by omega
  have hw12 : w1.heap.size < w2.heap.size := by omega
  have hRw := hr2.lt
  clear hz2
  have c0' := hr2.c0
  have c1' := hr2.c1
  clear c1
  rw [← em.out] at hr2 c1'
  have hpc := hr2.piece (q := p) (v := m - p) (by omega)
  rw [HFF.out] at hpc
  have hsl : ∀ u : World, (Instr.slice 44 (.slice A l.length c) (some (.int .i64 p)) (some (.int .i64 m)) none).run Tryz.prog u = .ok (.slice (if c = p then A else A.map (·.add p)) (m - p) (c - p)) u := fun u => slice_bytes u A l.length c p m (by omega) (by have := hr2.cap; omega)
  generalize (if c = p then A else A.map (·.add p)) = A2 at hsl hpc
  generalize c - p = c2 at hsl
  have hat : BytesAt F (.slice A2 (m - p) c2) w2 := ⟨A2, c2, by rw [HFL.out], by rw [HFL.out]; exact hpc⟩
  generalize m - p = mp at hsl hat
  have Hat := Lib.hid hat
  clear hat hpc
  refine wp_region_plan 19 [(none, []), (none, []), (none, []), (none, []), (none, []), (none, []), (none, []), (none, []), (none, []), (none, []), (none, []), (none, []), (none, []), (none, []), (none, []), (none, []), (some (BytesAt F), []), (none, [16]), (none, [])] [] (by kernel_rfl) (by kernel_rfl) ?_
  simp only [List.take_succ_cons, List.take_zero]
  refine plan_run (v := ?_) rfl (fun _ => rfl) ?_ ?_
  rotate_left
  · intro ρ w' hT
    obtain ⟨hcT, hfT⟩ := bcell hT
    go_simp
    try with_reducible rfl
  simp only [Act.put, List.setIfInBounds_toArray, List.set_cons_zero, List.set_cons_succ]
  refine plan_const (v := .bool true) rfl (fun _ => rfl) ?_ ?_
  · intro ρ w' hT hF
    go_simp
    refine (HB.out w').mono ?_
    rintro e w'' ⟨rfl, hb⟩
    exact ⟨_, rfl, rfl, hb⟩
  simp only [Act.put, List.setIfInBounds_toArray, List.set_cons_zero, List.set_cons_succ]
  refine plan_run (v := ?_) rfl (fun _ => rfl) ?_ ?_
  rotate_left
  · intro ρ w' hT
    obtain ⟨hcT, hfT⟩ := bcell hT
    go_simp
    try with_reducible rfl
  simp only [Act.put, List.setIfInBounds_toArray, List.set_cons_zero, List.set_cons_succ]
  refine plan_run (v := ?_) rfl (fun _ => rfl) ?_ ?_
  rotate_left
  · intro ρ w' hT
    obtain ⟨hcT, hfT⟩ := bcell hT
    go_simp
    try with_reducible rfl
  simp only [Act.put, List.setIfInBounds_toArray, List.set_cons_zero, List.set_cons_succ]
  refine plan_run (v := ?_) rfl (fun _ => rfl) ?_ ?_
  rotate_left
  · intro ρ w' hT
    obtain ⟨hcT, hfT⟩ := bcell hT
    go_simp
    try with_reducible rfl
  simp only [Act.put, List.setIfInBounds_toArray, List.set_cons_zero, List.set_cons_succ]
  refine plan_run (v := ?_) rfl (fun _ => rfl) ?_ ?_
  rotate_left
  · intro ρ w' hT
    obtain ⟨hcT, hfT⟩ := bcell hT
    go_simp
    try with_reducible rfl
  simp only [Act.put, List.setIfInBounds_toArray, List.set_cons_zero, List.set_cons_succ]
  refine plan_run (v := ?_) rfl (fun _ => rfl) ?_ ?_
  rotate_left
  · intro ρ w' hT
    obtain ⟨hcT, hfT⟩ := bcell hT
    go_simp
    try with_reducible rfl
  simp only [Act.put, List.setIfInBounds_toArray, List.set_cons_zero, List.set_cons_succ]
  refine plan_run (v := ?_) rfl (fun _ => rfl) ?_ ?_
  rotate_left
  · intro ρ w' hT
    obtain ⟨hcT, hfT⟩ := bcell hT
    go_simp
    try with_reducible rfl
  simp only [Act.put, List.setIfInBounds_toArray, List.set_cons_zero, List.set_cons_succ]
  refine plan_run (v := ?_) rfl (fun _ => rfl) ?_ ?_
  rotate_left
  · intro ρ w' hT
    obtain ⟨hcT, hfT⟩ := bcell hT
    go_simp
    try with_reducible rfl
  simp only [Act.put, List.setIfInBounds_toArray, List.set_cons_zero, List.set_cons_succ]
  refine plan_run (v := ?_) rfl (fun _ => rfl) ?_ ?_
  rotate_left
  · intro ρ w' hT
    obtain ⟨hcT, hfT⟩ := bcell hT
    go_simp
    try with_reducible rfl
  simp only [Act.put, List.setIfInBounds_toArray, List.set_cons_zero, List.set_cons_succ]
  refine plan_run (v := ?_) rfl (fun _ => rfl) ?_ ?_
  rotate_left
  · intro ρ w' hT
    obtain ⟨hcT, hfT⟩ := bcell hT
    go_simp
    try with_reducible rfl
  simp only [Act.put, List.setIfInBounds_toArray, List.set_cons_zero, List.set_cons_succ]
  refine plan_run (v := ?_) rfl (fun _ => rfl) ?_ ?_
  rotate_left
  · intro ρ w' hT
    obtain ⟨hcT, hfT⟩ := bcell hT
    go_simp
    try with_reducible rfl
  simp only [Act.put, List.setIfInBounds_toArray, List.set_cons_zero, List.set_cons_succ]
  refine plan_run (v := ?_) rfl (fun _ => rfl) ?_ ?_
  rotate_left
  · intro ρ w' hT
    obtain ⟨hcT, hfT⟩ := bcell hT
    go_simp
    try with_reducible rfl
  simp only [Act.put, List.setIfInBounds_toArray, List.set_cons_zero, List.set_cons_succ]
  refine plan_run (v := ?_) rfl (fun _ => rfl) ?_ ?_
  rotate_left
  · intro ρ w' hT
    obtain ⟨hcT, hfT⟩ := bcell hT
    go_simp
    try with_reducible rfl
  simp only [Act.put, List.setIfInBounds_toArray, List.set_cons_zero, List.set_cons_succ]
  refine plan_const (v := .string (S F)) rfl (fun _ => rfl) ?_ ?_
  · intro ρ w' hT hF
    have hcv := conv_string ((BytesAt.lasts _).at hT Hat.out)
    clear hT
    go_simp
    exact Below.refl _ _
  simp only [Act.put, List.setIfInBounds_toArray, List.set_cons_zero, List.set_cons_succ]
  refine plan_run (v := ?_) rfl (fun _ => rfl) ?_ ?_
  rotate_left
  · intro ρ w' hT
    obtain ⟨hcT, hfT⟩ := bcell hT
    go_simp
    try with_reducible rfl
  simp only [Act.put, List.setIfInBounds_toArray, List.set_cons_zero, List.set_cons_succ]
  refine plan_fact rfl (BytesAt.lasts _) (fun _ => rfl) ?_ ?_
  · intro ρ w' hT hF
    go_simp
    refine (HP.out w').mono ?_
    rintro e w'' ⟨v, rfl, hv, hb⟩
    exact ⟨v, rfl, of_own hv, hb⟩
  simp only [Act.put, List.setIfInBounds_toArray, List.set_cons_zero, List.set_cons_succ]
  refine plan_const (v := .string (S F)) rfl (fun _ => rfl) ?_ ?_
  · intro ρ w' hT hF
    obtain ⟨f16, _⟩ := hF
    have hcv := conv_string f16
    clear f16 hT
    go_simp
    exact Below.refl _ _
  simp only [Act.put, List.setIfInBounds_toArray, List.set_cons_zero, List.set_cons_succ]
  refine plan_run (v := ?_) rfl (fun _ => rfl) ?_ ?_
  rotate_left
  · intro ρ w' hT
    obtain ⟨hcT, hfT⟩ := bcell hT
    go_simp
    try with_reducible rfl
  simp only [Act.put, List.setIfInBounds_toArray, List.set_cons_zero, List.set_cons_succ]
  intro ρ w3 hT hF
  simp only [List.drop_succ_cons, List.drop_zero]
  have hr3 := hr2.below hT
  have hk3 : Keep [R] w w3 := hk2.trans (Keep.of_below hT)
  have c0'' := hr3.c0
  have c1'' := hr3.c1
  have cf'' := hr3.fr
  have z3_0 := cell_on hT hw2 z2_0
  have z3_1 := cell_on hT hw2 z2_1
  have y3_0 := cell_on hT hw12 y0_0
  have y3_1 := cell_on hT hw12 y0_1
  have zf : ∀ i, w3.frozen? ⟨w.heap.size, i, none⟩ = false := fun i => (hT.frozen (p := ⟨w.heap.size, i, none⟩) hw2).trans (box_frozen z2 i)
  have d1 : R ≠ w.heap.size := by omega
  have d2 : w1.heap.size ≠ w.heap.size := by omega
  have d3 : R ≠ w1.heap.size := by omega
  have HR := Lib.hid hr3
  have HK := Lib.hid hk3
  clear hT hr3 hk3 hk2 hr2 c0' c1' z2 y0 
  clear z2_0 y0_0 z2_1 y0_1
  go_wp2
  refine bodyPost_ret (v := .tuple #[vB (qV l p) (qL l p), .int .i64 0]) ?_ rfl ⟨rfl, ?_, ?_⟩
  · simp [results, Tryz.results30, go_sem, z3_0, z3_1, y3_0, y3_1, zf, d1, d2, d3, Ne.symm d1, Ne.symm d2]
    try rfl
  · exact (Rd.new h (Rd.new h (em.out ▸ HR.out) (by simp) _) (by simp) _)
  · exact ((HK.out.setCell (.inr (by simp)) _).setCell (.inr (by simp)) _)
set_option maxRecDepth 20000 in
set_option maxHeartbeats 2000000 in
theorem qtakeN_no (R : Nat) (A : Option Addr) (c : Nat) (l : List UInt8) (p : Nat) (w : World) (h : Rd w R TQ A c l p) (hO : okN (qV l p) (qL l p) (qNV l p) = false) :
    Calls Tryz.prog 32 #[.pointer (some ⟨R, 0, none⟩)] w fun e w' => e = .returned (.tuple #[zN, .int .i64 4]) ∧ Rd w' R TQ A c l (p) ∧ Keep [R] w w' := by
  have c1 := h.c1
  have hR := h.lt
  have hle := h.le
  have hsh := h.short
  have hLs := qL_size l p h.short
  have HB := Lib.hid (fun w' : World => (rname_any (qV l p) (qL l p) (qNV l p) w' hLs))
  rw [hO] at HB
  clear hO
  go_enter Tryz.func32, Tryz.ntmps32
  go_wp2_with fail
  refine (qname_any R A c l p _ (h.below (below_alloc _ _))).mono ?_
  rintro e w1 ⟨rfl, hr1, hk1⟩
  have hs1 : w.heap.size < w1.heap.size := by have := hk1.size; simp at this; omega
  have z0 : w1.heap[w.heap.size]? = some (.cells #[.int .i64 0, .string ⟨#[]⟩, .int .i64 0] 31 (0, 0)) := (hk1.block _ (by simp) (by simp; omega)).trans (heap_alloc_new w _)
  have hk1' : Keep [R] w w1 := (Keep.of_below (below_alloc w _)).trans hk1
  go_wp2_with fail
  have hb2 := below_alloc w1 (.cells #[.int .i64 (qV l p), .string (qL l p), .int .i64 (qNV l p)] 31)
  have y0 : (w1.alloc (.cells #[.int .i64 (qV l p), .string (qL l p), .int .i64 (qNV l p)] 31)).heap[w1.heap.size]? = some (.cells #[.int .i64 (qV l p), .string (qL l p), .int .i64 (qNV l p)] 31 (0, 0)) := heap_alloc_new w1 _
  have hz2 : (w1.alloc (.cells #[.int .i64 (qV l p), .string (qL l p), .int .i64 (qNV l p)] 31)).heap.size = w1.heap.size + 1 := by simp
  generalize w1.alloc (.cells #[.int .i64 (qV l p), .string (qL l p), .int .i64 (qNV l p)] 31) = w2 at *
  have z2 := (hb2.block _ hs1).trans z0
  have hr2 := hr1.below hb2
  have hk2 : Keep [R] w w2 := hk1'.trans (Keep.of_below hb2)
  clear hr1 hk1 hk1' hb2 z0
  have z2_0 : w2.cell? ⟨w.heap.size, 0, none⟩ = some (.int .i64 0) := box_cells z2 0
  have z2_1 : w2.cell? ⟨w.heap.size, 1, none⟩ = some (.string ⟨#[]⟩) := box_cells z2 1
  have z2_2 : w2.cell? ⟨w.heap.size, 2, none⟩ = some (.int .i64 0) := box_cells z2 2
  have y0_0 : w2.cell? ⟨w1.heap.size, 0, none⟩ = some (.int .i64 (qV l p)) := box_cells y0 0
  have y0_1 : w2.cell? ⟨w1.heap.size, 1, none⟩ = some (.string (qL l p)) := box_cells y0 1
  have y0_2 : w2.cell? ⟨w1.heap.size, 2, none⟩ = some (.int .i64 (qNV l p)) := box_cells y0 2
  have hw2 : w.heap.size < w2.heap.size := by omega
  have hw12 : w1.heap.size < w2.heap.size := by omega
  have hRw := hr2.lt
  clear hz2
  have c0' := hr2.c0
  have c1' := hr2.c1
  clear c1
  refine wp_region_plan 19 [(none, []), (none, []), (none, []), (none, []), (none, []), (none, []), (none, []), (none, []), (none, []), (none, []), (none, []), (none, []), (none, []), (none, []), (none, []), (none, []), (none, []), (none, []), (none, [])] [] (by kernel_rfl) (by kernel_rfl) ?_
  simp only [List.take_succ_cons, List.take_zero]
  refine plan_run (v := ?_) rfl (fun _ => rfl) ?_ ?_
  rotate_left
  · intro ρ w' hT
    obtain ⟨hcT, hfT⟩ := bcell hT
    go_simp
    try with_reducible rfl
  simp only [Act.put, List.setIfInBounds_toArray, List.set_cons_zero, List.set_cons_succ]
  refine plan_const (v := .bool false) rfl (fun _ => rfl) ?_ ?_
  · intro ρ w' hT hF
    go_simp
    refine (HB.out w').mono ?_
    rintro e w'' ⟨rfl, hb⟩
    exact ⟨_, rfl, rfl, hb⟩
  simp only [Act.put, List.setIfInBounds_toArray, List.set_cons_zero, List.set_cons_succ]
  refine plan_run (v := ?_) rfl (fun _ => rfl) ?_ ?_
  rotate_left
  · intro ρ w' hT
    obtain ⟨hcT, hfT⟩ := bcell hT
    go_simp
    try with_reducible rfl
  simp only [Act.put, List.setIfInBounds_toArray, List.set_cons_zero, List.set_cons_succ]
  refine plan_run (v := ?_) rfl (fun _ => rfl) ?_ ?_
  rotate_left
  · intro ρ w' hT
    obtain ⟨hcT, hfT⟩ := bcell hT
    go_simp
    try with_reducible rfl
  simp only [Act.put, List.setIfInBounds_toArray, List.set_cons_zero, List.set_cons_succ]
  refine plan_skip rfl (fun _ => rfl) ?_
  simp only [Act.put, List.setIfInBounds_toArray, List.set_cons_zero, List.set_cons_succ]
  refine plan_skip rfl (fun _ => rfl) ?_
  simp only [Act.put, List.setIfInBounds_toArray, List.set_cons_zero, List.set_cons_succ]
  refine plan_skip rfl (fun _ => rfl) ?_
  simp only [Act.put, List.setIfInBounds_toArray, List.set_cons_zero, List.set_cons_succ]
  refine plan_skip rfl (fun _ => rfl) ?_
  simp only [Act.put, List.setIfInBounds_toArray, List.set_cons_zero, List.set_cons_succ]
  refine plan_skip rfl (fun _ => rfl) ?_
  simp only [Act.put, List.setIfInBounds_toArray, List.set_cons_zero, List.set_cons_succ]
  refine plan_skip rfl (fun _ => rfl) ?_
  simp only [Act.put, List.setIfInBounds_toArray, List.set_cons_zero, List.set_cons_succ]
  refine plan_skip rfl (fun _ => rfl) ?_
  simp only [Act.put, List.setIfInBounds_toArray, List.set_cons_zero, List.set_cons_succ]
  refine plan_skip rfl (fun _ => rfl) ?_
  simp only [Act.put, List.setIfInBounds_toArray, List.set_cons_zero, List.set_cons_succ]
  refine plan_skip rfl (fun _ => rfl) ?_
  simp only [Act.put, List.setIfInBounds_toArray, List.set_cons_zero, List.set_cons_succ]
  refine plan_skip rfl (fun _ => rfl) ?_
  simp only [Act.put, List.setIfInBounds_toArray, List.set_cons_zero, List.set_cons_succ]
  refine plan_skip rfl (fun _ => rfl) ?_
  simp only [Act.put, List.setIfInBounds_toArray, List.set_cons_zero, List.set_cons_succ]
  refine plan_skip rfl (fun _ => rfl) ?_
  simp only [Act.put, List.setIfInBounds_toArray, List.set_cons_zero, List.set_cons_succ]
  refine plan_skip rfl (fun _ => rfl) ?_
  simp only [Act.put, List.setIfInBounds_toArray, List.set_cons_zero, List.set_cons_succ]
  refine plan_skip rfl (fun _ => rfl) ?_
  simp only [Act.put, List.setIfInBounds_toArray, List.set_cons_zero, List.set_cons_succ]
  refine plan_skip rfl (fun _ => rfl) ?_
  simp only [Act.put, List.setIfInBounds_toArray, List.set_cons_zero, List.set_cons_succ]
  intro ρ w3 hT hF
  simp only [List.drop_succ_cons, List.drop_zero]
  have hr3 := hr2.below hT
  have hk3 : Keep [R] w w3 := hk2.trans (Keep.of_below hT)
  have c0'' := hr3.c0
  have c1'' := hr3.c1
  have cf'' := hr3.fr
  have z3_0 := cell_on hT hw2 z2_0
  have z3_1 := cell_on hT hw2 z2_1
  have z3_2 := cell_on hT hw2 z2_2
  have y3_0 := cell_on hT hw12 y0_0
  have y3_1 := cell_on hT hw12 y0_1
  have y3_2 := cell_on hT hw12 y0_2
  have zf : ∀ i, w3.frozen? ⟨w.heap.size, i, none⟩ = false := fun i => (hT.frozen (p := ⟨w.heap.size, i, none⟩) hw2).trans (box_frozen z2 i)
  have d1 : R ≠ w.heap.size := by omega
  have d2 : w1.heap.size ≠ w.heap.size := by omega
  have d3 : R ≠ w1.heap.size := by omega
  have HR := Lib.hid hr3
  have HK := Lib.hid hk3
  clear hT hr3 hk3 hk2 hr2 c0' c1' z2 y0 
  clear z2_0 y0_0 z2_1 y0_1 z2_2 y0_2
  go_wp2
  refine bodyPost_ret (v := .tuple #[zN, .int .i64 4]) ?_ rfl ⟨rfl, ?_, ?_⟩
  · simp [results, Tryz.results32, go_sem, z3_0, z3_1, z3_2, y3_0, y3_1, y3_2, zf, d1, d2, d3, Ne.symm d1, Ne.symm d2]
    try rfl
  · exact (Rd.new h (Rd.new h (Rd.new h (HR.out.move hle) (by simp) _) (by simp) _) (by simp) _)
  · exact ((((HK.out.setCell (.inl (by simp)) _).setCell (.inr (by simp)) _).setCell (.inr (by simp)) _).setCell (.inr (by simp)) _)
set_option maxRecDepth 20000 in
set_option maxHeartbeats 2000000 in
theorem qtakeN_yes (R : Nat) (A : Option Addr) (c : Nat) (l : List UInt8) (p : Nat) (w : World) (h : Rd w R TQ A c l p) (hO : okN (qV l p) (qL l p) (qNV l p) = true) :
    Calls Tryz.prog 32 #[.pointer (some ⟨R, 0, none⟩)] w fun e w' => e = .returned (.tuple #[vN (qV l p) (qL l p) (qNV l p), .int .i64 0]) ∧ Rd w' R TQ A c l (qNP l p) ∧ Keep [R] w w' := by
  have c1 := h.c1
  have hR := h.lt
  have hle := h.le
  have hsh := h.short
  have hLs := qL_size l p h.short
  have HB := Lib.hid (fun w' : World => (rname_any (qV l p) (qL l p) (qNV l p) w' hLs))
  rw [hO] at HB
  have hF := qN_form hle hO
  have hqp := qNP_le hle
  have hn := okN_iff.1 hO
  have hb := okB_iff.1 hn.1
  have r0 : 0 ≤ (qV l p) := by omega
  have r1 : (qV l p) < 18446744073709551616 := by omega
  have n0 : 0 ≤ (qNV l p) := by omega
  have n1 : (qNV l p) < 18446744073709551616 := by omega
  have HP := Lib.hid (fun w' : World => (qputN_any (qV l p) (qL l p) (qNV l p) w' hLs r0 r1 n0 n1))
  obtain ⟨F, eF⟩ : ∃ F, Hid (F = fN (qV l p) (qL l p) (qNV l p)) := ⟨_, rfl⟩
  rw [← eF.out] at hF HP
  obtain ⟨m, em⟩ : ∃ m, Hid (m = qNP l p) := ⟨_, rfl⟩
  rw [← em.out] at hF hqp
  have hFl : F.length = m - p := by rw [← hF, List.length_take, List.length_drop]; omega
  have HFF := Lib.hid hF
  have HFL := Lib.hid hFl
  clear hF hFl hb hn
  clear r0 r1 n0 n1
  clear hO
  go_enter Tryz.func32, Tryz.ntmps32
  go_wp2_with fail
  refine (qname_any R A c l p _ (h.below (below_alloc _ _))).mono ?_
  rintro e w1 ⟨rfl, hr1, hk1⟩
  have hs1 : w.heap.size < w1.heap.size := by have := hk1.size; simp at this; omega
  have z0 : w1.heap[w.heap.size]? = some (.cells #[.int .i64 0, .string ⟨#[]⟩, .int .i64 0] 31 (0, 0)) := (hk1.block _ (by simp) (by simp; omega)).trans (heap_alloc_new w _)
  have hk1' : Keep [R] w w1 := (Keep.of_below (below_alloc w _)).trans hk1
  go_wp2_with fail
  have hb2 := below_alloc w1 (.cells #[.int .i64 (qV l p), .string (qL l p), .int .i64 (qNV l p)] 31)
  have y0 : (w1.alloc (.cells #[.int .i64 (qV l p), .string (qL l p), .int .i64 (qNV l p)] 31)).heap[w1.heap.size]? = some (.cells #[.int .i64 (qV l p), .string (qL l p), .int .i64 (qNV l p)] 31 (0, 0)) := heap_alloc_new w1 _
  have hz2 : (w1.alloc (.cells #[.int .i64 (qV l p), .string (qL l p), .int .i64 (qNV l p)] 31)).heap.size = w1.heap.size + 1 := by simp
  generalize w1.alloc (.cells #[.int .i64 (qV l p), .string (qL l p), .int .i64 (qNV l p)] 31) = w2 at *
  have z2 := (hb2.block _ hs1).trans z0
  have hr2 := hr1.below hb2
  have hk2 : Keep [R] w w2 := hk1'.trans (Keep.of_below hb2)
  clear hr1 hk1 hk1' hb2 z0
  have z2_0 : w2.cell? ⟨w.heap.size, 0, none⟩ = some (.int .i64 0) := box_cells z2 0
  have z2_1 : w2.cell? ⟨w.heap.size, 1, none⟩ = some (.string ⟨#[]⟩) := box_cells z2 1
  have z2_2 : w2.cell? ⟨w.heap.size, 2, none⟩ = some (.int .i64 0) := box_cells z2 2
  have y0_0 : w2.cell? ⟨w1.heap.size, 0, none⟩ = some (.int .i64 (qV l p)) := box_cells y0 0
  have y0_1 : w2.cell? ⟨w1.heap.size, 1, none⟩ = some (.string (qL l p)) := box_cells y0 1
  have y0_2 : w2.cell? ⟨w1.heap.size, 2, none⟩ = some (.int .i64 (qNV l p)) := box_cells y0 2
  have hw2 : w.heap.size < w2.heap.size := by omega
  have hw12 : w1.heap.size < w2.heap.size := by omega
  have hRw := hr2.lt
  clear hz2
  have c0' := hr2.c0
  have c1' := hr2.c1
  clear c1
  rw [← em.out] at hr2 c1'
  have hpc := hr2.piece (q := p) (v := m - p) (by omega)
  rw [HFF.out] at hpc
  have hsl : ∀ u : World, (Instr.slice 44 (.slice A l.length c) (some (.int .i64 p)) (some (.int .i64 m)) none).run Tryz.prog u = .ok (.slice (if c = p then A else A.map (·.add p)) (m - p) (c - p)) u := fun u => slice_bytes u A l.length c p m (by omega) (by have := hr2.cap; omega)
  generalize (if c = p then A else A.map (·.add p)) = A2 at hsl hpc
  generalize c - p = c2 at hsl
  have hat : BytesAt F (.slice A2 (m - p) c2) w2 := ⟨A2, c2, by rw [HFL.out], by rw [HFL.out]; exact hpc⟩
  generalize m - p = mp at hsl hat
  have Hat := Lib.hid hat
  clear hat hpc
  refine wp_region_plan 19 [(none, []), (none, []), (none, []), (none, []), (none, []), (none, []), (none, []), (none, []), (none, []), (none, []), (none, []), (none, []), (none, []), (none, []), (none, []), (none, []), (some (BytesAt F), []), (none, [16]), (none, [])] [] (by kernel_rfl) (by kernel_rfl) ?_
  simp only [List.take_succ_cons, List.take_zero]
  refine plan_run (v := ?_) rfl (fun _ => rfl) ?_ ?_
  rotate_left
  · intro ρ w' hT
    obtain ⟨hcT, hfT⟩ := bcell hT
    go_simp
    try with_reducible rfl
  simp only [Act.put, List.setIfInBounds_toArray, List.set_cons_zero, List.set_cons_succ]
  refine plan_const (v := .bool true) rfl (fun _ => rfl) ?_ ?_
  · intro ρ w' hT hF
    go_simp
    refine (HB.out w').mono ?_
    rintro e w'' ⟨rfl, hb⟩
    exact ⟨_, rfl, rfl, hb⟩
  simp only [Act.put, List.setIfInBounds_toArray, List.set_cons_zero, List.set_cons_succ]
  refine plan_run (v := ?_) rfl (fun _ => rfl) ?_ ?_
  rotate_left
  · intro ρ w' hT
    obtain ⟨hcT, hfT⟩ := bcell hT
    go_simp
    try with_reducible rfl
  simp only [Act.put, List.setIfInBounds_toArray, List.set_cons_zero, List.set_cons_succ]
  refine plan_run (v := ?_) rfl (fun _ => rfl) ?_ ?_
  rotate_left
  · intro ρ w' hT
    obtain ⟨hcT, hfT⟩ := bcell hT
    go_simp
    try with_reducible rfl
  simp only [Act.put, List.setIfInBounds_toArray, List.set_cons_zero, List.set_cons_succ]
  refine plan_run (v := ?_) rfl (fun _ => rfl) ?_ ?_
  rotate_left
  · intro ρ w' hT
    obtain ⟨hcT, hfT⟩ := bcell hT
    go_simp
    try with_reducible rfl
  simp only [Act.put, List.setIfInBounds_toArray, List.set_cons_zero, List.set_cons_succ]
  refine plan_run (v := ?_) rfl (fun _ => rfl) ?_ ?_
  rotate_left
  · intro ρ w' hT
    obtain ⟨hcT, hfT⟩ := bcell hT
    go_simp
    try with_reducible rfl
  simp only [Act.put, List.setIfInBounds_toArray, List.set_cons_zero, List.set_cons_succ]
  refine plan_run (v := ?_) rfl (fun _ => rfl) ?_ ?_
  rotate_left
  · intro ρ w' hT
    obtain ⟨hcT, hfT⟩ := bcell hT
    go_simp
    try with_reducible rfl
  simp only [Act.put, List.setIfInBounds_toArray, List.set_cons_zero, List.set_cons_succ]
  refine plan_run (v := ?_) rfl (fun _ => rfl) ?_ ?_
  rotate_left
  · intro ρ w' hT
    obtain ⟨hcT, hfT⟩ := bcell hT
    go_simp
    try with_reducible rfl
  simp only [Act.put, List.setIfInBounds_toArray, List.set_cons_zero, List.set_cons_succ]
  refine plan_run (v := ?_) rfl (fun _ => rfl) ?_ ?_
  rotate_left
  · intro ρ w' hT
    obtain ⟨hcT, hfT⟩ := bcell hT
    go_simp
    try with_reducible rfl
  simp only [Act.put, List.setIfInBounds_toArray, List.set_cons_zero, List.set_cons_succ]
  refine plan_run (v := ?_) rfl (fun _ => rfl) ?_ ?_
  rotate_left
  · intro ρ w' hT
    obtain ⟨hcT, hfT⟩ := bcell hT
    go_simp
    try with_reducible rfl
  simp only [Act.put, List.setIfInBounds_toArray, List.set_cons_zero, List.set_cons_succ]
  refine plan_run (v := ?_) rfl (fun _ => rfl) ?_ ?_
  rotate_left
  · intro ρ w' hT
    obtain ⟨hcT, hfT⟩ := bcell hT
    go_simp
    try with_reducible rfl
  simp only [Act.put, List.setIfInBounds_toArray, List.set_cons_zero, List.set_cons_succ]
  refine plan_run (v := ?_) rfl (fun _ => rfl) ?_ ?_
  rotate_left
  · intro ρ w' hT
    obtain ⟨hcT, hfT⟩ := bcell hT
    go_simp
    try with_reducible rfl
  simp only [Act.put, List.setIfInBounds_toArray, List.set_cons_zero, List.set_cons_succ]
  refine plan_run (v := ?_) rfl (fun _ => rfl) ?_ ?_
  rotate_left
  · intro ρ w' hT
    obtain ⟨hcT, hfT⟩ := bcell hT
    go_simp
    try with_reducible rfl
  simp only [Act.put, List.setIfInBounds_toArray, List.set_cons_zero, List.set_cons_succ]
  refine plan_run (v := ?_) rfl (fun _ => rfl) ?_ ?_
  rotate_left
  · intro ρ w' hT
    obtain ⟨hcT, hfT⟩ := bcell hT
    go_simp
    try with_reducible rfl
  simp only [Act.put, List.setIfInBounds_toArray, List.set_cons_zero, List.set_cons_succ]
  refine plan_const (v := .string (S F)) rfl (fun _ => rfl) ?_ ?_
  · intro ρ w' hT hF
    have hcv := conv_string ((BytesAt.lasts _).at hT Hat.out)
    clear hT
    go_simp
    exact Below.refl _ _
  simp only [Act.put, List.setIfInBounds_toArray, List.set_cons_zero, List.set_cons_succ]
  refine plan_run (v := ?_) rfl (fun _ => rfl) ?_ ?_
  rotate_left
  · intro ρ w' hT
    obtain ⟨hcT, hfT⟩ := bcell hT
    go_simp
    try with_reducible rfl
  simp only [Act.put, List.setIfInBounds_toArray, List.set_cons_zero, List.set_cons_succ]
  refine plan_fact rfl (BytesAt.lasts _) (fun _ => rfl) ?_ ?_
  · intro ρ w' hT hF
    go_simp
    refine (HP.out w').mono ?_
    rintro e w'' ⟨v, rfl, hv, hb⟩
    exact ⟨v, rfl, of_own hv, hb⟩
  simp only [Act.put, List.setIfInBounds_toArray, List.set_cons_zero, List.set_cons_succ]
  refine plan_const (v := .string (S F)) rfl (fun _ => rfl) ?_ ?_
  · intro ρ w' hT hF
    obtain ⟨f16, _⟩ := hF
    have hcv := conv_string f16
    clear f16 hT
    go_simp
    exact Below.refl _ _
  simp only [Act.put, List.setIfInBounds_toArray, List.set_cons_zero, List.set_cons_succ]
  refine plan_run (v := ?_) rfl (fun _ => rfl) ?_ ?_
  rotate_left
  · intro ρ w' hT
    obtain ⟨hcT, hfT⟩ := bcell hT
    go_simp
    try with_reducible rfl
  simp only [Act.put, List.setIfInBounds_toArray, List.set_cons_zero, List.set_cons_succ]
  intro ρ w3 hT hF
  simp only [List.drop_succ_cons, List.drop_zero]
  have hr3 := hr2.below hT
  have hk3 : Keep [R] w w3 := hk2.trans (Keep.of_below hT)
  have c0'' := hr3.c0
  have c1'' := hr3.c1
  have cf'' := hr3.fr
  have z3_0 := cell_on hT hw2 z2_0
  have z3_1 := cell_on hT hw2 z2_1
  have z3_2 := cell_on hT hw2 z2_2
  have y3_0 := cell_on hT hw12 y0_0
  have y3_1 := cell_on hT hw12 y0_1
  have y3_2 := cell_on hT hw12 y0_2
  have zf : ∀ i, w3.frozen? ⟨w.heap.size, i, none⟩ = false := fun i => (hT.frozen (p := ⟨w.heap.size, i, none⟩) hw2).trans (box_frozen z2 i)
  have d1 : R ≠ w.heap.size := by omega
  have d2 : w1.heap.size ≠ w.heap.size := by omega
  have d3 : R ≠ w1.heap.size := by omega
  have HR := Lib.hid hr3
  have HK := Lib.hid hk3
  clear hT hr3 hk3 hk2 hr2 c0' c1' z2 y0 
  clear z2_0 y0_0 z2_1 y0_1 z2_2 y0_2
  go_wp2
  refine bodyPost_ret (v := .tuple #[vN (qV l p) (qL l p) (qNV l p), .int .i64 0]) ?_ rfl ⟨rfl, ?_, ?_⟩
  · simp [results, Tryz.results32, go_sem, z3_0, z3_1, z3_2, y3_0, y3_1, y3_2, zf, d1, d2, d3, Ne.symm d1, Ne.symm d2]
    try rfl
  · exact (Rd.new h (Rd.new h (Rd.new h (em.out ▸ HR.out) (by simp) _) (by simp) _) (by simp) _)
  · exact (((HK.out.setCell (.inr (by simp)) _).setCell (.inr (by simp)) _).setCell (.inr (by simp)) _)
set_option maxRecDepth 20000 in
set_option maxHeartbeats 2000000 in
theorem qtakeS_no (R : Nat) (A : Option Addr) (c : Nat) (l : List UInt8) (p : Nat) (w : World) (h : Rd w R TQ A c l p) (hO : okS (qV l p) (qV l (nP l p)) (qL l (nP l p)) (qNV l (nP l p)) (qSI l p) = false) :
    Calls Tryz.prog 34 #[.pointer (some ⟨R, 0, none⟩)] w fun e w' => e = .returned (.tuple #[zS, .int .i64 4]) ∧ Rd w' R TQ A c l (p) ∧ Keep [R] w w' := by
  have c1 := h.c1
  have hR := h.lt
  have hle := h.le
  have hsh := h.short
  have hLs := qL_size l (nP l p) h.short
  have HB := Lib.hid (fun w' : World => (rstamp_any (qV l p) (qV l (nP l p)) (qL l (nP l p)) (qNV l (nP l p)) (qSI l p) w' hLs))
  rw [hO] at HB
  clear hO
  go_enter Tryz.func34, Tryz.ntmps34
  go_wp2_with fail
  refine (qsmall_any R A c l p _ (h.below (below_alloc _ _))).mono ?_
  rintro e w1 ⟨rfl, hr1, hk1⟩
  have hs1 : w.heap.size < w1.heap.size := by have := hk1.size; simp at this; omega
  have z0 : w1.heap[w.heap.size]? = some (.cells #[.int .i64 0, .int .i64 0, .string ⟨#[]⟩, .int .i64 0, .int .i64 0] 37 (0, 0)) := (hk1.block _ (by simp) (by simp; omega)).trans (heap_alloc_new w _)
  have hk1' : Keep [R] w w1 := (Keep.of_below (below_alloc w _)).trans hk1
  have hR1 := hr1.lt
  go_wp2_with fail
  have hb3 := below_alloc w1 (.cells #[.int .i64 (qV l p), .int .i64 0, .string ⟨#[]⟩, .int .i64 0, .int .i64 0] 37)
  have y3 : (w1.alloc (.cells #[.int .i64 (qV l p), .int .i64 0, .string ⟨#[]⟩, .int .i64 0, .int .i64 0] 37)).heap[w1.heap.size]? = some (.cells #[.int .i64 (qV l p), .int .i64 0, .string ⟨#[]⟩, .int .i64 0, .int .i64 0] 37 (0, 0)) := heap_alloc_new w1 _
  have hz3 : w1.heap.size < (w1.alloc (.cells #[.int .i64 (qV l p), .int .i64 0, .string ⟨#[]⟩, .int .i64 0, .int .i64 0] 37)).heap.size := by simp
  generalize w1.alloc (.cells #[.int .i64 (qV l p), .int .i64 0, .string ⟨#[]⟩, .int .i64 0, .int .i64 0] 37) = w3 at *
  have z3 := (hb3.block _ hs1).trans z0
  have hr3 := hr1.below hb3
  have hk3 : Keep [R] w w3 := hk1'.trans (Keep.of_below hb3)
  clear hr1 hk1 hk1' hb3 z0
  refine (qname_any R A c l (nP l p) _ hr3).mono ?_
  rintro e w4 ⟨rfl, hr4, hk4⟩
  have hs4 := hk4.size
  have z4 := (hk4.block _ (by omega) (by simp; omega)).trans z3
  have y4 := (hk4.block _ hz3 (by simp; omega)).trans y3
  have hk4' : Keep [R] w w4 := hk3.trans hk4
  have u0 : w4.cell? ⟨w1.heap.size, 0, none⟩ = some (.int .i64 (qV l p)) := box_cells y4 0
  have u1 : w4.cell? ⟨w1.heap.size, 1, none⟩ = some (.int .i64 0) := box_cells y4 1
  have u2 : w4.cell? ⟨w1.heap.size, 2, none⟩ = some (.string ⟨#[]⟩) := box_cells y4 2
  have u3 : w4.cell? ⟨w1.heap.size, 3, none⟩ = some (.int .i64 0) := box_cells y4 3
  have uf := box_frozen y4
  have Z4 := Lib.hid z4
  have Y4 := Lib.hid y4
  clear hr3 hk3 hk4 z3 y3 z4 y4
  go_wp2_with fail
  have y5 := box_set (box_set (box_set Y4.out 1 (.int .i64 (qV l (nP l p)))) 2 (.string (qL l (nP l p)))) 3 (.int .i64 (qNV l (nP l p)))
  have z5 : (((w4.setCell ⟨w1.heap.size, 1, none⟩ (.int .i64 (qV l (nP l p)))).setCell ⟨w1.heap.size, 2, none⟩ (.string (qL l (nP l p)))).setCell ⟨w1.heap.size, 3, none⟩ (.int .i64 (qNV l (nP l p)))).heap[w.heap.size]? = some (.cells #[.int .i64 0, .int .i64 0, .string ⟨#[]⟩, .int .i64 0, .int .i64 0] 37 (0, 0)) := by
    rw [Below.heap_setCell _ _ _ _ (by simp; omega), Below.heap_setCell _ _ _ _ (by simp; omega), Below.heap_setCell _ _ _ _ (by simp; omega)]
    exact Z4.out
  have hr5 : Rd (((w4.setCell ⟨w1.heap.size, 1, none⟩ (.int .i64 (qV l (nP l p)))).setCell ⟨w1.heap.size, 2, none⟩ (.string (qL l (nP l p)))).setCell ⟨w1.heap.size, 3, none⟩ (.int .i64 (qNV l (nP l p)))) R TQ A c l (qNP l (nP l p)) := Rd.new h (Rd.new h (Rd.new h hr4 (by simp; omega) _) (by simp; omega) _) (by simp; omega) _
  have hk5 : Keep [R] w (((w4.setCell ⟨w1.heap.size, 1, none⟩ (.int .i64 (qV l (nP l p)))).setCell ⟨w1.heap.size, 2, none⟩ (.string (qL l (nP l p)))).setCell ⟨w1.heap.size, 3, none⟩ (.int .i64 (qNV l (nP l p)))) := ((hk4'.setCell (.inr (by simp; omega)) _).setCell (.inr (by simp; omega)) _).setCell (.inr (by simp; omega)) _
  have hz5 : w1.heap.size < (((w4.setCell ⟨w1.heap.size, 1, none⟩ (.int .i64 (qV l (nP l p)))).setCell ⟨w1.heap.size, 2, none⟩ (.string (qL l (nP l p)))).setCell ⟨w1.heap.size, 3, none⟩ (.int .i64 (qNV l (nP l p)))).heap.size := by simp; omega
  clear u0 u1 u2 u3 uf hr4 hk4'
  generalize ((w4.setCell ⟨w1.heap.size, 1, none⟩ (.int .i64 (qV l (nP l p)))).setCell ⟨w1.heap.size, 2, none⟩ (.string (qL l (nP l p)))).setCell ⟨w1.heap.size, 3, none⟩ (.int .i64 (qNV l (nP l p))) = w5 at *
  refine (qsmall_any R A c l (qNP l (nP l p)) _ hr5).mono ?_
  rintro e w6 ⟨rfl, hr6, hk6⟩
  have hs6 := hk6.size
  have z6 := (hk6.block _ (by omega) (by simp; omega)).trans z5
  have y6 := (hk6.block _ hz5 (by simp; omega)).trans y5
  have hk6' : Keep [R] w w6 := hk5.trans hk6
  have u4 : w6.cell? ⟨w1.heap.size, 4, none⟩ = some (.int .i64 0) := box_cells y6 4
  have uf := box_frozen y6
  have Z6 := Lib.hid z6
  have Y6 := Lib.hid y6
  clear hr5 hk5 hk6 z5 y5 z6 y6 Z4 Y4
  go_wp2_with fail
  have y0 : (w6.setCell ⟨w1.heap.size, 4, none⟩ (.int .i64 (qSI l p))).heap[w1.heap.size]? = some (.cells #[.int .i64 (qV l p), .int .i64 (qV l (nP l p)), .string (qL l (nP l p)), .int .i64 (qNV l (nP l p)), .int .i64 (qSI l p)] 37 (0, 0)) := box_set Y6.out 4 (.int .i64 (qSI l p))
  have z2 : (w6.setCell ⟨w1.heap.size, 4, none⟩ (.int .i64 (qSI l p))).heap[w.heap.size]? = some (.cells #[.int .i64 0, .int .i64 0, .string ⟨#[]⟩, .int .i64 0, .int .i64 0] 37 (0, 0)) := (Below.heap_setCell _ _ _ _ (by simp; omega)).trans Z6.out
  have hr2 : Rd (w6.setCell ⟨w1.heap.size, 4, none⟩ (.int .i64 (qSI l p))) R TQ A c l (qSP l p) := Rd.new h hr6 (by simp; omega) _
  have hk2 : Keep [R] w (w6.setCell ⟨w1.heap.size, 4, none⟩ (.int .i64 (qSI l p))) := hk6'.setCell (.inr (by simp; omega)) _
  have hz2 : w1.heap.size < (w6.setCell ⟨w1.heap.size, 4, none⟩ (.int .i64 (qSI l p))).heap.size := by simp; omega
  rw [show qV l (qNP l (nP l p)) = qSI l p from rfl]
  clear u4 uf hr6 hk6' Z6 Y6
  generalize w6.setCell ⟨w1.heap.size, 4, none⟩ (.int .i64 (qSI l p)) = w2 at *
  have z2_0 : w2.cell? ⟨w.heap.size, 0, none⟩ = some (.int .i64 0) := box_cells z2 0
  have z2_1 : w2.cell? ⟨w.heap.size, 1, none⟩ = some (.int .i64 0) := box_cells z2 1
  have z2_2 : w2.cell? ⟨w.heap.size, 2, none⟩ = some (.string ⟨#[]⟩) := box_cells z2 2
  have z2_3 : w2.cell? ⟨w.heap.size, 3, none⟩ = some (.int .i64 0) := box_cells z2 3
  have z2_4 : w2.cell? ⟨w.heap.size, 4, none⟩ = some (.int .i64 0) := box_cells z2 4
  have y0_0 : w2.cell? ⟨w1.heap.size, 0, none⟩ = some (.int .i64 (qV l p)) := box_cells y0 0
  have y0_1 : w2.cell? ⟨w1.heap.size, 1, none⟩ = some (.int .i64 (qV l (nP l p))) := box_cells y0 1
  have y0_2 : w2.cell? ⟨w1.heap.size, 2, none⟩ = some (.string (qL l (nP l p))) := box_cells y0 2
  have y0_3 : w2.cell? ⟨w1.heap.size, 3, none⟩ = some (.int .i64 (qNV l (nP l p))) := box_cells y0 3
  have y0_4 : w2.cell? ⟨w1.heap.size, 4, none⟩ = some (.int .i64 (qSI l p)) := box_cells y0 4
  have hw2 : w.heap.size < w2.heap.size := by omega
  have hw12 : w1.heap.size < w2.heap.size := by omega
  have hRw := hr2.lt
  clear hz2
  have c0' := hr2.c0
  have c1' := hr2.c1
  clear c1
  refine wp_region_plan 19 [(none, []), (none, []), (none, []), (none, []), (none, []), (none, []), (none, []), (none, []), (none, []), (none, []), (none, []), (none, []), (none, []), (none, []), (none, []), (none, []), (none, []), (none, []), (none, [])] [] (by kernel_rfl) (by kernel_rfl) ?_
  simp only [List.take_succ_cons, List.take_zero]
  refine plan_run (v := ?_) rfl (fun _ => rfl) ?_ ?_
  rotate_left
  · intro ρ w' hT
    obtain ⟨hcT, hfT⟩ := bcell hT
    go_simp
    try with_reducible rfl
  simp only [Act.put, List.setIfInBounds_toArray, List.set_cons_zero, List.set_cons_succ]
  refine plan_const (v := .bool false) rfl (fun _ => rfl) ?_ ?_
  · intro ρ w' hT hF
    go_simp
    refine (HB.out w').mono ?_
    rintro e w'' ⟨rfl, hb⟩
    exact ⟨_, rfl, rfl, hb⟩
  simp only [Act.put, List.setIfInBounds_toArray, List.set_cons_zero, List.set_cons_succ]
  refine plan_run (v := ?_) rfl (fun _ => rfl) ?_ ?_
  rotate_left
  · intro ρ w' hT
    obtain ⟨hcT, hfT⟩ := bcell hT
    go_simp
    try with_reducible rfl
  simp only [Act.put, List.setIfInBounds_toArray, List.set_cons_zero, List.set_cons_succ]
  refine plan_run (v := ?_) rfl (fun _ => rfl) ?_ ?_
  rotate_left
  · intro ρ w' hT
    obtain ⟨hcT, hfT⟩ := bcell hT
    go_simp
    try with_reducible rfl
  simp only [Act.put, List.setIfInBounds_toArray, List.set_cons_zero, List.set_cons_succ]
  refine plan_skip rfl (fun _ => rfl) ?_
  simp only [Act.put, List.setIfInBounds_toArray, List.set_cons_zero, List.set_cons_succ]
  refine plan_skip rfl (fun _ => rfl) ?_
  simp only [Act.put, List.setIfInBounds_toArray, List.set_cons_zero, List.set_cons_succ]
  refine plan_skip rfl (fun _ => rfl) ?_
  simp only [Act.put, List.setIfInBounds_toArray, List.set_cons_zero, List.set_cons_succ]
  refine plan_skip rfl (fun _ => rfl) ?_
  simp only [Act.put, List.setIfInBounds_toArray, List.set_cons_zero, List.set_cons_succ]
  refine plan_skip rfl (fun _ => rfl) ?_
  simp only [Act.put, List.setIfInBounds_toArray, List.set_cons_zero, List.set_cons_succ]
  refine plan_skip rfl (fun _ => rfl) ?_
  simp only [Act.put, List.setIfInBounds_toArray, List.set_cons_zero, List.set_cons_succ]
  refine plan_skip rfl (fun _ => rfl) ?_
  simp only [Act.put, List.setIfInBounds_toArray, List.set_cons_zero, List.set_cons_succ]
  refine plan_skip rfl (fun _ => rfl) ?_
  simp only [Act.put, List.setIfInBounds_toArray, List.set_cons_zero, List.set_cons_succ]
  refine plan_skip rfl (fun _ => rfl) ?_
  simp only [Act.put, List.setIfInBounds_toArray, List.set_cons_zero, List.set_cons_succ]
  refine plan_skip rfl (fun _ => rfl) ?_
  simp only [Act.put, List.setIfInBounds_toArray, List.set_cons_zero, List.set_cons_succ]
  refine plan_skip rfl (fun _ => rfl) ?_
  simp only [Act.put, List.setIfInBounds_toArray, List.set_cons_zero, List.set_cons_succ]
  refine plan_skip rfl (fun _ => rfl) ?_
  simp only [Act.put, List.setIfInBounds_toArray, List.set_cons_zero, List.set_cons_succ]
  refine plan_skip rfl (fun _ => rfl) ?_
  simp only [Act.put, List.setIfInBounds_toArray, List.set_cons_zero, List.set_cons_succ]
  refine plan_skip rfl (fun _ => rfl) ?_
  simp only [Act.put, List.setIfInBounds_toArray, List.set_cons_zero, List.set_cons_succ]
  refine plan_skip rfl (fun _ => rfl) ?_
  simp only [Act.put, List.setIfInBounds_toArray, List.set_cons_zero, List.set_cons_succ]
  intro ρ w3 hT hF
  simp only [List.drop_succ_cons, List.drop_zero]
  have hr3 := hr2.below hT
  have hk3 : Keep [R] w w3 := hk2.trans (Keep.of_below hT)
  have c0'' := hr3.c0
  have c1'' := hr3.c1
  have cf'' := hr3.fr
  have z3_0 := cell_on hT hw2 z2_0
  have z3_1 := cell_on hT hw2 z2_1
  have z3_2 := cell_on hT hw2 z2_2
  have z3_3 := cell_on hT hw2 z2_3
  have z3_4 := cell_on hT hw2 z2_4
  have y3_0 := cell_on hT hw12 y0_0
  have y3_1 := cell_on hT hw12 y0_1
  have y3_2 := cell_on hT hw12 y0_2
  have y3_3 := cell_on hT hw12 y0_3
  have y3_4 := cell_on hT hw12 y0_4
  have zf : ∀ i, w3.frozen? ⟨w.heap.size, i, none⟩ = false := fun i => (hT.frozen (p := ⟨w.heap.size, i, none⟩) hw2).trans (box_frozen z2 i)
  have d1 : R ≠ w.heap.size := by omega
  have d2 : w1.heap.size ≠ w.heap.size := by omega
  have d3 : R ≠ w1.heap.size := by omega
  have HR := Lib.hid hr3
  have HK := Lib.hid hk3
  clear hT hr3 hk3 hk2 hr2 c0' c1' z2 y0 
  clear z2_0 y0_0 z2_1 y0_1 z2_2 y0_2 z2_3 y0_3 z2_4 y0_4
  go_wp2
  refine bodyPost_ret (v := .tuple #[zS, .int .i64 4]) ?_ rfl ⟨rfl, ?_, ?_⟩
  · simp [results, Tryz.results34, go_sem, z3_0, z3_1, z3_2, z3_3, z3_4, y3_0, y3_1, y3_2, y3_3, y3_4, zf, d1, d2, d3, Ne.symm d1, Ne.symm d2]
    try rfl
  · exact (Rd.new h (Rd.new h (Rd.new h (Rd.new h (Rd.new h (HR.out.move hle) (by simp) _) (by simp) _) (by simp) _) (by simp) _) (by simp) _)
  · exact ((((((HK.out.setCell (.inl (by simp)) _).setCell (.inr (by simp)) _).setCell (.inr (by simp)) _).setCell (.inr (by simp)) _).setCell (.inr (by simp)) _).setCell (.inr (by simp)) _)
set_option maxRecDepth 20000 in
set_option maxHeartbeats 2000000 in
theorem qtakeS_yes (R : Nat) (A : Option Addr) (c : Nat) (l : List UInt8) (p : Nat) (w : World) (h : Rd w R TQ A c l p) (hO : okS (qV l p) (qV l (nP l p)) (qL l (nP l p)) (qNV l (nP l p)) (qSI l p) = true) :
    Calls Tryz.prog 34 #[.pointer (some ⟨R, 0, none⟩)] w fun e w' => e = .returned (.tuple #[vS (qV l p) (qV l (nP l p)) (qL l (nP l p)) (qNV l (nP l p)) (qSI l p), .int .i64 0]) ∧ Rd w' R TQ A c l (qSP l p) ∧ Keep [R] w w' := by
  have c1 := h.c1
  have hR := h.lt
  have hle := h.le
  have hsh := h.short
  have hLs := qL_size l (nP l p) h.short
  have HB := Lib.hid (fun w' : World => (rstamp_any (qV l p) (qV l (nP l p)) (qL l (nP l p)) (qNV l (nP l p)) (qSI l p) w' hLs))
  rw [hO] at HB
  have hF := qS_form hle hO
  have hqp := qSP_le hle
  have hs := okS_iff.1 hO
  have hn := okN_iff.1 hs.2.2.1
  have hb := okB_iff.1 hn.1
  have r0 : 0 ≤ (qV l (nP l p)) := by omega
  have r1 : (qV l (nP l p)) < 18446744073709551616 := by omega
  have n0 : 0 ≤ (qNV l (nP l p)) := by omega
  have n1 : (qNV l (nP l p)) < 18446744073709551616 := by omega
  have g0 : 0 ≤ qV l p := by omega
  have g1 : qV l p < 18446744073709551616 := by omega
  have i0 : 0 ≤ qSI l p := by omega
  have i1 : qSI l p < 18446744073709551616 := by omega
  have HP := Lib.hid (fun w' : World => (qput_any (qV l p) (qV l (nP l p)) (qL l (nP l p)) (qNV l (nP l p)) (qSI l p) w' hLs r0 r1 n0 n1 g0 g1 i0 i1))
  obtain ⟨F, eF⟩ : ∃ F, Hid (F = fS (qV l p) (qV l (nP l p)) (qL l (nP l p)) (qNV l (nP l p)) (qSI l p)) := ⟨_, rfl⟩
  rw [← eF.out] at hF HP
  obtain ⟨m, em⟩ : ∃ m, Hid (m = qSP l p) := ⟨_, rfl⟩
  rw [← em.out] at hF hqp
  have hFl : F.length = m - p := by rw [← hF, List.length_take, List.length_drop]; omega
  have HFF := Lib.hid hF
  have HFL := Lib.hid hFl
  clear hF hFl hb hn hs
  clear r0 r1 n0 n1 g0 g1 i0 i1
  clear hO
  go_enter Tryz.func34, Tryz.ntmps34
  go_wp2_with fail
  refine (qsmall_any R A c l p _ (h.below (below_alloc _ _))).mono ?_
  rintro e w1 ⟨rfl, hr1, hk1⟩
  have hs1 : w.heap.size < w1.heap.size := by have := hk1.size; simp at this; omega
  have z0 : w1.heap[w.heap.size]? = some (.cells #[.int .i64 0, .int .i64 0, .string ⟨#[]⟩, .int .i64 0, .int .i64 0] 37 (0, 0)) := (hk1.block _ (by simp) (by simp; omega)).trans (heap_alloc_new w _)
  have hk1' : Keep [R] w w1 := (Keep.of_below (below_alloc w _)).trans hk1
  have hR1 := hr1.lt
  go_wp2_with fail
  have hb3 := below_alloc w1 (.cells #[.int .i64 (qV l p), .int .i64 0, .string ⟨#[]⟩, .int .i64 0, .int .i64 0] 37)
  have y3 : (w1.alloc (.cells #[.int .i64 (qV l p), .int .i64 0, .string ⟨#[]⟩, .int .i64 0, .int .i64 0] 37)).heap[w1.heap.size]? = some (.cells #[.int .i64 (qV l p), .int .i64 0, .string ⟨#[]⟩, .int .i64 0, .int .i64 0] 37 (0, 0)) := heap_alloc_new w1 _
  have hz3 : w1.heap.size < (w1.alloc (.cells #[.int .i64 (qV l p), .int .i64 0, .string ⟨#[]⟩, .int .i64 0, .int .i64 0] 37)).heap.size := by simp
  generalize w1.alloc (.cells #[.int .i64 (qV l p), .int .i64 0, .string ⟨#[]⟩, .int .i64 0, .int .i64 0] 37) = w3 at *
  have z3 := (hb3.block _ hs1).trans z0
  have hr3 := hr1.below hb3
  have hk3 : Keep [R] w w3 := hk1'.trans (Keep.of_below hb3)
  clear hr1 hk1 hk1' hb3 z0
  refine (qname_any R A c l (nP l p) _ hr3).mono ?_
  rintro e w4 ⟨rfl, hr4, hk4⟩
  have hs4 := hk4.size
  have z4 := (hk4.block _ (by omega) (by simp; omega)).trans z3
  have y4 := (hk4.block _ hz3 (by simp; omega)).trans y3
  have hk4' : Keep [R] w w4 := hk3.trans hk4
  have u0 : w4.cell? ⟨w1.heap.size, 0, none⟩ = some (.int .i64 (qV l p)) := box_cells y4 0
  have u1 : w4.cell? ⟨w1.heap.size, 1, none⟩ = some (.int .i64 0) := box_cells y4 1
  have u2 : w4.cell? ⟨w1.heap.size, 2, none⟩ = some (.string ⟨#[]⟩) := box_cells y4 2
  have u3 : w4.cell? ⟨w1.heap.size, 3, none⟩ = some (.int .i64 0) := box_cells y4 3
  have uf := box_frozen y4
  have Z4 := Lib.hid z4
  have Y4 := Lib.hid y4
  clear hr3 hk3 hk4 z3 y3 z4 y4
  go_wp2_with fail
  have y5 := box_set (box_set (box_set Y4.out 1 (.int .i64 (qV l (nP l p)))) 2 (.string (qL l (nP l p)))) 3 (.int .i64 (qNV l (nP l p)))
  have z5 : (((w4.setCell ⟨w1.heap.size, 1, none⟩ (.int .i64 (qV l (nP l p)))).setCell ⟨w1.heap.size, 2, none⟩ (.string (qL l (nP l p)))).setCell ⟨w1.heap.size, 3, none⟩ (.int .i64 (qNV l (nP l p)))).heap[w.heap.size]? = some (.cells #[.int .i64 0, .int .i64 0, .string ⟨#[]⟩, .int .i64 0, .int .i64 0] 37 (0, 0)) := by
    rw [Below.heap_setCell _ _ _ _ (by simp; omega), Below.heap_setCell _ _ _ _ (by simp; omega), Below.heap_setCell _ _ _ _ (by simp; omega)]
    exact Z4.out
  have hr5 : Rd (((w4.setCell ⟨w1.heap.size, 1, none⟩ (.int .i64 (qV l (nP l p)))).setCell ⟨w1.heap.size, 2, none⟩ (.string (qL l (nP l p)))).setCell ⟨w1.heap.size, 3, none⟩ (.int .i64 (qNV l (nP l p)))) R TQ A c l (qNP l (nP l p)) := Rd.new h (Rd.new h (Rd.new h hr4 (by simp; omega) _) (by simp; omega) _) (by simp; omega) _
  have hk5 : Keep [R] w (((w4.setCell ⟨w1.heap.size, 1, none⟩ (.int .i64 (qV l (nP l p)))).setCell ⟨w1.heap.size, 2, none⟩ (.string (qL l (nP l p)))).setCell ⟨w1.heap.size, 3, none⟩ (.int .i64 (qNV l (nP l p)))) := ((hk4'.setCell (.inr (by simp; omega)) _).setCell (.inr (by simp; omega)) _).setCell (.inr (by simp; omega)) _
  have hz5 : w1.heap.size < (((w4.setCell ⟨w1.heap.size, 1, none⟩ (.int .i64 (qV l (nP l p)))).setCell ⟨w1.heap.size, 2, none⟩ (.string (qL l (nP l p)))).setCell ⟨w1.heap.size, 3, none⟩ (.int .i64 (qNV l (nP l p)))).heap.size := by simp; omega
  clear u0 u1 u2 u3 uf hr4 hk4'
  generalize ((w4.setCell ⟨w1.heap.size, 1, none⟩ (.int .i64 (qV l (nP l p)))).setCell ⟨w1.heap.size, 2, none⟩ (.string (qL l (nP l p)))).setCell ⟨w1.heap.size, 3, none⟩ (.int .i64 (qNV l (nP l p))) = w5 at *
  refine (qsmall_any R A c l (qNP l (nP l p)) _ hr5).mono ?_
  rintro e w6 ⟨rfl, hr6, hk6⟩
  have hs6 := hk6.size
  have z6 := (hk6.block _ (by omega) (by simp; omega)).trans z5
  have y6 := (hk6.block _ hz5 (by simp; omega)).trans y5
  have hk6' : Keep [R] w w6 := hk5.trans hk6
  have u4 : w6.cell? ⟨w1.heap.size, 4, none⟩ = some (.int .i64 0) := box_cells y6 4
  have uf := box_frozen y6
  have Z6 := Lib.hid z6
  have Y6 := Lib.hid y6
  clear hr5 hk5 hk6 z5 y5 z6 y6 Z4 Y4
  go_wp2_with fail
  have y0 : (w6.setCell ⟨w1.heap.size, 4, none⟩ (.int .i64 (qSI l p))).heap[w1.heap.size]? = some (.cells #[.int .i64 (qV l p), .int .i64 (qV l (nP l p)), .string (qL l (nP l p)), .int .i64 (qNV l (nP l p)), .int .i64 (qSI l p)] 37 (0, 0)) := box_set Y6.out 4 (.int .i64 (qSI l p))
  have z2 : (w6.setCell ⟨w1.heap.size, 4, none⟩ (.int .i64 (qSI l p))).heap[w.heap.size]? = some (.cells #[.int .i64 0, .int .i64 0, .string ⟨#[]⟩, .int .i64 0, .int .i64 0] 37 (0, 0)) := (Below.heap_setCell _ _ _ _ (by simp; omega)).trans Z6.out
  have hr2 : Rd (w6.setCell ⟨w1.heap.size, 4, none⟩ (.int .i64 (qSI l p))) R TQ A c l (qSP l p) := Rd.new h hr6 (by simp; omega) _
  have hk2 : Keep [R] w (w6.setCell ⟨w1.heap.size, 4, none⟩ (.int .i64 (qSI l p))) := hk6'.setCell (.inr (by simp; omega)) _
  have hz2 : w1.heap.size < (w6.setCell ⟨w1.heap.size, 4, none⟩ (.int .i64 (qSI l p))).heap.size := by simp; omega
  rw [show qV l (qNP l (nP l p)) = qSI l p from rfl]
  clear u4 uf hr6 hk6' Z6 Y6
  generalize w6.setCell ⟨w1.heap.size, 4, none⟩ (.int .i64 (qSI l p)) = w2 at *
  have z2_0 : w2.cell? ⟨w.heap.size, 0, none⟩ = some (.int .i64 0) := box_cells z2 0
  have z2_1 : w2.cell? ⟨w.heap.size, 1, none⟩ = some (.int .i64 0) := box_cells z2 1
  have z2_2 : w2.cell? ⟨w.heap.size, 2, none⟩ = some (.string ⟨#[]⟩) := box_cells z2 2
  have z2_3 : w2.cell? ⟨w.heap.size, 3, none⟩ = some (.int .i64 0) := box_cells z2 3
  have z2_4 : w2.cell? ⟨w.heap.size, 4, none⟩ = some (.int .i64 0) := box_cells z2 4
  have y0_0 : w2.cell? ⟨w1.heap.size, 0, none⟩ = some (.int .i64 (qV l p)) := box_cells y0 0
  have y0_1 : w2.cell? ⟨w1.heap.size, 1, none⟩ = some (.int .i64 (qV l (nP l p))) := box_cells y0 1
  have y0_2 : w2.cell? ⟨w1.heap.size, 2, none⟩ = some (.string (qL l (nP l p))) := box_cells y0 2
  have y0_3 : w2.cell? ⟨w1.heap.size, 3, none⟩ = some (.int .i64 (qNV l (nP l p))) := box_cells y0 3
  have y0_4 : w2.cell? ⟨w1.heap.size, 4, none⟩ = some (.int .i64 (qSI l p)) := box_cells y0 4
  have hw2 : w.heap.size < w2.heap.size := by omega
  have hw12 : w1.heap.size < w2.heap.size := by omega
  have hRw := hr2.lt
  clear hz2
  have c0' := hr2.c0
  have c1' := hr2.c1
  clear c1
  rw [← em.out] at hr2 c1'
  have hpc := hr2.piece (q := p) (v := m - p) (by omega)
  rw [HFF.out] at hpc
  have hsl : ∀ u : World, (Instr.slice 44 (.slice A l.length c) (some (.int .i64 p)) (some (.int .i64 m)) none).run Tryz.prog u = .ok (.slice (if c = p then A else A.map (·.add p)) (m - p) (c - p)) u := fun u => slice_bytes u A l.length c p m (by omega) (by have := hr2.cap; omega)
  generalize (if c = p then A else A.map (·.add p)) = A2 at hsl hpc
  generalize c - p = c2 at hsl
  have hat : BytesAt F (.slice A2 (m - p) c2) w2 := ⟨A2, c2, by rw [HFL.out], by rw [HFL.out]; exact hpc⟩
  generalize m - p = mp at hsl hat
  have Hat := Lib.hid hat
  clear hat hpc
  refine wp_region_plan 19 [(none, []), (none, []), (none, []), (none, []), (none, []), (none, []), (none, []), (none, []), (none, []), (none, []), (none, []), (none, []), (none, []), (none, []), (none, []), (none, []), (some (BytesAt F), []), (none, [16]), (none, [])] [] (by kernel_rfl) (by kernel_rfl) ?_
  simp only [List.take_succ_cons, List.take_zero]
  refine plan_run (v := ?_) rfl (fun _ => rfl) ?_ ?_
  rotate_left
  · intro ρ w' hT
    obtain ⟨hcT, hfT⟩ := bcell hT
    go_simp
    try with_reducible rfl
  simp only [Act.put, List.setIfInBounds_toArray, List.set_cons_zero, List.set_cons_succ]
  refine plan_const (v := .bool true) rfl (fun _ => rfl) ?_ ?_
  · intro ρ w' hT hF
    go_simp
    refine (HB.out w').mono ?_
    rintro e w'' ⟨rfl, hb⟩
    exact ⟨_, rfl, rfl, hb⟩
  simp only [Act.put, List.setIfInBounds_toArray, List.set_cons_zero, List.set_cons_succ]
  refine plan_run (v := ?_) rfl (fun _ => rfl) ?_ ?_
  rotate_left
  · intro ρ w' hT
    obtain ⟨hcT, hfT⟩ := bcell hT
    go_simp
    try with_reducible rfl
  simp only [Act.put, List.setIfInBounds_toArray, List.set_cons_zero, List.set_cons_succ]
  refine plan_run (v := ?_) rfl (fun _ => rfl) ?_ ?_
  rotate_left
  · intro ρ w' hT
    obtain ⟨hcT, hfT⟩ := bcell hT
    go_simp
    try with_reducible rfl
  simp only [Act.put, List.setIfInBounds_toArray, List.set_cons_zero, List.set_cons_succ]
  refine plan_run (v := ?_) rfl (fun _ => rfl) ?_ ?_
  rotate_left
  · intro ρ w' hT
    obtain ⟨hcT, hfT⟩ := bcell hT
    go_simp
    try with_reducible rfl
  simp only [Act.put, List.setIfInBounds_toArray, List.set_cons_zero, List.set_cons_succ]
  refine plan_run (v := ?_) rfl (fun _ => rfl) ?_ ?_
  rotate_left
  · intro ρ w' hT
    obtain ⟨hcT, hfT⟩ := bcell hT
    go_simp
    try with_reducible rfl
  simp only [Act.put, List.setIfInBounds_toArray, List.set_cons_zero, List.set_cons_succ]
  refine plan_run (v := ?_) rfl (fun _ => rfl) ?_ ?_
  rotate_left
  · intro ρ w' hT
    obtain ⟨hcT, hfT⟩ := bcell hT
    go_simp
    try with_reducible rfl
  simp only [Act.put, List.setIfInBounds_toArray, List.set_cons_zero, List.set_cons_succ]
  refine plan_run (v := ?_) rfl (fun _ => rfl) ?_ ?_
  rotate_left
  · intro ρ w' hT
    obtain ⟨hcT, hfT⟩ := bcell hT
    go_simp
    try with_reducible rfl
  simp only [Act.put, List.setIfInBounds_toArray, List.set_cons_zero, List.set_cons_succ]
  refine plan_run (v := ?_) rfl (fun _ => rfl) ?_ ?_
  rotate_left
  · intro ρ w' hT
    obtain ⟨hcT, hfT⟩ := bcell hT
    go_simp
    try with_reducible rfl
  simp only [Act.put, List.setIfInBounds_toArray, List.set_cons_zero, List.set_cons_succ]
  refine plan_run (v := ?_) rfl (fun _ => rfl) ?_ ?_
  rotate_left
  · intro ρ w' hT
    obtain ⟨hcT, hfT⟩ := bcell hT
    go_simp
    try with_reducible rfl
  simp only [Act.put, List.setIfInBounds_toArray, List.set_cons_zero, List.set_cons_succ]
  refine plan_run (v := ?_) rfl (fun _ => rfl) ?_ ?_
  rotate_left
  · intro ρ w' hT
    obtain ⟨hcT, hfT⟩ := bcell hT
    go_simp
    try with_reducible rfl
  simp only [Act.put, List.setIfInBounds_toArray, List.set_cons_zero, List.set_cons_succ]
  refine plan_run (v := ?_) rfl (fun _ => rfl) ?_ ?_
  rotate_left
  · intro ρ w' hT
    obtain ⟨hcT, hfT⟩ := bcell hT
    go_simp
    try with_reducible rfl
  simp only [Act.put, List.setIfInBounds_toArray, List.set_cons_zero, List.set_cons_succ]
  refine plan_run (v := ?_) rfl (fun _ => rfl) ?_ ?_
  rotate_left
  · intro ρ w' hT
    obtain ⟨hcT, hfT⟩ := bcell hT
    go_simp
    try with_reducible rfl
  simp only [Act.put, List.setIfInBounds_toArray, List.set_cons_zero, List.set_cons_succ]
  refine plan_run (v := ?_) rfl (fun _ => rfl) ?_ ?_
  rotate_left
  · intro ρ w' hT
    obtain ⟨hcT, hfT⟩ := bcell hT
    go_simp
    try with_reducible rfl
  simp only [Act.put, List.setIfInBounds_toArray, List.set_cons_zero, List.set_cons_succ]
  refine plan_const (v := .string (S F)) rfl (fun _ => rfl) ?_ ?_
  · intro ρ w' hT hF
    have hcv := conv_string ((BytesAt.lasts _).at hT Hat.out)
    clear hT
    go_simp
    exact Below.refl _ _
  simp only [Act.put, List.setIfInBounds_toArray, List.set_cons_zero, List.set_cons_succ]
  refine plan_run (v := ?_) rfl (fun _ => rfl) ?_ ?_
  rotate_left
  · intro ρ w' hT
    obtain ⟨hcT, hfT⟩ := bcell hT
    go_simp
    try with_reducible rfl
  simp only [Act.put, List.setIfInBounds_toArray, List.set_cons_zero, List.set_cons_succ]
  refine plan_fact rfl (BytesAt.lasts _) (fun _ => rfl) ?_ ?_
  · intro ρ w' hT hF
    go_simp
    refine (HP.out w').mono ?_
    rintro e w'' ⟨v, rfl, hv, hb⟩
    exact ⟨v, rfl, of_own hv, hb⟩
  simp only [Act.put, List.setIfInBounds_toArray, List.set_cons_zero, List.set_cons_succ]
  refine plan_const (v := .string (S F)) rfl (fun _ => rfl) ?_ ?_
  · intro ρ w' hT hF
    obtain ⟨f16, _⟩ := hF
    have hcv := conv_string f16
    clear f16 hT
    go_simp
    exact Below.refl _ _
  simp only [Act.put, List.setIfInBounds_toArray, List.set_cons_zero, List.set_cons_succ]
  refine plan_run (v := ?_) rfl (fun _ => rfl) ?_ ?_
  rotate_left
  · intro ρ w' hT
    obtain ⟨hcT, hfT⟩ := bcell hT
    go_simp
    try with_reducible rfl
  simp only [Act.put, List.setIfInBounds_toArray, List.set_cons_zero, List.set_cons_succ]
  intro ρ w3 hT hF
  simp only [List.drop_succ_cons, List.drop_zero]
  have hr3 := hr2.below hT
  have hk3 : Keep [R] w w3 := hk2.trans (Keep.of_below hT)
  have c0'' := hr3.c0
  have c1'' := hr3.c1
  have cf'' := hr3.fr
  have z3_0 := cell_on hT hw2 z2_0
  have z3_1 := cell_on hT hw2 z2_1
  have z3_2 := cell_on hT hw2 z2_2
  have z3_3 := cell_on hT hw2 z2_3
  have z3_4 := cell_on hT hw2 z2_4
  have y3_0 := cell_on hT hw12 y0_0
  have y3_1 := cell_on hT hw12 y0_1
  have y3_2 := cell_on hT hw12 y0_2
  have y3_3 := cell_on hT hw12 y0_3
  have y3_4 := cell_on hT hw12 y0_4
  have zf : ∀ i, w3.frozen? ⟨w.heap.size, i, none⟩ = false := fun i => (hT.frozen (p := ⟨w.heap.size, i, none⟩) hw2).trans (box_frozen z2 i)
  have d1 : R ≠ w.heap.size := by omega
  have d2 : w1.heap.size ≠ w.heap.size := by omega
  have d3 : R ≠ w1.heap.size := by omega
  have HR := Lib.hid hr3
  have HK := Lib.hid hk3
  clear hT hr3 hk3 hk2 hr2 c0' c1' z2 y0 
  clear z2_0 y0_0 z2_1 y0_1 z2_2 y0_2 z2_3 y0_3 z2_4 y0_4
  go_wp2
  refine bodyPost_ret (v := .tuple #[vS (qV l p) (qV l (nP l p)) (qL l (nP l p)) (qNV l (nP l p)) (qSI l p), .int .i64 0]) ?_ rfl ⟨rfl, ?_, ?_⟩
  · simp [results, Tryz.results34, go_sem, z3_0, z3_1, z3_2, z3_3, z3_4, y3_0, y3_1, y3_2, y3_3, y3_4, zf, d1, d2, d3, Ne.symm d1, Ne.symm d2]
    try rfl
  · exact (Rd.new h (Rd.new h (Rd.new h (Rd.new h (Rd.new h (em.out ▸ HR.out) (by simp) _) (by simp) _) (by simp) _) (by simp) _) (by simp) _)
  · exact (((((HK.out.setCell (.inr (by simp)) _).setCell (.inr (by simp)) _).setCell (.inr (by simp)) _).setCell (.inr (by simp)) _).setCell (.inr (by simp)) _)
end Go.Proofs.YtnldgcgngolkiaaGreatDoor
