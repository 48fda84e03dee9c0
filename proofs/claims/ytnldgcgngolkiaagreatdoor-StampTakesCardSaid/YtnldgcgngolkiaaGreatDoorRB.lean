/- The reference's reader: Bytes, small, branch, name: the walks. -/
import Derived.Test.YtnldgcgngolkiaaGreatDoorRA
namespace Go.Proofs.YtnldgcgngolkiaaGreatDoor
open Go.RowKit
set_option linter.unusedVariables false
set_option linter.unusedSimpArgs false
set_option linter.unnecessarySimpa false
attribute [local go_sem] givesUpon

set_option maxRecDepth 20000 in set_option maxHeartbeats 2000000 in
theorem qbyt_bad (R : Nat) (A : Option Addr) (c : Nat) (l : List UInt8) (p most : Nat) (w : World) (h : Rd w R TQ A c l p) (hm : most ≤ 1000000) (hE : yE most l p ≠ 0) :
    Calls Tryz.prog 220 #[.pointer (some ⟨R, 0, none⟩), .int .i64 most] w fun e w' => e = .returned (.tuple #[.slice none 0 0, .int .i64 (yE most l p)]) ∧ Rd w' R TQ A c l p ∧ Keep [R] w w' := by
  have c0 := h.c0
  have c1 := h.c1
  have hle := h.le
  have hsh := h.short
  have hnp := nP_le hle
  have H := Lib.hid (qnum_any R A c l p w h)
  have wm : IntKind.u64.wrap (most : Int) = most := IntWalk.u64_in _ (by omega)
  have wl : IntKind.u64.wrap ((l.length : Int) - nP l p) = (l.length : Int) - nP l p := IntWalk.u64_in _ (by omega)
  rcases yE_bad hE with ⟨h0, h1⟩ | ⟨h0, h1, h2⟩ | ⟨h0, h1, h2, h3⟩
  · have HE := Lib.hid h0
    have HY := Lib.hid h1
    clear h0 h1 hE
    go_enter Tryz.func220, Tryz.ntmps220
    go_wp2_with (go_at_call 174; refine H.out.mono ?_; rw [HE.out]; rintro e w1 ⟨rfl, hr1, hk1⟩; have d0 := hr1.c0; have d1 := hr1.c1; have df := hr1.fr)
    go_ret2
    exact ⟨by rw [HY.out]; rfl, hr1.move hle, hk1.setCell (.inl (by simp)) _⟩
  · have HE := Lib.hid h0
    have HY := Lib.hid h2
    clear h0 h2 hE
    go_enter Tryz.func220, Tryz.ntmps220
    go_wp2_with (go_at_call 174; refine H.out.mono ?_; rw [HE.out]; rintro e w1 ⟨rfl, hr1, hk1⟩; have d0 := hr1.c0; have d1 := hr1.c1; have df := hr1.fr)
    go_ret2
    exact ⟨by rw [HY.out]; rfl, hr1.move hle, hk1.setCell (.inl (by simp)) _⟩
  · have HE := Lib.hid h0
    have HY := Lib.hid h3
    have hgt : (l.length : Int) - nP l p < nV l p := by omega
    have h1' : decide (most < nV l p) = false := by rw [decide_eq_false_iff_not]; omega
    clear h0 h1 h2 h3 hE
    go_enter Tryz.func220, Tryz.ntmps220
    go_wp2_with (first | (go_at_call 174; refine H.out.mono ?_; rw [HE.out]; rintro e w1 ⟨rfl, hr1, hk1⟩; have d0 := hr1.c0; have d1 := hr1.c1; have df := hr1.fr) | (go_at_call 35; refine (qleft_any R A c l (nP l p) _ hr1).mono ?_; rintro e w' ⟨rfl, n, rfl⟩))
    go_ret2
    exact ⟨by rw [HY.out]; rfl, (hr1.drewN n).move hle, (hk1.drewN n).setCell (.inl (by simp)) _⟩
def BytEndQ (R : Nat) (A : Option Addr) (c : Nat) (l bs : List UInt8) (q : Nat) (w : World) (e : Ending) (w' : World) : Prop := BytEnd R TQ A c l bs q w e w'
set_option maxRecDepth 20000 in set_option maxHeartbeats 2000000 in
theorem qbyt_ok (R : Nat) (A : Option Addr) (c : Nat) (l : List UInt8) (p most : Nat) (w : World) (h : Rd w R TQ A c l p) (hm : most ≤ 1000000) (hE : yE most l p = 0) :
    Calls Tryz.prog 220 #[.pointer (some ⟨R, 0, none⟩), .int .i64 most] w (BytEnd R TQ A c l ((l.drop (nP l p)).take (nV l p)) (nP l p + nV l p) w) := by
  have c0 := h.c0
  have c1 := h.c1
  have hle := h.le
  have hsh := h.short
  have hnp := nP_le hle
  obtain ⟨h0, h1, h2⟩ := yE_ok hE
  have H := Lib.hid (qnum_any R A c l p w h)
  have HE := Lib.hid h0
  have wm : IntKind.u64.wrap (most : Int) = most := IntWalk.u64_in _ (by omega)
  have wl : IntKind.u64.wrap ((l.length : Int) - nP l p) = (l.length : Int) - nP l p := IntWalk.u64_in _ (by omega)
  have wv : IntKind.i64.wrap (nV l p : Int) = nV l p := IntWalk.i64_in _ (by omega)
  have hgt : ¬ (l.length : Int) - nP l p < nV l p := by omega
  have h1' : decide (most < nV l p) = false := by rw [decide_eq_false_iff_not]; omega
  have hq : nP l p + nV l p ≤ l.length := by omega
  generalize nP l p = q at *
  generalize nV l p = v at *
  clear h0 h1 h2 hE
  go_enter Tryz.func220, Tryz.ntmps220
  go_wp2_with (first | (go_at_call 174; refine H.out.mono ?_; rw [HE.out]; rintro e w1 ⟨rfl, hr1, hk1⟩; have d0 := hr1.c0; have d1 := hr1.c1; have df := hr1.fr) | (go_at_call 35; refine (qleft_any R A c l q _ hr1).mono ?_; rintro e w' ⟨rfl, n, rfl⟩))
  have hr2 : Rd ((w1.drewN n).setCell ⟨R, 1, none⟩ (.int .i64 ((q : Int) + v))) R TQ A c l (q + v) := by
    have := (hr1.drewN n).move (q := q + v) hq
    rwa [show ((q + v : Nat) : Int) = (q : Int) + v by omega] at this
  have hk2 : Keep [R] w ((w1.drewN n).setCell ⟨R, 1, none⟩ (.int .i64 ((q : Int) + v))) := (hk1.drewN n).setCell (.inl (by simp)) _
  generalize (w1.drewN n).setCell ⟨R, 1, none⟩ (.int .i64 ((q : Int) + v)) = w2 at *
  clear d0 d1 df hr1 hk1 c0 c1 H
  obtain ⟨m, hm'⟩ : ∃ m, Hid (m = q + v) := ⟨_, rfl⟩
  rw [← hm'.out] at hr2
  have e0 := hr2.c0
  have e1 := hr2.c1
  have hR := hr2.lt
  have hpc := Lib.hid (hr2.piece (q := q) (v := v) hq)
  have ws : IntKind.i64.wrap ((m : Int) - v) = q := by rw [hm'.out, show ((q + v : Nat) : Int) - v = q by omega]; exact IntWalk.i64_in _ (by omega)
  have hsl : ∀ u : World, (Instr.slice 44 (.slice A l.length c) (some (.int .i64 q)) (some (.int .i64 m)) none).run Tryz.prog u = .ok (.slice (if c = q then A else A.map (·.add q)) v (c - q)) u := fun u => by
    have := slice_bytes u A l.length c q m (by have := hm'.out; omega) (by have := hm'.out; have := hr2.cap; omega)
    rwa [show m - q = v by have := hm'.out; omega] at this
  generalize (if c = q then A else A.map (·.add q)) = A2 at hsl hpc
  generalize c - q = c2 at hsl
  have hle2 : (u8s ((l.drop q).take v)).length = v := by rw [u8s_len, List.length_take, List.length_drop]; omega
  have hl2 : ((l.drop q).take v).length = v := by rw [List.length_take, List.length_drop]; omega
  obtain ⟨i0, hi0, hz0, hz1, hz2⟩ := info_parts info5
  have HL2 := Lib.hid hl2
  clear hl2 hle2
  refine wp_region_plan 16 [(none, []), (none, []), (none, []), (none, []), (none, []), (none, []), (none, []), (none, []), (none, []), (none, []), (none, []), (none, []), (none, []), (none, []), (none, []), (none, [])] [] (by kernel_rfl) (by kernel_rfl) ?_
  simp only [List.take_succ_cons, List.take_zero]
  refine plan_run (v := ?_) rfl (fun _ => rfl) ?_ ?_
  rotate_left
  · intro ρ w' hT
    obtain ⟨hcT, hfT⟩ := bcell hT
    go_simp
    try with_reducible rfl
  simp only [Act.put, List.setIfInBounds_toArray, List.set_cons_zero, List.set_cons_succ]
  refine plan_run (v := ?_) rfl (fun _ => rfl) ?_ ?_
  rotate_left
  · intro ρ w' hT
    obtain ⟨hcT, hfT⟩ := bcell hT
    go_simp
    try with_reducible rfl
  simp only [Act.put, List.setIfInBounds_toArray, List.set_cons_zero, List.set_cons_succ]
  refine plan_run (v := ?_) rfl (fun _ => rfl) ?_ ?_
  rotate_left
  · intro ρ w' hT
    obtain ⟨hcT, hfT⟩ := bcell hT
    go_simp
    try with_reducible rfl
  simp only [Act.put, List.setIfInBounds_toArray, List.set_cons_zero, List.set_cons_succ]
  refine plan_run (v := ?_) rfl (fun _ => rfl) ?_ ?_
  rotate_left
  · intro ρ w' hT
    obtain ⟨hcT, hfT⟩ := bcell hT
    go_simp
    try with_reducible rfl
  simp only [Act.put, List.setIfInBounds_toArray, List.set_cons_zero, List.set_cons_succ]
  refine plan_run (v := ?_) rfl (fun _ => rfl) ?_ ?_
  rotate_left
  · intro ρ w' hT
    obtain ⟨hcT, hfT⟩ := bcell hT
    go_simp
    try with_reducible rfl
  simp only [Act.put, List.setIfInBounds_toArray, List.set_cons_zero, List.set_cons_succ]
  refine plan_run (v := ?_) rfl (fun _ => rfl) ?_ ?_
  rotate_left
  · intro ρ w' hT
    obtain ⟨hcT, hfT⟩ := bcell hT
    go_simp
    try with_reducible rfl
  simp only [Act.put, List.setIfInBounds_toArray, List.set_cons_zero, List.set_cons_succ]
  refine plan_run (v := ?_) rfl (fun _ => rfl) ?_ ?_
  rotate_left
  · intro ρ w' hT
    obtain ⟨hcT, hfT⟩ := bcell hT
    go_simp
    try with_reducible rfl
  simp only [Act.put, List.setIfInBounds_toArray, List.set_cons_zero, List.set_cons_succ]
  refine plan_run (v := ?_) rfl (fun _ => rfl) ?_ ?_
  rotate_left
  · intro ρ w' hT
    obtain ⟨hcT, hfT⟩ := bcell hT
    go_simp
    try with_reducible rfl
  simp only [Act.put, List.setIfInBounds_toArray, List.set_cons_zero, List.set_cons_succ]
  refine plan_run (v := ?_) rfl (fun _ => rfl) ?_ ?_
  rotate_left
  · intro ρ w' hT
    obtain ⟨hcT, hfT⟩ := bcell hT
    go_simp
    try with_reducible rfl
  simp only [Act.put, List.setIfInBounds_toArray, List.set_cons_zero, List.set_cons_succ]
  refine plan_run (v := ?_) rfl (fun _ => rfl) ?_ ?_
  rotate_left
  · intro ρ w' hT
    obtain ⟨hcT, hfT⟩ := bcell hT
    go_simp
    try with_reducible rfl
  simp only [Act.put, List.setIfInBounds_toArray, List.set_cons_zero, List.set_cons_succ]
  refine plan_run (v := ?_) rfl (fun _ => rfl) ?_ ?_
  rotate_left
  · intro ρ w' hT
    obtain ⟨hcT, hfT⟩ := bcell hT
    go_simp
    try with_reducible rfl
  simp only [Act.put, List.setIfInBounds_toArray, List.set_cons_zero, List.set_cons_succ]
  refine plan_run (v := ?_) rfl (fun _ => rfl) ?_ ?_
  rotate_left
  · intro ρ w' hT
    obtain ⟨hcT, hfT⟩ := bcell hT
    go_simp
    try with_reducible rfl
  simp only [Act.put, List.setIfInBounds_toArray, List.set_cons_zero, List.set_cons_succ]
  refine plan_run (v := ?_) rfl (fun _ => rfl) ?_ ?_
  rotate_left
  · intro ρ w' hT
    obtain ⟨hcT, hfT⟩ := bcell hT
    go_simp
    try with_reducible rfl
  simp only [Act.put, List.setIfInBounds_toArray, List.set_cons_zero, List.set_cons_succ]
  refine plan_run (v := ?_) rfl (fun _ => rfl) ?_ ?_
  rotate_left
  · intro ρ w' hT
    obtain ⟨hcT, hfT⟩ := bcell hT
    go_simp
    try with_reducible rfl
  simp only [Act.put, List.setIfInBounds_toArray, List.set_cons_zero, List.set_cons_succ]
  refine plan_run (v := ?_) rfl (fun _ => rfl) ?_ ?_
  rotate_left
  · intro ρ w' hT
    obtain ⟨hcT, hfT⟩ := bcell hT
    go_simp
    try with_reducible rfl
  simp only [Act.put, List.setIfInBounds_toArray, List.set_cons_zero, List.set_cons_succ]
  refine plan_run (v := ?_) rfl (fun _ => rfl) ?_ ?_
  rotate_left
  · intro ρ w' hT
    obtain ⟨hcT, hfT⟩ := bcell hT
    go_simp
    try with_reducible rfl
  simp only [Act.put, List.setIfInBounds_toArray, List.set_cons_zero, List.set_cons_succ]
  intro ρ w3 hT hF
  have F0 : w3.ownsRow w2.heap.size 5 1 (.slice none 0 0) 0 [] := World.ownsRow_nil _ _ _ _
  have Hpc := Lib.hid (hpc.out.below hT)
  simp only [List.drop_succ_cons, List.drop_zero]
  go_wp2_with (at_builtin; refine wpList_append_any _ rfl (.const (.slice none 0 0)) (.tmp 67) 44 rfl w2.heap.size 5 i0 (.int .u8 0) 1 1 Tryz.underlying44 hi0 hz0 hz1 hz2 rfl (by omega) _ _ _ rfl F0 w2.heap.size A2 v c2 (u8s ((l.drop q).take v)) rfl Hpc.out (u8s_one _) (by simp only [maxLen]; omega) (by omega) hT.size ?_; intro v4 w4 hown4 hg4 hat4)
  go_ret2
  have hb4 : Below w2.heap.size w2 w4 := hT.grown hg4 hT.size (fun k hk => (F0.lt k hk).1)
  refine ⟨_, rfl, ?_, hm'.out ▸ hr2.below hb4, hk2.trans (Keep.of_below hb4)⟩
  have hw2 := hk2.size
  have : w4.ownsRow w2.heap.size 5 1 v4 ((l.drop q).take v).length (u8s ((l.drop q).take v)) := by rw [HL2.out]; simpa using hown4
  exact own_base this hw2
def qV (l : List UInt8) (p : Nat) : Int := if nE l p = 0 ∧ nV l p ≤ 4611686018427387904 then nV l p else -1
set_option maxRecDepth 20000 in set_option maxHeartbeats 2000000 in
theorem qsmall_ok (R : Nat) (A : Option Addr) (c : Nat) (l : List UInt8) (p : Nat) (w : World) (h : Rd w R TQ A c l p) (hE : nE l p = 0) (hV : nV l p ≤ 4611686018427387904) :
    Calls Tryz.prog 134 #[.pointer (some ⟨R, 0, none⟩)] w fun e w' => e = .returned (.int .i64 (qV l p)) ∧ Rd w' R TQ A c l (nP l p) ∧ Keep [R] w w' := by
  have H := Lib.hid (qnum_any R A c l p w h)
  have HE := Lib.hid hE
  have hq : Hid (qV l p = nV l p) := if_pos ⟨hE, hV⟩; have wv : IntKind.i64.wrap (nV l p : Int) = nV l p := IntWalk.i64_in _ (by omega); have hV' : ¬ (4611686018427387904 : Int) < nV l p := by omega
  generalize nV l p = v at *
  clear hE
  go_enter Tryz.func134, Tryz.ntmps134
  go_wp2_with (go_at_call 174; refine H.out.mono ?_; rw [HE.out]; rintro e w1 ⟨rfl, hr1, hk1⟩)
  go_ret
  exact ⟨by rw [hq.out]; rfl, hr1, hk1⟩
set_option maxRecDepth 20000 in set_option maxHeartbeats 2000000 in
theorem qsmall_big (R : Nat) (A : Option Addr) (c : Nat) (l : List UInt8) (p : Nat) (w : World) (h : Rd w R TQ A c l p) (hE : nE l p = 0) (hV : 4611686018427387904 < nV l p) :
    Calls Tryz.prog 134 #[.pointer (some ⟨R, 0, none⟩)] w fun e w' => e = .returned (.int .i64 (qV l p)) ∧ Rd w' R TQ A c l (nP l p) ∧ Keep [R] w w' := by
  have H := Lib.hid (qnum_any R A c l p w h)
  have HE := Lib.hid hE
  have hq : Hid (qV l p = -1) := if_neg (fun hh => by omega); have hV' : (4611686018427387904 : Int) < nV l p := by omega
  generalize nV l p = v at *
  clear hE
  go_enter Tryz.func134, Tryz.ntmps134
  go_wp2_with (go_at_call 174; refine H.out.mono ?_; rw [HE.out]; rintro e w1 ⟨rfl, hr1, hk1⟩)
  go_ret
  exact ⟨by rw [hq.out]; rfl, hr1, hk1⟩
set_option maxRecDepth 20000 in set_option maxHeartbeats 2000000 in
theorem qsmall_no (R : Nat) (A : Option Addr) (c : Nat) (l : List UInt8) (p : Nat) (w : World) (h : Rd w R TQ A c l p) (hE : nE l p = 4) (hV : True) :
    Calls Tryz.prog 134 #[.pointer (some ⟨R, 0, none⟩)] w fun e w' => e = .returned (.int .i64 (qV l p)) ∧ Rd w' R TQ A c l (nP l p) ∧ Keep [R] w w' := by
  have H := Lib.hid (qnum_any R A c l p w h)
  have HE := Lib.hid hE
  have hq : Hid (qV l p = -1) := if_neg (fun hh => by omega)
  generalize nV l p = v at *
  clear hE
  go_enter Tryz.func134, Tryz.ntmps134
  go_wp2_with (go_at_call 174; refine H.out.mono ?_; rw [HE.out]; rintro e w1 ⟨rfl, hr1, hk1⟩)
  go_ret
  exact ⟨by rw [hq.out]; rfl, hr1, hk1⟩
theorem qsmall_any (R : Nat) (A : Option Addr) (c : Nat) (l : List UInt8) (p : Nat) (w : World) (h : Rd w R TQ A c l p) :
    Calls Tryz.prog 134 #[.pointer (some ⟨R, 0, none⟩)] w fun e w' => e = .returned (.int .i64 (qV l p)) ∧ Rd w' R TQ A c l (nP l p) ∧ Keep [R] w w' := by
  rcases nE_cases l p with h0 | ⟨h0, -, -⟩
  · by_cases hV : nV l p ≤ 4611686018427387904
    · exact qsmall_ok R A c l p w h h0 hV
    · exact qsmall_big R A c l p w h h0 (by omega)
  · exact qsmall_no R A c l p w h h0 trivial
def qL (l : List UInt8) (p : Nat) : ByteArray := S (yV 99 l (nP l p))
def qP (l : List UInt8) (p : Nat) : Nat := yP 99 l (nP l p)
def QBr (R : Nat) (A : Option Addr) (c : Nat) (l : List UInt8) (p : Nat) (w : World) (e : Ending) (w' : World) : Prop :=
  e = .returned (vB (qV l p) (qL l p)) ∧ Rd w' R TQ A c l (qP l p) ∧ Keep [R] w w'
set_option maxRecDepth 20000 in set_option maxHeartbeats 2000000 in
theorem qbr_ok (R : Nat) (A : Option Addr) (c : Nat) (l : List UInt8) (p : Nat) (w : World) (h : Rd w R TQ A c l p) (hE : yE 99 l (nP l p) = 0) :
    Calls Tryz.prog 123 #[.pointer (some ⟨R, 0, none⟩)] w (QBr R A c l p w) := by
  have hR := h.lt
  have HE := Lib.hid hE
  clear hE
  go_enter Tryz.func123, Tryz.ntmps123
  go_wp2_with fail
  refine (qsmall_any R A c l p _ (h.below (below_alloc _ _))).mono ?_
  rintro e w1 ⟨rfl, hr1, hk1⟩
  have hs1 : w.heap.size < w1.heap.size := by have := hk1.size; simp at this; omega
  have r0 : w1.heap[w.heap.size]? = some (.cells #[.int .i64 0, .string ⟨#[]⟩] 24 (0, 0)) := (hk1.block _ (by simp) (by simp; omega)).trans (heap_alloc_new w _)
  have hk1' : Keep [R] w w1 := (Keep.of_below (below_alloc w _)).trans hk1
  have hR1 := hr1.lt
  go_wp2_with fail
  refine (qbyt_ok R A c l (nP l p) 99 _ (hr1.below (below_alloc _ _)) (by omega) HE.out).mono ?_
  rintro e w2 ⟨v, rfl, hown, hr2, hk2⟩
  have hbs : Hid (yV 99 l (nP l p) = (l.drop (nP l (nP l p))).take (nV l (nP l p))) := if_pos HE.out
  have hps : Hid (qP l p = nP l (nP l p) + nV l (nP l p)) := if_pos HE.out
  rw [← hps.out] at hr2
  rw [← hbs.out] at hown
  have hcv := conv_string (of_own hown)
  have hs2 : w1.heap.size < w2.heap.size := by have := hk2.size; simp at this; omega
  have q0 : w2.heap[w.heap.size]? = some (.cells #[.int .i64 0, .string ⟨#[]⟩] 24 (0, 0)) := (hk2.block _ (by simp; omega) (by simp; omega)).trans (((below_alloc w1 _).block _ hs1).trans r0)
  have s0 : w2.heap[w1.heap.size]? = some (.cells #[.int .i64 (qV l p), .string ⟨#[]⟩] 24 (0, 0)) := (hk2.block _ (by simp) (by simp; omega)).trans (heap_alloc_new w1 _)
  have hk2' : Keep [R] w w2 := hk1'.trans ((Keep.of_below (below_alloc w1 _)).trans hk2)
  have v0 : w2.cell? ⟨w.heap.size, 0, none⟩ = some (.int .i64 0) := box_cells q0 0
  have v1 : w2.cell? ⟨w.heap.size, 1, none⟩ = some (.string ⟨#[]⟩) := box_cells q0 1
  have vf := box_frozen q0
  have u0 : w2.cell? ⟨w1.heap.size, 0, none⟩ = some (.int .i64 (qV l p)) := box_cells s0 0
  have u1 : w2.cell? ⟨w1.heap.size, 1, none⟩ = some (.string ⟨#[]⟩) := box_cells s0 1
  have uf := box_frozen s0
  have HM := Lib.hid hr2
  have HK := Lib.hid hk2'
  clear hr2 hk2' hk1 hk1' hk2 r0 q0 s0 hr1
  have d1 : w.heap.size ≠ w1.heap.size := by omega
  go_wp2
  refine bodyPost_ret (v := vB (qV l p) (qL l p)) ?_ rfl ⟨rfl, ?_, ?_⟩
  · simp [results, Tryz.results123, go_sem, v0, v1, vf, u0, u1, uf, d1, Ne.symm d1]
    first | rfl | rw [qL, hbs.out]
  · exact Rd.new h (Rd.new h (Rd.new h HM.out (by simp; omega) _) (by simp) _) (by simp) _
  · exact ((HK.out.setCell (.inr (by simp; omega)) _).setCell (.inr (by simp)) _).setCell (.inr (by simp)) _
set_option maxRecDepth 20000 in set_option maxHeartbeats 2000000 in
theorem qbr_bad (R : Nat) (A : Option Addr) (c : Nat) (l : List UInt8) (p : Nat) (w : World) (h : Rd w R TQ A c l p) (hE : yE 99 l (nP l p) ≠ 0) :
    Calls Tryz.prog 123 #[.pointer (some ⟨R, 0, none⟩)] w (QBr R A c l p w) := by
  have hR := h.lt
  have HE := Lib.hid hE
  clear hE
  go_enter Tryz.func123, Tryz.ntmps123
  go_wp2_with fail
  refine (qsmall_any R A c l p _ (h.below (below_alloc _ _))).mono ?_
  rintro e w1 ⟨rfl, hr1, hk1⟩
  have hs1 : w.heap.size < w1.heap.size := by have := hk1.size; simp at this; omega
  have r0 : w1.heap[w.heap.size]? = some (.cells #[.int .i64 0, .string ⟨#[]⟩] 24 (0, 0)) := (hk1.block _ (by simp) (by simp; omega)).trans (heap_alloc_new w _)
  have hk1' : Keep [R] w w1 := (Keep.of_below (below_alloc w _)).trans hk1
  have hR1 := hr1.lt
  go_wp2_with fail
  refine (qbyt_bad R A c l (nP l p) 99 _ (hr1.below (below_alloc _ _)) (by omega) HE.out).mono ?_
  rintro e w2 ⟨rfl, hr2, hk2⟩
  have hbs : Hid (yV 99 l (nP l p) = []) := if_neg HE.out
  have hps : Hid (qP l p = nP l p) := if_neg HE.out
  rw [← hps.out] at hr2
  have hcv := conv_string (l := []) (v := .slice none 0 0) (w := w2) ⟨none, 0, rfl, Reads.none_⟩
  have hs2 : w1.heap.size < w2.heap.size := by have := hk2.size; simp at this; omega
  have q0 : w2.heap[w.heap.size]? = some (.cells #[.int .i64 0, .string ⟨#[]⟩] 24 (0, 0)) := (hk2.block _ (by simp; omega) (by simp; omega)).trans (((below_alloc w1 _).block _ hs1).trans r0)
  have s0 : w2.heap[w1.heap.size]? = some (.cells #[.int .i64 (qV l p), .string ⟨#[]⟩] 24 (0, 0)) := (hk2.block _ (by simp) (by simp; omega)).trans (heap_alloc_new w1 _)
  have hk2' : Keep [R] w w2 := hk1'.trans ((Keep.of_below (below_alloc w1 _)).trans hk2)
  have v0 : w2.cell? ⟨w.heap.size, 0, none⟩ = some (.int .i64 0) := box_cells q0 0
  have v1 : w2.cell? ⟨w.heap.size, 1, none⟩ = some (.string ⟨#[]⟩) := box_cells q0 1
  have vf := box_frozen q0
  have u0 : w2.cell? ⟨w1.heap.size, 0, none⟩ = some (.int .i64 (qV l p)) := box_cells s0 0
  have u1 : w2.cell? ⟨w1.heap.size, 1, none⟩ = some (.string ⟨#[]⟩) := box_cells s0 1
  have uf := box_frozen s0
  have HM := Lib.hid hr2
  have HK := Lib.hid hk2'
  clear hr2 hk2' hk1 hk1' hk2 r0 q0 s0 hr1
  have d1 : w.heap.size ≠ w1.heap.size := by omega
  go_wp2
  refine bodyPost_ret (v := vB (qV l p) (qL l p)) ?_ rfl ⟨rfl, ?_, ?_⟩
  · simp [results, Tryz.results123, go_sem, v0, v1, vf, u0, u1, uf, d1, Ne.symm d1]
    first | rfl | rw [qL, hbs.out]
  · exact Rd.new h (Rd.new h (Rd.new h HM.out (by simp; omega) _) (by simp) _) (by simp) _
  · exact ((HK.out.setCell (.inr (by simp; omega)) _).setCell (.inr (by simp)) _).setCell (.inr (by simp)) _
theorem qbr_any (R : Nat) (A : Option Addr) (c : Nat) (l : List UInt8) (p : Nat) (w : World) (h : Rd w R TQ A c l p) : Calls Tryz.prog 123 #[.pointer (some ⟨R, 0, none⟩)] w (QBr R A c l p w) := by
  by_cases hE : yE 99 l (nP l p) = 0
  · exact qbr_ok R A c l p w h hE
  · exact qbr_bad R A c l p w h hE
def qNP (l : List UInt8) (p : Nat) : Nat := nP l (qP l p)
def qNV (l : List UInt8) (p : Nat) : Int := qV l (qP l p)
def QNa (R : Nat) (A : Option Addr) (c : Nat) (l : List UInt8) (p : Nat) (w : World) (e : Ending) (w' : World) : Prop :=
  e = .returned (vN (qV l p) (qL l p) (qNV l p)) ∧ Rd w' R TQ A c l (qNP l p) ∧ Keep [R] w w'
set_option maxRecDepth 20000 in set_option maxHeartbeats 2000000 in
theorem qname_any (R : Nat) (A : Option Addr) (c : Nat) (l : List UInt8) (p : Nat) (w : World) (h : Rd w R TQ A c l p) :
    Calls Tryz.prog 128 #[.pointer (some ⟨R, 0, none⟩)] w (QNa R A c l p w) := by
  have hR := h.lt
  go_enter Tryz.func128, Tryz.ntmps128
  go_wp2_with fail
  refine (qbr_any R A c l p _ (h.below (below_alloc _ _))).mono ?_
  rintro e w1 ⟨rfl, hr1, hk1⟩
  have hs1 : w.heap.size < w1.heap.size := by have := hk1.size; simp at this; omega
  have r0 : w1.heap[w.heap.size]? = some (.cells #[.int .i64 0, .string ⟨#[]⟩, .int .i64 0] 31 (0, 0)) := (hk1.block _ (by simp) (by simp; omega)).trans (heap_alloc_new w _)
  have hk1' : Keep [R] w w1 := (Keep.of_below (below_alloc w _)).trans hk1
  have hR1 := hr1.lt
  go_wp2_with fail
  refine (qsmall_any R A c l (qP l p) _ (hr1.below (below_alloc _ _))).mono ?_
  rintro e w2 ⟨rfl, hr2, hk2⟩
  have hs2 : w1.heap.size < w2.heap.size := by have := hk2.size; simp at this; omega
  have q0 : w2.heap[w.heap.size]? = some (.cells #[.int .i64 0, .string ⟨#[]⟩, .int .i64 0] 31 (0, 0)) := (hk2.block _ (by simp; omega) (by simp; omega)).trans (((below_alloc w1 _).block _ hs1).trans r0)
  have s0 : w2.heap[w1.heap.size]? = some (.cells #[.int .i64 (qV l p), .string (qL l p), .int .i64 0] 31 (0, 0)) := (hk2.block _ (by simp) (by simp; omega)).trans (heap_alloc_new w1 _)
  have hk2' : Keep [R] w w2 := hk1'.trans ((Keep.of_below (below_alloc w1 _)).trans hk2)
  have v0 : w2.cell? ⟨w.heap.size, 0, none⟩ = some (.int .i64 0) := box_cells q0 0
  have v1 : w2.cell? ⟨w.heap.size, 1, none⟩ = some (.string ⟨#[]⟩) := box_cells q0 1
  have v2 : w2.cell? ⟨w.heap.size, 2, none⟩ = some (.int .i64 0) := box_cells q0 2
  have vf := box_frozen q0
  have u0 : w2.cell? ⟨w1.heap.size, 0, none⟩ = some (.int .i64 (qV l p)) := box_cells s0 0
  have u1 : w2.cell? ⟨w1.heap.size, 1, none⟩ = some (.string (qL l p)) := box_cells s0 1
  have u2 : w2.cell? ⟨w1.heap.size, 2, none⟩ = some (.int .i64 0) := box_cells s0 2
  have uf := box_frozen s0
  have HM := Lib.hid hr2
  have HK := Lib.hid hk2'
  clear hr2 hk2' hk1 hk1' hk2 r0 q0 s0 hr1
  have d1 : w.heap.size ≠ w1.heap.size := by omega
  go_wp2
  refine bodyPost_ret (v := vN (qV l p) (qL l p) (qNV l p)) ?_ rfl ⟨rfl, ?_, ?_⟩
  · simp [results, Tryz.results128, go_sem, v0, v1, v2, vf, u0, u1, u2, uf, d1, Ne.symm d1]
    try rfl
  · exact Rd.new h (Rd.new h (Rd.new h (Rd.new h HM.out (by simp; omega) _) (by simp) _) (by simp) _) (by simp) _
  · exact (((HK.out.setCell (.inr (by simp; omega)) _).setCell (.inr (by simp)) _).setCell (.inr (by simp)) _).setCell (.inr (by simp)) _
end Go.Proofs.YtnldgcgngolkiaaGreatDoor
