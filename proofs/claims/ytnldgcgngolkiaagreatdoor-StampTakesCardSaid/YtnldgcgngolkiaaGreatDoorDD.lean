/- wire's Flag; stamp's reading: the walks. -/
import Derived.Test.YtnldgcgngolkiaaGreatDoorCC
namespace Go.Proofs.YtnldgcgngolkiaaGreatDoor
open Go.RowKit
set_option linter.unusedVariables false
set_option linter.unusedSimpArgs false
set_option linter.unnecessarySimpa false
attribute [local go_sem] givesUpon

theorem left_below (R : Nat) (ad : Addr) (c : Nat) (l : List UInt8) (p : Nat) (w : World) (h : Rd w R TR (some ad) c l p) :
    Calls Tryz.prog 26 #[.pointer (some ⟨R, 0, none⟩)] w fun e w' => e = .returned (.int .i64 ((l.length : Int) - p)) ∧ Below w.heap.size w w' :=
  (left_any R ad c l p w h).mono fun _ _ ⟨he, n, hn⟩ => ⟨he, hn ▸ below_drewN w n⟩
def FlagEnd (R : Nat) (A : Option Addr) (c : Nat) (l : List UInt8) (w : World) (e : Ending) (w' : World) : Prop := ∃ b n q, e = .returned (.tuple #[.bool b, .int .i64 n]) ∧ Rd w' R TR A c l q ∧ Keep [R] w w'
set_option maxRecDepth 20000 in set_option maxHeartbeats 1000000 in
theorem flag_end (R : Nat) (ad : Addr) (c : Nat) (l : List UInt8) (p : Nat) (w : World) (h : Rd w R TR (some ad) c l p) (hp : ¬ p < l.length) :
    Calls Tryz.prog 27 #[.pointer (some ⟨R, 0, none⟩)] w (FlagEnd R (some ad) c l w) := by
  have hz : (((l.length : Int) - p) == 0) = true := by rw [beq_iff_eq]; have := h.le; omega
  go_enter Tryz.func27, Tryz.ntmps27
  go_wp2_with (go_at_call 119; refine (there_any R ad c l p _ h).mono ?_; rintro e w' ⟨rfl, rfl⟩)
  refine wp_region_plan 16 [(none, []), (none, []), (none, []), (none, []), (none, []), (none, []), (none, []), (none, []), (none, []), (none, []), (none, []), (none, []), (none, []), (none, []), (none, []), (none, [])] [] (by kernel_rfl) (by kernel_rfl) ?_
  simp only [List.take_succ_cons, List.take_zero]
  refine plan_run (v := ?_) rfl (fun _ => rfl) ?_ ?_
  rotate_left
  · intro ρ w' hT
    obtain ⟨hcT, hfT⟩ := bcell hT
    go_simp
    try with_reducible rfl
  simp only [Act.put, List.setIfInBounds_toArray, List.set_cons_zero, List.set_cons_succ]
  refine plan_const (v := .int .i64 ((l.length : Int) - p)) rfl (fun _ => rfl) ?_ ?_
  · intro ρ w' hT hF
    go_simp
    refine (left_below R ad c l p w' (h.below hT)).mono ?_
    rintro e w'' ⟨rfl, hb⟩
    exact ⟨_, rfl, rfl, hb⟩
  simp only [Act.put, List.setIfInBounds_toArray, List.set_cons_zero, List.set_cons_succ]
  refine plan_run (v := ?_) rfl (fun _ => rfl) ?_ ?_
  rotate_left
  · intro ρ w' hT
    obtain ⟨hcT, hfT⟩ := bcell hT
    go_simp
    try with_reducible rfl
  simp only [Act.put, List.setIfInBounds_toArray, List.set_cons_zero, List.set_cons_succ]
  refine plan_run (v := ?_) rfl (fun _ => rfl) ?_ ?_
  rotate_left
  · intro ρ w' hT
    obtain ⟨hcT, hfT⟩ := bcell hT
    go_simp
    try with_reducible rfl
  simp only [Act.put, List.setIfInBounds_toArray, List.set_cons_zero, List.set_cons_succ]
  refine plan_skip rfl (fun _ => rfl) ?_
  simp only [Act.put, List.setIfInBounds_toArray, List.set_cons_zero, List.set_cons_succ]
  refine plan_skip rfl (fun _ => rfl) ?_
  simp only [Act.put, List.setIfInBounds_toArray, List.set_cons_zero, List.set_cons_succ]
  refine plan_skip rfl (fun _ => rfl) ?_
  simp only [Act.put, List.setIfInBounds_toArray, List.set_cons_zero, List.set_cons_succ]
  refine plan_skip rfl (fun _ => rfl) ?_
  simp only [Act.put, List.setIfInBounds_toArray, List.set_cons_zero, List.set_cons_succ]
  refine plan_skip rfl (fun _ => rfl) ?_
  simp only [Act.put, List.setIfInBounds_toArray, List.set_cons_zero, List.set_cons_succ]
  refine plan_skip rfl (fun _ => rfl) ?_
  simp only [Act.put, List.setIfInBounds_toArray, List.set_cons_zero, List.set_cons_succ]
  refine plan_skip rfl (fun _ => rfl) ?_
  simp only [Act.put, List.setIfInBounds_toArray, List.set_cons_zero, List.set_cons_succ]
  refine plan_skip rfl (fun _ => rfl) ?_
  simp only [Act.put, List.setIfInBounds_toArray, List.set_cons_zero, List.set_cons_succ]
  refine plan_skip rfl (fun _ => rfl) ?_
  simp only [Act.put, List.setIfInBounds_toArray, List.set_cons_zero, List.set_cons_succ]
  refine plan_skip rfl (fun _ => rfl) ?_
  simp only [Act.put, List.setIfInBounds_toArray, List.set_cons_zero, List.set_cons_succ]
  refine plan_skip rfl (fun _ => rfl) ?_
  simp only [Act.put, List.setIfInBounds_toArray, List.set_cons_zero, List.set_cons_succ]
  refine plan_run (v := ?_) rfl (fun _ => rfl) ?_ ?_
  rotate_left
  · intro ρ w' hT
    obtain ⟨hcT, hfT⟩ := bcell hT
    go_simp
    try with_reducible rfl
  simp only [Act.put, List.setIfInBounds_toArray, List.set_cons_zero, List.set_cons_succ]
  intro ρ w1 hT hF
  simp only [List.drop_succ_cons, List.drop_zero]
  go_wp2
  go_ret2
  exact ⟨_, _, _, rfl, h.below hT, Keep.of_below hT⟩
set_option maxRecDepth 20000 in set_option maxHeartbeats 1000000 in
theorem flag_big (R : Nat) (ad : Addr) (c : Nat) (l : List UInt8) (p : Nat) (w : World) (h : Rd w R TR (some ad) c l p) (hp : p < l.length) (hx : (1 : Int) < (l.getD p 0).toNat) :
    Calls Tryz.prog 27 #[.pointer (some ⟨R, 0, none⟩)] w (FlagEnd R (some ad) c l w) := by
  have hz : (((l.length : Int) - p) == 0) = false := by rw [beq_eq_false_iff_ne]; have := h.le; omega
  obtain ⟨G, o, e, hG, hGs, hcell⟩ := h.bts (by omega)
  obtain rfl := Option.some.inj e
  have hcq := hcell p hp
  generalize l.getD p 0 = x at hcq hx
  have c0 := h.c0
  have c1 := h.c1
  have hRl := h.lt
  have hsh := h.short
  clear e hcell
  go_enter Tryz.func27, Tryz.ntmps27
  go_wp2_with (go_at_call 119; refine (there_any R ⟨G, o, none⟩ c l p _ h).mono ?_; rintro e w' ⟨rfl, rfl⟩)
  refine wp_region_plan 16 [(none, []), (none, []), (none, []), (none, []), (none, []), (none, []), (none, []), (none, []), (none, []), (none, []), (none, []), (none, []), (none, []), (none, []), (none, []), (none, [])] [] (by kernel_rfl) (by kernel_rfl) ?_
  simp only [List.take_succ_cons, List.take_zero]
  refine plan_run (v := ?_) rfl (fun _ => rfl) ?_ ?_
  rotate_left
  · intro ρ w' hT
    obtain ⟨hcT, hfT⟩ := bcell hT
    go_simp
    try with_reducible rfl
  simp only [Act.put, List.setIfInBounds_toArray, List.set_cons_zero, List.set_cons_succ]
  refine plan_const (v := .int .i64 ((l.length : Int) - p)) rfl (fun _ => rfl) ?_ ?_
  · intro ρ w' hT hF
    go_simp
    refine (left_below R ⟨G, o, none⟩ c l p w' (h.below hT)).mono ?_
    rintro e w'' ⟨rfl, hb⟩
    exact ⟨_, rfl, rfl, hb⟩
  simp only [Act.put, List.setIfInBounds_toArray, List.set_cons_zero, List.set_cons_succ]
  refine plan_run (v := ?_) rfl (fun _ => rfl) ?_ ?_
  rotate_left
  · intro ρ w' hT
    obtain ⟨hcT, hfT⟩ := bcell hT
    go_simp
    try with_reducible rfl
  simp only [Act.put, List.setIfInBounds_toArray, List.set_cons_zero, List.set_cons_succ]
  refine plan_run (v := ?_) rfl (fun _ => rfl) ?_ ?_
  rotate_left
  · intro ρ w' hT
    obtain ⟨hcT, hfT⟩ := bcell hT
    go_simp
    try with_reducible rfl
  simp only [Act.put, List.setIfInBounds_toArray, List.set_cons_zero, List.set_cons_succ]
  refine plan_run (v := ?_) rfl (fun _ => rfl) ?_ ?_
  rotate_left
  · intro ρ w' hT
    obtain ⟨hcT, hfT⟩ := bcell hT
    go_simp
    try with_reducible rfl
  simp only [Act.put, List.setIfInBounds_toArray, List.set_cons_zero, List.set_cons_succ]
  refine plan_run (v := ?_) rfl (fun _ => rfl) ?_ ?_
  rotate_left
  · intro ρ w' hT
    obtain ⟨hcT, hfT⟩ := bcell hT
    go_simp
    try with_reducible rfl
  simp only [Act.put, List.setIfInBounds_toArray, List.set_cons_zero, List.set_cons_succ]
  refine plan_run (v := ?_) rfl (fun _ => rfl) ?_ ?_
  rotate_left
  · intro ρ w' hT
    obtain ⟨hcT, hfT⟩ := bcell hT
    go_simp
    try with_reducible rfl
  simp only [Act.put, List.setIfInBounds_toArray, List.set_cons_zero, List.set_cons_succ]
  refine plan_run (v := ?_) rfl (fun _ => rfl) ?_ ?_
  rotate_left
  · intro ρ w' hT
    obtain ⟨hcT, hfT⟩ := bcell hT
    go_simp
    try with_reducible rfl
  simp only [Act.put, List.setIfInBounds_toArray, List.set_cons_zero, List.set_cons_succ]
  refine plan_run (v := ?_) rfl (fun _ => rfl) ?_ ?_
  rotate_left
  · intro ρ w' hT
    obtain ⟨hcT, hfT⟩ := bcell hT
    go_simp
    try with_reducible rfl
  simp only [Act.put, List.setIfInBounds_toArray, List.set_cons_zero, List.set_cons_succ]
  refine plan_run (v := ?_) rfl (fun _ => rfl) ?_ ?_
  rotate_left
  · intro ρ w' hT
    obtain ⟨hcT, hfT⟩ := bcell hT
    go_simp
    try with_reducible rfl
  simp only [Act.put, List.setIfInBounds_toArray, List.set_cons_zero, List.set_cons_succ]
  refine plan_run (v := ?_) rfl (fun _ => rfl) ?_ ?_
  rotate_left
  · intro ρ w' hT
    obtain ⟨hcT, hfT⟩ := bcell hT
    go_simp
    try with_reducible rfl
  simp only [Act.put, List.setIfInBounds_toArray, List.set_cons_zero, List.set_cons_succ]
  refine plan_run (v := ?_) rfl (fun _ => rfl) ?_ ?_
  rotate_left
  · intro ρ w' hT
    obtain ⟨hcT, hfT⟩ := bcell hT
    go_simp
    try with_reducible rfl
  simp only [Act.put, List.setIfInBounds_toArray, List.set_cons_zero, List.set_cons_succ]
  refine plan_run (v := ?_) rfl (fun _ => rfl) ?_ ?_
  rotate_left
  · intro ρ w' hT
    obtain ⟨hcT, hfT⟩ := bcell hT
    go_simp
    try with_reducible rfl
  simp only [Act.put, List.setIfInBounds_toArray, List.set_cons_zero, List.set_cons_succ]
  refine plan_run (v := ?_) rfl (fun _ => rfl) ?_ ?_
  rotate_left
  · intro ρ w' hT
    obtain ⟨hcT, hfT⟩ := bcell hT
    go_simp
    try with_reducible rfl
  simp only [Act.put, List.setIfInBounds_toArray, List.set_cons_zero, List.set_cons_succ]
  refine plan_run (v := ?_) rfl (fun _ => rfl) ?_ ?_
  rotate_left
  · intro ρ w' hT
    obtain ⟨hcT, hfT⟩ := bcell hT
    go_simp
    try with_reducible rfl
  simp only [Act.put, List.setIfInBounds_toArray, List.set_cons_zero, List.set_cons_succ]
  refine plan_run (v := ?_) rfl (fun _ => rfl) ?_ ?_
  rotate_left
  · intro ρ w' hT
    obtain ⟨hcT, hfT⟩ := bcell hT
    go_simp
    try with_reducible rfl
  simp only [Act.put, List.setIfInBounds_toArray, List.set_cons_zero, List.set_cons_succ]
  intro ρ w1 hT hF
  simp only [List.drop_succ_cons, List.drop_zero]
  have h1 := h.below hT
  have c0 := h1.c0
  have c1 := h1.c1
  have cf := h1.fr
  have hcq : w1.cell? ⟨G, o + p, none⟩ = some (.int .u8 x.toNat) := cell_on hT hGs hcq
  have hk1 : Keep [R] w w1 := Keep.of_below hT
  clear hT
  go_wp2
  go_ret2
  exact ⟨_, _, _, rfl, h1, hk1⟩
set_option maxRecDepth 20000 in set_option maxHeartbeats 1000000 in
theorem flag_one (R : Nat) (ad : Addr) (c : Nat) (l : List UInt8) (p : Nat) (w : World) (h : Rd w R TR (some ad) c l p) (hp : p < l.length) (hx : ¬ (1 : Int) < (l.getD p 0).toNat) :
    Calls Tryz.prog 27 #[.pointer (some ⟨R, 0, none⟩)] w (FlagEnd R (some ad) c l w) := by
  have hz : (((l.length : Int) - p) == 0) = false := by rw [beq_eq_false_iff_ne]; have := h.le; omega
  obtain ⟨G, o, e, hG, hGs, hcell⟩ := h.bts (by omega)
  obtain rfl := Option.some.inj e
  have hcq := hcell p hp
  generalize l.getD p 0 = x at hcq hx
  have c0 := h.c0
  have c1 := h.c1
  have hRl := h.lt
  have hsh := h.short
  clear e hcell
  go_enter Tryz.func27, Tryz.ntmps27
  go_wp2_with (go_at_call 119; refine (there_any R ⟨G, o, none⟩ c l p _ h).mono ?_; rintro e w' ⟨rfl, rfl⟩)
  refine wp_region_plan 16 [(none, []), (none, []), (none, []), (none, []), (none, []), (none, []), (none, []), (none, []), (none, []), (none, []), (none, []), (none, []), (none, []), (none, []), (none, []), (none, [])] [] (by kernel_rfl) (by kernel_rfl) ?_
  simp only [List.take_succ_cons, List.take_zero]
  refine plan_run (v := ?_) rfl (fun _ => rfl) ?_ ?_
  rotate_left
  · intro ρ w' hT
    obtain ⟨hcT, hfT⟩ := bcell hT
    go_simp
    try with_reducible rfl
  simp only [Act.put, List.setIfInBounds_toArray, List.set_cons_zero, List.set_cons_succ]
  refine plan_const (v := .int .i64 ((l.length : Int) - p)) rfl (fun _ => rfl) ?_ ?_
  · intro ρ w' hT hF
    go_simp
    refine (left_below R ⟨G, o, none⟩ c l p w' (h.below hT)).mono ?_
    rintro e w'' ⟨rfl, hb⟩
    exact ⟨_, rfl, rfl, hb⟩
  simp only [Act.put, List.setIfInBounds_toArray, List.set_cons_zero, List.set_cons_succ]
  refine plan_run (v := ?_) rfl (fun _ => rfl) ?_ ?_
  rotate_left
  · intro ρ w' hT
    obtain ⟨hcT, hfT⟩ := bcell hT
    go_simp
    try with_reducible rfl
  simp only [Act.put, List.setIfInBounds_toArray, List.set_cons_zero, List.set_cons_succ]
  refine plan_run (v := ?_) rfl (fun _ => rfl) ?_ ?_
  rotate_left
  · intro ρ w' hT
    obtain ⟨hcT, hfT⟩ := bcell hT
    go_simp
    try with_reducible rfl
  simp only [Act.put, List.setIfInBounds_toArray, List.set_cons_zero, List.set_cons_succ]
  refine plan_run (v := ?_) rfl (fun _ => rfl) ?_ ?_
  rotate_left
  · intro ρ w' hT
    obtain ⟨hcT, hfT⟩ := bcell hT
    go_simp
    try with_reducible rfl
  simp only [Act.put, List.setIfInBounds_toArray, List.set_cons_zero, List.set_cons_succ]
  refine plan_run (v := ?_) rfl (fun _ => rfl) ?_ ?_
  rotate_left
  · intro ρ w' hT
    obtain ⟨hcT, hfT⟩ := bcell hT
    go_simp
    try with_reducible rfl
  simp only [Act.put, List.setIfInBounds_toArray, List.set_cons_zero, List.set_cons_succ]
  refine plan_run (v := ?_) rfl (fun _ => rfl) ?_ ?_
  rotate_left
  · intro ρ w' hT
    obtain ⟨hcT, hfT⟩ := bcell hT
    go_simp
    try with_reducible rfl
  simp only [Act.put, List.setIfInBounds_toArray, List.set_cons_zero, List.set_cons_succ]
  refine plan_run (v := ?_) rfl (fun _ => rfl) ?_ ?_
  rotate_left
  · intro ρ w' hT
    obtain ⟨hcT, hfT⟩ := bcell hT
    go_simp
    try with_reducible rfl
  simp only [Act.put, List.setIfInBounds_toArray, List.set_cons_zero, List.set_cons_succ]
  refine plan_run (v := ?_) rfl (fun _ => rfl) ?_ ?_
  rotate_left
  · intro ρ w' hT
    obtain ⟨hcT, hfT⟩ := bcell hT
    go_simp
    try with_reducible rfl
  simp only [Act.put, List.setIfInBounds_toArray, List.set_cons_zero, List.set_cons_succ]
  refine plan_run (v := ?_) rfl (fun _ => rfl) ?_ ?_
  rotate_left
  · intro ρ w' hT
    obtain ⟨hcT, hfT⟩ := bcell hT
    go_simp
    try with_reducible rfl
  simp only [Act.put, List.setIfInBounds_toArray, List.set_cons_zero, List.set_cons_succ]
  refine plan_run (v := ?_) rfl (fun _ => rfl) ?_ ?_
  rotate_left
  · intro ρ w' hT
    obtain ⟨hcT, hfT⟩ := bcell hT
    go_simp
    try with_reducible rfl
  simp only [Act.put, List.setIfInBounds_toArray, List.set_cons_zero, List.set_cons_succ]
  refine plan_run (v := ?_) rfl (fun _ => rfl) ?_ ?_
  rotate_left
  · intro ρ w' hT
    obtain ⟨hcT, hfT⟩ := bcell hT
    go_simp
    try with_reducible rfl
  simp only [Act.put, List.setIfInBounds_toArray, List.set_cons_zero, List.set_cons_succ]
  refine plan_run (v := ?_) rfl (fun _ => rfl) ?_ ?_
  rotate_left
  · intro ρ w' hT
    obtain ⟨hcT, hfT⟩ := bcell hT
    go_simp
    try with_reducible rfl
  simp only [Act.put, List.setIfInBounds_toArray, List.set_cons_zero, List.set_cons_succ]
  refine plan_run (v := ?_) rfl (fun _ => rfl) ?_ ?_
  rotate_left
  · intro ρ w' hT
    obtain ⟨hcT, hfT⟩ := bcell hT
    go_simp
    try with_reducible rfl
  simp only [Act.put, List.setIfInBounds_toArray, List.set_cons_zero, List.set_cons_succ]
  refine plan_run (v := ?_) rfl (fun _ => rfl) ?_ ?_
  rotate_left
  · intro ρ w' hT
    obtain ⟨hcT, hfT⟩ := bcell hT
    go_simp
    try with_reducible rfl
  simp only [Act.put, List.setIfInBounds_toArray, List.set_cons_zero, List.set_cons_succ]
  refine plan_run (v := ?_) rfl (fun _ => rfl) ?_ ?_
  rotate_left
  · intro ρ w' hT
    obtain ⟨hcT, hfT⟩ := bcell hT
    go_simp
    try with_reducible rfl
  simp only [Act.put, List.setIfInBounds_toArray, List.set_cons_zero, List.set_cons_succ]
  intro ρ w1 hT hF
  simp only [List.drop_succ_cons, List.drop_zero]
  have h1 := h.below hT
  have c0 := h1.c0
  have c1 := h1.c1
  have cf := h1.fr
  have hcq : w1.cell? ⟨G, o + p, none⟩ = some (.int .u8 x.toNat) := cell_on hT hGs hcq
  have hk1 : Keep [R] w w1 := Keep.of_below hT
  clear hT
  go_wp2
  have hr2 : Rd (w1.setCell ⟨R, 1, none⟩ (.int .i64 ((p : Int) + 1))) R TR (some ⟨G, o, none⟩) c l (p + 1) := h1.move (q := p + 1) hp
  have hk2 : Keep [R] w (w1.setCell ⟨R, 1, none⟩ (.int .i64 ((p : Int) + 1))) := hk1.setCell (.inl (by simp)) _
  have d0 := hr2.c0
  have d1 := hr2.c1
  have hcq : (w1.setCell ⟨R, 1, none⟩ (.int .i64 ((p : Int) + 1))).cell? ⟨G, o + p, none⟩ = some (.int .u8 x.toNat) := (World.cell?_setCell_far _ _ _ _ (Ne.symm hG)).trans hcq
  generalize w1.setCell ⟨R, 1, none⟩ (.int .i64 ((p : Int) + 1)) = w2 at *
  go_quiet (fail)
  go_wp2
  go_ret2
  exact ⟨_, _, _, rfl, hr2.drewN _, hk2.drewN _⟩
theorem flag_any (R : Nat) (ad : Addr) (c : Nat) (l : List UInt8) (p : Nat) (w : World) (h : Rd w R TR (some ad) c l p) : Calls Tryz.prog 27 #[.pointer (some ⟨R, 0, none⟩)] w (FlagEnd R (some ad) c l w) := by
  by_cases hp : p < l.length
  · by_cases hx : (1 : Int) < (l.getD p 0).toNat
    · exact flag_big R ad c l p w h hp hx
    · exact flag_one R ad c l p w h hp hx
  · exact flag_end R ad c l p w h hp
end Go.Proofs.YtnldgcgngolkiaaGreatDoor
