/- wire's count, Bytes, Flag: the walks. -/
import Derived.Test.YtnldgcgngolkiaaGreatDoorBB
namespace Go.Proofs.YtnldgcgngolkiaaGreatDoor
open Go.RowKit
set_option linter.unusedVariables false
set_option linter.unusedSimpArgs false
set_option linter.unnecessarySimpa false
attribute [local go_sem] givesUpon


theorem nE_cases (l : List UInt8) (p : Nat) : nE l p = 0 ∨ (nE l p = 4 ∧ nV l p = 0 ∧ nP l p = p) := by
  unfold nE nV nP
  cases numAt l p with
  | none => exact .inr ⟨rfl, rfl, rfl⟩
  | some x => exact .inl rfl
def cE (most : Nat) (l : List UInt8) (p : Nat) : Int := if nE l p = 0 then (if nV l p ≤ most then 0 else 3) else 4
def cV (most : Nat) (l : List UInt8) (p : Nat) : Nat := if cE most l p = 0 then nV l p else 0
set_option maxRecDepth 20000 in set_option maxHeartbeats 1000000 in
theorem count_ok (R : Nat) (ad : Addr) (c : Nat) (l : List UInt8) (p most : Nat) (w : World) (h : Rd w R TR (some ad) c l p) (hm : most ≤ 1000000) (hE : nE l p = 0) (hV : nV l p ≤ most) :
    Calls Tryz.prog 239 #[.pointer (some ⟨R, 0, none⟩), .int .i64 most] w fun e w' => e = .returned (.tuple #[.int .i64 (nV l p), .int .i64 0]) ∧ Rd w' R TR (some ad) c l (nP l p) ∧ Keep [R] w w' := by
  have H := Lib.hid (rnum_any R ad c l p w h)
  have HE := Lib.hid hE
  have hm0 : ¬ ((most : Int) < 0) := by omega
  have wm : IntKind.u64.wrap (most : Int) = most := IntWalk.u64_in _ (by omega)
  have wv : nV l p ≤ most → IntKind.i64.wrap (nV l p : Int) = nV l p := fun hh => IntWalk.i64_in _ (by omega)
  replace wv := wv hV; have hV' : decide (most < nV l p) = false := by rw [decide_eq_false_iff_not]; omega
  generalize nV l p = v at *
  clear hE
  go_enter Tryz.func239, Tryz.ntmps239
  go_wp2_with (go_at_call 28; refine H.out.mono ?_; rw [HE.out]; rintro e w1 ⟨rfl, hr1, hk1⟩)
  go_ret2
  exact ⟨rfl, hr1, hk1⟩
set_option maxRecDepth 20000 in set_option maxHeartbeats 1000000 in
theorem count_long (R : Nat) (ad : Addr) (c : Nat) (l : List UInt8) (p most : Nat) (w : World) (h : Rd w R TR (some ad) c l p) (hm : most ≤ 1000000) (hE : nE l p = 0) (hV : most < nV l p) :
    Calls Tryz.prog 239 #[.pointer (some ⟨R, 0, none⟩), .int .i64 most] w fun e w' => e = .returned (.tuple #[.int .i64 0, .int .i64 3]) ∧ Rd w' R TR (some ad) c l (nP l p) ∧ Keep [R] w w' := by
  have H := Lib.hid (rnum_any R ad c l p w h)
  have HE := Lib.hid hE
  have hm0 : ¬ ((most : Int) < 0) := by omega
  have wm : IntKind.u64.wrap (most : Int) = most := IntWalk.u64_in _ (by omega)
  have wv : nV l p ≤ most → IntKind.i64.wrap (nV l p : Int) = nV l p := fun hh => IntWalk.i64_in _ (by omega)
  clear wv
  generalize nV l p = v at *
  clear hE
  go_enter Tryz.func239, Tryz.ntmps239
  go_wp2_with (go_at_call 28; refine H.out.mono ?_; rw [HE.out]; rintro e w1 ⟨rfl, hr1, hk1⟩)
  go_ret2
  exact ⟨rfl, hr1, hk1⟩
set_option maxRecDepth 20000 in set_option maxHeartbeats 1000000 in
theorem count_no (R : Nat) (ad : Addr) (c : Nat) (l : List UInt8) (p most : Nat) (w : World) (h : Rd w R TR (some ad) c l p) (hm : most ≤ 1000000) (hE : nE l p = 4) (hV : True) :
    Calls Tryz.prog 239 #[.pointer (some ⟨R, 0, none⟩), .int .i64 most] w fun e w' => e = .returned (.tuple #[.int .i64 0, .int .i64 4]) ∧ Rd w' R TR (some ad) c l (nP l p) ∧ Keep [R] w w' := by
  have H := Lib.hid (rnum_any R ad c l p w h)
  have HE := Lib.hid hE
  have hm0 : ¬ ((most : Int) < 0) := by omega
  have wm : IntKind.u64.wrap (most : Int) = most := IntWalk.u64_in _ (by omega)
  have wv : nV l p ≤ most → IntKind.i64.wrap (nV l p : Int) = nV l p := fun hh => IntWalk.i64_in _ (by omega)
  clear wv
  generalize nV l p = v at *
  clear hE
  go_enter Tryz.func239, Tryz.ntmps239
  go_wp2_with (go_at_call 28; refine H.out.mono ?_; rw [HE.out]; rintro e w1 ⟨rfl, hr1, hk1⟩)
  go_ret2
  exact ⟨rfl, hr1, hk1⟩

theorem yE_ok {most : Nat} {l : List UInt8} {p : Nat} (h : yE most l p = 0) : nE l p = 0 ∧ nV l p ≤ most ∧ nV l p ≤ l.length - nP l p := by
  unfold yE at h
  split at h
  · split at h
    · split at h
      · exact ⟨by assumption, by assumption, by assumption⟩
      · omega
    · omega
  · omega
theorem yE_bad {most : Nat} {l : List UInt8} {p : Nat} (h : yE most l p ≠ 0) : (nE l p = 4 ∧ yE most l p = 4) ∨ (nE l p = 0 ∧ most < nV l p ∧ yE most l p = 3) ∨ (nE l p = 0 ∧ nV l p ≤ most ∧ l.length - nP l p < nV l p ∧ yE most l p = 4) := by
  unfold yE at h ⊢
  rcases nE_cases l p with h0 | ⟨h0, h1, h2⟩
  · rw [if_pos h0] at h ⊢
    split at h
    · rename_i h3
      split at h
      · exact absurd rfl h
      · rename_i h4
        rw [if_pos h3, if_neg h4]
        exact .inr (.inr ⟨h0, h3, by omega, rfl⟩)
    · rename_i h3
      rw [if_neg h3]
      exact .inr (.inl ⟨h0, by omega, rfl⟩)
  · rw [if_neg (by omega)]
    exact .inl ⟨h0, rfl⟩
theorem slice_bytes (w : World) (A : Option Addr) (len cap lo hi : Nat) (h1 : lo ≤ hi) (h2 : hi ≤ cap) :
    (Instr.slice 44 (.slice A len cap) (some (.int .i64 lo)) (some (.int .i64 hi)) none).run Tryz.prog w = .ok (.slice (if cap = lo then A else A.map (·.add lo)) (hi - lo) (cap - lo)) w := by
  have hs : (sizeOf (Tryz.prog.elem 44)).run Tryz.prog w = .ok 1 w := by kernel_rfl
  rw [run_slice_lh w 44 A len cap (by kernel_rfl) .i64 .i64 lo hi (by omega) (by omega) (by omega), hs]
  simp [sliced, Result.andThen]
theorem Reads.firsts {w : World} {B n m : Nat} {A : Option Addr} {xs : List Value} (h : Reads w B 1 A n xs) (hm : m ≤ n) : Reads w B 1 A m (xs.take m) :=
  ⟨by rw [List.length_take, h.1]; omega, fun h0 => by
    obtain ⟨ad, e, hb, hc⟩ := h.2 (by omega)
    exact ⟨ad, e, hb, fun j u hu => hc j u (by rw [List.getElem?_take] at hu; split at hu <;> simp_all)⟩⟩
theorem Rd.reads {w : World} {R : Nat} {T : TypeId} {A : Option Addr} {c : Nat} {l : List UInt8} {p : Nat} (h : Rd w R T A c l p) : Reads w w.heap.size 1 A l.length (u8s l) :=
  ⟨by simp [u8s], fun h0 => by
    obtain ⟨G, o, e, h1, h2, h3⟩ := h.bts h0
    refine ⟨_, e, h2, fun j u hu => ?_⟩
    have hj : j < l.length := by have := (List.getElem?_eq_some_iff.1 hu).1; simpa [u8s] using this
    have hu' : u = .int .u8 (l.getD j 0).toNat := by
      simp only [u8s, List.getElem?_map, List.getElem?_eq_getElem hj, Option.map_some, Option.some.injEq] at hu
      rw [← hu, List.getD_eq_getElem?_getD, List.getElem?_eq_getElem hj]
      rfl
    rw [hu']
    have := h3 j hj
    simp only [Addr.add]
    split
    · rename_i hj0; subst hj0; simpa using this
    · exact this⟩
theorem Rd.piece {w : World} {R : Nat} {T : TypeId} {A : Option Addr} {c : Nat} {l : List UInt8} {p : Nat} (h : Rd w R T A c l p) {q v : Nat} (hq : q + v ≤ l.length) :
    Reads w w.heap.size 1 (if c = q then A else A.map (·.add q)) v (u8s ((l.drop q).take v)) := by
  have h1 := (h.reads.cut (k := q) (cap := c) (by omega) h.cap).firsts (m := v) (by omega)
  have e : (List.drop (q * 1) (u8s l)).take v = u8s ((l.drop q).take v) := by simp [u8s]
  rw [e] at h1
  simpa using h1
theorem own_base {w : World} {b b' n size : Nat} {e : TypeId} {v : Value} {xs : List Value} (h : w.ownsRow b e size v n xs) (hb : b' ≤ b) : w.ownsRow b' e size v n xs := by
  refine ⟨h.1, ?_⟩
  rcases h.2 with h0 | ⟨g, cap, cur, hv, hg, r⟩
  · exact .inl h0
  · exact .inr ⟨g, cap, cur, hv, by omega, r⟩
def BytEnd (R : Nat) (T : TypeId) (A : Option Addr) (c : Nat) (l bs : List UInt8) (q : Nat) (w : World) (e : Ending) (w' : World) : Prop := ∃ v, e = .returned (.tuple #[v, .int .i64 0]) ∧ w'.ownsRow w.heap.size 5 1 v bs.length (u8s bs) ∧ Rd w' R T A c l q ∧ Keep [R] w w'
set_option maxRecDepth 20000 in set_option maxHeartbeats 1000000 in
theorem rbyt_bad (R : Nat) (ad : Addr) (c : Nat) (l : List UInt8) (p most : Nat) (w : World) (h : Rd w R TR (some ad) c l p) (hm : most ≤ 1000000) (hE : yE most l p ≠ 0) :
    Calls Tryz.prog 218 #[.pointer (some ⟨R, 0, none⟩), .int .i64 most] w fun e w' => e = .returned (.tuple #[.slice none 0 0, .int .i64 (yE most l p)]) ∧ Rd w' R TR (some ad) c l p ∧ Keep [R] w w' := by
  have c0 := h.c0
  have c1 := h.c1
  have hle := h.le
  have hsh := h.short
  have hnp := nP_le hle
  rcases yE_bad hE with ⟨h0, h1⟩ | ⟨h0, h1, h2⟩ | ⟨h0, h1, h2, h3⟩
  · have H := Lib.hid (count_no R ad c l p most w h hm h0 trivial)
    have HY := Lib.hid h1
    clear h0 h1 hE
    go_enter Tryz.func218, Tryz.ntmps218
    go_wp2_with (first | (go_at_call 119; refine (there_any R ad c l p _ h).mono ?_; rintro e w' ⟨rfl, rfl⟩) | (go_at_call 239; refine H.out.mono ?_; rintro e w1 ⟨rfl, hr1, hk1⟩; have d0 := hr1.c0; have d1 := hr1.c1; have df := hr1.fr))
    go_ret2
    exact ⟨by rw [HY.out]; rfl, hr1.move hle, hk1.setCell (.inl (by simp)) _⟩
  · have H := Lib.hid (count_long R ad c l p most w h hm h0 h1)
    have HY := Lib.hid h2
    clear h0 h1 h2 hE
    go_enter Tryz.func218, Tryz.ntmps218
    go_wp2_with (first | (go_at_call 119; refine (there_any R ad c l p _ h).mono ?_; rintro e w' ⟨rfl, rfl⟩) | (go_at_call 239; refine H.out.mono ?_; rintro e w1 ⟨rfl, hr1, hk1⟩; have d0 := hr1.c0; have d1 := hr1.c1; have df := hr1.fr))
    go_ret2
    exact ⟨by rw [HY.out]; rfl, hr1.move hle, hk1.setCell (.inl (by simp)) _⟩
  · have H := Lib.hid (count_ok R ad c l p most w h hm h0 h1)
    have HY := Lib.hid h3
    have hgt : (l.length : Int) - nP l p < nV l p := by omega
    clear h0 h1 h2 h3 hE
    go_enter Tryz.func218, Tryz.ntmps218
    go_wp2_with (first | (go_at_call 119; refine (there_any R ad c l p _ h).mono ?_; rintro e w' ⟨rfl, rfl⟩) | (go_at_call 239; refine H.out.mono ?_; rintro e w1 ⟨rfl, hr1, hk1⟩; have d0 := hr1.c0; have d1 := hr1.c1; have df := hr1.fr) | (go_at_call 26; refine (left_any R ad c l (nP l p) _ hr1).mono ?_; rintro e w' ⟨rfl, n, rfl⟩))
    go_ret2
    exact ⟨by rw [HY.out]; rfl, (hr1.drewN n).move hle, (hk1.drewN n).setCell (.inl (by simp)) _⟩
set_option maxRecDepth 20000 in set_option maxHeartbeats 1000000 in
theorem rbyt_ok (R : Nat) (ad : Addr) (c : Nat) (l : List UInt8) (p most : Nat) (w : World) (h : Rd w R TR (some ad) c l p) (hm : most ≤ 1000000) (hE : yE most l p = 0) :
    Calls Tryz.prog 218 #[.pointer (some ⟨R, 0, none⟩), .int .i64 most] w (BytEnd R TR (some ad) c l ((l.drop (nP l p)).take (nV l p)) (nP l p + nV l p) w) := by
  have c0 := h.c0
  have c1 := h.c1
  have hle := h.le
  have hsh := h.short
  have hnp := nP_le hle
  obtain ⟨h0, h1, h2⟩ := yE_ok hE
  have H := Lib.hid (count_ok R ad c l p most w h hm h0 h1)
  have hgt : ¬ (l.length : Int) - nP l p < nV l p := by omega
  have hq : nP l p + nV l p ≤ l.length := by omega
  generalize nP l p = q at *
  generalize nV l p = v at *
  clear h0 h1 h2 hE
  go_enter Tryz.func218, Tryz.ntmps218
  go_wp2_with (first | (go_at_call 119; refine (there_any R ad c l p _ h).mono ?_; rintro e w' ⟨rfl, rfl⟩) | (go_at_call 239; refine H.out.mono ?_; rintro e w1 ⟨rfl, hr1, hk1⟩; have d0 := hr1.c0; have d1 := hr1.c1; have df := hr1.fr) | (go_at_call 26; refine (left_any R ad c l q _ hr1).mono ?_; rintro e w' ⟨rfl, n, rfl⟩))
  have hr2 : Rd ((w1.drewN n).setCell ⟨R, 1, none⟩ (.int .i64 ((q : Int) + v))) R TR (some ad) c l (q + v) := by
    have := (hr1.drewN n).move (q := q + v) hq
    rwa [show ((q + v : Nat) : Int) = (q : Int) + v by omega] at this
  have hk2 : Keep [R] w ((w1.drewN n).setCell ⟨R, 1, none⟩ (.int .i64 ((q : Int) + v))) := (hk1.drewN n).setCell (.inl (by simp)) _
  generalize (w1.drewN n).setCell ⟨R, 1, none⟩ (.int .i64 ((q : Int) + v)) = w2 at *
  clear d0 d1 df hr1 hk1 c0 c1 H
  obtain ⟨m, hm'⟩ : ∃ m, Hid (m = q + v) := ⟨_, rfl⟩
  rw [← hm'.out] at hr2
  have e0 := hr2.c0
  have e1 := hr2.c1
  have hR := hr2.lt
  have hpc := Lib.hid (hr2.piece (q := q) (v := v) hq)
  have ws : IntKind.i64.wrap ((m : Int) - v) = q := by rw [hm'.out, show ((q + v : Nat) : Int) - v = q by omega]; exact IntWalk.i64_in _ (by omega)
  have hsl : ∀ u : World, (Instr.slice 44 (.slice (some ad) l.length c) (some (.int .i64 q)) (some (.int .i64 m)) none).run Tryz.prog u = .ok (.slice (if c = q then some ad else (some ad).map (·.add q)) v (c - q)) u := fun u => by
    have := slice_bytes u (some ad) l.length c q m (by have := hm'.out; omega) (by have := hm'.out; have := hr2.cap; omega)
    rwa [show m - q = v by have := hm'.out; omega] at this
  generalize (if c = q then some ad else (some ad).map (·.add q)) = A2 at hsl hpc
  generalize c - q = c2 at hsl
  have hle2 : (u8s ((l.drop q).take v)).length = v := by rw [u8s_len, List.length_take, List.length_drop]; omega
  have hl2 : ((l.drop q).take v).length = v := by rw [List.length_take, List.length_drop]; omega
  obtain ⟨i0, hi0, hz0, hz1, hz2⟩ := info_parts info5
  have HL2 := Lib.hid hl2
  clear hl2 hle2
  refine wp_region_plan 16 [(some (fun v w => w.ownsRow w2.heap.size 5 1 v ([] : List UInt8).length (u8s [])), []), (none, []), (none, []), (none, []), (none, []), (none, []), (none, []), (none, []), (none, []), (none, []), (none, []), (none, []), (none, []), (none, []), (none, []), (none, [])] [0] (by kernel_rfl) (by kernel_rfl) ?_
  simp only [List.take_succ_cons, List.take_zero]
  refine plan_fact rfl Owns.lasts (fun _ => rfl) ?_ ?_
  · intro ρ w' hT hF
    have hz := hT.size
    go_simp
    exact ⟨by have := World.ownsRow_made (e := 5) (size := 1) (base := w2.heap.size) w' #[] 0 hz (by simp [maxLen]) rfl; simpa [u8s] using this, below_alloc _ _⟩
  simp only [Act.put, List.setIfInBounds_toArray, List.set_cons_zero, List.set_cons_succ]
  refine plan_run (v := ?_) rfl (fun _ => rfl) ?_ ?_
  rotate_left
  · intro ρ w' hT
    obtain ⟨hcT, hfT⟩ := bcell hT
    go_simp
    try with_reducible rfl
  simp only [Act.put, List.setIfInBounds_toArray, List.set_cons_zero, List.set_cons_succ]
  refine plan_run (v := ?_) rfl (fun _ => rfl) ?_ ?_
  rotate_left
  · intro ρ w' hT
    obtain ⟨hcT, hfT⟩ := bcell hT
    go_simp
    try with_reducible rfl
  simp only [Act.put, List.setIfInBounds_toArray, List.set_cons_zero, List.set_cons_succ]
  refine plan_run (v := ?_) rfl (fun _ => rfl) ?_ ?_
  rotate_left
  · intro ρ w' hT
    obtain ⟨hcT, hfT⟩ := bcell hT
    go_simp
    try with_reducible rfl
  simp only [Act.put, List.setIfInBounds_toArray, List.set_cons_zero, List.set_cons_succ]
  refine plan_run (v := ?_) rfl (fun _ => rfl) ?_ ?_
  rotate_left
  · intro ρ w' hT
    obtain ⟨hcT, hfT⟩ := bcell hT
    go_simp
    try with_reducible rfl
  simp only [Act.put, List.setIfInBounds_toArray, List.set_cons_zero, List.set_cons_succ]
  refine plan_run (v := ?_) rfl (fun _ => rfl) ?_ ?_
  rotate_left
  · intro ρ w' hT
    obtain ⟨hcT, hfT⟩ := bcell hT
    go_simp
    try with_reducible rfl
  simp only [Act.put, List.setIfInBounds_toArray, List.set_cons_zero, List.set_cons_succ]
  refine plan_run (v := ?_) rfl (fun _ => rfl) ?_ ?_
  rotate_left
  · intro ρ w' hT
    obtain ⟨hcT, hfT⟩ := bcell hT
    go_simp
    try with_reducible rfl
  simp only [Act.put, List.setIfInBounds_toArray, List.set_cons_zero, List.set_cons_succ]
  refine plan_run (v := ?_) rfl (fun _ => rfl) ?_ ?_
  rotate_left
  · intro ρ w' hT
    obtain ⟨hcT, hfT⟩ := bcell hT
    go_simp
    try with_reducible rfl
  simp only [Act.put, List.setIfInBounds_toArray, List.set_cons_zero, List.set_cons_succ]
  refine plan_run (v := ?_) rfl (fun _ => rfl) ?_ ?_
  rotate_left
  · intro ρ w' hT
    obtain ⟨hcT, hfT⟩ := bcell hT
    go_simp
    try with_reducible rfl
  simp only [Act.put, List.setIfInBounds_toArray, List.set_cons_zero, List.set_cons_succ]
  refine plan_run (v := ?_) rfl (fun _ => rfl) ?_ ?_
  rotate_left
  · intro ρ w' hT
    obtain ⟨hcT, hfT⟩ := bcell hT
    go_simp
    try with_reducible rfl
  simp only [Act.put, List.setIfInBounds_toArray, List.set_cons_zero, List.set_cons_succ]
  refine plan_run (v := ?_) rfl (fun _ => rfl) ?_ ?_
  rotate_left
  · intro ρ w' hT
    obtain ⟨hcT, hfT⟩ := bcell hT
    go_simp
    try with_reducible rfl
  simp only [Act.put, List.setIfInBounds_toArray, List.set_cons_zero, List.set_cons_succ]
  refine plan_run (v := ?_) rfl (fun _ => rfl) ?_ ?_
  rotate_left
  · intro ρ w' hT
    obtain ⟨hcT, hfT⟩ := bcell hT
    go_simp
    try with_reducible rfl
  simp only [Act.put, List.setIfInBounds_toArray, List.set_cons_zero, List.set_cons_succ]
  refine plan_run (v := ?_) rfl (fun _ => rfl) ?_ ?_
  rotate_left
  · intro ρ w' hT
    obtain ⟨hcT, hfT⟩ := bcell hT
    go_simp
    try with_reducible rfl
  simp only [Act.put, List.setIfInBounds_toArray, List.set_cons_zero, List.set_cons_succ]
  refine plan_run (v := ?_) rfl (fun _ => rfl) ?_ ?_
  rotate_left
  · intro ρ w' hT
    obtain ⟨hcT, hfT⟩ := bcell hT
    go_simp
    try with_reducible rfl
  simp only [Act.put, List.setIfInBounds_toArray, List.set_cons_zero, List.set_cons_succ]
  refine plan_run (v := ?_) rfl (fun _ => rfl) ?_ ?_
  rotate_left
  · intro ρ w' hT
    obtain ⟨hcT, hfT⟩ := bcell hT
    go_simp
    try with_reducible rfl
  simp only [Act.put, List.setIfInBounds_toArray, List.set_cons_zero, List.set_cons_succ]
  refine plan_run (v := ?_) rfl (fun _ => rfl) ?_ ?_
  rotate_left
  · intro ρ w' hT
    obtain ⟨hcT, hfT⟩ := bcell hT
    go_simp
    try with_reducible rfl
  simp only [Act.put, List.setIfInBounds_toArray, List.set_cons_zero, List.set_cons_succ]
  intro ρ w3 hT hF
  obtain ⟨f0, _⟩ := hF
  have F0 : w3.ownsRow w2.heap.size 5 1 (ρ 0) 0 [] := f0
  clear f0
  have Hpc := Lib.hid (hpc.out.below hT)
  simp only [List.drop_succ_cons, List.drop_zero]
  go_wp2_with (at_builtin; refine wpList_append_any _ rfl (.tmp 45) (.tmp 60) 44 rfl w2.heap.size 5 i0 (.int .u8 0) 1 1 Tryz.underlying44 hi0 hz0 hz1 hz2 rfl (by omega) _ _ _ rfl F0 w2.heap.size A2 v c2 (u8s ((l.drop q).take v)) rfl Hpc.out (u8s_one _) (by simp only [maxLen]; omega) (by omega) hT.size ?_; intro v4 w4 hown4 hg4 hat4)
  go_ret2
  have hb4 : Below w2.heap.size w2 w4 := hT.grown hg4 hT.size (fun k hk => (F0.lt k hk).1)
  refine ⟨_, rfl, ?_, hm'.out ▸ hr2.below hb4, hk2.trans (Keep.of_below hb4)⟩
  have hw2 := hk2.size
  have : w4.ownsRow w2.heap.size 5 1 v4 ((l.drop q).take v).length (u8s ((l.drop q).take v)) := by rw [HL2.out]; simpa using hown4
  exact own_base this hw2
end Go.Proofs.YtnldgcgngolkiaaGreatDoor
