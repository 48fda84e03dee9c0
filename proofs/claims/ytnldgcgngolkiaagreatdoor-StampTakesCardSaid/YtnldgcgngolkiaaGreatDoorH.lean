/- stamp.Parse: the walk. -/
import Derived.Test.YtnldgcgngolkiaaGreatDoorG
namespace Go.Proofs.YtnldgcgngolkiaaGreatDoor
open Go.RowKit
attribute [local go_sem ↓] Go.wp_at_zero Go.wp_at_succ

theorem set3 {w : World} {B : Nat} {u0 u1 u2 v0 v1 v2 : Value} (e0 : w.cell? ⟨B, 0, none⟩ = some u0) (e1 : w.cell? ⟨B, 1, none⟩ = some u1) (e2 : w.cell? ⟨B, 2, none⟩ = some u2) :
    (((w.setCell ⟨B, 0, none⟩ v0).setCell ⟨B, 1, none⟩ v1).setCell ⟨B, 2, none⟩ v2).cell? ⟨B, 0, none⟩ = some v0 ∧ (((w.setCell ⟨B, 0, none⟩ v0).setCell ⟨B, 1, none⟩ v1).setCell ⟨B, 2, none⟩ v2).cell? ⟨B, 1, none⟩ = some v1 ∧ (((w.setCell ⟨B, 0, none⟩ v0).setCell ⟨B, 1, none⟩ v1).setCell ⟨B, 2, none⟩ v2).cell? ⟨B, 2, none⟩ = some v2 := by
  refine ⟨?_, ?_, ?_⟩
  · rw [World.cell?_setCell_other _ _ _ _ (by simp), World.cell?_setCell_other _ _ _ _ (by simp), World.cell?_setCell_same' _ _ _ (by rw [e0]; rfl)]
  · rw [World.cell?_setCell_other _ _ _ _ (by simp)]
    exact World.cell?_setCell_same' _ _ _ (by rw [World.cell?_setCell_other _ _ _ _ (by simp), e1]; rfl)
  · exact World.cell?_setCell_same' _ _ _ (by rw [World.cell?_setCell_other _ _ _ _ (by simp), World.cell?_setCell_other _ _ _ _ (by simp), e2]; rfl)

set_option linter.unusedSimpArgs false
set_option maxRecDepth 20000 in set_option maxHeartbeats 1000000 in
theorem parseStamp_len (s : ByteArray) (w : World) (E : Env w) (hs : s.size ≤ 1000000) (h : (dots s).length ≠ 5) :
    Calls Tryz.prog 20 #[.string s] w fun e w' => e = .returned (.tuple #[zS, .int .i64 4]) ∧ Below w.heap.size w w' := by
  have hn : (((dots s).length : Int) != 5) = true := by rw [bne_iff_ne]; omega
  clear h
  go_enter Tryz.func20, Tryz.ntmps20
  go_wp2_with fail
  refine (split_any _ _ (E.alloc _) hs).mono ?_
  rintro e w1 ⟨rfl, hb1, hz, hp⟩
  have Hp := Lib.hid hp
  clear hp
  obtain ⟨hc1, hf1⟩ := bcell hb1
  (have hz1 := hb1.size; (try simp at hz1); replace hb1 := below_to (w := w) hb1 (by go_grown) (by first | omega | (simp <;> omega)); have hs1 := hb1.size)
  have f0 : ∀ i, w1.frozen? ⟨w.heap.size, i, none⟩ = false := fun i => by rw [hf1 _ _ (by simp)]; simp
  have k0 : w1.cell? ⟨w.heap.size, 0, none⟩ = some (.int .i64 0) := by rw [hc1 _ _ (by simp)]; simp
  have k1 : w1.cell? ⟨w.heap.size, 1, none⟩ = some (.int .i64 0) := by rw [hc1 _ _ (by simp)]; simp
  have k2 : w1.cell? ⟨w.heap.size, 2, none⟩ = some (.string ⟨#[]⟩) := by rw [hc1 _ _ (by simp)]; simp
  have k3 : w1.cell? ⟨w.heap.size, 3, none⟩ = some (.int .i64 0) := by rw [hc1 _ _ (by simp)]; simp
  have k4 : w1.cell? ⟨w.heap.size, 4, none⟩ = some (.int .i64 0) := by rw [hc1 _ _ (by simp)]; simp
  clear hc1 hf1
  go_wp2
  exact bodyPost_ret (v := .tuple #[zS, .int .i64 4]) (by simp [results, Tryz.results20, go_sem, k0, k1, k2, k3, k4]) rfl ⟨rfl, by go_grown⟩

set_option maxRecDepth 20000 in set_option maxHeartbeats 1000000 in
theorem parseStamp_not (s a b c d g : ByteArray) (w : World) (E : Env w) (hs : s.size ≤ 1000000) (hd : dots s = [a, b, c, d, g]) (h : ¬ (okS (rd a) (rd b) c (rd d) (rd g) = true ∧ S (tS (rd a) (rd b) c (rd d) (rd g)) = s)) :
    Calls Tryz.prog 20 #[.string s] w fun e w' => e = .returned (.tuple #[zS, .int .i64 4]) ∧ Below w.heap.size w w' := by
  have ha : a.size ≤ 1000000 := dots_sizes hs (by rw [hd]; simp)
  have hb : b.size ≤ 1000000 := dots_sizes hs (by rw [hd]; simp)
  have hc : c.size ≤ 1000000 := dots_sizes hs (by rw [hd]; simp)
  have hd' : d.size ≤ 1000000 := dots_sizes hs (by rw [hd]; simp)
  have hg : g.size ≤ 1000000 := dots_sizes hs (by rw [hd]; simp)
  have H := Lib.hid h
  have HS := Lib.hid (fun w E => split_any s w E hs)
  rw [hd] at HS
  clear h hd
  have hd := hd'
  clear hd'
  go_enter Tryz.func20, Tryz.ntmps20
  go_wp2_with fail
  refine (HS.out _ (E.alloc _)).mono ?_
  rintro e w1 ⟨rfl, hb1, hz, hp⟩
  have hzz : w.heap.size + 1 < w1.heap.size := by rw [hz]; simp
  have hzw : w.heap.size < w1.heap.size := by omega
  clear hz
  have a0 := hp 0 a rfl
  have a1 := hp 1 b rfl
  have a2 := hp 2 c rfl
  have a3 := hp 3 d rfl
  have a4 := hp 4 g rfl
  clear hp
  obtain ⟨hc1, hf1⟩ := bcell hb1
  (have hz1 := hb1.size; (try simp at hz1); replace hb1 := below_to (w := w) hb1 (by go_grown) (by first | omega | (simp <;> omega)); have hs1 := hb1.size)
  have E1 := E.below hb1
  have f0 : ∀ i, w1.frozen? ⟨w.heap.size, i, none⟩ = false := fun i => by rw [hf1 _ _ (by simp)]; simp
  have k0 : w1.cell? ⟨w.heap.size, 0, none⟩ = some (.int .i64 0) := by rw [hc1 _ _ (by simp)]; simp
  have k1 : w1.cell? ⟨w.heap.size, 1, none⟩ = some (.int .i64 0) := by rw [hc1 _ _ (by simp)]; simp
  have k2 : w1.cell? ⟨w.heap.size, 2, none⟩ = some (.string ⟨#[]⟩) := by rw [hc1 _ _ (by simp)]; simp
  have k3 : w1.cell? ⟨w.heap.size, 3, none⟩ = some (.int .i64 0) := by rw [hc1 _ _ (by simp)]; simp
  have k4 : w1.cell? ⟨w.heap.size, 4, none⟩ = some (.int .i64 0) := by rw [hc1 _ _ (by simp)]; simp
  clear hc1 hf1
  simp only [World.size_alloc] at a0 a1 a2 a3 a4
  go_upto_region 4 with fail
  go_cut [5] (fun s5 wx => ∃ B : Nat, w1.heap.size ≤ B ∧ B < wx.heap.size ∧ s5 = .pointer (some ⟨B, 0, none⟩) ∧ wx.cell? ⟨B, 0, none⟩ = some (.int .i64 (rd b)) ∧ wx.cell? ⟨B, 1, none⟩ = some (.string c) ∧ wx.cell? ⟨B, 2, none⟩ = some (.int .i64 (rd d)) ∧ Below w1.heap.size w1 wx)
  case first =>
    go_region_held3 (fun w' => w'.cell? ⟨w.heap.size + 1, 0, none⟩ = some (.string a) ∧ w'.cell? ⟨w.heap.size + 1, 1, none⟩ = some (.string b) ∧ w'.cell? ⟨w.heap.size + 1, 2, none⟩ = some (.string c) ∧ w'.cell? ⟨w.heap.size + 1, 3, none⟩ = some (.string d) ∧ w'.cell? ⟨w.heap.size + 1, 4, none⟩ = some (.string g)) (first | go_keep | exact ⟨cell_on (B := w1.heap.size) (w := w1) (by first | assumption | go_grown) hzz a0, cell_on (B := w1.heap.size) (w := w1) (by first | assumption | go_grown) hzz a1, cell_on (B := w1.heap.size) (w := w1) (by first | assumption | go_grown) hzz a2, cell_on (B := w1.heap.size) (w := w1) (by first | assumption | go_grown) hzz a3, cell_on (B := w1.heap.size) (w := w1) (by first | assumption | go_grown) hzz a4⟩) (first | (go_at_call_of 102 b; refine (read_any b _ (E1.below (by go_grown)) hb).mono ?_; rintro e w3 ⟨rfl, hb3⟩; obtain ⟨hc3, hf3⟩ := bcell hb3; have hz3 := hb3.size; (try simp only [World.size_alloc, World.size_drew] at hz3 hc3 hf3); (try replace hz3 := Nat.lt_of_succ_le hz3); replace hb3 := below_to (w := w1) hb3 (by go_grown) (by first | omega | (simp <;> omega)); have hs3 := hb3.size; have E3 := E1.below hb3) | (go_at_call_of 102 d; refine (read_any d _ (E1.below (by go_grown)) hd).mono ?_; rintro e w4 ⟨rfl, hb4⟩; obtain ⟨hc4, hf4⟩ := bcell hb4; have hz4 := hb4.size; (try simp only [World.size_alloc, World.size_drew] at hz4 hc4 hf4); (try replace hz4 := Nat.lt_of_succ_le hz4); replace hb4 := below_to (w := w1) hb4 (by go_grown) (by first | omega | (simp <;> omega)); have hs4 := hb4.size; have E4 := E1.below hb4))
    all_goals go_wp2_with fail
    all_goals go_meet
    · exact ⟨w4.heap.size, by omega, by simp, rfl, by simp, by simp, by simp, by go_grown⟩
    · obtain ⟨z0, z1, z2⟩ := set3 (w := w4) (B := w3.heap.size) (v0 := .int .i64 (rd b)) (v1 := .string c) (v2 := .int .i64 (rd d)) (u0 := .int .i64 0) (u1 := .string ⟨#[]⟩) (u2 := .int .i64 0) (by rw [hc4 _ _ (by omega)]; simp) (by rw [hc4 _ _ (by omega)]; simp) (by rw [hc4 _ _ (by omega)]; simp)
      exact ⟨w3.heap.size, by omega, by simp; omega, rfl, z0, z1, z2, by go_grown⟩
    · obtain ⟨z0, z1, z2⟩ := set3 (w := w4) (B := w1.heap.size) (v0 := .int .i64 (rd b)) (v1 := .string c) (v2 := .int .i64 (rd d)) (u0 := .int .i64 0) (u1 := .string ⟨#[]⟩) (u2 := .int .i64 0) (by rw [hc4 _ _ (by omega), hc3 _ _ (by omega)]; simp) (by rw [hc4 _ _ (by omega), hc3 _ _ (by omega)]; simp) (by rw [hc4 _ _ (by omega), hc3 _ _ (by omega)]; simp)
      exact ⟨w1.heap.size, by omega, by simp; omega, rfl, z0, z1, z2, by go_grown⟩
  case rest =>
    obtain ⟨B, hB1, hB2, rfl, n0, n1, n2, hbc⟩ := hcut
    have Ec := E1.below hbc
    have hsc := hbc.size
    have a0 := cell_on hbc hzz a0
    have a4 := cell_on hbc hzz a4
    have f0 : ∀ i, wc.frozen? ⟨w.heap.size, i, none⟩ = false := fun i => (hbc.frozen (p := ⟨w.heap.size, i, none⟩) hzw).trans (f0 i)
    have k0 := cell_on hbc hzw k0
    have k1 := cell_on hbc hzw k1
    have k2 := cell_on hbc hzw k2
    have k3 := cell_on hbc hzw k3
    have k4 := cell_on hbc hzw k4
    have hy : w.heap.size + 1 < wc.heap.size := by omega
    have hyw : w.heap.size < wc.heap.size := by omega
    have hne : w.heap.size ≠ B := by omega
    go_wp2_with fail
    go_region_held3 (fun w' => w'.cell? ⟨w.heap.size + 1, 0, none⟩ = some (.string a) ∧ w'.cell? ⟨w.heap.size + 1, 4, none⟩ = some (.string g) ∧ w'.cell? ⟨B, 0, none⟩ = some (.int .i64 (rd b)) ∧ w'.cell? ⟨B, 1, none⟩ = some (.string c) ∧ w'.cell? ⟨B, 2, none⟩ = some (.int .i64 (rd d))) (first | go_keep | exact ⟨cell_on (B := wc.heap.size) (w := wc) (by first | assumption | go_grown) hy a0, cell_on (B := wc.heap.size) (w := wc) (by first | assumption | go_grown) hy a4, cell_on (B := wc.heap.size) (w := wc) (by first | assumption | go_grown) hB2 n0, cell_on (B := wc.heap.size) (w := wc) (by first | assumption | go_grown) hB2 n1, cell_on (B := wc.heap.size) (w := wc) (by first | assumption | go_grown) hB2 n2⟩) (first | (go_at_call_of 102 a; refine (read_any a _ (Ec.below (by go_grown)) ha).mono ?_; rintro e w5 ⟨rfl, hb5⟩; replace hb5 := below_to (w := wc) hb5 (by go_grown) (by first | omega | (simp <;> omega)); have hs5 := hb5.size) | (go_at_call_of 102 g; refine (read_any g _ (Ec.below (by go_grown)) hg).mono ?_; rintro e w6 ⟨rfl, hb6⟩; replace hb6 := below_to (w := wc) hb6 (by go_grown) (by first | omega | (simp <;> omega)); have hs6 := hb6.size) | (go_at_call 113; refine (sameS_not _ _ _ _ _ _ _ (Ec.below (by go_grown)) hc H.out).mono ?_; rintro e w7 ⟨rfl, hb7⟩; replace hb7 := below_to (w := wc) hb7 (by go_grown) (by first | omega | (simp <;> omega)); have hs7 := hb7.size; have q0 := cell_on hb7 hyw k0; have q1 := cell_on hb7 hyw k1; have q2 := cell_on hb7 hyw k2; have q3 := cell_on hb7 hyw k3; have q4 := cell_on hb7 hyw k4; have qf : ∀ i, w7.frozen? ⟨w.heap.size, i, none⟩ = false := fun i => (hb7.frozen (p := ⟨w.heap.size, i, none⟩) hyw).trans (f0 i)))
    all_goals
      have hb := below_step hb1 (below_step hbc hb7)
      go_wp2
      exact bodyPost_ret (v := .tuple #[zS, .int .i64 4]) (by simp [results, Tryz.results20, go_sem, q0, q1, q2, q3, q4]) rfl ⟨rfl, by go_grown⟩
set_option maxRecDepth 20000 in set_option maxHeartbeats 1000000 in
theorem parseStamp_yes (s a b c d g : ByteArray) (w : World) (E : Env w) (hs : s.size ≤ 1000000) (hd : dots s = [a, b, c, d, g]) (h : okS (rd a) (rd b) c (rd d) (rd g) = true ∧ S (tS (rd a) (rd b) c (rd d) (rd g)) = s) :
    Calls Tryz.prog 20 #[.string s] w fun e w' => e = .returned (.tuple #[vS (rd a) (rd b) c (rd d) (rd g), .int .i64 0]) ∧ Below w.heap.size w w' := by
  have ha : a.size ≤ 1000000 := dots_sizes hs (by rw [hd]; simp)
  have hb : b.size ≤ 1000000 := dots_sizes hs (by rw [hd]; simp)
  have hc : c.size ≤ 1000000 := dots_sizes hs (by rw [hd]; simp)
  have hd' : d.size ≤ 1000000 := dots_sizes hs (by rw [hd]; simp)
  have hg : g.size ≤ 1000000 := dots_sizes hs (by rw [hd]; simp)
  have H := Lib.hid h
  have HS := Lib.hid (fun w E => split_any s w E hs)
  rw [hd] at HS
  clear h hd
  have hd := hd'
  clear hd'
  go_enter Tryz.func20, Tryz.ntmps20
  go_wp2_with fail
  refine (HS.out _ (E.alloc _)).mono ?_
  rintro e w1 ⟨rfl, hb1, hz, hp⟩
  have hzz : w.heap.size + 1 < w1.heap.size := by rw [hz]; simp
  have hzw : w.heap.size < w1.heap.size := by omega
  clear hz
  have a0 := hp 0 a rfl
  have a1 := hp 1 b rfl
  have a2 := hp 2 c rfl
  have a3 := hp 3 d rfl
  have a4 := hp 4 g rfl
  clear hp
  obtain ⟨hc1, hf1⟩ := bcell hb1
  (have hz1 := hb1.size; (try simp at hz1); replace hb1 := below_to (w := w) hb1 (by go_grown) (by first | omega | (simp <;> omega)); have hs1 := hb1.size)
  have E1 := E.below hb1
  have f0 : ∀ i, w1.frozen? ⟨w.heap.size, i, none⟩ = false := fun i => by rw [hf1 _ _ (by simp)]; simp
  have k0 : w1.cell? ⟨w.heap.size, 0, none⟩ = some (.int .i64 0) := by rw [hc1 _ _ (by simp)]; simp
  have k1 : w1.cell? ⟨w.heap.size, 1, none⟩ = some (.int .i64 0) := by rw [hc1 _ _ (by simp)]; simp
  have k2 : w1.cell? ⟨w.heap.size, 2, none⟩ = some (.string ⟨#[]⟩) := by rw [hc1 _ _ (by simp)]; simp
  have k3 : w1.cell? ⟨w.heap.size, 3, none⟩ = some (.int .i64 0) := by rw [hc1 _ _ (by simp)]; simp
  have k4 : w1.cell? ⟨w.heap.size, 4, none⟩ = some (.int .i64 0) := by rw [hc1 _ _ (by simp)]; simp
  clear hc1 hf1
  simp only [World.size_alloc] at a0 a1 a2 a3 a4
  go_upto_region 4 with fail
  go_cut [5] (fun s5 wx => ∃ B : Nat, w1.heap.size ≤ B ∧ B < wx.heap.size ∧ s5 = .pointer (some ⟨B, 0, none⟩) ∧ wx.cell? ⟨B, 0, none⟩ = some (.int .i64 (rd b)) ∧ wx.cell? ⟨B, 1, none⟩ = some (.string c) ∧ wx.cell? ⟨B, 2, none⟩ = some (.int .i64 (rd d)) ∧ Below w1.heap.size w1 wx)
  case first =>
    go_region_held3 (fun w' => w'.cell? ⟨w.heap.size + 1, 0, none⟩ = some (.string a) ∧ w'.cell? ⟨w.heap.size + 1, 1, none⟩ = some (.string b) ∧ w'.cell? ⟨w.heap.size + 1, 2, none⟩ = some (.string c) ∧ w'.cell? ⟨w.heap.size + 1, 3, none⟩ = some (.string d) ∧ w'.cell? ⟨w.heap.size + 1, 4, none⟩ = some (.string g)) (first | go_keep | exact ⟨cell_on (B := w1.heap.size) (w := w1) (by first | assumption | go_grown) hzz a0, cell_on (B := w1.heap.size) (w := w1) (by first | assumption | go_grown) hzz a1, cell_on (B := w1.heap.size) (w := w1) (by first | assumption | go_grown) hzz a2, cell_on (B := w1.heap.size) (w := w1) (by first | assumption | go_grown) hzz a3, cell_on (B := w1.heap.size) (w := w1) (by first | assumption | go_grown) hzz a4⟩) (first | (go_at_call_of 102 b; refine (read_any b _ (E1.below (by go_grown)) hb).mono ?_; rintro e w3 ⟨rfl, hb3⟩; obtain ⟨hc3, hf3⟩ := bcell hb3; have hz3 := hb3.size; (try simp only [World.size_alloc, World.size_drew] at hz3 hc3 hf3); (try replace hz3 := Nat.lt_of_succ_le hz3); replace hb3 := below_to (w := w1) hb3 (by go_grown) (by first | omega | (simp <;> omega)); have hs3 := hb3.size; have E3 := E1.below hb3) | (go_at_call_of 102 d; refine (read_any d _ (E1.below (by go_grown)) hd).mono ?_; rintro e w4 ⟨rfl, hb4⟩; obtain ⟨hc4, hf4⟩ := bcell hb4; have hz4 := hb4.size; (try simp only [World.size_alloc, World.size_drew] at hz4 hc4 hf4); (try replace hz4 := Nat.lt_of_succ_le hz4); replace hb4 := below_to (w := w1) hb4 (by go_grown) (by first | omega | (simp <;> omega)); have hs4 := hb4.size; have E4 := E1.below hb4))
    all_goals go_wp2_with fail
    all_goals go_meet
    · exact ⟨w4.heap.size, by omega, by simp, rfl, by simp, by simp, by simp, by go_grown⟩
    · obtain ⟨z0, z1, z2⟩ := set3 (w := w4) (B := w3.heap.size) (v0 := .int .i64 (rd b)) (v1 := .string c) (v2 := .int .i64 (rd d)) (u0 := .int .i64 0) (u1 := .string ⟨#[]⟩) (u2 := .int .i64 0) (by rw [hc4 _ _ (by omega)]; simp) (by rw [hc4 _ _ (by omega)]; simp) (by rw [hc4 _ _ (by omega)]; simp)
      exact ⟨w3.heap.size, by omega, by simp; omega, rfl, z0, z1, z2, by go_grown⟩
    · obtain ⟨z0, z1, z2⟩ := set3 (w := w4) (B := w1.heap.size) (v0 := .int .i64 (rd b)) (v1 := .string c) (v2 := .int .i64 (rd d)) (u0 := .int .i64 0) (u1 := .string ⟨#[]⟩) (u2 := .int .i64 0) (by rw [hc4 _ _ (by omega), hc3 _ _ (by omega)]; simp) (by rw [hc4 _ _ (by omega), hc3 _ _ (by omega)]; simp) (by rw [hc4 _ _ (by omega), hc3 _ _ (by omega)]; simp)
      exact ⟨w1.heap.size, by omega, by simp; omega, rfl, z0, z1, z2, by go_grown⟩
  case rest =>
    obtain ⟨B, hB1, hB2, rfl, n0, n1, n2, hbc⟩ := hcut
    have Ec := E1.below hbc
    have hsc := hbc.size
    have a0 := cell_on hbc hzz a0
    have a4 := cell_on hbc hzz a4
    have f0 : ∀ i, wc.frozen? ⟨w.heap.size, i, none⟩ = false := fun i => (hbc.frozen (p := ⟨w.heap.size, i, none⟩) hzw).trans (f0 i)
    have k0 := cell_on hbc hzw k0
    have k1 := cell_on hbc hzw k1
    have k2 := cell_on hbc hzw k2
    have k3 := cell_on hbc hzw k3
    have k4 := cell_on hbc hzw k4
    have hy : w.heap.size + 1 < wc.heap.size := by omega
    have hyw : w.heap.size < wc.heap.size := by omega
    have hne : w.heap.size ≠ B := by omega
    go_wp2_with fail
    go_region_held3 (fun w' => w'.cell? ⟨w.heap.size + 1, 0, none⟩ = some (.string a) ∧ w'.cell? ⟨w.heap.size + 1, 4, none⟩ = some (.string g) ∧ w'.cell? ⟨B, 0, none⟩ = some (.int .i64 (rd b)) ∧ w'.cell? ⟨B, 1, none⟩ = some (.string c) ∧ w'.cell? ⟨B, 2, none⟩ = some (.int .i64 (rd d))) (first | go_keep | exact ⟨cell_on (B := wc.heap.size) (w := wc) (by first | assumption | go_grown) hy a0, cell_on (B := wc.heap.size) (w := wc) (by first | assumption | go_grown) hy a4, cell_on (B := wc.heap.size) (w := wc) (by first | assumption | go_grown) hB2 n0, cell_on (B := wc.heap.size) (w := wc) (by first | assumption | go_grown) hB2 n1, cell_on (B := wc.heap.size) (w := wc) (by first | assumption | go_grown) hB2 n2⟩) (first | (go_at_call_of 102 a; refine (read_any a _ (Ec.below (by go_grown)) ha).mono ?_; rintro e w5 ⟨rfl, hb5⟩; replace hb5 := below_to (w := wc) hb5 (by go_grown) (by first | omega | (simp <;> omega)); have hs5 := hb5.size) | (go_at_call_of 102 g; refine (read_any g _ (Ec.below (by go_grown)) hg).mono ?_; rintro e w6 ⟨rfl, hb6⟩; replace hb6 := below_to (w := wc) hb6 (by go_grown) (by first | omega | (simp <;> omega)); have hs6 := hb6.size) | (go_at_call 113; refine (sameS_yes _ _ _ _ _ _ _ (Ec.below (by go_grown)) hc H.out.1 H.out.2).mono ?_; rintro e w7 ⟨rfl, hb7⟩; replace hb7 := below_to (w := wc) hb7 (by go_grown) (by first | omega | (simp <;> omega)); have hs7 := hb7.size; have q0 := cell_on hb7 hyw k0; have q1 := cell_on hb7 hyw k1; have q2 := cell_on hb7 hyw k2; have q3 := cell_on hb7 hyw k3; have q4 := cell_on hb7 hyw k4; have qf : ∀ i, w7.frozen? ⟨w.heap.size, i, none⟩ = false := fun i => (hb7.frozen (p := ⟨w.heap.size, i, none⟩) hyw).trans (f0 i)))
    all_goals
      have hb := below_step hb1 (below_step hbc hb7)
      go_wp2
      exact bodyPost_ret (v := .tuple #[vS (rd a) (rd b) c (rd d) (rd g), .int .i64 0]) (by simp [results, Tryz.results20, go_sem, q0, q1, q2, q3, q4]) rfl ⟨rfl, by go_grown⟩
end Go.Proofs.YtnldgcgngolkiaaGreatDoor
