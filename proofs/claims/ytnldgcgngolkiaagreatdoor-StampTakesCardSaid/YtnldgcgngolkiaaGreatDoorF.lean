/- stamp.ParseBranch: the walk. -/
import Derived.Test.YtnldgcgngolkiaaGreatDoorD
namespace Go.Proofs.YtnldgcgngolkiaaGreatDoor
open Go.RowKit
attribute [local go_sem ↓] Go.wp_at_zero Go.wp_at_succ

def cutA (s : ByteArray) : ByteArray := S (Lib.cut s.data.toList [46]).1
def cutB (s : ByteArray) : ByteArray := S (Lib.cut s.data.toList [46]).2.1
theorem cut_len (s sep : List UInt8) : (Lib.cut s sep).1.length ≤ s.length ∧ (Lib.cut s sep).2.1.length ≤ s.length := by
  unfold Lib.cut
  split <;> simp [List.length_take] <;> omega
theorem cutA_len {s : ByteArray} {n : Nat} (h : s.size ≤ n) : (cutA s).size ≤ n := by
  have h1 := (cut_len s.data.toList [46]).1
  have h2 : (cutA s).size = (Lib.cut s.data.toList [46]).1.length := by rw [cutA, ← str_len]
  rw [str_len] at h1
  omega
theorem cutB_len {s : ByteArray} {n : Nat} (h : s.size ≤ n) : (cutB s).size ≤ n := by
  have h1 := (cut_len s.data.toList [46]).2
  have h2 : (cutB s).size = (Lib.cut s.data.toList [46]).2.1.length := by rw [cutB, ← str_len]
  rw [str_len] at h1
  omega

set_option maxRecDepth 20000 in set_option maxHeartbeats 400000 in
theorem parseBranch_not (s : ByteArray) (w : World) (E : Env w) (hs : s.size ≤ 1000000) (h : ¬ (okB (rd (cutA s)) (cutB s) = true ∧ S (tB (rd (cutA s)) (cutB s)) = s)) :
    Calls Tryz.prog 16 #[.string s] w fun e w' => e = .returned (.tuple #[zB, .int .i64 4]) ∧ Below w.heap.size w w' := by
  have HA := Lib.hid (show S (Lib.cut s.data.toList [46]).1 = cutA s from rfl)
  have HB := Lib.hid (show S (Lib.cut s.data.toList [46]).2.1 = cutB s from rfl)
  have hA := cutA_len hs
  have hB := cutB_len hs
  have H := Lib.hid h
  clear h
  go_enter Tryz.func16, Tryz.ntmps16
  go_wp2_with fail
  refine (cut_any _ _ _ (E.alloc _) hs).mono ?_
  rintro e w1 ⟨rfl, hb1⟩
  rw [show (⟨(Lib.cut s.data.toList (ByteArray.mk #[46]).data.toList).1.toArray⟩ : ByteArray) = cutA s from HA.out, show (⟨(Lib.cut s.data.toList (ByteArray.mk #[46]).data.toList).2.1.toArray⟩ : ByteArray) = cutB s from HB.out]
  obtain ⟨hc1, hf1⟩ := bcell hb1
  (have hz1 := hb1.size; (try simp at hz1); replace hb1 := below_to (w := w) hb1 (by go_grown) (by first | omega | (simp <;> omega)); have hs1 := hb1.size)
  have E1 := E.below hb1
  go_wp2_with fail
  refine (read_any _ _ E1 hA).mono ?_
  rintro e w2 ⟨rfl, hb2⟩
  obtain ⟨hc2, hf2⟩ := bcell hb2
  (have hz2 := hb2.size; (try simp at hz2); replace hb2 := below_to (w := w1) hb2 (by go_grown) (by first | omega | (simp <;> omega)); have hs2 := hb2.size)
  have E2 := E1.below hb2
  go_wp2_with fail
  refine (sameB_not _ _ _ _ E2 hB H.out).mono ?_
  rintro e w3 ⟨rfl, hb3⟩
  obtain ⟨hc3, hf3⟩ := bcell hb3
  (have hz3 := hb3.size; (try simp at hz3); replace hb3 := below_to (w := w2) hb3 (by go_grown) (by first | omega | (simp <;> omega)); have hs3 := hb3.size)
  have f0 : ∀ i, w3.frozen? ⟨w.heap.size, i, none⟩ = false := fun i => by rw [hf3 _ _ (by omega), hf2 _ _ (by omega), hf1 _ _ (by simp)]; simp
  have k0 : w3.cell? ⟨w.heap.size, 0, none⟩ = some (.int .i64 0) := by rw [hc3 _ _ (by omega), hc2 _ _ (by omega), hc1 _ _ (by simp)]; simp
  have k1 : w3.cell? ⟨w.heap.size, 1, none⟩ = some (.string ⟨#[]⟩) := by rw [hc3 _ _ (by omega), hc2 _ _ (by omega), hc1 _ _ (by simp)]; simp
  clear hc1 hf1 hc2 hf2 hc3 hf3
  have hb := below_step hb1 (below_step hb2 hb3)
  go_wp2
  exact bodyPost_ret (v := .tuple #[zB, .int .i64 4]) (by simp [results, Tryz.results16, go_sem, k0, k1]) rfl ⟨rfl, by go_grown⟩
set_option maxRecDepth 20000 in set_option maxHeartbeats 400000 in
theorem parseBranch_yes (s : ByteArray) (w : World) (E : Env w) (hs : s.size ≤ 1000000) (h : okB (rd (cutA s)) (cutB s) = true ∧ S (tB (rd (cutA s)) (cutB s)) = s) :
    Calls Tryz.prog 16 #[.string s] w fun e w' => e = .returned (.tuple #[vB (rd (cutA s)) (cutB s), .int .i64 0]) ∧ Below w.heap.size w w' := by
  have HA := Lib.hid (show S (Lib.cut s.data.toList [46]).1 = cutA s from rfl)
  have HB := Lib.hid (show S (Lib.cut s.data.toList [46]).2.1 = cutB s from rfl)
  have hA := cutA_len hs
  have hB := cutB_len hs
  have H := Lib.hid h
  clear h
  go_enter Tryz.func16, Tryz.ntmps16
  go_wp2_with fail
  refine (cut_any _ _ _ (E.alloc _) hs).mono ?_
  rintro e w1 ⟨rfl, hb1⟩
  rw [show (⟨(Lib.cut s.data.toList (ByteArray.mk #[46]).data.toList).1.toArray⟩ : ByteArray) = cutA s from HA.out, show (⟨(Lib.cut s.data.toList (ByteArray.mk #[46]).data.toList).2.1.toArray⟩ : ByteArray) = cutB s from HB.out]
  obtain ⟨hc1, hf1⟩ := bcell hb1
  (have hz1 := hb1.size; (try simp at hz1); replace hb1 := below_to (w := w) hb1 (by go_grown) (by first | omega | (simp <;> omega)); have hs1 := hb1.size)
  have E1 := E.below hb1
  go_wp2_with fail
  refine (read_any _ _ E1 hA).mono ?_
  rintro e w2 ⟨rfl, hb2⟩
  obtain ⟨hc2, hf2⟩ := bcell hb2
  (have hz2 := hb2.size; (try simp at hz2); replace hb2 := below_to (w := w1) hb2 (by go_grown) (by first | omega | (simp <;> omega)); have hs2 := hb2.size)
  have E2 := E1.below hb2
  go_wp2_with fail
  refine (sameB_yes _ _ _ _ E2 hB H.out.1 H.out.2).mono ?_
  rintro e w3 ⟨rfl, hb3⟩
  obtain ⟨hc3, hf3⟩ := bcell hb3
  (have hz3 := hb3.size; (try simp at hz3); replace hb3 := below_to (w := w2) hb3 (by go_grown) (by first | omega | (simp <;> omega)); have hs3 := hb3.size)
  have f0 : ∀ i, w3.frozen? ⟨w.heap.size, i, none⟩ = false := fun i => by rw [hf3 _ _ (by omega), hf2 _ _ (by omega), hf1 _ _ (by simp)]; simp
  have k0 : w3.cell? ⟨w.heap.size, 0, none⟩ = some (.int .i64 0) := by rw [hc3 _ _ (by omega), hc2 _ _ (by omega), hc1 _ _ (by simp)]; simp
  have k1 : w3.cell? ⟨w.heap.size, 1, none⟩ = some (.string ⟨#[]⟩) := by rw [hc3 _ _ (by omega), hc2 _ _ (by omega), hc1 _ _ (by simp)]; simp
  clear hc1 hf1 hc2 hf2 hc3 hf3
  have hb := below_step hb1 (below_step hb2 hb3)
  go_wp2
  exact bodyPost_ret (v := .tuple #[vB (rd (cutA s)) (cutB s), .int .i64 0]) (by simp [results, Tryz.results16, go_sem, k0, k1]) rfl ⟨rfl, by go_grown⟩
end Go.Proofs.YtnldgcgngolkiaaGreatDoor
