/- stamp.ParseName: the walk. -/
import Derived.Test.YtnldgcgngolkiaaGreatDoorF
namespace Go.Proofs.YtnldgcgngolkiaaGreatDoor
open Go.RowKit
attribute [local go_sem ↓] Go.wp_at_zero Go.wp_at_succ

def dots (s : ByteArray) : List ByteArray := Lib.splitB (S [46]) 0 (Lib.countB s (S [46])) s
theorem splitB_sizes (sep : ByteArray) : ∀ (k : Nat) (s : ByteArray), ∀ x ∈ Lib.splitB sep 0 k s, x.size ≤ s.size := by
  intro k
  induction k with
  | zero => intro s x hx; simp [Lib.splitB_zero] at hx; rw [hx]; omega
  | succ k ih =>
    intro s x hx
    by_cases h : Lib.indexB s sep = -1
    · rw [Lib.splitB_miss _ _ _ _ h] at hx
      simp at hx; rw [hx]; omega
    · obtain ⟨i, hi⟩ : ∃ i : Nat, Lib.indexB s sep = i := by
        have : -1 ≤ Lib.indexB s sep := Lib.index_ge _ _
        exact ⟨(Lib.indexB s sep).toNat, by omega⟩
      rw [Lib.splitB_hit _ _ _ _ i hi] at hx
      rcases List.mem_cons.1 hx with rfl | hx
      · simp <;> omega
      · have := ih _ x hx
        simp at this; omega
theorem dots_sizes {s x : ByteArray} {n : Nat} (h : s.size ≤ n) (hx : x ∈ dots s) : x.size ≤ n := Nat.le_trans (splitB_sizes _ _ s x hx) h
theorem dots_len (s : ByteArray) : (dots s).length = Lib.countB s (S [46]) + 1 := Lib.splitB_all _ (by decide) 0 _ s rfl

def SplitEnd (l : List ByteArray) (w : World) (e : Ending) (w' : World) : Prop :=
  e = .returned (.slice (some ⟨w.heap.size, 0, none⟩) l.length l.length) ∧ Below w.heap.size w w' ∧ w'.heap.size = w.heap.size + 1 ∧ ∀ j x, l[j]? = some x → w'.cell? ⟨w.heap.size, j, none⟩ = some (.string x)
theorem split_any (s : ByteArray) (w : World) (E : Env w) (hs : s.size ≤ 1000000) : Calls Tryz.prog 108 #[.string s, .string ⟨#[46]⟩] w (SplitEnd (dots s) w) := by
  obtain ⟨m, hm⟩ := E.maxl
  refine (Tryz.strings_Split s (S [46]) m w (by omega) hm (by decide)).mono fun e w' ⟨he, hw⟩ => ?_
  subst hw
  refine ⟨by rw [he, dots_len], below_alloc w _, by simp, fun j x hx => ?_⟩
  have : (((dots s).map Value.string).toArray)[j]? = some (.string x) := by simp [hx]
  simpa [dots] using this

set_option maxRecDepth 20000 in set_option maxHeartbeats 400000 in
theorem parseName_len (s : ByteArray) (w : World) (E : Env w) (hs : s.size ≤ 1000000) (h : (dots s).length ≠ 3) :
    Calls Tryz.prog 18 #[.string s] w fun e w' => e = .returned (.tuple #[zN, .int .i64 4]) ∧ Below w.heap.size w w' := by
  have hn : (((dots s).length : Int) != 3) = true := by rw [bne_iff_ne]; omega
  clear h
  go_enter Tryz.func18, Tryz.ntmps18
  go_wp2_with fail
  refine (split_any _ _ (E.alloc _) hs).mono ?_
  rintro e w1 ⟨rfl, hb1, hz, hp⟩
  have Hp := Lib.hid hp
  clear hp
  obtain ⟨hc1, hf1⟩ := bcell hb1
  (have hz1 := hb1.size; (try simp at hz1); replace hb1 := below_to (w := w) hb1 (by go_grown) (by first | omega | (simp <;> omega)); have hs1 := hb1.size)
  have f0 : ∀ i, w1.frozen? ⟨w.heap.size, i, none⟩ = false := fun i => by rw [hf1 _ _ (by simp)]; simp
  have k0 : w1.cell? ⟨w.heap.size, 0, none⟩ = some (.int .i64 0) := by rw [hc1 _ _ (by simp)]; simp
  have k1 : w1.cell? ⟨w.heap.size, 1, none⟩ = some (.string ⟨#[]⟩) := by rw [hc1 _ _ (by simp)]; simp
  have k2 : w1.cell? ⟨w.heap.size, 2, none⟩ = some (.int .i64 0) := by rw [hc1 _ _ (by simp)]; simp
  clear hc1 hf1
  go_wp2
  exact bodyPost_ret (v := .tuple #[zN, .int .i64 4]) (by simp [results, Tryz.results18, go_sem, k0, k1, k2]) rfl ⟨rfl, by go_grown⟩

set_option maxRecDepth 20000 in set_option maxHeartbeats 400000 in
theorem parseName_not (s a b c : ByteArray) (w : World) (E : Env w) (hs : s.size ≤ 1000000) (hd : dots s = [a, b, c]) (h : ¬ (okN (rd a) b (rd c) = true ∧ S (tN (rd a) b (rd c)) = s)) :
    Calls Tryz.prog 18 #[.string s] w fun e w' => e = .returned (.tuple #[zN, .int .i64 4]) ∧ Below w.heap.size w w' := by
  have ha : a.size ≤ 1000000 := dots_sizes hs (by rw [hd]; simp)
  have hB : b.size ≤ 1000000 := dots_sizes hs (by rw [hd]; simp)
  have hC : c.size ≤ 1000000 := dots_sizes hs (by rw [hd]; simp)
  have H := Lib.hid h
  have HS := Lib.hid (fun w E => split_any s w E hs)
  rw [hd] at HS
  clear h hd
  go_enter Tryz.func18, Tryz.ntmps18
  go_wp2_with fail
  refine (HS.out _ (E.alloc _)).mono ?_
  rintro e w1 ⟨rfl, hb1, hz, hp⟩
  have hzz : w.heap.size + 1 < w1.heap.size := by rw [hz]; simp
  have hzw : w.heap.size < w1.heap.size := by omega
  clear hz
  have a0 := hp 0 a rfl
  have a1 := hp 1 b rfl
  have a2 := hp 2 c rfl
  clear hp
  obtain ⟨hc1, hf1⟩ := bcell hb1
  (have hz1 := hb1.size; (try simp at hz1); replace hb1 := below_to (w := w) hb1 (by go_grown) (by first | omega | (simp <;> omega)); have hs1 := hb1.size)
  have E1 := E.below hb1
  have f0 : ∀ i, w1.frozen? ⟨w.heap.size, i, none⟩ = false := fun i => by rw [hf1 _ _ (by simp)]; simp
  have k0 : w1.cell? ⟨w.heap.size, 0, none⟩ = some (.int .i64 0) := by rw [hc1 _ _ (by simp)]; simp
  have k1 : w1.cell? ⟨w.heap.size, 1, none⟩ = some (.string ⟨#[]⟩) := by rw [hc1 _ _ (by simp)]; simp
  have k2 : w1.cell? ⟨w.heap.size, 2, none⟩ = some (.int .i64 0) := by rw [hc1 _ _ (by simp)]; simp
  clear hc1 hf1
  simp only [World.size_alloc] at a0 a1 a2
  go_wp2_with fail
  go_region_held3 (fun w' => w'.cell? ⟨w.heap.size + 1, 0, none⟩ = some (.string a) ∧ w'.cell? ⟨w.heap.size + 1, 1, none⟩ = some (.string b) ∧ w'.cell? ⟨w.heap.size + 1, 2, none⟩ = some (.string c)) (first | go_keep | exact ⟨cell_on (B := w1.heap.size) (w := w1) (by assumption) hzz a0, cell_on (B := w1.heap.size) (w := w1) (by assumption) hzz a1, cell_on (B := w1.heap.size) (w := w1) (by assumption) hzz a2⟩)
    (first | (go_at_call_of 102 a; refine (read_any a _ (Env.drew E1) ha).mono ?_; rintro e w3 ⟨rfl, hb3⟩; replace hb3 := below_to (w := w1) hb3 (by go_grown) (by first | omega | (simp <;> omega)); have hs3 := hb3.size; have E3 := E1.below hb3) | (go_at_call_of 102 c; refine (read_any c _ E3 hC).mono ?_; rintro e w4 ⟨rfl, hb4⟩; replace hb4 := below_to (w := w1) hb4 (by go_grown) (by first | omega | (simp <;> omega)); have hs4 := hb4.size; have E4 := E1.below hb4) | (go_at_call 109; refine (sameN_not _ _ _ _ _ E4 hB H.out).mono ?_; rintro e w5 ⟨rfl, hb5⟩; replace hb5 := below_to (w := w1) hb5 (by go_grown) (by first | omega | (simp <;> omega)); have hs5 := hb5.size; have q0 := cell_on hb5 hzw k0; have q1 := cell_on hb5 hzw k1; have q2 := cell_on hb5 hzw k2; have qf : ∀ i, w5.frozen? ⟨w.heap.size, i, none⟩ = false := fun i => (hb5.frozen (p := ⟨w.heap.size, i, none⟩) hzw).trans (f0 i)))
  all_goals
    have hb := below_step hb1 hb5
    go_wp2
    exact bodyPost_ret (v := .tuple #[zN, .int .i64 4]) (by simp [results, Tryz.results18, go_sem, q0, q1, q2]) rfl ⟨rfl, by go_grown⟩
set_option maxRecDepth 20000 in set_option maxHeartbeats 400000 in
theorem parseName_yes (s a b c : ByteArray) (w : World) (E : Env w) (hs : s.size ≤ 1000000) (hd : dots s = [a, b, c]) (h : okN (rd a) b (rd c) = true ∧ S (tN (rd a) b (rd c)) = s) :
    Calls Tryz.prog 18 #[.string s] w fun e w' => e = .returned (.tuple #[vN (rd a) b (rd c), .int .i64 0]) ∧ Below w.heap.size w w' := by
  have ha : a.size ≤ 1000000 := dots_sizes hs (by rw [hd]; simp)
  have hB : b.size ≤ 1000000 := dots_sizes hs (by rw [hd]; simp)
  have hC : c.size ≤ 1000000 := dots_sizes hs (by rw [hd]; simp)
  have H := Lib.hid h
  have HS := Lib.hid (fun w E => split_any s w E hs)
  rw [hd] at HS
  clear h hd
  go_enter Tryz.func18, Tryz.ntmps18
  go_wp2_with fail
  refine (HS.out _ (E.alloc _)).mono ?_
  rintro e w1 ⟨rfl, hb1, hz, hp⟩
  have hzz : w.heap.size + 1 < w1.heap.size := by rw [hz]; simp
  have hzw : w.heap.size < w1.heap.size := by omega
  clear hz
  have a0 := hp 0 a rfl
  have a1 := hp 1 b rfl
  have a2 := hp 2 c rfl
  clear hp
  obtain ⟨hc1, hf1⟩ := bcell hb1
  (have hz1 := hb1.size; (try simp at hz1); replace hb1 := below_to (w := w) hb1 (by go_grown) (by first | omega | (simp <;> omega)); have hs1 := hb1.size)
  have E1 := E.below hb1
  have f0 : ∀ i, w1.frozen? ⟨w.heap.size, i, none⟩ = false := fun i => by rw [hf1 _ _ (by simp)]; simp
  have k0 : w1.cell? ⟨w.heap.size, 0, none⟩ = some (.int .i64 0) := by rw [hc1 _ _ (by simp)]; simp
  have k1 : w1.cell? ⟨w.heap.size, 1, none⟩ = some (.string ⟨#[]⟩) := by rw [hc1 _ _ (by simp)]; simp
  have k2 : w1.cell? ⟨w.heap.size, 2, none⟩ = some (.int .i64 0) := by rw [hc1 _ _ (by simp)]; simp
  clear hc1 hf1
  simp only [World.size_alloc] at a0 a1 a2
  go_wp2_with fail
  go_region_held3 (fun w' => w'.cell? ⟨w.heap.size + 1, 0, none⟩ = some (.string a) ∧ w'.cell? ⟨w.heap.size + 1, 1, none⟩ = some (.string b) ∧ w'.cell? ⟨w.heap.size + 1, 2, none⟩ = some (.string c)) (first | go_keep | exact ⟨cell_on (B := w1.heap.size) (w := w1) (by assumption) hzz a0, cell_on (B := w1.heap.size) (w := w1) (by assumption) hzz a1, cell_on (B := w1.heap.size) (w := w1) (by assumption) hzz a2⟩)
    (first | (go_at_call_of 102 a; refine (read_any a _ (Env.drew E1) ha).mono ?_; rintro e w3 ⟨rfl, hb3⟩; replace hb3 := below_to (w := w1) hb3 (by go_grown) (by first | omega | (simp <;> omega)); have hs3 := hb3.size; have E3 := E1.below hb3) | (go_at_call_of 102 c; refine (read_any c _ E3 hC).mono ?_; rintro e w4 ⟨rfl, hb4⟩; replace hb4 := below_to (w := w1) hb4 (by go_grown) (by first | omega | (simp <;> omega)); have hs4 := hb4.size; have E4 := E1.below hb4) | (go_at_call 109; refine (sameN_yes _ _ _ _ _ E4 hB H.out.1 H.out.2).mono ?_; rintro e w5 ⟨rfl, hb5⟩; replace hb5 := below_to (w := w1) hb5 (by go_grown) (by first | omega | (simp <;> omega)); have hs5 := hb5.size; have q0 := cell_on hb5 hzw k0; have q1 := cell_on hb5 hzw k1; have q2 := cell_on hb5 hzw k2; have qf : ∀ i, w5.frozen? ⟨w.heap.size, i, none⟩ = false := fun i => (hb5.frozen (p := ⟨w.heap.size, i, none⟩) hzw).trans (f0 i)))
  all_goals
    have hb := below_step hb1 hb5
    go_wp2
    exact bodyPost_ret (v := .tuple #[vN (rd a) b (rd c), .int .i64 0]) (by simp [results, Tryz.results18, go_sem, q0, q1, q2]) rfl ⟨rfl, by go_grown⟩
end Go.Proofs.YtnldgcgngolkiaaGreatDoor
