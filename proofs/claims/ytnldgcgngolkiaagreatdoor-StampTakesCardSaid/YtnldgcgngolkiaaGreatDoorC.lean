/- stamp: the texts of branches, names and stamps: the walks. -/
import Derived.Test.YtnldgcgngolkiaaGreatDoorB
namespace Go.Proofs.YtnldgcgngolkiaaGreatDoor
open Go.RowKit
attribute [local go_sem ↓] Go.wp_at_zero Go.wp_at_succ

abbrev S (l : List UInt8) : ByteArray := ⟨l.toArray⟩
def tB (r : Int) (l : ByteArray) : List UInt8 := Lib.itoa r ++ 46 :: l.data.toList
def tN (r : Int) (l : ByteArray) (n : Int) : List UInt8 := tB r l ++ 46 :: Lib.itoa n
def tS (g r : Int) (l : ByteArray) (n i : Int) : List UInt8 := Lib.itoa g ++ 46 :: (tN r l n ++ 46 :: Lib.itoa i)

theorem nDigits_le (u : Nat) (h : u < 10 ^ 19) : Lib.nDigits u ≤ 19 := by
  have key : ∀ (k u : Nat), u < 10 ^ (k + 1) → Lib.nDigits u ≤ k + 1 := by
    intro k
    induction k with
    | zero => intro u hu; rw [Lib.nDigits_small (by omega)]; omega
    | succ k ih =>
      intro u hu
      rcases Nat.lt_or_ge u 10 with h1 | h1
      · rw [Lib.nDigits_small h1]; omega
      · rw [Lib.nDigits_big (by omega)]
        have := ih (u / 10) (by rw [Nat.pow_succ] at hu; omega)
        omega
  exact key 18 u h
theorem itoa_len (n : Int) (h0 : -9223372036854775808 ≤ n) (h1 : n ≤ 9223372036854775807) : (Lib.itoa n).length ≤ 20 := by
  unfold Lib.itoa
  split
  · have := nDigits_le n.natAbs (by omega)
    simp [Lib.decDigits_length]; omega
  · have := nDigits_le n.toNat (by omega)
    simp [Lib.decDigits_length]; omega
set_option maxRecDepth 20000 in set_option maxHeartbeats 400000 in
theorem sdigits_any (n : Int) (w : World) (E : Env w) (h0 : -9223372036854775808 ≤ n) (h1 : n ≤ 9223372036854775807) :
    Calls Tryz.prog 143 #[.int .i64 n] w fun e w' => e = .returned (.string (S (Lib.itoa n))) ∧ Below w.heap.size w w' := by
  have H := Lib.hid (digits_any n w E h0 h1)
  clear h0 h1
  go_enter Tryz.func143, Tryz.ntmps143
  go_wp2_with (go_at_call 158; refine H.out.mono ?_; rintro e w1 ⟨rfl, hb1⟩)
  go_ret
  exact ⟨rfl, hb1⟩

set_option maxRecDepth 20000 in set_option maxHeartbeats 400000 in
theorem stext_any (bk o c : Nat) (xs : List ByteArray) (w : World) (hcells : ∀ (j : Nat) x, xs[j]? = some x → w.cell? ⟨bk, o + j, none⟩ = some (.string x))
    (hbk : bk < w.heap.size) (hN : xs.length ≤ 100) (hcap : xs.length ≤ c) (hlen : (Lib.join (xs.map (·.data.toList)) [46]).length ≤ 10000000) :
    Calls Tryz.prog 142 #[.slice (some ⟨bk, o, none⟩) xs.length c] w fun e w' => e = .returned (.string (S (Lib.join (xs.map (·.data.toList)) [46]))) ∧ Below w.heap.size w w' := by
  have H := Lib.hid (Tryz.strings_Join bk o c xs (S [46]) w hcells hbk (by omega) hcap (by simpa using Nat.le_trans hlen (by omega)))
  clear hcells hlen
  go_enter Tryz.func142, Tryz.ntmps142
  go_wp2_with (go_at_call 161; refine H.out.mono ?_; rintro e w1 ⟨rfl, hb1⟩)
  go_ret
  exact ⟨rfl, hb1⟩

theorem two_cells {w : World} {b : Nat} (x y : ByteArray) (h0 : w.cell? ⟨b, 0, none⟩ = some (.string x)) (h1 : w.cell? ⟨b, 1, none⟩ = some (.string y)) :
    ∀ (j : Nat) z, [x, y][j]? = some z → w.cell? ⟨b, 0 + j, none⟩ = some (.string z) := by
  intro j z hz
  match j, hz with
  | 0, hz => simp at hz; rw [← hz]; exact h0
  | 1, hz => simp at hz; rw [← hz]; exact h1
set_option maxRecDepth 20000 in set_option maxHeartbeats 400000 in
theorem stextBranch_no (r : Int) (l : ByteArray) (w : World) (hs : l.size ≤ 1000000) (h : okB r l = false) :
    Calls Tryz.prog 103 #[vB r l] w fun e w' => e = .returned (.tuple #[.string (S []), .int .i64 2]) ∧ Below w.heap.size w w' := by
  have HB := Lib.hid h
  clear h
  go_enter Tryz.func103, Tryz.ntmps103
  go_wp2_with (go_at_call 122; refine (branch_any _ _ _ hs).mono ?_; rw [HB.out]; rintro e w1 ⟨rfl, hb1⟩; replace hb1 := below_to (w := w) hb1 (by go_grown) (by simp))
  go_ret2
  exact ⟨rfl, hb1⟩

set_option maxRecDepth 20000 in set_option maxHeartbeats 400000 in
theorem stextBranch_yes (r : Int) (l : ByteArray) (w : World) (E : Env w) (hs : l.size ≤ 1000000) (h : okB r l = true) :
    Calls Tryz.prog 103 #[vB r l] w fun e w' => e = .returned (.tuple #[.string (S (tB r l)), .int .i64 0]) ∧ Below w.heap.size w w' := by
  have HB := Lib.hid h
  clear h
  go_enter Tryz.func103, Tryz.ntmps103
  go_wp2_with (go_at_call 122; refine (branch_any _ _ _ hs).mono ?_; rw [HB.out]; rintro e w1 ⟨rfl, hb1⟩; obtain ⟨hc, hf⟩ := bcell hb1; have hz := hb1.size; simp at hz; replace hb1 := below_to (w := w) hb1 (by go_grown) (by simp))
  have c0 : w1.cell? ⟨w.heap.size, 0, none⟩ = some (.int .i64 r) := by rw [hc _ _ (by simp)]; simp
  have c1 : w1.cell? ⟨w.heap.size, 1, none⟩ = some (.string l) := by rw [hc _ _ (by simp)]; simp
  have E1 := E.below hb1
  have hz1 : w.heap.size < w1.heap.size := by omega
  clear hc hf
  have hr : 0 ≤ r ∧ r < 8 := by have := HB.out; simp [okB] at this; omega
  have r0 : -9223372036854775808 ≤ r := by omega
  have r1 : r ≤ 9223372036854775807 := by omega
  have hj : (Lib.join ([S (Lib.itoa r), l].map (·.data.toList)) [46]).length ≤ 10000000 := by
    have := itoa_len r r0 r1
    simp [Lib.join_cons, Lib.joinTail]; omega
  go_region_held3 (fun w' => w'.cell? ⟨w.heap.size, 0, none⟩ = some (.int .i64 r) ∧ w'.cell? ⟨w.heap.size, 1, none⟩ = some (.string l)) (first | go_keep | exact ⟨(Below.cell (B := w1.heap.size) (w := w1) (by assumption) hz1).trans c0, (Below.cell (B := w1.heap.size) (w := w1) (by assumption) hz1).trans c1⟩)
    (first | (go_at_call 143; refine (sdigits_any r _ (Env.drew E1) r0 r1).mono ?_; rintro e w2 ⟨rfl, hb2⟩; replace hb2 := below_to (w := w1) hb2 (by go_grown) (by simp); have hs2 := hb2.size) | (go_at_call 142; refine (stext_any w2.heap.size 0 2 [S (Lib.itoa r), l] _ (two_cells _ _ (by simp) (by simp)) (by simp) (by simp) (by simp) hj).mono ?_; rintro e w3 ⟨rfl, hb3⟩; replace hb3 := below_to (w := w1) hb3 (by go_grown) (by first | omega | (simp <;> omega))))
  go_wp2
  go_ret2
  exact ⟨by simp [tB, S, Lib.join_cons, Lib.joinTail], below_step hb1 hb3⟩

theorem three_cells {w : World} {b : Nat} (x y v : ByteArray) (h0 : w.cell? ⟨b, 0, none⟩ = some (.string x)) (h1 : w.cell? ⟨b, 1, none⟩ = some (.string y)) (h2 : w.cell? ⟨b, 2, none⟩ = some (.string v)) :
    ∀ (j : Nat) z, [x, y, v][j]? = some z → w.cell? ⟨b, 0 + j, none⟩ = some (.string z) := by
  intro j z hz
  match j, hz with
  | 0, hz => simp at hz; rw [← hz]; exact h0
  | 1, hz => simp at hz; rw [← hz]; exact h1
  | 2, hz => simp at hz; rw [← hz]; exact h2

theorem tB_len (r : Int) (l : ByteArray) (hs : l.size ≤ 1000000) (h : okB r l = true) : (tB r l).length ≤ 1000100 := by
  have hr : 0 ≤ r ∧ r < 8 := by simp [okB] at h; omega
  have := itoa_len r (by omega) (by omega)
  simp [tB]; omega
theorem tN_len (r : Int) (l : ByteArray) (n : Int) (hs : l.size ≤ 1000000) (h : okN r l n = true) : (tN r l n).length ≤ 1000200 := by
  have h1 : okB r l = true ∧ 1 ≤ n ∧ n ≤ 4611686018427387904 := okN_iff.1 h
  have := tB_len r l hs h1.1
  have := itoa_len n (by omega) (by omega)
  simp [tN]; omega

set_option maxRecDepth 20000 in set_option maxHeartbeats 400000 in
theorem stextName_no (r : Int) (l : ByteArray) (n : Int) (w : World) (hs : l.size ≤ 1000000) (h : okN r l n = false) :
    Calls Tryz.prog 110 #[vN r l n] w fun e w' => e = .returned (.tuple #[.string (S []), .int .i64 2]) ∧ Below w.heap.size w w' := by
  have HB := Lib.hid h
  clear h
  go_enter Tryz.func110, Tryz.ntmps110
  go_wp2_with (go_at_call 127; refine (name_any _ _ _ _ hs).mono ?_; rw [HB.out]; rintro e w1 ⟨rfl, hb1⟩; replace hb1 := below_to (w := w) hb1 (by go_grown) (by simp))
  go_ret2
  exact ⟨rfl, hb1⟩

set_option maxRecDepth 20000 in set_option maxHeartbeats 400000 in
theorem stextName_yes (r : Int) (l : ByteArray) (n : Int) (w : World) (E : Env w) (hs : l.size ≤ 1000000) (h : okN r l n = true) :
    Calls Tryz.prog 110 #[vN r l n] w fun e w' => e = .returned (.tuple #[.string (S (tN r l n)), .int .i64 0]) ∧ Below w.heap.size w w' := by
  have h1 : okB r l = true ∧ 1 ≤ n ∧ n ≤ 4611686018427387904 := okN_iff.1 h
  have H1 := Lib.hid h1.1
  have n0 : -9223372036854775808 ≤ n := by omega
  have n1 : n ≤ 9223372036854775807 := by omega
  have hj : (Lib.join ([S (tB r l), S (Lib.itoa n)].map (·.data.toList)) [46]).length ≤ 10000000 := by
    have := itoa_len n n0 n1
    have := tB_len r l hs h1.1
    simp [Lib.join_cons, Lib.joinTail]; omega
  have HB := Lib.hid h
  clear h h1
  go_enter Tryz.func110, Tryz.ntmps110
  go_wp2_with fail
  refine (name_any _ _ _ _ hs).mono ?_
  rw [HB.out]
  rintro e w1 ⟨rfl, hb1⟩
  have c0 := box_cell hb1 (by simp) 0 rfl
  have c1 := box_cell hb1 (by simp) 1 rfl
  have c2 := box_cell hb1 (by simp) 2 rfl
  (have hz1 := hb1.size; (try simp at hz1); replace hb1 := below_to (w := w) hb1 (by go_grown) (by first | omega | (simp <;> omega)); have hs1 := hb1.size)
  have E1 := E.below hb1
  go_wp2_with fail
  refine (stextBranch_yes _ _ _ E1 hs H1.out).mono ?_
  rintro e w2 ⟨rfl, hb2⟩
  have d2 := cell_on hb2 (by simp; omega) c2
  (have hz2 := hb2.size; (try simp at hz2); replace hb2 := below_to (w := w1) hb2 (by go_grown) (by first | omega | (simp <;> omega)); have hs2 := hb2.size)
  have E2 := E1.below hb2
  go_wp2_with fail
  refine (sdigits_any n _ E2 n0 n1).mono ?_
  rintro e w3 ⟨rfl, hb3⟩
  (have hz3 := hb3.size; (try simp at hz3); replace hb3 := below_to (w := w2) hb3 (by go_grown) (by first | omega | (simp <;> omega)); have hs3 := hb3.size)
  go_wp2_with fail
  refine (stext_any w3.heap.size 0 2 [S (tB r l), S (Lib.itoa n)] _ (two_cells _ _ (by simp) (by simp)) (by simp) (by simp) (by simp) hj).mono ?_
  rintro e w4 ⟨rfl, hb4⟩
  (have hz4 := hb4.size; (try simp at hz4); replace hb4 := below_to (w := w3) hb4 (by go_grown) (by first | omega | (simp <;> omega)); have hs4 := hb4.size)
  go_wp2
  go_ret2
  exact ⟨by simp [tN, Lib.join_cons, Lib.joinTail], below_step hb1 (below_step hb2 (below_step hb3 hb4))⟩

set_option maxRecDepth 20000 in set_option maxHeartbeats 400000 in
theorem stextStamp_no (g r : Int) (l : ByteArray) (n i : Int) (w : World) (hs : l.size ≤ 1000000) (h : okS g r l n i = false) :
    Calls Tryz.prog 39 #[vS g r l n i] w fun e w' => e = .returned (.tuple #[.string (S []), .int .i64 2]) ∧ Below w.heap.size w w' := by
  have HB := Lib.hid h
  clear h
  go_enter Tryz.func39, Tryz.ntmps39
  go_wp2_with (go_at_call 133; refine (stamp_any _ _ _ _ _ _ hs).mono ?_; rw [HB.out]; rintro e w1 ⟨rfl, hb1⟩; replace hb1 := below_to (w := w) hb1 (by go_grown) (by simp))
  go_ret2
  exact ⟨rfl, hb1⟩

set_option maxRecDepth 20000 in set_option maxHeartbeats 400000 in
theorem stextStamp_yes (g r : Int) (l : ByteArray) (n i : Int) (w : World) (E : Env w) (hs : l.size ≤ 1000000) (h : okS g r l n i = true) :
    Calls Tryz.prog 39 #[vS g r l n i] w fun e w' => e = .returned (.tuple #[.string (S (tS g r l n i)), .int .i64 0]) ∧ Below w.heap.size w w' := by
  have h1 := okS_iff.1 h
  have H1 := Lib.hid h1.2.2.1
  have g0 : -9223372036854775808 ≤ g := by omega
  have g1 : g ≤ 9223372036854775807 := by omega
  have i0 : -9223372036854775808 ≤ i := by omega
  have i1 : i ≤ 9223372036854775807 := by omega
  have hj : (Lib.join ([S (Lib.itoa g), S (tN r l n), S (Lib.itoa i)].map (·.data.toList)) [46]).length ≤ 10000000 := by
    have := itoa_len g g0 g1
    have := itoa_len i i0 i1
    have := tN_len r l n hs h1.2.2.1
    simp [Lib.join_cons, Lib.joinTail]; omega
  have HB := Lib.hid h
  clear h h1
  go_enter Tryz.func39, Tryz.ntmps39
  go_wp2_with fail
  refine (stamp_any _ _ _ _ _ _ hs).mono ?_
  rw [HB.out]
  rintro e w1 ⟨rfl, hb1⟩
  have c0 := box_cell hb1 (by simp) 0 rfl
  have c1 := box_cell hb1 (by simp) 1 rfl
  have c2 := box_cell hb1 (by simp) 2 rfl
  have c3 := box_cell hb1 (by simp) 3 rfl
  have c4 := box_cell hb1 (by simp) 4 rfl
  (have hz1 := hb1.size; (try simp at hz1); replace hb1 := below_to (w := w) hb1 (by go_grown) (by first | omega | (simp <;> omega)); have hs1 := hb1.size)
  have E1 := E.below hb1
  go_wp2_with fail
  refine (stextName_yes _ _ _ _ E1 hs H1.out).mono ?_
  rintro e w2 ⟨rfl, hb2⟩
  have d0 := cell_on hb2 (by simp; omega) c0
  have d4 := cell_on hb2 (by simp; omega) c4
  (have hz2 := hb2.size; (try simp at hz2); replace hb2 := below_to (w := w1) hb2 (by go_grown) (by first | omega | (simp <;> omega)); have hs2 := hb2.size)
  have E2 := E1.below hb2
  clear c0 c1 c2 c3 c4
  go_wp2_with fail
  go_region_held3 (fun w' => w'.cell? ⟨w.heap.size, 0, none⟩ = some (.int .i64 g) ∧ w'.cell? ⟨w.heap.size, 4, none⟩ = some (.int .i64 i)) (first | go_keep | exact ⟨(Below.cell (B := w2.heap.size) (w := w2) (by assumption) (show w.heap.size < w2.heap.size by omega)).trans d0, (Below.cell (B := w2.heap.size) (w := w2) (by assumption) (show w.heap.size < w2.heap.size by omega)).trans d4⟩)
    (first | (go_at_call_of 143 g; refine (sdigits_any g _ (Env.drew E2) g0 g1).mono ?_; rintro e w3 ⟨rfl, hb3⟩; replace hb3 := below_to (w := w2) hb3 (by go_grown) (by first | omega | (simp <;> omega)); have hs3 := hb3.size; have E3 := E2.below hb3) | (go_at_call_of 143 i; refine (sdigits_any i _ E3 i0 i1).mono ?_; rintro e w4 ⟨rfl, hb4⟩; replace hb4 := below_to (w := w2) hb4 (by go_grown) (by first | omega | (simp <;> omega)); have hs4 := hb4.size) | (go_at_call 142; refine (stext_any w4.heap.size 0 3 [S (Lib.itoa g), S (tN r l n), S (Lib.itoa i)] _ (three_cells _ _ _ (by simp) (by simp) (by simp)) (by simp) (by simp) (by simp) hj).mono ?_; rintro e w5 ⟨rfl, hb5⟩; replace hb5 := below_to (w := w2) hb5 (by go_grown) (by first | omega | (simp <;> omega))))
  all_goals
    go_wp2
    go_ret2
    exact ⟨by simp [tS, S, Lib.join_cons, Lib.joinTail], below_step hb1 (below_step hb2 (by assumption))⟩
end Go.Proofs.YtnldgcgngolkiaaGreatDoor
