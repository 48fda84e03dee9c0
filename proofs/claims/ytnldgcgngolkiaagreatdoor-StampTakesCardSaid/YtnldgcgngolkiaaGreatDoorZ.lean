/- The law StampParses: the walk. -/
import Derived.Test.YtnldgcgngolkiaaGreatDoorY
namespace Go.Proofs.YtnldgcgngolkiaaGreatDoor
open Go.RowKit
set_option linter.unusedVariables false
set_option linter.unusedSimpArgs false
attribute [local go_sem] givesUpon


set_option maxRecDepth 20000 in set_option maxHeartbeats 1000000 in
theorem parses_long (s : ByteArray) (w : World) (E : Env w) (h : 9000 < s.size) : Calls Tryz.prog 3 #[.string s] w fun e w' => e = .returned (.bool true) ∧ Below w.heap.size w w' := by
  have h9 : (9000 : Int) < s.size := by omega
  go_enter Tryz.func3, Tryz.ntmps3
  go_wp2_with fail
  refine (known_any _ E).mono ?_
  rintro e w1 ⟨rfl, hb1⟩
  go_wp2
  go_ret
  exact ⟨rfl, hb1⟩
set_option maxRecDepth 20000 in set_option maxHeartbeats 1000000 in
theorem num_same (n : Int) (w : World) : Calls Tryz.prog 24 #[.int .i64 n] w fun e w' => e = .returned (.int .i64 n) ∧ w' = w := by
  go_enter Tryz.func24, Tryz.ntmps24
  go_wp2
  go_ret
  exact ⟨rfl, rfl⟩
set_option maxRecDepth 20000 in set_option maxHeartbeats 1000000 in
theorem parses_short (s : ByteArray) (w : World) (E : Env w) (h : ¬ 9000 < s.size) : Calls Tryz.prog 3 #[.string s] w fun e w' => e = .returned (.bool true) ∧ Below w.heap.size w w' := by
  have h9 : ¬ (9000 : Int) < s.size := by omega
  have hs : s.size ≤ 1000000 := by omega
  obtain ⟨r1, l1, n1, a1, b1⟩ := parseBranch_both s hs
  obtain ⟨r2, l2, n2, m2, a2, b2⟩ := parseName_both s hs
  obtain ⟨g3, r3, l3, n3, i3, m3, a3, b3⟩ := parse_both s hs
  obtain ⟨g4, r4, l4, n4, i4, m4, a4, b4⟩ := ofKey_both s hs
  have hb0 := Below.refl w.heap.size w
  have A1 := Lib.hid a1
  have A2 := Lib.hid a2
  have A3 := Lib.hid a3
  have A4 := Lib.hid a4
  have B1 := Lib.hid b1
  have B2 := Lib.hid b2
  have B3 := Lib.hid b3
  have B4 := Lib.hid b4
  clear a1 a2 a3 a4 b1 b2 b3 b4
  go_enter Tryz.func3, Tryz.ntmps3
  (go_wp2_with fail); refine (A1.out _ E).mono ?_; rintro e w1 ⟨rfl, ha1⟩; have hb1 := ha1; have hs0 := hb0.size; replace hb1 := below_to (w := w) hb1 (by go_grown) (by first | omega | (simp <;> omega)); have E1 := E.below hb1
  (go_wp2_with fail); refine (B1.out _ (Env.alloc E1 _)).mono ?_; rintro e w2 ⟨rfl, ha2⟩; have hb2 := ha2; have hs1 := hb1.size; replace hb2 := below_to (w := w) hb2 (by go_grown) (by first | omega | (simp <;> omega)); have E2 := E.below hb2
  (go_wp2_with fail); refine (A2.out _ (Env.alloc E2 _)).mono ?_; rintro e w3 ⟨rfl, ha3⟩; have hb3 := ha3; have hs2 := hb2.size; replace hb3 := below_to (w := w) hb3 (by go_grown) (by first | omega | (simp <;> omega)); have E3 := E.below hb3
  (go_wp2_with fail); refine (B2.out _ (Env.alloc E3 _)).mono ?_; rintro e w4 ⟨rfl, ha4⟩; have hb4 := ha4; have hs3 := hb3.size; replace hb4 := below_to (w := w) hb4 (by go_grown) (by first | omega | (simp <;> omega)); have E4 := E.below hb4
  (go_wp2_with fail); refine (A3.out _ (Env.alloc E4 _)).mono ?_; rintro e w5 ⟨rfl, ha5⟩; have hb5 := ha5; have hs4 := hb4.size; replace hb5 := below_to (w := w) hb5 (by go_grown) (by first | omega | (simp <;> omega)); have E5 := E.below hb5
  (go_wp2_with fail); refine (B3.out _ (Env.alloc E5 _)).mono ?_; rintro e w6 ⟨rfl, ha6⟩; have hb6 := ha6; have hs5 := hb5.size; replace hb6 := below_to (w := w) hb6 (by go_grown) (by first | omega | (simp <;> omega)); have E6 := E.below hb6
  (go_wp2_with fail); refine (A4.out _ (Env.alloc E6 _)).mono ?_; rintro e w7 ⟨rfl, ha7⟩; have hb7 := ha7; have hs6 := hb6.size; replace hb7 := below_to (w := w) hb7 (by go_grown) (by first | omega | (simp <;> omega)); have E7 := E.below hb7
  (go_wp2_with fail); refine (B4.out _ (Env.alloc E7 _)).mono ?_; rintro e w8 ⟨rfl, ha8⟩; have hb8 := ha8; have hs7 := hb7.size; replace hb8 := below_to (w := w) hb8 (by go_grown) (by first | omega | (simp <;> omega)); have E8 := E.below hb8
  have D8 := Below.refl w8.heap.size w8
  have D7 := below_step (below_step (below_alloc w7 _) ha8) D8
  have D6 := below_step (below_step (below_alloc w6 _) ha7) D7
  have D5 := below_step (below_step (below_alloc w5 _) ha6) D6
  have D4 := below_step (below_step (below_alloc w4 _) ha5) D5
  have D3 := below_step (below_step (below_alloc w3 _) ha4) D4
  have D2 := below_step (below_step (below_alloc w2 _) ha3) D3
  have D1 := below_step (below_step (below_alloc w1 _) ha2) D2
  have z1 : w1.heap.size < w2.heap.size := by have := ha2.size; simp at this; omega
  have z2 : w2.heap.size < w3.heap.size := by have := ha3.size; simp at this; omega
  have z3 : w3.heap.size < w4.heap.size := by have := ha4.size; simp at this; omega
  have z4 : w4.heap.size < w5.heap.size := by have := ha5.size; simp at this; omega
  have z5 : w5.heap.size < w6.heap.size := by have := ha6.size; simp at this; omega
  have z6 : w6.heap.size < w7.heap.size := by have := ha7.size; simp at this; omega
  have z7 : w7.heap.size < w8.heap.size := by have := ha8.size; simp at this; omega
  have c10 := cell_on D2 z1 (box_cell ha2 (by simp) 0 rfl)
  have c11 := cell_on D2 z1 (box_cell ha2 (by simp) 1 rfl)
  have c20 := cell_on D3 z2 (box_cell ha3 (by simp) 0 rfl)
  have c21 := cell_on D3 z2 (box_cell ha3 (by simp) 1 rfl)
  have c30 := cell_on D4 z3 (box_cell ha4 (by simp) 0 rfl)
  have c31 := cell_on D4 z3 (box_cell ha4 (by simp) 1 rfl)
  have c32 := cell_on D4 z3 (box_cell ha4 (by simp) 2 rfl)
  have c40 := cell_on D5 z4 (box_cell ha5 (by simp) 0 rfl)
  have c41 := cell_on D5 z4 (box_cell ha5 (by simp) 1 rfl)
  have c42 := cell_on D5 z4 (box_cell ha5 (by simp) 2 rfl)
  have c50 := cell_on D6 z5 (box_cell ha6 (by simp) 0 rfl)
  have c51 := cell_on D6 z5 (box_cell ha6 (by simp) 1 rfl)
  have c52 := cell_on D6 z5 (box_cell ha6 (by simp) 2 rfl)
  have c53 := cell_on D6 z5 (box_cell ha6 (by simp) 3 rfl)
  have c54 := cell_on D6 z5 (box_cell ha6 (by simp) 4 rfl)
  have c60 := cell_on D7 z6 (box_cell ha7 (by simp) 0 rfl)
  have c61 := cell_on D7 z6 (box_cell ha7 (by simp) 1 rfl)
  have c62 := cell_on D7 z6 (box_cell ha7 (by simp) 2 rfl)
  have c63 := cell_on D7 z6 (box_cell ha7 (by simp) 3 rfl)
  have c64 := cell_on D7 z6 (box_cell ha7 (by simp) 4 rfl)
  have c70 := cell_on D8 z7 (box_cell ha8 (by simp) 0 rfl)
  have c71 := cell_on D8 z7 (box_cell ha8 (by simp) 1 rfl)
  have c72 := cell_on D8 z7 (box_cell ha8 (by simp) 2 rfl)
  have c73 := cell_on D8 z7 (box_cell ha8 (by simp) 3 rfl)
  have c74 := cell_on D8 z7 (box_cell ha8 (by simp) 4 rfl)
  have y1 : w1.heap.size < w8.heap.size := by have := D2.size; omega
  have y2 : w2.heap.size < w8.heap.size := by have := D3.size; omega
  have y3 : w3.heap.size < w8.heap.size := by have := D4.size; omega
  have y4 : w4.heap.size < w8.heap.size := by have := D5.size; omega
  have y5 : w5.heap.size < w8.heap.size := by have := D6.size; omega
  have y6 : w6.heap.size < w8.heap.size := by have := D7.size; omega
  have y7 : w7.heap.size < w8.heap.size := by have := D8.size; omega
  clear D1 ha1 D2 ha2 D3 ha3 D4 ha4 D5 ha5 D6 ha6 D7 ha7 D8 ha8 z1 z2 z3 z4 z5 z6 z7
  have EW := Env.alloc E8 (.cells #[.int .i64 g4, .int .i64 r4, .string l4, .int .i64 n4, .int .i64 i4] 37)
  have hW := below_step hb8 (below_alloc w8 (.cells #[.int .i64 g4, .int .i64 r4, .string l4, .int .i64 n4, .int .i64 i4] 37))
  go_wp2_with (first | (go_at_call 24; refine (num_same _ _).mono ?_; rintro e _ ⟨rfl, rfl⟩) | (go_at_call 15; refine (known_any _ EW).mono ?_; rintro e w9 ⟨rfl, hb9⟩))
  go_ret
  exact ⟨rfl, below_step hW hb9⟩
theorem parses_any (s : ByteArray) (w : World) (E : Env w) : Calls Tryz.prog 3 #[.string s] w fun e w' => e = .returned (.bool true) ∧ Below w.heap.size w w' := by
  by_cases h : 9000 < s.size
  · exact parses_long s w E h
  · exact parses_short s w E h
end Go.Proofs.YtnldgcgngolkiaaGreatDoor
