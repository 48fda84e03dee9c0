/- stamp: branches, names and stamps out of texts: the walks. -/
import Derived.Test.YtnldgcgngolkiaaGreatDoorC
namespace Go.Proofs.YtnldgcgngolkiaaGreatDoor
open Go.RowKit
attribute [local go_sem ↓] Go.wp_at_zero Go.wp_at_succ

def rd (s : ByteArray) : Int := if (pint s).2 then (pint s).1 else 0

set_option maxRecDepth 20000 in set_option maxHeartbeats 400000 in
theorem read_any (s : ByteArray) (w : World) (E : Env w) (hs : s.size ≤ 1000000) :
    Calls Tryz.prog 102 #[.string s] w fun e w' => e = .returned (.int .i64 (rd s)) ∧ Below w.heap.size w w' := by
  have H := Lib.hid (pint_any s w E hs)
  have Hr := Lib.hid (show rd s = if (pint s).2 then (pint s).1 else 0 from rfl)
  go_enter Tryz.func102, Tryz.ntmps102
  go_wp2_with fail
  refine H.out.mono ?_
  rintro e w1 ⟨⟨er, her, rfl⟩, hb1⟩
  rcases her with ⟨hp, rfl⟩ | ⟨hp, t, p, rfl⟩
  all_goals
    have Hp := Lib.hid hp
    clear hp
    go_wp2
    go_ret
    exact ⟨ret_int (by rw [Hr.out, Hp.out]; rfl), hb1⟩

abbrev zB : Value := .agg #[.int .i64 0, .string ⟨#[]⟩]
abbrev zN : Value := .agg #[.int .i64 0, .string ⟨#[]⟩, .int .i64 0]
abbrev zS : Value := .agg #[.int .i64 0, .int .i64 0, .string ⟨#[]⟩, .int .i64 0, .int .i64 0]

theorem toList_ne {a : List UInt8} {s : ByteArray} (h : (!(a == s.toList)) = false) : S a = s := by
  rw [Lib.toList_data] at h
  simp at h
  rw [h, S, str_eta]
theorem toList_eq {a : List UInt8} {s : ByteArray} (h : S a = s) : (!(a == s.toList)) = false := by
  rw [Lib.toList_data, ← h]
  simp

set_option maxRecDepth 20000 in set_option maxHeartbeats 400000 in
theorem sameB_no (r : Int) (l : ByteArray) (s : ByteArray) (w : World) (hs : l.size ≤ 1000000) (h : okB r l = false) :
    Calls Tryz.prog 101 #[vB r l, .string s, .func (.func 103) #[] #[]] w fun e w' => e = .returned (.tuple #[zB, .int .i64 4]) ∧ Below w.heap.size w w' := by
  have HB := Lib.hid h
  clear h
  go_enter Tryz.func101, Tryz.ntmps101
  go_wp2_with fail
  refine (stextBranch_no _ _ _ hs HB.out).mono ?_
  rintro e w1 ⟨rfl, hb1⟩
  obtain ⟨hc, hf⟩ := bcell hb1
  (have hz1 := hb1.size; (try simp at hz1); replace hb1 := below_to (w := w) hb1 (by go_grown) (by first | omega | (simp <;> omega)); have hs1 := hb1.size)
  go_wp2
  exact bodyPost_ret (v := .tuple #[zB, .int .i64 4]) (by simp [results, Tryz.results101, go_sem, hc]) rfl ⟨rfl, by go_grown⟩

set_option maxRecDepth 20000 in set_option maxHeartbeats 400000 in
theorem sameB_ne (r : Int) (l : ByteArray) (s : ByteArray) (w : World) (E : Env w) (hs : l.size ≤ 1000000) (h : okB r l = true) (hne : ¬ S (tB r l) = s) :
    Calls Tryz.prog 101 #[vB r l, .string s, .func (.func 103) #[] #[]] w fun e w' => e = .returned (.tuple #[zB, .int .i64 4]) ∧ Below w.heap.size w w' := by
  have HB := Lib.hid h
  have HN := Lib.hid hne
  clear h hne
  go_enter Tryz.func101, Tryz.ntmps101
  go_wp2_with fail
  refine (stextBranch_yes _ _ _ (E.below (by go_grown)) hs HB.out).mono ?_
  rintro e w1 ⟨rfl, hb1⟩
  obtain ⟨hc, hf⟩ := bcell hb1
  (have hz1 := hb1.size; (try simp at hz1); replace hb1 := below_to (w := w) hb1 (by go_grown) (by first | omega | (simp <;> omega)); have hs1 := hb1.size)
  go_wp2
  · exact bodyPost_ret (v := .tuple #[zB, .int .i64 4]) (by simp [results, Tryz.results101, go_sem, hc]) rfl ⟨rfl, by go_grown⟩
  · exact absurd (toList_ne (by assumption)) HN.out

theorem sameB_not (r : Int) (l : ByteArray) (s : ByteArray) (w : World) (E : Env w) (hs : l.size ≤ 1000000) (h : ¬ (okB r l = true ∧ S (tB r l) = s)) :
    Calls Tryz.prog 101 #[vB r l, .string s, .func (.func 103) #[] #[]] w fun e w' => e = .returned (.tuple #[zB, .int .i64 4]) ∧ Below w.heap.size w w' := by
  cases hb : okB r l with
  | false => exact sameB_no _ _ s w hs hb
  | true => exact sameB_ne _ _ s w E hs hb (fun he => h ⟨hb, he⟩)

set_option maxRecDepth 20000 in set_option maxHeartbeats 400000 in
theorem sameB_yes (r : Int) (l : ByteArray) (s : ByteArray) (w : World) (E : Env w) (hs : l.size ≤ 1000000) (h : okB r l = true) (he : S (tB r l) = s) :
    Calls Tryz.prog 101 #[vB r l, .string s, .func (.func 103) #[] #[]] w fun e w' => e = .returned (.tuple #[vB r l, .int .i64 0]) ∧ Below w.heap.size w w' := by
  have HB := Lib.hid h
  have ht := toList_eq he
  clear h he
  go_enter Tryz.func101, Tryz.ntmps101
  go_wp2_with fail
  refine (stextBranch_yes _ _ _ (E.below (by go_grown)) hs HB.out).mono ?_
  rintro e w1 ⟨rfl, hb1⟩
  obtain ⟨hc, hf⟩ := bcell hb1
  (have hz1 := hb1.size; (try simp at hz1); replace hb1 := below_to (w := w) hb1 (by go_grown) (by first | omega | (simp <;> omega)); have hs1 := hb1.size)
  go_wp2
  exact bodyPost_ret (v := .tuple #[vB r l, .int .i64 0]) (by simp [results, Tryz.results101, go_sem, hc]) rfl ⟨rfl, by go_grown⟩
set_option maxRecDepth 20000 in set_option maxHeartbeats 400000 in
theorem sameN_no (r : Int) (l : ByteArray) (n : Int) (s : ByteArray) (w : World) (hs : l.size ≤ 1000000) (h : okN r l n = false) :
    Calls Tryz.prog 109 #[vN r l n, .string s, .func (.func 110) #[] #[]] w fun e w' => e = .returned (.tuple #[zN, .int .i64 4]) ∧ Below w.heap.size w w' := by
  have HB := Lib.hid h
  clear h
  go_enter Tryz.func109, Tryz.ntmps109
  go_wp2_with fail
  refine (stextName_no _ _ _ _ hs HB.out).mono ?_
  rintro e w1 ⟨rfl, hb1⟩
  obtain ⟨hc, hf⟩ := bcell hb1
  (have hz1 := hb1.size; (try simp at hz1); replace hb1 := below_to (w := w) hb1 (by go_grown) (by first | omega | (simp <;> omega)); have hs1 := hb1.size)
  go_wp2
  exact bodyPost_ret (v := .tuple #[zN, .int .i64 4]) (by simp [results, Tryz.results109, go_sem, hc]) rfl ⟨rfl, by go_grown⟩

set_option maxRecDepth 20000 in set_option maxHeartbeats 400000 in
theorem sameN_ne (r : Int) (l : ByteArray) (n : Int) (s : ByteArray) (w : World) (E : Env w) (hs : l.size ≤ 1000000) (h : okN r l n = true) (hne : ¬ S (tN r l n) = s) :
    Calls Tryz.prog 109 #[vN r l n, .string s, .func (.func 110) #[] #[]] w fun e w' => e = .returned (.tuple #[zN, .int .i64 4]) ∧ Below w.heap.size w w' := by
  have HB := Lib.hid h
  have HN := Lib.hid hne
  clear h hne
  go_enter Tryz.func109, Tryz.ntmps109
  go_wp2_with fail
  refine (stextName_yes _ _ _ _ (E.below (by go_grown)) hs HB.out).mono ?_
  rintro e w1 ⟨rfl, hb1⟩
  obtain ⟨hc, hf⟩ := bcell hb1
  (have hz1 := hb1.size; (try simp at hz1); replace hb1 := below_to (w := w) hb1 (by go_grown) (by first | omega | (simp <;> omega)); have hs1 := hb1.size)
  go_wp2
  · exact bodyPost_ret (v := .tuple #[zN, .int .i64 4]) (by simp [results, Tryz.results109, go_sem, hc]) rfl ⟨rfl, by go_grown⟩
  · exact absurd (toList_ne (by assumption)) HN.out

theorem sameN_not (r : Int) (l : ByteArray) (n : Int) (s : ByteArray) (w : World) (E : Env w) (hs : l.size ≤ 1000000) (h : ¬ (okN r l n = true ∧ S (tN r l n) = s)) :
    Calls Tryz.prog 109 #[vN r l n, .string s, .func (.func 110) #[] #[]] w fun e w' => e = .returned (.tuple #[zN, .int .i64 4]) ∧ Below w.heap.size w w' := by
  cases hb : okN r l n with
  | false => exact sameN_no _ _ _ s w hs hb
  | true => exact sameN_ne _ _ _ s w E hs hb (fun he => h ⟨hb, he⟩)

set_option maxRecDepth 20000 in set_option maxHeartbeats 400000 in
theorem sameN_yes (r : Int) (l : ByteArray) (n : Int) (s : ByteArray) (w : World) (E : Env w) (hs : l.size ≤ 1000000) (h : okN r l n = true) (he : S (tN r l n) = s) :
    Calls Tryz.prog 109 #[vN r l n, .string s, .func (.func 110) #[] #[]] w fun e w' => e = .returned (.tuple #[vN r l n, .int .i64 0]) ∧ Below w.heap.size w w' := by
  have HB := Lib.hid h
  have ht := toList_eq he
  clear h he
  go_enter Tryz.func109, Tryz.ntmps109
  go_wp2_with fail
  refine (stextName_yes _ _ _ _ (E.below (by go_grown)) hs HB.out).mono ?_
  rintro e w1 ⟨rfl, hb1⟩
  obtain ⟨hc, hf⟩ := bcell hb1
  (have hz1 := hb1.size; (try simp at hz1); replace hb1 := below_to (w := w) hb1 (by go_grown) (by first | omega | (simp <;> omega)); have hs1 := hb1.size)
  go_wp2
  exact bodyPost_ret (v := .tuple #[vN r l n, .int .i64 0]) (by simp [results, Tryz.results109, go_sem, hc]) rfl ⟨rfl, by go_grown⟩
set_option maxRecDepth 20000 in set_option maxHeartbeats 400000 in
theorem sameS_no (g r : Int) (l : ByteArray) (n i : Int) (s : ByteArray) (w : World) (hs : l.size ≤ 1000000) (h : okS g r l n i = false) :
    Calls Tryz.prog 113 #[vS g r l n i, .string s, .func (.func 39) #[] #[]] w fun e w' => e = .returned (.tuple #[zS, .int .i64 4]) ∧ Below w.heap.size w w' := by
  have HB := Lib.hid h
  clear h
  go_enter Tryz.func113, Tryz.ntmps113
  go_wp2_with fail
  refine (stextStamp_no _ _ _ _ _ _ hs HB.out).mono ?_
  rintro e w1 ⟨rfl, hb1⟩
  obtain ⟨hc, hf⟩ := bcell hb1
  (have hz1 := hb1.size; (try simp at hz1); replace hb1 := below_to (w := w) hb1 (by go_grown) (by first | omega | (simp <;> omega)); have hs1 := hb1.size)
  go_wp2
  exact bodyPost_ret (v := .tuple #[zS, .int .i64 4]) (by simp [results, Tryz.results113, go_sem, hc]) rfl ⟨rfl, by go_grown⟩

set_option maxRecDepth 20000 in set_option maxHeartbeats 400000 in
theorem sameS_ne (g r : Int) (l : ByteArray) (n i : Int) (s : ByteArray) (w : World) (E : Env w) (hs : l.size ≤ 1000000) (h : okS g r l n i = true) (hne : ¬ S (tS g r l n i) = s) :
    Calls Tryz.prog 113 #[vS g r l n i, .string s, .func (.func 39) #[] #[]] w fun e w' => e = .returned (.tuple #[zS, .int .i64 4]) ∧ Below w.heap.size w w' := by
  have HB := Lib.hid h
  have HN := Lib.hid hne
  clear h hne
  go_enter Tryz.func113, Tryz.ntmps113
  go_wp2_with fail
  refine (stextStamp_yes _ _ _ _ _ _ (E.below (by go_grown)) hs HB.out).mono ?_
  rintro e w1 ⟨rfl, hb1⟩
  obtain ⟨hc, hf⟩ := bcell hb1
  (have hz1 := hb1.size; (try simp at hz1); replace hb1 := below_to (w := w) hb1 (by go_grown) (by first | omega | (simp <;> omega)); have hs1 := hb1.size)
  go_wp2
  · exact bodyPost_ret (v := .tuple #[zS, .int .i64 4]) (by simp [results, Tryz.results113, go_sem, hc]) rfl ⟨rfl, by go_grown⟩
  · exact absurd (toList_ne (by assumption)) HN.out

theorem sameS_not (g r : Int) (l : ByteArray) (n i : Int) (s : ByteArray) (w : World) (E : Env w) (hs : l.size ≤ 1000000) (h : ¬ (okS g r l n i = true ∧ S (tS g r l n i) = s)) :
    Calls Tryz.prog 113 #[vS g r l n i, .string s, .func (.func 39) #[] #[]] w fun e w' => e = .returned (.tuple #[zS, .int .i64 4]) ∧ Below w.heap.size w w' := by
  cases hb : okS g r l n i with
  | false => exact sameS_no _ _ _ _ _ s w hs hb
  | true => exact sameS_ne _ _ _ _ _ s w E hs hb (fun he => h ⟨hb, he⟩)

set_option maxRecDepth 20000 in set_option maxHeartbeats 400000 in
theorem sameS_yes (g r : Int) (l : ByteArray) (n i : Int) (s : ByteArray) (w : World) (E : Env w) (hs : l.size ≤ 1000000) (h : okS g r l n i = true) (he : S (tS g r l n i) = s) :
    Calls Tryz.prog 113 #[vS g r l n i, .string s, .func (.func 39) #[] #[]] w fun e w' => e = .returned (.tuple #[vS g r l n i, .int .i64 0]) ∧ Below w.heap.size w w' := by
  have HB := Lib.hid h
  have ht := toList_eq he
  clear h he
  go_enter Tryz.func113, Tryz.ntmps113
  go_wp2_with fail
  refine (stextStamp_yes _ _ _ _ _ _ (E.below (by go_grown)) hs HB.out).mono ?_
  rintro e w1 ⟨rfl, hb1⟩
  obtain ⟨hc, hf⟩ := bcell hb1
  (have hz1 := hb1.size; (try simp at hz1); replace hb1 := below_to (w := w) hb1 (by go_grown) (by first | omega | (simp <;> omega)); have hs1 := hb1.size)
  go_wp2
  exact bodyPost_ret (v := .tuple #[vS g r l n i, .int .i64 0]) (by simp [results, Tryz.results113, go_sem, hc]) rfl ⟨rfl, by go_grown⟩

end Go.Proofs.YtnldgcgngolkiaaGreatDoor
