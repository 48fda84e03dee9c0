/- stamp.back, stamp.OfKey: the walks. -/
import Derived.Test.YtnldgcgngolkiaaGreatDoorL
namespace Go.Proofs.YtnldgcgngolkiaaGreatDoor
open Go.RowKit
set_option linter.unusedVariables false
set_option linter.unusedSimpArgs false
def backStep (z : Int) (c : UInt8) : Int := bits .or .i64 (wrap64 (z * 256)) (wrap64 c.toNat)
def backL (l : List UInt8) : Int := l.foldl backStep 0
theorem backL_snoc {l : List UInt8} {k : Nat} {c : UInt8} (h : l[k]? = some c) : backL (l.take (k + 1)) = backStep (backL (l.take k)) c := by
  rw [List.take_add_one, h]; simp [backL]
def back8 (s : ByteArray) : Int := backL (s.data.toList.take 8)

set_option maxRecDepth 20000 in set_option maxHeartbeats 1000000 in
theorem back_any (s : ByteArray) (w : World) (hs : 8 ≤ s.size) (hs1 : s.size ≤ 1000000) :
    Calls Tryz.prog 116 #[.string s] w fun e w' => e = .returned (.int .i64 (back8 s)) ∧ Below w.heap.size w w' := by
  have h8 : (8 : Int) ≤ s.size := by omega
  obtain ⟨cap, w1, hconv, hb, hz, hc⟩ := conv_bytes w (s.extract 0 8)
  go_enter Tryz.func116, Tryz.ntmps116
  go_wp2
  have Hc := Lib.hid hc
  clear hc hconv
  have HB := Lib.hid (show back8 s = backL (s.data.toList.take 8) from rfl)
  go_loop [3, 10] (fun v i => ∃ k : Nat, k ≤ 8 ∧ i = .int .i64 k ∧ v = .int .i64 (backL (s.data.toList.take k))) (fun _ i => 8 - (intOf i).toNat)
  case atStart => exact ⟨0, by omega, rfl, rfl⟩
  case round =>
    obtain ⟨k, hk, rfl, rfl⟩ := hrel
    by_cases hlt : k < 8
    · have hl : k < s.data.toList.length := by rw [str_len]; omega
      obtain ⟨c, hcv⟩ : ∃ c : UInt8, s.data.toList[k]? = some c := ⟨_, List.getElem?_eq_getElem hl⟩
      have hcell : w1.cell? ⟨w.heap.size, k, none⟩ = some (.int .u8 c.toNat) := by
        rw [Hc.out k (by simp; omega), List.getD_eq_getElem?_getD, Lib.extract_data]
        simp [hlt, hcv]
      have HS := Lib.hid (backL_snoc hcv)
      clear hcv
      generalize backL (s.data.toList.take k) = z at *
      go_wp2
      go_round
      case rel => exact ⟨k + 1, by omega, by go_num, by rw [HS.out]; rfl⟩
      case measure => simp [intOf]; omega
    · have hk8 : k = 8 := by omega
      subst hk8
      rw [← HB.out]
      go_wp2
      go_ret
      exact ⟨rfl, hb⟩
set_option maxRecDepth 20000 in set_option maxHeartbeats 1000000 in
theorem sameK_no (g r : Int) (l : ByteArray) (n i : Int) (s : ByteArray) (w : World) (hs : l.size ≤ 1000000) (h : okS g r l n i = false) :
    Calls Tryz.prog 113 #[vS g r l n i, .string s, .func (.func 37) #[] #[]] w fun e w' => e = .returned (.tuple #[zS, .int .i64 4]) ∧ Below w.heap.size w w' := by
  have HB := Lib.hid h
  clear h
  go_enter Tryz.func113, Tryz.ntmps113
  go_wp2_with fail
  refine (key_no _ _ _ _ _ _ hs HB.out).mono ?_
  rintro e w1 ⟨rfl, hb1⟩
  obtain ⟨hc, hf⟩ := bcell hb1
  (have hz1 := hb1.size; (try simp at hz1); replace hb1 := below_to (w := w) hb1 (by go_grown) (by first | omega | (simp <;> omega)); have hs1 := hb1.size)
  go_wp2
  exact bodyPost_ret (v := .tuple #[zS, .int .i64 4]) (by simp [results, Tryz.results113, go_sem, hc]) rfl ⟨rfl, by go_grown⟩

set_option maxRecDepth 20000 in set_option maxHeartbeats 1000000 in
theorem sameK_ne (g r : Int) (l : ByteArray) (n i : Int) (s : ByteArray) (w : World) (E : Env w) (hs : l.size ≤ 1000000) (h : okS g r l n i = true) (hne : ¬ S (kS g r l n i) = s) :
    Calls Tryz.prog 113 #[vS g r l n i, .string s, .func (.func 37) #[] #[]] w fun e w' => e = .returned (.tuple #[zS, .int .i64 4]) ∧ Below w.heap.size w w' := by
  have HB := Lib.hid h
  have HN := Lib.hid hne
  clear h hne
  go_enter Tryz.func113, Tryz.ntmps113
  go_wp2_with fail
  refine (key_yes _ _ _ _ _ _ hs HB.out).mono ?_
  rintro e w1 ⟨rfl, hb1⟩
  obtain ⟨hc, hf⟩ := bcell hb1
  (have hz1 := hb1.size; (try simp at hz1); replace hb1 := below_to (w := w) hb1 (by go_grown) (by first | omega | (simp <;> omega)); have hs1 := hb1.size)
  go_wp2
  · exact bodyPost_ret (v := .tuple #[zS, .int .i64 4]) (by simp [results, Tryz.results113, go_sem, hc]) rfl ⟨rfl, by go_grown⟩
  · exact absurd (toList_ne (by assumption)) HN.out

theorem sameK_not (g r : Int) (l : ByteArray) (n i : Int) (s : ByteArray) (w : World) (E : Env w) (hs : l.size ≤ 1000000) (h : ¬ (okS g r l n i = true ∧ S (kS g r l n i) = s)) :
    Calls Tryz.prog 113 #[vS g r l n i, .string s, .func (.func 37) #[] #[]] w fun e w' => e = .returned (.tuple #[zS, .int .i64 4]) ∧ Below w.heap.size w w' := by
  cases hb : okS g r l n i with
  | false => exact sameK_no _ _ _ _ _ s w hs hb
  | true => exact sameK_ne _ _ _ _ _ s w E hs hb (fun he => h ⟨hb, he⟩)

set_option maxRecDepth 20000 in set_option maxHeartbeats 1000000 in
theorem sameK_yes (g r : Int) (l : ByteArray) (n i : Int) (s : ByteArray) (w : World) (E : Env w) (hs : l.size ≤ 1000000) (h : okS g r l n i = true) (he : S (kS g r l n i) = s) :
    Calls Tryz.prog 113 #[vS g r l n i, .string s, .func (.func 37) #[] #[]] w fun e w' => e = .returned (.tuple #[vS g r l n i, .int .i64 0]) ∧ Below w.heap.size w w' := by
  have HB := Lib.hid h
  have ht := toList_eq he
  clear h he
  go_enter Tryz.func113, Tryz.ntmps113
  go_wp2_with fail
  refine (key_yes _ _ _ _ _ _ hs HB.out).mono ?_
  rintro e w1 ⟨rfl, hb1⟩
  obtain ⟨hc, hf⟩ := bcell hb1
  (have hz1 := hb1.size; (try simp at hz1); replace hb1 := below_to (w := w) hb1 (by go_grown) (by first | omega | (simp <;> omega)); have hs1 := hb1.size)
  go_wp2
  exact bodyPost_ret (v := .tuple #[vS g r l n i, .int .i64 0]) (by simp [results, Tryz.results113, go_sem, hc]) rfl ⟨rfl, by go_grown⟩

end Go.Proofs.YtnldgcgngolkiaaGreatDoor
