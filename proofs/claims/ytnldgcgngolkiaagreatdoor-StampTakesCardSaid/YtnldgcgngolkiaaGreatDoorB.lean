/- stamp: which labels, branches, names, stamps may be: the walks. -/
import Derived.Test.YtnldgcgngolkiaaGreatDoorA
namespace Go.Proofs.YtnldgcgngolkiaaGreatDoor
open Go.RowKit

def okc (c : UInt8) : Bool := decide (97 ≤ c.toNat) && decide (c.toNat ≤ 122)
def lab (l : List UInt8) : Bool := l.all okc && decide (1 ≤ l.length) && decide (l.length ≤ 12)
theorem all_snoc {l : List UInt8} {k : Nat} (h : k < l.length) (h1 : (l.take k).all okc = true) (h2 : okc l[k] = true) : (l.take (k + 1)).all okc = true := by
  rw [List.take_succ_eq_append_getElem h, List.all_append, h1]; simp [h2]
theorem lab_not {l : List UInt8} {k : Nat} (h : k < l.length) (h2 : okc l[k] = false) : false = lab l := by
  have : l.all okc = false := by
    rw [List.all_eq_false]; exact ⟨l[k], List.getElem_mem h, by simp [h2]⟩
  simp [lab, this]
theorem lab_end {s : ByteArray} {k : Nat} (hk : k ≤ s.size) (h : ¬ k < s.size) (h1 : (s.data.toList.take k).all okc = true) : lab s.data.toList = (decide ((1 : Int) ≤ s.size) && decide ((s.size : Int) ≤ 12)) := by
  have hl : s.data.toList.length = s.size := by simp
  rw [List.take_of_length_le (by omega)] at h1
  rw [lab, h1, hl, Bool.true_and]
  have e1 : (1 ≤ s.size) = ((1 : Int) ≤ s.size) := by simp; omega
  have e2 : (s.size ≤ 12) = ((s.size : Int) ≤ 12) := by simp; omega
  simp only [e1, e2]

set_option maxRecDepth 20000 in
set_option maxHeartbeats 400000 in
theorem label_any (s : ByteArray) (w : World) (hs : s.size ≤ 1000000) :
    Calls Tryz.prog 219 #[.string s] w fun e w' => e = .returned (.bool (lab s.data.toList)) ∧ Below w.heap.size w w' := by
  obtain ⟨cap, w1, hconv, hb1, hz1, hc1⟩ := conv_bytes w s
  have Hc1 := Lib.hid hc1
  clear hc1
  go_enter Tryz.func219, Tryz.ntmps219
  go_wp2
  clear hconv
  go_loop [8] (fun i => ∃ k : Nat, k ≤ s.size ∧ i = .int .i64 k ∧ (s.data.toList.take k).all okc = true) (fun i => s.size - (intOf i).toNat)
  case atStart => exact ⟨0, by omega, rfl, rfl⟩
  case round =>
    obtain ⟨k, hk, rfl, hall⟩ := hrel
    have Hall := Lib.hid hall
    clear hall
    by_cases hlt : k < s.size
    · have hcell := Hc1.out k hlt
      have hl : k < s.data.toList.length := by simpa using hlt
      go_wp2
      · go_ret
        exact ⟨ret_bool (lab_not hl (by simp [okc]; omega)), hb1⟩
      · go_round
        case rel => exact ⟨k + 1, by omega, by go_num, all_snoc hl Hall.out (by simp [okc]; omega)⟩
        case measure => simp [intOf]; omega
      · go_ret
        exact ⟨ret_bool (lab_not hl (by simp [okc]; omega)), hb1⟩
    · have he := lab_end hk hlt Hall.out
      have He := Lib.hid he
      clear he
      go_wp2
      all_goals
        go_ret
        refine ⟨ret_bool ?_, hb1⟩
        rw [He.out]
        simp <;> omega

def okB (r : Int) (l : ByteArray) : Bool := decide (0 ≤ r) && decide (r < 8) && lab l.data.toList
def okN (r : Int) (l : ByteArray) (n : Int) : Bool := okB r l && decide (1 ≤ n) && decide (n ≤ 4611686018427387904)
def okS (g r : Int) (l : ByteArray) (n i : Int) : Bool := decide (1 ≤ g) && decide (g ≤ 4611686018427387904) && okN r l n && decide (0 ≤ i) && decide (i < 64)
theorem okB_iff {r : Int} {l : ByteArray} : okB r l = true ↔ 0 ≤ r ∧ r < 8 ∧ lab l.data.toList = true := by simp [okB, and_assoc]
theorem okN_iff {r : Int} {l : ByteArray} {n : Int} : okN r l n = true ↔ okB r l = true ∧ 1 ≤ n ∧ n ≤ 4611686018427387904 := by simp [okN, and_assoc]
theorem okS_iff {g r : Int} {l : ByteArray} {n i : Int} : okS g r l n i = true ↔ 1 ≤ g ∧ g ≤ 4611686018427387904 ∧ okN r l n = true ∧ 0 ≤ i ∧ i < 64 := by simp [okS, and_assoc]
abbrev vB (r : Int) (l : ByteArray) : Value := .agg #[.int .i64 r, .string l]
abbrev vN (r : Int) (l : ByteArray) (n : Int) : Value := .agg #[.int .i64 r, .string l, .int .i64 n]
abbrev vS (g r : Int) (l : ByteArray) (n i : Int) : Value := .agg #[.int .i64 g, .int .i64 r, .string l, .int .i64 n, .int .i64 i]

set_option maxRecDepth 20000 in set_option maxHeartbeats 400000 in
theorem branch_any (r : Int) (l : ByteArray) (w : World) (hs : l.size ≤ 1000000) :
    Calls Tryz.prog 122 #[vB r l] w fun e w' => e = .returned (.bool (okB r l)) ∧ Below w.heap.size w w' := by
  go_enter Tryz.func122, Tryz.ntmps122
  go_wp2_with (go_at_call 219; refine (label_any _ _ hs).mono ?_; rintro e w1 ⟨rfl, hb1⟩; replace hb1 := below_to (w := w) hb1 (by go_grown) (by simp))
  all_goals
    go_ret
    exact ⟨ret_bool (by simp [okB, *] <;> omega), by go_grown⟩

set_option maxRecDepth 20000 in set_option maxHeartbeats 400000 in
theorem name_any (r : Int) (l : ByteArray) (n : Int) (w : World) (hs : l.size ≤ 1000000) :
    Calls Tryz.prog 127 #[vN r l n] w fun e w' => e = .returned (.bool (okN r l n)) ∧ Below w.heap.size w w' := by
  generalize hB : okB r l = b
  have HB := Lib.hid hB
  clear hB
  cases b
  all_goals
    go_enter Tryz.func127, Tryz.ntmps127
    go_wp2_with (go_at_call 122; refine (branch_any _ _ _ hs).mono ?_; rw [HB.out]; rintro e w1 ⟨rfl, hb1⟩; obtain ⟨hc, hf⟩ := bcell hb1; replace hb1 := below_to (w := w) hb1 (by go_grown) (by simp))
    all_goals
      go_ret
      exact ⟨ret_bool (by simp [okN, HB.out] <;> omega), by go_grown⟩
set_option maxRecDepth 20000 in set_option maxHeartbeats 400000 in
theorem stamp_any (g r : Int) (l : ByteArray) (n i : Int) (w : World) (hs : l.size ≤ 1000000) :
    Calls Tryz.prog 133 #[vS g r l n i] w fun e w' => e = .returned (.bool (okS g r l n i)) ∧ Below w.heap.size w w' := by
  generalize hB : okN r l n = b
  have HB := Lib.hid hB
  clear hB
  cases b
  all_goals
    go_enter Tryz.func133, Tryz.ntmps133
    go_wp2_with (go_at_call 127; refine (name_any _ _ _ _ hs).mono ?_; rw [HB.out]; rintro e w1 ⟨rfl, hb1⟩; obtain ⟨hc, hf⟩ := bcell hb1; replace hb1 := below_to (w := w) hb1 (by go_grown) (by simp))
    all_goals
      go_ret
      exact ⟨ret_bool (by simp [okS, HB.out] <;> omega), by go_grown⟩
end Go.Proofs.YtnldgcgngolkiaaGreatDoor
