/- The reference's keys: the walks. -/
import Derived.Test.YtnldgcgngolkiaaGreatDoorJ2
import Derived.Test.YtnldgcgngolkiaaGreatDoorP
namespace Go.Proofs.YtnldgcgngolkiaaGreatDoor
open Go.RowKit
set_option linter.unusedVariables false
set_option linter.unusedSimpArgs false

theorem eight_at (n : Int) (h0 : 0 ≤ n) (h1 : n ≤ 4611686018427387904) {k : Nat} (hk : k < 8) : ∃ c, (eight n)[k]? = some c ∧ (c.toNat : Int) = n / 2 ^ (56 - 8 * k) % 256 := by
  match k, hk with
  | 0, _ => exact ⟨_, rfl, by rw [byteOf_int] <;> omega⟩
  | 1, _ => exact ⟨_, rfl, by rw [byteOf_int] <;> omega⟩
  | 2, _ => exact ⟨_, rfl, by rw [byteOf_int] <;> omega⟩
  | 3, _ => exact ⟨_, rfl, by rw [byteOf_int] <;> omega⟩
  | 4, _ => exact ⟨_, rfl, by rw [byteOf_int] <;> omega⟩
  | 5, _ => exact ⟨_, rfl, by rw [byteOf_int] <;> omega⟩
  | 6, _ => exact ⟨_, rfl, by rw [byteOf_int] <;> omega⟩
  | 7, _ => exact ⟨_, rfl, by rw [byteOf_int] <;> omega⟩
set_option maxRecDepth 20000 in set_option maxHeartbeats 1000000 in
theorem reight_any (n : Int) (w : World) (h0 : 0 ≤ n) (h1 : n ≤ 4611686018427387904) :
    Calls Tryz.prog 217 #[.int .i64 n] w (Owns (eight n) w) := by
  obtain ⟨i0, hi0, hz0, hz1, hz2⟩ := info_parts info5
  have H8 := Lib.hid (fun (k : Nat) (hk : k < 8) => eight_at n h0 h1 hk)
  go_enter Tryz.func217, Tryz.ntmps217
  go_wp2
  go_loopw [3, 4] (fun v iv wr => ∃ k : Nat, k ≤ 8 ∧ iv = .int .i64 (56 - 8 * (k : Int)) ∧ wr.ownsRow w.heap.size 5 1 v k (u8s ((eight n).take k)) ∧ Below w.heap.size w wr) (fun _ iv _ => (intOf iv + 8).toNat)
  case atStart => exact ⟨0, by omega, rfl, World.ownsRow_nil _ _ _ _, Below.refl _ _⟩
  case round =>
    obtain ⟨k, hk, rfl, hown, hbw⟩ := hrel
    have hsz := hbw.size
    by_cases hlt : k < 8
    · obtain ⟨c, hc, hcz⟩ := H8.out k hlt
      have hown' := hown.alloc (.cells #[.int .u8 (n / 2 ^ (56 - 8 * k) % 256)] 5)
      have hr := Lib.hid (reads_new wr [.int .u8 (n / 2 ^ (56 - 8 * k) % 256)] 5)
      have HX := Lib.hid (show u8s ((eight n).take (k + 1)) = u8s ((eight n).take k) ++ [.int .u8 (n / 2 ^ (56 - 8 * k) % 256)] by rw [List.take_add_one, hc, u8s_append, ← hcz]; rfl)
      clear hc hcz
      go_wp2_with (at_builtin; refine wpList_append_any _ rfl (.tmp 9) (.tmp 15) 44 rfl w.heap.size 5 i0 (.int .u8 0) 1 1 Tryz.underlying44 hi0 hz0 hz1 hz2 rfl (by omega) _ _ _ rfl hown' _ (some ⟨wr.heap.size, 0, none⟩) 1 1 [.int .u8 (n / 2 ^ (56 - 8 * k) % 256)] rfl hr.out (by simp [Value.oneCell']) (by simp only [maxLen]; omega) (by omega) (by simp; omega) ?_; intro v1 w1 hown1 hg1 hat1)
      go_roundw
      case rel => exact ⟨k + 1, by omega, by go_num, by rw [HX.out]; exact hown1, (hbw.alloc (by omega) _).grown hg1 (by simp; omega) (fun q hq => (hown'.lt q hq).1)⟩
      case measure => simp [intOf]; omega
    · have hk8 : k = 8 := by omega
      subst hk8
      go_wp2
      go_ret
      exact ⟨_, rfl, hown, hbw⟩

set_option maxRecDepth 20000 in set_option maxHeartbeats 1000000 in
theorem rback_any (s : ByteArray) (w : World) (hs : 8 ≤ s.size) (hs1 : s.size ≤ 1000000) :
    Calls Tryz.prog 117 #[.string s] w fun e w' => e = .returned (.int .i64 (back8 s)) ∧ Below w.heap.size w w' := by
  have h8 : (8 : Int) ≤ s.size := by omega
  go_enter Tryz.func117, Tryz.ntmps117
  go_wp2
  have HB := Lib.hid (show back8 s = backL (s.data.toList.take 8) from rfl)
  go_loop [3, 4] (fun v i => ∃ k : Nat, k ≤ 8 ∧ i = .int .i64 k ∧ v = .int .i64 (backL (s.data.toList.take k))) (fun _ i => 8 - (intOf i).toNat)
  case atStart => exact ⟨0, by omega, rfl, rfl⟩
  case round =>
    obtain ⟨k, hk, rfl, rfl⟩ := hrel
    by_cases hlt : k < 8
    · have hl : k < s.data.toList.length := by rw [str_len]; omega
      have hls : k < s.size := by omega
      have he : (s[k]'hls) = s.data.toList[k] := rfl
      have HS := Lib.hid (backL_snoc (List.getElem?_eq_getElem hl))
      rw [← he] at HS
      clear he
      generalize backL (s.data.toList.take k) = z at *
      go_wp2
      go_round
      case rel => exact ⟨k + 1, by omega, by go_num, by rw [HS.out]; rfl⟩
      case measure => simp [intOf]; omega
    · have hk8 : k = 8 := by omega
      subst hk8
      rw [← HB.out]
      go_wp2
      go_ret
      exact ⟨rfl, Below.refl _ _⟩
end Go.Proofs.YtnldgcgngolkiaaGreatDoor
