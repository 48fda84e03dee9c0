/- wire.Number, wire.Bytes: the walks. -/
import Derived.Test.YtnldgcgngolkiaaGreatDoorL
namespace Go.Proofs.YtnldgcgngolkiaaGreatDoor
open Go.RowKit
set_option linter.unusedVariables false
set_option linter.unusedSimpArgs false

def numL (n : Nat) : List UInt8 := if n < 128 then [UInt8.ofNat n] else UInt8.ofNat (n % 128 + 128) :: numL (n / 128)
termination_by n
theorem numL_small {n : Nat} (h : n < 128) : numL n = [UInt8.ofNat n] := by rw [numL, if_pos h]
theorem numL_big {n : Nat} (h : ¬ n < 128) : numL n = UInt8.ofNat (n % 128 + 128) :: numL (n / 128) := by rw [numL, if_neg h]
theorem numL_len : ∀ (k n : Nat), n < 128 ^ (k + 1) → (numL n).length ≤ k + 1
  | 0, n, h => by rw [numL_small (by simpa using h)]; simp
  | k + 1, n, h => by
    by_cases hn : n < 128
    · rw [numL_small hn]; simp
    · rw [numL_big hn]
      have := numL_len k (n / 128) (by rw [Nat.pow_succ] at h; omega)
      simp; omega

theorem or128_fin : ∀ i : Fin 256, bits .or .u8 (i.val : Int) 128 = ((i.val % 128 + 128 : Nat) : Int) := by decide +kernel
theorem or128 (k : Nat) : bits .or .u8 ((k : Int) % 256) 128 = ((UInt8.ofNat (k % 128 + 128)).toNat : Int) := by
  have h := or128_fin ⟨k % 256, by omega⟩
  have e : ((k % 256 : Nat) : Int) = (k : Int) % 256 := by omega
  simp only [e] at h
  rw [h]
  simp <;> omega

/-- What a call that makes a row of bytes of its own leaves. -/
def Owns (l : List UInt8) (w : World) (e : Ending) (w' : World) : Prop := ∃ v, e = .returned v ∧ w'.ownsRow w.heap.size 5 1 v l.length (u8s l) ∧ Below w.heap.size w w'

theorem reads_new (w : World) (vs : List Value) (t : TypeId) : Reads (w.alloc (.cells vs.toArray t)) (w.heap.size + 1) 1 (some ⟨w.heap.size, 0, none⟩) vs.length vs :=
  ⟨by simp, fun _ => ⟨_, rfl, by simp, fun j u hu => by
    simp only [Addr.add]
    split
    · rename_i hj; subst hj; simpa using hu
    · simpa using hu⟩⟩

set_option maxRecDepth 20000 in set_option maxHeartbeats 1000000 in
theorem number_any (n : Nat) (w : World) (hn : n < 18446744073709551616) :
    Calls Tryz.prog 141 #[.int .u64 n] w (Owns (numL n) w) := by
  have hmk : ∀ w : World, (Instr.makeSlice 44 (.int .i64 0) (.int .i64 10)).run Tryz.prog w = .ok (.slice (some ⟨w.heap.size, 0, none⟩) 0 10) (w.alloc (.cells #[.int .u8 0, .int .u8 0, .int .u8 0, .int .u8 0, .int .u8 0, .int .u8 0, .int .u8 0, .int .u8 0, .int .u8 0, .int .u8 0] 5)) := fun _ => by kernel_rfl
  have h0 : (0 : Int) ≤ n := by omega
  obtain ⟨i0, hi0, hz0, hz1, hz2⟩ := info_parts info5
  go_enter Tryz.func141, Tryz.ntmps141
  go_wp2
  go_loopw [0, 3] (fun m v wr => ∃ (k : Nat) (xs : List UInt8), m = .int .u64 k ∧ k ≤ n ∧ xs ++ numL k = numL n ∧ xs.length + (numL k).length ≤ 20 ∧ wr.ownsRow w.heap.size 5 1 v xs.length (u8s xs) ∧ Below w.heap.size w wr) (fun m _ _ => (intOf m).toNat)
  case atStart => exact ⟨n, [], rfl, by omega, by simp, by have := numL_len 9 n (by omega); simp; omega, by have := World.ownsRow_made (e := 5) (size := 1) (base := w.heap.size) w #[.int .u8 0, .int .u8 0, .int .u8 0, .int .u8 0, .int .u8 0, .int .u8 0, .int .u8 0, .int .u8 0, .int .u8 0, .int .u8 0] 10 (Nat.le_refl _) (by simp [maxLen]) rfl; simpa [u8s] using this, below_alloc _ _⟩
  case round =>
    obtain ⟨k, xs, rfl, hk, hxs, hlen, hown, hbw⟩ := hrel
    have Hxs := Lib.hid hxs
    clear hxs
    have hsz := hbw.size
    by_cases hlt : 127 < (k : Int)
    · have hb := numL_big (n := k) (by omega)
      have hor := or128 k
      have hl1 : xs.length + 1 ≤ 20 := by rw [hb] at hlen; simp at hlen; omega
      have hl2 : xs.length + 1 + (numL (k / 128)).length ≤ 20 := by rw [hb] at hlen; simp at hlen; omega
      have HB := Lib.hid hb
      have hown' := hown.alloc (.cells #[.int .u8 (UInt8.ofNat (k % 128 + 128)).toNat] 5)
      have hr := Lib.hid (reads_new wr [.int .u8 (UInt8.ofNat (k % 128 + 128)).toNat] 5)
      clear hb hlen
      go_wp2_with (at_builtin; refine wpList_append_any _ rfl (.tmp 9) (.tmp 13) 44 rfl w.heap.size 5 i0 (.int .u8 0) 1 1 Tryz.underlying44 hi0 hz0 hz1 hz2 rfl (by omega) _ _ _ rfl hown' _ (some ⟨wr.heap.size, 0, none⟩) 1 1 [.int .u8 (UInt8.ofNat (k % 128 + 128)).toNat] rfl hr.out (by simp [Value.oneCell']) (by simp only [maxLen]; omega) (by omega) (by simp; omega) ?_; intro v1 w1 hown1 hg1 hat1)
      go_roundw
      case rel => exact ⟨k / 128, xs ++ [UInt8.ofNat (k % 128 + 128)], by go_num, by omega, by rw [← Hxs.out, HB.out]; simp, by simp; omega, by rw [u8s_append]; simpa [u8s] using hown1, (hbw.alloc (by omega) _).grown hg1 (by simp; omega) (fun q hq => (hown'.lt q hq).1)⟩
      case measure => simp [intOf]; omega
    · have hb := numL_small (n := k) (by omega)
      have hl1 : xs.length + 1 ≤ 20 := by rw [hb] at hlen; simp at hlen; omega
      have HF := Lib.hid (show xs ++ [UInt8.ofNat k] = numL n by rw [← Hxs.out, hb])
      have hown' := hown.alloc (.cells #[.int .u8 (k : Int)] 5)
      have hr := Lib.hid (reads_new wr [.int .u8 (k : Int)] 5)
      clear hb hlen
      go_wp2_with (at_builtin; refine wpList_append_any _ rfl (.tmp 15) (.tmp 18) 44 rfl w.heap.size 5 i0 (.int .u8 0) 1 1 Tryz.underlying44 hi0 hz0 hz1 hz2 rfl (by omega) _ _ _ rfl hown' _ (some ⟨wr.heap.size, 0, none⟩) 1 1 [.int .u8 (k : Int)] rfl hr.out (by simp [Value.oneCell']) (by simp only [maxLen]; omega) (by omega) (by simp; omega) ?_; intro v1 w1 hown1 hg1 hat1)
      go_ret
      refine ⟨_, rfl, ?_, (hbw.alloc (by omega) _).grown hg1 (by simp; omega) (fun q hq => (hown'.lt q hq).1)⟩
      rw [← HF.out, u8s_append]
      have hm : ((UInt8.ofNat k).toNat : Int) = (k : Int) := by simp; omega
      simp only [List.length_append, List.length_cons, List.length_nil, u8s, List.map_cons, List.map_nil, hm]
      exact hown1

def bytL (l : List UInt8) : List UInt8 := numL l.length ++ l
theorem Owns.lasts {l : List UInt8} {base : Nat} : Lasts (fun v w => w.ownsRow base 5 1 v l.length (u8s l)) := by
  intro v w w' hb h
  refine ⟨h.1, ?_⟩
  rcases h.2 with h0 | ⟨g, cap, cur, hv, hg, hh, r⟩
  · exact .inl h0
  · have hgl : g < w.heap.size := by
      rcases Nat.lt_or_ge g w.heap.size with h | h
      · exact h
      · rw [Array.getElem?_eq_none h] at hh; cases hh
    exact .inr ⟨g, cap, cur, hv, hg, (hb.block g hgl).trans hh, r⟩

set_option maxRecDepth 20000 in set_option maxHeartbeats 1000000 in
theorem wbytes_any (l : List UInt8) (v : Value) (w : World) (h : BytesAt l v w) (hl : l.length ≤ 1000000) :
    Calls Tryz.prog 261 #[v] w (Owns (bytL l) w) := by
  obtain ⟨A, c, rfl, hr⟩ := h
  obtain ⟨i0, hi0, hz0, hz1, hz2⟩ := info_parts info5
  have hn := numL_len 9 l.length (by omega)
  have hone := Lib.hid (u8s_one l)
  have Hr := Lib.hid hr
  clear hr
  go_enter Tryz.func261, Tryz.ntmps261
  go_wp2_with fail
  refine (number_any l.length w (by omega)).mono ?_
  rintro e w1 ⟨v1, rfl, hown, hb1⟩
  go_wp2_with (at_builtin; refine wpList_append_any _ rfl (.tmp 6) (.tmp 7) 44 rfl w.heap.size 5 i0 (.int .u8 0) 1 1 Tryz.underlying44 hi0 hz0 hz1 hz2 rfl (by omega) _ _ _ rfl hown _ A l.length c (u8s l) rfl (Hr.out.below hb1) hone.out (by simp only [maxLen]; omega) (by omega) hb1.size ?_; intro v2 w2 hown2 hg2 hat2)
  go_ret
  exact ⟨_, rfl, by rw [bytL, u8s_append, List.length_append]; exact hown2, hb1.grown hg2 hb1.size (fun q hq => (hown.lt q hq).1)⟩
end Go.Proofs.YtnldgcgngolkiaaGreatDoor
