/- stamp.eight, stamp.back, wire.Join: the walks. -/
import Derived.Test.YtnldgcgngolkiaaGreatDoorH
import Derived.Test.YtnldgcgngolkiaaGreatDoorR
namespace Go.Proofs.YtnldgcgngolkiaaGreatDoor
open Go.RowKit
set_option linter.unusedVariables false

/-- A slice that reads as these bytes. -/
def BytesAt (l : List UInt8) : Fact := fun v w => ∃ (A : Option Addr) (c : Nat), v = .slice A l.length c ∧ Reads w w.heap.size 1 A l.length (u8s l)
theorem BytesAt.lasts (l : List UInt8) : Lasts (BytesAt l) := fun _ _ _ hb ⟨A, c, hv, hr⟩ => ⟨A, c, hv, hr.step hb⟩
theorem Lasts.at {A : Fact} {v : Value} {w w' : World} (h : Lasts A) (hb : Below w.heap.size w w') (ha : A v w) : A v w' := h v w w' hb ha
theorem of_own {w : World} {base : Nat} {v : Value} {l : List UInt8} (h : w.ownsRow base 5 1 v l.length (u8s l)) : BytesAt l v w := by
  rcases h.2 with ⟨rfl, h0⟩ | ⟨g, cap, cur, rfl, _⟩
  · have : l = [] := List.eq_nil_of_length_eq_zero h0
    subst this
    exact ⟨none, 0, rfl, Reads.none_⟩
  · exact ⟨_, _, rfl, Reads.of_own h⟩
theorem BytesAt.of_cells {l : List UInt8} {b o c : Nat} {w : World} (hb : b < w.heap.size) (h : ∀ j x, (u8s l)[j]? = some x → w.cell? ⟨b, o + j, none⟩ = some x) : BytesAt l (.slice (some ⟨b, o, none⟩) l.length c) w :=
  ⟨some ⟨b, o, none⟩, c, rfl, by simp [u8s], fun _ => ⟨⟨b, o, none⟩, rfl, hb, fun j u hu => by
    have := h j u hu
    simp only [Addr.add]
    split
    · rename_i hj; subst hj; simpa using this
    · exact this⟩⟩

def byteOf (z : Int) : UInt8 := UInt8.ofNat z.toNat
theorem byteOf_int {z : Int} (h0 : 0 ≤ z) (h1 : z < 256) : ((byteOf z).toNat : Int) = z := by
  simp [byteOf]; omega
def eight (n : Int) : List UInt8 := [byteOf (n / 72057594037927936), byteOf (n / 281474976710656 % 256), byteOf (n / 1099511627776 % 256), byteOf (n / 4294967296 % 256), byteOf (n / 16777216 % 256), byteOf (n / 65536 % 256), byteOf (n / 256 % 256), byteOf (n % 256)]
theorem u8s_eight (n : Int) (h0 : 0 ≤ n) (h1 : n ≤ 4611686018427387904) : u8s (eight n) = [.int .u8 (n / 72057594037927936), .int .u8 (n / 281474976710656 % 256), .int .u8 (n / 1099511627776 % 256), .int .u8 (n / 4294967296 % 256), .int .u8 (n / 16777216 % 256), .int .u8 (n / 65536 % 256), .int .u8 (n / 256 % 256), .int .u8 (n % 256)] := by
  simp only [u8s, eight, List.map_cons, List.map_nil]
  rw [byteOf_int (z := n / 72057594037927936) (by omega) (by omega), byteOf_int (z := n / 281474976710656 % 256) (by omega) (by omega), byteOf_int (z := n / 1099511627776 % 256) (by omega) (by omega), byteOf_int (z := n / 4294967296 % 256) (by omega) (by omega), byteOf_int (z := n / 16777216 % 256) (by omega) (by omega), byteOf_int (z := n / 65536 % 256) (by omega) (by omega), byteOf_int (z := n / 256 % 256) (by omega) (by omega), byteOf_int (z := n % 256) (by omega) (by omega)]

/-- What a call that makes bytes leaves. -/
def Makes (l : List UInt8) (w : World) (e : Ending) (w' : World) : Prop := ∃ v, e = .returned v ∧ BytesAt l v w' ∧ Below w.heap.size w w'

set_option maxRecDepth 20000 in set_option maxHeartbeats 400000 in
theorem eight_any (n : Int) (w : World) (h0 : 0 ≤ n) (h1 : n ≤ 4611686018427387904) :
    Calls Tryz.prog 139 #[.int .i64 n] w (Makes (eight n) w) := by
  have hu := Lib.hid (u8s_eight n h0 h1)
  have hmk : ∀ w : World, (Instr.makeSlice 44 (.int .i64 8) (.int .i64 8)).run Tryz.prog w = .ok (.slice (some ⟨w.heap.size, 0, none⟩) 8 8) (w.alloc (.cells #[.int .u8 0, .int .u8 0, .int .u8 0, .int .u8 0, .int .u8 0, .int .u8 0, .int .u8 0, .int .u8 0] 5)) := fun _ => by kernel_rfl
  go_enter Tryz.func139, Tryz.ntmps139
  go_wp2
  go_rounds 9
  go_ret
  refine ⟨_, rfl, BytesAt.of_cells (l := eight n) (by simp) ?_, below_alloc _ _⟩
  rw [hu.out]
  intro j x hx
  simpa using hx

theorem info5 : (Tryz.prog.info? 5).map (fun i => (i.zero, i.size, i.bytes)) = some (some (.int .u8 0), 1, 1) := by kernel_rfl
theorem flat_snoc {ls : List (List UInt8)} {k : Nat} {l : List UInt8} (h : ls[k]? = some l) : (ls.take (k + 1)).flatten = (ls.take k).flatten ++ l := by
  rw [List.take_add_one, h]; simp
theorem flat_take_le : ∀ (ls : List (List UInt8)) (k : Nat), (ls.take k).flatten.length ≤ ls.flatten.length
  | [], k => by simp
  | l :: ls, 0 => by simp
  | l :: ls, k + 1 => by
    have := flat_take_le ls k
    simp only [List.take_succ_cons, List.flatten_cons, List.length_append]
    omega

set_option maxRecDepth 20000 in set_option maxHeartbeats 400000 in
theorem join_any (bk c n : Nat) (ls : List (List UInt8)) (vs : List Value) (w : World) (hls : ls.length = n) (hvs : vs.length = n) (hn : n ≤ 100) (hc : n ≤ c) (hbk : bk < w.heap.size)
    (hcell : ∀ (j : Nat) (v : Value), vs[j]? = some v → w.cell? ⟨bk, j, none⟩ = some v) (hat : ∀ (j : Nat) (v : Value) (l : List UInt8), vs[j]? = some v → ls[j]? = some l → BytesAt l v w) (htot : ls.flatten.length ≤ 10000000) :
    Calls Tryz.prog 138 #[.slice (some ⟨bk, 0, none⟩) n c] w (Makes ls.flatten w) := by
  have Hcell := Lib.hid hcell
  have Hat := Lib.hid hat
  have Hls := Lib.hid hls
  have Hvs := Lib.hid hvs
  clear hcell hat hls hvs
  obtain ⟨i0, hi0, hz0, hz1, hz2⟩ := info_parts info5
  go_enter Tryz.func138, Tryz.ntmps138
  go_wp2
  go_loopw [3, 9] (fun v i wr => ∃ k : Nat, k ≤ n ∧ i = .int .i64 k ∧ wr.ownsRow w.heap.size 5 1 v (ls.take k).flatten.length (u8s (ls.take k).flatten) ∧ Below w.heap.size w wr) (fun _ i _ => n - (intOf i).toNat)
  case atStart => exact ⟨0, by omega, rfl, by have := World.ownsRow_made (e := 5) (size := 1) (base := w.heap.size) w #[] 0 (Nat.le_refl _) (by simp [maxLen]) rfl; simpa [u8s] using this, below_alloc _ _⟩
  case round =>
    obtain ⟨k, hk, rfl, hown, hbw⟩ := hrel
    by_cases hlt : k < n
    · obtain ⟨v, hv⟩ : ∃ v, vs[k]? = some v := ⟨_, List.getElem?_eq_getElem (by rw [Hvs.out]; exact hlt)⟩
      obtain ⟨l, hl⟩ : ∃ l, ls[k]? = some l := ⟨_, List.getElem?_eq_getElem (by rw [Hls.out]; exact hlt)⟩
      obtain ⟨A, cv, rfl, hr⟩ := (BytesAt.lasts l).at hbw (Hat.out k v l hv hl)
      have hcell : wr.cell? ⟨bk, k, none⟩ = some (.slice A l.length cv) := cell_on hbw hbk (Hcell.out k _ hv)
      have Hlen := Lib.hid (flat_snoc hl)
      have htk : (ls.take k).flatten.length + l.length ≤ 10000000 := by
        have := flat_take_le ls (k + 1)
        rw [Hlen.out, List.length_append] at this
        omega
      have Hu := Lib.hid (show u8s (ls.take (k + 1)).flatten = u8s (ls.take k).flatten ++ u8s l by rw [Hlen.out, u8s_append])
      have Hn := Lib.hid (show (ls.take (k + 1)).flatten.length = (ls.take k).flatten.length + l.length by rw [Hlen.out, List.length_append])
      have hone := Lib.hid (u8s_one l)
      have Hr := Lib.hid hr
      clear hv hl hr
      go_wp2_with (at_builtin; refine wpList_append_any _ rfl (.tmp 13) (.tmp 14) 44 rfl w.heap.size 5 i0 (.int .u8 0) 1 1 Tryz.underlying44 hi0 hz0 hz1 hz2 rfl (by omega) _ _ _ rfl hown wr.heap.size A l.length cv (u8s l) rfl Hr.out hone.out (by simp only [maxLen]; omega) (by omega) hbw.size ?_; intro v1 w1 hown1 hg1 hat1)
      go_roundw
      case rel => exact ⟨k + 1, by omega, by go_num, by rw [Hn.out, Hu.out]; exact hown1, hbw.grown hg1 hbw.size (fun q hq => (hown.lt q hq).1)⟩
      case measure => simp [intOf]; omega
    · have hkn : ls.take k = ls := List.take_of_length_le (by rw [Hls.out]; omega)
      have Hkn := Lib.hid hkn
      clear hkn
      go_wp2
      go_ret
      rw [Hkn.out] at hown
      exact ⟨_, rfl, of_own hown, hbw⟩
end Go.Proofs.YtnldgcgngolkiaaGreatDoor
