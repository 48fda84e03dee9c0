/- wire.Open: the walk. -/
import Derived.Test.YtnldgcgngolkiaaGreatDoorCC
namespace Go.Proofs.YtnldgcgngolkiaaGreatDoor
open Go.RowKit
set_option linter.unusedVariables false
set_option linter.unusedSimpArgs false
set_option linter.unnecessarySimpa false

theorem own_sl {w : World} {base size n : Nat} {e : TypeId} {v : Value} {xs : List Value} (h : w.ownsRow base e size v n xs) : ∃ A c, v = .slice A n c := by
  rcases h.2 with ⟨rfl, rfl⟩ | ⟨g, cap, cur, rfl, _⟩
  · exact ⟨_, _, rfl⟩
  · exact ⟨_, _, rfl⟩
def OpenEnd (l : List UInt8) (w : World) (e : Ending) (w' : World) : Prop := ∃ R g c, e = .returned (.pointer (some ⟨R, 0, none⟩)) ∧ w.heap.size ≤ R ∧ w.heap.size ≤ g ∧ Rd w' R TR (some ⟨g, 0, none⟩) c l 0 ∧ Below w.heap.size w w'
theorem rd_of_own {w : World} {base : Nat} {v : Value} {l : List UInt8} (h : w.ownsRow base 5 1 v l.length (u8s l)) (hb : v.ownBlock ≠ none) (hl : l.length ≤ 1000000) :
    ∃ g c, v = .slice (some ⟨g, 0, none⟩) l.length c ∧ base ≤ g ∧ Rd (w.alloc (.cells #[v, .int .i64 0] TR)) w.heap.size TR (some ⟨g, 0, none⟩) c l 0 := by
  have hr := h
  rcases h.2 with ⟨rfl, _⟩ | ⟨g, cap, cur, rfl, hg, hh, hc, _⟩
  · exact absurd rfl hb
  · have hlt : g < w.heap.size := by
      rcases Nat.lt_or_ge g w.heap.size with h' | h'
      · exact h'
      · rw [Array.getElem?_eq_none h'] at hh; cases hh
    refine ⟨g, cap, rfl, hg, heap_alloc_new w _, by simp, hc, hl, fun h0 => ⟨g, 0, rfl, by omega, by simp; omega, fun j hj => ?_⟩⟩
    rw [World.cell?_alloc_lt w _ _ hlt, Nat.zero_add]
    have := hr.cells (g := g) rfl j (.int .u8 (l.getD j 0).toNat) (by
      simp only [u8s, List.getElem?_map, List.getElem?_eq_getElem hj, Option.map_some]
      rw [List.getD_eq_getElem?_getD, List.getElem?_eq_getElem hj]; rfl)
    simp only [Addr.add] at this
    split at this
    · rename_i hj0; subst hj0; exact this
    · simpa using this
set_option maxRecDepth 20000 in set_option maxHeartbeats 2000000 in
theorem open_any (A : Option Addr) (n c : Nat) (l : List UInt8) (w : World) (hn : l.length = n) (hr : Reads w w.heap.size 1 A n (u8s l)) (hl : n ≤ 1000000) :
    Calls Tryz.prog 25 #[.slice A n c] w (OpenEnd l w) := by
  obtain ⟨i0, hi0, hz0, hz1, hz2⟩ := info_parts info5
  obtain ⟨w1, hmk, hown, hg⟩ := run_make_own (P := Tryz.prog) (w := w) w.heap.size 44 5 i0 (.int .u8 0) 1 Tryz.underlying44 hi0 hz0 hz1 .i64 .i64 (n + 1) (by rw [hz2]; omega) (by unfold maxLen; omega) (Nat.le_refl _)
  rw [show ((n + 1 : Nat) : Int) = (n : Int) + 1 by omega] at hmk
  have hb1 : Below w.heap.size w w1 := (Below.refl _ _).grown hg (Nat.le_refl _) (by simp)
  have hone := Lib.hid (u8s_one l)
  have Hr := Lib.hid (hr.below hb1)
  have hs1 := hb1.size
  clear hr
  go_enter Tryz.func25, Tryz.ntmps25
  go_wp2_with (at_builtin; refine wpList_append_any _ rfl (.tmp 6) (.tmp 7) 44 rfl w.heap.size 5 i0 (.int .u8 0) 1 1 Tryz.underlying44 hi0 hz0 hz1 hz2 rfl (by omega) _ _ _ rfl hown w.heap.size A n c (u8s l) rfl Hr.out hone.out (by simp only [maxLen]; omega) (by omega) hs1 ?_; intro v2 w2 hown2 hg2 hat2; obtain ⟨A3, c3, rfl⟩ := own_sl hown2; rw [Nat.zero_add] at hown2 hat2; rw [Nat.zero_add])
  go_ret
  have hb2 : Below w.heap.size w w2 := hb1.grown hg2 hs1 (fun q hq => (hown.lt q hq).1)
  have ho : w2.ownsRow w.heap.size 5 1 (.slice A3 n c3) l.length (u8s l) := by rw [hn]; simpa using hown2
  obtain ⟨g, c2, hvv, hg0, hrd⟩ := rd_of_own ho (by rcases hat2 with h | h <;> rw [h] <;> exact Option.some_ne_none _) (by omega)
  exact ⟨_, g, c2, rfl, hb2.size, hg0, hrd, below_to (below_alloc w2 _) hb2 hb2.size⟩
end Go.Proofs.YtnldgcgngolkiaaGreatDoor
