/- The law StampTakes: the walk. -/
import Derived.Test.YtnldgcgngolkiaaGreatDoorTK
import Derived.Test.YtnldgcgngolkiaaGreatDoorZ
namespace Go.Proofs.YtnldgcgngolkiaaGreatDoor
open Go.RowKit
set_option linter.unusedVariables false
set_option linter.unusedSimpArgs false
set_option linter.unnecessarySimpa false
attribute [local go_sem] givesUpon

/-- The bytes that came in. -/
structure Came (w : World) (A : Option Addr) (n c : Nat) (l : List UInt8) : Prop where
  len : l.length = n
  cap : n ≤ c
  cells : 0 < n → ∃ G o, A = some ⟨G, o, none⟩ ∧ G < w.heap.size ∧ ∀ j, j < n → w.cell? ⟨G, o + j, none⟩ = some (.int .u8 (l.getD j 0).toNat)
theorem Came.below {w w' : World} {A : Option Addr} {n c : Nat} {l : List UInt8} (h : Came w A n c l) (hb : Below w.heap.size w w') : Came w' A n c l :=
  ⟨h.len, h.cap, fun h0 => by
    obtain ⟨G, o, e, h1, h2⟩ := h.cells h0
    exact ⟨G, o, e, Nat.lt_of_lt_of_le h1 hb.size, fun j hj => cell_on hb h1 (h2 j hj)⟩⟩
theorem Came.reads {w : World} {A : Option Addr} {n c : Nat} {l : List UInt8} (h : Came w A n c l) : Reads w w.heap.size 1 A n (u8s l) :=
  ⟨by simp [u8s, h.len], fun h0 => by
    obtain ⟨G, o, e, h2, h3⟩ := h.cells h0
    refine ⟨_, e, h2, fun j u hu => ?_⟩
    have hj : j < l.length := by have := (List.getElem?_eq_some_iff.1 hu).1; simpa [u8s] using this
    have hu' : u = .int .u8 (l.getD j 0).toNat := by
      simp only [u8s, List.getElem?_map, List.getElem?_eq_getElem hj, Option.map_some, Option.some.injEq] at hu
      rw [← hu, List.getD_eq_getElem?_getD, List.getElem?_eq_getElem hj]
      rfl
    rw [hu']
    have := h3 j (by rw [← h.len]; exact hj)
    simp only [Addr.add]
    split
    · rename_i hj0; subst hj0; simpa using this
    · exact this⟩
theorem Came.rd {w : World} {A : Option Addr} {n c : Nat} {l : List UInt8} (h : Came w A n c l) {p : Nat} (hp : p ≤ n) (hn : n ≤ 1000000) : Rd (w.alloc (.cells #[.slice A n c, .int .i64 p] TQ)) w.heap.size TQ A c l p := by
  obtain ⟨h1, h2, h3⟩ := h
  subst h1
  refine ⟨heap_alloc_new w _, hp, h2, hn, fun h0 => ?_⟩
  obtain ⟨G, o, e, g1, g2⟩ := h3 h0
  exact ⟨G, o, e, by omega, by simp; omega, fun j hj => (World.cell?_alloc_lt w _ _ g1).trans (g2 j hj)⟩
def TakesEnd (w : World) (e : Ending) (w' : World) : Prop := e = .returned (.bool true) ∧ Below w.heap.size w w'
set_option maxRecDepth 100000 in set_option maxHeartbeats 4000000 in
theorem takes_long (A : Option Addr) (n c : Nat) (at_ : Int) (w : World) (E : Env w) (h : (9000 : Int) < n) :
    Calls Tryz.prog 4 #[.slice A n c, .int .i64 at_] w (TakesEnd w) := by
  go_enter Tryz.func4, Tryz.ntmps4
  go_wp2_with fail
  refine (known_any _ E).mono ?_
  rintro e w1 ⟨rfl, hb1⟩
  go_wp2
  go_ret
  exact ⟨rfl, hb1⟩
set_option maxRecDepth 100000 in set_option maxHeartbeats 4000000 in
theorem takes_neg (A : Option Addr) (n c : Nat) (at_ : Int) (w : World) (E : Env w) (h : ¬ (9000 : Int) < n) (h1 : at_ < 0) :
    Calls Tryz.prog 4 #[.slice A n c, .int .i64 at_] w (TakesEnd w) := by
  go_enter Tryz.func4, Tryz.ntmps4
  go_wp2_with fail
  refine (known_any _ E).mono ?_
  rintro e w1 ⟨rfl, hb1⟩
  go_wp2
  go_ret
  exact ⟨rfl, hb1⟩
set_option maxRecDepth 100000 in set_option maxHeartbeats 4000000 in
theorem takes_past (A : Option Addr) (n c : Nat) (at_ : Int) (w : World) (E : Env w) (h : ¬ (9000 : Int) < n) (h1 : ¬ at_ < 0) (h2 : (n : Int) < at_) :
    Calls Tryz.prog 4 #[.slice A n c, .int .i64 at_] w (TakesEnd w) := by
  go_enter Tryz.func4, Tryz.ntmps4
  go_wp2_with fail
  refine (known_any _ E).mono ?_
  rintro e w1 ⟨rfl, hb1⟩
  go_wp2
  go_ret
  exact ⟨rfl, hb1⟩
set_option maxRecDepth 100000 in set_option maxHeartbeats 4000000 in
theorem takes_main (A : Option Addr) (n c a : Nat) (l : List UInt8) (w : World) (E : Env w) (hC : Came w A n c l) (hn : n ≤ 9000) (ha : a ≤ n) :
    Calls Tryz.prog 4 #[.slice A n c, .int .i64 a] w (TakesEnd w) := by
  have g1 : ¬ (9000 : Int) < n := by omega
  have g2 : ¬ ((a : Int) < 0) := by omega
  have g3 : decide (n < a) = false := by rw [decide_eq_false_iff_not]; omega
  have HC := Lib.hid hC
  obtain rfl := hC.len
  clear hC
  go_enter Tryz.func4, Tryz.ntmps4
  go_wp2
  go_loopw [5] (fun iv wr => ∃ k : Nat, iv = .int .i64 k ∧ k ≤ 3 ∧ Below w.heap.size w wr) (fun iv _ => 3 - (intOf iv).toNat)
  case atStart => exact ⟨0, rfl, by omega, Below.refl _ _⟩
  case round =>
    obtain ⟨k, rfl, hk, hbw⟩ := hrel
    by_cases hlt : (k : Int) < 3
    · go_wp2_with fail
      refine (open_any A _ c l _ rfl (HC.out.below hbw).reads (by omega)).mono ?_
      rintro e w1 ⟨R, g, c2, rfl, hR0, hg0, hrd, hb1⟩
      have hbw1 := below_step hbw hb1
      go_wp2
      go_loopw [7] (fun iv wr' => ∃ i p : Nat, iv = .int .i64 i ∧ i ≤ a ∧ Rd wr' R TR (some ⟨g, 0, none⟩) c2 l p ∧ Keep [R] w1 wr') (fun iv _ => a - (intOf iv).toNat)
      case atStart => exact ⟨0, 0, rfl, by omega, hrd, Keep.refl _ _⟩
      case round =>
        obtain ⟨i, p, rfl, hi, hr2, hk2⟩ := hrel
        by_cases hia : i < a
        · by_cases hgt : (l.length : Int) - a < (l.length : Int) - p
          · go_wp2_with (first | (go_at_call 26; refine (left_any R _ c2 l p _ hr2).mono ?_; rintro e w' ⟨rfl, m, rfl⟩) | (go_at_call 27; refine (flag_any R _ c2 l p _ (hr2.drewN m)).mono ?_; rintro e w3 ⟨b3, n3, q3, rfl, hr3, hk3⟩) | (go_at_call 28; refine (rnum_any R _ c2 l q3 _ hr3).mono ?_; rintro e w4 ⟨rfl, hr4, hk4⟩))
            go_roundw
            case rel => exact ⟨i + 1, _, by go_num, by omega, hr4, (hk2.drewN m).trans (hk3.trans hk4)⟩
            case measure => simp [intOf]; omega
          · go_wp2_with (go_at_call 26; refine (left_any R _ c2 l p _ hr2).mono ?_; rintro e w' ⟨rfl, m, rfl⟩)
            go_roundw
            case rel => exact ⟨i + 1, _, by go_num, by omega, hr2.drewN m, hk2.drewN m⟩
            case measure => simp [intOf]; omega
        · have hia2 : decide (i < a) = false := by rw [decide_eq_false_iff_not]; exact hia
          have hs1 := hbw1.size
          have hs2 := hk2.size
          have hRl := hr2.lt
          have hpl := hr2.le
          have hgR := hrd.lt
          have hbw2 : Below w.heap.size w wr := hbw1.trans (hk2.below hs1 (by simp; have := hbw.size; omega))
          have hpp : (l.length : Int) - ((l.length : Int) - p) = p := by omega
          have hgl : 0 < l.length → g < wr.heap.size ∧ g ≠ R := fun h0 => hr2.adlt h0 _ rfl
          have hAl : 0 < l.length → ∀ ad, A = some ad → ad.block < w.heap.size := fun h0 ad e => by
            obtain ⟨G, o, e', h1, _⟩ := HC.out.cells h0
            rw [e] at e'
            cases e'
            exact h1
          have hwr := hbw.size
          have hk3 : k = 0 ∨ k = 1 ∨ k = 2 := by omega
          rcases hk3 with rfl | rfl | rfl
          · obtain ⟨r, s, n1, q, hP, hQ⟩ := takeB_both l p
            have HP := Lib.hid (fun R ad c w => hP R ad c w)
            have HQ := Lib.hid (fun R A c w => hQ R A c w)
            clear hP hQ
            go_wp2_with (go_at_call 26; refine (left_any R _ c2 l p _ hr2).mono ?_; rintro e w' ⟨rfl, m, rfl⟩)
            have hd : Rd ((wr.drewN m).alloc (.cells #[.slice A l.length c, .int .i64 p] TQ)) wr.heap.size TQ A c l p := (HC.out.below (below_dn hbw2 m)).rd hpl (by omega)
            have hbD : Below w.heap.size w ((wr.drewN m).alloc (.cells #[.slice A l.length c, .int .i64 p] TQ)) := Below.alloc (below_dn hbw2 m) (by simp; omega) _
            refine (HP.out R _ _ _ ((hr2.drewN m).below (below_alloc _ _))).mono ?_
            rintro e w3 ⟨rfl, hr3, hk3⟩
            have hs3 := hk3.size
            simp at hs3
            have hd3 := hd.keep hk3 (by simp <;> omega) (fun h0 ad e => by have := hAl h0 ad e; simp <;> omega)
            go_wp2_with fail
            refine (HQ.out _ A c _ (hd3.below (below_alloc _ _))).mono ?_
            rintro e w4 ⟨rfl, hd4, hk4⟩
            have hs4 := hk4.size
            simp at hs4
            have x0 : w4.cell? ⟨w3.heap.size, 0, none⟩ = some (.int .i64 r) := hk4.cell_on (by simp) (by simp <;> omega) (by simp)
            have x1 : w4.cell? ⟨w3.heap.size, 1, none⟩ = some (.string s) := hk4.cell_on (by simp) (by simp <;> omega) (by simp)
            have hr4 := (hr3.below (below_alloc w3 (.cells #[.int .i64 r, .string s] 24))).keep hk4 (by simp <;> omega) (fun h0 ad e => by cases e; have := hgl h0; simp <;> omega)
            have hb4 : Below w.heap.size w w4 := (hbD.trans (hk3.below (by simp; omega) (by simp; omega))).trans ((below_alloc w3 (.cells #[.int .i64 r, .string s] 24)).mono (by omega) |>.trans (hk4.below (by simp; omega) (by simp; omega)))
            have l3 : w3.heap.size < w4.heap.size := by omega
            have HY : Below w.heap.size w (w4.alloc (.cells #[.int .i64 r, .string s] 24)) := hb4.trans (below_up _ _ (by have := hb4.size; omega))
            clear hk3 hk4 hr3 hd3 hd
            go_wp2_with (first | (go_at_call 24; refine (num_same _ _).mono ?_; rintro e _ ⟨rfl, rfl⟩) | (go_at_call 26; refine (left_any R _ c2 l q _ (hr4.below (below_alloc _ _))).mono ?_; rintro e w' ⟨rfl, m2, rfl⟩) | (go_at_call 35; refine (qleft_any _ A c l q _ ((hd4.below (below_alloc _ _)).drewN m2)).mono ?_; rintro e w' ⟨rfl, m3, rfl⟩))
            go_roundw
            case rel => exact ⟨1, by go_num, by omega, by first | exact below_dn (below_dn HY _) _ | exact below_dn HY _⟩
            case measure => simp [intOf]
          · obtain ⟨r, s, m1, n1, q, hP, hQ⟩ := takeN_both l p
            have HP := Lib.hid (fun R ad c w => hP R ad c w)
            have HQ := Lib.hid (fun R A c w => hQ R A c w)
            clear hP hQ
            go_wp2_with (go_at_call 26; refine (left_any R _ c2 l p _ hr2).mono ?_; rintro e w' ⟨rfl, m, rfl⟩)
            have hd : Rd ((wr.drewN m).alloc (.cells #[.slice A l.length c, .int .i64 p] TQ)) wr.heap.size TQ A c l p := (HC.out.below (below_dn hbw2 m)).rd hpl (by omega)
            have hbD : Below w.heap.size w ((wr.drewN m).alloc (.cells #[.slice A l.length c, .int .i64 p] TQ)) := Below.alloc (below_dn hbw2 m) (by simp; omega) _
            refine (HP.out R _ _ _ ((hr2.drewN m).below (below_alloc _ _))).mono ?_
            rintro e w3 ⟨rfl, hr3, hk3⟩
            have hs3 := hk3.size
            simp at hs3
            have hd3 := hd.keep hk3 (by simp <;> omega) (fun h0 ad e => by have := hAl h0 ad e; simp <;> omega)
            go_wp2_with fail
            refine (HQ.out _ A c _ (hd3.below (below_alloc _ _))).mono ?_
            rintro e w4 ⟨rfl, hd4, hk4⟩
            have hs4 := hk4.size
            simp at hs4
            have x0 : w4.cell? ⟨w3.heap.size, 0, none⟩ = some (.int .i64 r) := hk4.cell_on (by simp) (by simp <;> omega) (by simp)
            have x1 : w4.cell? ⟨w3.heap.size, 1, none⟩ = some (.string s) := hk4.cell_on (by simp) (by simp <;> omega) (by simp)
            have x2 : w4.cell? ⟨w3.heap.size, 2, none⟩ = some (.int .i64 m1) := hk4.cell_on (by simp) (by simp <;> omega) (by simp)
            have hr4 := (hr3.below (below_alloc w3 (.cells #[.int .i64 r, .string s, .int .i64 m1] 31))).keep hk4 (by simp <;> omega) (fun h0 ad e => by cases e; have := hgl h0; simp <;> omega)
            have hb4 : Below w.heap.size w w4 := (hbD.trans (hk3.below (by simp; omega) (by simp; omega))).trans ((below_alloc w3 (.cells #[.int .i64 r, .string s, .int .i64 m1] 31)).mono (by omega) |>.trans (hk4.below (by simp; omega) (by simp; omega)))
            have l3 : w3.heap.size < w4.heap.size := by omega
            have HY : Below w.heap.size w (w4.alloc (.cells #[.int .i64 r, .string s, .int .i64 m1] 31)) := hb4.trans (below_up _ _ (by have := hb4.size; omega))
            clear hk3 hk4 hr3 hd3 hd
            go_wp2_with (first | (go_at_call 24; refine (num_same _ _).mono ?_; rintro e _ ⟨rfl, rfl⟩) | (go_at_call 26; refine (left_any R _ c2 l q _ (hr4.below (below_alloc _ _))).mono ?_; rintro e w' ⟨rfl, m2, rfl⟩) | (go_at_call 35; refine (qleft_any _ A c l q _ ((hd4.below (below_alloc _ _)).drewN m2)).mono ?_; rintro e w' ⟨rfl, m3, rfl⟩))
            go_roundw
            case rel => exact ⟨2, by go_num, by omega, by first | exact below_dn (below_dn HY _) _ | exact below_dn HY _⟩
            case measure => simp [intOf]
          · obtain ⟨g1, r, s, m1, i1, n1, q, hP, hQ⟩ := takeS_both l p
            have HP := Lib.hid (fun R ad c w => hP R ad c w)
            have HQ := Lib.hid (fun R A c w => hQ R A c w)
            clear hP hQ
            go_wp2_with (go_at_call 26; refine (left_any R _ c2 l p _ hr2).mono ?_; rintro e w' ⟨rfl, m, rfl⟩)
            have hd : Rd ((wr.drewN m).alloc (.cells #[.slice A l.length c, .int .i64 p] TQ)) wr.heap.size TQ A c l p := (HC.out.below (below_dn hbw2 m)).rd hpl (by omega)
            have hbD : Below w.heap.size w ((wr.drewN m).alloc (.cells #[.slice A l.length c, .int .i64 p] TQ)) := Below.alloc (below_dn hbw2 m) (by simp; omega) _
            refine (HP.out R _ _ _ ((hr2.drewN m).below (below_alloc _ _))).mono ?_
            rintro e w3 ⟨rfl, hr3, hk3⟩
            have hs3 := hk3.size
            simp at hs3
            have hd3 := hd.keep hk3 (by simp <;> omega) (fun h0 ad e => by have := hAl h0 ad e; simp <;> omega)
            go_wp2_with fail
            refine (HQ.out _ A c _ (hd3.below (below_alloc _ _))).mono ?_
            rintro e w4 ⟨rfl, hd4, hk4⟩
            have hs4 := hk4.size
            simp at hs4
            have x0 : w4.cell? ⟨w3.heap.size, 0, none⟩ = some (.int .i64 g1) := hk4.cell_on (by simp) (by simp <;> omega) (by simp)
            have x1 : w4.cell? ⟨w3.heap.size, 1, none⟩ = some (.int .i64 r) := hk4.cell_on (by simp) (by simp <;> omega) (by simp)
            have x2 : w4.cell? ⟨w3.heap.size, 2, none⟩ = some (.string s) := hk4.cell_on (by simp) (by simp <;> omega) (by simp)
            have x3 : w4.cell? ⟨w3.heap.size, 3, none⟩ = some (.int .i64 m1) := hk4.cell_on (by simp) (by simp <;> omega) (by simp)
            have x4 : w4.cell? ⟨w3.heap.size, 4, none⟩ = some (.int .i64 i1) := hk4.cell_on (by simp) (by simp <;> omega) (by simp)
            have hr4 := (hr3.below (below_alloc w3 (.cells #[.int .i64 g1, .int .i64 r, .string s, .int .i64 m1, .int .i64 i1] 37))).keep hk4 (by simp <;> omega) (fun h0 ad e => by cases e; have := hgl h0; simp <;> omega)
            have hb4 : Below w.heap.size w w4 := (hbD.trans (hk3.below (by simp; omega) (by simp; omega))).trans ((below_alloc w3 (.cells #[.int .i64 g1, .int .i64 r, .string s, .int .i64 m1, .int .i64 i1] 37)).mono (by omega) |>.trans (hk4.below (by simp; omega) (by simp; omega)))
            have l3 : w3.heap.size < w4.heap.size := by omega
            have HY : Below w.heap.size w (w4.alloc (.cells #[.int .i64 g1, .int .i64 r, .string s, .int .i64 m1, .int .i64 i1] 37)) := hb4.trans (below_up _ _ (by have := hb4.size; omega))
            clear hk3 hk4 hr3 hd3 hd
            go_wp2_with (first | (go_at_call 24; refine (num_same _ _).mono ?_; rintro e _ ⟨rfl, rfl⟩) | (go_at_call 26; refine (left_any R _ c2 l q _ (hr4.below (below_alloc _ _))).mono ?_; rintro e w' ⟨rfl, m2, rfl⟩) | (go_at_call 35; refine (qleft_any _ A c l q _ ((hd4.below (below_alloc _ _)).drewN m2)).mono ?_; rintro e w' ⟨rfl, m3, rfl⟩))
            go_roundw
            case rel => exact ⟨3, by go_num, by omega, by first | exact below_dn (below_dn HY _) _ | exact below_dn HY _⟩
            case measure => simp [intOf]
    · go_wp2_with fail
      refine (known_any _ (E.below hbw)).mono ?_
      rintro e w1 ⟨rfl, hb1⟩
      go_wp2
      go_ret
      exact ⟨rfl, below_step hbw hb1⟩
end Go.Proofs.YtnldgcgngolkiaaGreatDoor
