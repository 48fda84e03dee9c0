/- Readers: what a call leaves of memory (Keep), a reader's state (Rd); wire's and the reference's small reader functions: the walks. -/
import Derived.Test.YtnldgcgngolkiaaGreatDoorAA
namespace Go.Proofs.YtnldgcgngolkiaaGreatDoor
open Go.RowKit
set_option linter.unusedVariables false
set_option linter.unusedSimpArgs false

/-- All old blocks but those of S are as they were. -/
structure Keep (S : List Nat) (w w' : World) : Prop where
  os : w'.os = w.os
  tape : w'.tape = w.tape
  output : w'.output = w.output
  size : w.heap.size ≤ w'.heap.size
  block : ∀ k, k < w.heap.size → k ∉ S → w'.heap[k]? = w.heap[k]?
section
variable {S : List Nat} {w w' w1 w2 : World}
theorem Keep.refl (S : List Nat) (w : World) : Keep S w w := ⟨rfl, rfl, rfl, Nat.le_refl _, fun _ _ _ => rfl⟩
theorem Keep.trans (h : Keep S w w1) (k : Keep S w1 w2) : Keep S w w2 :=
  ⟨k.os.trans h.os, k.tape.trans h.tape, k.output.trans h.output, Nat.le_trans h.size k.size, fun j hj hs => (k.block j (Nat.lt_of_lt_of_le hj h.size) hs).trans (h.block j hj hs)⟩
theorem Keep.of_below (h : Below w.heap.size w w') : Keep S w w' := ⟨h.os, h.tape, h.output, h.size, fun k hk _ => h.block k hk⟩
theorem Keep.below {B : Nat} (h : Keep S w w') (hB : B ≤ w.heap.size) (hS : ∀ k ∈ S, B ≤ k) : Below B w w' :=
  ⟨h.os, h.tape, h.output, h.size, fun k hk => h.block k (Nat.lt_of_lt_of_le hk hB) (fun hm => by have := hS k hm; omega)⟩
theorem Keep.drew (h : Keep S w w1) : Keep S w w1.drew := ⟨h.os, h.tape, h.output, h.size, h.block⟩
theorem Keep.drewN (h : Keep S w w1) (n : Nat) : Keep S w (w1.drewN n) := ⟨h.os, h.tape, h.output, h.size, h.block⟩
theorem Keep.alloc (h : Keep S w w1) (o : Obj) : Keep S w (w1.alloc o) := h.trans (Keep.of_below (below_alloc _ _))
theorem Keep.setCell (h : Keep S w w1) {p : Addr} (hp : p.block ∈ S ∨ w.heap.size ≤ p.block) (u : Value) : Keep S w (w1.setCell p u) :=
  ⟨h.os, h.tape, h.output, by simpa using h.size, fun k hk hs => (Below.heap_setCell w1 p u k (fun e => by
    subst e
    rcases hp with hp | hp
    · exact hs hp
    · omega)).trans (h.block k hk hs)⟩
theorem Keep.mono {S' : List Nat} (h : Keep S w w') (hs : ∀ k ∈ S, k ∈ S' ∨ w.heap.size ≤ k) : Keep S' w w' :=
  ⟨h.os, h.tape, h.output, h.size, fun k hk hn => h.block k hk (fun hm => by
    rcases hs k hm with h1 | h1
    · exact hn h1
    · omega)⟩
/-- Behind a step that keeps S, a step that keeps S and what the first has made. -/
theorem Keep.then {S' : List Nat} (h : Keep S w w1) (k : Keep S' w1 w2) (hs : ∀ k ∈ S', k ∈ S ∨ w.heap.size ≤ k) : Keep S w w2 :=
  ⟨k.os.trans h.os, k.tape.trans h.tape, k.output.trans h.output, Nat.le_trans h.size k.size, fun j hj hn => (k.block j (Nat.lt_of_lt_of_le hj h.size) (fun hm => by
    rcases hs j hm with h1 | h1
    · exact hn h1
    · omega)).trans (h.block j hj hn)⟩
theorem Keep.cell (h : Keep S w w') {p : Addr} (hp : p.block < w.heap.size) (hs : p.block ∉ S) : w'.cell? p = w.cell? p := World.cell?_of_block (h.block p.block hp hs)
theorem Keep.cell_on (h : Keep S w w') {p : Addr} {v : Value} (hp : p.block < w.heap.size) (hs : p.block ∉ S) (hc : w.cell? p = some v) : w'.cell? p = some v := (h.cell hp hs).trans hc
theorem Keep.bcell (h : Keep S w w') : (∀ b o, b < w.heap.size → b ∉ S → w'.cell? ⟨b, o, none⟩ = w.cell? ⟨b, o, none⟩) ∧ (∀ b o, b < w.heap.size → b ∉ S → w'.frozen? ⟨b, o, none⟩ = w.frozen? ⟨b, o, none⟩) :=
  ⟨fun b o hb hs => World.cell?_of_block (h.block b hb hs), fun b o hb hs => World.frozen?_of_block (h.block b hb hs)⟩
theorem Env.keep (E : Env w) (h : Keep S w w') (hS : ∀ k ∈ S, 8 ≤ k) : Env w' := by
  obtain ⟨hbig, ⟨m, hm⟩, hp, ⟨t1, p1, h1⟩, ⟨t2, p2, h2⟩⟩ := E
  have hb : Below 8 w w' := h.below hbig hS
  refine ⟨by have := hb.size; omega, ⟨m, by rw [hb.cell (by show 0 < _; omega)]; exact hm⟩, ?_, ⟨t1, p1, ?_⟩, ⟨t2, p2, ?_⟩⟩
  · exact var?_below (g := 3) hb (by kernel_rfl) (by omega) hp
  · exact var?_below (g := 4) hb (by kernel_rfl) (by omega) h1
  · exact var?_below (g := 5) hb (by kernel_rfl) (by omega) h2
theorem box_on {R : Nat} {cs : Array Value} {t : TypeId} (h : w.heap[R]? = some (.cells cs t (0, 0))) (hk : Keep S w w') (hR : R ∉ S) : w'.heap[R]? = some (.cells cs t (0, 0)) :=
  (hk.block R (by
    rcases Nat.lt_or_ge R w.heap.size with hl | hl
    · exact hl
    · rw [Array.getElem?_eq_none hl] at h; cases h) hR).trans h
theorem box_lt {R : Nat} {cs : Array Value} {t : TypeId} (h : w.heap[R]? = some (.cells cs t (0, 0))) : R < w.heap.size := by
  rcases Nat.lt_or_ge R w.heap.size with hl | hl
  · exact hl
  · rw [Array.getElem?_eq_none hl] at h; cases h
theorem box_cells {R : Nat} {cs : Array Value} {t : TypeId} (h : w.heap[R]? = some (.cells cs t (0, 0))) (i : Nat) : w.cell? ⟨R, i, none⟩ = cs[i]? := by
  rw [cell_of_row w R i _ t (0, 0) h]
theorem box_frozen {R : Nat} {cs : Array Value} {t : TypeId} (h : w.heap[R]? = some (.cells cs t (0, 0))) (i : Nat) : w.frozen? ⟨R, i, none⟩ = false := by
  simp [World.frozen?, h]
theorem box_set {R : Nat} {cs : Array Value} {t : TypeId} (h : w.heap[R]? = some (.cells cs t (0, 0))) (i : Nat) (u : Value) : (w.setCell ⟨R, i, none⟩ u).heap[R]? = some (.cells (cs.setIfInBounds i u) t (0, 0)) := by
  simp [World.setCell, Array.getElem?_modify, h]
end

/-- The bytes that a reader reads: at A, none of them in block R. -/
def Bts (w : World) (R : Nat) (A : Option Addr) (l : List UInt8) : Prop :=
  0 < l.length → ∃ G o, A = some ⟨G, o, none⟩ ∧ G ≠ R ∧ G < w.heap.size ∧ ∀ j, j < l.length → w.cell? ⟨G, o + j, none⟩ = some (.int .u8 (l.getD j 0).toNat)
/-- A reader's state: block R holds the bytes' slice and the place. -/
structure Rd (w : World) (R : Nat) (T : TypeId) (A : Option Addr) (c : Nat) (l : List UInt8) (p : Nat) : Prop where
  blk : w.heap[R]? = some (.cells #[.slice A l.length c, .int .i64 p] T (0, 0))
  le : p ≤ l.length
  cap : l.length ≤ c
  short : l.length ≤ 1000000
  bts : Bts w R A l
section
variable {w w' : World} {R : Nat} {T : TypeId} {A : Option Addr} {c : Nat} {l : List UInt8} {p : Nat}
theorem Bts.keep {S : List Nat} (h : Bts w R A l) (hk : Keep S w w') (hA : 0 < l.length → ∀ ad, A = some ad → ad.block ∉ S) : Bts w' R A l := fun h0 => by
  obtain ⟨G, o, e, h1, h2, h3⟩ := h h0
  exact ⟨G, o, e, h1, Nat.lt_of_lt_of_le h2 hk.size, fun j hj => hk.cell_on h2 (hA h0 ⟨G, o, none⟩ e) (h3 j hj)⟩
theorem Rd.keep {S : List Nat} (h : Rd w R T A c l p) (hk : Keep S w w') (hR : R ∉ S) (hA : 0 < l.length → ∀ ad, A = some ad → ad.block ∉ S) : Rd w' R T A c l p :=
  ⟨box_on h.blk hk hR, h.le, h.cap, h.short, h.bts.keep hk hA⟩
theorem Rd.lt (h : Rd w R T A c l p) : R < w.heap.size := box_lt h.blk
theorem Rd.adlt (h : Rd w R T A c l p) (h0 : 0 < l.length) (ad : Addr) (e : A = some ad) : ad.block < w.heap.size ∧ ad.block ≠ R := by
  obtain ⟨G, o, e', h1, h2, _⟩ := h.bts h0
  rw [e] at e'
  cases e'
  exact ⟨h2, h1⟩
theorem Rd.c0 (h : Rd w R T A c l p) : w.cell? ⟨R, 0, none⟩ = some (.slice A l.length c) := box_cells h.blk 0
theorem Rd.c1 (h : Rd w R T A c l p) : w.cell? ⟨R, 1, none⟩ = some (.int .i64 p) := box_cells h.blk 1
theorem Rd.fr (h : Rd w R T A c l p) (i : Nat) : w.frozen? ⟨R, i, none⟩ = false := box_frozen h.blk i
theorem Rd.move (h : Rd w R T A c l p) {q : Nat} (hq : q ≤ l.length) : Rd (w.setCell ⟨R, 1, none⟩ (.int .i64 q)) R T A c l q := by
  refine ⟨by rw [box_set h.blk]; rfl, hq, h.cap, h.short, fun h0 => ?_⟩
  obtain ⟨G, o, e, h1, h2, h3⟩ := h.bts h0
  exact ⟨G, o, e, h1, by simpa using h2, fun j hj => (World.cell?_setCell_far _ _ _ _ (Ne.symm h1)).trans (h3 j hj)⟩
theorem Rd.drew (h : Rd w R T A c l p) : Rd w.drew R T A c l p := ⟨h.blk, h.le, h.cap, h.short, h.bts⟩
theorem Rd.drewN (h : Rd w R T A c l p) (n : Nat) : Rd (w.drewN n) R T A c l p := ⟨h.blk, h.le, h.cap, h.short, h.bts⟩
/-- A store into a block that is newer than the reader. -/
theorem Rd.new {w0 : World} {p0 : Nat} (h0 : Rd w0 R T A c l p0) (h : Rd w R T A c l p) {a : Addr} (ha : w0.heap.size ≤ a.block) (u : Value) : Rd (w.setCell a u) R T A c l p :=
  h.keep (S := [a.block]) ((Keep.refl _ _).setCell (.inl (by simp)) _) (by have := h0.lt; simp; omega) (fun hl ad e => by have := (h0.adlt hl ad e).1; simp; omega)
theorem Rd.below (h : Rd w R T A c l p) (hb : Below w.heap.size w w') : Rd w' R T A c l p := h.keep (S := []) (Keep.of_below hb) (by simp) (fun _ _ _ => by simp)
end

abbrev TR : TypeId := 114
abbrev TQ : TypeId := 55
/-! ### wire -/
theorem slice_nil (w : World) (a : Option Addr) (n c : Nat) : (binOp .neq 44 (.slice a n c) (.slice none 0 0)).run Tryz.prog w = .ok (.bool (!a.isNone)) w := run_neq_slice_nil_any w _ _ a n c 0 0 Tryz.underlying44
set_option maxRecDepth 20000 in set_option maxHeartbeats 1000000 in
theorem there_any (R : Nat) (ad : Addr) (c : Nat) (l : List UInt8) (p : Nat) (w : World) (h : Rd w R TR (some ad) c l p) :
    Calls Tryz.prog 119 #[.pointer (some ⟨R, 0, none⟩)] w fun e w' => e = .returned (.bool true) ∧ w = w' := by
  have c0 := h.c0
  have hn := slice_nil
  go_enter Tryz.func119, Tryz.ntmps119
  go_wp2
  go_ret
  exact ⟨rfl, rfl⟩
set_option maxRecDepth 20000 in set_option maxHeartbeats 1000000 in
theorem left_any (R : Nat) (ad : Addr) (c : Nat) (l : List UInt8) (p : Nat) (w : World) (h : Rd w R TR (some ad) c l p) :
    Calls Tryz.prog 26 #[.pointer (some ⟨R, 0, none⟩)] w fun e w' => e = .returned (.int .i64 ((l.length : Int) - p)) ∧ ∃ n, w' = w.drewN n := by
  have c0 := h.c0
  have c1 := h.c1
  have hle := h.le
  have hsh := h.short
  go_enter Tryz.func26, Tryz.ntmps26
  go_wp2_with (go_at_call 119; refine (there_any R ad c l p _ h).mono ?_; rintro e w' ⟨rfl, rfl⟩)
  go_quiet (fail)
  go_wp2
  go_ret
  exact ⟨rfl, _, rfl⟩
def eE (l : List UInt8) (p : Nat) : Int := if p < l.length then 4 else 0
set_option maxRecDepth 20000 in set_option maxHeartbeats 1000000 in
theorem end_any (R : Nat) (ad : Addr) (c : Nat) (l : List UInt8) (p : Nat) (w : World) (h : Rd w R TR (some ad) c l p) :
    Calls Tryz.prog 173 #[.pointer (some ⟨R, 0, none⟩)] w fun e w' => e = .returned (.int .i64 (eE l p)) ∧ ∃ n, w' = w.drewN n := by
  have hle := h.le
  by_cases hp : p < l.length
  · have he : eE l p = 4 := if_pos hp
    have hgt : (0 : Int) < (l.length : Int) - p := by omega
    go_enter Tryz.func173, Tryz.ntmps173
    go_wp2_with (first | (go_at_call 119; refine (there_any R ad c l p _ h).mono ?_; rintro e w' ⟨rfl, rfl⟩) | (go_at_call 26; refine (left_any R ad c l p _ h).mono ?_; rintro e _ ⟨rfl, n, rfl⟩))
    go_ret
    exact ⟨ret_int he.symm, _, rfl⟩
  · have he : eE l p = 0 := if_neg hp
    have hgt : ¬ (0 : Int) < (l.length : Int) - p := by omega
    go_enter Tryz.func173, Tryz.ntmps173
    go_wp2_with (first | (go_at_call 119; refine (there_any R ad c l p _ h).mono ?_; rintro e w' ⟨rfl, rfl⟩) | (go_at_call 26; refine (left_any R ad c l p _ h).mono ?_; rintro e _ ⟨rfl, n, rfl⟩))
    go_ret
    exact ⟨ret_int he.symm, _, rfl⟩

set_option maxRecDepth 20000 in set_option maxHeartbeats 1000000 in
theorem rnum_any (R : Nat) (ad : Addr) (c : Nat) (l : List UInt8) (p : Nat) (w : World) (h : Rd w R TR (some ad) c l p) :
    Calls Tryz.prog 28 #[.pointer (some ⟨R, 0, none⟩)] w fun e w' => e = .returned (.tuple #[.int .u64 (nV l p), .int .i64 (nE l p)]) ∧ Rd w' R TR (some ad) c l (nP l p) ∧ Keep [R] w w' := by
  have c0 := h.c0
  have c1 := h.c1
  have hfr := h.fr
  have hle := h.le
  have hsh := h.short
  go_enter Tryz.func28, Tryz.ntmps28
  go_wp2
  go_step3
  go_wp2_with (go_at_call 119; refine (there_any R ad c l p _ h).mono ?_; rintro e w' ⟨rfl, rfl⟩)
  go_quiet (fail)
  go_wp2
  go_step3
  go_wp2
  go_loop [4, 5, 6] (fun nv av sv => ∃ i acc q s : Nat, nv = .int .u64 acc ∧ av = .int .i64 q ∧ sv = .int .u64 s ∧ Hid (q = p + i) ∧ Hid (s = 7 * i) ∧ i ≤ 9 ∧ q ≤ l.length ∧ acc < 128 ^ i ∧ Hid (numAt l p = deNum i acc (l.drop q))) (fun _ av _ => l.length - (intOf av).toNat)
  case atStart => exact ⟨0, 0, p, 0, rfl, rfl, rfl, by show p = p + 0; omega, by show 0 = 7 * 0; omega, by omega, by omega, by simp, rfl⟩
  case round =>
    obtain ⟨i, acc, q, s, rfl, rfl, rfl, HQ, HS, hi, hql, hacc, HD⟩ := hrel
    by_cases hlt : q < l.length
    · obtain ⟨G, o, e, hG, hGs, hcell⟩ := h.bts (by omega)
      obtain rfl := Option.some.inj e
      have hcq := hcell q hlt
      clear e hcell
      generalize hx : l.getD q 0 = x at hcq
      have HX := Lib.hid hx
      clear hx
      have hi3 : i = 0 ∨ i = 9 ∨ (0 < i ∧ i < 9) := by omega
      have hx4 : x.toNat = 0 ∨ x.toNat = 1 ∨ (1 < x.toNat ∧ x.toNat < 128) ∨ 128 ≤ x.toNat := by omega
      rcases hi3 with hi3 | hi3 | hi3
      all_goals
        have hS := HS.out
        first | ((have e0 : s = 0 := by omega); clear hS; subst e0) | ((have e0 : s = 63 := by omega); clear hS; subst e0) | (clear hS; have s1 : ((s : Int) == 63) = false := by rw [beq_eq_false_iff_ne]; have := HS.out; omega)
        first | (have s2 : 0 < s := by have := HS.out; omega) | skip
        rcases hx4 with hx | hx | hx | hx
        all_goals
          first | (have t0 : ((x.toNat : Int) == 0) = true := by rw [beq_iff_eq]; omega) | (have t0 : ((x.toNat : Int) == 0) = false := by rw [beq_eq_false_iff_ne]; omega)
          first | (have t1 : (1 : Int) < x.toNat := by omega) | (have t1 : ¬ (1 : Int) < x.toNat := by omega)
          first | (have t2 : (x.toNat : Int) < 128 := by omega) | (have t2 : ¬ (x.toNat : Int) < 128 := by omega)
          have h128 : x.toNat < 128 ∨ ¬ x.toNat < 128 := by omega
          have hA : ((i = 9 ∧ 1 < x.toNat) ∨ (0 < i ∧ x.toNat = 0)) ∨ (¬ ((i = 9 ∧ 1 < x.toNat) ∨ (0 < i ∧ x.toNat = 0)) ∧ (i = 9 → x.toNat ≤ 1)) := by omega
          have HI := Lib.hid hi3
          have HXX := Lib.hid hx
          have HA := Lib.hid hA
          clear hi3 hx hA
          go_wp2
          rcases HA.out with hA | hA
          · first
              | (have hn := num_stop HD.out hlt HX.out hA
                 obtain ⟨n1, n2, n3⟩ := num_none hn
                 go_ret2
                 exact ⟨by rw [n1, n2]; rfl, by rw [n3]; exact h.drewN nq, (Keep.refl _ _).drewN nq⟩)
              | (exfalso; have h2 := HI.out; have h3 := HXX.out; omega)
          · have hbit := bit_or hacc hi HS.out hA.2
            have hbit' := bit_or' hacc hi HS.out hA.2
            rcases h128 with h128 | h128
            · first
                | (exfalso; have h2 := HI.out; have h3 := HXX.out; omega)
                | (have hn := num_last HD.out hlt HX.out hA.1 h128
                   obtain ⟨n1, n2, n3⟩ := num_some hn
                   go_ret2
                   refine ⟨?_, ?_, ?_⟩
                   · rw [n1, n2]; first | (rw [← hbit]; rfl) | (rw [← hbit']; rfl) | (rw [← hbit', pow63]; rfl) | (rw [← hbit', Int.pow_zero, Int.mul_one]; rfl)
                   · rw [n3, ← Nat.add_assoc, ← HQ.out]
                     have hm := (h.drewN nq).move (q := q + 1) (by omega)
                     rwa [show ((q + 1 : Nat) : Int) = (q : Int) + 1 by omega] at hm
                   · exact ((Keep.refl _ _).drewN nq).setCell (.inl (by simp)) _)
            · first
                | (exfalso; have h2 := HI.out; have h3 := HXX.out; omega)
                | (have hi1 : i + 1 ≤ 9 := by have h1 := hA.1; have h2 := HI.out; have h3 := HXX.out; omega
                   go_round
                   case rel => exact ⟨i + 1, acc + x.toNat % 128 * 128 ^ i, q + 1, 7 * (i + 1), by first | exact congrArg _ hbit | exact congrArg _ hbit' | (rw [← hbit', Int.pow_zero, Int.mul_one]), by go_num, by first | exact congrArg _ (by have := HS.out; omega) | (rw [show IntKind.u64.wrap ((s : Int) + 7) = (s : Int) + 7 from IntWalk.u64_in _ (by have := HS.out; omega)]; exact congrArg _ (by have := HS.out; omega)), by rw [HQ.out]; rfl, rfl, hi1, by omega, acc_lt hacc, num_next HD.out hlt HX.out hA.1 h128⟩
                   case measure => simp [intOf]; omega)
    · have hn := num_end HD.out hlt
      obtain ⟨n1, n2, n3⟩ := num_none hn
      have N1 := Lib.hid n1
      have N2 := Lib.hid n2
      have N3 := Lib.hid n3
      clear n1 n2 n3 hn
      go_wp2
      go_ret2
      exact ⟨by rw [N1.out, N2.out]; rfl, by rw [N3.out]; exact h.drewN nq, (Keep.refl _ _).drewN nq⟩
end Go.Proofs.YtnldgcgngolkiaaGreatDoor
