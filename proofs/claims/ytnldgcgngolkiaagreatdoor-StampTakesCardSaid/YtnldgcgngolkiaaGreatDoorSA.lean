/- stamp's reading (number, branch, name): the walks. -/
import Derived.Test.YtnldgcgngolkiaaGreatDoorDD
namespace Go.Proofs.YtnldgcgngolkiaaGreatDoor
open Go.RowKit
set_option linter.unusedVariables false
set_option linter.unusedSimpArgs false
set_option linter.unnecessarySimpa false
attribute [local go_sem] givesUpon

abbrev TX : TypeId := 265
/-- A reading: block X holds the reader's place and whether something went wrong. -/
structure Rg (w : World) (R X : Nat) (b : Bool) (A : Option Addr) (c : Nat) (l : List UInt8) (p : Nat) : Prop where
  rd : Rd w R TR A c l p
  xb : w.heap[X]? = some (.cells #[.pointer (some ⟨R, 0, none⟩), .bool b] TX (0, 0))
  ne : X ≠ R
  neA : 0 < l.length → ∀ ad, A = some ad → ad.block ≠ X
section
variable {w w' : World} {R X : Nat} {b : Bool} {A : Option Addr} {c : Nat} {l : List UInt8} {p : Nat}
theorem Rg.x0 (h : Rg w R X b A c l p) : w.cell? ⟨X, 0, none⟩ = some (.pointer (some ⟨R, 0, none⟩)) := box_cells h.xb 0
theorem Rg.x1 (h : Rg w R X b A c l p) : w.cell? ⟨X, 1, none⟩ = some (.bool b) := box_cells h.xb 1
theorem Rg.xf (h : Rg w R X b A c l p) (i : Nat) : w.frozen? ⟨X, i, none⟩ = false := box_frozen h.xb i
theorem Rg.xlt (h : Rg w R X b A c l p) : X < w.heap.size := box_lt h.xb
theorem Rg.below (h : Rg w R X b A c l p) (hb : Below w.heap.size w w') : Rg w' R X b A c l p :=
  ⟨h.rd.below hb, box_on h.xb (Keep.of_below (S := []) hb) (by simp), h.ne, h.neA⟩
theorem Rg.read {q : Nat} (h : Rg w R X b A c l p) (hk : Keep [R] w w') (hr : Rd w' R TR A c l q) : Rg w' R X b A c l q :=
  ⟨hr, box_on h.xb hk (by simp [h.ne]), h.ne, h.neA⟩
theorem Rg.mark (h : Rg w R X b A c l p) (b' : Bool) : Rg (w.setCell ⟨X, 1, none⟩ (.bool b')) R X b' A c l p := by
  have hk : Keep [X] w (w.setCell ⟨X, 1, none⟩ (.bool b')) := (Keep.refl _ _).setCell (.inl (by simp)) _
  exact ⟨h.rd.keep hk (by simp [Ne.symm h.ne]) (fun h0 ad e => by simp [h.neA h0 ad e]), by rw [box_set h.xb]; rfl, h.ne, h.neA⟩
/-- A store into a block that is newer than the reading. -/
theorem Rg.new {w0 : World} {b0 : Bool} {p0 : Nat} (h0 : Rg w0 R X b0 A c l p0) (h : Rg w R X b A c l p) {a : Addr} (ha : w0.heap.size ≤ a.block) (u : Value) : Rg (w.setCell a u) R X b A c l p := by
  have hk : Keep [a.block] w (w.setCell a u) := (Keep.refl _ _).setCell (.inl (by simp)) _
  exact ⟨h0.rd.new h.rd ha u, box_on h.xb hk (by have := h0.xlt; simp; omega), h.ne, h.neA⟩
end
def gV (l : List UInt8) (p : Nat) : Int := if nE l p = 0 ∧ nV l p ≤ 4611686018427387904 then nV l p else 0
def gB (l : List UInt8) (p : Nat) : Bool := !decide (nE l p = 0 ∧ nV l p ≤ 4611686018427387904)
theorem mf (fn : Fn) (first cap : Array Value) (w : World) : (Instr.makeFunc fn first cap).run Tryz.prog w = .ok (.func fn first cap) w := rfl
def GNum (R X : Nat) (b : Bool) (A : Option Addr) (c : Nat) (l : List UInt8) (p : Nat) (w : World) (e : Ending) (w' : World) : Prop :=
  e = .returned (.int .i64 (gV l p)) ∧ Rg w' R X (b || gB l p) A c l (nP l p) ∧ Keep [R, X] w w'
set_option maxRecDepth 20000 in set_option maxHeartbeats 1000000 in
theorem gnum_ok (R X : Nat) (b : Bool) (ad : Addr) (c : Nat) (l : List UInt8) (p : Nat) (w : World) (h : Rg w R X b (some ad) c l p) (hE : nE l p = 0) (hV : nV l p ≤ 4611686018427387904) :
    Calls Tryz.prog 132 #[.pointer (some ⟨X, 0, none⟩)] w (GNum R X b (some ad) c l p w) := by
  have hmf := mf
  have H := Lib.hid (rnum_any R ad c l p w h.rd)
  have HE := Lib.hid hE
  have x0 := h.x0
  have hgV : Hid (gV l p = nV l p) := if_pos ⟨hE, hV⟩
  have hgB : Hid (gB l p = false) := by show (!decide _) = false; simp [hE, hV]
  have wv : IntKind.i64.wrap (nV l p : Int) = nV l p := IntWalk.i64_in _ (by omega)
  have hV' : ¬ (4611686018427387904 : Int) < nV l p := by omega
  generalize nV l p = v at *
  clear hE hV
  go_enter Tryz.func132, Tryz.ntmps132
  go_wp2_with (go_at_call 28; refine H.out.mono ?_; rw [HE.out]; rintro e w1 ⟨rfl, hr1, hk1⟩)
  go_ret
  exact ⟨by rw [hgV.out]; rfl, by rw [hgB.out, Bool.or_false]; exact h.read hk1 hr1, hk1.mono (fun k hk => .inl (by simp at hk ⊢; exact .inl hk))⟩
set_option maxRecDepth 20000 in set_option maxHeartbeats 1000000 in
theorem gnum_no (R X : Nat) (b : Bool) (ad : Addr) (c : Nat) (l : List UInt8) (p : Nat) (w : World) (h : Rg w R X b (some ad) c l p) (hE : nE l p = 4) (hV : True) :
    Calls Tryz.prog 132 #[.pointer (some ⟨X, 0, none⟩)] w (GNum R X b (some ad) c l p w) := by
  have hmf := mf
  have H := Lib.hid (rnum_any R ad c l p w h.rd)
  have HE := Lib.hid hE
  have x0 := h.x0
  have hgV : Hid (gV l p = 0) := if_neg (fun hh => by omega)
  have hgB : Hid (gB l p = true) := by
    show (!decide _) = true
    rw [decide_eq_false (fun hh => by omega)]; rfl
  clear hV; have hV : True := trivial
  generalize nV l p = v at *
  clear hE hV
  go_enter Tryz.func132, Tryz.ntmps132
  go_wp2_with (go_at_call 28; refine H.out.mono ?_; rw [HE.out]; rintro e w1 ⟨rfl, hr1, hk1⟩; have hg1 := h.read hk1 hr1; have y0 := hg1.x0; have y1 := hg1.x1; have yf := hg1.xf)
  go_ret
  exact ⟨by rw [hgV.out]; rfl, by rw [hgB.out, Bool.or_true]; exact hg1.mark true, (hk1.mono (fun k hk => .inl (by simp at hk ⊢; exact .inl hk))).setCell (.inl (by simp)) _⟩
set_option maxRecDepth 20000 in set_option maxHeartbeats 1000000 in
theorem gnum_big (R X : Nat) (b : Bool) (ad : Addr) (c : Nat) (l : List UInt8) (p : Nat) (w : World) (h : Rg w R X b (some ad) c l p) (hE : nE l p = 0) (hV : 4611686018427387904 < nV l p) :
    Calls Tryz.prog 132 #[.pointer (some ⟨X, 0, none⟩)] w (GNum R X b (some ad) c l p w) := by
  have hmf := mf
  have H := Lib.hid (rnum_any R ad c l p w h.rd)
  have HE := Lib.hid hE
  have x0 := h.x0
  have hgV : Hid (gV l p = 0) := if_neg (fun hh => by omega)
  have hgB : Hid (gB l p = true) := by
    show (!decide _) = true
    rw [decide_eq_false (fun hh => by omega)]; rfl
  have hV' : (4611686018427387904 : Int) < nV l p := by omega
  generalize nV l p = v at *
  clear hE hV
  go_enter Tryz.func132, Tryz.ntmps132
  go_wp2_with (go_at_call 28; refine H.out.mono ?_; rw [HE.out]; rintro e w1 ⟨rfl, hr1, hk1⟩; have hg1 := h.read hk1 hr1; have y0 := hg1.x0; have y1 := hg1.x1; have yf := hg1.xf)
  go_ret
  exact ⟨by rw [hgV.out]; rfl, by rw [hgB.out, Bool.or_true]; exact hg1.mark true, (hk1.mono (fun k hk => .inl (by simp at hk ⊢; exact .inl hk))).setCell (.inl (by simp)) _⟩
theorem gnum_any (R X : Nat) (b : Bool) (ad : Addr) (c : Nat) (l : List UInt8) (p : Nat) (w : World) (h : Rg w R X b (some ad) c l p) :
    Calls Tryz.prog 132 #[.pointer (some ⟨X, 0, none⟩)] w (GNum R X b (some ad) c l p w) := by
  rcases nE_cases l p with h0 | ⟨h0, -, -⟩
  · by_cases hV : nV l p ≤ 4611686018427387904
    · exact gnum_ok R X b ad c l p w h h0 hV
    · exact gnum_big R X b ad c l p w h h0 (by omega)
  · exact gnum_no R X b ad c l p w h h0 trivial

def gL (l : List UInt8) (p : Nat) : ByteArray := S (yV 12 l (nP l p))
def gBB (l : List UInt8) (p : Nat) : Bool := gB l p || decide (yE 12 l (nP l p) ≠ 0)
def gP (l : List UInt8) (p : Nat) : Nat := yP 12 l (nP l p)
def GBr (R X : Nat) (b : Bool) (A : Option Addr) (c : Nat) (l : List UInt8) (p : Nat) (w : World) (e : Ending) (w' : World) : Prop :=
  e = .returned (vB (gV l p) (gL l p)) ∧ Rg w' R X (b || gBB l p) A c l (gP l p) ∧ Keep [R, X] w w'
theorem kRX {R X : Nat} {w w' : World} (h : Keep [R] w w') : Keep [R, X] w w' := h.mono (fun k hk => .inl (by simp at hk ⊢; exact .inl hk))
set_option maxRecDepth 20000 in set_option maxHeartbeats 1000000 in
theorem gbr_ok (R X : Nat) (b : Bool) (ad : Addr) (c : Nat) (l : List UInt8) (p : Nat) (w : World) (h : Rg w R X b (some ad) c l p) (hE : yE 12 l (nP l p) = 0) :
    Calls Tryz.prog 121 #[.pointer (some ⟨X, 0, none⟩)] w (GBr R X b (some ad) c l p w) := by
  have hmf := mf
  have x0 := h.x0
  have hX := h.xlt
  have hR := h.rd.lt
  have HE := Lib.hid hE
  clear hE
  go_enter Tryz.func121, Tryz.ntmps121
  go_wp2_with fail
  refine (gnum_any R X b ad c l p _ (h.below (below_alloc _ _))).mono ?_
  rintro e w1 ⟨rfl, hg1, hk1⟩
  have hs1 : w.heap.size < w1.heap.size := by have := hk1.size; simp at this; omega
  have r0 : w1.cell? ⟨w.heap.size, 0, none⟩ = some (.int .i64 0) := hk1.cell_on (by simp) (by simp; omega) (by simp)
  have r1 : w1.cell? ⟨w.heap.size, 1, none⟩ = some (.string ⟨#[]⟩) := hk1.cell_on (by simp) (by simp; omega) (by simp)
  have rf : ∀ i, w1.frozen? ⟨w.heap.size, i, none⟩ = false := fun i => by rw [hk1.bcell.2 _ _ (by simp) (by simp; omega)]; simp
  have hk1' : Keep [R, X] w w1 := (Keep.of_below (below_alloc w _)).trans hk1
  have y0 := hg1.x0
  have hX1 := hg1.xlt
  generalize hb1 : (b || gB l p) = b1 at hg1
  have HB1 := Lib.hid hb1
  clear hb1 hk1
  go_wp2_with fail
  refine (rbyt_ok R ad c l (nP l p) 12 _ (hg1.rd.below (below_alloc _ _)) (by omega) HE.out).mono ?_
  rintro e w2 ⟨v, rfl, hown, hr2, hk2⟩
  have hbs : Hid (yV 12 l (nP l p) = (l.drop (nP l (nP l p))).take (nV l (nP l p))) := if_pos HE.out
  have hps : Hid (gP l p = nP l (nP l p) + nV l (nP l p)) := if_pos HE.out
  have hee : Hid (gBB l p = gB l p) := by show (gB l p || decide (yE 12 l (nP l p) ≠ 0)) = gB l p; rw [HE.out]; simp
  rw [← hps.out] at hr2
  rw [← hbs.out] at hown
  have hg2 : Rg w2 R X b1 (some ad) c l (gP l p) := (hg1.below (below_alloc _ _)).read hk2 hr2
  have hs2 : w1.heap.size < w2.heap.size := by have := hk2.size; simp at this; omega
  have q0 : w2.cell? ⟨w.heap.size, 0, none⟩ = some (.int .i64 0) := hk2.cell_on (by simp; omega) (by simp; omega) ((World.cell?_alloc_lt w1 _ _ hs1).trans r0)
  have q1 : w2.cell? ⟨w.heap.size, 1, none⟩ = some (.string ⟨#[]⟩) := hk2.cell_on (by simp; omega) (by simp; omega) ((World.cell?_alloc_lt w1 _ _ hs1).trans r1)
  have qf : ∀ i, w2.frozen? ⟨w.heap.size, i, none⟩ = false := fun i => by rw [hk2.bcell.2 _ _ (by simp; omega) (by simp; omega), (below_alloc w1 _).frozen (p := ⟨w.heap.size, i, none⟩) hs1]; exact rf i
  have s0 : w2.cell? ⟨w1.heap.size, 0, none⟩ = some (.int .i64 (gV l p)) := hk2.cell_on (by simp) (by have := hg1.rd.lt; simp; omega) (by simp)
  have s1 : w2.cell? ⟨w1.heap.size, 1, none⟩ = some (.string ⟨#[]⟩) := hk2.cell_on (by simp) (by have := hg1.rd.lt; simp; omega) (by simp)
  have sf : ∀ i, w2.frozen? ⟨w1.heap.size, i, none⟩ = false := fun i => by rw [hk2.bcell.2 _ _ (by simp) (by have := hg1.rd.lt; simp; omega)]; simp
  have hk2' : Keep [R, X] w w2 := hk1'.trans (kRX ((Keep.of_below (below_alloc w1 _)).trans hk2))
  have z0 := hg2.x0
  have z1 := hg2.x1
  have zf := hg2.xf
  have hX2 := hg2.xlt
  have hgm := hg2.mark (b1)
  have hkm : Keep [R, X] w (w2.setCell ⟨X, 1, none⟩ (.bool (b1))) := hk2'.setCell (.inl (by simp)) _
  have hcv := conv_string (of_own (ownsRow_setCell_below hown (a := ⟨X, 1, none⟩) (by simp; omega) (.bool b1)))
  clear hown hr2 hk2 r0 r1 rf y0 hk2' hk1' x0
  have HM := Lib.hid hgm
  have HK := Lib.hid hkm
  clear hgm hkm
  have d1 : w.heap.size ≠ w1.heap.size := by omega
  have d2 : X ≠ w.heap.size := by omega
  have d3 : X ≠ w1.heap.size := by omega
  cases b1
  all_goals
    go_wp2
    refine bodyPost_ret (v := vB (gV l p) (gL l p)) ?_ rfl ⟨rfl, ?_, ?_⟩
    · simp [results, Tryz.results121, go_sem, q0, q1, qf, s0, s1, sf, d1, d2, d3, Ne.symm d1, Ne.symm d2, Ne.symm d3]
      first | rfl | rw [gL, hbs.out]
    · rw [hee.out]; rw [HB1.out]; exact Rg.new h (Rg.new h (Rg.new h HM.out (by simp; omega) _) (by simp) _) (by simp) _
    · exact ((HK.out.setCell (.inr (by simp; omega)) _).setCell (.inr (by simp)) _).setCell (.inr (by simp)) _
set_option maxRecDepth 20000 in set_option maxHeartbeats 1000000 in
theorem gbr_bad (R X : Nat) (b : Bool) (ad : Addr) (c : Nat) (l : List UInt8) (p : Nat) (w : World) (h : Rg w R X b (some ad) c l p) (hE : yE 12 l (nP l p) ≠ 0) :
    Calls Tryz.prog 121 #[.pointer (some ⟨X, 0, none⟩)] w (GBr R X b (some ad) c l p w) := by
  have hmf := mf
  have x0 := h.x0
  have hX := h.xlt
  have hR := h.rd.lt
  have HE := Lib.hid hE
  clear hE
  go_enter Tryz.func121, Tryz.ntmps121
  go_wp2_with fail
  refine (gnum_any R X b ad c l p _ (h.below (below_alloc _ _))).mono ?_
  rintro e w1 ⟨rfl, hg1, hk1⟩
  have hs1 : w.heap.size < w1.heap.size := by have := hk1.size; simp at this; omega
  have r0 : w1.cell? ⟨w.heap.size, 0, none⟩ = some (.int .i64 0) := hk1.cell_on (by simp) (by simp; omega) (by simp)
  have r1 : w1.cell? ⟨w.heap.size, 1, none⟩ = some (.string ⟨#[]⟩) := hk1.cell_on (by simp) (by simp; omega) (by simp)
  have rf : ∀ i, w1.frozen? ⟨w.heap.size, i, none⟩ = false := fun i => by rw [hk1.bcell.2 _ _ (by simp) (by simp; omega)]; simp
  have hk1' : Keep [R, X] w w1 := (Keep.of_below (below_alloc w _)).trans hk1
  have y0 := hg1.x0
  have hX1 := hg1.xlt
  generalize hb1 : (b || gB l p) = b1 at hg1
  have HB1 := Lib.hid hb1
  clear hb1 hk1
  go_wp2_with fail
  refine (rbyt_bad R ad c l (nP l p) 12 _ (hg1.rd.below (below_alloc _ _)) (by omega) HE.out).mono ?_
  rintro e w2 ⟨rfl, hr2, hk2⟩
  have hbs : Hid (yV 12 l (nP l p) = []) := if_neg HE.out
  have hps : Hid (gP l p = nP l p) := if_neg HE.out
  have hee : Hid (gBB l p = true) := by show (gB l p || decide (yE 12 l (nP l p) ≠ 0)) = true; rw [decide_eq_true HE.out]; simp
  have hne : (yE 12 l (nP l p) == 0) = false := by rw [beq_eq_false_iff_ne]; exact HE.out
  have hne2 : (yE 12 l (nP l p) != 0) = true := by rw [bne, hne]; rfl
  generalize yE 12 l (nP l p) = ye at *
  rw [← hps.out] at hr2
  have hg2 : Rg w2 R X b1 (some ad) c l (gP l p) := (hg1.below (below_alloc _ _)).read hk2 hr2
  have hs2 : w1.heap.size < w2.heap.size := by have := hk2.size; simp at this; omega
  have q0 : w2.cell? ⟨w.heap.size, 0, none⟩ = some (.int .i64 0) := hk2.cell_on (by simp; omega) (by simp; omega) ((World.cell?_alloc_lt w1 _ _ hs1).trans r0)
  have q1 : w2.cell? ⟨w.heap.size, 1, none⟩ = some (.string ⟨#[]⟩) := hk2.cell_on (by simp; omega) (by simp; omega) ((World.cell?_alloc_lt w1 _ _ hs1).trans r1)
  have qf : ∀ i, w2.frozen? ⟨w.heap.size, i, none⟩ = false := fun i => by rw [hk2.bcell.2 _ _ (by simp; omega) (by simp; omega), (below_alloc w1 _).frozen (p := ⟨w.heap.size, i, none⟩) hs1]; exact rf i
  have s0 : w2.cell? ⟨w1.heap.size, 0, none⟩ = some (.int .i64 (gV l p)) := hk2.cell_on (by simp) (by have := hg1.rd.lt; simp; omega) (by simp)
  have s1 : w2.cell? ⟨w1.heap.size, 1, none⟩ = some (.string ⟨#[]⟩) := hk2.cell_on (by simp) (by have := hg1.rd.lt; simp; omega) (by simp)
  have sf : ∀ i, w2.frozen? ⟨w1.heap.size, i, none⟩ = false := fun i => by rw [hk2.bcell.2 _ _ (by simp) (by have := hg1.rd.lt; simp; omega)]; simp
  have hk2' : Keep [R, X] w w2 := hk1'.trans (kRX ((Keep.of_below (below_alloc w1 _)).trans hk2))
  have z0 := hg2.x0
  have z1 := hg2.x1
  have zf := hg2.xf
  have hX2 := hg2.xlt
  have hgm := hg2.mark (true)
  have hkm : Keep [R, X] w (w2.setCell ⟨X, 1, none⟩ (.bool (true))) := hk2'.setCell (.inl (by simp)) _
  have hcv := conv_string (l := []) (v := .slice none 0 0) (w := w2.setCell ⟨X, 1, none⟩ (.bool true)) ⟨none, 0, rfl, Reads.none_⟩
  clear hr2 hk2 r0 r1 rf y0 hk2' hk1' x0
  have HM := Lib.hid hgm
  have HK := Lib.hid hkm
  clear hgm hkm
  have d1 : w.heap.size ≠ w1.heap.size := by omega
  have d2 : X ≠ w.heap.size := by omega
  have d3 : X ≠ w1.heap.size := by omega
  cases b1
  all_goals
    go_wp2
    refine bodyPost_ret (v := vB (gV l p) (gL l p)) ?_ rfl ⟨rfl, ?_, ?_⟩
    · simp [results, Tryz.results121, go_sem, q0, q1, qf, s0, s1, sf, d1, d2, d3, Ne.symm d1, Ne.symm d2, Ne.symm d3]
      first | rfl | rw [gL, hbs.out]
    · rw [hee.out]; rw [Bool.or_true]; exact Rg.new h (Rg.new h (Rg.new h HM.out (by simp; omega) _) (by simp) _) (by simp) _
    · exact ((HK.out.setCell (.inr (by simp; omega)) _).setCell (.inr (by simp)) _).setCell (.inr (by simp)) _

theorem gbr_any (R X : Nat) (b : Bool) (ad : Addr) (c : Nat) (l : List UInt8) (p : Nat) (w : World) (h : Rg w R X b (some ad) c l p) :
    Calls Tryz.prog 121 #[.pointer (some ⟨X, 0, none⟩)] w (GBr R X b (some ad) c l p w) := by
  by_cases hE : yE 12 l (nP l p) = 0
  · exact gbr_ok R X b ad c l p w h hE
  · exact gbr_bad R X b ad c l p w h hE
def gNB (l : List UInt8) (p : Nat) : Bool := gBB l p || gB l (gP l p)
def gNP (l : List UInt8) (p : Nat) : Nat := nP l (gP l p)
def gNV (l : List UInt8) (p : Nat) : Int := gV l (gP l p)
def GNa (R X : Nat) (b : Bool) (A : Option Addr) (c : Nat) (l : List UInt8) (p : Nat) (w : World) (e : Ending) (w' : World) : Prop :=
  e = .returned (vN (gV l p) (gL l p) (gNV l p)) ∧ Rg w' R X (b || gNB l p) A c l (gNP l p) ∧ Keep [R, X] w w'
set_option maxRecDepth 20000 in set_option maxHeartbeats 1000000 in
theorem gname_any (R X : Nat) (b : Bool) (ad : Addr) (c : Nat) (l : List UInt8) (p : Nat) (w : World) (h : Rg w R X b (some ad) c l p) :
    Calls Tryz.prog 126 #[.pointer (some ⟨X, 0, none⟩)] w (GNa R X b (some ad) c l p w) := by
  have hX := h.xlt
  have hR := h.rd.lt
  go_enter Tryz.func126, Tryz.ntmps126
  go_wp2_with fail
  refine (gbr_any R X b ad c l p _ (h.below (below_alloc _ _))).mono ?_
  rintro e w1 ⟨rfl, hg1, hk1⟩
  have hs1 : w.heap.size < w1.heap.size := by have := hk1.size; simp at this; omega
  have r0 : w1.cell? ⟨w.heap.size, 0, none⟩ = some (.int .i64 0) := hk1.cell_on (by simp) (by simp; omega) (by simp)
  have r1 : w1.cell? ⟨w.heap.size, 1, none⟩ = some (.string ⟨#[]⟩) := hk1.cell_on (by simp) (by simp; omega) (by simp)
  have r2 : w1.cell? ⟨w.heap.size, 2, none⟩ = some (.int .i64 0) := hk1.cell_on (by simp) (by simp; omega) (by simp)
  have rf : ∀ i, w1.frozen? ⟨w.heap.size, i, none⟩ = false := fun i => by rw [hk1.bcell.2 _ _ (by simp) (by simp; omega)]; simp
  have hk1' : Keep [R, X] w w1 := (Keep.of_below (below_alloc w _)).trans hk1
  have hX1 := hg1.xlt
  have hR1 := hg1.rd.lt
  go_wp2_with fail
  refine (gnum_any R X _ ad c l (gP l p) _ (hg1.below (below_alloc _ _))).mono ?_
  rintro e w2 ⟨rfl, hg2, hk2⟩
  have hs2 : w1.heap.size < w2.heap.size := by have := hk2.size; simp at this; omega
  have q0 : w2.cell? ⟨w.heap.size, 0, none⟩ = some (.int .i64 0) := hk2.cell_on (by simp; omega) (by simp; omega) ((World.cell?_alloc_lt w1 _ _ hs1).trans r0)
  have q1 : w2.cell? ⟨w.heap.size, 1, none⟩ = some (.string ⟨#[]⟩) := hk2.cell_on (by simp; omega) (by simp; omega) ((World.cell?_alloc_lt w1 _ _ hs1).trans r1)
  have q2 : w2.cell? ⟨w.heap.size, 2, none⟩ = some (.int .i64 0) := hk2.cell_on (by simp; omega) (by simp; omega) ((World.cell?_alloc_lt w1 _ _ hs1).trans r2)
  have qf : ∀ i, w2.frozen? ⟨w.heap.size, i, none⟩ = false := fun i => by rw [hk2.bcell.2 _ _ (by simp; omega) (by simp; omega), (below_alloc w1 _).frozen (p := ⟨w.heap.size, i, none⟩) hs1]; exact rf i
  have s0 : w2.cell? ⟨w1.heap.size, 0, none⟩ = some (.int .i64 (gV l p)) := hk2.cell_on (by simp) (by simp; omega) (by simp)
  have s1 : w2.cell? ⟨w1.heap.size, 1, none⟩ = some (.string (gL l p)) := hk2.cell_on (by simp) (by simp; omega) (by simp)
  have s2 : w2.cell? ⟨w1.heap.size, 2, none⟩ = some (.int .i64 0) := hk2.cell_on (by simp) (by simp; omega) (by simp)
  have sf : ∀ i, w2.frozen? ⟨w1.heap.size, i, none⟩ = false := fun i => by rw [hk2.bcell.2 _ _ (by simp) (by simp; omega)]; simp
  have hk2' : Keep [R, X] w w2 := hk1'.trans ((Keep.of_below (below_alloc w1 _)).trans hk2)
  have HM := Lib.hid hg2
  have HK := Lib.hid hk2'
  clear hg2 hk2' hk2 hk1 hk1' r0 r1 r2 rf
  have d1 : w.heap.size ≠ w1.heap.size := by omega
  go_wp2
  refine bodyPost_ret (v := vN (gV l p) (gL l p) (gNV l p)) ?_ rfl ⟨rfl, ?_, ?_⟩
  · simp [results, Tryz.results126, go_sem, q0, q1, q2, qf, s0, s1, s2, sf, d1, Ne.symm d1]
    try rfl
  · have := HM.out
    rw [Bool.or_assoc] at this
    exact Rg.new h (Rg.new h (Rg.new h (Rg.new h this (by simp; omega) _) (by simp) _) (by simp) _) (by simp) _
  · exact (((HK.out.setCell (.inr (by simp; omega)) _).setCell (.inr (by simp)) _).setCell (.inr (by simp)) _).setCell (.inr (by simp)) _
end Go.Proofs.YtnldgcgngolkiaaGreatDoor
