/- The program's takings and the reference's say the same: the plain law. -/
import Derived.Test.YtnldgcgngolkiaaGreatDoorSC2
import Derived.Test.YtnldgcgngolkiaaGreatDoorRC
import Derived.Test.YtnldgcgngolkiaaGreatDoorOP
namespace Go.Proofs.YtnldgcgngolkiaaGreatDoor
open Go.RowKit
set_option linter.unusedVariables false
set_option linter.unusedSimpArgs false
set_option linter.unnecessarySimpa false

theorem gB_iff {l : List UInt8} {p : Nat} : gB l p = false ↔ nE l p = 0 ∧ nV l p ≤ 4611686018427387904 := by simp [gB]
theorem gB_q {l : List UInt8} {p : Nat} (h : gB l p = false) : qV l p = gV l p := by
  have := gB_iff.1 h
  rw [qV, gV, if_pos this, if_pos this]
theorem q_gB {l : List UInt8} {p : Nat} (h : 0 ≤ qV l p) : gB l p = false := by
  unfold qV at h
  split at h
  · exact gB_iff.2 (by assumption)
  · omega
theorem y12 {l : List UInt8} {q : Nat} (h : yE 12 l q = 0) : yE 99 l q = 0 := by
  obtain ⟨h0, h1, h2⟩ := yE_ok h
  rw [yE, if_pos h0, if_pos (by omega), if_pos h2]
theorem y99 {l : List UInt8} {q : Nat} (h : yE 99 l q = 0) (hl : (yV 99 l q).length ≤ 12) : yE 12 l q = 0 := by
  obtain ⟨h0, h1, h2⟩ := yE_ok h
  rw [yV, if_pos h, List.length_take, List.length_drop] at hl
  rw [yE, if_pos h0, if_pos (by omega), if_pos h2]
theorem yV_same {l : List UInt8} {q : Nat} (h : yE 12 l q = 0) : yV 12 l q = yV 99 l q := by rw [yV, yV, if_pos h, if_pos (y12 h)]
theorem yP_same {l : List UInt8} {q : Nat} (h : yE 12 l q = 0) : yP 12 l q = yP 99 l q := by rw [yP, yP, if_pos h, if_pos (y12 h)]
theorem gBB_iff {l : List UInt8} {p : Nat} : gBB l p = false ↔ gB l p = false ∧ yE 12 l (nP l p) = 0 := by simp [gBB]
theorem gBB_q {l : List UInt8} {p : Nat} (h : gBB l p = false) : qV l p = gV l p ∧ qL l p = gL l p ∧ qP l p = gP l p := by
  obtain ⟨h1, h2⟩ := gBB_iff.1 h
  exact ⟨gB_q h1, by rw [qL, gL, yV_same h2], by rw [qP, gP, yP_same h2]⟩
theorem q_gBB {l : List UInt8} {p : Nat} (h : okB (qV l p) (qL l p) = true) : gBB l p = false := by
  have hb := okB_iff.1 h
  refine gBB_iff.2 ⟨q_gB hb.1, ?_⟩
  have hd : (qL l p).data.toList = yV 99 l (nP l p) := by simp [qL]
  have hlab := hb.2.2
  rw [hd] at hlab
  simp only [lab, Bool.and_eq_true, decide_eq_true_eq] at hlab
  refine y99 ?_ hlab.2
  by_cases hy : yE 99 l (nP l p) = 0
  · exact hy
  · have := hlab.1.2
    rw [yV, if_neg hy] at this
    simp at this
theorem gNB_iff {l : List UInt8} {p : Nat} : gNB l p = false ↔ gBB l p = false ∧ gB l (gP l p) = false := by simp [gNB]
theorem gNB_q {l : List UInt8} {p : Nat} (h : gNB l p = false) : qV l p = gV l p ∧ qL l p = gL l p ∧ qNV l p = gNV l p ∧ qNP l p = gNP l p := by
  obtain ⟨h1, h2⟩ := gNB_iff.1 h
  obtain ⟨e1, e2, e3⟩ := gBB_q h1
  exact ⟨e1, e2, by rw [qNV, gNV, e3, gB_q h2], by rw [qNP, gNP, e3]⟩
theorem q_gNB {l : List UInt8} {p : Nat} (h : okN (qV l p) (qL l p) (qNV l p) = true) : gNB l p = false := by
  have hn := okN_iff.1 h
  have h1 := q_gBB hn.1
  refine gNB_iff.2 ⟨h1, ?_⟩
  rw [← (gBB_q h1).2.2]
  exact q_gB (by have := hn.2.1; rw [qNV] at this; omega)
theorem gSB_iff {l : List UInt8} {p : Nat} : gSB l p = false ↔ gB l p = false ∧ gNB l (nP l p) = false ∧ gB l (gNP l (nP l p)) = false := by simp [gSB, and_assoc]
theorem gSB_q {l : List UInt8} {p : Nat} (h : gSB l p = false) : qV l p = gV l p ∧ qV l (nP l p) = gV l (nP l p) ∧ qL l (nP l p) = gL l (nP l p) ∧ qNV l (nP l p) = gNV l (nP l p) ∧ qSI l p = gSI l p ∧ qSP l p = gSP l p := by
  obtain ⟨h1, h2, h3⟩ := gSB_iff.1 h
  obtain ⟨e1, e2, e3, e4⟩ := gNB_q h2
  exact ⟨gB_q h1, e1, e2, e3, by rw [qSI, gSI, e4, gB_q h3], by rw [qSP, gSP, e4]⟩
theorem q_gSB {l : List UInt8} {p : Nat} (h : okS (qV l p) (qV l (nP l p)) (qL l (nP l p)) (qNV l (nP l p)) (qSI l p) = true) : gSB l p = false := by
  have hs := okS_iff.1 h
  have h1 := q_gNB hs.2.2.1
  refine gSB_iff.2 ⟨q_gB (by omega), h1, ?_⟩
  rw [← (gNB_q h1).2.2.2]
  exact q_gB (by have := hs.2.2.2.1; rw [qSI] at this; omega)

/-- Two functions say the same of a place. -/
def Same2 (f g : FuncId) (l : List UInt8) (p : Nat) (v : Value) (n : Int) (q : Nat) : Prop :=
  (∀ R ad c w, Rd w R TR (some ad) c l p → Calls Tryz.prog f #[.pointer (some ⟨R, 0, none⟩)] w fun e w' => e = .returned (.tuple #[v, .int .i64 n]) ∧ Rd w' R TR (some ad) c l q ∧ Keep [R] w w') ∧
  (∀ R A c w, Rd w R TQ A c l p → Calls Tryz.prog g #[.pointer (some ⟨R, 0, none⟩)] w fun e w' => e = .returned (.tuple #[v, .int .i64 n]) ∧ Rd w' R TQ A c l q ∧ Keep [R] w w')
theorem takeB_both (l : List UInt8) (p : Nat) : ∃ r s n q, Same2 29 30 l p (vB r s) n q := by
  cases hO : okB (qV l p) (qL l p) with
  | true =>
    have h1 := q_gBB hO
    obtain ⟨e1, e2, e3⟩ := gBB_q h1
    refine ⟨qV l p, qL l p, 0, qP l p, fun R ad c w h => ?_, fun R A c w h => qtakeB_yes R A c l p w h hO⟩
    have := takeB_yes R ad c l p w h h1 (by rw [← e1, ← e2]; exact hO)
    rwa [← e1, ← e2, ← e3] at this
  | false =>
    refine ⟨0, ⟨#[]⟩, 4, p, fun R ad c w h => takeB_not R ad c l p w h ?_, fun R A c w h => qtakeB_no R A c l p w h hO⟩
    rintro ⟨h1, h2⟩
    obtain ⟨e1, e2, e3⟩ := gBB_q h1
    rw [e1, e2, h2] at hO
    cases hO
theorem takeN_both (l : List UInt8) (p : Nat) : ∃ r s m n q, Same2 31 32 l p (vN r s m) n q := by
  cases hO : okN (qV l p) (qL l p) (qNV l p) with
  | true =>
    have h1 := q_gNB hO
    obtain ⟨e1, e2, e3, e4⟩ := gNB_q h1
    refine ⟨qV l p, qL l p, qNV l p, 0, qNP l p, fun R ad c w h => ?_, fun R A c w h => qtakeN_yes R A c l p w h hO⟩
    have := takeN_yes R ad c l p w h h1 (by rw [← e1, ← e2, ← e3]; exact hO)
    rwa [← e1, ← e2, ← e3, ← e4] at this
  | false =>
    refine ⟨0, ⟨#[]⟩, 0, 4, p, fun R ad c w h => takeN_not R ad c l p w h ?_, fun R A c w h => qtakeN_no R A c l p w h hO⟩
    rintro ⟨h1, h2⟩
    obtain ⟨e1, e2, e3, e4⟩ := gNB_q h1
    rw [e1, e2, e3, h2] at hO
    cases hO
theorem takeS_both (l : List UInt8) (p : Nat) : ∃ g r s m i n q, Same2 33 34 l p (vS g r s m i) n q := by
  cases hO : okS (qV l p) (qV l (nP l p)) (qL l (nP l p)) (qNV l (nP l p)) (qSI l p) with
  | true =>
    have h1 := q_gSB hO
    obtain ⟨e1, e2, e3, e4, e5, e6⟩ := gSB_q h1
    refine ⟨qV l p, qV l (nP l p), qL l (nP l p), qNV l (nP l p), qSI l p, 0, qSP l p, fun R ad c w h => ?_, fun R A c w h => qtakeS_yes R A c l p w h hO⟩
    have := takeS_yes R ad c l p w h h1 (by rw [← e1, ← e2, ← e3, ← e4, ← e5]; exact hO)
    rwa [gS, ← e1, ← e2, ← e3, ← e4, ← e5, ← e6] at this
  | false =>
    refine ⟨0, 0, ⟨#[]⟩, 0, 0, 4, p, fun R ad c w h => takeS_not R ad c l p w h ?_, fun R A c w h => qtakeS_no R A c l p w h hO⟩
    rintro ⟨h1, h2⟩
    obtain ⟨e1, e2, e3, e4, e5, e6⟩ := gSB_q h1
    rw [e1, e2, e3, e4, e5, h2] at hO
    cases hO
end Go.Proofs.YtnldgcgngolkiaaGreatDoor
