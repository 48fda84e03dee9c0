/- The program's parsers and the reference's say the same. -/
import Derived.Test.YtnldgcgngolkiaaGreatDoorW
namespace Go.Proofs.YtnldgcgngolkiaaGreatDoor
open Go.RowKit
set_option linter.unusedVariables false
set_option linter.unusedSimpArgs false

theorem cutR_dots (s : ByteArray) : cutR s = (dots s).take 9 := by rw [cutR, dots_S, List.map_take]
theorem cutR_sizes {s x : ByteArray} {n : Nat} (h : s.size ≤ n) (hx : x ∈ cutR s) : x.size ≤ n := by
  rw [cutR_dots] at hx
  exact dots_sizes h (List.mem_of_mem_take hx)
theorem data_S {x : List UInt8} {s : ByteArray} (h : S x = s) : s.data.toList = x := by rw [← h]
/-- Two functions answer alike at s. -/
def Says (f : FuncId) (s : ByteArray) (v : Value) (n : Int) : Prop := ∀ w, Env w → Calls Tryz.prog f #[.string s] w fun e w' => e = .returned (.tuple #[v, .int .i64 n]) ∧ Below w.heap.size w w'

theorem parseBranch_both (s : ByteArray) (hs : s.size ≤ 1000000) : ∃ r l n, Says 16 s (vB r l) n ∧ Says 17 s (vB r l) n := by
  by_cases h : ∃ r l, okB r l = true ∧ S (tB r l) = s
  · obtain ⟨r, l, hok, ht⟩ := h
    have hd := data_S ht
    have hr := okB_rng hok
    have hc : Lib.cut s.data.toList [46] = (Lib.itoa r, l.data.toList, true) := by rw [hd, tB, cut_dot _ _ (nodot_itoa hr.1)]
    have eb : cutB s = l := by rw [cutB, hc, S_data]
    have ea : rd (cutA s) = r := by rw [cutA, hc, rd_itoa hr.1 (by omega)]
    have er : cutR s = [S (Lib.itoa r), l] := by rw [cutR, hd, pcs_tB hok]; simp [S_data]
    have era := rrd_itoa hr.1 (by omega : r ≤ 4611686018427387904)
    have hz : ∀ x ∈ cutR s, x.size ≤ 1000000 := fun x hx => cutR_sizes hs hx
    rw [er] at hz
    refine ⟨r, l, 0, fun w E => ?_, fun w E => ?_⟩
    · have := parseBranch_yes s w E hs (by rw [ea, eb]; exact ⟨hok, ht⟩)
      rwa [ea, eb] at this
    · have := rparseBranch_yes s _ _ w E hs er (by rw [era]; exact hok) (by rw [era]; exact ht) (hz _ (by simp)) (hz _ (by simp))
      rwa [era] at this
  · refine ⟨0, ⟨#[]⟩, 4, fun w E => parseBranch_not s w E hs (fun h' => h ⟨_, _, h'⟩), fun w E => ?_⟩
    by_cases hn : (cutR s).length = 2
    · obtain ⟨a, b, he⟩ : ∃ a b, cutR s = [a, b] := by
        match hc : cutR s, hn with
        | [a, b], _ => exact ⟨a, b, rfl⟩
      have ha := cutR_sizes (x := a) hs (by rw [he]; simp)
      have hb := cutR_sizes (x := b) hs (by rw [he]; simp)
      cases hok : okB (rrd a) b with
      | false => exact rparseBranch_no s a b w E hs he hok trivial ha hb
      | true => exact rparseBranch_ne s a b w E hs he hok (fun ht => h ⟨_, _, hok, ht⟩) ha hb
    · exact rparseBranch_len s w hs hn
theorem parseName_both (s : ByteArray) (hs : s.size ≤ 1000000) : ∃ r l n m, Says 18 s (vN r l n) m ∧ Says 19 s (vN r l n) m := by
  by_cases h : ∃ r l n, okN r l n = true ∧ S (tN r l n) = s
  · obtain ⟨r, l, n, hok, ht⟩ := h
    have hd := data_S ht
    have h0 := okN_iff.1 hok
    have hr := okB_rng h0.1
    have ed : dots s = [S (Lib.itoa r), l, S (Lib.itoa n)] := by rw [dots_S, hd, pcs_tN hok]; simp [S_data]
    have er : cutR s = [S (Lib.itoa r), l, S (Lib.itoa n)] := by rw [cutR_dots, ed]; rfl
    have e1 := rd_itoa hr.1 (by omega : r ≤ 4611686018427387904)
    have e2 := rd_itoa (n := n) (by omega) (by omega)
    have r1 := rrd_itoa hr.1 (by omega : r ≤ 4611686018427387904)
    have r2 := rrd_itoa (n := n) (by omega) (by omega)
    have hz : ∀ x ∈ cutR s, x.size ≤ 1000000 := fun x hx => cutR_sizes hs hx
    rw [er] at hz
    refine ⟨r, l, n, 0, fun w E => ?_, fun w E => ?_⟩
    · have := parseName_yes s _ _ _ w E hs ed (by rw [e1, e2]; exact ⟨hok, ht⟩)
      rwa [e1, e2] at this
    · have := rparseName_yes s _ _ _ w E hs er (by rw [r1, r2]; exact hok) (by rw [r1, r2]; exact ht) (hz _ (by simp)) (hz _ (by simp)) (hz _ (by simp))
      rwa [r1, r2] at this
  · refine ⟨0, ⟨#[]⟩, 0, 4, fun w E => ?_, fun w E => ?_⟩
    · by_cases hn : (dots s).length = 3
      · obtain ⟨a, b, c, he⟩ : ∃ a b c, dots s = [a, b, c] := by
          match hc : dots s, hn with
          | [a, b, c], _ => exact ⟨a, b, c, rfl⟩
        exact parseName_not s a b c w E hs he (fun h' => h ⟨_, _, _, h'⟩)
      · exact parseName_len s w E hs hn
    · by_cases hn : (cutR s).length = 3
      · obtain ⟨a, b, c, he⟩ : ∃ a b c, cutR s = [a, b, c] := by
          match hc : cutR s, hn with
          | [a, b, c], _ => exact ⟨a, b, c, rfl⟩
        have ha := cutR_sizes (x := a) hs (by rw [he]; simp)
        have hb := cutR_sizes (x := b) hs (by rw [he]; simp)
        have hc := cutR_sizes (x := c) hs (by rw [he]; simp)
        cases hok : okN (rrd a) b (rrd c) with
        | false => exact rparseName_no s a b c w E hs he hok trivial ha hb hc
        | true => exact rparseName_ne s a b c w E hs he hok (fun ht => h ⟨_, _, _, hok, ht⟩) ha hb hc
      · exact rparseName_len s w hs hn
theorem parse_both (s : ByteArray) (hs : s.size ≤ 1000000) : ∃ g r l n i m, Says 20 s (vS g r l n i) m ∧ Says 21 s (vS g r l n i) m := by
  by_cases h : ∃ g r l n i, okS g r l n i = true ∧ S (tS g r l n i) = s
  · obtain ⟨g, r, l, n, i, hok, ht⟩ := h
    have hd := data_S ht
    have h3 := okS_iff.1 hok
    have h0 := okN_iff.1 h3.2.2.1
    have hr := okB_rng h0.1
    have ed : dots s = [S (Lib.itoa g), S (Lib.itoa r), l, S (Lib.itoa n), S (Lib.itoa i)] := by rw [dots_S, hd, pcs_tS hok]; simp [S_data]
    have er : cutR s = [S (Lib.itoa g), S (Lib.itoa r), l, S (Lib.itoa n), S (Lib.itoa i)] := by rw [cutR_dots, ed]; rfl
    have e0 := rd_itoa (n := g) (by omega) (by omega)
    have e1 := rd_itoa hr.1 (by omega : r ≤ 4611686018427387904)
    have e2 := rd_itoa (n := n) (by omega) (by omega)
    have e3 := rd_itoa (n := i) (by omega) (by omega)
    have r0 := rrd_itoa (n := g) (by omega) (by omega)
    have r1 := rrd_itoa hr.1 (by omega : r ≤ 4611686018427387904)
    have r2 := rrd_itoa (n := n) (by omega) (by omega)
    have r3 := rrd_itoa (n := i) (by omega) (by omega)
    have hz : ∀ x ∈ cutR s, x.size ≤ 1000000 := fun x hx => cutR_sizes hs hx
    rw [er] at hz
    refine ⟨g, r, l, n, i, 0, fun w E => ?_, fun w E => ?_⟩
    · have := parseStamp_yes s _ _ _ _ _ w E hs ed (by rw [e0, e1, e2, e3]; exact ⟨hok, ht⟩)
      rwa [e0, e1, e2, e3] at this
    · have := rparse_yes s _ _ _ _ _ w E hs er (by rw [r0, r1, r2, r3]; exact hok) (by rw [r0, r1, r2, r3]; exact ht) (hz _ (by simp)) (hz _ (by simp)) (hz _ (by simp)) (hz _ (by simp)) (hz _ (by simp))
      rwa [r0, r1, r2, r3] at this
  · refine ⟨0, 0, ⟨#[]⟩, 0, 0, 4, fun w E => ?_, fun w E => ?_⟩
    · by_cases hn : (dots s).length = 5
      · obtain ⟨a, b, c, d, g, he⟩ : ∃ a b c d g, dots s = [a, b, c, d, g] := by
          match hc : dots s, hn with
          | [a, b, c, d, g], _ => exact ⟨a, b, c, d, g, rfl⟩
        exact parseStamp_not s a b c d g w E hs he (fun h' => h ⟨_, _, _, _, _, h'⟩)
      · exact parseStamp_len s w E hs hn
    · by_cases hn : (cutR s).length = 5
      · obtain ⟨a, b, c, d, g, he⟩ : ∃ a b c d g, cutR s = [a, b, c, d, g] := by
          match hc : cutR s, hn with
          | [a, b, c, d, g], _ => exact ⟨a, b, c, d, g, rfl⟩
        have ha := cutR_sizes (x := a) hs (by rw [he]; simp)
        have hb := cutR_sizes (x := b) hs (by rw [he]; simp)
        have hc := cutR_sizes (x := c) hs (by rw [he]; simp)
        have hd := cutR_sizes (x := d) hs (by rw [he]; simp)
        have hg := cutR_sizes (x := g) hs (by rw [he]; simp)
        cases hok : okS (rrd a) (rrd b) c (rrd d) (rrd g) with
        | false => exact rparse_no s a b c d g w E hs he hok trivial ha hb hc hd hg
        | true => exact rparse_ne s a b c d g w E hs he hok (fun ht => h ⟨_, _, _, _, _, hok, ht⟩) ha hb hc hd hg
      · exact rparse_len s w hs hn
theorem ofKey_both (s : ByteArray) (hs : s.size ≤ 1000000) : ∃ g r l n i m, Says 22 s (vS g r l n i) m ∧ Says 23 s (vS g r l n i) m := by
  by_cases hn : s.size < 19
  · exact ⟨0, 0, ⟨#[]⟩, 0, 0, 4, fun w E => ofKey_len s w hn, fun w E => rofKey_len s w hn⟩
  · have h19 : 19 ≤ s.size := by omega
    by_cases h : okS (back8 s) (kr s) (kl s) (kn s) (ki s) = true ∧ S (kS (back8 s) (kr s) (kl s) (kn s) (ki s)) = s
    · exact ⟨_, _, _, _, _, 0, fun w E => ofKey_yes s w E h19 hs h, fun w E => rofKey_yes s w E h19 hs h.1 h.2⟩
    · refine ⟨0, 0, ⟨#[]⟩, 0, 0, 4, fun w E => ofKey_not s w E h19 hs h, fun w E => ?_⟩
      cases hok : okS (back8 s) (kr s) (kl s) (kn s) (ki s) with
      | false => exact rofKey_no s w E h19 hs hok trivial
      | true => exact rofKey_ne s w E h19 hs hok (fun ht => h ⟨hok, ht⟩)
end Go.Proofs.YtnldgcgngolkiaaGreatDoor
