/- Pieces and numbers: the plain law of the parsers. No program here but for the definitions that the walks use. -/
import Derived.Test.YtnldgcgngolkiaaGreatDoorV
import Derived.Lib.ParseIntBCases
namespace Go.Proofs.YtnldgcgngolkiaaGreatDoor
open Go.RowKit
set_option linter.unusedVariables false
set_option linter.unusedSimpArgs false

theorem digit_num (d : Nat) (h : d < 10) : (UInt8.ofNat (48 + d)).toNat = 48 + d := by
  simp; omega
theorem parse_dec (r : List UInt8) : ∀ (u : Nat), u ≤ 4611686018427387904 → Lib.parseUintM 18446744073709551615 0 (Lib.decDigits u ++ r) = Lib.parseUintM 18446744073709551615 u r := by
  intro u
  induction u using Nat.strongRecOn generalizing r with
  | _ u ih =>
    intro hu
    rw [Lib.decDigits]
    split
    · rename_i h
      simp only [List.singleton_append, List.cons_append, List.nil_append, Lib.parseUintM]
      rw [digit_num u h, if_pos (by omega), if_neg (by omega), if_neg (by omega)]
      congr 1; omega
    · rename_i h
      rw [List.append_assoc, ih (u / 10) (by omega) _ (by omega)]
      simp only [List.singleton_append, Lib.parseUintM]
      rw [digit_num (u % 10) (by omega), if_pos (by omega), if_neg (by omega), if_neg (by omega)]
      congr 1; omega
theorem dec_range (u : Nat) : ∀ c ∈ Lib.decDigits u, 48 ≤ c.toNat ∧ c.toNat ≤ 57 := by
  induction u using Nat.strongRecOn with
  | _ u ih =>
    intro c hc
    rw [Lib.decDigits] at hc
    split at hc
    · rename_i h
      rw [List.mem_singleton.1 hc, digit_num u h]; omega
    · rename_i h
      rcases List.mem_append.1 hc with hc | hc
      · exact ih (u / 10) (by omega) c hc
      · rw [List.mem_singleton.1 hc, digit_num (u % 10) (by omega)]; omega
theorem dec_ne (u : Nat) : Lib.decDigits u ≠ [] := by
  rw [Lib.decDigits]; split <;> simp
theorem itoa_dec {n : Int} (h : 0 ≤ n) : Lib.itoa n = Lib.decDigits n.toNat := by
  unfold Lib.itoa; rw [if_neg (by omega)]
theorem nodot_itoa {n : Int} (h : 0 ≤ n) : (46 : UInt8) ∉ Lib.itoa n := by
  rw [itoa_dec h]
  intro hm
  have := dec_range _ _ hm
  simp at this
theorem parse_itoa {n : Int} (h0 : 0 ≤ n) (h1 : n ≤ 4611686018427387904) : Lib.parseIntB 64 (Lib.itoa n) = .ok n := by
  rw [itoa_dec h0]
  obtain ⟨c, r, he⟩ : ∃ c r, Lib.decDigits n.toNat = c :: r := List.exists_cons_of_ne_nil (dec_ne _)
  have hc := dec_range n.toNat c (by rw [he]; simp)
  have hp := parse_dec [] n.toNat (by omega)
  rw [List.append_nil] at hp
  rw [he] at hp ⊢
  rw [Lib.parseIntB_plain 64 c r (by omega) (by omega)]
  have : Lib.parseUintB 64 (c :: r) = .ok n.toNat := by
    unfold Lib.parseUintB
    rw [if_neg (by simp)]
    exact hp
  rw [this]
  simp only [Lib.signlessC]
  rw [if_neg (by omega)]
  congr 1; omega
theorem S_data (s : ByteArray) : S s.data.toList = s := by simp [S]
theorem pint_itoa {n : Int} (h0 : 0 ≤ n) (h1 : n ≤ 4611686018427387904) : pint (S (Lib.itoa n)) = (n, true) := by
  have := parse_itoa h0 h1
  simp only [pint, this]
theorem rd_itoa {n : Int} (h0 : 0 ≤ n) (h1 : n ≤ 4611686018427387904) : rd (S (Lib.itoa n)) = n := by simp [rd, pint_itoa h0 h1]
theorem rrd_itoa {n : Int} (h0 : 0 ≤ n) (h1 : n ≤ 4611686018427387904) : rrd (S (Lib.itoa n)) = n := by simp [rrd, pint_itoa h0 h1]
theorem nodot_label {r : Int} {l : ByteArray} (h : okB r l = true) : (46 : UInt8) ∉ l.data.toList := by
  intro hm
  have h1 := (okB_iff.1 h)
  have h2 : l.data.toList.all okc = true := by
    have := h1.2.2
    simp only [lab, Bool.and_eq_true] at this
    exact this.1.1
  have := List.all_eq_true.1 h2 46 hm
  simp [okc] at this

/-- Cut at the first dot. -/
theorem index_dot : ∀ (p q : List UInt8), (46 : UInt8) ∉ p → Lib.indexByte (p ++ 46 :: q) 46 = p.length
  | [], q, _ => by simp [Lib.indexByte]
  | c :: p, q, h => by
    simp only [List.mem_cons, not_or] at h
    have hc : (c == 46) = false := by simp; exact fun e => h.1 e.symm
    rw [List.cons_append, Lib.indexByte, index_dot p q h.2, hc]
    simp <;> omega
theorem index_none : ∀ (p : List UInt8), (46 : UInt8) ∉ p → Lib.indexByte p 46 = -1
  | [], _ => rfl
  | c :: p, h => by
    simp only [List.mem_cons, not_or] at h
    have hc : (c == 46) = false := by simp; exact fun e => h.1 e.symm
    rw [Lib.indexByte, index_none p h.2, hc]
    simp
theorem first_dot : ∀ (l : List UInt8), (46 : UInt8) ∉ l ∨ ∃ p q, l = p ++ 46 :: q ∧ (46 : UInt8) ∉ p
  | [] => .inl (by simp)
  | c :: l => by
    by_cases hc : c = 46
    · exact .inr ⟨[], l, by rw [hc]; rfl, by simp⟩
    · rcases first_dot l with h | ⟨p, q, he, hp⟩
      · exact .inl (by simp only [List.mem_cons, not_or]; exact ⟨fun e => hc e.symm, h⟩)
      · exact .inr ⟨c :: p, q, by rw [he]; rfl, by simp only [List.mem_cons, not_or]; exact ⟨fun e => hc e.symm, hp⟩⟩
theorem cut_dot (p q : List UInt8) (h : (46 : UInt8) ∉ p) : Lib.cut (p ++ 46 :: q) [46] = (p, q, true) := by
  unfold Lib.cut
  rw [Lib.index_one, index_dot p q h, if_pos (by omega)]
  simp
theorem indexB_dot {s : ByteArray} {p q : List UInt8} (he : s.data.toList = p ++ 46 :: q) (h : (46 : UInt8) ∉ p) : Lib.indexB s (S [46]) = p.length := by
  show Lib.index s.data.toList [46] = _
  rw [Lib.index_one, he, index_dot p q h]
theorem indexB_none {s : ByteArray} (h : (46 : UInt8) ∉ s.data.toList) : Lib.indexB s (S [46]) = -1 := by
  show Lib.index s.data.toList [46] = _
  rw [Lib.index_one, index_none _ h]
theorem splitB_pcs : ∀ (k : Nat) (s : ByteArray), Lib.countB s (S [46]) = k → (Lib.splitB (S [46]) 0 k s).map (·.data.toList) = pcs s.data.toList := by
  intro k
  induction k with
  | zero =>
    intro s hk
    rcases first_dot s.data.toList with h | ⟨p, q, he, hp⟩
    · rw [Lib.splitB_zero, pcs_none _ h]; rfl
    · have := Lib.countB_hit s (S [46]) p.length (by decide) (indexB_dot he hp)
      omega
  | succ k ih =>
    intro s hk
    rcases first_dot s.data.toList with h | ⟨p, q, he, hp⟩
    · have := Lib.countB_miss s (S [46]) (indexB_none h)
      omega
    · have hc := Lib.countB_hit s (S [46]) p.length (by decide) (indexB_dot he hp)
      rw [Lib.splitB_hit _ _ _ _ p.length (indexB_dot he hp), List.map_cons, ih _ (by omega), he, pcs_some _ _ hp]
      have hz : s.data.toList.length = s.size := str_len s
      have e1 : (s.extract 0 (p.length + 0)).data.toList = p := by rw [Lib.extract_data, he]; simp
      have e2 : (s.extract (p.length + (S [46]).size) s.size).data.toList = q := by
        rw [Lib.extract_data, he]
        rw [he] at hz
        have hz' : p.length + (q.length + 1) = s.size := by simpa using hz
        have h1 : (S [46]).size = 1 := rfl
        rw [h1, List.drop_append, List.drop_of_length_le (by omega), show p.length + 1 - p.length = 1 by omega, show s.size - (p.length + 1) = q.length by omega]
        simp
      rw [e1, e2]
theorem dots_pcs (s : ByteArray) : (dots s).map (·.data.toList) = pcs s.data.toList := splitB_pcs _ s rfl
theorem dots_S (s : ByteArray) : dots s = (pcs s.data.toList).map S := by
  rw [← dots_pcs, List.map_map]
  exact (List.map_id _).symm.trans (List.map_congr_left (fun x _ => (S_data x).symm))
theorem pcs_tB {r : Int} {l : ByteArray} (h : okB r l = true) : pcs (tB r l) = [Lib.itoa r, l.data.toList] := by
  have h1 := okB_rng h
  rw [tB, pcs_some _ _ (nodot_itoa h1.1), pcs_none _ (nodot_label h)]
theorem tB_app (r : Int) (l : ByteArray) (x : List UInt8) : tB r l ++ x = Lib.itoa r ++ 46 :: (l.data.toList ++ x) := by simp [tB]
theorem pcs_tN {r : Int} {l : ByteArray} {n : Int} (h : okN r l n = true) : pcs (tN r l n) = [Lib.itoa r, l.data.toList, Lib.itoa n] := by
  have h0 := okN_iff.1 h
  have h1 := okB_rng h0.1
  rw [tN, tB_app, pcs_some _ _ (nodot_itoa h1.1), pcs_some _ _ (nodot_label h0.1), pcs_none _ (nodot_itoa (by omega))]
theorem tN_app (r : Int) (l : ByteArray) (n : Int) (x : List UInt8) : tN r l n ++ x = Lib.itoa r ++ 46 :: (l.data.toList ++ 46 :: (Lib.itoa n ++ x)) := by simp [tN, tB]
theorem pcs_tS {g r : Int} {l : ByteArray} {n i : Int} (h : okS g r l n i = true) : pcs (tS g r l n i) = [Lib.itoa g, Lib.itoa r, l.data.toList, Lib.itoa n, Lib.itoa i] := by
  have h3 := okS_iff.1 h
  have h0 := okN_iff.1 h3.2.2.1
  have h1 := okB_rng h0.1
  rw [tS, tN_app, pcs_some _ _ (nodot_itoa (by omega)), pcs_some _ _ (nodot_itoa h1.1), pcs_some _ _ (nodot_label h0.1), pcs_some _ _ (nodot_itoa (by omega)), pcs_none _ (nodot_itoa (by omega))]
end Go.Proofs.YtnldgcgngolkiaaGreatDoor
