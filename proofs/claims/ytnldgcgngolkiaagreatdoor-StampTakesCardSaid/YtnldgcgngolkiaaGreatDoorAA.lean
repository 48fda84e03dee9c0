/- Numbers and bytes out of bytes: the plain law of the readers. No program here but for the definitions that the walks use. -/
import Derived.Test.YtnldgcgngolkiaaGreatDoorP
namespace Go.Proofs.YtnldgcgngolkiaaGreatDoor
open Go.RowKit
set_option linter.unusedVariables false
set_option linter.unusedSimpArgs false

/-- A number out of bytes: the number and how many bytes it takes. -/
def deNum : Nat → Nat → List UInt8 → Option (Nat × Nat)
  | _, _, [] => none
  | i, acc, c :: l =>
    if (i = 9 ∧ 1 < c.toNat) ∨ (0 < i ∧ c.toNat = 0) then none
    else if c.toNat < 128 then some (acc + c.toNat * 128 ^ i, i + 1)
    else deNum (i + 1) (acc + (c.toNat % 128) * 128 ^ i) l

theorem ofNat_toNat8 (c : UInt8) : UInt8.ofNat c.toNat = c := by simp
theorem deNum_canon : ∀ (l : List UInt8) (i acc v k : Nat), i ≤ 9 → deNum i acc l = some (v, k) →
    ∃ m n, v = acc + m * 128 ^ i ∧ k = i + n ∧ n ≤ l.length ∧ l.take n = numL m ∧ (numL m).length = n ∧ (0 < i → 0 < m) ∧ m < 2 * 128 ^ (9 - i)
  | [], i, acc, v, k, hi, h => by simp [deNum] at h
  | c :: l, i, acc, v, k, hi, h => by
    have hc := c.toNat_lt
    rw [deNum] at h
    split at h
    · cases h
    · rename_i h1
      have h2 : ¬ (i = 9 ∧ 1 < c.toNat) := fun e => h1 (.inl e)
      have h3 : ¬ (0 < i ∧ c.toNat = 0) := fun e => h1 (.inr e)
      split at h
      · rename_i h4
        injection h with h
        injection h with hv hk
        refine ⟨c.toNat, 1, hv.symm, hk.symm, by simp, ?_, ?_, by omega, ?_⟩
        · rw [numL_small h4, ofNat_toNat8]; simp
        · rw [numL_small h4]; rfl
        · rcases Nat.lt_or_ge i 9 with h9 | h9
          · have : 128 ^ 1 ≤ 128 ^ (9 - i) := Nat.pow_le_pow_right (by omega) (by omega)
            omega
          · have : i = 9 := by omega
            subst this
            simp; omega
      · rename_i h4
        have h9 : i < 9 := by omega
        obtain ⟨m, n, hv, hk, hn, ht, hl, hm, hb⟩ := deNum_canon l (i + 1) _ v k (by omega) h
        have hm0 := hm (by omega)
        have hbig : ¬ (c.toNat % 128 + 128 * m) < 128 := by omega
        have e1 : (c.toNat % 128 + 128 * m) % 128 + 128 = c.toNat := by omega
        have e2 : (c.toNat % 128 + 128 * m) / 128 = m := by omega
        refine ⟨c.toNat % 128 + 128 * m, n + 1, ?_, by omega, by simp; omega, ?_, ?_, by omega, ?_⟩
        · rw [hv, Nat.pow_succ, Nat.add_mul, Nat.add_assoc]
          congr 2
          rw [Nat.mul_comm 128 m, Nat.mul_assoc, Nat.mul_comm 128]
        · rw [numL_big hbig, e1, e2, ofNat_toNat8, List.take_succ_cons, ht]
        · rw [numL_big hbig, List.length_cons, e2, hl]
        · have e3 : 9 - i = (9 - (i + 1)) + 1 := by omega
          rw [e3, Nat.pow_succ]
          have : m + 1 ≤ 2 * 128 ^ (9 - (i + 1)) := hb
          omega

theorem deNum_num : ∀ (k m i acc : Nat) (r : List UInt8), m < 128 ^ (k + 1) → (0 < i → 0 < m) → i ≤ 9 → m < 2 * 128 ^ (9 - i) → deNum i acc (numL m ++ r) = some (acc + m * 128 ^ i, i + (numL m).length) := by
  intro k
  induction k with
  | zero =>
    intro m i acc r hk h0 hi hm
    have h1 : m < 128 := by simpa using hk
    rw [numL_small h1, List.singleton_append, deNum]
    have e : (UInt8.ofNat m).toNat = m := by simp; omega
    rw [e, if_neg, if_pos h1]
    · rfl
    · rintro (⟨rfl, h⟩ | ⟨h, h'⟩)
      · simp at hm; omega
      · have := h0 h; omega
  | succ k ih =>
    intro m i acc r hk h0 hi hm
    by_cases h1 : m < 128
    · rw [numL_small h1, List.singleton_append, deNum]
      have e : (UInt8.ofNat m).toNat = m := by simp; omega
      rw [e, if_neg, if_pos h1]
      · rfl
      · rintro (⟨rfl, h⟩ | ⟨h, h'⟩)
        · simp at hm; omega
        · have := h0 h; omega
    · have hi9 : i < 9 := by
        rcases Nat.lt_or_ge i 9 with h | h
        · exact h
        · have : i = 9 := by omega
          subst this
          simp at hm; omega
      have e3 : 9 - i = (9 - (i + 1)) + 1 := by omega
      rw [e3, Nat.pow_succ] at hm
      rw [numL_big h1, List.cons_append, deNum]
      have e : (UInt8.ofNat (m % 128 + 128)).toNat = m % 128 + 128 := by simp; omega
      rw [e, if_neg (by omega), if_neg (by omega), ih (m / 128) (i + 1) _ r (by rw [Nat.pow_succ] at hk; omega) (fun _ => by omega) (by omega) (by omega)]
      have e4 : (m % 128 + 128) % 128 = m % 128 := by omega
      rw [e4, List.length_cons]
      congr 2
      · rw [Nat.pow_succ, Nat.add_assoc]
        congr 1
        rw [Nat.mul_comm (128 ^ i) 128, ← Nat.mul_assoc, ← Nat.add_mul]
        congr 1
        omega
      · omega

/-! ### the readers' state -/
def numAt (l : List UInt8) (p : Nat) : Option (Nat × Nat) := deNum 0 0 (l.drop p)
theorem numAt_canon {l : List UInt8} {p v k : Nat} (h : numAt l p = some (v, k)) : v < 18446744073709551616 ∧ p + k ≤ l.length ∧ 0 < k ∧ (l.drop p).take k = numL v ∧ (numL v).length = k := by
  obtain ⟨m, n, hv, hk, hn, ht, hl, _, hb⟩ := deNum_canon _ 0 0 v k (by omega) h
  simp at hv hk hb hn
  subst hv hk
  refine ⟨by omega, ?_, ?_, ht, hl⟩
  · rcases Nat.le_total p l.length with h1 | h1
    · omega
    · have hd : l.drop p = [] := List.drop_eq_nil_of_le h1
      rw [numAt, hd, deNum] at h
      cases h
  · have : (numL v).length ≠ 0 := by
      intro h0
      have hnil := List.eq_nil_of_length_eq_zero h0
      rw [numL] at hnil
      split at hnil <;> cases hnil
    omega
def nV (l : List UInt8) (p : Nat) : Nat := match numAt l p with | some (v, _) => v | none => 0
def nP (l : List UInt8) (p : Nat) : Nat := match numAt l p with | some (_, k) => p + k | none => p
def nE (l : List UInt8) (p : Nat) : Int := match numAt l p with | some _ => 0 | none => 4
theorem nP_le {l : List UInt8} {p : Nat} (h : p ≤ l.length) : p ≤ nP l p ∧ nP l p ≤ l.length := by
  unfold nP
  split
  · rename_i v k hk
    have := numAt_canon hk
    omega
  · omega
theorem nV_lt (l : List UInt8) (p : Nat) : nV l p < 18446744073709551616 := by
  unfold nV
  split
  · rename_i v k hk
    exact (numAt_canon hk).1
  · omega
theorem num_none {l : List UInt8} {p : Nat} (h : numAt l p = none) : nV l p = 0 ∧ nE l p = 4 ∧ nP l p = p := by simp [nV, nE, nP, h]
theorem num_some {l : List UInt8} {p v k : Nat} (h : numAt l p = some (v, k)) : nV l p = v ∧ nE l p = 0 ∧ nP l p = p + k := by simp [nV, nE, nP, h]
theorem drop_at {l : List UInt8} {q : Nat} {x : UInt8} (hq : q < l.length) (hx : l.getD q 0 = x) : l.drop q = x :: l.drop (q + 1) := by
  rw [List.drop_eq_getElem_cons hq]
  congr 1
  rw [← hx, List.getD_eq_getElem?_getD, List.getElem?_eq_getElem hq]
  rfl
theorem num_stop {l : List UInt8} {p i acc q : Nat} {x : UInt8} (h : numAt l p = deNum i acc (l.drop q)) (hq : q < l.length) (hx : l.getD q 0 = x) (hc : (i = 9 ∧ 1 < x.toNat) ∨ (0 < i ∧ x.toNat = 0)) : numAt l p = none := by
  rw [h, drop_at hq hx, deNum, if_pos hc]
theorem num_end {l : List UInt8} {p i acc q : Nat} (h : numAt l p = deNum i acc (l.drop q)) (hq : ¬ q < l.length) : numAt l p = none := by
  rw [h, List.drop_eq_nil_of_le (by omega), deNum]
theorem num_last {l : List UInt8} {p i acc q : Nat} {x : UInt8} (h : numAt l p = deNum i acc (l.drop q)) (hq : q < l.length) (hx : l.getD q 0 = x) (hc : ¬ ((i = 9 ∧ 1 < x.toNat) ∨ (0 < i ∧ x.toNat = 0))) (h128 : x.toNat < 128) : numAt l p = some (acc + x.toNat % 128 * 128 ^ i, i + 1) := by
  rw [h, drop_at hq hx, deNum, if_neg hc, if_pos h128, Nat.mod_eq_of_lt h128]
theorem num_next {l : List UInt8} {p i acc q : Nat} {x : UInt8} (h : numAt l p = deNum i acc (l.drop q)) (hq : q < l.length) (hx : l.getD q 0 = x) (hc : ¬ ((i = 9 ∧ 1 < x.toNat) ∨ (0 < i ∧ x.toNat = 0))) (h128 : ¬ x.toNat < 128) : numAt l p = deNum (i + 1) (acc + x.toNat % 128 * 128 ^ i) (l.drop (q + 1)) := by
  rw [h, drop_at hq hx, deNum, if_neg hc, if_neg h128]
theorem acc_lt {acc i x : Nat} (h : acc < 128 ^ i) : acc + x % 128 * 128 ^ i < 128 ^ (i + 1) := by
  have h1 : x % 128 * 128 ^ i ≤ 127 * 128 ^ i := Nat.mul_le_mul_right _ (by omega)
  rw [Nat.pow_succ]
  omega
theorem bit_or {acc i s : Nat} {x : UInt8} (h : acc < 128 ^ i) (hi : i ≤ 9) (hs : s = 7 * i) (hx : i = 9 → x.toNat ≤ 1) :
    bits .or .u64 (acc : Int) (IntKind.u64.wrap (IntKind.u64.wrap (bits .and .u8 (x.toNat : Int) 127) * 2 ^ min s 64)) = ((acc + x.toNat % 128 * 128 ^ i : Nat) : Int) := by
  have hx8 := x.toNat_lt
  have h7 : (128 : Nat) ^ i = 2 ^ s := by rw [hs, Nat.pow_mul]
  have hlt := acc_lt (x := x.toNat) h
  have e1 : bits .and .u8 (x.toNat : Int) 127 = ((x.toNat % 128 : Nat) : Int) := by
    have := u8_and_nat x.toNat 127 (by omega) (by omega)
    rw [nat_mask7] at this
    exact this
  have hp9 : (128 : Nat) ^ i ≤ 9223372036854775808 := by
    have : (128 : Nat) ^ i ≤ 128 ^ 9 := Nat.pow_le_pow_right (by omega) hi
    simpa using this
  have hb : x.toNat % 128 * 128 ^ i < 18446744073709551616 := by
    rcases Nat.lt_or_ge i 9 with h9 | h9
    · have h1 : (128 : Nat) ^ i ≤ 128 ^ 8 := Nat.pow_le_pow_right (by omega) (by omega)
      have h2 : x.toNat % 128 * 128 ^ i ≤ 127 * 128 ^ 8 := Nat.mul_le_mul (by omega) h1
      omega
    · have h1 := hx (by omega)
      have h2 : x.toNat % 128 * 128 ^ i ≤ 1 * 9223372036854775808 := Nat.mul_le_mul (by omega) hp9
      omega
  have e2 : IntKind.u64.wrap (((x.toNat % 128 : Nat) : Int)) = ((x.toNat % 128 : Nat) : Int) := IntWalk.u64_in _ (by omega)
  have e3 : (((x.toNat % 128 : Nat) : Int)) * 2 ^ min s 64 = ((x.toNat % 128 * 128 ^ i : Nat) : Int) := by
    rw [Nat.min_eq_left (by omega), h7]; simp
  rw [e1, e2, e3, show IntKind.u64.wrap ((x.toNat % 128 * 128 ^ i : Nat) : Int) = ((x.toNat % 128 * 128 ^ i : Nat) : Int) from IntWalk.u64_in _ (by omega), u64_or_nat _ _ (by omega) hb]
  congr 1
  rw [Nat.or_comm, nat_join (7 * i) _ _ (by rw [← hs, ← h7]; simp) (by rw [← hs, ← h7]; exact h)]
  omega
theorem pow63 : (2 : Int) ^ 63 = 9223372036854775808 := by decide +kernel
theorem bit_or' {acc i s : Nat} {x : UInt8} (h : acc < 128 ^ i) (hi : i ≤ 9) (hs : s = 7 * i) (hx : i = 9 → x.toNat ≤ 1) :
    bits .or .u64 (acc : Int) (IntKind.u64.wrap (IntKind.u64.wrap (bits .and .u8 (x.toNat : Int) 127) * 2 ^ s)) = ((acc + x.toNat % 128 * 128 ^ i : Nat) : Int) := by
  have := bit_or h hi hs hx
  rwa [Nat.min_eq_left (by omega)] at this

/-- Bytes out of bytes: what they are. -/
def bytAt (most : Nat) (l : List UInt8) (p : Nat) : Option (List UInt8) :=
  if nE l p = 0 ∧ nV l p ≤ most ∧ nV l p ≤ l.length - nP l p then some ((l.drop (nP l p)).take (nV l p)) else none
def yE (most : Nat) (l : List UInt8) (p : Nat) : Int :=
  if nE l p = 0 then (if nV l p ≤ most then (if nV l p ≤ l.length - nP l p then 0 else 4) else 3) else 4
def yP (most : Nat) (l : List UInt8) (p : Nat) : Nat := if yE most l p = 0 then nP l p + nV l p else p
def yV (most : Nat) (l : List UInt8) (p : Nat) : List UInt8 := if yE most l p = 0 then (l.drop (nP l p)).take (nV l p) else []
theorem yP_le {most : Nat} {l : List UInt8} {p : Nat} (h : p ≤ l.length) : p ≤ yP most l p ∧ yP most l p ≤ l.length := by
  have := nP_le h
  unfold yP yE
  by_cases h1 : nE l p = 0 <;> by_cases h2 : nV l p ≤ most <;> by_cases h3 : nV l p ≤ l.length - nP l p <;> simp [h1, h2, h3] <;> omega
end Go.Proofs.YtnldgcgngolkiaaGreatDoor
