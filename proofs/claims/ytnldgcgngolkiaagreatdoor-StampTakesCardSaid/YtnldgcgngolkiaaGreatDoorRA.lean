/- The reference's reader: Left, Number: the walks. -/
import Derived.Test.YtnldgcgngolkiaaGreatDoorCC
namespace Go.Proofs.YtnldgcgngolkiaaGreatDoor
open Go.RowKit
set_option linter.unusedVariables false
set_option linter.unusedSimpArgs false
set_option linter.unnecessarySimpa false
attribute [local go_sem] givesUpon

set_option maxRecDepth 20000 in set_option maxHeartbeats 2000000 in
theorem qleft_any (R : Nat) (A : Option Addr) (c : Nat) (l : List UInt8) (p : Nat) (w : World) (h : Rd w R TQ A c l p) :
    Calls Tryz.prog 35 #[.pointer (some ⟨R, 0, none⟩)] w fun e w' => e = .returned (.int .i64 ((l.length : Int) - p)) ∧ ∃ n, w' = w.drewN n := by
  have c0 := h.c0
  have c1 := h.c1
  have hle := h.le
  have hsh := h.short
  go_enter Tryz.func35, Tryz.ntmps35
  go_wp2
  go_quiet (fail)
  go_wp2
  go_ret
  exact ⟨rfl, _, rfl⟩
theorem bit_add {acc i : Nat} {x : UInt8} (h : acc < 128 ^ i) (hi : i ≤ 9) (hx : i = 9 → x.toNat ≤ 1) :
    IntKind.u64.wrap ((acc : Int) + IntKind.u64.wrap ((x.toNat : Int) % 128 * 2 ^ (7 * i))) = ((acc + x.toNat % 128 * 128 ^ i : Nat) : Int) := by
  have hx8 := x.toNat_lt
  have h7 : (128 : Nat) ^ i = 2 ^ (7 * i) := by rw [Nat.pow_mul]
  have hp9 : (128 : Nat) ^ i ≤ 9223372036854775808 := by
    have : (128 : Nat) ^ i ≤ 128 ^ 9 := Nat.pow_le_pow_right (by omega) hi
    simpa using this
  have hb : acc + x.toNat % 128 * 128 ^ i < 18446744073709551616 := by
    rcases Nat.lt_or_ge i 9 with h9 | h9
    · have h1 := acc_lt (x := x.toNat) h
      have h2 : (128 : Nat) ^ (i + 1) ≤ 128 ^ 9 := Nat.pow_le_pow_right (by omega) (by omega)
      omega
    · have h1 := hx (by omega)
      have h2 : x.toNat % 128 * 128 ^ i ≤ 1 * 128 ^ i := Nat.mul_le_mul_right _ (by omega)
      omega
  have e3 : ((x.toNat : Int) % 128) * 2 ^ (7 * i) = ((x.toNat % 128 * 128 ^ i : Nat) : Int) := by rw [h7]; simp
  rw [e3, show IntKind.u64.wrap ((x.toNat % 128 * 128 ^ i : Nat) : Int) = ((x.toNat % 128 * 128 ^ i : Nat) : Int) from IntWalk.u64_in _ (by omega)]
  rw [show ((acc : Int) + ((x.toNat % 128 * 128 ^ i : Nat) : Int)) = ((acc + x.toNat % 128 * 128 ^ i : Nat) : Int) by omega]
  exact IntWalk.u64_in _ (by omega)
theorem drewN_two (w : World) (a b : Nat) : (w.drewN a).drewN b = w.drewN (a + b) := by simp [World.drewN, Nat.add_assoc]
set_option maxRecDepth 20000 in set_option maxHeartbeats 2000000 in
theorem qnum_any (R : Nat) (A : Option Addr) (c : Nat) (l : List UInt8) (p : Nat) (w : World) (h : Rd w R TQ A c l p) :
    Calls Tryz.prog 174 #[.pointer (some ⟨R, 0, none⟩)] w fun e w' => e = .returned (.tuple #[.int .u64 (nV l p), .int .i64 (nE l p)]) ∧ Rd w' R TQ A c l (nP l p) ∧ Keep [R] w w' := by
  have c0 := h.c0
  have c1 := h.c1
  have hfr := h.fr
  have hle := h.le
  have hsh := h.short
  go_enter Tryz.func174, Tryz.ntmps174
  go_wp2
  go_loopw [4, 5] (fun nv iv wr => ∃ i acc : Nat, nv = .int .u64 acc ∧ iv = .int .i64 i ∧ i ≤ 9 ∧ p + i ≤ l.length ∧ acc < 128 ^ i ∧ Hid (numAt l p = deNum i acc (l.drop (p + i))) ∧ ∃ m : Nat, wr = w.drewN m) (fun _ iv _ => 10 - (intOf iv).toNat)
  case atStart => exact ⟨0, 0, rfl, rfl, by omega, by omega, by simp, rfl, 0, rfl⟩
  case round =>
    obtain ⟨i, acc, rfl, rfl, hi, hql, hacc, HD, m, rfl⟩ := hrel
    have hi10 : (i : Int) < 10 := by omega
    by_cases hlt : p + i < l.length
    · obtain ⟨G, o, e, hG, hGs, hcell⟩ := h.bts (by omega)
      obtain rfl := e
      have hcq := hcell (p + i) hlt
      clear hcell
      generalize hx : l.getD (p + i) 0 = x at hcq
      have HX := Lib.hid hx
      clear hx
      have hi3 : i = 0 ∨ i = 9 ∨ (0 < i ∧ i < 9) := by omega
      have hx4 : x.toNat = 0 ∨ x.toNat = 1 ∨ (1 < x.toNat ∧ x.toNat < 128) ∨ 128 ≤ x.toNat := by omega
      have h128 : x.toNat < 128 ∨ ¬ x.toNat < 128 := by omega
      have hA : ((i = 9 ∧ 1 < x.toNat) ∨ (0 < i ∧ x.toNat = 0)) ∨ (¬ ((i = 9 ∧ 1 < x.toNat) ∨ (0 < i ∧ x.toNat = 0)) ∧ (i = 9 → x.toNat ≤ 1)) := by omega
      have HA := Lib.hid hA
      clear hA
      rcases hi3 with hi3 | hi3 | hi3
      all_goals
        have HI := Lib.hid hi3
        first | (have s2 : 0 < i := by omega) | skip
        first | ((have e0 : i = 0 := by omega); clear hi3; subst e0; replace hcq : w.cell? ⟨G, o + p, none⟩ = some (.int .u8 x.toNat) := hcq; have hlt0 : p < l.length := hlt) | ((have e0 : i = 9 := by omega); clear hi3; subst e0) | (have s1 : ((i : Int) == 9) = false := by rw [beq_eq_false_iff_ne]; omega)
        rcases hx4 with hx | hx | hx | hx
        all_goals
          first | (have t0 : ((x.toNat : Int) == 0) = true := by rw [beq_iff_eq]; omega) | (have t0 : ((x.toNat : Int) == 0) = false := by rw [beq_eq_false_iff_ne]; omega)
          first | (have t1 : (1 : Int) < x.toNat := by omega) | (have t1 : ¬ (1 : Int) < x.toNat := by omega)
          first | (have t2 : (x.toNat : Int) < 128 := by omega) | (have t2 : ¬ (x.toNat : Int) < 128 := by omega)
          have HXX := Lib.hid hx
          clear hx
          go_wp2
          go_quiet (fail)
          go_wp2
          go_quiet (fail)
          go_wp2
          rcases HA.out with hA | hA
          · first
              | (exfalso; have h2 := HI.out; have h3 := HXX.out; omega)
              | (exfalso; have h3 := HXX.out; simp at hA; omega)
              | (have hn := num_stop HD.out hlt HX.out (by first | exact hA | simpa using hA)
                 obtain ⟨n1, n2, n3⟩ := num_none hn
                 go_ret2
                 exact ⟨by rw [n1, n2]; rfl, by rw [n3]; exact ⟨h.blk, h.le, h.cap, h.short, h.bts⟩, ⟨rfl, rfl, rfl, Nat.le_refl _, fun _ _ _ => rfl⟩⟩)
          · have hbit := bit_add hacc (by have h2 := HI.out; omega) (by first | exact hA.2 | simpa using hA.2)
            rcases h128 with h128 | h128
            · first
                | (exfalso; have h2 := HI.out; have h3 := HXX.out; omega)
                | (exfalso; have h3 := HXX.out; simp at hA; omega)
                | (have hn := num_last HD.out hlt HX.out (by first | exact hA.1 | simpa using hA.1) h128
                   obtain ⟨n1, n2, n3⟩ := num_some hn
                   go_ret2
                   refine ⟨?_, ?_, ?_⟩
                   · rw [n1, n2]; first | (rw [← hbit]; rfl) | (simp only [Nat.mul_zero, Int.pow_zero, Int.mul_one] at hbit; rw [← hbit]; rfl) | (rw [← hbit, show (7 * 9 : Nat) = 63 from rfl, pow63]; rfl) | (simp; done)
                   · rw [n3]
                     have hm := (h.drewN 0).move (q := nP l p) (nP_le hle).2
                     rw [n3] at hm
                     exact ⟨hm.blk, hm.le, hm.cap, hm.short, hm.bts⟩
                   · exact ((Keep.refl [R] w).drewN _).setCell (.inl (by simp)) _)
            · first
                | (exfalso; have h2 := HI.out; have h3 := HXX.out; omega)
                | (exfalso; have h3 := HXX.out; simp at hA; omega)
                | (go_roundw
                   case rel => exact ⟨_, acc + x.toNat % 128 * 128 ^ _, by first | exact congrArg _ hbit | (simp only [Nat.mul_zero, Int.pow_zero, Int.mul_one] at hbit; exact congrArg _ hbit) | (simp; done), by go_num, by have h2 := HI.out; omega, by omega, acc_lt hacc, num_next HD.out hlt HX.out (by first | exact hA.1 | simpa using hA.1) h128, _, rfl⟩
                   case measure => simp [intOf] <;> omega)
    · have hlt' : ¬ (p : Int) + i < l.length := by omega
      have hlt2 : decide ((p : Int) + i < l.length) = false := by rw [decide_eq_false_iff_not]; omega
      go_wp2
      go_quiet (fail)
      go_wp2
      have hn := num_end HD.out hlt
      obtain ⟨n1, n2, n3⟩ := num_none hn
      go_ret2
      exact ⟨by rw [n1, n2]; rfl, by rw [n3]; exact ⟨h.blk, h.le, h.cap, h.short, h.bts⟩, ⟨rfl, rfl, rfl, Nat.le_refl _, fun _ _ _ => rfl⟩⟩
end Go.Proofs.YtnldgcgngolkiaaGreatDoor
