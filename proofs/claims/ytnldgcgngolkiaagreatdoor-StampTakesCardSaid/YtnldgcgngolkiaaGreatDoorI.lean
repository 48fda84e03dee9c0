/- The pieces of a text between its dots; the reference's cut: the walk. -/
import Derived.Test.YtnldgcgngolkiaaGreatDoorQ
namespace Go.Proofs.YtnldgcgngolkiaaGreatDoor
open Go.RowKit
set_option linter.unusedVariables false
set_option linter.unusedSimpArgs false

def pcs : List UInt8 → List (List UInt8)
  | [] => [[]]
  | c :: l => if c = 46 then [] :: pcs l else (match pcs l with | [] => [[c]] | p :: ps => (c :: p) :: ps)
theorem pcs_ne : ∀ l, pcs l ≠ []
  | [] => by simp [pcs]
  | c :: l => by
    rw [pcs]; split
    · simp
    · split <;> simp
theorem pcs_some : ∀ (p q : List UInt8), (46 : UInt8) ∉ p → pcs (p ++ 46 :: q) = p :: pcs q
  | [], q, _ => by simp [pcs]
  | c :: p, q, h => by
    simp only [List.mem_cons, not_or] at h
    rw [List.cons_append, pcs, if_neg (fun e => h.1 e.symm), pcs_some p q h.2]
theorem pcs_none : ∀ (p : List UInt8), (46 : UInt8) ∉ p → pcs p = [p]
  | [], _ => rfl
  | c :: p, h => by
    simp only [List.mem_cons, not_or] at h
    rw [pcs, if_neg (fun e => h.1 e.symm), pcs_none p h.2]

/-- A cut under way: these pieces are done, and the next one begins at a, with no dot till i. -/
structure CutAt (l : List UInt8) (D : List (List UInt8)) (a i : Nat) : Prop where
  done : D ++ pcs (l.drop a) = pcs l
  nodot : ∀ j, a ≤ j → j < i → l[j]? ≠ some 46
  le : a ≤ i
theorem CutAt.start (l : List UInt8) : CutAt l [] 0 0 := ⟨by simp, fun j _ h => by omega, by omega⟩
theorem CutAt.step {l : List UInt8} {D : List (List UInt8)} {a i : Nat} (h : CutAt l D a i) (hi : l[i]? ≠ some 46) : CutAt l D a (i + 1) :=
  ⟨h.done, fun j h1 h2 => by
    rcases Nat.lt_or_ge j i with h3 | h3
    · exact h.nodot j h1 h3
    · have : j = i := by omega
      subst this; exact hi, by have := h.le; omega⟩
theorem CutAt.piece {l : List UInt8} {D : List (List UInt8)} {a i : Nat} (h : CutAt l D a i) : (46 : UInt8) ∉ (l.drop a).take (i - a) := by
  intro hm
  obtain ⟨j, hj, he⟩ := List.getElem_of_mem hm
  have hj' : j < i - a := by simp at hj; omega
  have := h.nodot (a + j) (by omega) (by omega)
  apply this
  rw [List.getElem_take, List.getElem_drop] at he
  rw [List.getElem?_eq_getElem (by simp at hj; omega), he]
theorem CutAt.hit {l : List UInt8} {D : List (List UInt8)} {a i : Nat} (h : CutAt l D a i) (hi : l[i]? = some 46) : CutAt l (D ++ [(l.drop a).take (i - a)]) (i + 1) (i + 1) := by
  refine ⟨?_, fun j h1 h2 => by omega, by omega⟩
  obtain ⟨hil, hie⟩ := List.getElem?_eq_some_iff.1 hi
  have e : l.drop a = (l.drop a).take (i - a) ++ 46 :: l.drop (i + 1) := by
    conv => lhs; rw [← List.take_append_drop (i - a) (l.drop a)]
    rw [List.drop_drop, show a + (i - a) = i by have := h.le; omega, List.drop_eq_getElem_cons hil, hie]
  rw [← h.done]
  conv => rhs; rw [e, pcs_some _ _ h.piece]
  simp
theorem CutAt.last {l : List UInt8} {D : List (List UInt8)} {a : Nat} (h : CutAt l D a l.length) : D ++ [(l.drop a).take (l.length - a)] = pcs l := by
  have := h.piece
  rw [List.take_of_length_le (by simp)] at *
  rw [← h.done, pcs_none _ this]

def cutR (s : ByteArray) : List ByteArray := ((pcs s.data.toList).take 9).map S
def strsD (D : List (List UInt8)) : List Value := D.map (fun p => Value.string (S p))
theorem strsD_append (a b : List (List UInt8)) : strsD (a ++ b) = strsD a ++ strsD b := by simp [strsD]
theorem own_form {w : World} {base size n : Nat} {e : TypeId} {v : Value} {xs : List Value} (h : w.ownsRow base e size v n xs) : ∃ A c, v = .slice A n c := by
  rcases h.2 with ⟨rfl, rfl⟩ | ⟨g, cap, cur, rfl, _⟩
  · exact ⟨_, _, rfl⟩
  · exact ⟨_, _, rfl⟩
def CutRel (l : List UInt8) (D : List (List UInt8)) (a i : Nat) : Prop := (i ≤ l.length ∧ CutAt l D a i) ∨ (i = l.length + 1 ∧ a ≤ i ∧ D = pcs l)
theorem CutRel.full {l : List UInt8} {D : List (List UInt8)} {a i : Nat} (h : CutRel l D a i) (hn : D.length = 9 ∨ (i = l.length + 1 ∧ D.length ≤ 9)) : D = (pcs l).take 9 := by
  rcases h with ⟨h1, h⟩ | ⟨h1, h2, rfl⟩
  · have h9 : D.length = 9 := by omega
    rw [← h.done, ← h9]
    simp
  · rw [List.take_of_length_le (by omega)]
theorem CutRel.step {l : List UInt8} {D : List (List UInt8)} {a i : Nat} (h : CutRel l D a i) (hi : i < l.length) (hc : l[i]? ≠ some 46) : CutRel l D a (i + 1) := by
  rcases h with ⟨h1, h⟩ | ⟨h1, _⟩
  · exact .inl ⟨by omega, h.step hc⟩
  · omega
theorem CutRel.hit {l : List UInt8} {D : List (List UInt8)} {a i : Nat} (h : CutRel l D a i) (hi : i < l.length) (hc : l[i]? = some 46) : CutRel l (D ++ [(l.drop a).take (i - a)]) (i + 1) (i + 1) := by
  rcases h with ⟨h1, h⟩ | ⟨h1, _⟩
  · exact .inl ⟨by omega, h.hit hc⟩
  · omega
theorem CutRel.last {l : List UInt8} {D : List (List UInt8)} {a i : Nat} (h : CutRel l D a i) (hi : i = l.length) : CutRel l (D ++ [(l.drop a).take (i - a)]) (i + 1) (i + 1) := by
  rcases h with ⟨h1, h⟩ | ⟨h1, _⟩
  · exact .inr ⟨by omega, by omega, by subst hi; exact h.last⟩
  · omega
theorem CutRel.le {l : List UInt8} {D : List (List UInt8)} {a i : Nat} (h : CutRel l D a i) : a ≤ i ∧ i ≤ l.length + 1 := by
  rcases h with ⟨h1, h⟩ | ⟨h1, h2, _⟩
  · exact ⟨h.le, by omega⟩
  · exact ⟨h2, by omega⟩

theorem infoStr : (Tryz.prog.info? 9).map (fun i => (i.zero, i.size, i.bytes)) = some (some (.string ⟨#[]⟩), 1, 16) := by kernel_rfl
theorem extract_S (s : ByteArray) (a i : Nat) : s.extract a i = S ((s.data.toList.drop a).take (i - a)) := by
  apply str_ext
  rw [Lib.extract_data]

/-- What a call that makes a row of strings of its own leaves. -/
def OwnsS (l : List ByteArray) (w : World) (e : Ending) (w' : World) : Prop := ∃ v, e = .returned v ∧ w'.ownsRow w.heap.size 9 1 v l.length (l.map Value.string) ∧ Below w.heap.size w w'

set_option maxRecDepth 20000 in set_option maxHeartbeats 1000000 in
theorem rcut_any (s : ByteArray) (w : World) (hs : s.size ≤ 1000000) :
    Calls Tryz.prog 104 #[.string s] w (OwnsS (cutR s) w) := by
  obtain ⟨i0, hi0, hz0, hz1, hz2⟩ := info_parts infoStr
  have hsl := str_len s
  go_enter Tryz.func104, Tryz.ntmps104
  go_wp2
  go_loopw [3, 4, 5] (fun v av iv wr => ∃ (D : List (List UInt8)) (a i : Nat), av = .int .i64 a ∧ iv = .int .i64 i ∧ D.length ≤ 9 ∧ CutRel s.data.toList D a i ∧ wr.ownsRow w.heap.size 9 1 v D.length (strsD D) ∧ Below w.heap.size w wr) (fun _ _ iv _ => s.size + 2 - (intOf iv).toNat)
  case atStart => exact ⟨[], 0, 0, rfl, rfl, by simp, .inl ⟨by omega, CutAt.start _⟩, World.ownsRow_nil _ _ _ _, Below.refl _ _⟩
  case round =>
    obtain ⟨D, a, i, rfl, rfl, hD, hrel, hown, hbw⟩ := hrel
    obtain ⟨A, c, rfl⟩ := own_form hown
    have hle := hrel.le
    rw [hsl] at hle
    have Hrel := Lib.hid hrel
    clear hrel
    have hsz := hbw.size
    have hown' := hown.alloc (.cells #[.string (s.extract a i)] 9)
    have hr := Lib.hid (reads_new wr [.string (s.extract a i)] 9)
    by_cases hend : D.length = 9 ∨ i = s.size + 1
    · have hf : D = (pcs s.data.toList).take 9 := Hrel.out.full (by omega)
      have hL : D.length = (cutR s).length := by rw [cutR, ← hf]; simp
      have hX : strsD D = (cutR s).map Value.string := by rw [cutR, ← hf]; simp [strsD]
      have HO : OwnsS (cutR s) w (.returned (.slice A D.length c)) wr := ⟨_, rfl, by rw [← hX, ← hL]; exact hown, hbw⟩
      have HOO := Lib.hid HO
      clear HO hL hX hf hown hown' hr
      rcases hend with h9 | hi
      · have hd9 : ¬ (D.length : Int) < 9 := by omega
        clear h9 hD
        go_wp2
        all_goals
          go_ret
          exact HOO.out
      · subst hi
        go_wp2
        go_ret
        exact HOO.out
    · have hD9 : (D.length : Int) < 9 := by omega
      by_cases hi : i = s.size
      · subst hi
        have Hl := Lib.hid (Hrel.out.last (by omega))
        go_wp2_with (at_builtin; refine wpList_append_any _ rfl (.tmp 27) (.tmp 32) 73 rfl w.heap.size 9 i0 (.string ⟨#[]⟩) 1 16 Tryz.underlying73 hi0 hz0 hz1 hz2 rfl (by omega) _ _ _ rfl hown' _ (some ⟨wr.heap.size, 0, none⟩) 1 1 [.string (s.extract a s.size)] rfl hr.out (by simp [Value.oneCell']) (by simp only [maxLen]; omega) (by omega) (by simp; omega) ?_; intro v1 w1 hown1 hg1 hat1)
        go_roundw
        case rel => exact ⟨_, s.size + 1, s.size + 1, by go_num, by go_num, by simp; omega, Hl.out, by rw [strsD_append]; rw [extract_S] at hown1; simpa [strsD] using hown1, (hbw.alloc (by omega) _).grown hg1 (by simp; omega) (fun q hq => (hown'.lt q hq).1)⟩
        case measure => simp [intOf] <;> omega
      · have hlt : i < s.size := by omega
        have hl : i < s.data.toList.length := by omega
        have he : (s[i]'hlt) = s.data.toList[i] := rfl
        by_cases hc : (s[i]'hlt).toNat = 46
        · have Hl := Lib.hid (Hrel.out.hit hl (by rw [List.getElem?_eq_getElem hl, ← he]; congr 1; exact UInt8.toNat_inj.1 hc))
          have Hend := Lib.hid hend
          clear he hend
          go_wp2_with (at_builtin; refine wpList_append_any _ rfl (.tmp 27) (.tmp 32) 73 rfl w.heap.size 9 i0 (.string ⟨#[]⟩) 1 16 Tryz.underlying73 hi0 hz0 hz1 hz2 rfl (by omega) _ _ _ rfl hown' _ (some ⟨wr.heap.size, 0, none⟩) 1 1 [.string (s.extract a i)] rfl hr.out (by simp [Value.oneCell']) (by simp only [maxLen]; omega) (by omega) (by simp; omega) ?_; intro v1 w1 hown1 hg1 hat1)
          go_roundw
          case rel => exact ⟨_, i + 1, i + 1, by go_num, by go_num, by simp; omega, Hl.out, by rw [strsD_append]; rw [extract_S] at hown1; simpa [strsD] using hown1, (hbw.alloc (by omega) _).grown hg1 (by simp; omega) (fun q hq => (hown'.lt q hq).1)⟩
          case measure => simp [intOf] <;> omega
        · have Hl := Lib.hid (Hrel.out.step hl (by rw [List.getElem?_eq_getElem hl, ← he]; intro h; simp at h; rw [h] at hc; simp at hc))
          have Hend := Lib.hid hend
          have hi1 : ((i : Int) == (s.size : Int)) = false := by rw [beq_eq_false_iff_ne]; omega
          have hc1 : (((s[i]'hlt).toNat : Int) == 46) = false := by rw [beq_eq_false_iff_ne]; omega
          clear he hend
          go_wp2
          go_roundw
          case rel => exact ⟨_, a, i + 1, by go_num, by go_num, hD, Hl.out, hown, hbw⟩
          case measure => simp [intOf] <;> omega
end Go.Proofs.YtnldgcgngolkiaaGreatDoor
