/- The frame that this seat's laws share: what the row's list gives; a world for the witness. -/
import Derived.Test.YtnldgcgngolkiaaGreatDoorCards
import Derived.Test.YtnldgcgngolkiaaGreatDoorTie
import Derived.Test.YtnldgcgngolkiaaGreatDoorA
import Derived.WalkKit
import Derived.ProofKit
import Derived.OpenShut
import Derived.Deep.DeepHandedRow
import Derived.Deep.DeepLaidRun
import Derived.Stop.LaidErr
import Derived.Lib.LaidTab
import Derived.Below
import Derived.ChangeSame
namespace Go.Proofs.YtnldgcgngolkiaaGreatDoor.frame
open Go Go.Proofs.YtnldgcgngolkiaaGreatDoor Go.ChangeShapes Go.WideShapes Go.ChangeAt Go.RowKit
set_option linter.unusedVariables false
set_option linter.unusedSimpArgs false

theorem own : ownKnob Tryz.prog.godebug = none := by kernel_rfl
theorem gPow : Tryz.prog.globalNamed "internal/strconv.uint64pow10" = some 3 := by kernel_rfl
theorem gPowType : (Tryz.prog.globals[3]?).map (·.type) = some 343 := by kernel_rfl
theorem gSyn : Tryz.prog.globalNamed "strconv.ErrSyntax" = some 4 := by kernel_rfl
theorem gSynType : (Tryz.prog.globals[4]?).map (·.type) = some 226 := by kernel_rfl
theorem gRng : Tryz.prog.globalNamed "strconv.ErrRange" = some 5 := by kernel_rfl
theorem gRngType : (Tryz.prog.globals[5]?).map (·.type) = some 226 := by kernel_rfl
theorem cells50 : Tryz.prog.cellsOf 50 = 1 := by kernel_rfl
theorem cells343 : Tryz.prog.cellsOf 343 = 20 := by kernel_rfl
theorem cells9 : Tryz.prog.cellsOf 9 = 1 := by kernel_rfl
theorem cellsErr : Tryz.prog.cellsOf 364 = 1 := by kernel_rfl
theorem star : "*" ++ "errors.errorString" = "*errors.errorString" := by decide
theorem rowErr (u : TypeId) (h : Tryz.prog.typeName? 3 u = some "*errors.errorString") : u = 362 :=
  typeName_ptr_named (nm := "errors.errorString") (by rw [star]; kernel_rfl) (by kernel_rfl) (by decide) u (by rw [star]; exact h)

/-- The list that every row of this seat bears. -/
abbrev theLaid : List (String × DataW Unit) := Rows.stampParsesRow.laid

section
variable {H : Type} {enc : TypeId × Value → H} {P : Program}
/-- The row's last step, of a call that leaves 'Below'. -/
theorem post_of_below {f : Func} {s : ChangeSpec} {apart fresh handsOn again : Bool} {W W' : World} {args : Array Value} {v : Value} {ds gs : List (DataW H)} {before pa pv : List MemPlace}
    (hW : DataW.Whole enc P f.params.toList s.vars apart W args.toList ds gs before)
    (hres : ∀ (b : Nat) (sp : Nat → Bool) (hd : Bool), DataW.TrodAll enc P W' b sp hd f.resultTypes.toList (v.resultList f.resultTypes.size) (s.fn H (ds ++ gs)).results [])
    (hargs : ∀ sp : Nat → Bool, (∀ p ∈ before, sp p.block = true) → DataW.TrodAll enc P W' 0 sp true f.params.toList args.toList (s.fn H (ds ++ gs)).args pa)
    (hvars : ∀ sp : Nat → Bool, (∀ p ∈ before, sp p.block = true) → DataW.TrodVars enc P W' sp s.vars (s.fn H (ds ++ gs)).vars pv)
    (hps : before = pa ++ pv) (hb : Below W.heap.size W W')
    (hok : ∀ (j : Nat) (t : TypeId) (r : Value), f.resultTypes[j]? = some t → (v.resultList f.resultTypes.size)[j]? = some r → Value.okWide P W' .any 0 t r) :
    s.post enc P f apart fresh handsOn again W args v W' := by
  have hlt : ∀ p ∈ before, p.block < W.heap.size := fun p hp => hW.lt p hp
  have hold : ∀ p ∈ before, (fun b => decide (b < W.heap.size)) p.block = true := fun p hp => by simpa using hlt p hp
  refine ⟨ds, gs, before, [], pa, pv, hW, hres _ _ _, hargs _ hold, hvars _ hold, World.keptBut_mono (fun p hp => ⟨hp, ?_⟩) (hb.frame (· ∈ before)), fun _ => ?_⟩
  · rw [hps, List.mem_append] at hp
    exact Or.inr hp
  · obtain ⟨_, _, _, _, _, hz, hn⟩ := hW
    refine ⟨hok, _, _, ([] ++ pa) ++ pv, ⟨[] ++ pa, pv, trodAll_append (hargs _ (fun _ _ => rfl)) (hres _ _ _), hvars _ (fun _ _ => rfl), rfl, ?_, ?_⟩, ?_⟩
    · intro b off hp
      have hin : MemPlace.cell b off ∈ before := by rw [hps]; simpa using hp
      rw [hb.frozen (hlt _ hin)]
      exact hz b off hin
    · intro ha
      have := hn ha
      rw [hps] at this
      simpa using this
    · intro p hp _
      rw [hps]
      simpa using hp
end
theorem big_of {W : World} (hsh : W.ShapedOpen Tryz.prog) : 8 ≤ W.heap.size := by
  obtain ⟨o, _, ho, _⟩ := hsh.2 ((begin Tryz.prog (fun _ _ => 0) default).world.heap.size - 1) (of_decide_eq_true (by kernel_rfl)) (of_decide_eq_true (by kernel_rfl))
  have h1 := (Array.getElem?_eq_some_iff.1 ho).1
  have h2 : 8 ≤ (begin Tryz.prog (fun _ _ => 0) default).world.heap.size - 1 := of_decide_eq_true (by kernel_rfl)
  omega

theorem env_of {W : World} (hL : laidMetH Tryz.prog theLaid W) (hsh : W.ShapedOpen Tryz.prog) : Env W := by
  have h : laidMet Tryz.prog theLaid W := hL
  obtain ⟨a1, s1, hv1, -, -, -⟩ := laid_sentinel h.tail.tail.tail.tail gRng gRngType Tryz.underlying226 rowErr Tryz.underlying362 Tryz.underlying364 rfl rfl Tryz.underlying9 cellsErr cells9
  obtain ⟨a2, s2, hv2, -, -, -⟩ := laid_sentinel h.tail.tail.tail.tail.tail gSyn gSynType Tryz.underlying226 rowErr Tryz.underlying362 Tryz.underlying364 rfl rfl Tryz.underlying9 cellsErr cells9
  exact ⟨big_of hsh, Tryz.laysM146.s1_3 W hsh, Lib.tabIs_of_head gPow gPowType Tryz.underlying343 Tryz.underlying50 cells50 cells343 h.tail.tail, ⟨_, _, hv2⟩, ⟨_, _, hv1⟩⟩

noncomputable def low : Nat := (World.holding Tryz.prog default ⟨#[], #[], []⟩).heap.size
def lits (l : List (DataW Unit)) : List Value := l.filterMap fun
  | .lit (.int k z) => some (.int k z)
  | _ => none
def parts : DataW Unit → List (DataW Unit)
  | .agg l => l
  | _ => []
def text : DataW Unit → List UInt8
  | .iface _ (.ptr (.agg [.lit (.string b)])) => b
  | _ => []
def lay (g : Nat) (vs : List Value) (h : Array Obj) : Array Obj := h.modify g fun
  | .cells _ t frozen => .cells vs.toArray t frozen
  | o => o
noncomputable def laidWorld (os : Os) : World :=
  let w0 := World.holding Tryz.prog os ⟨#[.cells #[.string ⟨(text Rows.laid_strconv_ErrRange).toArray⟩] 364, .cells #[.string ⟨(text Rows.laid_strconv_ErrSyntax).toArray⟩] 364], #[], []⟩
  let h1 := lay 4 [.iface 362 (.pointer (some ⟨low + 1, 0, none⟩))] w0.heap
  let h2 := lay 5 [.iface 362 (.pointer (some ⟨low, 0, none⟩))] h1
  let h3 := lay 7 (lits (parts Rows.laid_math_bits_deBruijn64tab)) h2
  let h4 := lay 6 (lits (parts Rows.laid_math_bits_deBruijn32tab)) h3
  let h5 := lay 3 (lits (parts Rows.laid_internal_strconv_uint64pow10)) h4
  let h6 := lay 2 ((parts Rows.laid_unicode_utf8_acceptRanges).flatMap fun d => lits (parts d)) h5
  let h7 := lay 1 (lits (parts Rows.laid_unicode_utf8_first)) h6
  { w0 with heap := h7 }
theorem laid_met (os : Os) (args : Array Value) : laidMet Tryz.prog theLaid ((laidWorld os).forCall (fun _ _ => 0) ⟨#[], args, []⟩).memory :=
  laidMet_of_run3 8 (by kernel_rfl) (by kernel_rfl) (by kernel_rfl)
end Go.Proofs.YtnldgcgngolkiaaGreatDoor.frame
