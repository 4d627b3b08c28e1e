/-
  What a row of these statements lays: the library's variables in the world (Glob), a world that meets the list, the step from a walk's end to a row's post.
-/
import Derived.Test.YtgapeacflkfmdaaGreatDoorCards
import Derived.Test.YtgapeacflkfmdaaGreatDoorTie
import Derived.Test.YtgapeacflkfmdaaGreatDoorG12
import Derived.ProofKit
import Derived.OpenShut
import Derived.Deep.DeepHandedRow
import Derived.Deep.DeepWitnessRowRef
import Derived.Lib.LaidTab
import Derived.Lib.LaidU8T
import Derived.PinnedBridge
import Derived.LaidHandle
import Derived.LaidSub
import Derived.Lay
import Derived.Shelf.Vars
namespace Go.Proofs.YtgapeacflkfmdaaGreatDoor
open Go.Lib Go.ChangeShapes Go.WideShapes Go.ChangeAt Go.RowKit Go.Proofs.YtgapeacflkfmdaaGreatDoorW.PrintWords

theorem own : ownKnob Tryz.prog.godebug = none := by kernel_rfl
abbrev laidL : List (String × DataW Unit) := Rows.lexJoinsRow.laid

theorem gEt : Tryz.prog.globalNamed "errors.errorType" = some 0 := by kernel_rfl
theorem rtNo : (Tryz.prog.cutTypes.find? (·.1 == "internal/reflectlite.rtype")).map (·.2) = some 174 := by kernel_rfl
theorem errRow : ((List.range 290).filter fun t => Tryz.prog.rowNamed t [101, 114, 114, 111, 114]) = [29] := by kernel_rfl
theorem typesNo : Tryz.prog.types.size = 290 := by kernel_rfl
theorem gSy : Tryz.prog.globalNamed "strconv.ErrSyntax" = some 5 := by kernel_rfl
theorem ySy : (Tryz.prog.globals[5]?).map (·.type) = some 29 := by kernel_rfl
theorem gRg : Tryz.prog.globalNamed "strconv.ErrRange" = some 6 := by kernel_rfl
theorem yRg : (Tryz.prog.globals[6]?).map (·.type) = some 29 := by kernel_rfl
theorem gPw : Tryz.prog.globalNamed "internal/strconv.uint64pow10" = some 1 := by kernel_rfl
theorem yPw : (Tryz.prog.globals[1]?).map (·.type) = some 230 := by kernel_rfl

def renU : Go.Shelf.Ren := ⟨fun n => n, fun | 5 => 5 | 119 => 240 | 138 => 242 | 139 => 243 | n => n, fun | 3 => 3 | 4 => 4 | n => n⟩
theorem u8types : U8Types Tryz.prog renU := ⟨Tryz.underlying5, Tryz.underlying240, by kernel_rfl, Tryz.underlying243⟩
theorem u8extra : U8Extra Tryz.prog renU := ⟨by kernel_rfl, by kernel_rfl, by kernel_rfl, by kernel_rfl, by kernel_rfl, by kernel_rfl, by kernel_rfl⟩

/-- WHAT THE ROW's LIST GIVES. -/
theorem glob_of {W : World} (h : laidMetH Tryz.prog laidL W) (hsh : W.ShapedOpen Tryz.prog) : Glob W := by
  obtain ⟨hd, hh⟩ := laidMetH_iff.1 h
  have hsent : ∀ (n : String) (g : Nat) (d : DataW Unit) (nm : String), Tryz.prog.globalNamed n = some g → (Tryz.prog.globals[g]?).map (·.type) = some 29 → VarReads Tryz.prog W n (.iface nm d) → ∃ t p, W.cell? ⟨g, 0, none⟩ = some (.iface t p) := by
    rintro n g d nm hg hy ⟨g', t', cs, fuel, p, hg', ht', hv, hr⟩
    obtain rfl := Option.some.inj (hg.symm.trans hg')
    obtain rfl := Option.some.inj (hy.symm.trans ht')
    obtain ⟨f1, u, v, hcs, _⟩ := iface_of_trod Tryz.underlying29 hr
    refine ⟨u, v, ?_⟩
    rw [World.var?_cell hg' hv 0, ← Array.getElem?_toList, hcs]
    rfl
  have at_ : ∀ (i : Nat) (x : String × DataW Unit), laidL[i]? = some x → x.2.handleName?.isNone = true → VarReads Tryz.prog W x.1 x.2 := fun i x hi hx => laidMet.reads hd (List.mem_filter.2 ⟨List.mem_iff_getElem?.2 ⟨i, hi⟩, hx⟩)
  have hpw := at_ 2 ("internal/strconv.uint64pow10", Rows.laid_internal_strconv_uint64pow10) rfl rfl
  have hac := at_ 3 ("unicode/utf8.acceptRanges", Rows.laid_unicode_utf8_acceptRanges) rfl rfl
  have hrg := at_ 5 ("strconv.ErrRange", Rows.laid_strconv_ErrRange) rfl rfl
  have hsy := at_ 6 ("strconv.ErrSyntax", Rows.laid_strconv_ErrSyntax) rfl rfl
  have hfi := at_ 7 ("unicode/utf8.first", Rows.laid_unicode_utf8_first) rfl (by kernel_rfl)
  refine ⟨?_, ?_, ?_, ?_, ?_, ?_⟩
  · obtain ⟨name, u, ty, e1, e2, e3, e4, e5⟩ := hh ("errors.errorType", Rows.laid_errors_errorType) (List.mem_filter.2 ⟨List.mem_iff_getElem?.2 ⟨4, rfl⟩, rfl⟩)
    have en : name = [101, 114, 114, 111, 114] := (Option.some.inj e1).symm
    subst en
    obtain rfl := Option.some.inj (rtNo.symm.trans e2)
    have hm : ty ∈ (List.range 290).filter fun t => Tryz.prog.rowNamed t [101, 114, 114, 111, 114] := List.mem_filter.2 ⟨List.mem_range.2 (by rw [← typesNo]; exact e3), e4⟩
    rw [errRow] at hm
    obtain rfl := List.mem_singleton.1 hm
    have hth : typeHandle Tryz.prog 29 = .pointer (some ⟨9, 29, none⟩) := by kernel_rfl
    rw [hth] at e5
    simpa using World.var?_cell gEt e5 0
  · exact utf8Tabs_of_readsT u8types u8extra (Pinned.utf8First_eq ▸ hfi) ((show Rows.laid_unicode_utf8_acceptRanges = acceptData by kernel_rfl) ▸ hac)
  · exact hsent _ _ _ _ gSy ySy hsy
  · exact hsent _ _ _ _ gRg yRg hrg
  · obtain ⟨g', t', cs, fuel, p, hg', ht', hv, hr⟩ := hpw
    obtain rfl := Option.some.inj (gPw.symm.trans hg')
    obtain rfl := Option.some.inj (yPw.symm.trans ht')
    have e : (Rows.laid_internal_strconv_uint64pow10 : DataW Unit) = tabData .u64 Lib.pow10Tab := by kernel_rfl
    rw [e] at hr
    unfold Lib.TabIs
    rw [hv, ← cells_of_tab Tryz.underlying230 Tryz.underlying148 (by kernel_rfl) (by kernel_rfl) hr]
  · exact Go.Proofs.cell_of_shapedOpen_int (zero := #[.int .i64 0]) (t := 3) hsh (of_decide_eq_true (by kernel_rfl)) (by kernel_rfl) rfl (by kernel_rfl) (by kernel_rfl) Tryz.underlying3

/-- A world that meets the list: the settled one; the error type's handle in its cell; the data laid. -/
noncomputable def baseWorld (os : Os) : World :=
  let w0 := World.holding Tryz.prog os ⟨#[], #[], []⟩
  { w0 with heap := w0.heap.modify 0 fun
      | .cells _ t frozen => .cells #[.iface 174 (.agg #[.pointer (some ⟨9, 29, none⟩)])] t frozen
      | o => o }
def laidD : List (String × DataW Unit) := laidL.filter fun x => x.2.handleName?.isNone
noncomputable def laidWorld (os : Os) : World := (baseWorld os).layVars Tryz.prog laidD
set_option maxRecDepth 100000 in
theorem laid_met (os : Os) (args : Array Value) : laidMetH Tryz.prog laidL ((laidWorld os).forCall (fun _ _ => 0) ⟨#[], args, []⟩).memory := by
  refine laidMetH_of_parts ?_ (by kernel_rfl)
  have e1 : (laidD.filter fun x => (laidD.map (·.1)).contains x.1) = laidD := List.filter_eq_self.2 fun x hx => List.contains_iff_mem.2 (List.mem_map.2 ⟨x, hx, rfl⟩)
  have e2 : (laidD.filter fun x => !(laidD.map (·.1)).contains x.1) = [] := List.filter_eq_nil_iff.2 fun x hx => by rw [List.contains_iff_mem.2 (List.mem_map.2 ⟨x, hx, rfl⟩)]; simp
  have h : laidMet Tryz.prog laidD (laidWorld os) := laidMet_layVars (w0 := baseWorld os) (laidD.map (·.1)) [] (by rw [e1]; rfl) (by rw [e1]; kernel_rfl) (by rw [e1]; kernel_rfl) (by rw [e2]; exact LaidIn.none)
  exact h.of_heap (by simp [World.memory, World.forCall, Input.heap])
set_option maxRecDepth 100000 in
theorem laid_shaped (os : Os) (args : Array Value) : ((laidWorld os).forCall (fun _ _ => 0) ⟨#[], args, []⟩).Shaped Tryz.prog := World.shaped_of_ZipB (by kernel_rfl) (by kernel_rfl)
theorem laid_os (os : Os) : (laidWorld os).os = os := World.layVars_os _ _ _

section
variable {H : Type} {enc : TypeId × Value → H} {P : Program}
/-- A row's last step where 'Below' is known of the world. -/
theorem post_of_below {f : Func} {s : ChangeSpec} {apart fresh handsOn again : Bool} {W W' : World} {args : Array Value} {v : Value} {ds gs : List (DataW H)} {before pa pv : List MemPlace}
    (hW : DataW.Whole enc P f.params.toList s.vars apart W args.toList ds gs before)
    (hres : ∀ (b : Nat) (sp : Nat → Bool) (hd : Bool), DataW.TrodAll enc P W' b sp hd f.resultTypes.toList (v.resultList f.resultTypes.size) (s.fn H (ds ++ gs)).results [])
    (hargs : ∀ sp : Nat → Bool, (∀ p ∈ before, sp p.block = true) → DataW.TrodAll enc P W' 0 sp true f.params.toList args.toList (s.fn H (ds ++ gs)).args pa)
    (hvars : ∀ sp : Nat → Bool, (∀ p ∈ before, sp p.block = true) → DataW.TrodVars enc P W' sp s.vars (s.fn H (ds ++ gs)).vars pv)
    (hps : before = pa ++ pv) (hb : Below W.heap.size W W')
    (hok : ∀ (j : Nat) (t : TypeId) (r : Value), f.resultTypes[j]? = some t → (v.resultList f.resultTypes.size)[j]? = some r → Value.okWide P W' .any 0 t r) :
    s.post enc P f apart fresh handsOn again W args v W' := by
  have hlt : ∀ p ∈ before, p.block < W.heap.size := fun p hp => hW.lt p hp
  have hold : ∀ p ∈ before, (fun b => decide (b < W.heap.size)) p.block = true := fun p hp => by simpa using hlt p hp
  refine ⟨ds, gs, before, [], pa, pv, hW, hres _ _ _, hargs _ hold, hvars _ hold, World.keptBut_mono (fun p hp => ⟨hp, ?_⟩) (hb.frame (· ∈ before)), fun _ => ?_⟩
  · rw [hps, List.mem_append] at hp
    exact Or.inr hp
  · obtain ⟨_, _, _, _, _, hz, hn⟩ := hW
    refine ⟨hok, _, _, ([] ++ pa) ++ pv, ⟨[] ++ pa, pv, trodAll_append (hargs _ (fun _ _ => rfl)) (hres _ _ _), hvars _ (fun _ _ => rfl), rfl, ?_, ?_⟩, ?_⟩
    · intro b off hp
      have hin : MemPlace.cell b off ∈ before := by rw [hps]; simpa using hp
      rw [hb.frozen (hlt _ hin)]
      exact hz b off hin
    · intro ha
      have := hn ha
      rw [hps] at this
      simpa using this
    · intro p hp _
      rw [hps]
      simpa using hp
end
theorem laidOut : laidOutB Tryz.prog = true := by kernel_rfl
end Go.Proofs.YtgapeacflkfmdaaGreatDoor
