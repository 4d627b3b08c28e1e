/-
  A strings.Builder of the call's own: copyCheck, WriteString (walked here: copyCheck's panic is not in this program's form, so the shelf's contract does not lie), and that a builder stands where only newer memory moved. lex.Join: the model and the walk. heddleref10.Join; the walk of LexJoins. Plain Lean: tokens' texts, blanks between them, scanned again; the walks of LexJoins and LexBack.
-/
import Derived.Test.YtgapeacflkfmdaaGreatDoorG12
import Derived.Lib.Builder
import Derived.Shelf.Strings.Builder1
import Derived.Test.YtgapeacflkfmdaaGreatDoorG18
import Derived.Lib.AppendStr
namespace Go.Proofs.YtgapeacflkfmdaaGreatDoor
open Go.RowKit Go.Proofs.YtgapeacflkfmdaaGreatDoorW.PrintWords

abbrev tBld : Nat := 116
theorem bld_below {B b : Nat} {p : Value} {bs : List Value} {W W' : World} (h : Lib.BuilderAt tBld 5 B b p bs W) (hb : Below W.heap.size W W') : Lib.BuilderAt tBld 5 B b p bs W' := by
  have hlt := h.lt
  obtain ⟨hB, v, hv, hown, hne⟩ := h
  exact ⟨hB, v, (hb.block b hlt).trans hv, hown.kept (row := none) ⟨hb.os, hb.tape, hb.output, hb.size, fun k hk _ => hb.block k hk⟩ (Classical.em _), hne⟩
theorem isBld_below {B b : Nat} {bs : List Value} {W W' : World} (h : Lib.IsBuilder tBld 5 B b bs W) (hb : Below W.heap.size W W') : Lib.IsBuilder tBld 5 B b bs W' :=
  h.elim (fun x => .inl (bld_below x hb)) (fun x => .inr (bld_below x hb))

set_option maxHeartbeats 1000000 in
set_option maxRecDepth 100000 in
theorem check_used (b : Nat) (w : World) (h0 : w.cell? ⟨b, 0, none⟩ = some (.pointer (some ⟨b, 0, none⟩))) :
    Calls Tryz.prog 133 #[.pointer (some ⟨b, 0, none⟩)] w fun e w' => e = .returned (.tuple #[]) ∧ w' = w := by
  obtain ⟨j, hj, _⟩ : ∃ j, Tryz.prog.info? tBld = some j ∧ j.size ≠ 0 := by
    have h : (Tryz.prog.info? tBld).map (·.size) = some 2 := by kernel_rfl
    obtain ⟨j, hj, hjs⟩ := Option.map_eq_some_iff.1 h
    exact ⟨j, hj, by rw [hjs]; decide⟩
  go_enter Tryz.func133, Tryz.ntmps133
  go_wp2_with fail
  rw [Lib.run_neq_ptr_same w _ Tryz.underlying114 hj]
  go_wp2_with fail
  go_end0
  exact ⟨rfl, rfl⟩

set_option maxHeartbeats 1000000 in
set_option maxRecDepth 100000 in
theorem check_fresh (b : Nat) (w : World) (h0 : w.cell? ⟨b, 0, none⟩ = some (.pointer none)) (hsh : w.shape? b = some (tBld, 2)) (hfz : w.frozen? ⟨b, 0, none⟩ = false) :
    Calls Tryz.prog 133 #[.pointer (some ⟨b, 0, none⟩)] w fun e w' => e = .returned (.tuple #[]) ∧ w' = w.setCell ⟨b, 0, none⟩ (.pointer (some ⟨b, 0, none⟩)) := by
  obtain ⟨j, hj, hjs⟩ : ∃ j, Tryz.prog.info? tBld = some j ∧ j.size ≠ 0 := by
    have h : (Tryz.prog.info? tBld).map (·.size) = some 2 := by kernel_rfl
    obtain ⟨j, hj, hjs⟩ := Option.map_eq_some_iff.1 h
    exact ⟨j, hj, by rw [hjs]; decide⟩
  have hlies : liesAt Tryz.prog Tryz.prog.depth tBld (2 / Tryz.prog.cellsOf tBld) 0 tBld 1 = true := by kernel_rfl
  go_enter Tryz.func133, Tryz.ntmps133
  go_wp2_with fail
  rw [Lib.run_to_unsafe w ⟨b, 0, none⟩ Tryz.underlying114 Tryz.underlying163 hj hjs hsh (Nat.zero_lt_succ 1)]
  simp only [Result.andThen]
  rw [Oper.upon_value]
  go_wp2_with fail
  rw [run_callFunc_extern Tryz.func181 (by kernel_rfl) (by kernel_rfl) (by kernel_rfl) (e := Extern.AbiNoEscape.same) (by kernel_rfl)]
  rw [Lib.run_noEscape]
  simp only [Result.andThen]
  rw [Oper.upon_value]
  go_wp2_with fail
  rw [Lib.run_from_unsafe w ⟨b, 0, none⟩ Tryz.underlying163 Tryz.underlying114 hj hsh hlies]
  simp only [Result.andThen]
  rw [Oper.upon_value]
  go_wp2_with fail
  go_end0
  exact ⟨rfl, rfl⟩
theorem check_any (B b : Nat) (bs : List Value) (w : World) (h : Lib.IsBuilder tBld 5 B b bs w) :
    Calls Tryz.prog 133 #[.pointer (some ⟨b, 0, none⟩)] w fun e w' => e = .returned (.tuple #[]) ∧ (Lib.BuilderAt tBld 5 B b (.pointer (some ⟨b, 0, none⟩)) bs w' ∧ Below B w w') := by
  rcases h with h | h
  · refine (check_fresh b w h.cell0 h.shape h.frozen0).mono ?_
    rintro e w' ⟨rfl, rfl⟩
    exact ⟨rfl, h.used _, (Below.refl B w).setCell (p := ⟨b, 0, none⟩) h.1 _⟩
  · refine (check_used b w h.cell0).mono ?_
    rintro e w' ⟨rfl, rfl⟩
    exact ⟨rfl, h, Below.refl B _⟩
set_option maxHeartbeats 2000000 in
set_option maxRecDepth 100000 in
theorem write_string (B b : Nat) (bs : List Value) (s : ByteArray) (w : World) (h : Lib.IsBuilder tBld 5 B b bs w) (hlen : bs.length + s.size ≤ 140737488355328) (hBw : B ≤ w.heap.size) :
    Calls Tryz.prog 78 #[.pointer (some ⟨b, 0, none⟩), .string s] w fun e w' => e = .returned (.tuple #[.int .i64 s.size, .nilIface]) ∧ Lib.IsBuilder tBld 5 B b (bs ++ Lib.strCells s) w' ∧ Below B w w' := by
  obtain ⟨i0, hi, hz0, hz1, hz2⟩ : ∃ i0, Tryz.prog.info? 5 = some i0 ∧ i0.zero = some (.int .u8 0) ∧ i0.size = 1 ∧ i0.bytes = 1 := by
    have h : (Tryz.prog.info? 5).map (fun i => (i.zero, i.size, i.bytes)) = some (some (.int .u8 0), 1, 1) := by kernel_rfl
    obtain ⟨i0, hi, hz⟩ := Option.map_eq_some_iff.1 h
    simp only [Prod.mk.injEq] at hz
    exact ⟨i0, hi, hz.1, hz.2.1, hz.2.2⟩
  go_enter Tryz.func78, Tryz.ntmps78
  go_wp2_with fail
  refine (check_any B b bs _ h).mono ?_
  rintro e w1 ⟨rfl, h1, hb1⟩
  obtain ⟨hB, v, hbk, hown, hne⟩ := h1
  have c0 : w1.cell? ⟨b, 0, none⟩ = some (.pointer (some ⟨b, 0, none⟩)) := by rw [Lib.cell_of_heap hbk]; rfl
  have c1 : w1.cell? ⟨b, 1, none⟩ = some v := by rw [Lib.cell_of_heap hbk]; rfl
  go_wp2_with (at_builtin; refine Lib.wpList_append_own_string _ rfl _ _ 49 9 rfl B 5 i0 Tryz.underlying49 Tryz.underlying9 hi hz0 hz1 hz2 _ _ _ rfl hown s rfl ?c3 ?c4 ?c5 ?_)
  case c3 => unfold maxLen; omega
  case c4 => omega
  case c5 => have := hb1.size; omega
  intro v' w2 hown' hgrow _
  have hlt : b < w1.heap.size := by
    rcases Nat.lt_or_ge b w1.heap.size with h' | h'
    · exact h'
    · simp [Array.getElem?_eq_none h'] at hbk
  have hb2 : w2.heap[b]? = some (.cells #[.pointer (some ⟨b, 0, none⟩), v] tBld (0, 0)) := by
    rw [hgrow.block b hlt (fun e => hne e.symm)]
    exact hbk
  have d0 : w2.cell? ⟨b, 0, none⟩ = some (.pointer (some ⟨b, 0, none⟩)) := by rw [Lib.cell_of_heap hb2]; rfl
  have d1 : w2.cell? ⟨b, 1, none⟩ = some v := by rw [Lib.cell_of_heap hb2]; rfl
  have f1 : w2.frozen? ⟨b, 1, none⟩ = false := Lib.frozen_of_heap hb2 1
  obtain ⟨ao, n', cap, rfl⟩ : ∃ ao n' cap, v' = .slice ao n' cap := by
    rcases hown'.2 with ⟨hv, _⟩ | ⟨g, cap, cur, hv, _⟩
    · exact ⟨_, _, _, hv⟩
    · exact ⟨_, _, _, hv⟩
  go_wp2_with fail
  go_ret2
  refine ⟨rfl, .inr ?_, ?_⟩
  · exact Lib.BuilderAt.put (T := tBld) (e := 5) hB hb2 (bs' := bs ++ Lib.strCells s) (by simpa [Lib.strCells_length] using hown') (by decide)
  · exact (hb1.grown hgrow (by have := hb1.size; omega) (fun k hk => (hown.lt k hk).1)).setCell (p := ⟨b, 1, none⟩) hB _
end Go.Proofs.YtgapeacflkfmdaaGreatDoor
namespace Go.Proofs.YtgapeacflkfmdaaGreatDoor
open Go.RowKit Go.Proofs.YtgapeacflkfmdaaGreatDoorW.PrintWords

/-- The tokens' texts, a blank behind each. -/
def joinB (l : List Tk) : List UInt8 := l.flatMap fun t => (wrTok t).1.data.toList ++ [32]
def joined (l : List Tk) : ByteArray × List Lk :=
  match l.findIdx? fun t => !(wrTok t).2.isEmpty with
  | some i => (⟨#[]⟩, [⟨nLex, i, 1⟩])
  | none => if 65536 < (joinB l).length then (⟨#[]⟩, [⟨nLex, 0, 4⟩]) else (⟨(joinB l).toArray⟩, [])
theorem joinB_succ {l : List Tk} {i : Nat} (h : i < l.length) : joinB (l.take (i + 1)) = joinB (l.take i) ++ ((wrTok (l.getD i zTk)).1.data.toList ++ [32]) := by
  unfold joinB
  rw [List.take_succ_eq_append_getElem h, List.flatMap_append, List.getD_eq_getElem?_getD, List.getElem?_eq_getElem h]
  simp
theorem joinB_step {l : List Tk} {i : Nat} (h : i < l.length) : (joinB (l.take (i + 1))).length = (joinB (l.take i)).length + (wrTok (l.getD i zTk)).1.size + 1 := by
  rw [joinB_succ h, Lib.size_eq]
  simp
  omega
theorem joined_at {l : List Tk} {i : Nat} (h : i < l.length) (hb : (wrTok (l.getD i zTk)).2 ≠ []) (hg : ∀ j, j < i → (wrTok (l.getD j zTk)).2 = []) : joined l = (⟨#[]⟩, [⟨nLex, i, 1⟩]) := by
  unfold joined
  have : (l.findIdx? fun t => !(wrTok t).2.isEmpty) = some i := by
    rw [List.findIdx?_eq_some_iff_getElem]
    refine ⟨h, ?_, fun j hj => ?_⟩
    · rw [List.getD_eq_getElem?_getD, List.getElem?_eq_getElem h] at hb
      simpa using hb
    · have := hg j hj
      rw [List.getD_eq_getElem?_getD, List.getElem?_eq_getElem (by omega)] at this
      simpa using this
  rw [this]
theorem joined_all {l : List Tk} (hg : ∀ j, j < l.length → (wrTok (l.getD j zTk)).2 = []) : joined l = if 65536 < (joinB l).length then (⟨#[]⟩, [⟨nLex, 0, 4⟩]) else (⟨(joinB l).toArray⟩, []) := by
  unfold joined
  have : (l.findIdx? fun t => !(wrTok t).2.isEmpty) = none := by
    rw [List.findIdx?_eq_none_iff]
    intro t ht
    obtain ⟨j, hj, rfl⟩ := List.getElem_of_mem ht
    have := hg j hj
    rw [List.getD_eq_getElem?_getD, List.getElem?_eq_getElem hj] at this
    simpa using this
  rw [this]
/-- Tokens that can be handed to lex.Write. -/
def TksOk (l : List Tk) : Prop := ∀ i, i < l.length → (l.getD i zTk).tx.size ≤ 140737488351232 ∧ -9223372036854775808 ≤ (l.getD i zTk).nm ∧ (l.getD i zTk).nm ≤ 9223372036854775807
def JRel (w : World) (l : List Tk) (gk : Nat) (vl vi : Value) (wl : World) : Prop :=
  ∃ i : Nat, vi = .int .i64 (i : Int) ∧ gk = l.length - i ∧ i ≤ l.length ∧ vl = .bool (decide (65536 < (joinB (l.take i)).length)) ∧ Below w.heap.size w wl ∧
    ((joinB (l.take i)).length ≤ 65536 → Lib.IsBuilder tBld 5 w.heap.size w.heap.size (Lib.byteCells (joinB (l.take i))) wl) ∧ ∀ j, j < i → (wrTok (l.getD j zTk)).2 = []
theorem trans_below' {B : Nat} {w w1 w2 : World} (h : Below B w w1) (h2 : Below B w1 w2) : Below B w w2 := h.trans h2
set_option maxRecDepth 100000 in
set_option maxHeartbeats 4000000 in
theorem lex_Join (l : List Tk) (A : Option Addr) (c : Nat) (w : World) (hC : kTk.C w A l.length l) (_ : l.length ≤ c) (hok : TksOk l) (hG : Glob w) :
    Calls Tryz.prog 38 #[.slice A l.length c] w (StrPost w (joined l)) := by
  have HG := Lib.hid hG
  have HC := Lib.hid hC
  have HOK := Lib.hid hok
  have hmax := Kd.C_max hC
  clear hG hC hok
  go_enter Tryz.func38, Tryz.ntmps38
  go_wp2_with fail
  go_loopg [5, 12] l.length (fun gk vl vi wl => JRel w l gk vl vi wl)
  case atStart =>
    refine ⟨0, rfl, by simp, Nat.zero_le _, rfl, below_alloc (Below.refl _ _) _, fun _ => .inl ⟨Nat.le_refl _, .slice none 0 0, by show (w.heap.push _)[w.heap.size]? = some _; simp, World.ownsRow_nil _ _ _ _, by simp [Value.ownBlock]⟩, fun j hj => by omega⟩
  case round =>
    obtain ⟨i, rfl, hgk, hi, rfl, hBl, hB, hg⟩ := hrel
    have HM := Lib.hid hgk
    have HB := Lib.hid hB
    have HGd := Lib.hid hg
    clear hgk hB hg
    by_cases hlt : i < l.length
    · have hCi := Kd.C_below HC.out hBl
      obtain ⟨ad, rfl, q0, q1, q2, q3⟩ := atTk hCi (i : Int) (by omega) (by omega)
      rw [Int.toNat_natCast] at q0 q1 q2 q3
      have hw := HOK.out i hlt
      have HW := Lib.hid (lex_Write (l.getD i zTk) hw.1 hw.2.1 hw.2.2)
      have HT : rdTk l (i : Int) = l.getD i zTk := rfl
      rw [HT] at q0 q1 q2 q3
      obtain ⟨t, ht⟩ : ∃ t, t = l.getD i zTk := ⟨_, rfl⟩
      rw [← ht] at q0 q1 q2 q3 HW
      have HT := Lib.hid ht
      have x0 : (i : Int) < (l.length : Int) := by omega
      have x1 : (0 : Int) ≤ (i : Int) := by omega
      have x2 : decide ((i : Int) < (l.length : Int)) = true := decide_eq_true x0
      have s1 : IntKind.i64.wrap ((i : Int) + 1) = ((i + 1 : Nat) : Int) := by rw [wrap_small _ (by omega) (by omega)]; rfl
      have HA := Lib.hid (below_alloc (Below.refl wr.heap.size wr) (.cells #[.int .i64 t.kd, .string t.tx, .int .i64 t.nm, .int .i64 t.at_] 63))
      have HB1 := Lib.hid (trans_below hBl HA.out)
      have HG1 := Lib.hid (HG.out.below HB1.out)
      rcases hR : wrTok t with ⟨x, E⟩
      rw [hR] at HW
      have HR := Lib.hid hR
      clear hCi hw ht hR
      by_cases hlong : 65536 < (joinB (l.take i)).length
      · rw [decide_eq_true hlong]
        cases E with
        | cons y ys =>
          go_wp2_with fail
          refine (HW.out _ HG1.out).mono ?_
          rintro e w2 ⟨ev, rfl, hE, hB2⟩
          have HB2 := Lib.hid (trans_below HB1.out hB2)
          have HBb := Lib.hid hB2
          have HE := Lib.hid hE
          clear hE hB2
          obtain ⟨be, u, rfl, _⟩ := HE.out
          go_wp2_with fail
          refine (lex_fault _ _ _ _ [] rfl).mono ?_
          rintro e w3 ⟨v, rfl, hE3, hB3⟩
          have HQ := Lib.hid (joined_at hlt (by rw [← HT.out, HR.out]; simp) HGd.out)
          have HE3 := Lib.hid hE3
          have HB3 := Lib.hid (trans_below HB2.out hB3)
          clear hE3 hB3
          go_wp2_with fail
          go_ret2
          exact ⟨_, by rw [HQ.out]; rfl, by rw [HQ.out]; exact HE3.out, HB3.out⟩
        | nil =>
          go_wp2_with fail
          refine (HW.out _ HG1.out).mono ?_
          rintro e w2 ⟨ev, rfl, hE, hB2⟩
          have HB2 := Lib.hid (trans_below HB1.out hB2)
          have HBb := Lib.hid hB2
          have HE := Lib.hid hE
          clear hE hB2
          obtain rfl : ev = .nilIface := HE.out
          go_wp2_with fail
          go_roundg (l.length - (i + 1))
          case measure => rw [HM.out]; omega
          case rel =>
            have h8 := joinB_step hlt
            exact ⟨i + 1, by go_num, rfl, by omega, by rw [decide_eq_true (by omega)], HB2.out, fun h9 => by omega, fun j hj => by
              by_cases hji : j = i
              · rw [hji, ← HT.out, HR.out]
              · exact HGd.out j (by omega)⟩
      · rw [decide_eq_false hlong]
        have hBi := HB.out (by omega)
        have HBi := Lib.hid (isBld_below hBi HA.out)
        clear hBi HB
        cases E with
        | cons y ys =>
          go_wp2_with fail
          refine (HW.out _ HG1.out).mono ?_
          rintro e w2 ⟨ev, rfl, hE, hB2⟩
          have HB2 := Lib.hid (trans_below HB1.out hB2)
          have HBb := Lib.hid hB2
          have HE := Lib.hid hE
          clear hE hB2
          obtain ⟨be, u, rfl, _⟩ := HE.out
          go_wp2_with fail
          refine (lex_fault _ _ _ _ [] rfl).mono ?_
          rintro e w3 ⟨v, rfl, hE3, hB3⟩
          have HQ := Lib.hid (joined_at hlt (by rw [← HT.out, HR.out]; simp) HGd.out)
          have HE3 := Lib.hid hE3
          have HB3 := Lib.hid (trans_below HB2.out hB3)
          clear hE3 hB3
          go_wp2_with fail
          go_ret2
          exact ⟨_, by rw [HQ.out]; rfl, by rw [HQ.out]; exact HE3.out, HB3.out⟩
        | nil =>
          have hlim := wr_lim (t := t) (by rw [HR.out])
          rw [HR.out] at hlim
          have hxs : x.size ≤ 2000 := hlim.1
          have hst := joinB_step hlt
          rw [← HT.out, HR.out] at hst
          simp only at hst
          obtain ⟨m, hm⟩ : ∃ m, m = (joinB (l.take i)).length := ⟨_, rfl⟩
          rw [← hm] at hst hlong
          have s2 : IntKind.i64.wrap ((m : Int) + (x.size : Int)) = (m : Int) + (x.size : Int) := wrap_small _ (by omega) (by omega)
          have s3 : IntKind.i64.wrap ((m : Int) + (x.size : Int) + 1) = (m : Int) + (x.size : Int) + 1 := wrap_small _ (by omega) (by omega)
          have HN := Lib.hid hm
          have HST := Lib.hid hst
          clear hm hst hlim
          by_cases hnow : 65536 < m + x.size + 1
          · have d1 : decide ((m : Int) + (x.size : Int) + 1 > 65536) = true := decide_eq_true (by omega)
            go_wp2_with fail
            refine (HW.out _ HG1.out).mono ?_
            rintro e w2 ⟨ev, rfl, hE, hB2⟩
            have HB2 := Lib.hid (trans_below HB1.out hB2)
            have HBb := Lib.hid hB2
            have HE := Lib.hid hE
            clear hE hB2
            obtain rfl : ev = .nilIface := HE.out
            have HBj := Lib.hid (isBld_below HBi.out HBb.out)
            go_wp2_with fail
            refine (Tryz.Builder_Len _ _ _ _ HBj.out).mono ?_
            rw [Lib.byteCells_length, ← HN.out]
            rintro e w3 ⟨rfl, rfl⟩
            go_wp2_with fail
            go_roundg (l.length - (i + 1))
            case measure => rw [HM.out]; omega
            case rel =>
              exact ⟨i + 1, by go_num, rfl, by omega, by rw [decide_eq_true (by rw [HST.out]; exact hnow)], HB2.out, fun h9 => by rw [HST.out] at h9; omega, fun j hj => by
                by_cases hji : j = i
                · rw [hji, ← HT.out, HR.out]
                · exact HGd.out j (by omega)⟩
          · have d1 : decide ((m : Int) + (x.size : Int) + 1 > 65536) = false := decide_eq_false (by omega)
            go_wp2_with fail
            refine (HW.out _ HG1.out).mono ?_
            rintro e w2 ⟨ev, rfl, hE, hB2⟩
            have HB2 := Lib.hid (trans_below HB1.out hB2)
            have HBb := Lib.hid hB2
            have HE := Lib.hid hE
            clear hE hB2
            obtain rfl : ev = .nilIface := HE.out
            have HBj := Lib.hid (isBld_below HBi.out HBb.out)
            have HB2s := Lib.hid HB2.out.size
            have hx1 : (x ++ (⟨#[32]⟩ : ByteArray)).size = x.size + 1 := by rw [ByteArray.size_append]; rfl
            go_wp2_with fail
            refine (Tryz.Builder_Len _ _ _ _ HBj.out).mono ?_
            rw [Lib.byteCells_length, ← HN.out]
            rintro e w3 ⟨rfl, rfl⟩
            go_wp2_with fail
            refine (write_string _ _ _ _ _ HBj.out (by rw [Lib.byteCells_length, ← HN.out, hx1]; omega) HB2s.out).mono ?_
            rintro e w4 ⟨rfl, hBk, hB4⟩
            have HBk := Lib.hid hBk
            have HB4 := Lib.hid (trans_below' HB2.out hB4)
            clear hBk hB4
            go_wp2_with fail
            go_roundg (l.length - (i + 1))
            case measure => rw [HM.out]; omega
            case rel =>
              have e1 : Lib.byteCells (joinB (l.take (i + 1))) = Lib.byteCells (joinB (l.take i)) ++ Lib.strCells (x ++ (⟨#[32]⟩ : ByteArray)) := by
                rw [joinB_succ hlt, ← HT.out, HR.out, Lib.byteCells_append, Lib.strCells_eq]
                congr 2
              exact ⟨i + 1, by go_num, rfl, by omega, by rw [decide_eq_false (by rw [HST.out]; exact hnow)], HB4.out, fun h9 => by rw [e1]; exact HBk.out, fun j hj => by
                by_cases hji : j = i
                · rw [hji, ← HT.out, HR.out]
                · exact HGd.out j (by omega)⟩
    · have hil : i = l.length := by omega
      subst hil
      have hd9 : decide ((l.length : Int) < (l.length : Int)) = false := decide_eq_false (by omega)
      rw [List.take_length] at HB ⊢
      have HJ := Lib.hid (joined_all HGd.out)
      by_cases hlong : 65536 < (joinB l).length
      · rw [decide_eq_true hlong]
        have HQ : Hid (joined l = (⟨#[]⟩, [⟨nLex, 0, 4⟩])) := Lib.hid (by rw [HJ.out, if_pos hlong])
        have HBl := Lib.hid hBl
        clear hlong hBl HB
        go_wp2_with fail
        refine (lex_fault _ _ _ _ [] rfl).mono ?_
        rintro e w3 ⟨v, rfl, hE3, hB3⟩
        have HE3 := Lib.hid hE3
        have HB3 := Lib.hid (trans_below HBl.out hB3)
        clear hE3 hB3
        go_wp2_with fail
        go_ret2
        exact ⟨_, by rw [HQ.out]; rfl, by rw [HQ.out]; exact HE3.out, HB3.out⟩
      · rw [decide_eq_false hlong]
        have HQ : Hid (joined l = (⟨(joinB l).toArray⟩, [])) := Lib.hid (by rw [HJ.out, if_neg hlong])
        have HBl := Lib.hid hBl
        have HBs := Lib.hid hBl.size
        have HBb := Lib.hid (HB.out (by omega))
        clear hlong hBl HB
        go_wp2_with fail
        refine (Tryz.Builder_String_any _ _ _ _ HBb.out HBs.out).mono ?_
        rintro e w3 ⟨rfl, hB3⟩
        have HB3 := Lib.hid (trans_below' HBl.out hB3)
        clear hB3
        go_wp2_with fail
        go_ret2
        exact ⟨_, by rw [HQ.out]; rfl, by rw [HQ.out]; rfl, HB3.out⟩
end Go.Proofs.YtgapeacflkfmdaaGreatDoor
namespace Go.Proofs.YtgapeacflkfmdaaGreatDoor
open Go.RowKit Go.Proofs.YtgapeacflkfmdaaGreatDoorW.PrintWords

def RJRel (w : World) (l : List Tk) (gk : Nat) (vb vi : Value) (wl : World) : Prop :=
  ∃ i : Nat, vi = .int .i64 (i : Int) ∧ gk = l.length - i ∧ i ≤ l.length ∧ Below w.heap.size w wl ∧ wl.ownsRow w.heap.size 5 1 vb (joinB (l.take i)).length (Lib.byteCells (joinB (l.take i))) ∧ ∀ j, j < i → (wrTok (l.getD j zTk)).2 = []
theorem joinB_small {l : List Tk} {n : Nat} (_ : l.length ≤ n) : ∀ i, i ≤ l.length → (∀ j, j < i → (wrTok (l.getD j zTk)).2 = []) → (joinB (l.take i)).length ≤ 2001 * i := by
  intro i
  induction i with
  | zero => intro _ _; simp [joinB]
  | succ i ih =>
    intro hi hg
    have h1 := ih (by omega) (fun j hj => hg j (by omega))
    have h2 := joinB_step (l := l) (i := i) (by omega)
    have h3 := (wr_lim (hg i (by omega))).1
    omega
theorem byteCells_nums (l : List UInt8) : Lib.byteCells l = nums .u8 (l.map fun b => (b.toNat : Int)) := by
  unfold Lib.byteCells nums
  rw [List.map_map]
  rfl
set_option maxRecDepth 100000 in
set_option maxHeartbeats 4000000 in
theorem ref10_Join (l : List Tk) (A : Option Addr) (c : Nat) (w : World) (hC : kTk.C w A l.length l) (_ : l.length ≤ c) (hok : TksOk l) (hsm : l.length ≤ 1048576) (hG : Glob w) :
    Calls Tryz.prog 39 #[.slice A l.length c] w (StrR w (joined l)) := by
  have HC := Lib.hid hC
  have HOK := Lib.hid hok
  have hmax := Kd.C_max hC
  obtain ⟨i0, hi0, hz0, hz1, hz2⟩ := info_parts infoU8
  have hne := fun (w : World) (a : Option Addr) (n c : Nat) => run_neq_slice_nil_any (P := Tryz.prog) w 32 83 a n c 0 0 Tryz.underlying32
  have HG := Lib.hid hG
  clear hC hok hG
  go_enter Tryz.func39, Tryz.ntmps39
  go_wp2_with fail
  go_loopg [4, 5] l.length (fun gk vb vi wl => RJRel w l gk vb vi wl)
  case atStart =>
    exact ⟨0, rfl, by simp, Nat.zero_le _, Below.refl _ _, World.ownsRow_nil _ _ _ _, fun j hj => by omega⟩
  case round =>
    obtain ⟨i, rfl, hgk, hi, hBl, hB, hg⟩ := hrel
    have HM := Lib.hid hgk
    have HO := Lib.hid hB
    have HGd := Lib.hid hg
    have HB0 := Lib.hid hBl
    clear hgk hB hg
    by_cases hlt : i < l.length
    · have hCi := Kd.C_below HC.out hBl
      obtain ⟨ad, rfl, q0, q1, q2, q3⟩ := atTk hCi (i : Int) (by omega) (by omega)
      rw [Int.toNat_natCast] at q0 q1 q2 q3
      have hw := HOK.out i hlt
      have HW := Lib.hid (ref10_Write (l.getD i zTk) hw.1 hw.2.1 hw.2.2)
      have HT : rdTk l (i : Int) = l.getD i zTk := rfl
      rw [HT] at q0 q1 q2 q3
      obtain ⟨t, ht⟩ : ∃ t, t = l.getD i zTk := ⟨_, rfl⟩
      rw [← ht] at q0 q1 q2 q3 HW
      have HT := Lib.hid ht
      have x0 : (i : Int) < (l.length : Int) := by omega
      have x1 : (0 : Int) ≤ (i : Int) := by omega
      have x2 : decide ((i : Int) < (l.length : Int)) = true := decide_eq_true x0
      have s1 : IntKind.i64.wrap ((i : Int) + 1) = ((i + 1 : Nat) : Int) := by rw [wrap_small _ (by omega) (by omega)]; rfl
      rcases hR : wrTok t with ⟨x, E⟩
      rw [hR] at HW
      have HR := Lib.hid hR
      have HG1 := Lib.hid (HG.out.below hBl)
      clear hCi hw ht hR hBl
      cases E with
      | cons y ys =>
        go_wp2_with fail
        refine (HW.out _ HG1.out).mono ?_
        rintro e w2 ⟨fv, rfl, hF, hB2⟩
        obtain ⟨A2, c2, rfl, hc2, hC2⟩ := hF.reads
        obtain ⟨ad2, rfl⟩ : ∃ ad2, A2 = some ad2 := by
          obtain ⟨ad2, h2, _⟩ := atLk hC2 0 (Int.le_refl _) (by simp)
          exact ⟨ad2, h2⟩
        have HB2 := Lib.hid (trans_below HB0.out hB2)
        have HQ := Lib.hid (joined_at hlt (by rw [← HT.out, HR.out]; simp) HGd.out)
        clear hF hC2 hB2 hc2
        go_wp2_with fail
        refine (ref10_no _ _ _).mono ?_
        rintro e w3 ⟨v, rfl, hE, hB3⟩
        have HE := Lib.hid (hE.lower HB2.out.size)
        have HB3 := Lib.hid (trans_below HB2.out hB3)
        clear hE hB3
        go_wp2_with fail
        go_ret2
        exact ⟨_, by rw [HQ.out]; rfl, by rw [HQ.out]; exact HE.out, HB3.out⟩
      | nil =>
        have hlim := wr_lim (t := t) (by rw [HR.out])
        rw [HR.out] at hlim
        have hxs : x.size ≤ 2000 := hlim.1
        have hst := joinB_step hlt
        rw [← HT.out, HR.out] at hst
        simp only at hst
        have hjs := joinB_small hsm i (by omega) HGd.out
        go_wp2_with fail
        refine (HW.out _ HG1.out).mono ?_
        rintro e w2 ⟨fv, rfl, hF, hB2⟩
        obtain rfl : fv = .slice none 0 0 := hF.2 rfl
        have HB2 := Lib.hid (trans_below HB0.out hB2)
        have HO2 := Lib.hid (pw_own_below HO.out hB2)
        clear hF hB2 HO
        have HS := Lib.hid (show (joinB (l.take (i + 1))) = joinB (l.take i) ++ (x.data.toList ++ [32]) by rw [joinB_succ hlt, ← HT.out, HR.out])
        obtain ⟨J, hJ⟩ : ∃ J, J = joinB (l.take i) := ⟨_, rfl⟩
        rw [← hJ] at HO2 HS hjs
        have HJ := Lib.hid hJ
        have hJ1 : J.length ≤ 2001 * 1048576 := by omega
        clear hJ hst hlim
        go_wp2_with (at_builtin; refine Lib.wpList_append_own_string _ rfl _ _ 49 9 rfl w.heap.size 5 i0 Tryz.underlying49 Tryz.underlying9 hi0 hz0 hz1 hz2 _ _ _ rfl HO2.out x rfl ?c3 ?c4 ?c5 ?_)
        case c3 => unfold maxLen; omega
        case c4 => omega
        case c5 => exact HB2.out.size
        intro v1 w3 ho hg _
        have hB3 : Below w.heap.size w w3 := HB2.out.grown hg HB2.out.size (fun k hk => (HO2.out.lt k hk).1)
        have e1 : Lib.byteCells J ++ Lib.strCells x = nums .u8 ((J ++ x.data.toList).map fun b => (b.toNat : Int)) := by rw [Lib.strCells_eq, ← Lib.byteCells_append, byteCells_nums]
        have e2 : J.length + x.size = ((J ++ x.data.toList).map fun b => (b.toNat : Int)).length := by rw [List.length_map, List.length_append, Lib.size_eq]
        rw [e1, e2] at ho
        have HO3 := Lib.hid ho
        have HB3 := Lib.hid hB3
        have HL3 : Hid (((J ++ x.data.toList).map fun b => (b.toNat : Int)).length + [(32 : Int)].length ≤ 140737488355328) := Lib.hid (by rw [← e2]; simp; omega)
        clear ho hg hB3 e1 e2
        go_wp2_with (at_builtin; refine append_lit (w0 := w) w.heap.size rfl (.tmp 28) (.tmp 29) 49 5 rfl Tryz.underlying49 infoU8 v1 ((J ++ x.data.toList).map fun b => (b.toNat : Int)) [32] rfl ?hx ?hO ?hB ?hbs ?hl ?_; (case hx => first | rfl | (simp [Act.eval]; done)); (case hO => exact HO3.out); (case hB => exact HB3.out); (case hbs => exact HB3.out.size); (case hl => exact HL3.out); intro v2 w5 ho hb hg; have HO5 := Lib.hid ho; have HB5 := Lib.hid hb; clear ho hb hg)
        go_roundg (l.length - (i + 1))
        case measure => rw [HM.out]; omega
        case rel =>
          have e3 : Lib.byteCells (joinB (l.take (i + 1))) = nums .u8 (((J ++ x.data.toList).map fun (b : UInt8) => (b.toNat : Int)) ++ [32]) := by
            rw [HS.out, byteCells_nums, ← List.append_assoc, List.map_append (l₂ := [32])]
            rfl
          have e4 : (joinB (l.take (i + 1))).length = (((J ++ x.data.toList).map fun (b : UInt8) => (b.toNat : Int)) ++ [32]).length := by
            rw [HS.out]
            simp
          exact ⟨i + 1, by go_num, rfl, by omega, HB5.out, by rw [e3, e4]; exact HO5.out, fun j hj => by
            by_cases hji : j = i
            · rw [hji, ← HT.out, HR.out]
            · exact HGd.out j (by omega)⟩
    · have hil : i = l.length := by omega
      subst hil
      have hd9 : decide ((l.length : Int) < (l.length : Int)) = false := decide_eq_false (by omega)
      have hjs := joinB_small hsm l.length (Nat.le_refl _) HGd.out
      have HJ := Lib.hid (joined_all HGd.out)
      rw [List.take_length] at HO hjs
      have HB2 := HB0
      have ho := HO.out
      rw [byteCells_nums, show (joinB l).length = ((joinB l).map fun (b : UInt8) => (b.toNat : Int)).length by rw [List.length_map]] at ho
      have hcv := own_string (P := Tryz.prog) (src := 49) (dst := 9) Tryz.underlying49 Tryz.underlying5 Tryz.underlying9 ho
      obtain ⟨A8, c8, rfl⟩ : ∃ A8 c8, u4 = .slice A8 (joinB l).length c8 := by
        rcases HO.out.2 with ⟨hv, hn⟩ | ⟨g, cap, cur, hv, _⟩
        · exact ⟨_, _, by rw [hv, hn]⟩
        · exact ⟨_, _, hv⟩
      by_cases hlong : 65536 < (joinB l).length
      · have d1 : decide (((joinB l).length : Int) > 65536) = true := decide_eq_true (by omega)
        have HQ : Hid (joined l = (⟨#[]⟩, [⟨nLex, 0, 4⟩])) := Lib.hid (by rw [HJ.out, if_pos hlong])
        clear hlong HO ho hcv hBl
        go_wp2_with fail
        refine (ref10_no _ _ _).mono ?_
        rintro e w3 ⟨v, rfl, hE, hB3⟩
        have HE := Lib.hid (hE.lower HB2.out.size)
        have HB3 := Lib.hid (trans_below HB2.out hB3)
        clear hE hB3
        go_wp2_with fail
        go_ret2
        exact ⟨_, by rw [HQ.out]; rfl, by rw [HQ.out]; exact HE.out, HB3.out⟩
      · have d1 : decide (((joinB l).length : Int) > 65536) = false := decide_eq_false (by omega)
        have HQ : Hid (joined l = (⟨(joinB l).toArray⟩, [])) := Lib.hid (by rw [HJ.out, if_neg hlong])
        have e8 : strOfNums ((joinB l).map fun b => (b.toNat : Int)) = ⟨(joinB l).toArray⟩ := by
          unfold strOfNums
          congr 2
          rw [List.map_map]
          conv => rhs; rw [← List.map_id (joinB l)]
          congr 1
          funext b
          simp
        rw [e8] at hcv
        clear hlong HO ho hBl e8
        go_wp2_with fail
        go_ret2
        exact ⟨_, by rw [HQ.out]; rfl, by rw [HQ.out]; exact LnIs.nil _ _, HB2.out⟩
end Go.Proofs.YtgapeacflkfmdaaGreatDoor
namespace Go.Proofs.YtgapeacflkfmdaaGreatDoor
open Go.RowKit Go.Proofs.YtgapeacflkfmdaaGreatDoorW.PrintWords

/-- The tokens l stand written in u from p on, blanks and comments between them. -/
inductive Lay (u : ByteArray) : Nat → List Tk → Prop
  | nil {p : Nat} : skipEnd u p = u.size → Lay u p []
  | cons {p q : Nat} {t : Tk} {x : ByteArray} {l : List Tk} : skipEnd u p = q → wrTok t = (x, []) → Ag x 0 u q x.size → Lay u (q + x.size) l → Lay u p (t :: l)
theorem Lay.skip {u : ByteArray} {p p' : Nat} {l : List Tk} (h : Lay u p l) (he : skipEnd u p' = skipEnd u p) : Lay u p' l := by
  cases h with
  | nil h1 => exact .nil (he.trans h1)
  | cons h1 h2 h3 h4 => exact .cons (he.trans h1) h2 h3 h4
theorem tkEq_at (k : Int) (x : ByteArray) (n a b : Int) : tkEq false ⟨k, x, n, a⟩ ⟨k, x, n, b⟩ = true := by simp [tkEq]
theorem Lay.scan {u : ByteArray} {p : Nat} {l : List Tk} (h : Lay u p l) : ∃ M, Tr u (skipEnd u p) M ∧ sameTks false M l = true := by
  induction h with
  | nil h1 => exact ⟨[], by rw [h1]; exact Tr.nil (Nat.le_refl _), rfl⟩
  | @cons p q t x l h1 h2 h3 h4 ih =>
    obtain ⟨M, hT, hS⟩ := ih
    obtain ⟨ht, hpos⟩ := wr_scan h2
    have hl := h3.l'
    have ht' := tokenAt_loc h3 hpos ht (by omega)
    rw [Nat.sub_zero] at ht'
    refine ⟨_ :: M, by rw [h1]; exact Tr.cons (t := ⟨t.kd, t.tx, t.nm, 0⟩) (by omega) ht' hT, ?_⟩
    rw [sameTks, hS, Bool.and_true]
    exact tkEq_at _ _ _ _ _
theorem bt_list {u : ByteArray} {A R : List UInt8} {c : UInt8} (h : u.data.toList = A ++ c :: R) : A.length < u.size ∧ bt u (A.length : Nat) = (c.toNat : Int) := by
  have hb : bs u = A.map (fun c => (c.toNat : Int)) ++ (c.toNat : Int) :: R.map fun c => (c.toNat : Int) := by rw [bs_map, h]; simp
  have := at_list hb
  rw [List.length_map] at this
  exact ⟨this.1, this.2.1⟩
/-- A token's text in the midst of a text, something soft behind it. -/
theorem ag_mid {u x : ByteArray} {A R : List UInt8} (h : u.data.toList = A ++ (x.data.toList ++ R)) (hs : Soft u (A.length + x.size)) : Ag x 0 u A.length x.size := by
  have hsz : u.size = A.length + (x.size + R.length) := by rw [Lib.size_eq, h, List.length_append, List.length_append, ← Lib.size_eq]
  refine ⟨by omega, by omega, fun j hj => ?_, hs⟩
  have hj2 : j < x.data.toList.length := by rw [← Lib.size_eq]; exact hj
  have e1 : u.data.toList = (A ++ x.data.toList.take j) ++ x.data.toList[j] :: (x.data.toList.drop (j + 1) ++ R) := by
    rw [h, List.append_assoc]
    congr 1
    rw [← List.cons_append, ← List.append_assoc, ← List.drop_eq_getElem_cons hj2, List.take_append_drop]
  have h1 := (bt_list e1).2
  have e2 : x.data.toList = x.data.toList.take j ++ x.data.toList[j] :: x.data.toList.drop (j + 1) := by rw [← List.drop_eq_getElem_cons hj2, List.take_append_drop]
  have h2 := (bt_list e2).2
  rw [List.length_append, List.length_take, Nat.min_eq_left (by omega)] at h1
  rw [List.length_take, Nat.min_eq_left (by omega)] at h2
  rw [h1, Nat.zero_add, h2]
theorem skip_hard {u : ByteArray} {p : Nat} (h : softB (bt u (p : Int)) = false) : skipEnd u p = p := by
  by_cases hz : skipEnd u p = p
  · exact hz
  · have := (skipEnd_soft hz).2
    rw [h] at this
    cases this
theorem ag_start {x u : ByteArray} {q : Nat} {t : Tk} (h : Ag x 0 u q x.size) (hw : wrTok t = (x, [])) : skipEnd u q = q := by
  obtain ⟨ht, hpos⟩ := wr_scan hw
  refine skip_hard ?_
  rw [h.head hpos]
  exact tok_hard hpos ht
theorem lay_join {u : ByteArray} : ∀ (l : List Tk) (A : List UInt8), (∀ t ∈ l, (wrTok t).2 = []) → u.data.toList = A ++ joinB l → Lay u A.length l
  | [], A, _, h => .nil (by
    have hsz : u.size = A.length := by rw [Lib.size_eq, h]; simp [joinB]
    rw [← hsz]
    exact skipEnd_out (Nat.le_refl _))
  | t :: l, A, hw, h => by
    have hwt := hw t (List.mem_cons_self ..)
    have hx : wrTok t = ((wrTok t).1, []) := by rw [← hwt]
    obtain ⟨x, hxx⟩ : ∃ x, x = (wrTok t).1 := ⟨_, rfl⟩
    have h' : u.data.toList = A ++ (x.data.toList ++ (32 :: joinB l)) := by rw [h, hxx]; simp [joinB]
    rw [← hxx] at hx
    have h32 : u.data.toList = (A ++ x.data.toList) ++ 32 :: joinB l := by rw [h', List.append_assoc]
    have hb := bt_list h32
    rw [List.length_append, ← Lib.size_eq] at hb
    have hA := ag_mid h' (.inr (by rw [hb.2]; rfl))
    have ih := lay_join l (A ++ x.data.toList ++ [32]) (fun t ht => hw t (List.mem_cons_of_mem _ ht)) (by rw [h32]; simp)
    refine .cons (ag_start hA hx) hx hA (ih.skip ?_)
    rw [List.length_append, List.length_append, ← Lib.size_eq, List.length_singleton]
    exact (skipEnd_blank hb.1 (by rw [hb.2]; rfl)).symm
/-- THE LAW LexBack. -/
theorem lex_back {l : List Tk} {x : ByteArray} (h : joined l = (x, [])) : ∃ M, lexScan x = (M, []) ∧ sameTks false M l = true := by
  unfold joined at h
  split at h
  · simp at h
  · rename_i hn
    rw [List.findIdx?_eq_none_iff] at hn
    split at h
    · simp at h
    · simp only [Prod.mk.injEq, and_true] at h
      have hL := lay_join (u := x) l [] (fun t ht => by simpa using hn t ht) (by rw [← h]; rfl)
      obtain ⟨M, hT, hS⟩ := hL.scan
      exact ⟨M, tr_lexScan (by rw [← h]; show (joinB l).length ≤ 65536; omega) hT, hS⟩
theorem joined_len (l : List Tk) : (joined l).2.length ≤ 1 := by
  unfold joined
  repeat' split
  all_goals simp
theorem joined_none {l : List Tk} (h : (joined l).2 ≠ []) : (joined l).1 = ⟨#[]⟩ := by
  unfold joined at h ⊢
  split
  · rfl
  · split
    · rfl
    · rename_i h1 h2
      simp [h1, h2] at h

set_option maxRecDepth 100000 in
set_option maxHeartbeats 4000000 in
theorem walk_LexJoins (l : List Tk) (A : Option Addr) (c : Nat) (w : World) (hC : kTk.C w A l.length l) (hc : l.length ≤ c) (hok : TksOk l) (hsm : l.length ≤ 1048576) (hG : Glob w) :
    Calls Tryz.prog 13 #[.slice A l.length c] w (TruePost w) := by
  have HG := Lib.hid hG
  have hlen := joined_len l
  have HJ1 := Lib.hid (lex_Join l A c w hC hc hok hG)
  have HJ2 := Lib.hid (fun (w1 : World) (hb : Below w.heap.size w w1) => ref10_Join l A c w1 (Kd.C_below hC hb) hc hok hsm (hG.below hb))
  obtain ⟨R, hR⟩ : ∃ R, R = joined l := ⟨_, rfl⟩
  rw [← hR] at hlen HJ1 HJ2
  clear hG hR hC hok
  go_enter Tryz.func13, Tryz.ntmps13
  go_wp2_with fail
  refine HJ1.out.mono ?_
  rintro e w1 ⟨ev, rfl, hE, hB1⟩
  have HG1 := Lib.hid (HG.out.below hB1)
  have HE := Lib.hid hE
  have HB1 := Lib.hid hB1
  clear hE hB1
  go_wp2_with fail
  refine (HJ2.out _ HB1.out).mono ?_
  rintro e w2 ⟨fv, rfl, hF, hB2⟩
  have HG2 := Lib.hid (HG1.out.below hB2)
  have HE2 := Lib.hid (HE.out.below hB2)
  have HB2 := Lib.hid (trans_below HB1.out hB2)
  obtain ⟨A2, c2, rfl, hc2, hC2⟩ := hF.reads
  have HC2 := Lib.hid hC2
  have hss : (R.1.toList == R.1.toList) = true := beq_self_eq_true _
  clear hF hB2 hC2 hc2
  go_wp2_with fail
  refine (Refused_in R.2 R.2 ev A2 c2 HE2.out (Nat.le_trans hlen (by decide)) HC2.out (Nat.le_trans hlen (by decide)) HG2.out).mono ?_
  rw [show refusedOf R.2 R.2 = true from decide_eq_true rfl]
  rintro e w4 ⟨rfl, hB4⟩
  have HG4 := Lib.hid (HG2.out.below hB4)
  have HB4 := Lib.hid (trans_below HB2.out hB4)
  clear hB4
  go_wp2_with fail
  refine (awake_any _ HG4.out).mono ?_
  rintro e w5 ⟨rfl, hB5⟩
  have HB5 := Lib.hid (trans_below HB4.out hB5)
  clear hB5
  go_wp2_with fail
  go_ret
  exact ⟨rfl, HB5.out⟩

set_option maxRecDepth 100000 in
set_option maxHeartbeats 4000000 in
theorem walk_LexBack (l : List Tk) (A : Option Addr) (c : Nat) (w : World) (hC : kTk.C w A l.length l) (hc : l.length ≤ c) (hok : TksOk l) (hsm : l.length ≤ 1048576) (hG : Glob w) :
    Calls Tryz.prog 14 #[.slice A l.length c] w (TruePost w) := by
  have HG := Lib.hid hG
  have HC := Lib.hid hC
  have HJ1 := Lib.hid (lex_Join l A c w hC hc hok hG)
  have HJ2 := Lib.hid (fun (w1 : World) (hb : Below w.heap.size w w1) => ref10_Join l A c w1 (Kd.C_below hC hb) hc hok hsm (hG.below hb))
  have hnone := @joined_none l
  have hlaw := @lex_back l
  have hne := fun (w : World) (a : Option Addr) (n c : Nat) => run_neq_slice_nil_any (P := Tryz.prog) w 32 83 a n c 0 0 Tryz.underlying32
  rcases hR : joined l with ⟨x, E⟩
  rw [hR] at hnone HJ1 HJ2 hlaw
  clear hG hR hC hok
  cases E with
  | cons y ys =>
    have hx0 : x = ⟨#[]⟩ := hnone (by simp)
    subst hx0
    clear hnone hlaw
    go_enter Tryz.func14, Tryz.ntmps14
    go_wp2_with fail
    refine HJ1.out.mono ?_
    rintro e w1 ⟨ev, rfl, hE, hB1⟩
    have HG1 := Lib.hid (HG.out.below hB1)
    obtain ⟨be, u, rfl, _⟩ := hE
    have HB1 := Lib.hid hB1
    clear hB1
    go_wp2_with fail
    refine (HJ2.out _ HB1.out).mono ?_
    rintro e w2 ⟨fv, rfl, hF, hB2⟩
    have HG2 := Lib.hid (HG1.out.below hB2)
    have HB2 := Lib.hid (trans_below HB1.out hB2)
    obtain ⟨A2, c2, rfl, hc2, hC2⟩ := hF.reads
    obtain ⟨ad2, rfl⟩ : ∃ ad2, A2 = some ad2 := by
      obtain ⟨ad2, h2, _⟩ := atLk hC2 0 (Int.le_refl _) (by simp)
      exact ⟨ad2, h2⟩
    clear hF hB2 hC2 hc2
    go_wp2_with fail
    refine (awake_any _ HG2.out).mono ?_
    rintro e w5 ⟨rfl, hB5⟩
    have HB5 := Lib.hid (trans_below HB2.out hB5)
    clear hB5
    go_wp2_with fail
    go_ret
    exact ⟨rfl, HB5.out⟩
  | nil =>
    obtain ⟨M, hM, hS⟩ := hlaw rfl
    have hsz : x.size ≤ 65536 := (lexScan_tr hM).1
    have HS := Lib.hid (lex_Scan x (by omega))
    rw [hM] at HS
    have HSm := Lib.hid hS
    clear hnone hlaw hM hS hsz
    go_enter Tryz.func14, Tryz.ntmps14
    go_wp2_with fail
    refine HJ1.out.mono ?_
    rintro e w1 ⟨ev, rfl, hE, hB1⟩
    have HG1 := Lib.hid (HG.out.below hB1)
    obtain rfl : ev = .nilIface := hE
    have HB1 := Lib.hid hB1
    clear hB1
    go_wp2_with fail
    refine (HS.out _ HG1.out).mono ?_
    rintro e w2 ⟨mv, fv, rfl, hM, hF, hB2⟩
    obtain rfl : fv = .nilIface := hF
    have HG2 := Lib.hid (HG1.out.below hB2)
    have HB2 := Lib.hid (trans_below HB1.out hB2)
    obtain ⟨A2, c2, rfl, hc2, hC2⟩ := Kd.R_reads hM
    have HC2 := Lib.hid hC2
    have HL2 := Lib.hid hc2
    have HC1 := Lib.hid (Kd.C_below HC.out HB2.out)
    clear hM hB2 hC2 hc2
    go_wp2_with fail
    refine (ref10_Same false M l A2 A c2 c _ HC2.out HL2.out HC1.out hc).mono ?_
    rw [HSm.out]
    rintro e w3 ⟨rfl, hD⟩
    have HG3 := Lib.hid (HG2.out.below hD.below)
    have HB3 := Lib.hid (trans_below HB2.out hD.below)
    clear hD
    go_wp2_with fail
    refine (awake_any _ HG3.out).mono ?_
    rintro e w5 ⟨rfl, hB5⟩
    have HB5 := Lib.hid (trans_below HB3.out hB5)
    clear hB5
    go_wp2_with fail
    go_ret
    exact ⟨rfl, HB5.out⟩
end Go.Proofs.YtgapeacflkfmdaaGreatDoor
