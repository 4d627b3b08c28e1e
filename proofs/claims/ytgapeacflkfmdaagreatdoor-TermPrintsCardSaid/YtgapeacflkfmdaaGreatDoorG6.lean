/-
  term.write, Print. term's reader: its box, small steps. term's reader: text, take, digits. term's reader: number, whole.
-/
import Derived.Test.YtgapeacflkfmdaaGreatDoorG5
import Derived.Test.YtgapeacflkfmdaaGreatDoorG3
import Derived.Test.YtgapeacflkfmdaaGreatDoorG2
import Derived.Test.YtgapeacflkfmdaaGreatDoorKShelf
import Derived.Test.YtgapeacflkfmdaaGreatDoorG1
import Derived.Deep.RegionHeld3
import Derived.Deep.DrawnRows
import Derived.Laws.Runes
import Derived.WalkMore
set_option linter.unusedSimpArgs false
namespace Go.Proofs.YtgapeacflkfmdaaGreatDoor
open Go.RowKit Go.Sort Go.Proofs.YtgapeacflkfmdaaGreatDoorW.PrintWords Tb

theorem numsTxt_snoc {ns : List Int} {i : Nat} (h : i < ns.length) : numsTxt (ns.take (i + 1)) = numsTxt (ns.take i) ++ (46 :: itoaI ns[i]) := by
  unfold numsTxt
  rw [List.take_succ_eq_append_getElem h, List.flatMap_append]
  simp
theorem rd_get {ns : List Int} {i : Nat} (h : i < ns.length) : rd ns (i : Int) = ns[i] := by
  unfold rd
  rw [Int.toNat_natCast, List.getD_eq_getElem?_getD, List.getElem?_eq_getElem h]
  rfl
theorem numsTake_len (ns : List Int) (h : ∀ n ∈ ns, isU32 n) (i : Nat) : (numsTxt (ns.take i)).length ≤ 22 * ns.length := by
  have h1 := nums_len (ns.take i) (fun n hn => h n (List.mem_of_mem_take hn))
  have h2 : (ns.take i).length ≤ ns.length := by rw [List.length_take]; omega
  omega
/-- What stands ahead of the k-th part. -/
def wrPre (l : List Int) (o : Int) (ts : List Tm) (k : Nat) : List Int := l ++ o :: sepPre [44] ((ts.take k).map (txtT []))
def wrCur (l : List Int) (o : Int) (ts : List Tm) (k : Nat) : List Int := l ++ o :: sepBy [44] ((ts.take k).map (txtT []))
theorem wrPre_zero (l : List Int) (o : Int) (ts : List Tm) : wrPre l o ts 0 = wrCur l o ts 0 := by
  unfold wrPre wrCur sepPre
  rw [List.take_zero, List.map_nil, if_pos rfl]
  rfl
theorem wrPre_pos {l : List Int} {o : Int} {ts : List Tm} {k : Nat} (h0 : 0 < k) (h : k ≤ ts.length) : wrPre l o ts k = wrCur l o ts k ++ [44] := by
  unfold wrPre wrCur sepPre
  rw [if_neg (fun e => by have := congrArg List.length e; rw [List.length_map, List.length_take, List.length_nil] at this; omega)]
  simp
theorem wrCur_succ {l : List Int} {o : Int} {ts : List Tm} {k : Nat} (h : k < ts.length) : wrCur l o ts (k + 1) = wrPre l o ts k ++ txtT [] ts[k] := by
  unfold wrPre wrCur
  rw [List.take_succ_eq_append_getElem h, List.map_append, List.map_cons, List.map_nil, sepBy_snoc]
  simp
theorem wrPre_len {l : List Int} {o : Int} {ts : List Tm} {k n : Nat} (h : k < n) (hn : n ≤ ts.length) : (wrPre l o ts k).length + (txtT [] (ts[k]'(by omega))).length ≤ l.length + 1 + (sepBy [44] ((ts.take n).map (txtT []))).length := by
  have e : (ts.take n).map (txtT []) = (ts.take k).map (txtT []) ++ txtT [] (ts[k]'(by omega)) :: (((ts.take n).drop (k + 1)).map (txtT [])) := by
    have h1 : ts.take n = ts.take k ++ ts[k]'(by omega) :: (ts.take n).drop (k + 1) := by
      have h2 : (ts.take n).take k = ts.take k := by rw [List.take_take, Nat.min_eq_left (by omega)]
      have h3 : k < (ts.take n).length := by rw [List.length_take]; omega
      have h4 := List.take_append_drop k (ts.take n)
      rw [List.drop_eq_getElem_cons h3, h2] at h4
      rw [List.getElem_take] at h4
      exact h4.symm
    calc (ts.take n).map (txtT []) = (ts.take k ++ ts[k]'(by omega) :: (ts.take n).drop (k + 1)).map (txtT []) := by rw [← h1]
      _ = _ := by rw [List.map_append, List.map_cons]
  rw [e, sepBy_split]
  unfold wrPre
  simp only [List.length_append, List.length_cons]
  omega
theorem WrS.tmBox {W w1 : World} {B b n : Nat} {v : Value} {xs : List Value} {a : Tm} {v4 v5 : Value} (hb : W.heap[b]? = some (.cells #[.int .i64 a.kd, .int .i64 a.it, .string a.tx, .int .u32 a.cr, v4, v5] tyTm (0, 0))) (ho : W.ownsRow B tyU8 1 v n xs) (hg : W.grownBy w1 v.ownBlock) : w1.heap[b]? = some (.cells #[.int .i64 a.kd, .int .i64 a.it, .string a.tx, .int .u32 a.cr, v4, v5] tyTm (0, 0)) := by
  rw [hg.block _ (Array.getElem?_eq_some_iff.1 hb).1 ?_]
  · exact hb
  · intro hk
    obtain ⟨c, fz, hc⟩ := own_kind ho _ hk.symm
    rw [hb] at hc
    injection hc with hc
    injection hc with _ hc
    exact absurd hc (by decide)
theorem tmAt_of_box {W : World} {b : Nat} {a : Tm} {v4 v5 : Value} (e : W.heap[b]? = some (.cells #[.int .i64 a.kd, .int .i64 a.it, .string a.tx, .int .u32 a.cr, v4, v5] tyTm (0, 0))) : TmAt W b a v4 v5 := by
  constructor <;> simp [World.cell?, World.frozen?, e]
set_option maxRecDepth 100000 in
set_option maxHeartbeats 8000000 in
theorem term_write (w0 : World) (hG0 : Glob w0) (B : Nat) (hB0 : w0.heap.size ≤ B) (t : Tm) : ∀ (A4 A5 : Option Addr) (c4 c5 : Nat) (l : List Int) (v : Value) (w : World), TmR w0 t A4 c4 A5 c5 → Below w0.heap.size w0 w → w.ownsRow B tyU8 1 v l.length (nums .u8 l) → B ≤ w.heap.size →
    (∃ D n m, (measT t D n m).1 = []) → smT t = true → wfT t = true → l.length + (txtT [] t).length + 1300 ≤ 140737488355328 →
    Calls Tryz.prog 56 #[v, tmV t (.slice A4 t.nums.length c4) (.slice A5 t.args.length c5)] w (WrPost w B (l ++ txtT [] t)) := by
  induction t using Tm.ind with
  | h t ih =>
    intro A4 A5 c4 c5 l v w hR hB hO hBw hms hsm hwf hlen
    have HMS := Lib.hid hms
    obtain ⟨D9, n9, m9, hms⟩ := hms
    have hok := meas_ok t D9 n9 m9 hms
    obtain ⟨_, hf, hml, _, _⟩ := meas_parts hms
    have hit : t.kd = 1 → small64 t.it := fun hk => by have := form_int hf hk; unfold small64; omega
    have HML : Hid (∀ a ∈ t.args, ∃ D n m, (measT a D n m).1 = []) := Lib.hid fun a ha => by obtain ⟨n', m', h⟩ := measL_mem hml a ha; exact ⟨_, n', m', h⟩
    clear hms hf hml
    have HIH := Lib.hid ih
    have HR := Lib.hid hR
    have HB := Lib.hid hB
    have HG0 := Lib.hid hG0
    have HSM := Lib.hid hsm
    have HWF := Lib.hid hwf
    have HOK := Lib.hid hok
    have hkd := shape_kd hok
    obtain ⟨R, hR0⟩ : ∃ R, R = txtT [] t := ⟨_, rfl⟩
    rw [← hR0] at hlen
    rw [← hR0]
    rw [txtT_eq] at hR0
    have HS1 := Lib.hid (WrS.start t (.slice A4 t.nums.length c4) (.slice A5 t.args.length c5) hO hBw)
    have HGB : Hid (GlobB w B) := Lib.hid (GlobB.up hG0 hB hB0)
    have HOKV : Hid (∃ A c, v = .slice A l.length c) := by
      obtain ⟨A, c, h, _⟩ := own_reads hO
      exact Lib.hid ⟨A, c, h⟩
    clear ih hR hB hO hG0 hsm hwf hok
    unfold tmV
    go_enter Tryz.func56, Tryz.ntmps56
    go_upto_region 1 with (fail)
    obtain ⟨w1, hw1⟩ : ∃ W, W = w.alloc (.cells #[.int .i64 t.kd, .int .i64 t.it, .string t.tx, .int .u32 t.cr, .slice A4 t.nums.length c4, .slice A5 t.args.length c5] 27) := ⟨_, rfl⟩
    rw [← hw1] at HS1
    rw [← hw1]
    clear hw1
    have t0 := HS1.out.tm.c0
    have t1 := HS1.out.tm.c1
    have t2 := HS1.out.tm.c2
    have t3 := HS1.out.tm.c3
    have t4 := HS1.out.tm.c4
    have t5 := HS1.out.tm.c5
    rcases (show t.kd = 1 ∨ t.kd = 2 ∨ t.kd = 3 ∨ t.kd = 4 ∨ t.kd = 5 ∨ t.kd = 6 ∨ t.kd = 7 by omega) with hk | hk | hk | hk | hk | hk | hk
    · have d1 : (t.kd == 1) = true := beq_iff_eq.2 hk
      rw [if_pos hk] at hR0
      have HQ := Lib.hid hR0
      have hi := hit hk
      have HC := Lib.hid (app_int t.it hi.1 hi.2 HS1.out.own HS1.out.base (HGB.out.trans HS1.out.below) (by omega))
      clear hR0 hit hk hkd hi
      go_wp2_with fail
      refine HC.out.mono ?_
      rintro e w2 ⟨v2, rfl, h2, h3, h4⟩
      have HS2 := Lib.hid (HS1.out.call h2 h3 h4)
      clear h2 h3 h4 HC t0 t1 t2 t3 t4 t5
      go_wp2_with fail
      go_ret
      rw [HQ.out]
      exact HS2.out.done
    · have d1 : (t.kd == 1) = false := beq_eq_false_iff_ne.2 (by omega)
      have d2 : (t.kd == 2) = true := beq_iff_eq.2 hk
      rw [if_neg (by omega), if_pos hk] at hR0
      have HQ := Lib.hid hR0
      have hql : (bs (quoted t.tx).1).length ≤ 1022 := by rw [bs_len]; exact quoted_size _
      have HC := Lib.hid (term_quoted t.tx (sm_tx HSM.out) HS1.out.own HS1.out.base (HGB.out.trans HS1.out.below) (by omega))
      clear hR0 hit hk hkd hql
      go_wp2_with fail
      refine HC.out.mono ?_
      rintro e w2 ⟨v2, rfl, h2, h3, h4⟩
      have HS2 := Lib.hid (HS1.out.call h2 h3 h4)
      clear h2 h3 h4 HC t0 t1 t2 t3 t4 t5
      go_wp2_with fail
      go_ret
      rw [HQ.out]
      exact HS2.out.done
    · have d1 : (t.kd == 1) = false := beq_eq_false_iff_ne.2 (by omega)
      have d2 : (t.kd == 2) = false := beq_eq_false_iff_ne.2 (by omega)
      have d3 : (t.kd == 3) = true := beq_iff_eq.2 hk
      rw [if_neg (by omega), if_neg (by omega), if_pos hk] at hR0
      have HQ := Lib.hid hR0
      have HN : Hid (t.nums.length ≤ 3) := Lib.hid (by have := shape_ref HOK.out hk; omega)
      have HL : Hid (l.length + 4 ≤ 140737488355328) := Lib.hid (by omega)
      clear hR0 hit hk hkd
      go_upto_region 10 with (at_builtin; refine print_append_str (w0 := w1) B rfl (.tmp 31) _ 49 9 5 rfl Tryz.underlying49 Tryz.underlying9 infoU8 v l ⟨#[35, 82, 101, 102]⟩ rfl rfl ?hO ?hB ?hbs ?hl ?_; (case hO => exact HS1.out.own); (case hB => exact Below.refl _ _); (case hbs => exact HS1.out.base); (case hl => exact HL.out); intro v3 w3 ho hb hg; have HS3 : Hid (WrS w w3 B t (.slice A4 t.nums.length c4) (.slice A5 t.args.length c5) (l ++ [35, 82, 101, 102]) v3) := Lib.hid (HS1.out.app ho hb hg); clear ho hb hg t0 t1 t2 t3 t4 t5; have t0 := HS3.out.tm.c0; have t1 := HS3.out.tm.c1; have t2 := HS3.out.tm.c2; have t3 := HS3.out.tm.c3; have t4 := HS3.out.tm.c4; have t5 := HS3.out.tm.c5)
      have HL1 : Hid (((l ++ [35, 82, 101, 102])).length + [(60 : Int)].length ≤ 140737488355328) := Lib.hid (by simp only [List.length_append, List.length_cons, List.length_nil]; omega)
      go_wp2_with (at_builtin; refine append_lit (w0 := w3) B rfl (.tmp 33) (.tmp 34) 49 5 rfl Tryz.underlying49 infoU8 v3 ((l ++ [35, 82, 101, 102])) [60] rfl ?hx ?hO ?hB ?hbs ?hl ?_; (case hx => first | rfl | (simp [Act.eval]; done)); (case hO => exact HS3.out.own); (case hB => exact Below.refl _ _); (case hbs => exact HS3.out.base); (case hl => exact HL1.out); intro v1 w5 ho hb hg; have HS5 := Lib.hid (HS3.out.app ho hb hg); have HK5 := Lib.hid ((Lib.OthersKept.refl tyU8 none w3).grown hg (own_kind HS3.out.own)); clear ho hb hg t0 t1 t2 t3 t4 t5; have t0 := HS5.out.tm.c0; have t1 := HS5.out.tm.c1; have t2 := HS5.out.tm.c2; have t3 := HS5.out.tm.c3; have t4 := HS5.out.tm.c4; have t5 := HS5.out.tm.c5)
      have hl6 : ((l ++ [35, 82, 101, 102]) ++ [60]).length + 1200 ≤ 140737488355328 := by simp only [List.length_append, List.length_cons, List.length_nil]; omega
      generalize hq6 : (l ++ [35, 82, 101, 102]) ++ [60] = l6 at HS5 hl6
      have HL6 := Lib.hid hq6
      clear hq6 HL1
      have HC := Lib.hid (term_quoted t.tx (sm_tx HSM.out) HS5.out.own HS5.out.base (HGB.out.trans HS5.out.below) (by omega))
      refine HC.out.mono ?_
      rintro e w6 ⟨v6, rfl, h2, h3, h4⟩
      have HS6 := Lib.hid (HS5.out.call h2 h3 h4)
      clear t0 t1 t2 t3 t4 t5
      clear h2 h3 h4 HC HS5
      have hl7 : (l6 ++ bs (quoted t.tx).1).length + 170 ≤ 140737488355328 := by have := quoted_size t.tx; rw [List.length_append, bs_len]; omega
      generalize hq7 : l6 ++ bs (quoted t.tx).1 = l7 at HS6 hl7
      have HL7 := Lib.hid hq7
      clear hq7
      have t0 := HS6.out.tm.c0
      have t1 := HS6.out.tm.c1
      have t2 := HS6.out.tm.c2
      have t3 := HS6.out.tm.c3
      have t4 := HS6.out.tm.c4
      have t5 := HS6.out.tm.c5
      obtain ⟨ns, hns⟩ : ∃ ns, ns = t.cr :: t.nums := ⟨_, rfl⟩
      have hu := wf_nums HWF.out
      rw [← hns] at hu
      have HNS := Lib.hid hns
      have HU := Lib.hid hu
      have hnl : ns.length = t.nums.length + 1 := by rw [hns, List.length_cons]
      have HNL := Lib.hid hnl
      have hn4 : t.nums.length ≤ 3 := HN.out
      clear hns hu hnl
      have hlt6 : w.heap.size < w6.heap.size := HS6.out.tm.lt
      have HBA := Lib.hid (below_alloc (Below.refl w6.heap.size w6) (.cells #[.int .u32 t.cr] tyU32))
      have HRD : Hid (ReadsInt (w6.alloc (.cells #[.int .u32 t.cr] tyU32)) .u32 A4 t.nums.length t.nums) := Lib.hid (Kd.reads_of_C (HR.out.below ((HB.out.trans (HS6.out.below.mono hB0)).trans (HBA.out.mono (Nat.le_trans hB0 HS6.out.base)))).g4)
      have HLZ : Hid (([t.cr].length + t.nums.length) * 4 ≤ 140737488355328) := Lib.hid (by have := HN.out; simp only [List.length_cons, List.length_nil]; omega)
      go_wp2_with (at_builtin; refine print_append_row (w0 := w6) w6.heap.size rfl (.tmp 42) (.tmp 44) 24 23 .u32 4 rfl Tryz.underlying24 infoU32 (by decide) (.slice (some ⟨w6.heap.size, 0, none⟩) 1 1) [t.cr] t.nums A4 t.nums.length c4 rfl rfl ?hO ?hR ?hB ?hbs ?hl ?_; (case hO => exact own_lit w6 w6.heap.size 23 .u32 [t.cr] (Nat.le_refl _) (by simp)); (case hR => exact HRD.out); (case hB => exact HBA.out); (case hbs => exact HBA.out.size); (case hl => exact HLZ.out); intro v8 w8 ho hb hg _; obtain ⟨g8, c8, rfl, hg8, hg9⟩ := ho.form (by simp); have HN8 : Hid (w8.ownsRow w6.heap.size tyU32 1 (.slice (some ⟨g8, 0, none⟩) (t.nums.length + 1) c8) (t.nums.length + 1) (nums .u32 ns)) := Lib.hid (by rw [HNS.out, show t.nums.length + 1 = ([t.cr] ++ t.nums).length by rw [List.length_append, List.length_singleton]; omega]; exact ho); have HS8 := Lib.hid (HS6.out.step hb); clear ho hb hg hg8 hg9)
      clear t0 t1 t2 t3 t4 t5
      clear HS6 HBA HRD HLZ
      go_loopg [0, 47] (t.nums.length + 1) (fun gk v0 vi wl => ∃ i : Nat, vi = .int .i64 (i : Int) ∧ gk = t.nums.length + 1 - i ∧ i ≤ t.nums.length + 1 ∧ Hid (WrS w wl B t (.slice A4 t.nums.length c4) (.slice A5 t.args.length c5) (l7 ++ numsTxt (ns.take i)) v0) ∧ Hid (wl.ownsRow w6.heap.size tyU32 1 (.slice (some ⟨g8, 0, none⟩) (t.nums.length + 1) c8) (t.nums.length + 1) (nums .u32 ns)))
      case atStart => exact ⟨0, rfl, rfl, Nat.zero_le _, by rw [show numsTxt (ns.take 0) = [] from rfl, List.append_nil]; exact HS8, HN8⟩
      case round =>
        clear HS8 HN8
        obtain ⟨i, rfl, hgk, hi, HSl, HNl⟩ := hrel
        have HK := Lib.hid hgk
        clear hgk
        have hli : (l7 ++ numsTxt (ns.take i)).length + 80 ≤ 140737488355328 := by
          have := numsTake_len ns HU.out i
          have := HNL.out
          rw [List.length_append]
          omega
        generalize hqi : l7 ++ numsTxt (ns.take i) = li at HSl hli
        have HLI := Lib.hid hqi
        clear hqi
        by_cases hlt0 : i < t.nums.length + 1
        · have hlt : i < ns.length := by rw [HNL.out]; exact hlt0
          have hc := (own_at HNl.out (i : Int) (by omega) (by omega)).1
          rw [Int.toNat_natCast, rd_get hlt] at hc
          have HSX := Lib.hid (numsTxt_snoc hlt)
          have hx := HU.out ns[i] (List.getElem_mem hlt)
          generalize ns[i] = x at hc HSX hx
          have x0 := hx.1
          have x1 := hx.2
          have y0 : (0 : Int) ≤ (i : Int) := by omega
          have y1 : (i : Int) < (t.nums.length : Int) + 1 := by omega
          have HL1 : Hid (li.length + [(46 : Int)].length ≤ 140737488355328) := Lib.hid (by simp only [List.length_cons, List.length_nil]; omega)
          clear hx hlt hlt0
          have t0 := HSl.out.tm.c0
          have t1 := HSl.out.tm.c1
          have t2 := HSl.out.tm.c2
          have t3 := HSl.out.tm.c3
          have t4 := HSl.out.tm.c4
          have t5 := HSl.out.tm.c5
          go_wp2_with (at_builtin; refine append_lit (w0 := wr) B rfl (.tmp 51) (.tmp 52) 49 5 rfl Tryz.underlying49 infoU8 u0 (li) [46] rfl ?hx ?hO ?hB ?hbs ?hl ?_; (case hx => first | rfl | (simp [Act.eval]; done)); (case hO => exact HSl.out.own); (case hB => exact Below.refl _ _); (case hbs => exact HSl.out.base); (case hl => exact HL1.out); intro v1 w5 ho hb hg; have HS5 := Lib.hid (HSl.out.app ho hb hg); have HK5 := Lib.hid ((Lib.OthersKept.refl tyU8 none wr).grown hg (own_kind HSl.out.own)); clear ho hb hg t0 t1 t2 t3 t4 t5; have t0 := HS5.out.tm.c0; have t1 := HS5.out.tm.c1; have t2 := HS5.out.tm.c2; have t3 := HS5.out.tm.c3; have t4 := HS5.out.tm.c4; have t5 := HS5.out.tm.c5)
          have hl5 : (li ++ [46]).length + 40 ≤ 140737488355328 := by rw [List.length_append]; simp only [List.length_cons, List.length_nil]; omega
          have HC := Lib.hid (app_uint x x0 x1 HS5.out.own HS5.out.base (HGB.out.trans HS5.out.below) (by omega))
          have HN5 := Lib.hid (own_others HNl.out (by decide) HK5.out)
          clear t0 t1 t2 t3 t4 t5
          clear hc
          refine HC.out.mono ?_
          rintro e w9 ⟨v9, rfl, h2, h3, h4⟩
          have HS9 := Lib.hid (HS5.out.call h2 h3 h4)
          have HN9 := Lib.hid (own_others HN5.out (by decide) h4)
          clear h2 h3 h4 HC
          go_wp2_with fail
          go_roundg (t.nums.length + 1 - (i + 1))
          case measure => rw [HK.out]; omega
          case rel => exact ⟨i + 1, by go_num, rfl, by omega, by rw [HSX.out, ← List.append_assoc, HLI.out, show li ++ 46 :: itoaI x = (li ++ [46]) ++ itoaI x by simp]; exact HS9, HN9⟩
        · have hie : ns.take i = ns := List.take_of_length_le (by rw [HNL.out]; omega)
          rw [hie] at HLI
          have d0 : decide ((i : Int) < (t.nums.length : Int) + 1) = false := decide_eq_false (by omega)
          have HL1 : Hid (li.length + [(62 : Int)].length ≤ 140737488355328) := Lib.hid (by simp only [List.length_cons, List.length_nil]; omega)
          clear hie hlt0
          have t0 := HSl.out.tm.c0
          have t1 := HSl.out.tm.c1
          have t2 := HSl.out.tm.c2
          have t3 := HSl.out.tm.c3
          have t4 := HSl.out.tm.c4
          have t5 := HSl.out.tm.c5
          go_wp2_with (at_builtin; refine append_lit (w0 := wr) B rfl (.tmp 59) (.tmp 60) 49 5 rfl Tryz.underlying49 infoU8 u0 (li) [62] rfl ?hx ?hO ?hB ?hbs ?hl ?_; (case hx => first | rfl | (simp [Act.eval]; done)); (case hO => exact HSl.out.own); (case hB => exact Below.refl _ _); (case hbs => exact HSl.out.base); (case hl => exact HL1.out); intro v1 w5 ho hb hg; have HS5 := Lib.hid (HSl.out.app ho hb hg); have HK5 := Lib.hid ((Lib.OthersKept.refl tyU8 none wr).grown hg (own_kind HSl.out.own)); clear ho hb hg t0 t1 t2 t3 t4 t5; have t0 := HS5.out.tm.c0; have t1 := HS5.out.tm.c1; have t2 := HS5.out.tm.c2; have t3 := HS5.out.tm.c3; have t4 := HS5.out.tm.c4; have t5 := HS5.out.tm.c5)
          go_ret
          have he : (l ++ [35, 82, 101, 102]) ++ farTxt t.tx (t.cr :: t.nums) = li ++ [62] := by
            rw [← HLI.out, ← HL7.out, ← HL6.out, HNS.out]
            unfold farTxt numsTxt
            simp
          have hl0 : l ++ R = (l ++ [35, 82, 101, 102]) ++ farTxt t.tx (t.cr :: t.nums) := by simp only [HQ.out, List.append_assoc, List.cons_append, List.nil_append]
          rw [hl0, he]
          exact HS5.out.done
    · have d1 : (t.kd == 1) = false := beq_eq_false_iff_ne.2 (by omega)
      have d2 : (t.kd == 2) = false := beq_eq_false_iff_ne.2 (by omega)
      have d3 : (t.kd == 3) = false := beq_eq_false_iff_ne.2 (by omega)
      have d4 : (t.kd == 4) = true := beq_iff_eq.2 hk
      rw [if_neg (by omega), if_neg (by omega), if_neg (by omega), if_pos hk] at hR0
      have HQ := Lib.hid hR0
      have HN : Hid (t.nums.length ≤ 3) := Lib.hid (by have := shape_pid HOK.out hk; omega)
      clear hR0 hit hk hkd
      have HL1 : Hid ((l).length + [(60 : Int)].length ≤ 140737488355328) := Lib.hid (by simp only [List.length_append, List.length_cons, List.length_nil]; omega)
      go_wp2_with (at_builtin; refine append_lit (w0 := w1) B rfl (.tmp 33) (.tmp 34) 49 5 rfl Tryz.underlying49 infoU8 v (l) [60] rfl ?hx ?hO ?hB ?hbs ?hl ?_; (case hx => first | rfl | (simp [Act.eval]; done)); (case hO => exact HS1.out.own); (case hB => exact Below.refl _ _); (case hbs => exact HS1.out.base); (case hl => exact HL1.out); intro v1 w5 ho hb hg; have HS5 := Lib.hid (HS1.out.app ho hb hg); have HK5 := Lib.hid ((Lib.OthersKept.refl tyU8 none w1).grown hg (own_kind HS1.out.own)); clear ho hb hg t0 t1 t2 t3 t4 t5; have t0 := HS5.out.tm.c0; have t1 := HS5.out.tm.c1; have t2 := HS5.out.tm.c2; have t3 := HS5.out.tm.c3; have t4 := HS5.out.tm.c4; have t5 := HS5.out.tm.c5)
      have hl6 : (l ++ [60]).length + 1200 ≤ 140737488355328 := by simp only [List.length_append, List.length_cons, List.length_nil]; omega
      generalize hq6 : l ++ [60] = l6 at HS5 hl6
      have HL6 := Lib.hid hq6
      clear hq6 HL1
      have HC := Lib.hid (term_quoted t.tx (sm_tx HSM.out) HS5.out.own HS5.out.base (HGB.out.trans HS5.out.below) (by omega))
      refine HC.out.mono ?_
      rintro e w6 ⟨v6, rfl, h2, h3, h4⟩
      have HS6 := Lib.hid (HS5.out.call h2 h3 h4)
      clear t0 t1 t2 t3 t4 t5
      clear h2 h3 h4 HC HS5
      have hl7 : (l6 ++ bs (quoted t.tx).1).length + 170 ≤ 140737488355328 := by have := quoted_size t.tx; rw [List.length_append, bs_len]; omega
      generalize hq7 : l6 ++ bs (quoted t.tx).1 = l7 at HS6 hl7
      have HL7 := Lib.hid hq7
      clear hq7
      have t0 := HS6.out.tm.c0
      have t1 := HS6.out.tm.c1
      have t2 := HS6.out.tm.c2
      have t3 := HS6.out.tm.c3
      have t4 := HS6.out.tm.c4
      have t5 := HS6.out.tm.c5
      obtain ⟨ns, hns⟩ : ∃ ns, ns = t.cr :: t.nums := ⟨_, rfl⟩
      have hu := wf_nums HWF.out
      rw [← hns] at hu
      have HNS := Lib.hid hns
      have HU := Lib.hid hu
      have hnl : ns.length = t.nums.length + 1 := by rw [hns, List.length_cons]
      have HNL := Lib.hid hnl
      have hn4 : t.nums.length ≤ 3 := HN.out
      clear hns hu hnl
      have hlt6 : w.heap.size < w6.heap.size := HS6.out.tm.lt
      have HBA := Lib.hid (below_alloc (Below.refl w6.heap.size w6) (.cells #[.int .u32 t.cr] tyU32))
      have HRD : Hid (ReadsInt (w6.alloc (.cells #[.int .u32 t.cr] tyU32)) .u32 A4 t.nums.length t.nums) := Lib.hid (Kd.reads_of_C (HR.out.below ((HB.out.trans (HS6.out.below.mono hB0)).trans (HBA.out.mono (Nat.le_trans hB0 HS6.out.base)))).g4)
      have HLZ : Hid (([t.cr].length + t.nums.length) * 4 ≤ 140737488355328) := Lib.hid (by have := HN.out; simp only [List.length_cons, List.length_nil]; omega)
      go_wp2_with (at_builtin; refine print_append_row (w0 := w6) w6.heap.size rfl (.tmp 42) (.tmp 44) 24 23 .u32 4 rfl Tryz.underlying24 infoU32 (by decide) (.slice (some ⟨w6.heap.size, 0, none⟩) 1 1) [t.cr] t.nums A4 t.nums.length c4 rfl rfl ?hO ?hR ?hB ?hbs ?hl ?_; (case hO => exact own_lit w6 w6.heap.size 23 .u32 [t.cr] (Nat.le_refl _) (by simp)); (case hR => exact HRD.out); (case hB => exact HBA.out); (case hbs => exact HBA.out.size); (case hl => exact HLZ.out); intro v8 w8 ho hb hg _; obtain ⟨g8, c8, rfl, hg8, hg9⟩ := ho.form (by simp); have HN8 : Hid (w8.ownsRow w6.heap.size tyU32 1 (.slice (some ⟨g8, 0, none⟩) (t.nums.length + 1) c8) (t.nums.length + 1) (nums .u32 ns)) := Lib.hid (by rw [HNS.out, show t.nums.length + 1 = ([t.cr] ++ t.nums).length by rw [List.length_append, List.length_singleton]; omega]; exact ho); have HS8 := Lib.hid (HS6.out.step hb); clear ho hb hg hg8 hg9)
      clear t0 t1 t2 t3 t4 t5
      clear HS6 HBA HRD HLZ
      go_loopg [0, 47] (t.nums.length + 1) (fun gk v0 vi wl => ∃ i : Nat, vi = .int .i64 (i : Int) ∧ gk = t.nums.length + 1 - i ∧ i ≤ t.nums.length + 1 ∧ Hid (WrS w wl B t (.slice A4 t.nums.length c4) (.slice A5 t.args.length c5) (l7 ++ numsTxt (ns.take i)) v0) ∧ Hid (wl.ownsRow w6.heap.size tyU32 1 (.slice (some ⟨g8, 0, none⟩) (t.nums.length + 1) c8) (t.nums.length + 1) (nums .u32 ns)))
      case atStart => exact ⟨0, rfl, rfl, Nat.zero_le _, by rw [show numsTxt (ns.take 0) = [] from rfl, List.append_nil]; exact HS8, HN8⟩
      case round =>
        clear HS8 HN8
        obtain ⟨i, rfl, hgk, hi, HSl, HNl⟩ := hrel
        have HK := Lib.hid hgk
        clear hgk
        have hli : (l7 ++ numsTxt (ns.take i)).length + 80 ≤ 140737488355328 := by
          have := numsTake_len ns HU.out i
          have := HNL.out
          rw [List.length_append]
          omega
        generalize hqi : l7 ++ numsTxt (ns.take i) = li at HSl hli
        have HLI := Lib.hid hqi
        clear hqi
        by_cases hlt0 : i < t.nums.length + 1
        · have hlt : i < ns.length := by rw [HNL.out]; exact hlt0
          have hc := (own_at HNl.out (i : Int) (by omega) (by omega)).1
          rw [Int.toNat_natCast, rd_get hlt] at hc
          have HSX := Lib.hid (numsTxt_snoc hlt)
          have hx := HU.out ns[i] (List.getElem_mem hlt)
          generalize ns[i] = x at hc HSX hx
          have x0 := hx.1
          have x1 := hx.2
          have y0 : (0 : Int) ≤ (i : Int) := by omega
          have y1 : (i : Int) < (t.nums.length : Int) + 1 := by omega
          have HL1 : Hid (li.length + [(46 : Int)].length ≤ 140737488355328) := Lib.hid (by simp only [List.length_cons, List.length_nil]; omega)
          clear hx hlt hlt0
          have t0 := HSl.out.tm.c0
          have t1 := HSl.out.tm.c1
          have t2 := HSl.out.tm.c2
          have t3 := HSl.out.tm.c3
          have t4 := HSl.out.tm.c4
          have t5 := HSl.out.tm.c5
          go_wp2_with (at_builtin; refine append_lit (w0 := wr) B rfl (.tmp 51) (.tmp 52) 49 5 rfl Tryz.underlying49 infoU8 u0 (li) [46] rfl ?hx ?hO ?hB ?hbs ?hl ?_; (case hx => first | rfl | (simp [Act.eval]; done)); (case hO => exact HSl.out.own); (case hB => exact Below.refl _ _); (case hbs => exact HSl.out.base); (case hl => exact HL1.out); intro v1 w5 ho hb hg; have HS5 := Lib.hid (HSl.out.app ho hb hg); have HK5 := Lib.hid ((Lib.OthersKept.refl tyU8 none wr).grown hg (own_kind HSl.out.own)); clear ho hb hg t0 t1 t2 t3 t4 t5; have t0 := HS5.out.tm.c0; have t1 := HS5.out.tm.c1; have t2 := HS5.out.tm.c2; have t3 := HS5.out.tm.c3; have t4 := HS5.out.tm.c4; have t5 := HS5.out.tm.c5)
          have hl5 : (li ++ [46]).length + 40 ≤ 140737488355328 := by rw [List.length_append]; simp only [List.length_cons, List.length_nil]; omega
          have HC := Lib.hid (app_uint x x0 x1 HS5.out.own HS5.out.base (HGB.out.trans HS5.out.below) (by omega))
          have HN5 := Lib.hid (own_others HNl.out (by decide) HK5.out)
          clear t0 t1 t2 t3 t4 t5
          clear hc
          refine HC.out.mono ?_
          rintro e w9 ⟨v9, rfl, h2, h3, h4⟩
          have HS9 := Lib.hid (HS5.out.call h2 h3 h4)
          have HN9 := Lib.hid (own_others HN5.out (by decide) h4)
          clear h2 h3 h4 HC
          go_wp2_with fail
          go_roundg (t.nums.length + 1 - (i + 1))
          case measure => rw [HK.out]; omega
          case rel => exact ⟨i + 1, by go_num, rfl, by omega, by rw [HSX.out, ← List.append_assoc, HLI.out, show li ++ 46 :: itoaI x = (li ++ [46]) ++ itoaI x by simp]; exact HS9, HN9⟩
        · have hie : ns.take i = ns := List.take_of_length_le (by rw [HNL.out]; omega)
          rw [hie] at HLI
          have d0 : decide ((i : Int) < (t.nums.length : Int) + 1) = false := decide_eq_false (by omega)
          have HL1 : Hid (li.length + [(62 : Int)].length ≤ 140737488355328) := Lib.hid (by simp only [List.length_cons, List.length_nil]; omega)
          clear hie hlt0
          have t0 := HSl.out.tm.c0
          have t1 := HSl.out.tm.c1
          have t2 := HSl.out.tm.c2
          have t3 := HSl.out.tm.c3
          have t4 := HSl.out.tm.c4
          have t5 := HSl.out.tm.c5
          go_wp2_with (at_builtin; refine append_lit (w0 := wr) B rfl (.tmp 59) (.tmp 60) 49 5 rfl Tryz.underlying49 infoU8 u0 (li) [62] rfl ?hx ?hO ?hB ?hbs ?hl ?_; (case hx => first | rfl | (simp [Act.eval]; done)); (case hO => exact HSl.out.own); (case hB => exact Below.refl _ _); (case hbs => exact HSl.out.base); (case hl => exact HL1.out); intro v1 w5 ho hb hg; have HS5 := Lib.hid (HSl.out.app ho hb hg); have HK5 := Lib.hid ((Lib.OthersKept.refl tyU8 none wr).grown hg (own_kind HSl.out.own)); clear ho hb hg t0 t1 t2 t3 t4 t5; have t0 := HS5.out.tm.c0; have t1 := HS5.out.tm.c1; have t2 := HS5.out.tm.c2; have t3 := HS5.out.tm.c3; have t4 := HS5.out.tm.c4; have t5 := HS5.out.tm.c5)
          go_ret
          have he : l ++ farTxt t.tx (t.cr :: t.nums) = li ++ [62] := by
            rw [← HLI.out, ← HL7.out, ← HL6.out, HNS.out]
            unfold farTxt numsTxt
            simp
          have hl0 : l ++ R = l ++ farTxt t.tx (t.cr :: t.nums) := by simp only [HQ.out, List.append_assoc, List.cons_append, List.nil_append]
          rw [hl0, he]
          exact HS5.out.done
    · have d1 : (t.kd == 1) = false := beq_eq_false_iff_ne.2 (by omega)
      have d2 : (t.kd == 2) = false := beq_eq_false_iff_ne.2 (by omega)
      have d3 : (t.kd == 3) = false := beq_eq_false_iff_ne.2 (by omega)
      have d4 : (t.kd == 4) = false := beq_eq_false_iff_ne.2 (by omega)
      have d6 : (t.kd == 6) = false := beq_eq_false_iff_ne.2 (by omega)
      have d7 : (t.kd == 7) = false := beq_eq_false_iff_ne.2 (by omega)
      rw [if_neg (by omega), if_neg (by omega), if_neg (by omega), if_neg (by omega), if_pos hk] at hR0
      have HQ := Lib.hid hR0
      clear hR0 hit hk hkd
      go_wp2_with fail
      go_quiet (fail)
      have HS2 := Lib.hid (HS1.out.step (drewN_below w1 nq))
      clear t0 t1 t2 t3 t4 t5
      generalize w1.drewN nq = w2 at HS2 ⊢
      have t0 := HS2.out.tm.c0
      have t1 := HS2.out.tm.c1
      have t2 := HS2.out.tm.c2
      have t3 := HS2.out.tm.c3
      have t4 := HS2.out.tm.c4
      have t5 := HS2.out.tm.c5
      have HL1 : Hid (l.length + [(123 : Int)].length ≤ 140737488355328) := Lib.hid (by simp only [List.length_cons, List.length_nil]; omega)
      go_wp2_with (at_builtin; refine append_lit (w0 := w2) B rfl (.tmp 76) (.tmp 79) 49 5 rfl Tryz.underlying49 infoU8 v (l) [123] rfl ?hx ?hO ?hB ?hbs ?hl ?_; (case hx => first | rfl | (simp [Act.eval]; done)); (case hO => exact HS2.out.own); (case hB => exact Below.refl _ _); (case hbs => exact HS2.out.base); (case hl => exact HL1.out); intro v1 w5 ho hb hg; have HS5 := Lib.hid (HS2.out.app ho hb hg); have HK5 := Lib.hid ((Lib.OthersKept.refl tyU8 none w2).grown hg (own_kind HS2.out.own)); clear ho hb hg t0 t1 t2 t3 t4 t5; have t0 := HS5.out.tm.c0; have t1 := HS5.out.tm.c1; have t2 := HS5.out.tm.c2; have t3 := HS5.out.tm.c3; have t4 := HS5.out.tm.c4; have t5 := HS5.out.tm.c5)
      have HNN : Hid (t.args.length = t.args.length) := Lib.hid rfl
      have HRL : Hid (l.length + 1 + (sepBy [44] ((t.args.take t.args.length).map (txtT []))).length + 1300 ≤ 140737488355328) := Lib.hid (by
        have := HQ.out
        rw [List.take_length]
        rw [this] at hlen
        simp only [List.nil_append, List.length_cons, List.length_append, List.length_nil] at hlen
        omega)
      clear HK5
      clear t0 t1 t2 t3 t4 t5
      have yN : t.args.length ≤ 9223372036854775807 := by have := HR.out.g5.2.1; have := HNN.out; omega
      go_loopg [0, 83] (t.args.length) (fun gk v0 vi wl => ∃ k : Nat, vi = .int .i64 (k : Int) ∧ gk = t.args.length - k ∧ k ≤ t.args.length ∧ Hid (WrS w wl B t (.slice A4 t.nums.length c4) (.slice A5 t.args.length c5) (wrCur l 123 t.args k) v0))
      case atStart => exact ⟨0, rfl, rfl, Nat.zero_le _, HS5⟩
      case round =>
        clear HS5
        obtain ⟨k, rfl, hgk, hk, HSl⟩ := hrel
        have HK := Lib.hid hgk
        clear hgk
        by_cases hlt : k < t.args.length
        · have HBWl : Hid (Below w0.heap.size w0 wr) := Lib.hid (HB.out.trans (HSl.out.below.mono hB0))
          obtain ⟨ad, A4', c4', A5', c5', hA, q0, q1, q2, q3, q4, q5, hTR⟩ := atTm HR.out.g5 (k : Int) (by omega) (by have := HNN.out; omega)
          cases hA
          simp only [Int.toNat_natCast] at q0 q1 q2 q3 q4 q5
          replace q0 := (HBWl.out.cell (World.block_lt_of_cell? w0 _ q0)).trans q0
          replace q1 := (HBWl.out.cell (World.block_lt_of_cell? w0 _ q1)).trans q1
          replace q2 := (HBWl.out.cell (World.block_lt_of_cell? w0 _ q2)).trans q2
          replace q3 := (HBWl.out.cell (World.block_lt_of_cell? w0 _ q3)).trans q3
          replace q4 := (HBWl.out.cell (World.block_lt_of_cell? w0 _ q4)).trans q4
          replace q5 := (HBWl.out.cell (World.block_lt_of_cell? w0 _ q5)).trans q5
          have hlt2 : k < t.args.length := by have := HNN.out; omega
          obtain ⟨hge, hmem⟩ := rdTm_mem hlt2
          have hnx := wrCur_succ (l := l) (o := 123) hlt2
          have hpl := wrPre_len (l := l) (o := 123) (ts := t.args) (n := t.args.length) hlt (by have := HNN.out; omega)
          rw [← hge] at hnx hpl
          generalize rdTm t.args (k : Int) = a at q0 q1 q2 q3 q4 q5 hTR hmem hnx hpl
          have HNX := Lib.hid hnx
          have HPL : Hid ((wrPre l 123 t.args k).length + (txtT [] a).length + 1300 ≤ 140737488355328) := Lib.hid (by have := HRL.out; omega)
          have HTR := Lib.hid hTR
          have HMEM := Lib.hid hmem
          have y0 : (0 : Int) ≤ (k : Int) := by omega
          have y1 : (k : Int) < (t.args.length : Int) := by omega
          clear hTR hmem hge hnx hpl hlt2
          go_upto_region 27 with (fail)
          have hbx := heap_alloc_new wr (.cells #[.int .i64 a.kd, .int .i64 a.it, .string a.tx, .int .u32 a.cr, .slice A4' a.nums.length c4', .slice A5' a.args.length c5'] 27)
          have HS3 := Lib.hid (HSl.out.step (below_alloc (Below.refl wr.heap.size wr) (.cells #[.int .i64 a.kd, .int .i64 a.it, .string a.tx, .int .u32 a.cr, .slice A4' a.nums.length c4', .slice A5' a.args.length c5'] 27)))
          generalize wr.alloc (.cells #[.int .i64 a.kd, .int .i64 a.it, .string a.tx, .int .u32 a.cr, .slice A4' a.nums.length c4', .slice A5' a.args.length c5'] 27) = w3 at hbx HS3 ⊢
          have HBX := Lib.hid hbx
          clear hbx q0 q1 q2 q3 q4 q5 HSl HBWl
          by_cases h0 : k = 0
          · have d0 : decide ((k : Int) > 0) = false := decide_eq_false (by omega)
            have d9 : decide (0 < k) = false := decide_eq_false (by omega)
            have HPE : Hid (wrPre l 123 t.args k = wrCur l 123 t.args k) := Lib.hid (by rw [h0]; exact wrPre_zero _ _ _)
            have HPL2 := HPL
            rw [HPE.out] at HPL2
            have HNX2 := HNX
            rw [HPE.out] at HNX2
            clear h0
            obtain ⟨q0, q1, q2, q3, q4, q5, _, _, _, _, _, _⟩ := tmAt_of_box HBX.out
            go_wp2_with fail
            refine (HIH.out a HMEM.out A4' A5' c4' c5' (wrCur l 123 t.args k) u0 _ HTR.out (HB.out.trans (HS3.out.below.mono hB0)) HS3.out.own HS3.out.base (HML.out a HMEM.out) (smL_mem (sm_args HSM.out) HMEM.out) (wfL_mem (wf_args HWF.out) HMEM.out) HPL2.out).mono ?_
            rintro e w9 ⟨v9, rfl, h2, h3, h4⟩
            have HS9 := Lib.hid (HS3.out.call h2 h3 h4)
            rw [← HNX2.out] at HS9
            clear h2 h3 h4 q0 q1 q2 q3 q4 q5
            go_wp2_with fail
            go_roundg (t.args.length - (k + 1))
            case measure => rw [HK.out]; omega
            case rel => exact ⟨k + 1, by go_num, rfl, by omega, HS9⟩
          · have d0 : decide ((k : Int) > 0) = true := decide_eq_true (by omega)
            have d9 : decide (0 < k) = true := decide_eq_true (by omega)
            have hpe := wrPre_pos (l := l) (o := 123) (ts := t.args) (k := k) (by omega) (by have := HNN.out; omega)
            have HL1 : Hid ((wrCur l 123 t.args k).length + [(44 : Int)].length ≤ 140737488355328) := Lib.hid (by have := HPL.out; rw [hpe, List.length_append] at this; omega)
            have HPE := Lib.hid hpe
            clear hpe h0
            go_wp2_with (at_builtin; refine append_lit (w0 := w3) B rfl (.tmp 90) (.tmp 91) 49 5 rfl Tryz.underlying49 infoU8 u0 (wrCur l 123 t.args k) [44] rfl ?hx ?hO ?hB ?hbs ?hl ?_; (case hx => first | rfl | (simp [Act.eval]; done)); (case hO => exact HS3.out.own); (case hB => exact Below.refl _ _); (case hbs => exact HS3.out.base); (case hl => exact HL1.out); intro v1 w5 ho hb hg; have HS5 := Lib.hid (HS3.out.app ho hb hg); have hb5 := WrS.tmBox HBX.out HS3.out.own hg; clear ho hb hg; obtain ⟨q0, q1, q2, q3, q4, q5, _, _, _, _, _, _⟩ := tmAt_of_box hb5; clear hb5)
            rw [← HPE.out] at HS5
            refine (HIH.out a HMEM.out A4' A5' c4' c5' (wrPre l 123 t.args k) v1 _ HTR.out (HB.out.trans (HS5.out.below.mono hB0)) HS5.out.own HS5.out.base (HML.out a HMEM.out) (smL_mem (sm_args HSM.out) HMEM.out) (wfL_mem (wf_args HWF.out) HMEM.out) HPL.out).mono ?_
            rintro e w9 ⟨v9, rfl, h2, h3, h4⟩
            have HS9 := Lib.hid (HS5.out.call h2 h3 h4)
            rw [← HNX.out] at HS9
            clear h2 h3 h4 q0 q1 q2 q3 q4 q5
            go_wp2_with fail
            go_roundg (t.args.length - (k + 1))
            case measure => rw [HK.out]; omega
            case rel => exact ⟨k + 1, by go_num, rfl, by omega, HS9⟩
        · obtain rfl : t.args.length = k := by omega
          have d0 : decide ((t.args.length : Int) < (t.args.length : Int)) = false := decide_eq_false (by omega)
          have t0 := HSl.out.tm.c0
          have t1 := HSl.out.tm.c1
          have t2 := HSl.out.tm.c2
          have t3 := HSl.out.tm.c3
          have t4 := HSl.out.tm.c4
          have t5 := HSl.out.tm.c5
          have HL1 : Hid ((wrCur l 123 t.args t.args.length).length + [(125 : Int)].length ≤ 140737488355328) := Lib.hid (by
            have := HRL.out
            unfold wrCur
            simp only [List.length_append, List.length_cons, List.length_nil]
            omega)
          go_wp2_with (at_builtin; refine append_lit (w0 := wr) B rfl (.tmp 125) (.tmp 128) 49 5 rfl Tryz.underlying49 infoU8 u0 (wrCur l 123 t.args t.args.length) [125] rfl ?hx ?hO ?hB ?hbs ?hl ?_; (case hx => first | rfl | (simp [Act.eval]; done)); (case hO => exact HSl.out.own); (case hB => exact Below.refl _ _); (case hbs => exact HSl.out.base); (case hl => exact HL1.out); intro v1 w5 ho hb hg; have HS5 := Lib.hid (HSl.out.app ho hb hg); have HK5 := Lib.hid ((Lib.OthersKept.refl tyU8 none wr).grown hg (own_kind HSl.out.own)); clear ho hb hg t0 t1 t2 t3 t4 t5; have t0 := HS5.out.tm.c0; have t1 := HS5.out.tm.c1; have t2 := HS5.out.tm.c2; have t3 := HS5.out.tm.c3; have t4 := HS5.out.tm.c4; have t5 := HS5.out.tm.c5)
          go_ret
          have he : l ++ R = wrCur l 123 t.args t.args.length ++ [125] := by
            rw [HQ.out]
            unfold wrCur
            rw [List.take_length]
            simp
          rw [he]
          exact HS5.out.done
    · have d1 : (t.kd == 1) = false := beq_eq_false_iff_ne.2 (by omega)
      have d2 : (t.kd == 2) = false := beq_eq_false_iff_ne.2 (by omega)
      have d3 : (t.kd == 3) = false := beq_eq_false_iff_ne.2 (by omega)
      have d4 : (t.kd == 4) = false := beq_eq_false_iff_ne.2 (by omega)
      have d6 : (t.kd == 6) = true := beq_iff_eq.2 hk
      rw [if_neg (by omega), if_neg (by omega), if_neg (by omega), if_neg (by omega), if_neg (by omega), if_pos hk] at hR0
      have HQ : Hid (R = bytesOf ⟨#[91, 93]⟩) := Lib.hid hR0
      have HL : Hid (l.length + 2 ≤ 140737488355328) := Lib.hid (by omega)
      clear hR0 hit hk hkd
      go_wp2_with (at_builtin; refine print_append_str (w0 := w1) B rfl (.tmp 62) _ 49 9 5 rfl Tryz.underlying49 Tryz.underlying9 infoU8 v l ⟨#[91, 93]⟩ rfl rfl ?hO ?hB ?hbs ?hl ?_; (case hO => exact HS1.out.own); (case hB => exact Below.refl _ _); (case hbs => exact HS1.out.base); (case hl => exact HL.out); intro v1 w5 ho hb hg; have HS5 := Lib.hid (HS1.out.app ho hb hg); clear ho hb hg)
      go_ret
      rw [HQ.out]
      exact HS5.out.done
    · have d1 : (t.kd == 1) = false := beq_eq_false_iff_ne.2 (by omega)
      have d2 : (t.kd == 2) = false := beq_eq_false_iff_ne.2 (by omega)
      have d3 : (t.kd == 3) = false := beq_eq_false_iff_ne.2 (by omega)
      have d4 : (t.kd == 4) = false := beq_eq_false_iff_ne.2 (by omega)
      have d6 : (t.kd == 6) = false := beq_eq_false_iff_ne.2 (by omega)
      have d7 : (t.kd == 7) = true := beq_iff_eq.2 hk
      rw [if_neg (by omega), if_neg (by omega), if_neg (by omega), if_neg (by omega), if_neg (by omega), if_neg (by omega)] at hR0
      have HQ := Lib.hid hR0
      have hs2 := (shape_list HOK.out hk).1
      clear hR0 hit hk hkd
      have hc5 := HR.out.l5
      obtain ⟨n, hn⟩ : ∃ n, t.args.length = n + 1 := ⟨t.args.length - 1, by omega⟩
      rw [hn] at hc5
      obtain ⟨ad5, rfl⟩ : ∃ ad, A5 = some ad := by obtain ⟨ad, e, _⟩ := HR.out.g5.2.2 (by omega); exact ⟨ad, e⟩
      simp only [hn] at HS1 t5 ⊢
      have HNN := Lib.hid hn
      have HS2 := Lib.hid hs2
      clear hn hs2
      go_wp2_with fail
      go_quiet (fail)
      replace HS1 := Lib.hid (HS1.out.step (drewN_below w1 nq))
      clear t0 t1 t2 t3 t4 t5
      generalize w1.drewN nq = w2 at HS1 ⊢
      have t0 := HS1.out.tm.c0
      have t1 := HS1.out.tm.c1
      have t2 := HS1.out.tm.c2
      have t3 := HS1.out.tm.c3
      have t4 := HS1.out.tm.c4
      have t5 := HS1.out.tm.c5
      have y0 : (0 : Int) ≤ (n : Int) := by omega
      have y1 : (n : Int) ≤ (c5 : Int) := by omega
      have y3 : (n : Int) ≤ 9223372036854775807 := by have := HR.out.g5.2.1; have := HNN.out; omega
      have y2 : wrap64 (n : Int) = (n : Int) := by unfold wrap64; omega
      go_wp2_with fail
      go_quiet (fail)
      replace HS1 := Lib.hid (HS1.out.step (drewN_below w2 nq))
      clear t0 t1 t2 t3 t4 t5
      clear y2
      generalize w2.drewN nq = w3 at HS1 ⊢
      have t0 := HS1.out.tm.c0
      have t1 := HS1.out.tm.c1
      have t2 := HS1.out.tm.c2
      have t3 := HS1.out.tm.c3
      have t4 := HS1.out.tm.c4
      have t5 := HS1.out.tm.c5
      have hae : t.args.map (txtT []) = (t.args.take n).map (txtT []) ++ [txtT [] (rdTm t.args (n : Int))] := by
        have h1 : n < t.args.length := by have := HNN.out; omega
        rw [(rdTm_mem h1).1]
        conv => lhs; rw [show t.args = t.args.take n ++ [t.args[n]] by
          have h2 := List.take_append_drop n t.args
          rw [List.drop_eq_getElem_cons h1, List.drop_eq_nil_of_le (by have := HNN.out; omega)] at h2
          exact h2.symm]
        rw [List.map_append]
        rfl
      have hlk : lastKd t = (rdTm t.args (n : Int)).kd := by
        unfold lastKd
        rw [HNN.out]
        congr 2
        omega
      have hR2 := HQ.out
      rw [hae, List.dropLast_concat, List.getLastD_concat, hlk] at hR2
      simp only [List.nil_append] at hR2
      obtain ⟨ad, A4', c4', A5', c5', hA, q0, q1, q2, q3, q4, q5, hTR⟩ := atTm HR.out.g5 (n : Int) (by omega) (by have := HNN.out; omega)
      cases hA
      simp only [Int.toNat_natCast] at q0 q1 q2 q3 q4 q5
      have hmem := (rdTm_mem (l := t.args) (k := n) (by have := HNN.out; omega)).2
      generalize rdTm t.args (n : Int) = z at q0 q1 q2 q3 q4 q5 hTR hmem hR2
      have HZ := Lib.hid (And.intro q0 (And.intro q1 (And.intro q2 (And.intro q3 (And.intro q4 q5)))))
      have HTZ := Lib.hid hTR
      have HMZ := Lib.hid hmem
      have HRL : Hid (l.length + 1 + (sepBy [44] ((t.args.take n).map (txtT []))).length + 1300 ≤ 140737488355328) := Lib.hid (by
        rw [hR2] at hlen
        simp only [List.length_cons, List.length_append, List.length_nil] at hlen
        omega)
      have HRZ : Hid (z.kd ≠ 6 → (wrCur l 91 t.args n ++ [124]).length + (txtT [] z).length + 1300 ≤ 140737488355328) := Lib.hid (fun hz => by
        rw [hR2, if_neg hz] at hlen
        unfold wrCur
        simp only [List.length_cons, List.length_append, List.length_nil] at hlen ⊢
        omega)
      have HR2 := Lib.hid hR2
      clear hae hlk hR2 hTR hmem q0 q1 q2 q3 q4 q5 HQ hlen
      have HL1 : Hid (l.length + [(91 : Int)].length ≤ 140737488355328) := Lib.hid (by have := HRL.out; simp only [List.length_cons, List.length_nil]; omega)
      go_wp2_with (at_builtin; refine append_lit (w0 := w3) B rfl (.tmp 76) (.tmp 79) 49 5 rfl Tryz.underlying49 infoU8 v (l) [91] rfl ?hx ?hO ?hB ?hbs ?hl ?_; (case hx => first | rfl | (simp [Act.eval]; done)); (case hO => exact HS1.out.own); (case hB => exact Below.refl _ _); (case hbs => exact HS1.out.base); (case hl => exact HL1.out); intro v1 w5 ho hb hg; have HS5 := Lib.hid (HS1.out.app ho hb hg); have HK5 := Lib.hid ((Lib.OthersKept.refl tyU8 none w3).grown hg (own_kind HS1.out.own)); clear ho hb hg t0 t1 t2 t3 t4 t5; have t0 := HS5.out.tm.c0; have t1 := HS5.out.tm.c1; have t2 := HS5.out.tm.c2; have t3 := HS5.out.tm.c3; have t4 := HS5.out.tm.c4; have t5 := HS5.out.tm.c5)
      clear HK5
      clear t0 t1 t2 t3 t4 t5
      have yN : n ≤ 9223372036854775807 := by have := HR.out.g5.2.1; have := HNN.out; omega
      go_loopg [0, 83] (n) (fun gk v0 vi wl => ∃ k : Nat, vi = .int .i64 (k : Int) ∧ gk = n - k ∧ k ≤ n ∧ Hid (WrS w wl B t (.slice A4 t.nums.length c4) (.slice (some ad5) (n + 1) c5) (wrCur l 91 t.args k) v0))
      case atStart => exact ⟨0, rfl, rfl, Nat.zero_le _, HS5⟩
      case round =>
        clear HS5
        obtain ⟨k, rfl, hgk, hk, HSl⟩ := hrel
        have HK := Lib.hid hgk
        clear hgk
        by_cases hlt : k < n
        · have HBWl : Hid (Below w0.heap.size w0 wr) := Lib.hid (HB.out.trans (HSl.out.below.mono hB0))
          obtain ⟨ad, A4', c4', A5', c5', hA, q0, q1, q2, q3, q4, q5, hTR⟩ := atTm HR.out.g5 (k : Int) (by omega) (by have := HNN.out; omega)
          cases hA
          simp only [Int.toNat_natCast] at q0 q1 q2 q3 q4 q5
          replace q0 := (HBWl.out.cell (World.block_lt_of_cell? w0 _ q0)).trans q0
          replace q1 := (HBWl.out.cell (World.block_lt_of_cell? w0 _ q1)).trans q1
          replace q2 := (HBWl.out.cell (World.block_lt_of_cell? w0 _ q2)).trans q2
          replace q3 := (HBWl.out.cell (World.block_lt_of_cell? w0 _ q3)).trans q3
          replace q4 := (HBWl.out.cell (World.block_lt_of_cell? w0 _ q4)).trans q4
          replace q5 := (HBWl.out.cell (World.block_lt_of_cell? w0 _ q5)).trans q5
          have hlt2 : k < t.args.length := by have := HNN.out; omega
          obtain ⟨hge, hmem⟩ := rdTm_mem hlt2
          have hnx := wrCur_succ (l := l) (o := 91) hlt2
          have hpl := wrPre_len (l := l) (o := 91) (ts := t.args) (n := n) hlt (by have := HNN.out; omega)
          rw [← hge] at hnx hpl
          generalize rdTm t.args (k : Int) = a at q0 q1 q2 q3 q4 q5 hTR hmem hnx hpl
          have HNX := Lib.hid hnx
          have HPL : Hid ((wrPre l 91 t.args k).length + (txtT [] a).length + 1300 ≤ 140737488355328) := Lib.hid (by have := HRL.out; omega)
          have HTR := Lib.hid hTR
          have HMEM := Lib.hid hmem
          have y0 : (0 : Int) ≤ (k : Int) := by omega
          have y1 : (k : Int) < (n : Int) := by omega
          clear hTR hmem hge hnx hpl hlt2
          go_upto_region 27 with (fail)
          have hbx := heap_alloc_new wr (.cells #[.int .i64 a.kd, .int .i64 a.it, .string a.tx, .int .u32 a.cr, .slice A4' a.nums.length c4', .slice A5' a.args.length c5'] 27)
          have HS3 := Lib.hid (HSl.out.step (below_alloc (Below.refl wr.heap.size wr) (.cells #[.int .i64 a.kd, .int .i64 a.it, .string a.tx, .int .u32 a.cr, .slice A4' a.nums.length c4', .slice A5' a.args.length c5'] 27)))
          generalize wr.alloc (.cells #[.int .i64 a.kd, .int .i64 a.it, .string a.tx, .int .u32 a.cr, .slice A4' a.nums.length c4', .slice A5' a.args.length c5'] 27) = w3 at hbx HS3 ⊢
          have HBX := Lib.hid hbx
          clear hbx q0 q1 q2 q3 q4 q5 HSl HBWl
          by_cases h0 : k = 0
          · have d0 : decide ((k : Int) > 0) = false := decide_eq_false (by omega)
            have d9 : decide (0 < k) = false := decide_eq_false (by omega)
            have HPE : Hid (wrPre l 91 t.args k = wrCur l 91 t.args k) := Lib.hid (by rw [h0]; exact wrPre_zero _ _ _)
            have HPL2 := HPL
            rw [HPE.out] at HPL2
            have HNX2 := HNX
            rw [HPE.out] at HNX2
            clear h0
            obtain ⟨q0, q1, q2, q3, q4, q5, _, _, _, _, _, _⟩ := tmAt_of_box HBX.out
            go_wp2_with fail
            refine (HIH.out a HMEM.out A4' A5' c4' c5' (wrCur l 91 t.args k) u0 _ HTR.out (HB.out.trans (HS3.out.below.mono hB0)) HS3.out.own HS3.out.base (HML.out a HMEM.out) (smL_mem (sm_args HSM.out) HMEM.out) (wfL_mem (wf_args HWF.out) HMEM.out) HPL2.out).mono ?_
            rintro e w9 ⟨v9, rfl, h2, h3, h4⟩
            have HS9 := Lib.hid (HS3.out.call h2 h3 h4)
            rw [← HNX2.out] at HS9
            clear h2 h3 h4 q0 q1 q2 q3 q4 q5
            go_wp2_with fail
            go_roundg (n - (k + 1))
            case measure => rw [HK.out]; omega
            case rel => exact ⟨k + 1, by go_num, rfl, by omega, HS9⟩
          · have d0 : decide ((k : Int) > 0) = true := decide_eq_true (by omega)
            have d9 : decide (0 < k) = true := decide_eq_true (by omega)
            have hpe := wrPre_pos (l := l) (o := 91) (ts := t.args) (k := k) (by omega) (by have := HNN.out; omega)
            have HL1 : Hid ((wrCur l 91 t.args k).length + [(44 : Int)].length ≤ 140737488355328) := Lib.hid (by have := HPL.out; rw [hpe, List.length_append] at this; omega)
            have HPE := Lib.hid hpe
            clear hpe h0
            go_wp2_with (at_builtin; refine append_lit (w0 := w3) B rfl (.tmp 90) (.tmp 91) 49 5 rfl Tryz.underlying49 infoU8 u0 (wrCur l 91 t.args k) [44] rfl ?hx ?hO ?hB ?hbs ?hl ?_; (case hx => first | rfl | (simp [Act.eval]; done)); (case hO => exact HS3.out.own); (case hB => exact Below.refl _ _); (case hbs => exact HS3.out.base); (case hl => exact HL1.out); intro v1 w5 ho hb hg; have HS5 := Lib.hid (HS3.out.app ho hb hg); have hb5 := WrS.tmBox HBX.out HS3.out.own hg; clear ho hb hg; obtain ⟨q0, q1, q2, q3, q4, q5, _, _, _, _, _, _⟩ := tmAt_of_box hb5; clear hb5)
            rw [← HPE.out] at HS5
            refine (HIH.out a HMEM.out A4' A5' c4' c5' (wrPre l 91 t.args k) v1 _ HTR.out (HB.out.trans (HS5.out.below.mono hB0)) HS5.out.own HS5.out.base (HML.out a HMEM.out) (smL_mem (sm_args HSM.out) HMEM.out) (wfL_mem (wf_args HWF.out) HMEM.out) HPL.out).mono ?_
            rintro e w9 ⟨v9, rfl, h2, h3, h4⟩
            have HS9 := Lib.hid (HS5.out.call h2 h3 h4)
            rw [← HNX.out] at HS9
            clear h2 h3 h4 q0 q1 q2 q3 q4 q5
            go_wp2_with fail
            go_roundg (n - (k + 1))
            case measure => rw [HK.out]; omega
            case rel => exact ⟨k + 1, by go_num, rfl, by omega, HS9⟩
        · obtain rfl : n = k := by omega
          have d0 : decide ((n : Int) < (n : Int)) = false := decide_eq_false (by omega)
          have t0 := HSl.out.tm.c0
          have t1 := HSl.out.tm.c1
          have t2 := HSl.out.tm.c2
          have t3 := HSl.out.tm.c3
          have t4 := HSl.out.tm.c4
          have t5 := HSl.out.tm.c5
          have HBWl : Hid (Below w0.heap.size w0 wr) := Lib.hid (HB.out.trans (HSl.out.below.mono hB0))
          obtain ⟨z0, z1, z2, z3, z4, z5⟩ := HZ.out
          have q0 := (HBWl.out.cell (World.block_lt_of_cell? w0 _ z0)).trans z0
          have q1 := (HBWl.out.cell (World.block_lt_of_cell? w0 _ z1)).trans z1
          have q2 := (HBWl.out.cell (World.block_lt_of_cell? w0 _ z2)).trans z2
          have q3 := (HBWl.out.cell (World.block_lt_of_cell? w0 _ z3)).trans z3
          have q4 := (HBWl.out.cell (World.block_lt_of_cell? w0 _ z4)).trans z4
          have q5 := (HBWl.out.cell (World.block_lt_of_cell? w0 _ z5)).trans z5
          clear z0 z1 z2 z3 z4 z5
          have y0 : (0 : Int) ≤ (n : Int) := by omega
          have y4 : (n : Int) < (n : Int) + 1 := by omega
          have y2 : wrap64 (n : Int) = (n : Int) := by unfold wrap64; omega
          have HCL : Hid ((wrCur l 91 t.args n).length + 1200 ≤ 140737488355328) := Lib.hid (by
            have := HRL.out
            unfold wrCur
            simp only [List.length_append, List.length_cons, List.length_nil]
            omega)
          by_cases hz : z.kd = 6
          · have dz : (z.kd != 6) = false := by rw [hz]; rfl
            have he : l ++ R = wrCur l 91 t.args n ++ [93] := by
              rw [HR2.out, if_pos hz]
              unfold wrCur
              simp
            have HE := Lib.hid he
            have HL1 : Hid ((wrCur l 91 t.args n).length + [(93 : Int)].length ≤ 140737488355328) := Lib.hid (by have := HCL.out; simp only [List.length_cons, List.length_nil]; omega)
            clear hz he
            go_wp2_with (at_builtin; refine append_lit (w0 := wr) B rfl (.tmp 125) (.tmp 128) 49 5 rfl Tryz.underlying49 infoU8 u0 (wrCur l 91 t.args n) [93] rfl ?hx ?hO ?hB ?hbs ?hl ?_; (case hx => first | rfl | (simp [Act.eval]; done)); (case hO => exact HSl.out.own); (case hB => exact Below.refl _ _); (case hbs => exact HSl.out.base); (case hl => exact HL1.out); intro v1 w5 ho hb hg; have HS5 := Lib.hid (HSl.out.app ho hb hg); have HK5 := Lib.hid ((Lib.OthersKept.refl tyU8 none wr).grown hg (own_kind HSl.out.own)); clear ho hb hg t0 t1 t2 t3 t4 t5; have t0 := HS5.out.tm.c0; have t1 := HS5.out.tm.c1; have t2 := HS5.out.tm.c2; have t3 := HS5.out.tm.c3; have t4 := HS5.out.tm.c4; have t5 := HS5.out.tm.c5)
            go_ret
            rw [HE.out]
            exact HS5.out.done
          · have dz : (z.kd != 6) = true := by rw [bne_iff_ne]; exact hz
            have he : l ++ R = (wrCur l 91 t.args n ++ [124] ++ txtT [] z) ++ [93] := by
              rw [HR2.out, if_neg hz]
              unfold wrCur
              simp
            have HE := Lib.hid he
            have HRZ2 := Lib.hid (HRZ.out hz)
            have HL1 : Hid ((wrCur l 91 t.args n).length + [(124 : Int)].length ≤ 140737488355328) := Lib.hid (by have := HCL.out; simp only [List.length_cons, List.length_nil]; omega)
            have hbz := HBWl
            clear hz he
            go_wp2_with (at_builtin; refine append_lit (w0 := wr) B rfl (.tmp 112) (.tmp 113) 49 5 rfl Tryz.underlying49 infoU8 u0 (wrCur l 91 t.args n) [124] rfl ?hx ?hO ?hB ?hbs ?hl ?_; (case hx => first | rfl | (simp [Act.eval]; done)); (case hO => exact HSl.out.own); (case hB => exact Below.refl _ _); (case hbs => exact HSl.out.base); (case hl => exact HL1.out); intro v1 w5 ho hb hg; have HS5 := Lib.hid (HSl.out.app ho hb hg); clear ho hb hg t0 t1 t2 t3 t4 t5 q0 q1 q2 q3 q4 q5; have HBW5 : Hid (Below w0.heap.size w0 w5) := Lib.hid (HB.out.trans (HS5.out.below.mono hB0)); have t5 := HS5.out.tm.c5; have q0 := (HBW5.out.cell (World.block_lt_of_cell? w0 _ HZ.out.1)).trans HZ.out.1; have q1 := (HBW5.out.cell (World.block_lt_of_cell? w0 _ HZ.out.2.1)).trans HZ.out.2.1; have q2 := (HBW5.out.cell (World.block_lt_of_cell? w0 _ HZ.out.2.2.1)).trans HZ.out.2.2.1; have q3 := (HBW5.out.cell (World.block_lt_of_cell? w0 _ HZ.out.2.2.2.1)).trans HZ.out.2.2.2.1; have q4 := (HBW5.out.cell (World.block_lt_of_cell? w0 _ HZ.out.2.2.2.2.1)).trans HZ.out.2.2.2.2.1; have q5 := (HBW5.out.cell (World.block_lt_of_cell? w0 _ HZ.out.2.2.2.2.2)).trans HZ.out.2.2.2.2.2)
            refine (HIH.out z HMZ.out A4' A5' c4' c5' (wrCur l 91 t.args n ++ [124]) v1 _ HTZ.out HBW5.out HS5.out.own HS5.out.base (HML.out z HMZ.out) (smL_mem (sm_args HSM.out) HMZ.out) (wfL_mem (wf_args HWF.out) HMZ.out) HRZ2.out).mono ?_
            rintro e w9 ⟨v9, rfl, h2, h3, h4⟩
            have HS9 := Lib.hid (HS5.out.call h2 h3 h4)
            have HL9 : Hid ((wrCur l 91 t.args n ++ [124] ++ txtT [] z).length + [(93 : Int)].length ≤ 140737488355328) := Lib.hid (by have := HRZ2.out; simp only [List.length_append, List.length_cons, List.length_nil] at this ⊢; omega)
            clear h2 h3 h4 q0 q1 q2 q3 q4 q5 t5 HS5
            have t0 := HS9.out.tm.c0
            have t1 := HS9.out.tm.c1
            have t2 := HS9.out.tm.c2
            have t3 := HS9.out.tm.c3
            have t4 := HS9.out.tm.c4
            have t5 := HS9.out.tm.c5
            go_wp2_with (at_builtin; refine append_lit (w0 := w9) B rfl (.tmp 125) (.tmp 128) 49 5 rfl Tryz.underlying49 infoU8 v9 (wrCur l 91 t.args n ++ [124] ++ txtT [] z) [93] rfl ?hx ?hO ?hB ?hbs ?hl ?_; (case hx => first | rfl | (simp [Act.eval]; done)); (case hO => exact HS9.out.own); (case hB => exact Below.refl _ _); (case hbs => exact HS9.out.base); (case hl => exact HL9.out); intro v1 w5 ho hb hg; have HS5 := Lib.hid (HS9.out.app ho hb hg); have HK5 := Lib.hid ((Lib.OthersKept.refl tyU8 none w9).grown hg (own_kind HS9.out.own)); clear ho hb hg t0 t1 t2 t3 t4 t5; have t0 := HS5.out.tm.c0; have t1 := HS5.out.tm.c1; have t2 := HS5.out.tm.c2; have t3 := HS5.out.tm.c3; have t4 := HS5.out.tm.c4; have t5 := HS5.out.tm.c5)
            go_ret
            rw [HE.out]
            exact HS5.out.done

set_option maxRecDepth 100000 in
set_option maxHeartbeats 2000000 in
theorem term_Print (t : Tm) (A4 A5 : Option Addr) (c4 c5 : Nat) (w : World) (hR : TmR w t A4 c4 A5 c5) (hsm : smT t = true) (hwf : wfT t = true) (hG : Glob w) :
    Calls Tryz.prog 25 #[tmV t (.slice A4 t.nums.length c4) (.slice A5 t.args.length c5)] w (StrPost w (printT t)) := by
  have HT1 := Lib.hid (TmAt.new w t (.slice A4 t.nums.length c4) (.slice A5 t.args.length c5))
  have hB1 := below_alloc (Below.refl w.heap.size w) (.cells #[.int .i64 t.kd, .int .i64 t.it, .string t.tx, .int .u32 t.cr, .slice A4 t.nums.length c4, .slice A5 t.args.length c5] 27)
  obtain ⟨R, hr⟩ : ∃ R, R = printT t := ⟨_, rfl⟩
  rw [← hr]
  have HQ := Lib.hid hr
  clear hr
  unfold tmV
  go_enter Tryz.func25, Tryz.ntmps25
  go_upto_region 1 with (fail)
  obtain ⟨w1, hw1⟩ : ∃ W, W = w.alloc (.cells #[.int .i64 t.kd, .int .i64 t.it, .string t.tx, .int .u32 t.cr, .slice A4 t.nums.length c4, .slice A5 t.args.length c5] 27) := ⟨_, rfl⟩
  rw [← hw1] at HT1 hB1
  rw [← hw1]
  clear hw1
  have HB1 := Lib.hid hB1
  have HCK := Lib.hid (term_Check t A4 A5 c4 c5 w1 (hR.below hB1) hsm (hG.below hB1))
  have HR := Lib.hid hR
  have HSM := Lib.hid hsm
  have HWF := Lib.hid hwf
  have HG := Lib.hid hG
  clear hR hsm hwf hG hB1
  unfold tmV at HCK
  obtain ⟨q0, q1, q2, q3, q4, q5, _, _, _, _, _, _⟩ := HT1.out
  go_wp2_with fail
  refine HCK.out.mono ?_
  rintro e w2 ⟨ve, rfl, hE, hB2⟩
  have HE := Lib.hid hE
  have HT2 := Lib.hid (HT1.out.below hB2 HT1.out.lt)
  have HB2 := Lib.hid (trans_below HB1.out hB2)
  clear hE hB2 HCK q0 q1 q2 q3 q4 q5
  cases hc : chk t with
  | cons x r =>
    have HQ2 : Hid (R = (⟨#[]⟩, x :: r)) := Lib.hid (HQ.out.trans (by unfold printT; rw [if_neg (by rw [hc]; simp), hc]))
    rw [hc] at HE
    obtain ⟨eb, u, rfl, _⟩ := HE.out
    clear hc
    go_wp2_with fail
    go_ret2
    rw [HQ2.out]
    exact ⟨_, rfl, HE.out, HB2.out⟩
  | nil =>
    have HQ2 : Hid (R = (strOfNums (txtT [] t), [])) := Lib.hid (HQ.out.trans (by unfold printT; rw [if_pos hc]))
    rw [hc] at HE
    obtain rfl : ve = .nilIface := HE.out
    have htl := chk_txt hc HWF.out
    have HW := Lib.hid (term_write w HG.out w2.heap.size HB2.out.size t A4 A5 c4 c5 [] (.slice none 0 0) w2 HR.out HB2.out (Kd.own_of_R (Kd.R_nil (Kd.int .u8) tyU8 w2 w2.heap.size (fun _ => True))) (Nat.le_refl _) ⟨1, 0, 0, hc⟩ HSM.out HWF.out (by simp only [List.length_nil]; omega))
    rw [List.nil_append] at HW
    generalize txtT [] t = T at HQ2 HW
    unfold tmV at HW
    obtain ⟨q0, q1, q2, q3, q4, q5, _, _, _, _, _, _⟩ := HT2.out
    clear hc htl
    go_wp2_with fail
    refine HW.out.mono ?_
    rintro e w3 ⟨v3, rfl, ho, hB3, _⟩
    have hcv := own_string (P := Tryz.prog) (src := 49) (dst := 9) Tryz.underlying49 Tryz.underlying5 Tryz.underlying9 ho
    have HB3 := Lib.hid (trans_below HB2.out hB3)
    clear ho hB3 HW q0 q1 q2 q3 q4 q5
    go_wp2_with fail
    go_ret2
    rw [HQ2.out]
    exact ⟨_, rfl, rfl, HB3.out⟩
end Go.Proofs.YtgapeacflkfmdaaGreatDoor
set_option linter.unusedSimpArgs false
namespace Go.Proofs.YtgapeacflkfmdaaGreatDoor
open Go.RowKit Go.Sort Go.Proofs.YtgapeacflkfmdaaGreatDoorW.PrintWords

abbrev tyRd : Nat := 89
/-- A reader in block b: its text, its place, how many terms are begun. -/
structure RdAt (W : World) (b : Nat) (s : ByteArray) (k d : Nat) : Prop where
  h : W.heap[b]? = some (.cells #[.string s, .int .i64 (k : Int), .int .i64 (d : Int)] tyRd (0, 0))
theorem RdAt.c0 {W : World} {b : Nat} {s : ByteArray} {k d : Nat} (h : RdAt W b s k d) : W.cell? ⟨b, 0, none⟩ = some (.string s) := by simp [World.cell?, h.h]
theorem RdAt.c1 {W : World} {b : Nat} {s : ByteArray} {k d : Nat} (h : RdAt W b s k d) : W.cell? ⟨b, 1, none⟩ = some (.int .i64 (k : Int)) := by simp [World.cell?, h.h]
theorem RdAt.c2 {W : World} {b : Nat} {s : ByteArray} {k d : Nat} (h : RdAt W b s k d) : W.cell? ⟨b, 2, none⟩ = some (.int .i64 (d : Int)) := by simp [World.cell?, h.h]
theorem RdAt.f1 {W : World} {b : Nat} {s : ByteArray} {k d : Nat} (h : RdAt W b s k d) : W.frozen? ⟨b, 1, none⟩ = false := by simp [World.frozen?, h.h]
theorem RdAt.f2 {W : World} {b : Nat} {s : ByteArray} {k d : Nat} (h : RdAt W b s k d) : W.frozen? ⟨b, 2, none⟩ = false := by simp [World.frozen?, h.h]
theorem RdAt.lt {W : World} {b : Nat} {s : ByteArray} {k d : Nat} (h : RdAt W b s k d) : b < W.heap.size := World.block_lt_of_cell? W _ h.c0
theorem RdAt.below {W W' : World} {b : Nat} {s : ByteArray} {k d : Nat} (h : RdAt W b s k d) (hb : Below W.heap.size W W') : RdAt W' b s k d := ⟨(hb.block b h.lt).trans h.h⟩
theorem RdAt.drewN {W : World} {b : Nat} {s : ByteArray} {k d : Nat} (h : RdAt W b s k d) (n : Nat) : RdAt (W.drewN n) b s k d := ⟨h.h⟩
theorem RdAt.set1 {W : World} {b : Nat} {s : ByteArray} {k d : Nat} (h : RdAt W b s k d) (j : Int) (n : Nat) (hj : j = (n : Int)) : RdAt (W.setCell ⟨b, 1, none⟩ (.int .i64 j)) b s n d := by
  subst hj
  refine ⟨?_⟩
  have hl := h.lt
  have e := h.h
  simp only [World.setCell]
  rw [Array.getElem?_modify]
  simp [e]
theorem RdAt.set2 {W : World} {b : Nat} {s : ByteArray} {k d : Nat} (h : RdAt W b s k d) (j : Int) (n : Nat) (hj : j = (n : Int)) : RdAt (W.setCell ⟨b, 2, none⟩ (.int .i64 j)) b s k n := by
  subst hj
  refine ⟨?_⟩
  have hl := h.lt
  have e := h.h
  simp only [World.setCell]
  rw [Array.getElem?_modify]
  simp [e]
/-- The reader in block b stands at k now; besides, only new blocks. -/
def RdTo (W : World) (b : Nat) (s : ByteArray) (k d : Nat) (W' : World) : Prop := W.grownBy W' (some b) ∧ RdAt W' b s k d
theorem RdTo.refl {W : World} {b : Nat} {s : ByteArray} {k d : Nat} (h : RdAt W b s k d) : RdTo W b s k d W := ⟨World.grownBy.refl _ _, h⟩
theorem RdTo.trans {W W1 W2 : World} {b : Nat} {s : ByteArray} {k d k2 d2 : Nat} (h : RdTo W b s k d W1) (h2 : RdTo W1 b s k2 d2 W2) : RdTo W b s k2 d2 W2 := ⟨h.1.trans h2.1, h2.2⟩
theorem RdTo.below {W W1 W2 : World} {b : Nat} {s : ByteArray} {k d : Nat} (h : RdTo W b s k d W1) (h2 : Below W1.heap.size W1 W2) : RdTo W b s k d W2 := ⟨h.1.trans (grown_of_below h2 _), h.2.below h2⟩
theorem RdTo.drewN {W W1 : World} {b : Nat} {s : ByteArray} {k d : Nat} (h : RdTo W b s k d W1) (n : Nat) : RdTo W b s k d (W1.drewN n) := ⟨h.1.trans (grown_drewN _ _ _), h.2.drewN n⟩
theorem RdTo.set1 {W W1 : World} {b : Nat} {s : ByteArray} {k d : Nat} (h : RdTo W b s k d W1) (j : Int) (n : Nat) (hj : j = (n : Int)) : RdTo W b s n d (W1.setCell ⟨b, 1, none⟩ (.int .i64 j)) := ⟨h.1.trans (grown_set _ _ _ _), h.2.set1 j n hj⟩
theorem RdTo.set2 {W W1 : World} {b : Nat} {s : ByteArray} {k d : Nat} (h : RdTo W b s k d W1) (j : Int) (n : Nat) (hj : j = (n : Int)) : RdTo W b s k n (W1.setCell ⟨b, 2, none⟩ (.int .i64 j)) := ⟨h.1.trans (grown_set _ _ _ _), h.2.set2 j n hj⟩
theorem below_of_grown {W W' : World} {b n : Nat} (h : W.grownBy W' (some b)) (hn : n ≤ b) (hs : n ≤ W.heap.size) : Below n W W' := ⟨h.os, h.tape, h.output, h.size, fun i hi => h.block i (by omega) (by simp; omega)⟩
/-- What was made is still there when the reader has gone on. -/
theorem TmMade.grown {W W' : World} {base b : Nat} {t : Tm} {v : Value} {s : ByteArray} {k d : Nat} (h : TmMade W base t v) (hr : RdAt W b s k d) (hg : W.grownBy W' (some b)) : TmMade W' base t v := by
  obtain ⟨v4, v5, e, h4, h5⟩ := h
  exact ⟨v4, v5, e, Kd.R_mono (Kd.R_grown (Kd.R_types h4 hr.h (by decide)) hg (fun k hk => by simpa using hk.2)) (fun _ _ => trivial), Kd.R_mono (Kd.R_grown (Kd.R_types h5 hr.h (by decide)) hg (fun k hk => by simpa using hk.2)) (fun _ _ => trivial)⟩

theorem term_blank (c : Int) (w : World) : Calls Tryz.prog 96 #[.int .u8 c] w fun e w' => e = .returned (.bool (isBlank c)) ∧ w = w' := by
  unfold isBlank
  go_enter Tryz.func96, Tryz.ntmps96
  go_wp2
  all_goals go_ret
  all_goals refine ⟨eb ?_, rfl⟩
  all_goals first | (simp_all; done) | (simp_all; omega) | (rw [Bool.eq_iff_iff]; simp; omega)
theorem term_digit (c : Int) (w : World) : Calls Tryz.prog 97 #[.int .u8 c] w fun e w' => e = .returned (.bool (isDigit c)) ∧ w = w' := by
  unfold isDigit
  go_enter Tryz.func97, Tryz.ntmps97
  go_wp2
  all_goals go_ret
  all_goals refine ⟨eb ?_, rfl⟩
  all_goals first | (simp_all; done) | (simp_all; omega) | (rw [Bool.eq_iff_iff]; simp; omega)
/-- A call that moves the reader, and hands back nothing. -/
def MovePost (W : World) (b : Nat) (s : ByteArray) (k d : Nat) (e : Ending) (w' : World) : Prop := e = .returned (.tuple #[]) ∧ RdTo W b s k d w'
set_option maxRecDepth 100000 in
set_option maxHeartbeats 1000000 in
theorem rd_skip (b : Nat) (s : ByteArray) (k0 d : Nat) (h0 : k0 ≤ s.size) (hm : s.size ≤ 4194304) (w : World) (hS : RdAt w b s k0 d) :
    Calls Tryz.prog 48 #[.pointer (some ⟨b, 0, none⟩)] w (MovePost w b s (blk s k0) d) := by
  go_enter Tryz.func48, Tryz.ntmps48
  go_wp2_with fail
  go_loopg [] (s.size - k0) (fun gk wl => ∃ k : Nat, k ≤ s.size ∧ gk = s.size - k ∧ Hid (blk s k = blk s k0) ∧ Hid (RdTo w b s k d wl))
  case atStart => exact ⟨k0, h0, rfl, rfl, Lib.hid (.refl hS)⟩
  case round =>
    clear hS
    obtain ⟨k, hk, hgk, HR, HS⟩ := hrel
    have HK := Lib.hid hgk
    clear hgk
    have hs := HS.out.2.c0
    have ha := HS.out.2.c1
    have hf := HS.out.2.f1
    have e1 : (0 : Int) ≤ (k : Int) := by omega
    by_cases hlt : k < s.size
    · have e2 : (k : Int) < (s.size : Int) := by omega
      have hb := btk s k
      have hr := bt_range s (k : Int)
      by_cases hbl : isBlank (bt s (k : Int)) = true
      · have HN : Hid (blk s (k + 1) = blk s k0) := Lib.hid ((runEnd_yes hlt hbl).trans HR.out)
        go_wp2_with fail
        go_quiet ((go_at_call 96; exact Calls.quiet_of_same ((term_blank _ _).mono fun e w' h => ⟨h.1, h.2.symm⟩)))
        go_wp2_with fail
        go_roundg (s.size - (k + 1))
        case measure => rw [HK.out]; omega
        case rel => exact ⟨k + 1, by omega, rfl, HN, Lib.hid ((HS.out.drewN _).set1 _ (k + 1) (by omega))⟩
      · have hbl' : isBlank (bt s (k : Int)) = false := by simpa using hbl
        have HN : Hid (blk s k0 = k) := Lib.hid (HR.out.symm.trans (runEnd_no hlt hbl'))
        clear hbl
        go_wp2_with fail
        go_quiet ((go_at_call 96; exact Calls.quiet_of_same ((term_blank _ _).mono fun e w' h => ⟨h.1, h.2.symm⟩)))
        go_wp2_with fail
        go_end0
        rw [HN.out]
        exact ⟨rfl, HS.out.drewN _⟩
    · have HN : Hid (blk s k0 = k) := Lib.hid (HR.out.symm.trans (runEnd_out (by omega)))
      have e2 : decide ((k : Int) < (s.size : Int)) = false := decide_eq_false (by omega)
      go_wp2_with fail
      go_quiet (fail)
      go_wp2_with fail
      go_end0
      rw [HN.out]
      exact ⟨rfl, HS.out.drewN _⟩
end Go.Proofs.YtgapeacflkfmdaaGreatDoor
set_option linter.unusedSimpArgs false
namespace Go.Proofs.YtgapeacflkfmdaaGreatDoor
open Go.RowKit Go.Sort Go.Proofs.YtgapeacflkfmdaaGreatDoorW.PrintWords

theorem rd_text (b : Nat) (s : ByteArray) (k d : Nat) (w : World) (hS : RdAt w b s k d) :
    Calls Tryz.prog 51 #[.pointer (some ⟨b, 0, none⟩)] w (ErrPost w [⟨nTerm, k, 41⟩]) := by
  have h1 := hS.c1
  clear hS
  go_enter Tryz.func51, Tryz.ntmps51
  go_wp2_with fail
  refine (term_fault _ _ _ _ [] rfl).mono ?_
  rintro e w' ⟨v, rfl, hE, hB⟩
  have HE := Lib.hid hE
  have HB := Lib.hid hB
  clear hE hB
  go_wp2_with fail
  go_ret
  exact ⟨_, rfl, HE.out, HB.out⟩

def hitAt (s : ByteArray) (k : Nat) (p : ByteArray) : Bool := Lib.hasPrefix (s.extract k s.size).data.toList p.data.toList
def TakePost (w : World) (b : Nat) (s : ByteArray) (k d : Nat) (p : ByteArray) (e : Ending) (w' : World) : Prop :=
  e = .returned (.bool (hitAt s k p)) ∧ RdTo w b s (if hitAt s k p then k + p.size else k) d w'
theorem hasPrefix_len {l p : List UInt8} (h : Lib.hasPrefix l p = true) : p.length ≤ l.length := (List.isPrefixOf_iff_prefix.1 h).length_le
/-- A sign of one byte. -/
theorem hit_one (s : ByteArray) (k : Nat) (c : UInt8) : hitAt s k ⟨#[c]⟩ = isAt s k (c.toNat : Int) := by
  unfold hitAt isAt Lib.hasPrefix
  have hx : bs (s.extract k s.size) = (bs s).drop k := by rw [bs_cut', List.take_of_length_le (by rw [List.length_drop, bs_len]; omega)]
  rw [bs_data'] at hx
  by_cases h : k < s.size
  · rw [bs_drop s k h] at hx
    generalize (s.extract k s.size).data.toList = L at hx
    cases L with
    | nil => simp at hx
    | cons a l =>
      simp only [List.map_cons, List.cons.injEq] at hx
      rw [← hx.1]
      have : ([c] : List UInt8).isPrefixOf (a :: l) = (c == a) := by simp [List.isPrefixOf]
      change ([c] : List UInt8).isPrefixOf (a :: l) = _
      rw [this, Bool.eq_iff_iff]
      simp only [beq_iff_eq, Bool.and_eq_true, decide_eq_true_eq]
      refine ⟨fun e => ⟨h, by rw [e]⟩, fun e => ?_⟩
      have := e.2
      exact UInt8.toNat_inj.1 (by omega)
  · rw [List.drop_of_length_le (by rw [bs_len]; omega)] at hx
    have hx := List.map_eq_nil_iff.1 hx
    rw [hx]
    simp [h, List.isPrefixOf]
set_option maxRecDepth 100000 in
set_option maxHeartbeats 1000000 in
theorem rd_take (b : Nat) (s : ByteArray) (k0 d : Nat) (p : ByteArray) (h0 : k0 ≤ s.size) (hm : s.size ≤ 4194304) (w : World) (hS : RdAt w b s k0 d) :
    Calls Tryz.prog 99 #[.pointer (some ⟨b, 0, none⟩), .string p] w (TakePost w b s (blk s k0) d p) := by
  have HS := Lib.hid (rd_skip b s k0 d h0 hm w hS)
  have hk := runEnd_le isBlank s k0 h0
  change blk s k0 ≤ s.size at hk
  generalize blk s k0 = k at hk HS ⊢
  clear hS h0
  go_enter Tryz.func99, Tryz.ntmps99
  go_wp2_with fail
  refine HS.out.mono ?_
  rintro e w1 ⟨rfl, hR⟩
  have HR := Lib.hid hR
  have a0 := hR.2.c0
  have a1 := hR.2.c1
  have hf := hR.2.f1
  have e1 : (0 : Int) ≤ (k : Int) := by omega
  have e2 : (k : Int) ≤ (s.size : Int) := by omega
  have HP := Lib.hid fun W => Tryz.strings_HasPrefix (s.extract k s.size) p W
  have hps : hitAt s k p = true → k + p.size ≤ s.size := by
    intro h
    have := hasPrefix_len h
    rw [← Lib.size_eq, ← Lib.size_eq] at this
    simp at this
    omega
  clear hR HS
  unfold TakePost
  change (Hid (∀ W, Calls Tryz.prog 132 #[.string (s.extract k s.size), .string p] W fun e w' => e = .returned (.bool (hitAt s k p)) ∧ w' = W)) at HP
  cases hh : hitAt s k p with
  | false =>
    rw [hh] at HP
    clear hps
    go_wp2_with fail
    go_quiet ((go_at_call 132; exact (HP.out _).mono fun e w' h => ⟨h.1, _, h.2⟩))
    go_wp2_with fail
    go_ret
    unfold TakePost
    rw [hh]
    exact ⟨rfl, HR.out.drewN _⟩
  | true =>
    rw [hh] at HP
    have hps := hps hh
    go_wp2_with fail
    go_quiet ((go_at_call 132; exact (HP.out _).mono fun e w' h => ⟨h.1, _, h.2⟩))
    go_wp2_with fail
    go_ret
    unfold TakePost
    rw [hh]
    exact ⟨rfl, (HR.out.drewN _).set1 _ (k + p.size) (by omega)⟩
theorem rd_take1 (b : Nat) (s : ByteArray) (k0 d : Nat) (c : UInt8) (h0 : k0 ≤ s.size) (hm : s.size ≤ 4194304) (w : World) (hS : RdAt w b s k0 d) :
    Calls Tryz.prog 99 #[.pointer (some ⟨b, 0, none⟩), .string ⟨#[c]⟩] w fun e w' => e = .returned (.bool (isAt s (blk s k0) (c.toNat : Int))) ∧ RdTo w b s (if isAt s (blk s k0) (c.toNat : Int) then blk s k0 + 1 else blk s k0) d w' := by
  refine (rd_take b s k0 d ⟨#[c]⟩ h0 hm w hS).mono ?_
  rintro e w' ⟨h1, h2⟩
  rw [hit_one] at h1 h2
  exact ⟨h1, h2⟩

/-! ### digits -/
/-- A text and an error. -/
def StrE (w : World) (b : Nat) (s : ByteArray) (k d : Nat) (r : ByteArray × Nat × List Lk) (e : Ending) (w' : World) : Prop :=
  ∃ ev, e = .returned (.tuple #[.string r.1, ev]) ∧ ErrIs w' r.2.2 ev ∧ ∃ k', RdTo w b s k' d w' ∧ k ≤ k' ∧ k' ≤ s.size ∧ (r.2.2 = [] → k' = r.2.1)
def digsAt (s : ByteArray) (k : Nat) : ByteArray × Nat × List Lk :=
  if isDig s k = false then (⟨#[]⟩, 0, [⟨nTerm, k, 41⟩]) else (s.extract k (digEnd s k), digEnd s k, [])
theorem zero_txt {s : ByteArray} {k : Nat} (h : k < s.size) (hb : bt s (k : Int) = 48) : s.extract k (k + 1) = ⟨#[48]⟩ := by
  refine ByteArray.ext (Array.toList_inj.1 ?_)
  have hx : bs (s.extract k (k + 1)) = [48] := by
    rw [bs_cut', bs_drop s k h, hb, show k + 1 - k = 1 by omega]
    rfl
  rw [bs_data'] at hx
  generalize (s.extract k (k + 1)).data.toList = L at hx ⊢
  match L, hx with
  | [c], hx =>
    have h1 : ((c.toNat : Nat) : Int) = 48 := (List.cons.inj hx).1
    have : c = 48 := UInt8.toNat_inj.1 (by change c.toNat = 48; omega)
    rw [this]
  | [], hx => simp at hx
  | _ :: _ :: _, hx => simp at hx
set_option maxRecDepth 100000 in
set_option maxHeartbeats 2000000 in
theorem rd_digits (b : Nat) (s : ByteArray) (k0 d : Nat) (h0 : k0 ≤ s.size) (hm : s.size ≤ 4194304) (w : World) (hS : RdAt w b s k0 d) :
    Calls Tryz.prog 149 #[.pointer (some ⟨b, 0, none⟩)] w (StrE w b s k0 d (digsAt s k0)) := by
  have HS := Lib.hid hS
  have a0 := hS.c0
  have a1 := hS.c1
  have f1 := hS.f1
  have e1 : (0 : Int) ≤ (k0 : Int) := by omega
  obtain ⟨R, hR⟩ : ∃ R, R = digsAt s k0 := ⟨_, rfl⟩
  rw [← hR]
  by_cases hlt : k0 < s.size
  · have d0 : decide (s.size ≤ k0) = false := decide_eq_false (by omega)
    have e2 : (k0 : Int) < (s.size : Int) := by omega
    have hb := btk s k0
    have hr := bt_range s (k0 : Int)
    cases hd : isDigit (bt s (k0 : Int)) with
    | false =>
      have HR : Hid (R = (⟨#[]⟩, 0, [⟨nTerm, k0, 41⟩])) := Lib.hid (hR.trans (by unfold digsAt isDig; rw [if_pos (by simp [hd])]))
      clear hR hS
      go_enter Tryz.func149, Tryz.ntmps149
      go_wp2_with fail
      refine (term_digit _ _).mono ?_
      rintro e w' ⟨rfl, rfl⟩
      rw [hd]
      go_wp2_with fail
      refine (rd_text b s k0 d _ HS.out).mono ?_
      rintro e w1 ⟨v, rfl, hE, hB⟩
      have HE := Lib.hid hE
      have HB := Lib.hid hB
      clear hE hB a0 a1 f1
      go_wp2_with fail
      go_ret2
      rw [HR.out]
      exact ⟨_, rfl, HE.out, k0, (RdTo.refl HS.out).below HB.out, Nat.le_refl _, h0, fun h => by simp at h⟩
    | true =>
      have HR : Hid (R = (s.extract k0 (digEnd s k0), digEnd s k0, [])) := Lib.hid (hR.trans (by unfold digsAt isDig; rw [if_neg (by simp [hd, hlt])]))
      have HD := Lib.hid hd
      clear hR hS
      by_cases hz : bt s (k0 : Int) = 48
      · have HZ : Hid (R = (⟨#[48]⟩, k0 + 1, [])) := Lib.hid (by rw [HR.out]; unfold digEnd; rw [if_pos hz, zero_txt hlt hz])
        have dz : (bt s (k0 : Int) == 48) = true := beq_iff_eq.2 hz
        clear hz
        go_enter Tryz.func149, Tryz.ntmps149
        go_wp2_with fail
        refine (term_digit _ _).mono ?_
        rintro e w' ⟨rfl, rfl⟩
        rw [hd]
        go_wp2_with fail
        go_ret2
        rw [HZ.out]
        exact ⟨_, rfl, rfl, k0 + 1, (RdTo.refl HS.out).set1 _ _ (by omega), by omega, by omega, fun _ => rfl⟩
      · have HZ : Hid (digEnd s k0 = runEnd isDigit s k0) := Lib.hid (by unfold digEnd; rw [if_neg hz])
        have dz : (bt s (k0 : Int) == 48) = false := beq_eq_false_iff_ne.2 hz
        clear hz
        go_enter Tryz.func149, Tryz.ntmps149
        go_wp2_with fail
        refine (term_digit _ _).mono ?_
        rintro e w' ⟨rfl, rfl⟩
        rw [hd]
        clear hd
        go_wp2_with fail
        go_loopg [] (s.size - (k0 + 1)) (fun gk wl => ∃ k : Nat, k0 < k ∧ k ≤ s.size ∧ gk = s.size - k ∧ Hid (runEnd isDigit s k = digEnd s k0) ∧ Hid (RdTo w b s k d wl))
        case atStart => exact ⟨k0 + 1, by omega, by omega, rfl, Lib.hid ((runEnd_yes hlt HD.out).trans HZ.out.symm), Lib.hid ((RdTo.refl HS.out).set1 _ _ (by omega))⟩
        case round =>
          clear a0 a1 f1 hb hr
          obtain ⟨k, hk0, hk, hgk, HQ, HW⟩ := hrel
          have HK := Lib.hid hgk
          clear hgk
          have a0 := HW.out.2.c0
          have a1 := HW.out.2.c1
          have f1 := HW.out.2.f1
          have e1 : (0 : Int) ≤ (k : Int) := by omega
          have e3 : (0 : Int) ≤ (k0 : Int) := by omega
          have e4 : (k0 : Int) ≤ (k : Int) := by omega
          have e5 : (k : Int) ≤ (s.size : Int) := by omega
          by_cases hl : k < s.size
          · have e2 : (k : Int) < (s.size : Int) := by omega
            have hb := btk s k
            have hr := bt_range s (k : Int)
            cases hdd : isDigit (bt s (k : Int)) with
            | true =>
              have HN : Hid (runEnd isDigit s (k + 1) = digEnd s k0) := Lib.hid ((runEnd_yes hl hdd).trans HQ.out)
              go_wp2_with fail
              go_quiet ((go_at_call 97; exact Calls.quiet_of_same ((term_digit _ _).mono fun e w' h => ⟨h.1, h.2.symm⟩)))
              go_wp2_with fail
              go_roundg (s.size - (k + 1))
              case measure => rw [HK.out]; omega
              case rel => exact ⟨k + 1, by omega, by omega, rfl, HN, Lib.hid ((HW.out.drewN _).set1 _ (k + 1) (by omega))⟩
            | false =>
              have HN : Hid (digEnd s k0 = k) := Lib.hid (HQ.out.symm.trans (runEnd_no hl hdd))
              go_wp2_with fail
              go_quiet ((go_at_call 97; exact Calls.quiet_of_same ((term_digit _ _).mono fun e w' h => ⟨h.1, h.2.symm⟩)))
              go_wp2_with fail
              go_quiet (fail)
              go_wp2_with fail
              go_ret2
              rw [HR.out, HN.out]
              exact ⟨_, rfl, rfl, k, (HW.out.drewN _).drewN _, by omega, by omega, fun _ => rfl⟩
          · have HN : Hid (digEnd s k0 = k) := Lib.hid (HQ.out.symm.trans (runEnd_out (by omega)))
            have e2 : decide ((k : Int) < (s.size : Int)) = false := decide_eq_false (by omega)
            go_wp2_with fail
            go_quiet (fail)
            go_wp2_with fail
            go_quiet (fail)
            go_wp2_with fail
            go_ret2
            rw [HR.out, HN.out]
            exact ⟨_, rfl, rfl, k, (HW.out.drewN _).drewN _, by omega, by omega, fun _ => rfl⟩
  · have d0 : decide (s.size ≤ k0) = true := decide_eq_true (by omega)
    have HR : Hid (R = (⟨#[]⟩, 0, [⟨nTerm, k0, 41⟩])) := Lib.hid (hR.trans (by unfold digsAt isDig; rw [if_pos (by simp [hlt])]))
    clear hR hS
    go_enter Tryz.func149, Tryz.ntmps149
    go_wp2_with fail
    refine (rd_text b s k0 d _ HS.out).mono ?_
    rintro e w1 ⟨v, rfl, hE, hB⟩
    have HE := Lib.hid hE
    have HB := Lib.hid hB
    clear hE hB a0 a1 f1
    go_wp2_with fail
    go_ret2
    rw [HR.out]
    exact ⟨_, rfl, HE.out, k0, (RdTo.refl HS.out).below HB.out, Nat.le_refl _, h0, fun h => by simp at h⟩
end Go.Proofs.YtgapeacflkfmdaaGreatDoor
set_option linter.unusedSimpArgs false
namespace Go.Proofs.YtgapeacflkfmdaaGreatDoor
open Go.RowKit Go.Sort Go.Proofs.YtgapeacflkfmdaaGreatDoorW.PrintWords

def foldD (acc : Nat) (l : List UInt8) : Nat := l.foldl (fun a c => a * 10 + (c.toNat - 48)) acc
def digL (l : List UInt8) : Prop := ∀ c ∈ l, 48 ≤ c.toNat ∧ c.toNat ≤ 57
theorem foldD_ge : ∀ (l : List UInt8) (acc : Nat), acc ≤ foldD acc l
  | [], acc => Nat.le_refl _
  | c :: l, acc => Nat.le_trans (by omega) (foldD_ge l (acc * 10 + (c.toNat - 48)))
theorem parseM_digits {M : Nat} (hM : M < 18446744073709551616) : ∀ (l : List UInt8) (acc : Nat), digL l → acc ≤ M → Lib.parseUintM M acc l = if foldD acc l ≤ M then .ok (foldD acc l) else .range
  | [], acc, _, h => by rw [Lib.parseUintM, foldD, List.foldl_nil, if_pos h]
  | c :: l, acc, hd, h => by
    have hc := hd c (by simp)
    have e : foldD acc (c :: l) = foldD (acc * 10 + (c.toNat - 48)) l := rfl
    have hge := foldD_ge l (acc * 10 + (c.toNat - 48))
    rw [Lib.parseUintM, if_pos hc, e]
    by_cases h1 : 1844674407370955162 ≤ acc
    · rw [if_pos h1, if_neg (by omega)]
    · rw [if_neg h1]
      by_cases h2 : M < acc * 10 + (c.toNat - 48)
      · rw [if_pos h2, if_neg (by omega)]
      · rw [if_neg h2]
        exact parseM_digits hM l _ (fun x hx => hd x (by simp [hx])) (by omega)
theorem decV_fold : ∀ (l : List UInt8) (acc : Nat), digL l → (l.map fun c => (c.toNat : Int)).foldl (fun a c => a * 10 + (c - 48)) (acc : Int) = (foldD acc l : Nat)
  | [], acc, _ => rfl
  | c :: l, acc, hd => by
    have hc := hd c (by simp)
    have h := decV_fold l (acc * 10 + (c.toNat - 48)) (fun x hx => hd x (by simp [hx]))
    rw [List.map_cons, List.foldl_cons]
    rw [show ((acc : Int) * 10 + ((c.toNat : Int) - 48)) = ((acc * 10 + (c.toNat - 48) : Nat) : Int) by omega]
    exact h
/-- A text of digits: what it says. -/
theorem decAt_txt {s : ByteArray} {k e : Nat} (h : digL (s.extract k e).data.toList) : decAt s k e = (foldD 0 (s.extract k e).data.toList : Nat) := by
  unfold decAt decV
  rw [← bs_cut', bs_data']
  exact decV_fold _ 0 h
theorem run_every (P : Int → Bool) (s : ByteArray) (k : Nat) : ∀ c ∈ bs (s.extract k (runEnd P s k)), P c = true := by
  intro c hc
  obtain ⟨j, hj, rfl⟩ := List.mem_iff_getElem.1 hc
  rw [bs_len] at hj
  have hj' : j < runEnd P s k - k := by
    have : (s.extract k (runEnd P s k)).size ≤ runEnd P s k - k := by simp; omega
    omega
  have hin := Tb.runEnd_in (P := P) (s := s) (k := k) (i := k + j) (by omega) (by omega)
  have e := btk (s.extract k (runEnd P s k)) j hj
  have e2 := btk s (k + j) hin.2
  rw [ByteArray.getElem_extract] at e
  rw [bs_get _ j hj, ← e, e2]
  exact hin.1
theorem digs_all {s : ByteArray} {k : Nat} (h : isDig s k = true) : digL (s.extract k (digEnd s k)).data.toList ∧ (s.extract k (digEnd s k)).data.toList ≠ [] ∧ k < digEnd s k ∧ digEnd s k ≤ s.size := by
  unfold isDig at h
  rw [Bool.and_eq_true, decide_eq_true_eq] at h
  have hlt : k < digEnd s k ∧ digEnd s k ≤ s.size ∧ ∀ c ∈ bs (s.extract k (digEnd s k)), isDigit c = true := by
    unfold digEnd
    split
    · rename_i h0
      refine ⟨by omega, by omega, ?_⟩
      rw [zero_txt h.1 h0]
      decide
    · have h1 := runEnd_yes h.1 h.2
      have h2 := runEnd_ge isDigit s (k + 1)
      exact ⟨by omega, runEnd_le _ _ _ (by omega), run_every _ _ _⟩
  refine ⟨?_, ?_, hlt.1, hlt.2.1⟩
  · intro c hc
    have := hlt.2.2 (c.toNat : Int) (by rw [bs_data']; exact List.mem_map.2 ⟨c, hc, rfl⟩)
    unfold isDigit at this
    simp at this
    omega
  · intro e
    have : (s.extract k (digEnd s k)).size = 0 := by rw [Lib.size_eq, e]; rfl
    simp at this
    omega
theorem parseU_digits {B : Nat} (hB : 2 ^ B - 1 < 18446744073709551616) {l : List UInt8} (hd : digL l) (hn : l ≠ []) : Lib.parseUintB B l = if foldD 0 l ≤ 2 ^ B - 1 then .ok (foldD 0 l) else .range := by
  unfold Lib.parseUintB
  rw [if_neg hn, parseM_digits hB l 0 hd (Nat.zero_le _)]
/-- strconv.ParseUint of digits, at 32 bits. -/
theorem pu32 (D : ByteArray) (hd : digL D.data.toList) (hn : D.data.toList ≠ []) (hm : D.size ≤ 4194304) (w : World) (hG : Glob w) :
    Calls Tryz.prog 188 #[.string D, .int .i64 10, .int .i64 32] w fun e w' => ∃ (n : Int) (ev : Value), e = .returned (.tuple #[.int .u64 n, ev]) ∧ Below w.heap.size w w' ∧
      (foldD 0 D.data.toList ≤ 4294967295 → n = (foldD 0 D.data.toList : Nat) ∧ ev = .nilIface) ∧ (4294967295 < foldD 0 D.data.toList → ∃ t N, ev = .iface t (.pointer (some ⟨N, 0, none⟩))) := by
  have h := parseU_digits (B := 32) (by decide) hd hn
  by_cases hle : foldD 0 D.data.toList ≤ 4294967295
  · rw [if_pos (by simpa using hle)] at h
    refine (Tryz.strconv_ParseUint_10_at32_ok D (by omega) _ h w).mono ?_
    rintro e w' ⟨rfl, hw⟩
    refine ⟨_, _, rfl, ?_, fun _ => ⟨rfl, rfl⟩, fun h => absurd h (by omega)⟩
    rcases hw with rfl | rfl
    · exact Below.refl _ _
    · exact bytesWorld_below _ _ _
  · rw [if_neg (by simpa using hle)] at h
    obtain ⟨t, p, hc⟩ := hG.rg
    refine (Tryz.strconv_ParseUint_10_at32_range D (by omega) h _ w hc (.inr ⟨t, p, rfl⟩)).mono ?_
    rintro e w' ⟨N, rfl, _, _, hb⟩
    exact ⟨_, _, rfl, hb, fun h => absurd h hle, fun _ => ⟨_, N, rfl⟩⟩
/-- A sign and digits, as strconv.ParseInt has it. -/
def sgn (neg : Bool) : Int := if neg then -1 else 1
def signTxt (neg : Bool) : ByteArray := if neg then ⟨#[45]⟩ else ⟨#[]⟩
theorem pi64 (neg : Bool) (D : ByteArray) (hd : digL D.data.toList) (hn : D.data.toList ≠ []) (hm : D.size ≤ 4194304) (T : ByteArray) (hT : T.data.toList = (if neg then [45] else []) ++ D.data.toList) (w : World) (hG : Glob w) :
    Calls Tryz.prog 150 #[.string T, .int .i64 10, .int .i64 64] w fun e w' => ∃ (n : Int) (ev : Value), e = .returned (.tuple #[.int .i64 n, ev]) ∧ Below w.heap.size w w' ∧
      ((ev = .nilIface ∧ n = sgn neg * (foldD 0 D.data.toList : Nat)) ∨ ((∃ t N, ev = .iface t (.pointer (some ⟨N, 0, none⟩))) ∧ (sgn neg * (foldD 0 D.data.toList : Nat) < -9223372036854775808 ∨ 9223372036854775807 < sgn neg * (foldD 0 D.data.toList : Nat)))) := by
  have hsz : T.size ≤ 4194305 := by
    rw [Lib.size_eq, hT, List.length_append]
    split <;> simp <;> omega
  have h := parseU_digits (B := 64) (by decide) hd hn
  have hpi : Lib.parseIntB 64 T.data.toList = (match Lib.parseUintB 64 D.data.toList with
    | Lib.NumEnd.syntax => Lib.NumEnd.syntax
    | .range => .range
    | .ok u => if ¬ neg = true ∧ 2 ^ 63 ≤ u then .range else if neg = true ∧ 2 ^ 63 < u then .range else .ok (if neg then -(u : Int) else u)) := by
    rw [hT]
    cases neg with
    | true => simp [Lib.parseIntB]; cases Lib.parseUintB 64 D.data.toList <;> rfl
    | false =>
      cases hD : D.data.toList with
      | nil => exact absurd hD hn
      | cons c r =>
        have hc := hd c (by rw [hD]; simp)
        have h1 : ¬ c.toNat = 45 := by omega
        have h2 : ¬ c.toNat = 43 := by omega
        simp [Lib.parseIntB, h1, h2]; cases Lib.parseUintB 64 (c :: r) <;> rfl
  rw [h] at hpi
  generalize foldD 0 D.data.toList = u at hpi
  have hpi : Lib.parseIntB 64 T.data.toList = if -9223372036854775808 ≤ sgn neg * (u : Int) ∧ sgn neg * (u : Int) ≤ 9223372036854775807 then .ok (sgn neg * (u : Int)) else .range := by
    rw [hpi]
    unfold sgn
    by_cases h1 : u ≤ 2 ^ 64 - 1
    · rw [if_pos h1]
      cases neg with
      | true =>
        by_cases h2 : 2 ^ 63 < u
        · simp [h2]; omega
        · have e : ((-1 : Int) * (u : Int)) = -(u : Int) := by omega
          simp [h2, e]; omega
      | false =>
        by_cases h2 : 2 ^ 63 ≤ u
        · simp [h2]; omega
        · simp [h2]; omega
    · rw [if_neg h1]
      cases neg <;> simp <;> omega
  by_cases hr : -9223372036854775808 ≤ sgn neg * (u : Int) ∧ sgn neg * (u : Int) ≤ 9223372036854775807
  · rw [if_pos hr] at hpi
    refine (Tryz.strconv_ParseInt_10_at64_ok T (by omega) _ hpi w).mono ?_
    rintro e w' ⟨rfl, hw⟩
    refine ⟨_, _, rfl, ?_, .inl ⟨rfl, rfl⟩⟩
    rcases hw with rfl | ⟨t, rfl⟩
    · exact Below.refl _ _
    · exact bytesWorld_below _ _ _
  · rw [if_neg hr] at hpi
    obtain ⟨t, p, hc⟩ := hG.rg
    refine (Tryz.strconv_ParseInt_10_at64_range T (by omega) hpi _ w hc (.inr ⟨t, p, rfl⟩)).mono ?_
    rintro e w' ⟨N, rfl, _, _, hb⟩
    exact ⟨_, _, rfl, hb, .inr ⟨⟨_, N, rfl⟩, by omega⟩⟩
end Go.Proofs.YtgapeacflkfmdaaGreatDoor
