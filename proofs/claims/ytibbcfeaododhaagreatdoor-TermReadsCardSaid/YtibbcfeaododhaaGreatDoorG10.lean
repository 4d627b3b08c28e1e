/-
 term.write, Print. heddlelaw02.awake. The walk of TermChecks. heddleref02.Same: two terms are the same just where they are equal. TermReads: which texts are terms.
-/
import Derived.Test.YtibbcfeaododhaaGreatDoorG9
import Derived.Test.YtibbcfeaododhaaGreatDoorG6
import Derived.Deep.RegionHeld3
import Derived.Test.YtibbcfeaododhaaGreatDoorG3
import Derived.Test.YtibbcfeaododhaaGreatDoorKPSex1
set_option linter.unusedSimpArgs false
namespace Go.Proofs.YtibbcfeaododhaaGreatDoor
open Go.RowKit Go.Sort Go.Proofs.YtibbcfeaododhaaGreatDoorW.PrintWords Tb
theorem numsTxt_snoc {ns : List Int} {i : Nat} (h : i < ns.length) : numsTxt (ns.take (i + 1)) = numsTxt (ns.take i) ++ (46 :: itoaI ns[i]) := by
 unfold numsTxt
 rw [List.take_succ_eq_append_getElem h, List.flatMap_append]
 simp
theorem rd_get {ns : List Int} {i : Nat} (h : i < ns.length) : rd ns (i : Int) = ns[i] := by
 unfold rd
 rw [Int.toNat_natCast, List.getD_eq_getElem?_getD, List.getElem?_eq_getElem h]
 rfl
theorem numsTake_len (ns : List Int) (h : ∀ n ∈ ns, isU32 n) (i : Nat) : (numsTxt (ns.take i)).length ≤ 22 * ns.length := by
 have h1 := nums_len (ns.take i) (fun n hn => h n (List.mem_of_mem_take hn))
 have h2 : (ns.take i).length ≤ ns.length := by rw [List.length_take]; omega
 omega
/-- What stands ahead of the k-th part. -/
def wrPre (l : List Int) (o : Int) (ts : List Tm) (k : Nat) : List Int := l ++ o :: sepPre [44] ((ts.take k).map (txtT []))
def wrCur (l : List Int) (o : Int) (ts : List Tm) (k : Nat) : List Int := l ++ o :: sepBy [44] ((ts.take k).map (txtT []))
theorem wrPre_zero (l : List Int) (o : Int) (ts : List Tm) : wrPre l o ts 0 = wrCur l o ts 0 := by
 unfold wrPre wrCur sepPre
 rw [List.take_zero, List.map_nil, if_pos rfl]
 rfl
theorem wrPre_pos {l : List Int} {o : Int} {ts : List Tm} {k : Nat} (h0 : 0 < k) (h : k ≤ ts.length) : wrPre l o ts k = wrCur l o ts k ++ [44] := by
 unfold wrPre wrCur sepPre
 rw [if_neg (fun e => by have := congrArg List.length e; rw [List.length_map, List.length_take, List.length_nil] at this; omega)]
 simp
theorem wrCur_succ {l : List Int} {o : Int} {ts : List Tm} {k : Nat} (h : k < ts.length) : wrCur l o ts (k + 1) = wrPre l o ts k ++ txtT [] ts[k] := by
 unfold wrPre wrCur
 rw [List.take_succ_eq_append_getElem h, List.map_append, List.map_cons, List.map_nil, sepBy_snoc]
 simp
theorem wrPre_len {l : List Int} {o : Int} {ts : List Tm} {k n : Nat} (h : k < n) (hn : n ≤ ts.length) : (wrPre l o ts k).length + (txtT [] (ts[k]'(by omega))).length ≤ l.length + 1 + (sepBy [44] ((ts.take n).map (txtT []))).length := by
 have e : (ts.take n).map (txtT []) = (ts.take k).map (txtT []) ++ txtT [] (ts[k]'(by omega)) :: (((ts.take n).drop (k + 1)).map (txtT [])) := by
  have h1 : ts.take n = ts.take k ++ ts[k]'(by omega) :: (ts.take n).drop (k + 1) := by
   have h2 : (ts.take n).take k = ts.take k := by rw [List.take_take, Nat.min_eq_left (by omega)]
   have h3 : k < (ts.take n).length := by rw [List.length_take]; omega
   have h4 := List.take_append_drop k (ts.take n)
   rw [List.drop_eq_getElem_cons h3, h2] at h4
   rw [List.getElem_take] at h4
   exact h4.symm
  calc (ts.take n).map (txtT []) = (ts.take k ++ ts[k]'(by omega) :: (ts.take n).drop (k + 1)).map (txtT []) := by rw [← h1]
   _ = _ := by rw [List.map_append, List.map_cons]
 rw [e, sepBy_split]
 unfold wrPre
 simp only [List.length_append, List.length_cons]
 omega
theorem WrS.tmBox {W w1 : World} {B b n : Nat} {v : Value} {xs : List Value} {a : Tm} {v4 v5 : Value} (hb : W.heap[b]? = some (.cells #[.int .i64 a.kd, .int .i64 a.it, .string a.tx, .int .u32 a.cr, v4, v5] tyTm (0, 0))) (ho : W.ownsRow B tyU8 1 v n xs) (hg : W.grownBy w1 v.ownBlock) : w1.heap[b]? = some (.cells #[.int .i64 a.kd, .int .i64 a.it, .string a.tx, .int .u32 a.cr, v4, v5] tyTm (0, 0)) := by
 rw [hg.block _ (Array.getElem?_eq_some_iff.1 hb).1 ?_]
 ·exact hb
 ·intro hk
  obtain ⟨c, fz, hc⟩ := own_kind ho _ hk.symm
  rw [hb] at hc
  injection hc with hc
  injection hc with _ hc
  exact absurd hc (by decide)
theorem tmAt_of_box {W : World} {b : Nat} {a : Tm} {v4 v5 : Value} (e : W.heap[b]? = some (.cells #[.int .i64 a.kd, .int .i64 a.it, .string a.tx, .int .u32 a.cr, v4, v5] tyTm (0, 0))) : TmAt W b a v4 v5 := by
 constructor <;> simp [World.cell?, World.frozen?, e]
set_option maxRecDepth 100000 in
set_option maxHeartbeats 8000000 in
theorem term_write (w0 : World) (hG0 : Glob w0) (B : Nat) (hB0 : w0.heap.size ≤ B) (t : Tm) : ∀ (A4 A5 : Option Addr) (c4 c5 : Nat) (l : List Int) (v : Value) (w : World), TmR w0 t A4 c4 A5 c5 → Below w0.heap.size w0 w → w.ownsRow B tyU8 1 v l.length (nums .u8 l) → B ≤ w.heap.size →
  (∃ D n m, (measT t D n m).1 = []) → smT t = true → wfT t = true → l.length + (txtT [] t).length + 1300 ≤ 140737488355328 →
  Calls Tryz.prog 65 #[v, tmV t (.slice A4 t.nums.length c4) (.slice A5 t.args.length c5)] w (WrPost w B (l ++ txtT [] t)) := by
 induction t using Tm.ind with
 | h t ih =>
  intro A4 A5 c4 c5 l v w hR hB hO hBw hms hsm hwf hlen
  have HMS := Lib.hid hms
  obtain ⟨D9, n9, m9, hms⟩ := hms
  have hok := meas_ok t D9 n9 m9 hms
  obtain ⟨_, hf, hml, _, _⟩ := meas_parts hms
  have hit : t.kd = 1 → small64 t.it := fun hk => by have := form_int hf hk; unfold small64; omega
  have HML : Hid (∀ a ∈ t.args, ∃ D n m, (measT a D n m).1 = []) := Lib.hid fun a ha => by obtain ⟨n', m', h⟩ := measL_mem hml a ha; exact ⟨_, n', m', h⟩
  clear hms hf hml
  have HIH := Lib.hid ih
  have HR := Lib.hid hR
  have HB := Lib.hid hB
  have HG0 := Lib.hid hG0
  have HSM := Lib.hid hsm
  have HWF := Lib.hid hwf
  have HOK := Lib.hid hok
  have hkd := shape_kd hok
  obtain ⟨R, hR0⟩ : ∃ R, R = txtT [] t := ⟨_, rfl⟩
  rw [← hR0] at hlen
  rw [← hR0]
  rw [txtT_eq] at hR0
  have HS1 := Lib.hid (WrS.start t (.slice A4 t.nums.length c4) (.slice A5 t.args.length c5) hO hBw)
  have HGB : Hid (GlobB w B) := Lib.hid (GlobB.up hG0 hB hB0)
  have HOKV : Hid (∃ A c, v = .slice A l.length c) := by
   obtain ⟨A, c, h, _⟩ := own_reads hO
   exact Lib.hid ⟨A, c, h⟩
  clear ih hR hB hO hG0 hsm hwf hok
  unfold tmV
  go_enter Tryz.func65, Tryz.ntmps65
  go_upto_region 1 with (fail)
  obtain ⟨w1, hw1⟩ : ∃ W, W = w.alloc (.cells #[.int .i64 t.kd, .int .i64 t.it, .string t.tx, .int .u32 t.cr, .slice A4 t.nums.length c4, .slice A5 t.args.length c5] 27) := ⟨_, rfl⟩
  rw [← hw1] at HS1
  rw [← hw1]
  clear hw1
  have t0 := HS1.out.tm.c0
  have t1 := HS1.out.tm.c1
  have t2 := HS1.out.tm.c2
  have t3 := HS1.out.tm.c3
  have t4 := HS1.out.tm.c4
  have t5 := HS1.out.tm.c5
  rcases (show t.kd = 1 ∨ t.kd = 2 ∨ t.kd = 3 ∨ t.kd = 4 ∨ t.kd = 5 ∨ t.kd = 6 ∨ t.kd = 7 by omega) with hk | hk | hk | hk | hk | hk | hk
  ·have d1 : (t.kd == 1) = true := beq_iff_eq.2 hk
   rw [if_pos hk] at hR0
   have HQ := Lib.hid hR0
   have hi := hit hk
   have HC := Lib.hid (app_int t.it hi.1 hi.2 HS1.out.own HS1.out.base (HGB.out.trans HS1.out.below) (by omega))
   clear hR0 hit hk hkd hi
   go_wp2_with fail
   refine HC.out.mono ?_
   rintro e w2 ⟨v2, rfl, h2, h3, h4⟩
   have HS2 := Lib.hid (HS1.out.call h2 h3 h4)
   clear h2 h3 h4 HC t0 t1 t2 t3 t4 t5
   go_wp2_with fail
   go_ret
   rw [HQ.out]
   exact HS2.out.done
  ·have d1 : (t.kd == 1) = false := beq_eq_false_iff_ne.2 (by omega)
   have d2 : (t.kd == 2) = true := beq_iff_eq.2 hk
   rw [if_neg (by omega), if_pos hk] at hR0
   have HQ := Lib.hid hR0
   have hql : (bs (quoted t.tx).1).length ≤ 1022 := by rw [bs_len]; exact quoted_size _
   have HC := Lib.hid (term_quoted t.tx (sm_tx HSM.out) HS1.out.own HS1.out.base (HGB.out.trans HS1.out.below) (by omega))
   clear hR0 hit hk hkd hql
   go_wp2_with fail
   refine HC.out.mono ?_
   rintro e w2 ⟨v2, rfl, h2, h3, h4⟩
   have HS2 := Lib.hid (HS1.out.call h2 h3 h4)
   clear h2 h3 h4 HC t0 t1 t2 t3 t4 t5
   go_wp2_with fail
   go_ret
   rw [HQ.out]
   exact HS2.out.done
  ·have d1 : (t.kd == 1) = false := beq_eq_false_iff_ne.2 (by omega)
   have d2 : (t.kd == 2) = false := beq_eq_false_iff_ne.2 (by omega)
   have d3 : (t.kd == 3) = true := beq_iff_eq.2 hk
   rw [if_neg (by omega), if_neg (by omega), if_pos hk] at hR0
   have HQ := Lib.hid hR0
   have HN : Hid (t.nums.length ≤ 3) := Lib.hid (by have := shape_ref HOK.out hk; omega)
   have HL : Hid (l.length + 4 ≤ 140737488355328) := Lib.hid (by omega)
   clear hR0 hit hk hkd
   go_upto_region 10 with (at_builtin; refine print_append_str (w0 := w1) B rfl (.tmp 31) _ 104 9 5 rfl Tryz.underlying104 Tryz.underlying9 infoU8 v l ⟨#[35, 82, 101, 102]⟩ rfl rfl ?hO ?hB ?hbs ?hl ?_; (case hO => exact HS1.out.own); (case hB => exact Below.refl _ _); (case hbs => exact HS1.out.base); (case hl => exact HL.out); intro v3 w3 ho hb hg; have HS3 : Hid (WrS w w3 B t (.slice A4 t.nums.length c4) (.slice A5 t.args.length c5) (l ++ [35, 82, 101, 102]) v3) := Lib.hid (HS1.out.app ho hb hg); clear ho hb hg t0 t1 t2 t3 t4 t5; have t0 := HS3.out.tm.c0; have t1 := HS3.out.tm.c1; have t2 := HS3.out.tm.c2; have t3 := HS3.out.tm.c3; have t4 := HS3.out.tm.c4; have t5 := HS3.out.tm.c5)
   have HL1 : Hid (((l ++ [35, 82, 101, 102])).length + [(60 : Int)].length ≤ 140737488355328) := Lib.hid (by simp only [List.length_append, List.length_cons, List.length_nil]; omega)
   go_wp2_with (at_builtin; refine append_lit (w0 := w3) B rfl (.tmp 33) (.tmp 34) 104 5 rfl Tryz.underlying104 infoU8 v3 ((l ++ [35, 82, 101, 102])) [60] rfl ?hx ?hO ?hB ?hbs ?hl ?_; (case hx => first | rfl | (simp [Act.eval]; done)); (case hO => exact HS3.out.own); (case hB => exact Below.refl _ _); (case hbs => exact HS3.out.base); (case hl => exact HL1.out); intro v1 w5 ho hb hg; have HS5 := Lib.hid (HS3.out.app ho hb hg); have HK5 := Lib.hid ((Lib.OthersKept.refl tyU8 none w3).grown hg (own_kind HS3.out.own)); clear ho hb hg t0 t1 t2 t3 t4 t5; have t0 := HS5.out.tm.c0; have t1 := HS5.out.tm.c1; have t2 := HS5.out.tm.c2; have t3 := HS5.out.tm.c3; have t4 := HS5.out.tm.c4; have t5 := HS5.out.tm.c5)
   have hl6 : ((l ++ [35, 82, 101, 102]) ++ [60]).length + 1200 ≤ 140737488355328 := by simp only [List.length_append, List.length_cons, List.length_nil]; omega
   generalize hq6 : (l ++ [35, 82, 101, 102]) ++ [60] = l6 at HS5 hl6
   have HL6 := Lib.hid hq6
   clear hq6 HL1
   have HC := Lib.hid (term_quoted t.tx (sm_tx HSM.out) HS5.out.own HS5.out.base (HGB.out.trans HS5.out.below) (by omega))
   refine HC.out.mono ?_
   rintro e w6 ⟨v6, rfl, h2, h3, h4⟩
   have HS6 := Lib.hid (HS5.out.call h2 h3 h4)
   clear t0 t1 t2 t3 t4 t5
   clear h2 h3 h4 HC HS5
   have hl7 : (l6 ++ bs (quoted t.tx).1).length + 170 ≤ 140737488355328 := by have := quoted_size t.tx; rw [List.length_append, bs_len]; omega
   generalize hq7 : l6 ++ bs (quoted t.tx).1 = l7 at HS6 hl7
   have HL7 := Lib.hid hq7
   clear hq7
   have t0 := HS6.out.tm.c0
   have t1 := HS6.out.tm.c1
   have t2 := HS6.out.tm.c2
   have t3 := HS6.out.tm.c3
   have t4 := HS6.out.tm.c4
   have t5 := HS6.out.tm.c5
   obtain ⟨ns, hns⟩ : ∃ ns, ns = t.cr :: t.nums := ⟨_, rfl⟩
   have hu := wf_nums HWF.out
   rw [← hns] at hu
   have HNS := Lib.hid hns
   have HU := Lib.hid hu
   have hnl : ns.length = t.nums.length + 1 := by rw [hns, List.length_cons]
   have HNL := Lib.hid hnl
   have hn4 : t.nums.length ≤ 3 := HN.out
   clear hns hu hnl
   have hlt6 : w.heap.size < w6.heap.size := HS6.out.tm.lt
   have HBA := Lib.hid (below_alloc (Below.refl w6.heap.size w6) (.cells #[.int .u32 t.cr] tyU32))
   have HRD : Hid (ReadsInt (w6.alloc (.cells #[.int .u32 t.cr] tyU32)) .u32 A4 t.nums.length t.nums) := Lib.hid (Kd.reads_of_C (HR.out.below ((HB.out.trans (HS6.out.below.mono hB0)).trans (HBA.out.mono (Nat.le_trans hB0 HS6.out.base)))).g4)
   have HLZ : Hid (([t.cr].length + t.nums.length) * 4 ≤ 140737488355328) := Lib.hid (by have := HN.out; simp only [List.length_cons, List.length_nil]; omega)
   go_wp2_with (at_builtin; refine print_append_row (w0 := w6) w6.heap.size rfl (.tmp 42) (.tmp 44) 24 23 .u32 4 rfl Tryz.underlying24 infoU32 (by decide) (.slice (some ⟨w6.heap.size, 0, none⟩) 1 1) [t.cr] t.nums A4 t.nums.length c4 rfl rfl ?hO ?hR ?hB ?hbs ?hl ?_; (case hO => exact own_lit w6 w6.heap.size 23 .u32 [t.cr] (Nat.le_refl _) (by simp)); (case hR => exact HRD.out); (case hB => exact HBA.out); (case hbs => exact HBA.out.size); (case hl => exact HLZ.out); intro v8 w8 ho hb hg _; obtain ⟨g8, c8, rfl, hg8, hg9⟩ := ho.form (by simp); have HN8 : Hid (w8.ownsRow w6.heap.size tyU32 1 (.slice (some ⟨g8, 0, none⟩) (t.nums.length + 1) c8) (t.nums.length + 1) (nums .u32 ns)) := Lib.hid (by rw [HNS.out, show t.nums.length + 1 = ([t.cr] ++ t.nums).length by rw [List.length_append, List.length_singleton]; omega]; exact ho); have HS8 := Lib.hid (HS6.out.step hb); clear ho hb hg hg8 hg9)
   clear t0 t1 t2 t3 t4 t5
   clear HS6 HBA HRD HLZ
   go_loopg [0, 47] (t.nums.length + 1) (fun gk v0 vi wl => ∃ i : Nat, vi = .int .i64 (i : Int) ∧ gk = t.nums.length + 1 - i ∧ i ≤ t.nums.length + 1 ∧ Hid (WrS w wl B t (.slice A4 t.nums.length c4) (.slice A5 t.args.length c5) (l7 ++ numsTxt (ns.take i)) v0) ∧ Hid (wl.ownsRow w6.heap.size tyU32 1 (.slice (some ⟨g8, 0, none⟩) (t.nums.length + 1) c8) (t.nums.length + 1) (nums .u32 ns)))
   case atStart => exact ⟨0, rfl, rfl, Nat.zero_le _, by rw [show numsTxt (ns.take 0) = [] from rfl, List.append_nil]; exact HS8, HN8⟩
   case round =>
    clear HS8 HN8
    obtain ⟨i, rfl, hgk, hi, HSl, HNl⟩ := hrel
    have HK := Lib.hid hgk
    clear hgk
    have hli : (l7 ++ numsTxt (ns.take i)).length + 80 ≤ 140737488355328 := by
     have := numsTake_len ns HU.out i
     have := HNL.out
     rw [List.length_append]
     omega
    generalize hqi : l7 ++ numsTxt (ns.take i) = li at HSl hli
    have HLI := Lib.hid hqi
    clear hqi
    by_cases hlt0 : i < t.nums.length + 1
    ·have hlt : i < ns.length := by rw [HNL.out]; exact hlt0
     have hc := (own_at HNl.out (i : Int) (by omega) (by omega)).1
     rw [Int.toNat_natCast, rd_get hlt] at hc
     have HSX := Lib.hid (numsTxt_snoc hlt)
     have hx := HU.out ns[i] (List.getElem_mem hlt)
     generalize ns[i] = x at hc HSX hx
     have x0 := hx.1
     have x1 := hx.2
     have y0 : (0 : Int) ≤ (i : Int) := by omega
     have y1 : (i : Int) < (t.nums.length : Int) + 1 := by omega
     have HL1 : Hid (li.length + [(46 : Int)].length ≤ 140737488355328) := Lib.hid (by simp only [List.length_cons, List.length_nil]; omega)
     clear hx hlt hlt0
     have t0 := HSl.out.tm.c0
     have t1 := HSl.out.tm.c1
     have t2 := HSl.out.tm.c2
     have t3 := HSl.out.tm.c3
     have t4 := HSl.out.tm.c4
     have t5 := HSl.out.tm.c5
     go_wp2_with (at_builtin; refine append_lit (w0 := wr) B rfl (.tmp 51) (.tmp 52) 104 5 rfl Tryz.underlying104 infoU8 u0 (li) [46] rfl ?hx ?hO ?hB ?hbs ?hl ?_; (case hx => first | rfl | (simp [Act.eval]; done)); (case hO => exact HSl.out.own); (case hB => exact Below.refl _ _); (case hbs => exact HSl.out.base); (case hl => exact HL1.out); intro v1 w5 ho hb hg; have HS5 := Lib.hid (HSl.out.app ho hb hg); have HK5 := Lib.hid ((Lib.OthersKept.refl tyU8 none wr).grown hg (own_kind HSl.out.own)); clear ho hb hg t0 t1 t2 t3 t4 t5; have t0 := HS5.out.tm.c0; have t1 := HS5.out.tm.c1; have t2 := HS5.out.tm.c2; have t3 := HS5.out.tm.c3; have t4 := HS5.out.tm.c4; have t5 := HS5.out.tm.c5)
     have hl5 : (li ++ [46]).length + 40 ≤ 140737488355328 := by rw [List.length_append]; simp only [List.length_cons, List.length_nil]; omega
     have HC := Lib.hid (app_uint x x0 x1 HS5.out.own HS5.out.base (HGB.out.trans HS5.out.below) (by omega))
     have HN5 := Lib.hid (own_others HNl.out (by decide) HK5.out)
     clear t0 t1 t2 t3 t4 t5
     clear hc
     refine HC.out.mono ?_
     rintro e w9 ⟨v9, rfl, h2, h3, h4⟩
     have HS9 := Lib.hid (HS5.out.call h2 h3 h4)
     have HN9 := Lib.hid (own_others HN5.out (by decide) h4)
     clear h2 h3 h4 HC
     go_wp2_with fail
     go_roundg (t.nums.length + 1 - (i + 1))
     case measure => rw [HK.out]; omega
     case rel => exact ⟨i + 1, by go_num, rfl, by omega, by rw [HSX.out, ← List.append_assoc, HLI.out, show li ++ 46 :: itoaI x = (li ++ [46]) ++ itoaI x by simp]; exact HS9, HN9⟩
    ·have hie : ns.take i = ns := List.take_of_length_le (by rw [HNL.out]; omega)
     rw [hie] at HLI
     have d0 : decide ((i : Int) < (t.nums.length : Int) + 1) = false := decide_eq_false (by omega)
     have HL1 : Hid (li.length + [(62 : Int)].length ≤ 140737488355328) := Lib.hid (by simp only [List.length_cons, List.length_nil]; omega)
     clear hie hlt0
     have t0 := HSl.out.tm.c0
     have t1 := HSl.out.tm.c1
     have t2 := HSl.out.tm.c2
     have t3 := HSl.out.tm.c3
     have t4 := HSl.out.tm.c4
     have t5 := HSl.out.tm.c5
     go_wp2_with (at_builtin; refine append_lit (w0 := wr) B rfl (.tmp 59) (.tmp 60) 104 5 rfl Tryz.underlying104 infoU8 u0 (li) [62] rfl ?hx ?hO ?hB ?hbs ?hl ?_; (case hx => first | rfl | (simp [Act.eval]; done)); (case hO => exact HSl.out.own); (case hB => exact Below.refl _ _); (case hbs => exact HSl.out.base); (case hl => exact HL1.out); intro v1 w5 ho hb hg; have HS5 := Lib.hid (HSl.out.app ho hb hg); have HK5 := Lib.hid ((Lib.OthersKept.refl tyU8 none wr).grown hg (own_kind HSl.out.own)); clear ho hb hg t0 t1 t2 t3 t4 t5; have t0 := HS5.out.tm.c0; have t1 := HS5.out.tm.c1; have t2 := HS5.out.tm.c2; have t3 := HS5.out.tm.c3; have t4 := HS5.out.tm.c4; have t5 := HS5.out.tm.c5)
     go_ret
     have he : (l ++ [35, 82, 101, 102]) ++ farTxt t.tx (t.cr :: t.nums) = li ++ [62] := by
      rw [← HLI.out, ← HL7.out, ← HL6.out, HNS.out]
      unfold farTxt numsTxt
      simp
     have hl0 : l ++ R = (l ++ [35, 82, 101, 102]) ++ farTxt t.tx (t.cr :: t.nums) := by simp only [HQ.out, List.append_assoc, List.cons_append, List.nil_append]
     rw [hl0, he]
     exact HS5.out.done
  ·have d1 : (t.kd == 1) = false := beq_eq_false_iff_ne.2 (by omega)
   have d2 : (t.kd == 2) = false := beq_eq_false_iff_ne.2 (by omega)
   have d3 : (t.kd == 3) = false := beq_eq_false_iff_ne.2 (by omega)
   have d4 : (t.kd == 4) = true := beq_iff_eq.2 hk
   rw [if_neg (by omega), if_neg (by omega), if_neg (by omega), if_pos hk] at hR0
   have HQ := Lib.hid hR0
   have HN : Hid (t.nums.length ≤ 3) := Lib.hid (by have := shape_pid HOK.out hk; omega)
   clear hR0 hit hk hkd
   have HL1 : Hid ((l).length + [(60 : Int)].length ≤ 140737488355328) := Lib.hid (by simp only [List.length_append, List.length_cons, List.length_nil]; omega)
   go_wp2_with (at_builtin; refine append_lit (w0 := w1) B rfl (.tmp 33) (.tmp 34) 104 5 rfl Tryz.underlying104 infoU8 v (l) [60] rfl ?hx ?hO ?hB ?hbs ?hl ?_; (case hx => first | rfl | (simp [Act.eval]; done)); (case hO => exact HS1.out.own); (case hB => exact Below.refl _ _); (case hbs => exact HS1.out.base); (case hl => exact HL1.out); intro v1 w5 ho hb hg; have HS5 := Lib.hid (HS1.out.app ho hb hg); have HK5 := Lib.hid ((Lib.OthersKept.refl tyU8 none w1).grown hg (own_kind HS1.out.own)); clear ho hb hg t0 t1 t2 t3 t4 t5; have t0 := HS5.out.tm.c0; have t1 := HS5.out.tm.c1; have t2 := HS5.out.tm.c2; have t3 := HS5.out.tm.c3; have t4 := HS5.out.tm.c4; have t5 := HS5.out.tm.c5)
   have hl6 : (l ++ [60]).length + 1200 ≤ 140737488355328 := by simp only [List.length_append, List.length_cons, List.length_nil]; omega
   generalize hq6 : l ++ [60] = l6 at HS5 hl6
   have HL6 := Lib.hid hq6
   clear hq6 HL1
   have HC := Lib.hid (term_quoted t.tx (sm_tx HSM.out) HS5.out.own HS5.out.base (HGB.out.trans HS5.out.below) (by omega))
   refine HC.out.mono ?_
   rintro e w6 ⟨v6, rfl, h2, h3, h4⟩
   have HS6 := Lib.hid (HS5.out.call h2 h3 h4)
   clear t0 t1 t2 t3 t4 t5
   clear h2 h3 h4 HC HS5
   have hl7 : (l6 ++ bs (quoted t.tx).1).length + 170 ≤ 140737488355328 := by have := quoted_size t.tx; rw [List.length_append, bs_len]; omega
   generalize hq7 : l6 ++ bs (quoted t.tx).1 = l7 at HS6 hl7
   have HL7 := Lib.hid hq7
   clear hq7
   have t0 := HS6.out.tm.c0
   have t1 := HS6.out.tm.c1
   have t2 := HS6.out.tm.c2
   have t3 := HS6.out.tm.c3
   have t4 := HS6.out.tm.c4
   have t5 := HS6.out.tm.c5
   obtain ⟨ns, hns⟩ : ∃ ns, ns = t.cr :: t.nums := ⟨_, rfl⟩
   have hu := wf_nums HWF.out
   rw [← hns] at hu
   have HNS := Lib.hid hns
   have HU := Lib.hid hu
   have hnl : ns.length = t.nums.length + 1 := by rw [hns, List.length_cons]
   have HNL := Lib.hid hnl
   have hn4 : t.nums.length ≤ 3 := HN.out
   clear hns hu hnl
   have hlt6 : w.heap.size < w6.heap.size := HS6.out.tm.lt
   have HBA := Lib.hid (below_alloc (Below.refl w6.heap.size w6) (.cells #[.int .u32 t.cr] tyU32))
   have HRD : Hid (ReadsInt (w6.alloc (.cells #[.int .u32 t.cr] tyU32)) .u32 A4 t.nums.length t.nums) := Lib.hid (Kd.reads_of_C (HR.out.below ((HB.out.trans (HS6.out.below.mono hB0)).trans (HBA.out.mono (Nat.le_trans hB0 HS6.out.base)))).g4)
   have HLZ : Hid (([t.cr].length + t.nums.length) * 4 ≤ 140737488355328) := Lib.hid (by have := HN.out; simp only [List.length_cons, List.length_nil]; omega)
   go_wp2_with (at_builtin; refine print_append_row (w0 := w6) w6.heap.size rfl (.tmp 42) (.tmp 44) 24 23 .u32 4 rfl Tryz.underlying24 infoU32 (by decide) (.slice (some ⟨w6.heap.size, 0, none⟩) 1 1) [t.cr] t.nums A4 t.nums.length c4 rfl rfl ?hO ?hR ?hB ?hbs ?hl ?_; (case hO => exact own_lit w6 w6.heap.size 23 .u32 [t.cr] (Nat.le_refl _) (by simp)); (case hR => exact HRD.out); (case hB => exact HBA.out); (case hbs => exact HBA.out.size); (case hl => exact HLZ.out); intro v8 w8 ho hb hg _; obtain ⟨g8, c8, rfl, hg8, hg9⟩ := ho.form (by simp); have HN8 : Hid (w8.ownsRow w6.heap.size tyU32 1 (.slice (some ⟨g8, 0, none⟩) (t.nums.length + 1) c8) (t.nums.length + 1) (nums .u32 ns)) := Lib.hid (by rw [HNS.out, show t.nums.length + 1 = ([t.cr] ++ t.nums).length by rw [List.length_append, List.length_singleton]; omega]; exact ho); have HS8 := Lib.hid (HS6.out.step hb); clear ho hb hg hg8 hg9)
   clear t0 t1 t2 t3 t4 t5
   clear HS6 HBA HRD HLZ
   go_loopg [0, 47] (t.nums.length + 1) (fun gk v0 vi wl => ∃ i : Nat, vi = .int .i64 (i : Int) ∧ gk = t.nums.length + 1 - i ∧ i ≤ t.nums.length + 1 ∧ Hid (WrS w wl B t (.slice A4 t.nums.length c4) (.slice A5 t.args.length c5) (l7 ++ numsTxt (ns.take i)) v0) ∧ Hid (wl.ownsRow w6.heap.size tyU32 1 (.slice (some ⟨g8, 0, none⟩) (t.nums.length + 1) c8) (t.nums.length + 1) (nums .u32 ns)))
   case atStart => exact ⟨0, rfl, rfl, Nat.zero_le _, by rw [show numsTxt (ns.take 0) = [] from rfl, List.append_nil]; exact HS8, HN8⟩
   case round =>
    clear HS8 HN8
    obtain ⟨i, rfl, hgk, hi, HSl, HNl⟩ := hrel
    have HK := Lib.hid hgk
    clear hgk
    have hli : (l7 ++ numsTxt (ns.take i)).length + 80 ≤ 140737488355328 := by
     have := numsTake_len ns HU.out i
     have := HNL.out
     rw [List.length_append]
     omega
    generalize hqi : l7 ++ numsTxt (ns.take i) = li at HSl hli
    have HLI := Lib.hid hqi
    clear hqi
    by_cases hlt0 : i < t.nums.length + 1
    ·have hlt : i < ns.length := by rw [HNL.out]; exact hlt0
     have hc := (own_at HNl.out (i : Int) (by omega) (by omega)).1
     rw [Int.toNat_natCast, rd_get hlt] at hc
     have HSX := Lib.hid (numsTxt_snoc hlt)
     have hx := HU.out ns[i] (List.getElem_mem hlt)
     generalize ns[i] = x at hc HSX hx
     have x0 := hx.1
     have x1 := hx.2
     have y0 : (0 : Int) ≤ (i : Int) := by omega
     have y1 : (i : Int) < (t.nums.length : Int) + 1 := by omega
     have HL1 : Hid (li.length + [(46 : Int)].length ≤ 140737488355328) := Lib.hid (by simp only [List.length_cons, List.length_nil]; omega)
     clear hx hlt hlt0
     have t0 := HSl.out.tm.c0
     have t1 := HSl.out.tm.c1
     have t2 := HSl.out.tm.c2
     have t3 := HSl.out.tm.c3
     have t4 := HSl.out.tm.c4
     have t5 := HSl.out.tm.c5
     go_wp2_with (at_builtin; refine append_lit (w0 := wr) B rfl (.tmp 51) (.tmp 52) 104 5 rfl Tryz.underlying104 infoU8 u0 (li) [46] rfl ?hx ?hO ?hB ?hbs ?hl ?_; (case hx => first | rfl | (simp [Act.eval]; done)); (case hO => exact HSl.out.own); (case hB => exact Below.refl _ _); (case hbs => exact HSl.out.base); (case hl => exact HL1.out); intro v1 w5 ho hb hg; have HS5 := Lib.hid (HSl.out.app ho hb hg); have HK5 := Lib.hid ((Lib.OthersKept.refl tyU8 none wr).grown hg (own_kind HSl.out.own)); clear ho hb hg t0 t1 t2 t3 t4 t5; have t0 := HS5.out.tm.c0; have t1 := HS5.out.tm.c1; have t2 := HS5.out.tm.c2; have t3 := HS5.out.tm.c3; have t4 := HS5.out.tm.c4; have t5 := HS5.out.tm.c5)
     have hl5 : (li ++ [46]).length + 40 ≤ 140737488355328 := by rw [List.length_append]; simp only [List.length_cons, List.length_nil]; omega
     have HC := Lib.hid (app_uint x x0 x1 HS5.out.own HS5.out.base (HGB.out.trans HS5.out.below) (by omega))
     have HN5 := Lib.hid (own_others HNl.out (by decide) HK5.out)
     clear t0 t1 t2 t3 t4 t5
     clear hc
     refine HC.out.mono ?_
     rintro e w9 ⟨v9, rfl, h2, h3, h4⟩
     have HS9 := Lib.hid (HS5.out.call h2 h3 h4)
     have HN9 := Lib.hid (own_others HN5.out (by decide) h4)
     clear h2 h3 h4 HC
     go_wp2_with fail
     go_roundg (t.nums.length + 1 - (i + 1))
     case measure => rw [HK.out]; omega
     case rel => exact ⟨i + 1, by go_num, rfl, by omega, by rw [HSX.out, ← List.append_assoc, HLI.out, show li ++ 46 :: itoaI x = (li ++ [46]) ++ itoaI x by simp]; exact HS9, HN9⟩
    ·have hie : ns.take i = ns := List.take_of_length_le (by rw [HNL.out]; omega)
     rw [hie] at HLI
     have d0 : decide ((i : Int) < (t.nums.length : Int) + 1) = false := decide_eq_false (by omega)
     have HL1 : Hid (li.length + [(62 : Int)].length ≤ 140737488355328) := Lib.hid (by simp only [List.length_cons, List.length_nil]; omega)
     clear hie hlt0
     have t0 := HSl.out.tm.c0
     have t1 := HSl.out.tm.c1
     have t2 := HSl.out.tm.c2
     have t3 := HSl.out.tm.c3
     have t4 := HSl.out.tm.c4
     have t5 := HSl.out.tm.c5
     go_wp2_with (at_builtin; refine append_lit (w0 := wr) B rfl (.tmp 59) (.tmp 60) 104 5 rfl Tryz.underlying104 infoU8 u0 (li) [62] rfl ?hx ?hO ?hB ?hbs ?hl ?_; (case hx => first | rfl | (simp [Act.eval]; done)); (case hO => exact HSl.out.own); (case hB => exact Below.refl _ _); (case hbs => exact HSl.out.base); (case hl => exact HL1.out); intro v1 w5 ho hb hg; have HS5 := Lib.hid (HSl.out.app ho hb hg); have HK5 := Lib.hid ((Lib.OthersKept.refl tyU8 none wr).grown hg (own_kind HSl.out.own)); clear ho hb hg t0 t1 t2 t3 t4 t5; have t0 := HS5.out.tm.c0; have t1 := HS5.out.tm.c1; have t2 := HS5.out.tm.c2; have t3 := HS5.out.tm.c3; have t4 := HS5.out.tm.c4; have t5 := HS5.out.tm.c5)
     go_ret
     have he : l ++ farTxt t.tx (t.cr :: t.nums) = li ++ [62] := by
      rw [← HLI.out, ← HL7.out, ← HL6.out, HNS.out]
      unfold farTxt numsTxt
      simp
     have hl0 : l ++ R = l ++ farTxt t.tx (t.cr :: t.nums) := by simp only [HQ.out, List.append_assoc, List.cons_append, List.nil_append]
     rw [hl0, he]
     exact HS5.out.done
  ·have d1 : (t.kd == 1) = false := beq_eq_false_iff_ne.2 (by omega)
   have d2 : (t.kd == 2) = false := beq_eq_false_iff_ne.2 (by omega)
   have d3 : (t.kd == 3) = false := beq_eq_false_iff_ne.2 (by omega)
   have d4 : (t.kd == 4) = false := beq_eq_false_iff_ne.2 (by omega)
   have d6 : (t.kd == 6) = false := beq_eq_false_iff_ne.2 (by omega)
   have d7 : (t.kd == 7) = false := beq_eq_false_iff_ne.2 (by omega)
   rw [if_neg (by omega), if_neg (by omega), if_neg (by omega), if_neg (by omega), if_pos hk] at hR0
   have HQ := Lib.hid hR0
   clear hR0 hit hk hkd
   go_wp2_with fail
   go_quiet (fail)
   have HS2 := Lib.hid (HS1.out.step (drewN_below w1 nq))
   clear t0 t1 t2 t3 t4 t5
   generalize w1.drewN nq = w2 at HS2 ⊢
   have t0 := HS2.out.tm.c0
   have t1 := HS2.out.tm.c1
   have t2 := HS2.out.tm.c2
   have t3 := HS2.out.tm.c3
   have t4 := HS2.out.tm.c4
   have t5 := HS2.out.tm.c5
   have HL1 : Hid (l.length + [(123 : Int)].length ≤ 140737488355328) := Lib.hid (by simp only [List.length_cons, List.length_nil]; omega)
   go_wp2_with (at_builtin; refine append_lit (w0 := w2) B rfl (.tmp 76) (.tmp 79) 104 5 rfl Tryz.underlying104 infoU8 v (l) [123] rfl ?hx ?hO ?hB ?hbs ?hl ?_; (case hx => first | rfl | (simp [Act.eval]; done)); (case hO => exact HS2.out.own); (case hB => exact Below.refl _ _); (case hbs => exact HS2.out.base); (case hl => exact HL1.out); intro v1 w5 ho hb hg; have HS5 := Lib.hid (HS2.out.app ho hb hg); have HK5 := Lib.hid ((Lib.OthersKept.refl tyU8 none w2).grown hg (own_kind HS2.out.own)); clear ho hb hg t0 t1 t2 t3 t4 t5; have t0 := HS5.out.tm.c0; have t1 := HS5.out.tm.c1; have t2 := HS5.out.tm.c2; have t3 := HS5.out.tm.c3; have t4 := HS5.out.tm.c4; have t5 := HS5.out.tm.c5)
   have HNN : Hid (t.args.length = t.args.length) := Lib.hid rfl
   have HRL : Hid (l.length + 1 + (sepBy [44] ((t.args.take t.args.length).map (txtT []))).length + 1300 ≤ 140737488355328) := Lib.hid (by
    have := HQ.out
    rw [List.take_length]
    rw [this] at hlen
    simp only [List.nil_append, List.length_cons, List.length_append, List.length_nil] at hlen
    omega)
   clear HK5
   clear t0 t1 t2 t3 t4 t5
   have yN : t.args.length ≤ 9223372036854775807 := by have := HR.out.g5.2.1; have := HNN.out; omega
   go_loopg [0, 83] (t.args.length) (fun gk v0 vi wl => ∃ k : Nat, vi = .int .i64 (k : Int) ∧ gk = t.args.length - k ∧ k ≤ t.args.length ∧ Hid (WrS w wl B t (.slice A4 t.nums.length c4) (.slice A5 t.args.length c5) (wrCur l 123 t.args k) v0))
   case atStart => exact ⟨0, rfl, rfl, Nat.zero_le _, HS5⟩
   case round =>
    clear HS5
    obtain ⟨k, rfl, hgk, hk, HSl⟩ := hrel
    have HK := Lib.hid hgk
    clear hgk
    by_cases hlt : k < t.args.length
    ·have HBWl : Hid (Below w0.heap.size w0 wr) := Lib.hid (HB.out.trans (HSl.out.below.mono hB0))
     obtain ⟨ad, A4', c4', A5', c5', hA, q0, q1, q2, q3, q4, q5, hTR⟩ := atTm HR.out.g5 (k : Int) (by omega) (by have := HNN.out; omega)
     cases hA
     simp only [Int.toNat_natCast] at q0 q1 q2 q3 q4 q5
     replace q0 := (HBWl.out.cell (World.block_lt_of_cell? w0 _ q0)).trans q0
     replace q1 := (HBWl.out.cell (World.block_lt_of_cell? w0 _ q1)).trans q1
     replace q2 := (HBWl.out.cell (World.block_lt_of_cell? w0 _ q2)).trans q2
     replace q3 := (HBWl.out.cell (World.block_lt_of_cell? w0 _ q3)).trans q3
     replace q4 := (HBWl.out.cell (World.block_lt_of_cell? w0 _ q4)).trans q4
     replace q5 := (HBWl.out.cell (World.block_lt_of_cell? w0 _ q5)).trans q5
     have hlt2 : k < t.args.length := by have := HNN.out; omega
     obtain ⟨hge, hmem⟩ := rdTm_mem hlt2
     have hnx := wrCur_succ (l := l) (o := 123) hlt2
     have hpl := wrPre_len (l := l) (o := 123) (ts := t.args) (n := t.args.length) hlt (by have := HNN.out; omega)
     rw [← hge] at hnx hpl
     generalize rdTm t.args (k : Int) = a at q0 q1 q2 q3 q4 q5 hTR hmem hnx hpl
     have HNX := Lib.hid hnx
     have HPL : Hid ((wrPre l 123 t.args k).length + (txtT [] a).length + 1300 ≤ 140737488355328) := Lib.hid (by have := HRL.out; omega)
     have HTR := Lib.hid hTR
     have HMEM := Lib.hid hmem
     have y0 : (0 : Int) ≤ (k : Int) := by omega
     have y1 : (k : Int) < (t.args.length : Int) := by omega
     clear hTR hmem hge hnx hpl hlt2
     go_upto_region 27 with (fail)
     have hbx := heap_alloc_new wr (.cells #[.int .i64 a.kd, .int .i64 a.it, .string a.tx, .int .u32 a.cr, .slice A4' a.nums.length c4', .slice A5' a.args.length c5'] 27)
     have HS3 := Lib.hid (HSl.out.step (below_alloc (Below.refl wr.heap.size wr) (.cells #[.int .i64 a.kd, .int .i64 a.it, .string a.tx, .int .u32 a.cr, .slice A4' a.nums.length c4', .slice A5' a.args.length c5'] 27)))
     generalize wr.alloc (.cells #[.int .i64 a.kd, .int .i64 a.it, .string a.tx, .int .u32 a.cr, .slice A4' a.nums.length c4', .slice A5' a.args.length c5'] 27) = w3 at hbx HS3 ⊢
     have HBX := Lib.hid hbx
     clear hbx q0 q1 q2 q3 q4 q5 HSl HBWl
     by_cases h0 : k = 0
     ·have d0 : decide ((k : Int) > 0) = false := decide_eq_false (by omega)
      have d9 : decide (0 < k) = false := decide_eq_false (by omega)
      have HPE : Hid (wrPre l 123 t.args k = wrCur l 123 t.args k) := Lib.hid (by rw [h0]; exact wrPre_zero _ _ _)
      have HPL2 := HPL
      rw [HPE.out] at HPL2
      have HNX2 := HNX
      rw [HPE.out] at HNX2
      clear h0
      obtain ⟨q0, q1, q2, q3, q4, q5, _, _, _, _, _, _⟩ := tmAt_of_box HBX.out
      go_wp2_with fail
      refine (HIH.out a HMEM.out A4' A5' c4' c5' (wrCur l 123 t.args k) u0 _ HTR.out (HB.out.trans (HS3.out.below.mono hB0)) HS3.out.own HS3.out.base (HML.out a HMEM.out) (smL_mem (sm_args HSM.out) HMEM.out) (wfL_mem (wf_args HWF.out) HMEM.out) HPL2.out).mono ?_
      rintro e w9 ⟨v9, rfl, h2, h3, h4⟩
      have HS9 := Lib.hid (HS3.out.call h2 h3 h4)
      rw [← HNX2.out] at HS9
      clear h2 h3 h4 q0 q1 q2 q3 q4 q5
      go_wp2_with fail
      go_roundg (t.args.length - (k + 1))
      case measure => rw [HK.out]; omega
      case rel => exact ⟨k + 1, by go_num, rfl, by omega, HS9⟩
     ·have d0 : decide ((k : Int) > 0) = true := decide_eq_true (by omega)
      have d9 : decide (0 < k) = true := decide_eq_true (by omega)
      have hpe := wrPre_pos (l := l) (o := 123) (ts := t.args) (k := k) (by omega) (by have := HNN.out; omega)
      have HL1 : Hid ((wrCur l 123 t.args k).length + [(44 : Int)].length ≤ 140737488355328) := Lib.hid (by have := HPL.out; rw [hpe, List.length_append] at this; omega)
      have HPE := Lib.hid hpe
      clear hpe h0
      go_wp2_with (at_builtin; refine append_lit (w0 := w3) B rfl (.tmp 90) (.tmp 91) 104 5 rfl Tryz.underlying104 infoU8 u0 (wrCur l 123 t.args k) [44] rfl ?hx ?hO ?hB ?hbs ?hl ?_; (case hx => first | rfl | (simp [Act.eval]; done)); (case hO => exact HS3.out.own); (case hB => exact Below.refl _ _); (case hbs => exact HS3.out.base); (case hl => exact HL1.out); intro v1 w5 ho hb hg; have HS5 := Lib.hid (HS3.out.app ho hb hg); have hb5 := WrS.tmBox HBX.out HS3.out.own hg; clear ho hb hg; obtain ⟨q0, q1, q2, q3, q4, q5, _, _, _, _, _, _⟩ := tmAt_of_box hb5; clear hb5)
      rw [← HPE.out] at HS5
      refine (HIH.out a HMEM.out A4' A5' c4' c5' (wrPre l 123 t.args k) v1 _ HTR.out (HB.out.trans (HS5.out.below.mono hB0)) HS5.out.own HS5.out.base (HML.out a HMEM.out) (smL_mem (sm_args HSM.out) HMEM.out) (wfL_mem (wf_args HWF.out) HMEM.out) HPL.out).mono ?_
      rintro e w9 ⟨v9, rfl, h2, h3, h4⟩
      have HS9 := Lib.hid (HS5.out.call h2 h3 h4)
      rw [← HNX.out] at HS9
      clear h2 h3 h4 q0 q1 q2 q3 q4 q5
      go_wp2_with fail
      go_roundg (t.args.length - (k + 1))
      case measure => rw [HK.out]; omega
      case rel => exact ⟨k + 1, by go_num, rfl, by omega, HS9⟩
    ·obtain rfl : t.args.length = k := by omega
     have d0 : decide ((t.args.length : Int) < (t.args.length : Int)) = false := decide_eq_false (by omega)
     have t0 := HSl.out.tm.c0
     have t1 := HSl.out.tm.c1
     have t2 := HSl.out.tm.c2
     have t3 := HSl.out.tm.c3
     have t4 := HSl.out.tm.c4
     have t5 := HSl.out.tm.c5
     have HL1 : Hid ((wrCur l 123 t.args t.args.length).length + [(125 : Int)].length ≤ 140737488355328) := Lib.hid (by
      have := HRL.out
      unfold wrCur
      simp only [List.length_append, List.length_cons, List.length_nil]
      omega)
     go_wp2_with (at_builtin; refine append_lit (w0 := wr) B rfl (.tmp 125) (.tmp 128) 104 5 rfl Tryz.underlying104 infoU8 u0 (wrCur l 123 t.args t.args.length) [125] rfl ?hx ?hO ?hB ?hbs ?hl ?_; (case hx => first | rfl | (simp [Act.eval]; done)); (case hO => exact HSl.out.own); (case hB => exact Below.refl _ _); (case hbs => exact HSl.out.base); (case hl => exact HL1.out); intro v1 w5 ho hb hg; have HS5 := Lib.hid (HSl.out.app ho hb hg); have HK5 := Lib.hid ((Lib.OthersKept.refl tyU8 none wr).grown hg (own_kind HSl.out.own)); clear ho hb hg t0 t1 t2 t3 t4 t5; have t0 := HS5.out.tm.c0; have t1 := HS5.out.tm.c1; have t2 := HS5.out.tm.c2; have t3 := HS5.out.tm.c3; have t4 := HS5.out.tm.c4; have t5 := HS5.out.tm.c5)
     go_ret
     have he : l ++ R = wrCur l 123 t.args t.args.length ++ [125] := by
      rw [HQ.out]
      unfold wrCur
      rw [List.take_length]
      simp
     rw [he]
     exact HS5.out.done
  ·have d1 : (t.kd == 1) = false := beq_eq_false_iff_ne.2 (by omega)
   have d2 : (t.kd == 2) = false := beq_eq_false_iff_ne.2 (by omega)
   have d3 : (t.kd == 3) = false := beq_eq_false_iff_ne.2 (by omega)
   have d4 : (t.kd == 4) = false := beq_eq_false_iff_ne.2 (by omega)
   have d6 : (t.kd == 6) = true := beq_iff_eq.2 hk
   rw [if_neg (by omega), if_neg (by omega), if_neg (by omega), if_neg (by omega), if_neg (by omega), if_pos hk] at hR0
   have HQ : Hid (R = bytesOf ⟨#[91, 93]⟩) := Lib.hid hR0
   have HL : Hid (l.length + 2 ≤ 140737488355328) := Lib.hid (by omega)
   clear hR0 hit hk hkd
   go_wp2_with (at_builtin; refine print_append_str (w0 := w1) B rfl (.tmp 62) _ 104 9 5 rfl Tryz.underlying104 Tryz.underlying9 infoU8 v l ⟨#[91, 93]⟩ rfl rfl ?hO ?hB ?hbs ?hl ?_; (case hO => exact HS1.out.own); (case hB => exact Below.refl _ _); (case hbs => exact HS1.out.base); (case hl => exact HL.out); intro v1 w5 ho hb hg; have HS5 := Lib.hid (HS1.out.app ho hb hg); clear ho hb hg)
   go_ret
   rw [HQ.out]
   exact HS5.out.done
  ·have d1 : (t.kd == 1) = false := beq_eq_false_iff_ne.2 (by omega)
   have d2 : (t.kd == 2) = false := beq_eq_false_iff_ne.2 (by omega)
   have d3 : (t.kd == 3) = false := beq_eq_false_iff_ne.2 (by omega)
   have d4 : (t.kd == 4) = false := beq_eq_false_iff_ne.2 (by omega)
   have d6 : (t.kd == 6) = false := beq_eq_false_iff_ne.2 (by omega)
   have d7 : (t.kd == 7) = true := beq_iff_eq.2 hk
   rw [if_neg (by omega), if_neg (by omega), if_neg (by omega), if_neg (by omega), if_neg (by omega), if_neg (by omega)] at hR0
   have HQ := Lib.hid hR0
   have hs2 := (shape_list HOK.out hk).1
   clear hR0 hit hk hkd
   have hc5 := HR.out.l5
   obtain ⟨n, hn⟩ : ∃ n, t.args.length = n + 1 := ⟨t.args.length - 1, by omega⟩
   rw [hn] at hc5
   obtain ⟨ad5, rfl⟩ : ∃ ad, A5 = some ad := by obtain ⟨ad, e, _⟩ := HR.out.g5.2.2 (by omega); exact ⟨ad, e⟩
   simp only [hn] at HS1 t5 ⊢
   have HNN := Lib.hid hn
   have HS2 := Lib.hid hs2
   clear hn hs2
   go_wp2_with fail
   go_quiet (fail)
   replace HS1 := Lib.hid (HS1.out.step (drewN_below w1 nq))
   clear t0 t1 t2 t3 t4 t5
   generalize w1.drewN nq = w2 at HS1 ⊢
   have t0 := HS1.out.tm.c0
   have t1 := HS1.out.tm.c1
   have t2 := HS1.out.tm.c2
   have t3 := HS1.out.tm.c3
   have t4 := HS1.out.tm.c4
   have t5 := HS1.out.tm.c5
   have y0 : (0 : Int) ≤ (n : Int) := by omega
   have y1 : (n : Int) ≤ (c5 : Int) := by omega
   have y3 : (n : Int) ≤ 9223372036854775807 := by have := HR.out.g5.2.1; have := HNN.out; omega
   have y2 : wrap64 (n : Int) = (n : Int) := by unfold wrap64; omega
   go_wp2_with fail
   go_quiet (fail)
   replace HS1 := Lib.hid (HS1.out.step (drewN_below w2 nq))
   clear t0 t1 t2 t3 t4 t5
   clear y2
   generalize w2.drewN nq = w3 at HS1 ⊢
   have t0 := HS1.out.tm.c0
   have t1 := HS1.out.tm.c1
   have t2 := HS1.out.tm.c2
   have t3 := HS1.out.tm.c3
   have t4 := HS1.out.tm.c4
   have t5 := HS1.out.tm.c5
   have hae : t.args.map (txtT []) = (t.args.take n).map (txtT []) ++ [txtT [] (rdTm t.args (n : Int))] := by
    have h1 : n < t.args.length := by have := HNN.out; omega
    rw [(rdTm_mem h1).1]
    conv => lhs; rw [show t.args = t.args.take n ++ [t.args[n]] by
     have h2 := List.take_append_drop n t.args
     rw [List.drop_eq_getElem_cons h1, List.drop_eq_nil_of_le (by have := HNN.out; omega)] at h2
     exact h2.symm]
    rw [List.map_append]
    rfl
   have hlk : lastKd t = (rdTm t.args (n : Int)).kd := by
    unfold lastKd
    rw [HNN.out]
    congr 2
    omega
   have hR2 := HQ.out
   rw [hae, List.dropLast_concat, List.getLastD_concat, hlk] at hR2
   simp only [List.nil_append] at hR2
   obtain ⟨ad, A4', c4', A5', c5', hA, q0, q1, q2, q3, q4, q5, hTR⟩ := atTm HR.out.g5 (n : Int) (by omega) (by have := HNN.out; omega)
   cases hA
   simp only [Int.toNat_natCast] at q0 q1 q2 q3 q4 q5
   have hmem := (rdTm_mem (l := t.args) (k := n) (by have := HNN.out; omega)).2
   generalize rdTm t.args (n : Int) = z at q0 q1 q2 q3 q4 q5 hTR hmem hR2
   have HZ := Lib.hid (And.intro q0 (And.intro q1 (And.intro q2 (And.intro q3 (And.intro q4 q5)))))
   have HTZ := Lib.hid hTR
   have HMZ := Lib.hid hmem
   have HRL : Hid (l.length + 1 + (sepBy [44] ((t.args.take n).map (txtT []))).length + 1300 ≤ 140737488355328) := Lib.hid (by
    rw [hR2] at hlen
    simp only [List.length_cons, List.length_append, List.length_nil] at hlen
    omega)
   have HRZ : Hid (z.kd ≠ 6 → (wrCur l 91 t.args n ++ [124]).length + (txtT [] z).length + 1300 ≤ 140737488355328) := Lib.hid (fun hz => by
    rw [hR2, if_neg hz] at hlen
    unfold wrCur
    simp only [List.length_cons, List.length_append, List.length_nil] at hlen ⊢
    omega)
   have HR2 := Lib.hid hR2
   clear hae hlk hR2 hTR hmem q0 q1 q2 q3 q4 q5 HQ hlen
   have HL1 : Hid (l.length + [(91 : Int)].length ≤ 140737488355328) := Lib.hid (by have := HRL.out; simp only [List.length_cons, List.length_nil]; omega)
   go_wp2_with (at_builtin; refine append_lit (w0 := w3) B rfl (.tmp 76) (.tmp 79) 104 5 rfl Tryz.underlying104 infoU8 v (l) [91] rfl ?hx ?hO ?hB ?hbs ?hl ?_; (case hx => first | rfl | (simp [Act.eval]; done)); (case hO => exact HS1.out.own); (case hB => exact Below.refl _ _); (case hbs => exact HS1.out.base); (case hl => exact HL1.out); intro v1 w5 ho hb hg; have HS5 := Lib.hid (HS1.out.app ho hb hg); have HK5 := Lib.hid ((Lib.OthersKept.refl tyU8 none w3).grown hg (own_kind HS1.out.own)); clear ho hb hg t0 t1 t2 t3 t4 t5; have t0 := HS5.out.tm.c0; have t1 := HS5.out.tm.c1; have t2 := HS5.out.tm.c2; have t3 := HS5.out.tm.c3; have t4 := HS5.out.tm.c4; have t5 := HS5.out.tm.c5)
   clear HK5
   clear t0 t1 t2 t3 t4 t5
   have yN : n ≤ 9223372036854775807 := by have := HR.out.g5.2.1; have := HNN.out; omega
   go_loopg [0, 83] (n) (fun gk v0 vi wl => ∃ k : Nat, vi = .int .i64 (k : Int) ∧ gk = n - k ∧ k ≤ n ∧ Hid (WrS w wl B t (.slice A4 t.nums.length c4) (.slice (some ad5) (n + 1) c5) (wrCur l 91 t.args k) v0))
   case atStart => exact ⟨0, rfl, rfl, Nat.zero_le _, HS5⟩
   case round =>
    clear HS5
    obtain ⟨k, rfl, hgk, hk, HSl⟩ := hrel
    have HK := Lib.hid hgk
    clear hgk
    by_cases hlt : k < n
    ·have HBWl : Hid (Below w0.heap.size w0 wr) := Lib.hid (HB.out.trans (HSl.out.below.mono hB0))
     obtain ⟨ad, A4', c4', A5', c5', hA, q0, q1, q2, q3, q4, q5, hTR⟩ := atTm HR.out.g5 (k : Int) (by omega) (by have := HNN.out; omega)
     cases hA
     simp only [Int.toNat_natCast] at q0 q1 q2 q3 q4 q5
     replace q0 := (HBWl.out.cell (World.block_lt_of_cell? w0 _ q0)).trans q0
     replace q1 := (HBWl.out.cell (World.block_lt_of_cell? w0 _ q1)).trans q1
     replace q2 := (HBWl.out.cell (World.block_lt_of_cell? w0 _ q2)).trans q2
     replace q3 := (HBWl.out.cell (World.block_lt_of_cell? w0 _ q3)).trans q3
     replace q4 := (HBWl.out.cell (World.block_lt_of_cell? w0 _ q4)).trans q4
     replace q5 := (HBWl.out.cell (World.block_lt_of_cell? w0 _ q5)).trans q5
     have hlt2 : k < t.args.length := by have := HNN.out; omega
     obtain ⟨hge, hmem⟩ := rdTm_mem hlt2
     have hnx := wrCur_succ (l := l) (o := 91) hlt2
     have hpl := wrPre_len (l := l) (o := 91) (ts := t.args) (n := n) hlt (by have := HNN.out; omega)
     rw [← hge] at hnx hpl
     generalize rdTm t.args (k : Int) = a at q0 q1 q2 q3 q4 q5 hTR hmem hnx hpl
     have HNX := Lib.hid hnx
     have HPL : Hid ((wrPre l 91 t.args k).length + (txtT [] a).length + 1300 ≤ 140737488355328) := Lib.hid (by have := HRL.out; omega)
     have HTR := Lib.hid hTR
     have HMEM := Lib.hid hmem
     have y0 : (0 : Int) ≤ (k : Int) := by omega
     have y1 : (k : Int) < (n : Int) := by omega
     clear hTR hmem hge hnx hpl hlt2
     go_upto_region 27 with (fail)
     have hbx := heap_alloc_new wr (.cells #[.int .i64 a.kd, .int .i64 a.it, .string a.tx, .int .u32 a.cr, .slice A4' a.nums.length c4', .slice A5' a.args.length c5'] 27)
     have HS3 := Lib.hid (HSl.out.step (below_alloc (Below.refl wr.heap.size wr) (.cells #[.int .i64 a.kd, .int .i64 a.it, .string a.tx, .int .u32 a.cr, .slice A4' a.nums.length c4', .slice A5' a.args.length c5'] 27)))
     generalize wr.alloc (.cells #[.int .i64 a.kd, .int .i64 a.it, .string a.tx, .int .u32 a.cr, .slice A4' a.nums.length c4', .slice A5' a.args.length c5'] 27) = w3 at hbx HS3 ⊢
     have HBX := Lib.hid hbx
     clear hbx q0 q1 q2 q3 q4 q5 HSl HBWl
     by_cases h0 : k = 0
     ·have d0 : decide ((k : Int) > 0) = false := decide_eq_false (by omega)
      have d9 : decide (0 < k) = false := decide_eq_false (by omega)
      have HPE : Hid (wrPre l 91 t.args k = wrCur l 91 t.args k) := Lib.hid (by rw [h0]; exact wrPre_zero _ _ _)
      have HPL2 := HPL
      rw [HPE.out] at HPL2
      have HNX2 := HNX
      rw [HPE.out] at HNX2
      clear h0
      obtain ⟨q0, q1, q2, q3, q4, q5, _, _, _, _, _, _⟩ := tmAt_of_box HBX.out
      go_wp2_with fail
      refine (HIH.out a HMEM.out A4' A5' c4' c5' (wrCur l 91 t.args k) u0 _ HTR.out (HB.out.trans (HS3.out.below.mono hB0)) HS3.out.own HS3.out.base (HML.out a HMEM.out) (smL_mem (sm_args HSM.out) HMEM.out) (wfL_mem (wf_args HWF.out) HMEM.out) HPL2.out).mono ?_
      rintro e w9 ⟨v9, rfl, h2, h3, h4⟩
      have HS9 := Lib.hid (HS3.out.call h2 h3 h4)
      rw [← HNX2.out] at HS9
      clear h2 h3 h4 q0 q1 q2 q3 q4 q5
      go_wp2_with fail
      go_roundg (n - (k + 1))
      case measure => rw [HK.out]; omega
      case rel => exact ⟨k + 1, by go_num, rfl, by omega, HS9⟩
     ·have d0 : decide ((k : Int) > 0) = true := decide_eq_true (by omega)
      have d9 : decide (0 < k) = true := decide_eq_true (by omega)
      have hpe := wrPre_pos (l := l) (o := 91) (ts := t.args) (k := k) (by omega) (by have := HNN.out; omega)
      have HL1 : Hid ((wrCur l 91 t.args k).length + [(44 : Int)].length ≤ 140737488355328) := Lib.hid (by have := HPL.out; rw [hpe, List.length_append] at this; omega)
      have HPE := Lib.hid hpe
      clear hpe h0
      go_wp2_with (at_builtin; refine append_lit (w0 := w3) B rfl (.tmp 90) (.tmp 91) 104 5 rfl Tryz.underlying104 infoU8 u0 (wrCur l 91 t.args k) [44] rfl ?hx ?hO ?hB ?hbs ?hl ?_; (case hx => first | rfl | (simp [Act.eval]; done)); (case hO => exact HS3.out.own); (case hB => exact Below.refl _ _); (case hbs => exact HS3.out.base); (case hl => exact HL1.out); intro v1 w5 ho hb hg; have HS5 := Lib.hid (HS3.out.app ho hb hg); have hb5 := WrS.tmBox HBX.out HS3.out.own hg; clear ho hb hg; obtain ⟨q0, q1, q2, q3, q4, q5, _, _, _, _, _, _⟩ := tmAt_of_box hb5; clear hb5)
      rw [← HPE.out] at HS5
      refine (HIH.out a HMEM.out A4' A5' c4' c5' (wrPre l 91 t.args k) v1 _ HTR.out (HB.out.trans (HS5.out.below.mono hB0)) HS5.out.own HS5.out.base (HML.out a HMEM.out) (smL_mem (sm_args HSM.out) HMEM.out) (wfL_mem (wf_args HWF.out) HMEM.out) HPL.out).mono ?_
      rintro e w9 ⟨v9, rfl, h2, h3, h4⟩
      have HS9 := Lib.hid (HS5.out.call h2 h3 h4)
      rw [← HNX.out] at HS9
      clear h2 h3 h4 q0 q1 q2 q3 q4 q5
      go_wp2_with fail
      go_roundg (n - (k + 1))
      case measure => rw [HK.out]; omega
      case rel => exact ⟨k + 1, by go_num, rfl, by omega, HS9⟩
    ·obtain rfl : n = k := by omega
     have d0 : decide ((n : Int) < (n : Int)) = false := decide_eq_false (by omega)
     have t0 := HSl.out.tm.c0
     have t1 := HSl.out.tm.c1
     have t2 := HSl.out.tm.c2
     have t3 := HSl.out.tm.c3
     have t4 := HSl.out.tm.c4
     have t5 := HSl.out.tm.c5
     have HBWl : Hid (Below w0.heap.size w0 wr) := Lib.hid (HB.out.trans (HSl.out.below.mono hB0))
     obtain ⟨z0, z1, z2, z3, z4, z5⟩ := HZ.out
     have q0 := (HBWl.out.cell (World.block_lt_of_cell? w0 _ z0)).trans z0
     have q1 := (HBWl.out.cell (World.block_lt_of_cell? w0 _ z1)).trans z1
     have q2 := (HBWl.out.cell (World.block_lt_of_cell? w0 _ z2)).trans z2
     have q3 := (HBWl.out.cell (World.block_lt_of_cell? w0 _ z3)).trans z3
     have q4 := (HBWl.out.cell (World.block_lt_of_cell? w0 _ z4)).trans z4
     have q5 := (HBWl.out.cell (World.block_lt_of_cell? w0 _ z5)).trans z5
     clear z0 z1 z2 z3 z4 z5
     have y0 : (0 : Int) ≤ (n : Int) := by omega
     have y4 : (n : Int) < (n : Int) + 1 := by omega
     have y2 : wrap64 (n : Int) = (n : Int) := by unfold wrap64; omega
     have HCL : Hid ((wrCur l 91 t.args n).length + 1200 ≤ 140737488355328) := Lib.hid (by
      have := HRL.out
      unfold wrCur
      simp only [List.length_append, List.length_cons, List.length_nil]
      omega)
     by_cases hz : z.kd = 6
     ·have dz : (z.kd != 6) = false := by rw [hz]; rfl
      have he : l ++ R = wrCur l 91 t.args n ++ [93] := by
       rw [HR2.out, if_pos hz]
       unfold wrCur
       simp
      have HE := Lib.hid he
      have HL1 : Hid ((wrCur l 91 t.args n).length + [(93 : Int)].length ≤ 140737488355328) := Lib.hid (by have := HCL.out; simp only [List.length_cons, List.length_nil]; omega)
      clear hz he
      go_wp2_with (at_builtin; refine append_lit (w0 := wr) B rfl (.tmp 125) (.tmp 128) 104 5 rfl Tryz.underlying104 infoU8 u0 (wrCur l 91 t.args n) [93] rfl ?hx ?hO ?hB ?hbs ?hl ?_; (case hx => first | rfl | (simp [Act.eval]; done)); (case hO => exact HSl.out.own); (case hB => exact Below.refl _ _); (case hbs => exact HSl.out.base); (case hl => exact HL1.out); intro v1 w5 ho hb hg; have HS5 := Lib.hid (HSl.out.app ho hb hg); have HK5 := Lib.hid ((Lib.OthersKept.refl tyU8 none wr).grown hg (own_kind HSl.out.own)); clear ho hb hg t0 t1 t2 t3 t4 t5; have t0 := HS5.out.tm.c0; have t1 := HS5.out.tm.c1; have t2 := HS5.out.tm.c2; have t3 := HS5.out.tm.c3; have t4 := HS5.out.tm.c4; have t5 := HS5.out.tm.c5)
      go_ret
      rw [HE.out]
      exact HS5.out.done
     ·have dz : (z.kd != 6) = true := by rw [bne_iff_ne]; exact hz
      have he : l ++ R = (wrCur l 91 t.args n ++ [124] ++ txtT [] z) ++ [93] := by
       rw [HR2.out, if_neg hz]
       unfold wrCur
       simp
      have HE := Lib.hid he
      have HRZ2 := Lib.hid (HRZ.out hz)
      have HL1 : Hid ((wrCur l 91 t.args n).length + [(124 : Int)].length ≤ 140737488355328) := Lib.hid (by have := HCL.out; simp only [List.length_cons, List.length_nil]; omega)
      have hbz := HBWl
      clear hz he
      go_wp2_with (at_builtin; refine append_lit (w0 := wr) B rfl (.tmp 112) (.tmp 113) 104 5 rfl Tryz.underlying104 infoU8 u0 (wrCur l 91 t.args n) [124] rfl ?hx ?hO ?hB ?hbs ?hl ?_; (case hx => first | rfl | (simp [Act.eval]; done)); (case hO => exact HSl.out.own); (case hB => exact Below.refl _ _); (case hbs => exact HSl.out.base); (case hl => exact HL1.out); intro v1 w5 ho hb hg; have HS5 := Lib.hid (HSl.out.app ho hb hg); clear ho hb hg t0 t1 t2 t3 t4 t5 q0 q1 q2 q3 q4 q5; have HBW5 : Hid (Below w0.heap.size w0 w5) := Lib.hid (HB.out.trans (HS5.out.below.mono hB0)); have t5 := HS5.out.tm.c5; have q0 := (HBW5.out.cell (World.block_lt_of_cell? w0 _ HZ.out.1)).trans HZ.out.1; have q1 := (HBW5.out.cell (World.block_lt_of_cell? w0 _ HZ.out.2.1)).trans HZ.out.2.1; have q2 := (HBW5.out.cell (World.block_lt_of_cell? w0 _ HZ.out.2.2.1)).trans HZ.out.2.2.1; have q3 := (HBW5.out.cell (World.block_lt_of_cell? w0 _ HZ.out.2.2.2.1)).trans HZ.out.2.2.2.1; have q4 := (HBW5.out.cell (World.block_lt_of_cell? w0 _ HZ.out.2.2.2.2.1)).trans HZ.out.2.2.2.2.1; have q5 := (HBW5.out.cell (World.block_lt_of_cell? w0 _ HZ.out.2.2.2.2.2)).trans HZ.out.2.2.2.2.2)
      refine (HIH.out z HMZ.out A4' A5' c4' c5' (wrCur l 91 t.args n ++ [124]) v1 _ HTZ.out HBW5.out HS5.out.own HS5.out.base (HML.out z HMZ.out) (smL_mem (sm_args HSM.out) HMZ.out) (wfL_mem (wf_args HWF.out) HMZ.out) HRZ2.out).mono ?_
      rintro e w9 ⟨v9, rfl, h2, h3, h4⟩
      have HS9 := Lib.hid (HS5.out.call h2 h3 h4)
      have HL9 : Hid ((wrCur l 91 t.args n ++ [124] ++ txtT [] z).length + [(93 : Int)].length ≤ 140737488355328) := Lib.hid (by have := HRZ2.out; simp only [List.length_append, List.length_cons, List.length_nil] at this ⊢; omega)
      clear h2 h3 h4 q0 q1 q2 q3 q4 q5 t5 HS5
      have t0 := HS9.out.tm.c0
      have t1 := HS9.out.tm.c1
      have t2 := HS9.out.tm.c2
      have t3 := HS9.out.tm.c3
      have t4 := HS9.out.tm.c4
      have t5 := HS9.out.tm.c5
      go_wp2_with (at_builtin; refine append_lit (w0 := w9) B rfl (.tmp 125) (.tmp 128) 104 5 rfl Tryz.underlying104 infoU8 v9 (wrCur l 91 t.args n ++ [124] ++ txtT [] z) [93] rfl ?hx ?hO ?hB ?hbs ?hl ?_; (case hx => first | rfl | (simp [Act.eval]; done)); (case hO => exact HS9.out.own); (case hB => exact Below.refl _ _); (case hbs => exact HS9.out.base); (case hl => exact HL9.out); intro v1 w5 ho hb hg; have HS5 := Lib.hid (HS9.out.app ho hb hg); have HK5 := Lib.hid ((Lib.OthersKept.refl tyU8 none w9).grown hg (own_kind HS9.out.own)); clear ho hb hg t0 t1 t2 t3 t4 t5; have t0 := HS5.out.tm.c0; have t1 := HS5.out.tm.c1; have t2 := HS5.out.tm.c2; have t3 := HS5.out.tm.c3; have t4 := HS5.out.tm.c4; have t5 := HS5.out.tm.c5)
      go_ret
      rw [HE.out]
      exact HS5.out.done
set_option maxRecDepth 100000 in
set_option maxHeartbeats 2000000 in
theorem term_Print (t : Tm) (A4 A5 : Option Addr) (c4 c5 : Nat) (w : World) (hR : TmR w t A4 c4 A5 c5) (hsm : smT t = true) (hwf : wfT t = true) (hG : Glob w) :
  Calls Tryz.prog 37 #[tmV t (.slice A4 t.nums.length c4) (.slice A5 t.args.length c5)] w (StrPost w (printT t)) := by
 have HT1 := Lib.hid (TmAt.new w t (.slice A4 t.nums.length c4) (.slice A5 t.args.length c5))
 have hB1 := below_alloc (Below.refl w.heap.size w) (.cells #[.int .i64 t.kd, .int .i64 t.it, .string t.tx, .int .u32 t.cr, .slice A4 t.nums.length c4, .slice A5 t.args.length c5] 27)
 obtain ⟨R, hr⟩ : ∃ R, R = printT t := ⟨_, rfl⟩
 rw [← hr]
 have HQ := Lib.hid hr
 clear hr
 unfold tmV
 go_enter Tryz.func37, Tryz.ntmps37
 go_upto_region 1 with (fail)
 obtain ⟨w1, hw1⟩ : ∃ W, W = w.alloc (.cells #[.int .i64 t.kd, .int .i64 t.it, .string t.tx, .int .u32 t.cr, .slice A4 t.nums.length c4, .slice A5 t.args.length c5] 27) := ⟨_, rfl⟩
 rw [← hw1] at HT1 hB1
 rw [← hw1]
 clear hw1
 have HB1 := Lib.hid hB1
 have HCK := Lib.hid (term_Check t A4 A5 c4 c5 w1 (hR.below hB1) hsm (hG.below hB1))
 have HR := Lib.hid hR
 have HSM := Lib.hid hsm
 have HWF := Lib.hid hwf
 have HG := Lib.hid hG
 clear hR hsm hwf hG hB1
 unfold tmV at HCK
 obtain ⟨q0, q1, q2, q3, q4, q5, _, _, _, _, _, _⟩ := HT1.out
 go_wp2_with fail
 refine HCK.out.mono ?_
 rintro e w2 ⟨ve, rfl, hE, hB2⟩
 have HE := Lib.hid hE
 have HT2 := Lib.hid (HT1.out.below hB2 HT1.out.lt)
 have HB2 := Lib.hid (trans_below HB1.out hB2)
 clear hE hB2 HCK q0 q1 q2 q3 q4 q5
 cases hc : chk t with
 | cons x r =>
  have HQ2 : Hid (R = (⟨#[]⟩, x :: r)) := Lib.hid (HQ.out.trans (by unfold printT; rw [if_neg (by rw [hc]; simp), hc]))
  rw [hc] at HE
  obtain ⟨eb, u, rfl, _⟩ := HE.out
  clear hc
  go_wp2_with fail
  go_ret2
  rw [HQ2.out]
  exact ⟨_, rfl, HE.out, HB2.out⟩
 | nil =>
  have HQ2 : Hid (R = (strOfNums (txtT [] t), [])) := Lib.hid (HQ.out.trans (by unfold printT; rw [if_pos hc]))
  rw [hc] at HE
  obtain rfl : ve = .nilIface := HE.out
  have htl := chk_txt hc HWF.out
  have HW := Lib.hid (term_write w HG.out w2.heap.size HB2.out.size t A4 A5 c4 c5 [] (.slice none 0 0) w2 HR.out HB2.out (Kd.own_of_R (Kd.R_nil (Kd.int .u8) tyU8 w2 w2.heap.size (fun _ => True))) (Nat.le_refl _) ⟨1, 0, 0, hc⟩ HSM.out HWF.out (by simp only [List.length_nil]; omega))
  rw [List.nil_append] at HW
  generalize txtT [] t = T at HQ2 HW
  unfold tmV at HW
  obtain ⟨q0, q1, q2, q3, q4, q5, _, _, _, _, _, _⟩ := HT2.out
  clear hc htl
  go_wp2_with fail
  refine HW.out.mono ?_
  rintro e w3 ⟨v3, rfl, ho, hB3, _⟩
  have hcv := own_string (P := Tryz.prog) (src := 104) (dst := 9) Tryz.underlying104 Tryz.underlying5 Tryz.underlying9 ho
  have HB3 := Lib.hid (trans_below HB2.out hB3)
  clear ho hB3 HW q0 q1 q2 q3 q4 q5
  go_wp2_with fail
  go_ret2
  rw [HQ2.out]
  exact ⟨_, rfl, rfl, HB3.out⟩
end Go.Proofs.YtibbcfeaododhaaGreatDoor
set_option linter.unusedSimpArgs false
namespace Go.Proofs.YtibbcfeaododhaaGreatDoor
open Go.RowKit Go.Sort Go.Proofs.YtibbcfeaododhaaGreatDoorW.PrintWords
def sTa : ByteArray := ⟨#[123, 111, 107, 44, 32, 91, 49, 44, 32, 50, 32, 124, 32, 120, 93, 44, 32, 39, 65, 32, 98, 39, 44, 32, 60, 110, 64, 104, 46, 49, 46, 53, 46, 48, 62, 125]⟩
def sTp : ByteArray := ⟨#[123, 111, 107, 44, 91, 49, 44, 50, 124, 120, 93, 44, 39, 65, 32, 98, 39, 44, 60, 110, 64, 104, 46, 49, 46, 53, 46, 48, 62, 125]⟩
def sTb : ByteArray := ⟨#[91, 49, 44]⟩
theorem ta_read : (rdAll sTa).2 = [] := by decide +kernel
theorem ta_print : printT (rdAll sTa).1 = (sTp, []) := by decide +kernel
theorem ta_meas : measure (rdAll sTa).1 = ([], 8, 3) := by decide +kernel
theorem ta_comp : compareT (rdAll sTa).1 tmNil = -1 := by decide +kernel
theorem tb_read : (rdAll sTb).2 = [⟨nTerm, 3, 41⟩] := by decide +kernel
def TruePost (w : World) (e : Ending) (w' : World) : Prop := e = .returned (.bool true) ∧ Below w.heap.size w w'
theorem nil_is (W : World) : TmIs W tmNil (tmV tmNil (.slice none 0 0) (.slice none 0 0)) := (TmMade.flat W 0 6 0 ⟨#[]⟩ 0).is
set_option maxRecDepth 100000 in
set_option maxHeartbeats 4000000 in
theorem awake_any (w : World) (hG : Glob w) : Calls Tryz.prog 11 #[] w (TruePost w) := by
 have HG := Lib.hid hG
 clear hG
 have HR1 := Lib.hid (term_Read sTa (by decide))
 have HR2 := Lib.hid (term_Read sTb (by decide))
 have HIN := Lib.hid (rdAll_in sTa)
 have HF1 := Lib.hid ta_read
 have HF2 := Lib.hid ta_print
 have HF3 := Lib.hid ta_meas
 have HF4 := Lib.hid ta_comp
 have HF5 := Lib.hid tb_read
 generalize rdAll sTa = q at HR1 HIN HF1 HF2 HF3 HF4
 generalize rdAll sTb = q2 at HR2 HF5
 obtain ⟨t, l⟩ := q
 obtain ⟨t2, l2⟩ := q2
 obtain rfl : l = [] := HF1.out
 obtain rfl : l2 = _ := HF5.out
 go_enter Tryz.func11, Tryz.ntmps11
 go_wp2_with fail
 refine (HR1.out w HG.out).mono ?_
 rintro e w1 ⟨v, ev, rfl, hM, hE, hB1⟩
 obtain rfl : ev = .nilIface := hE
 obtain ⟨A4, c4, A5, c5, rfl, hT⟩ := hM.is
 have HT := Lib.hid hT
 have HB1 := Lib.hid hB1
 clear hM hT hB1
 unfold tmV
 go_upto_region 2 with (fail)
 have hta := TmAt.new w1 t (.slice A4 t.nums.length c4) (.slice A5 t.args.length c5)
 have hb := below_alloc (Below.refl w1.heap.size w1) (.cells #[.int .i64 t.kd, .int .i64 t.it, .string t.tx, .int .u32 t.cr, .slice A4 t.nums.length c4, .slice A5 t.args.length c5] 27)
 generalize w1.alloc (.cells #[.int .i64 t.kd, .int .i64 t.it, .string t.tx, .int .u32 t.cr, .slice A4 t.nums.length c4, .slice A5 t.args.length c5] 27) = w2 at hta hb ⊢
 have HA2 := Lib.hid hta
 have HB2 := Lib.hid (trans_below HB1.out hb)
 have HT2 := Lib.hid (HT.out.below hb)
 clear hta hb HB1 HT
 have HP := Lib.hid (term_Print t A4 A5 c4 c5 w2 HT2.out (inT_sm HIN.out) (inT_wf HIN.out) (HG.out.below HB2.out))
 rw [HF2.out] at HP
 unfold tmV sTp at HP
 obtain ⟨a0, a1, a2, a3, a4, a5, _, _, _, _, _, _⟩ := HA2.out
 go_wp2_with fail
 refine HP.out.mono ?_
 rintro e w3 ⟨ev, rfl, hE, hB⟩
 obtain rfl : ev = .nilIface := hE
 have HA3 := Lib.hid (HA2.out.below hB HA2.out.lt)
 have HB3 := Lib.hid (trans_below HB2.out hB)
 have HT3 := Lib.hid (HT2.out.below hB)
 clear hB a0 a1 a2 a3 a4 a5 HP HA2 HB2 HT2
 have HM := Lib.hid (term_Measure t A4 A5 c4 c5 w3 HT3.out (inT_sm HIN.out) (HG.out.below HB3.out))
 rw [HF3.out] at HM
 unfold tmV at HM
 obtain ⟨a0, a1, a2, a3, a4, a5, _, _, _, _, _, _⟩ := HA3.out
 go_wp2_with fail
 refine HM.out.mono ?_
 rintro e w4 ⟨ev, rfl, hE, hB⟩
 obtain rfl : ev = .nilIface := hE
 simp only [if_true]
 have HA4 := Lib.hid (HA3.out.below hB HA3.out.lt)
 have HB4 := Lib.hid (trans_below HB3.out hB)
 have HT4 := Lib.hid (HT3.out.below hB)
 clear hB a0 a1 a2 a3 a4 a5 HM HA3 HB3 HT3
 go_wp2_with fail
 refine (HR2.out w4 (HG.out.below HB4.out)).mono ?_
 rintro e w5 ⟨v, ev, rfl, hM, hE, hB5⟩
 have HE := Lib.hid hE
 obtain ⟨be, ue, rfl, _⟩ := hE
 obtain ⟨D4, d4, D5, d5, rfl, _⟩ := hM.is
 have HA5 := Lib.hid (HA4.out.below hB5 HA4.out.lt)
 have HB5 := Lib.hid (trans_below HB4.out hB5)
 have HT5 := Lib.hid (HT4.out.below hB5)
 clear hM hB5 HA4 HB4 HT4
 unfold tmV
 go_upto_region 5 with (fail)
 have hb := below_alloc (Below.refl w5.heap.size w5) (.cells #[.int .i64 t2.kd, .int .i64 t2.it, .string t2.tx, .int .u32 t2.cr, .slice D4 t2.nums.length d4, .slice D5 t2.args.length d5] 27)
 generalize w5.alloc (.cells #[.int .i64 t2.kd, .int .i64 t2.it, .string t2.tx, .int .u32 t2.cr, .slice D4 t2.nums.length d4, .slice D5 t2.args.length d5] 27) = w6 at hb ⊢
 have HA6 := Lib.hid (HA5.out.below hb HA5.out.lt)
 have HB6 := Lib.hid (trans_below HB5.out hb)
 have HT6 := Lib.hid (HT5.out.below hb)
 have HE6 := Lib.hid (HE.out.below hb)
 clear hb HA5 HB5 HT5 HE
 have HC := Lib.hid (term_Compare t tmNil (tmV t (.slice A4 t.nums.length c4) (.slice A5 t.args.length c5)) (tmV tmNil (.slice none 0 0) (.slice none 0 0)) w6 ⟨A4, c4, A5, c5, rfl, HT6.out⟩ (nil_is w6) (inT_sm HIN.out) rfl (HG.out.below HB6.out))
 rw [HF4.out] at HC
 unfold tmV at HC
 simp only [tmNil] at HC
 obtain ⟨a0, a1, a2, a3, a4, a5, _, _, _, _, _, _⟩ := HA6.out
 go_wp2_with fail
 refine HC.out.mono ?_
 rintro e w7 ⟨rfl, hB7⟩
 have HB7 := Lib.hid (trans_below HB6.out hB7)
 have HE7 := Lib.hid (HE6.out.below hB7)
 clear hB7 a0 a1 a2 a3 a4 a5 HC HA6 HT6 HE6 HB6
 go_wp2_with fail
 refine (mem_One _ _ _ _).mono ?_
 rintro e w8 ⟨v4, rfl, hL, hB8⟩
 obtain ⟨A9, c9, rfl, _, hC9⟩ := hL.reads
 have HC9 := Lib.hid hC9
 have HE8 := Lib.hid (HE7.out.below hB8)
 have HB8 := Lib.hid (trans_below HB7.out hB8)
 clear hL hC9 hB8
 go_wp2_with fail
 refine (Refused_in [⟨nTerm, 3, 41⟩] [⟨nTerm, 3, 41⟩] _ A9 c9 HE8.out (by decide) HC9.out (by decide) (HG.out.below HB8.out)).mono ?_
 rintro e w9 ⟨rfl, hB9⟩
 have HB9 := Lib.hid (trans_below HB8.out hB9)
 clear hB9
 rw [show refusedOf [⟨nTerm, 3, 41⟩] [⟨nTerm, 3, 41⟩] = true from by decide +kernel]
 go_wp2_with fail
 go_ret
 exact ⟨rfl, HB9.out⟩
end Go.Proofs.YtibbcfeaododhaaGreatDoor
set_option linter.unusedSimpArgs false
namespace Go.Proofs.YtibbcfeaododhaaGreatDoor
open Go.RowKit Go.Sort Go.Proofs.YtibbcfeaododhaaGreatDoorW.PrintWords
theorem formBad_len (t : Tm) (n : Int) : (formBad t n).length ≤ 2 := by
 have h := formPre_len t 0 n
 unfold formPre at h
 by_cases h1 : n = 4096
 ·subst h1
  have hq : (quoted t.tx).2.length ≤ 1 := by
   unfold quoted
   repeat' split
   all_goals simp
  have hn : (nodeBad t.tx).length ≤ 1 := by
   unfold nodeBad
   split <;> simp
  have ho : ∀ (a : Int) (l : List Lk), l.length ≤ 1 → (overTm a l).length ≤ 2 := by
   intro a l h
   cases l with
   | nil => simp [overTm]
   | cons x r => simp [overTm] at h ⊢; omega
  unfold formBad
  repeat' split
  all_goals first | (simp; done) | exact ho _ _ hq | exact ho _ _ hn
 ·rw [if_neg h1, if_neg (by omega)] at h
  exact h
theorem meas_len (t : Tm) : ∀ d n m, (measT t d n m).1.length ≤ 2 := by
 induction t using Tm.ind with
 | h t ih =>
  intro d n m
  rw [measT_eq]
  split
  ·simp
  ·split
   ·simp
   ·have h := formBad_len t n
    have hl : ∀ (l : List Tm), (∀ a ∈ l, a ∈ t.args) → ∀ d n m, (measL l d n m).1.length ≤ 2 := by
     intro l
     induction l with
     | nil => intro _ d n m; rw [measL]; simp
     | cons a l ihl =>
      intro hs d n m
      rw [measL]
      have h1 := ih a (hs a (by simp)) d n m
      match he : measT a d n m with
      | ([], n', m') => exact ihl (fun x hx => hs x (by simp [hx])) d n' m'
      | (x :: r, n', m') => rw [he] at h1; exact h1
    cases hf : formBad t n with
    | nil => exact hl t.args (fun _ h => h) _ _ _
    | cons x r => rw [hf] at h; exact h
theorem chk_len (t : Tm) : (chk t).length ≤ 2 := meas_len t 1 0 0
/-- heddlemem.Refused of an error and just its chain. -/
theorem refused_same {W : World} {l : List Lk} {v : Value} {A : Option Addr} {c : Nat} (hl : l.length ≤ 2) (h : ErrIs W l v) (hC : kLk.C W A l.length l) (hG : Glob W) :
  Calls Tryz.prog 9 #[v, .slice A l.length c] W (TruePost W) := by
 refine (Refused_in l l v A c h (by omega) hC (by omega) hG).mono ?_
 rintro e w' ⟨rfl, hB⟩
 exact ⟨by rw [show refusedOf l l = true from decide_eq_true rfl], hB⟩
end Go.Proofs.YtibbcfeaododhaaGreatDoor
namespace Go.Proofs.YtibbcfeaododhaaGreatDoor
open Go.RowKit Go.Proofs.YtibbcfeaododhaaGreatDoorW.PrintWords Go.Proofs.YtibbcfeaododhaaGreatDoor.PSe
mutual
def toS : Tm → S27
 | ⟨kd, it, tx, cr, ns, us⟩ => ⟨kd, it, tx, cr, ns, toSL us⟩
def toSL : List Tm → List S27
 | [] => []
 | a :: us => toS a :: toSL us
end
theorem toSL_map : ∀ l : List Tm, toSL l = l.map toS
 | [] => by rw [toSL]; rfl
 | a :: l => by rw [toSL, toSL_map l]; rfl
theorem toS_eq (t : Tm) : toS t = ⟨t.kd, t.it, t.tx, t.cr, t.nums, t.args.map toS⟩ := by
 cases t
 rw [toS, toSL_map]
/-- Lists are of lengths that a machine can hold. -/
inductive LenOk : Tm → Prop
 | mk (t : Tm) (h4 : t.nums.length ≤ 9223372036854775807) (h5 : t.args.length ≤ 9223372036854775807) (h : ∀ a ∈ t.args, LenOk a) : LenOk t
theorem C_map {α β : Type} {d : Kd α} {d' : Kd β} {f : α → β} (hs : d.sz = d'.sz) {w : World} (h : ∀ x cs, d.K w x cs → d'.K w (f x) cs) {A : Option Addr} {n : Nat} {xs : List α} (hc : d.C w A n xs) : d'.C w A n (xs.map f) := by
 refine ⟨by rw [List.length_map]; exact hc.1, hc.2.1, fun hn => ?_⟩
 obtain ⟨ad, e, h2⟩ := hc.2.2 hn
 refine ⟨ad, e, fun j p hj => ?_⟩
 rw [List.getElem?_map, Option.map_eq_some_iff] at hj
 obtain ⟨x, hx, rfl⟩ := hj
 obtain ⟨cs, hl, hK, hcell⟩ := h2 j x hx
 refine ⟨cs, by rw [← hs]; exact hl, h _ _ hK, ?_⟩
 rw [← hs]
 exact hcell
theorem C_len {d : Kd Tm} {w : World} {A : Option Addr} {n : Nat} {xs : List Tm} (h : ∀ x cs, d.K w x cs → LenOk x) (hc : d.C w A n xs) : xs.length ≤ 9223372036854775807 ∧ ∀ a ∈ xs, LenOk a := by
 refine ⟨by rw [hc.1]; exact hc.2.1, fun a ha => ?_⟩
 obtain ⟨i, hi, rfl⟩ := List.mem_iff_getElem.1 ha
 obtain ⟨ad, e, h2⟩ := hc.2.2 (by have := hc.1; omega)
 obtain ⟨cs, _, hK, _⟩ := h2 i xs[i] (List.getElem?_eq_getElem hi)
 exact h _ _ hK
theorem K_toS (w : World) : ∀ n x cs, (Kd.upto kTmF 6 [tyU32, tyTm] n).K w x cs → (Kd.upto F27 6 [23, 27] n).K w (toS x) cs ∧ LenOk x
 | 0, _, _, h => h.elim
 | n + 1, x, cs, h => by
  obtain ⟨_, _, rfl, rfl, ⟨_, _, rfl, rfl, ⟨_, _, rfl, rfl, ⟨_, _, rfl, rfl, ⟨_, _, rfl, ⟨A4, c4, rfl, l4, g4⟩, ⟨A5, c5, rfl, l5, g5⟩⟩⟩⟩⟩⟩ := h
  have hl5 := C_len (d := Kd.upto kTmF 6 [tyU32, tyTm] n) (fun y cy hy => (K_toS w n y cy hy).2) g5
  refine ⟨?_, .mk x g4.2.1 hl5.1 hl5.2⟩
  rw [toS_eq]
  have g6 := C_map (d' := Kd.upto F27 6 [23, 27] n) (f := toS) (by rw [kTm_sz, sz27]) (fun y cy hy => (K_toS w n y cy hy).1) g5
  have hm : (x.args.map toS).length = x.args.length := List.length_map _
  refine ⟨[.int .i64 x.kd], [.int .i64 x.it, .string x.tx, .int .u32 x.cr, .slice A4 x.nums.length c4, .slice A5 x.args.length c5], rfl, rfl, ⟨[.int .i64 x.it], [.string x.tx, .int .u32 x.cr, .slice A4 x.nums.length c4, .slice A5 x.args.length c5], rfl, rfl, ⟨[.string x.tx], [.int .u32 x.cr, .slice A4 x.nums.length c4, .slice A5 x.args.length c5], rfl, rfl, ⟨[.int .u32 x.cr], [.slice A4 x.nums.length c4, .slice A5 x.args.length c5], rfl, rfl, ⟨[.slice A4 x.nums.length c4], [.slice A5 x.args.length c5], rfl, ⟨A4, c4, rfl, l4, g4⟩, ⟨A5, c5, by simp only [hm], by simp only [hm]; exact l5, by simp only [hm]; exact g6⟩⟩⟩⟩⟩⟩
theorem C_toS {w : World} {A : Option Addr} {n : Nat} {xs : List Tm} (h : kTm.C w A n xs) : k27.C w A n (xs.map toS) ∧ xs.length ≤ 9223372036854775807 ∧ ∀ a ∈ xs, LenOk a :=
 ⟨C_map (d := kTm) (d' := k27) rfl (fun x cs ⟨n, hn⟩ => ⟨n, (K_toS w n x cs hn).1⟩) h, C_len (d := kTm) (fun x cs ⟨n, hn⟩ => (K_toS w n x cs hn).2) h⟩
/-- Are these the same terms? -/
noncomputable def sameT (a b : Tm) : Bool := @decide (a = b) (Classical.propDecidable _)
theorem sameT_iff {a b : Tm} : sameT a b = true ↔ a = b := by unfold sameT; exact @decide_eq_true_iff (a = b) (Classical.propDecidable _)
theorem sameT_refl (a : Tm) : sameT a a = true := sameT_iff.2 rfl
theorem sameT_false {a b : Tm} (h : a ≠ b) : sameT a b = false := by rw [Bool.eq_false_iff]; exact fun e => h (sameT_iff.1 e)
theorem Tm.eq_iff {a b : Tm} : a = b ↔ a.kd = b.kd ∧ a.it = b.it ∧ a.tx = b.tx ∧ a.cr = b.cr ∧ a.nums = b.nums ∧ a.args = b.args := by
 cases a
 cases b
 simp only [Tm.mk.injEq]
theorem rd_at {l : List Int} {i : Nat} (h : i < l.length) : rd l (i : Int) = l[i] := by
 unfold rd
 rw [Int.toNat_natCast, List.getD_eq_getElem?_getD, List.getElem?_eq_getElem h]
 rfl
theorem rdS_at {l : List Tm} {i : Nat} (h : i < l.length) : rd_T27 (l.map toS) (i : Int) = toS l[i] := by
 unfold rd_T27
 rw [Int.toNat_natCast, List.getD_eq_getElem?_getD, List.getElem?_map, List.getElem?_eq_getElem h]
 rfl
section
variable {a b : Tm}
/-- The loop over two terms' parts. -/
theorem same_l1 (hl : a.args.length = b.args.length) (hm : a.args.length ≤ 9223372036854775807)
  (ih : ∀ (i : Nat) (h : i < a.args.length), Ev (fun k => heddleref02_Same.f k (toS a.args[i]).f0 (toS a.args[i]).f1 (toS a.args[i]).f2 (toS a.args[i]).f3 (toS a.args[i]).f4 (toS a.args[i]).f5 (toS (b.args[i]'(by omega))).f0 (toS (b.args[i]'(by omega))).f1 (toS (b.args[i]'(by omega))).f2 (toS (b.args[i]'(by omega))).f3 (toS (b.args[i]'(by omega))).f4 (toS (b.args[i]'(by omega))).f5) (sameT a.args[i] (b.args[i]'(by omega)))) :
  ∀ (d i : Nat), a.args.length - i = d → i ≤ a.args.length → ∃ r, (r = true ↔ a.args.drop i = b.args.drop i) ∧ Ev (fun k => heddleref02_Same.l1 k (i : Int) a.kd a.it a.tx a.cr a.nums (a.args.map toS) b.kd b.it b.tx b.cr b.nums (b.args.map toS)) r
 | 0, i, hd, hi => by
  refine ⟨true, ?_, Ev.step (f := fun _ => some true) (fun k => ?_) (Ev.now true)⟩
  ·rw [List.drop_of_length_le (by omega), List.drop_of_length_le (by omega)]
   simp
  ·simp only [heddleref02_Same.l1]
   rw [if_neg (by rw [List.length_map]; omega)]
 | d + 1, i, hd, hi => by
  have h1 : i < a.args.length := by omega
  have h2 : i < b.args.length := by omega
  obtain ⟨r, hr, he⟩ := same_l1 hl hm ih d (i + 1) (by omega) (by omega)
  have hw : wrap64 ((i : Int) + 1) = ((i + 1 : Nat) : Int) := by unfold wrap64; omega
  have hi1 := ih i h1
  by_cases heq : a.args[i] = b.args[i]
  ·refine ⟨r, ?_, ?_⟩
   ·rw [hr, List.drop_eq_getElem_cons h1, List.drop_eq_getElem_cons h2, heq]
    simp only [List.cons.injEq, true_and]
   ·refine Ev.step (f := fun k => (heddleref02_Same.f k (toS a.args[i]).f0 (toS a.args[i]).f1 (toS a.args[i]).f2 (toS a.args[i]).f3 (toS a.args[i]).f4 (toS a.args[i]).f5 (toS b.args[i]).f0 (toS b.args[i]).f1 (toS b.args[i]).f2 (toS b.args[i]).f3 (toS b.args[i]).f4 (toS b.args[i]).f5).bind fun t => if t = true then heddleref02_Same.l1 k ((i + 1 : Nat) : Int) a.kd a.it a.tx a.cr a.nums (a.args.map toS) b.kd b.it b.tx b.cr b.nums (b.args.map toS) else some false) (fun k => ?_) ?_
    ·simp only [heddleref02_Same.l1]
     rw [if_pos (by rw [List.length_map]; omega), if_pos (by omega), if_pos (by rw [List.length_map]; omega), rdS_at h1, rdS_at h2, hw]
    ·refine Ev.bind (a := true) ?_ ?_
     ·have := hi1
      rw [sameT_iff.2 heq] at this
      exact this
     ·simp only [if_true]
      exact he
  ·refine ⟨false, ?_, ?_⟩
   ·rw [List.drop_eq_getElem_cons h1, List.drop_eq_getElem_cons h2]
    simp only [List.cons.injEq, heq, false_and]
    decide
   ·refine Ev.step (f := fun k => (heddleref02_Same.f k (toS a.args[i]).f0 (toS a.args[i]).f1 (toS a.args[i]).f2 (toS a.args[i]).f3 (toS a.args[i]).f4 (toS a.args[i]).f5 (toS b.args[i]).f0 (toS b.args[i]).f1 (toS b.args[i]).f2 (toS b.args[i]).f3 (toS b.args[i]).f4 (toS b.args[i]).f5).bind fun t => if t = true then heddleref02_Same.l1 k ((i + 1 : Nat) : Int) a.kd a.it a.tx a.cr a.nums (a.args.map toS) b.kd b.it b.tx b.cr b.nums (b.args.map toS) else some false) (fun k => ?_) ?_
    ·simp only [heddleref02_Same.l1]
     rw [if_pos (by rw [List.length_map]; omega), if_pos (by omega), if_pos (by rw [List.length_map]; omega), rdS_at h1, rdS_at h2, hw]
    ·refine Ev.bind (a := false) ?_ ?_
     ·have := hi1
      rw [sameT_false heq] at this
      exact this
     ·exact Ev.congr (f := fun _ => some false) (fun k => by simp) (Ev.now false)
/-- The loop over two terms' numbers. -/
theorem same_l0 (hl : a.nums.length = b.nums.length) (hm : a.nums.length ≤ 9223372036854775807) {r : Bool}
  (h1 : Ev (fun k => heddleref02_Same.l1 k 0 a.kd a.it a.tx a.cr a.nums (a.args.map toS) b.kd b.it b.tx b.cr b.nums (b.args.map toS)) r) :
  ∀ (d i : Nat), a.nums.length - i = d → i ≤ a.nums.length → Ev (fun k => heddleref02_Same.l0 k (i : Int) a.kd a.it a.tx a.cr a.nums (a.args.map toS) b.kd b.it b.tx b.cr b.nums (b.args.map toS)) (decide (a.nums.drop i = b.nums.drop i) && r)
 | 0, i, hd, hi => by
  rw [List.drop_of_length_le (by omega), List.drop_of_length_le (by omega)]
  refine Ev.step (fun k => ?_) h1
  simp only [heddleref02_Same.l0]
  rw [if_neg (by omega)]
 | d + 1, i, hd, hi => by
  have h2 : i < a.nums.length := by omega
  have h3 : i < b.nums.length := by omega
  have he := same_l0 hl hm h1 d (i + 1) (by omega) (by omega)
  have hw : wrap64 ((i : Int) + 1) = ((i + 1 : Nat) : Int) := by unfold wrap64; omega
  rw [List.drop_eq_getElem_cons h2, List.drop_eq_getElem_cons h3]
  by_cases heq : a.nums[i] = b.nums[i]
  ·rw [heq, show decide (b.nums[i] :: List.drop (i + 1) a.nums = b.nums[i] :: List.drop (i + 1) b.nums) = decide (List.drop (i + 1) a.nums = List.drop (i + 1) b.nums) by simp only [List.cons.injEq, true_and]]
   refine Ev.step (fun k => ?_) he
   simp only [heddleref02_Same.l0]
   rw [if_pos (by omega), if_pos (by omega), if_pos (by omega), rd_at h2, rd_at h3, if_pos heq, hw]
  ·rw [show (decide (a.nums[i] :: List.drop (i + 1) a.nums = b.nums[i] :: List.drop (i + 1) b.nums) && r) = false by simp only [List.cons.injEq, heq, false_and, decide_false, Bool.false_and]]
   refine Ev.step (f := fun _ => some false) (fun k => ?_) (Ev.now false)
   simp only [heddleref02_Same.l0]
   rw [if_pos (by omega), if_pos (by omega), if_pos (by omega), rd_at h2, rd_at h3, if_neg heq]
theorem same_j0 (x : Bool) (hx : x = true) : Ev (fun k => heddleref02_Same.j0 k x a.kd a.it a.tx a.cr a.nums (a.args.map toS) b.kd b.it b.tx b.cr b.nums (b.args.map toS)) false := by
 refine Ev.step (f := fun _ => some false) (fun k => ?_) (Ev.now false)
 simp only [heddleref02_Same.j0]
 rw [if_pos hx]
end
theorem tl_eq {a b : ByteArray} : a.toList = b.toList ↔ a = b := by
 constructor
 ·intro h
  rw [Lib.toList_data, Lib.toList_data] at h
  obtain ⟨⟨x⟩⟩ := a
  obtain ⟨⟨y⟩⟩ := b
  simp at h
  rw [h]
 ·intro h
  rw [h]
theorem same_ev (a : Tm) : LenOk a → ∀ b, Ev (fun k => heddleref02_Same.f k a.kd a.it a.tx a.cr a.nums (a.args.map toS) b.kd b.it b.tx b.cr b.nums (b.args.map toS)) (sameT a b) := by
 induction a using Tm.ind with
 | h a ih =>
  intro hlen b
  obtain ⟨_, hn4, hn5, hna⟩ := hlen
  by_cases c0 : a.kd = b.kd
  ·by_cases c1 : a.it = b.it
   ·by_cases c2 : a.tx = b.tx
    ·by_cases c3 : a.cr = b.cr
     ·by_cases c4 : a.nums.length = b.nums.length
      ·by_cases c5 : a.args.length = b.args.length
       ·obtain ⟨r, hr, he⟩ := same_l1 (a := a) (b := b) c5 hn5 (fun i h => by
         have h2 : i < b.args.length := by omega
         have := ih a.args[i] (List.getElem_mem h) (hna _ (List.getElem_mem h)) b.args[i]
         rw [toS_eq, toS_eq]
         exact this) a.args.length 0 (by omega) (Nat.zero_le _)
        have h0 := same_l0 (a := a) (b := b) c4 hn4 he a.nums.length 0 (by omega) (Nat.zero_le _)
        rw [List.drop_zero, List.drop_zero] at h0 hr
        have hs : sameT a b = (decide (a.nums = b.nums) && r) := by
         rw [Bool.eq_iff_iff, sameT_iff, Tm.eq_iff, Bool.and_eq_true, decide_eq_true_eq, hr]
         simp [c0, c1, c2, c3]
        rw [hs]
        refine Ev.step (f := fun k => heddleref02_Same.j0 k false a.kd a.it a.tx a.cr a.nums (a.args.map toS) b.kd b.it b.tx b.cr b.nums (b.args.map toS)) (fun k => ?_) (Ev.step (fun k => ?_) h0)
        ·simp only [heddleref02_Same.f]
         rw [if_pos c0, if_pos c1, if_pos (tl_eq.2 c2), if_pos c3, if_pos (by omega)]
         rw [show (((a.args.map toS).length : Int) != ((b.args.map toS).length : Int)) = false by simp [c5]]
        ·simp only [heddleref02_Same.j0]
         rw [if_neg (by simp)]
         rfl
       ·rw [sameT_false (fun e => c5 (by rw [e]))]
        refine Ev.step (fun k => ?_) (same_j0 (a := a) (b := b) (((a.args.map toS).length : Int) != ((b.args.map toS).length : Int)) (by simp; omega))
        simp only [heddleref02_Same.f]
        rw [if_pos c0, if_pos c1, if_pos (tl_eq.2 c2), if_pos c3, if_pos (by omega)]
      ·rw [sameT_false (fun e => c4 (by rw [e]))]
       refine Ev.step (fun k => ?_) (same_j0 (a := a) (b := b) true rfl)
       simp only [heddleref02_Same.f]
       rw [if_pos c0, if_pos c1, if_pos (tl_eq.2 c2), if_pos c3, if_neg (by omega)]
     ·rw [sameT_false (fun e => c3 (by rw [e]))]
      refine Ev.step (fun k => ?_) (same_j0 (a := a) (b := b) true rfl)
      simp only [heddleref02_Same.f]
      rw [if_pos c0, if_pos c1, if_pos (tl_eq.2 c2), if_neg c3]
    ·rw [sameT_false (fun e => c2 (by rw [e]))]
     refine Ev.step (fun k => ?_) (same_j0 (a := a) (b := b) true rfl)
     simp only [heddleref02_Same.f]
     rw [if_pos c0, if_pos c1, if_neg (fun e => c2 (tl_eq.1 e))]
   ·rw [sameT_false (fun e => c1 (by rw [e]))]
    refine Ev.step (fun k => ?_) (same_j0 (a := a) (b := b) true rfl)
    simp only [heddleref02_Same.f]
    rw [if_pos c0, if_neg c1]
  ·rw [sameT_false (fun e => c0 (by rw [e]))]
   refine Ev.step (fun k => ?_) (same_j0 (a := a) (b := b) true rfl)
   simp only [heddleref02_Same.f]
   rw [if_neg c0]
/-- heddleref02.Same. -/
theorem ref02_Same {a b : Tm} {v u : Value} {w : World} (hv : TmIs w a v) (hu : TmIs w b u) :
  Calls Tryz.prog 10 #[v, u] w fun e w' => e = .returned (.bool (sameT a b)) ∧ Below w.heap.size w w' := by
 obtain ⟨A4, c4, A5, c5, rfl, hT⟩ := hv
 obtain ⟨B4, d4, B5, d5, rfl, hU⟩ := hu
 obtain ⟨g5, hm, hl⟩ := C_toS hT.g5
 obtain ⟨e5, _, _⟩ := C_toS hU.g5
 obtain ⟨k, hk⟩ := (same_ev a (.mk a hT.g4.2.1 hm hl) b).rounds
 have ha : (a.args.map toS).length = a.args.length := List.length_map _
 have hb : (b.args.map toS).length = b.args.length := List.length_map _
 have h := heddleref02_Same.calls k a.kd a.it a.tx a.cr A4 c4 a.nums A5 c5 (a.args.map toS) b.kd b.it b.tx b.cr B4 d4 b.nums B5 d5 (b.args.map toS) (sameT a b) w hT.g4 hT.l4 (by rw [ha]; exact g5) (by rw [ha]; exact hT.l5) hU.g4 hU.l4 (by rw [hb]; exact e5) (by rw [hb]; exact hU.l5) hk
 rw [ha, hb] at h
 exact h
end Go.Proofs.YtibbcfeaododhaaGreatDoor
set_option linter.unusedSimpArgs false
set_option linter.unusedVariables false
namespace Go.Proofs.YtibbcfeaododhaaGreatDoor
open Go.RowKit Go.Sort Go.Proofs.YtibbcfeaododhaaGreatDoorW.PrintWords Tb
theorem over_len (a : Int) {l : List Lk} (h : l.length ≤ 1) : (overTm a l).length ≤ 2 := by
 cases l with
 | nil => simp [overTm]
 | cons x r => simp [overTm] at h ⊢; omega
theorem atomAt_len (s : ByteArray) (k : Nat) : (atomAt s k).2.2.length ≤ 2 := by
 have h := aScan_len s k
 unfold atomAt
 split
 ·simp
 ·generalize aScan s k = q at h ⊢
  obtain ⟨a, e, l⟩ := q
  cases l with
  | nil => simp
  | cons x r => exact over_len _ h
theorem numAt_len (s : ByteArray) (k : Nat) : (numAt s k).2.2.length ≤ 2 := by
 unfold numAt
 split
 ·simp
 ·split <;> simp
theorem numsAt_len (s : ByteArray) : ∀ (n k : Nat), (numsAt s n k).2.2.length ≤ 2
 | 0, k => by rw [numsAt]; simp
 | n + 1, k => by
  rw [numsAt]
  split
  ·simp
  ·have h1 := numAt_len s (k + 1)
   generalize numAt s (k + 1) = q at h1 ⊢
   obtain ⟨v, e, l⟩ := q
   cases l with
   | cons x r => exact h1
   | nil =>
    have h2 := numsAt_len s n e
    simp only
    generalize numsAt s n e = p at h2 ⊢
    obtain ⟨vs, e', l'⟩ := p
    cases l' with
    | cons y r => exact h2
    | nil => simp
theorem whole_len (s : ByteArray) (k : Nat) : (wholeAt s k).2.2.length ≤ 2 := by
 unfold wholeAt intAt rdNo
 repeat' split
 all_goals simp
theorem nodeBad_len (s : ByteArray) : (nodeBad s).length ≤ 1 := by
 unfold nodeBad
 split <;> simp
theorem far_len (s : ByteArray) (k : Nat) (kd : Int) (many : Nat) : (farAt s k kd many).2.2.length ≤ 2 := by
 rw [farAt_eq]
 have h1 := atomAt_len s k
 split
 ·split
  ·exact over_len _ (nodeBad_len _)
  ·unfold farEnd rdNo
   have h2 := numsAt_len s (many + 1) (atomAt s k).2.1
   generalize numsAt s (many + 1) (atomAt s k).2.1 = q at h2 ⊢
   split
   ·split <;> simp
   ·exact h2
 ·exact h1
theorem sev_len {F : Nat → Rd} (s : ByteArray) (hF : ∀ k, (F k).2.2.length ≤ 2) : ∀ (m k : Nat) (acc : List Tm), (sevAt F s m k acc).2.2.length ≤ 2
 | 0, k, acc => by rw [sevAt]; simp
 | m + 1, k, acc => by
  have hk := hF k
  by_cases he : (F k).2.2 = []
  ·cases hc : isAt s (blk s (F k).2.1) 44 with
   | true => rw [sev_more he hc]; exact sev_len s hF m _ _
   | false => rw [sev_last he hc]; simp
  ·rw [sev_err he]; exact hk
theorem tuple_len {F : Nat → Rd} (s : ByteArray) (hF : ∀ k, (F k).2.2.length ≤ 2) (k : Nat) : (tupleAt F s k).2.2.length ≤ 2 := by
 rw [tupleAt_eq]
 split
 ·simp
 ·unfold tupEnd rdNo
  have h := sev_len s hF (s.size + 1) (blk s k) []
  split
  ·split <;> simp
  ·exact h
theorem list_len {F : Nat → Rd} (s : ByteArray) (hF : ∀ k, (F k).2.2.length ≤ 2) (k : Nat) : (listAt F s k).2.2.length ≤ 2 := by
 have hl : ∀ l t k, (listEnd s l t k).2.2.length ≤ 2 := by
  intro l t k
  unfold listEnd rdNo
  split <;> simp
 rw [listAt_eq]
 split
 ·simp
 ·unfold lstEnd
  have h := sev_len s hF (s.size + 1) (blk s k) []
  split
  ·split
   ·split
    ·exact hl _ _ _
    ·exact hF _
   ·exact hl _ _ _
  ·exact h
theorem begun_len {F : Nat → Rd} (s : ByteArray) (hF : ∀ k, (F k).2.2.length ≤ 2) (k : Nat) : (begunAt F s k).2.2.length ≤ 2 := by
 unfold begunAt
 split
 ·simp [rdNo]
 ·split
  ·exact whole_len s k
  ·split
   ·exact tuple_len s hF _
   ·split
    ·exact list_len s hF _
    ·split
     ·split
      ·exact far_len _ _ _ _
      ·simp [rdNo]
     ·split
      ·exact far_len _ _ _ _
      ·have h := atomAt_len s k
       generalize atomAt s k = q at h ⊢
       obtain ⟨a, e, l⟩ := q
       cases l with
       | nil => simp
       | cons x r => exact h
theorem rdT_len (s : ByteArray) : ∀ d k, (rdT s d k).2.2.length ≤ 2
 | 0, k => by rw [rdT]; simp [rdNo]
 | d + 1, k => by rw [rdT]; exact begun_len s (rdT_len s d) _
theorem rdAll_len (s : ByteArray) : (rdAll s).2.length ≤ 2 := by
 by_cases hb : 4194304 < s.size
 ·unfold rdAll
  rw [if_pos hb]
  simp
 ·rw [rdAll_eq hb]
  split
  ·unfold rdEnd
   split
   ·simp
   ·split
    ·simp
    ·exact chk_len _
  ·exact rdT_len s 256 0
set_option maxRecDepth 100000 in
set_option maxHeartbeats 4000000 in
theorem walk_TermReads (s : ByteArray) (w : World) (hsz : s.size ≤ 140737488351232) (hG : Glob w) :
  Calls Tryz.prog 3 #[.string s] w (TruePost w) := by
 have HR1 := Lib.hid (term_Read s hsz w hG)
 have HR2 := Lib.hid fun W => ref_Read s hsz W
 have HG := Lib.hid fun W (hW : Below w.heap.size w W) => hG.below hW
 have HLN := Lib.hid (rdAll_len s)
 generalize rdAll s = R at HR1 HR2 HLN
 obtain ⟨t, l⟩ := R
 clear hG
 go_enter Tryz.func3, Tryz.ntmps3
 go_wp2_with fail
 refine HR1.out.mono ?_
 rintro e w1 ⟨v, ev, rfl, hM, hE, hB⟩
 obtain ⟨A4, c4, A5, c5, rfl, hT⟩ := hM.is
 have HE1 := Lib.hid hE
 have HB1 := Lib.hid hB
 have HI1 := Lib.hid hT
 have hsh : ev = .nilIface ∨ ∃ b, ev = .iface 92 (.pointer (some ⟨b, 0, none⟩)) := hE.shape
 clear hM hT hE hB HR1
 unfold tmV
 rcases hsh with rfl | ⟨be, rfl⟩
 ·go_upto_region 2 with (fail)
  have hb := below_alloc (Below.refl (w1).heap.size w1) (.cells #[.int .i64 (t).kd, .int .i64 (t).it, .string (t).tx, .int .u32 (t).cr, .slice A4 (t).nums.length c4, .slice A5 (t).args.length c5] 27)
  have hta := TmAt.new w1 (t) (.slice A4 (t).nums.length c4) (.slice A5 (t).args.length c5)
  generalize (w1).alloc (.cells #[.int .i64 (t).kd, .int .i64 (t).it, .string (t).tx, .int .u32 (t).cr, .slice A4 (t).nums.length c4, .slice A5 (t).args.length c5] 27) = w2 at hb hta ⊢
  have HT2 := Lib.hid hta
  have HBn := Lib.hid hb
  clear hb hta
  have HE2 := Lib.hid (HE1.out.below HBn.out)
  have HI2 := Lib.hid (HI1.out.below HBn.out)
  have HB2 := Lib.hid (trans_below HB1.out HBn.out)
  clear HE1 HI1 HB1 HBn
  go_wp2_with fail
  refine (HR2.out w2).mono ?_
  rintro e w3 ⟨v, uv, rfl, hM, hL, hB⟩
  obtain ⟨B4, d4, B5, d5, rfl, hT⟩ := hM.is
  obtain ⟨A9, c9, rfl, _, hC9⟩ := hL.reads
  have HE3 := Lib.hid (HE2.out.below hB)
  have HI3 := Lib.hid (HI2.out.below hB)
  have HJ3 := Lib.hid hT
  have HC3 := Lib.hid hC9
  have HT3 := Lib.hid (HT2.out.below hB HT2.out.lt)
  have HB3 := Lib.hid (trans_below HB2.out hB)
  clear hM hL hB hT hC9 HE2 HI2 HT2 HB2 HR2
  unfold tmV
  go_upto_region 3 with (fail)
  have hb := below_alloc (Below.refl (w3).heap.size w3) (.cells #[.int .i64 (t).kd, .int .i64 (t).it, .string (t).tx, .int .u32 (t).cr, .slice B4 (t).nums.length d4, .slice B5 (t).args.length d5] 27)
  have hta := TmAt.new w3 (t) (.slice B4 (t).nums.length d4) (.slice B5 (t).args.length d5)
  generalize (w3).alloc (.cells #[.int .i64 (t).kd, .int .i64 (t).it, .string (t).tx, .int .u32 (t).cr, .slice B4 (t).nums.length d4, .slice B5 (t).args.length d5] 27) = w4 at hb hta ⊢
  have HU4 := Lib.hid hta
  have HBn := Lib.hid hb
  clear hb hta
  have HE4 := Lib.hid (HE3.out.below HBn.out)
  have HI4 := Lib.hid (HI3.out.below HBn.out)
  have HJ4 := Lib.hid (HJ3.out.below HBn.out)
  have HC4 := Lib.hid (Kd.C_below HC3.out HBn.out)
  have HT4 := Lib.hid (HT3.out.below HBn.out HT3.out.lt)
  have HB4 := Lib.hid (trans_below HB3.out HBn.out)
  clear HE3 HI3 HJ3 HC3 HT3 HB3 HBn
  have HRF := Lib.hid (refused_same (c := c9) HLN.out HE4.out HC4.out (HG.out _ HB4.out))
  go_wp2_with fail
  refine HRF.out.mono ?_
  rintro e w5 ⟨rfl, hB⟩
  have HT5 := Lib.hid (HT4.out.below hB HT4.out.lt)
  have HU5 := Lib.hid (HU4.out.below hB HU4.out.lt)
  have HB5 := Lib.hid (trans_below HB4.out hB)
  have HSM := Lib.hid (ref02_Same (a := t) (b := t) (w := w5) ⟨A4, c4, A5, c5, rfl, HI4.out.below hB⟩ ⟨B4, d4, B5, d5, rfl, HJ4.out.below hB⟩)
  rw [sameT_refl] at HSM
  unfold tmV at HSM
  clear hB HE4 HI4 HJ4 HC4 HT4 HU4 HB4 HRF
  obtain ⟨s0, s1, s2, s3, s4, s5, _, _, _, _, _, _⟩ := HT5.out
  obtain ⟨u0, u1, u2, u3, u4, u5, _, _, _, _, _, _⟩ := HU5.out
  go_wp2_with fail
  refine HSM.out.mono ?_
  rintro e w6 ⟨rfl, hB⟩
  have HB6 := Lib.hid (trans_below HB5.out hB)
  clear hB s0 s1 s2 s3 s4 s5 u0 u1 u2 u3 u4 u5
  go_wp2_with fail
  refine (awake_any _ (HG.out _ HB6.out)).mono ?_
  rintro e w7 ⟨rfl, hB⟩
  have HB7 := Lib.hid (trans_below HB6.out hB)
  clear hB
  go_wp2_with fail
  go_ret
  exact ⟨rfl, HB7.out⟩
 ·go_upto_region 2 with (fail)
  have hb := below_alloc (Below.refl (w1).heap.size w1) (.cells #[.int .i64 (t).kd, .int .i64 (t).it, .string (t).tx, .int .u32 (t).cr, .slice A4 (t).nums.length c4, .slice A5 (t).args.length c5] 27)
  have hta := TmAt.new w1 (t) (.slice A4 (t).nums.length c4) (.slice A5 (t).args.length c5)
  generalize (w1).alloc (.cells #[.int .i64 (t).kd, .int .i64 (t).it, .string (t).tx, .int .u32 (t).cr, .slice A4 (t).nums.length c4, .slice A5 (t).args.length c5] 27) = w2 at hb hta ⊢
  have HT2 := Lib.hid hta
  have HBn := Lib.hid hb
  clear hb hta
  have HE2 := Lib.hid (HE1.out.below HBn.out)
  have HI2 := Lib.hid (HI1.out.below HBn.out)
  have HB2 := Lib.hid (trans_below HB1.out HBn.out)
  clear HE1 HI1 HB1 HBn
  go_wp2_with fail
  refine (HR2.out w2).mono ?_
  rintro e w3 ⟨v, uv, rfl, hM, hL, hB⟩
  obtain ⟨B4, d4, B5, d5, rfl, hT⟩ := hM.is
  obtain ⟨A9, c9, rfl, _, hC9⟩ := hL.reads
  have HE3 := Lib.hid (HE2.out.below hB)
  have HI3 := Lib.hid (HI2.out.below hB)
  have HJ3 := Lib.hid hT
  have HC3 := Lib.hid hC9
  have HT3 := Lib.hid (HT2.out.below hB HT2.out.lt)
  have HB3 := Lib.hid (trans_below HB2.out hB)
  clear hM hL hB hT hC9 HE2 HI2 HT2 HB2 HR2
  unfold tmV
  go_upto_region 3 with (fail)
  have hb := below_alloc (Below.refl (w3).heap.size w3) (.cells #[.int .i64 (t).kd, .int .i64 (t).it, .string (t).tx, .int .u32 (t).cr, .slice B4 (t).nums.length d4, .slice B5 (t).args.length d5] 27)
  have hta := TmAt.new w3 (t) (.slice B4 (t).nums.length d4) (.slice B5 (t).args.length d5)
  generalize (w3).alloc (.cells #[.int .i64 (t).kd, .int .i64 (t).it, .string (t).tx, .int .u32 (t).cr, .slice B4 (t).nums.length d4, .slice B5 (t).args.length d5] 27) = w4 at hb hta ⊢
  have HU4 := Lib.hid hta
  have HBn := Lib.hid hb
  clear hb hta
  have HE4 := Lib.hid (HE3.out.below HBn.out)
  have HI4 := Lib.hid (HI3.out.below HBn.out)
  have HJ4 := Lib.hid (HJ3.out.below HBn.out)
  have HC4 := Lib.hid (Kd.C_below HC3.out HBn.out)
  have HT4 := Lib.hid (HT3.out.below HBn.out HT3.out.lt)
  have HB4 := Lib.hid (trans_below HB3.out HBn.out)
  clear HE3 HI3 HJ3 HC3 HT3 HB3 HBn
  have HRF := Lib.hid (refused_same (c := c9) HLN.out HE4.out HC4.out (HG.out _ HB4.out))
  go_wp2_with fail
  refine HRF.out.mono ?_
  rintro e w5 ⟨rfl, hB⟩
  have HT5 := Lib.hid (HT4.out.below hB HT4.out.lt)
  have HU5 := Lib.hid (HU4.out.below hB HU4.out.lt)
  have HB5 := Lib.hid (trans_below HB4.out hB)
  have HSM := Lib.hid (ref02_Same (a := t) (b := t) (w := w5) ⟨A4, c4, A5, c5, rfl, HI4.out.below hB⟩ ⟨B4, d4, B5, d5, rfl, HJ4.out.below hB⟩)
  rw [sameT_refl] at HSM
  unfold tmV at HSM
  clear hB HE4 HI4 HJ4 HC4 HT4 HU4 HB4 HRF
  obtain ⟨s0, s1, s2, s3, s4, s5, _, _, _, _, _, _⟩ := HT5.out
  obtain ⟨u0, u1, u2, u3, u4, u5, _, _, _, _, _, _⟩ := HU5.out
  go_wp2_with fail
  refine HSM.out.mono ?_
  rintro e w6 ⟨rfl, hB⟩
  have HB6 := Lib.hid (trans_below HB5.out hB)
  clear hB s0 s1 s2 s3 s4 s5 u0 u1 u2 u3 u4 u5
  go_wp2_with fail
  refine (awake_any _ (HG.out _ HB6.out)).mono ?_
  rintro e w7 ⟨rfl, hB⟩
  have HB7 := Lib.hid (trans_below HB6.out hB)
  clear hB
  go_wp2_with fail
  go_ret
  exact ⟨rfl, HB7.out⟩
end Go.Proofs.YtibbcfeaododhaaGreatDoor
