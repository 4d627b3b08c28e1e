/-
  term.Read. heddleref02: no, over, bare, form. heddleref02: part, Check, Measure. heddlelaw02.awake. heddleref02: Check, Measure. The walk of TermChecks. The walk of TermKinds.
-/
import Derived.Test.YtgapeacflkfmdaaGreatDoorG7
import Derived.Test.YtgapeacflkfmdaaGreatDoorG6
import Derived.Test.YtgapeacflkfmdaaGreatDoorG3
import Derived.Test.YtgapeacflkfmdaaGreatDoorG2
import Derived.Test.YtgapeacflkfmdaaGreatDoorKPFmx1
import Derived.Test.YtgapeacflkfmdaaGreatDoorG4
import Derived.Deep.RegionHeld3
set_option linter.unusedSimpArgs false
namespace Go.Proofs.YtgapeacflkfmdaaGreatDoor
open Go.RowKit Go.Sort Go.Proofs.YtgapeacflkfmdaaGreatDoorW.PrintWords

def ReadPost (w : World) (r : Tm × List Lk) (e : Ending) (w' : World) : Prop :=
  ∃ (v ev : Value), e = .returned (.tuple #[v, ev]) ∧ TmMade w' w.heap.size r.1 v ∧ ErrIs w' r.2 ev ∧ Below w.heap.size w w'
theorem four_boxes (w : World) (s : ByteArray) : ∃ w4, w4 = (((w.alloc (.cells #[.int .i64 0, .int .i64 0, .string ⟨#[]⟩, .int .u32 0, .slice none 0 0, .slice none 0 0] 27)).alloc (.cells #[.string s, .int .i64 0, .int .i64 0] tyRd)).alloc (.cells #[.pointer (some ⟨w.heap.size + 1, 0, none⟩)] 87)).alloc (.cells #[.nilFunc] 90) ∧
    TmAt w4 w.heap.size zTm vNone vNone ∧ RdAt w4 (w.heap.size + 1) s 0 0 ∧ w4.cell? ⟨w.heap.size + 1 + 1, 0, none⟩ = some (.pointer (some ⟨w.heap.size + 1, 0, none⟩)) ∧ w4.cell? ⟨w.heap.size + 1 + 1 + 1, 0, none⟩ = some .nilFunc ∧ w4.frozen? ⟨w.heap.size + 1 + 1 + 1, 0, none⟩ = false ∧ Below w.heap.size w w4 := by
  have h1 : TmAt (w.alloc (.cells #[.int .i64 0, .int .i64 0, .string ⟨#[]⟩, .int .u32 0, .slice none 0 0, .slice none 0 0] 27)) w.heap.size zTm vNone vNone := TmAt.new w zTm vNone vNone
  have hb1 := below_alloc (Below.refl w.heap.size w) (.cells #[.int .i64 0, .int .i64 0, .string ⟨#[]⟩, .int .u32 0, .slice none 0 0, .slice none 0 0] 27)
  have s1 : (w.alloc (.cells #[.int .i64 0, .int .i64 0, .string ⟨#[]⟩, .int .u32 0, .slice none 0 0, .slice none 0 0] 27)).heap.size = w.heap.size + 1 := by simp
  generalize w.alloc (.cells #[.int .i64 0, .int .i64 0, .string ⟨#[]⟩, .int .u32 0, .slice none 0 0, .slice none 0 0] 27) = w1 at h1 hb1 s1 ⊢
  have hb2 := below_alloc (Below.refl w1.heap.size w1) (.cells #[.string s, .int .i64 0, .int .i64 0] tyRd)
  have h2 := heap_alloc_new w1 (.cells #[.string s, .int .i64 0, .int .i64 0] tyRd)
  have s2 : (w1.alloc (.cells #[.string s, .int .i64 0, .int .i64 0] tyRd)).heap.size = w1.heap.size + 1 := by simp
  generalize w1.alloc (.cells #[.string s, .int .i64 0, .int .i64 0] tyRd) = w2 at hb2 h2 s2 ⊢
  have hb3 := below_alloc (Below.refl w2.heap.size w2) (.cells #[.pointer (some ⟨w.heap.size + 1, 0, none⟩)] 87)
  have h3 := heap_alloc_new w2 (.cells #[.pointer (some ⟨w.heap.size + 1, 0, none⟩)] 87)
  have s3 : (w2.alloc (.cells #[.pointer (some ⟨w.heap.size + 1, 0, none⟩)] 87)).heap.size = w2.heap.size + 1 := by simp
  generalize w2.alloc (.cells #[.pointer (some ⟨w.heap.size + 1, 0, none⟩)] 87) = w3 at hb3 h3 s3 ⊢
  have hb4 := below_alloc (Below.refl w3.heap.size w3) (.cells #[.nilFunc] 90)
  have h4 := heap_alloc_new w3 (.cells #[.nilFunc] 90)
  generalize w3.alloc (.cells #[.nilFunc] 90) = w4 at hb4 h4 ⊢
  rw [s1] at h2 s2
  rw [s2] at h3 s3
  rw [s3] at h4
  have e3 := (hb4.block (w.heap.size + 1 + 1) (by omega)).trans h3
  have e2 := (hb4.block (w.heap.size + 1) (by omega)).trans ((hb3.block (w.heap.size + 1) (by omega)).trans h2)
  have k2 := h1.below hb2 (by omega)
  have k3 := k2.below hb3 (by omega)
  have k4 := k3.below hb4 (by omega)
  refine ⟨w4, rfl, k4, ⟨e2⟩, by simp [World.cell?, e3], by simp [World.cell?, h4], by simp [World.frozen?, h4], ?_⟩
  exact trans_below (trans_below (trans_below hb1 hb2) hb3) hb4
/-- Read's walk: its result's box, its reader, the reader's box. -/
structure RdW (w W : World) (s : ByteArray) (k : Nat) : Prop where
  bl : Below w.heap.size w W
  tm : TmAt W w.heap.size zTm vNone vNone
  rd : RdAt W (w.heap.size + 1) s k 0
  c4 : W.cell? ⟨w.heap.size + 1 + 1, 0, none⟩ = some (.pointer (some ⟨w.heap.size + 1, 0, none⟩))
theorem RdW.step {w W W' : World} {s : ByteArray} {k k' : Nat} (h : RdW w W s k) (hT : RdTo W (w.heap.size + 1) s k' 0 W') : RdW w W' s k' := by
  refine ⟨h.bl.trans (below_of_grown hT.1 (by omega) h.bl.size), h.tm.grown hT.1 (by omega), hT.2, (hT.1.cell_far ⟨w.heap.size + 1 + 1, 0, none⟩ (World.block_lt_of_cell? W _ h.c4) (by simp)).trans h.c4⟩
theorem RdW.below {w W W' : World} {s : ByteArray} {k : Nat} (h : RdW w W s k) (hb : Below W.heap.size W W') : RdW w W' s k :=
  h.step ((RdTo.refl h.rd).below hb)
theorem RdW.fail {w W : World} {s : ByteArray} {k : Nat} (h : RdW w W s k) {l : List Lk} {ev : Value} (hE : ErrIs W l ev) : ReadPost w (zTm, l) (.returned (.tuple #[tmV zTm vNone vNone, ev])) (put6 W w.heap.size zTm vNone vNone) :=
  ⟨_, _, rfl, TmMade.zero _ _, hE.wrote6 h.tm.c0 _ _ _, h.bl.trans (below_of_grown (grown_put6 W w.heap.size zTm vNone vNone) (Nat.le_refl _) h.bl.size)⟩
theorem read_fail {w W : World} {l : List Lk} {ev : Value} (hb : Below w.heap.size w W) (htm : TmAt W w.heap.size zTm vNone vNone) (hE : ErrIs W l ev) : ReadPost w (zTm, l) (.returned (.tuple #[tmV zTm vNone vNone, ev])) (put6 W w.heap.size zTm vNone vNone) :=
  ⟨_, _, rfl, TmMade.zero _ _, hE.wrote6 htm.c0 _ _ _, hb.trans (below_of_grown (grown_put6 W w.heap.size zTm vNone vNone) (Nat.le_refl _) hb.size)⟩
theorem TmMade.R {W : World} {base : Nat} {t : Tm} {A4 A5 : Option Addr} {c4 c5 : Nat} (h : TmMade W base t (tmV t (.slice A4 t.nums.length c4) (.slice A5 t.args.length c5))) : TmR W t A4 c4 A5 c5 := by
  obtain ⟨B4, d4, B5, d5, e, hR⟩ := h.is
  unfold tmV at e
  injection e with e
  injection e with e
  simp only [List.cons.injEq, Value.slice.injEq, and_true, true_and] at e
  obtain ⟨⟨rfl, rfl⟩, rfl, rfl⟩ := e
  exact hR
theorem RdW.done {w W : World} {s : ByteArray} {k base : Nat} {t : Tm} {v4 v5 : Value} (h : RdW w W s k) (hm : TmMade W base t (tmV t v4 v5)) (hb : w.heap.size < base) : ReadPost w (t, []) (.returned (.tuple #[tmV t v4 v5, .nilIface])) (put6 W w.heap.size t v4 v5) :=
  ⟨_, _, rfl, (hm.above (fun j hj _ => put6_heap W w.heap.size t v4 v5 j (by omega))).lower (by omega), rfl, h.bl.trans (below_of_grown (grown_put6 W w.heap.size t v4 v5) (Nat.le_refl _) h.bl.size)⟩
theorem rdAll_eq {s : ByteArray} (h : ¬ 4194304 < s.size) : rdAll s = if (rdT s 256 0).2.2 = [] then rdEnd s (rdT s 256 0).1 (blk s (rdT s 256 0).2.1) else (zTm, (rdT s 256 0).2.2) := by
  unfold rdAll
  rw [if_neg h]
  obtain ⟨t, e, l⟩ := rdT s 256 0
  cases l with
  | nil => rfl
  | cons x r => rfl
set_option maxRecDepth 100000 in
set_option maxHeartbeats 4000000 in
theorem term_Read (s : ByteArray) (hm : s.size ≤ 140737488351232) (w : World) (hG : Glob w) :
    Calls Tryz.prog 22 #[.string s] w (ReadPost w (rdAll s)) := by
  have HG := Lib.hid hG
  obtain ⟨R, hR⟩ : ∃ R, R = rdAll s := ⟨_, rfl⟩
  rw [← hR]
  clear hG
  have hmf : ∀ (fn : Fn) (first cap : Array Value) (w : World), (Instr.makeFunc fn first cap).run Tryz.prog w = .ok (.func fn first cap) w := fun _ _ _ _ => rfl
  by_cases hl : 4194304 < s.size
  · have d0 : decide ((s.size : Int) > 4194304) = true := decide_eq_true (by omega)
    have HR : Hid (R = (zTm, [⟨nTerm, 0, 4⟩])) := Lib.hid (hR.trans (by unfold rdAll; rw [if_pos hl]))
    obtain ⟨w1, hw1⟩ : ∃ W, W = w.alloc (.cells #[.int .i64 0, .int .i64 0, .string ⟨#[]⟩, .int .u32 0, .slice none 0 0, .slice none 0 0] 27) := ⟨_, rfl⟩
    have HT1 : Hid (TmAt w1 w.heap.size zTm vNone vNone) := Lib.hid (by rw [hw1]; exact TmAt.new w zTm vNone vNone)
    have HB1 : Hid (Below w.heap.size w w1) := Lib.hid (by rw [hw1]; exact below_alloc (Below.refl _ _) _)
    clear hR hl
    go_enter Tryz.func22, Tryz.ntmps22
    go_upto_region 1 with (fail)
    rw [← hw1]
    clear hw1
    go_wp2_with fail
    refine (term_fault _ _ _ _ [] rfl).mono ?_
    rintro e w2 ⟨v, rfl, hE, hB⟩
    have HE := Lib.hid hE
    have HT2 := Lib.hid (HT1.out.below hB HT1.out.lt)
    have HB2 := Lib.hid (trans_below HB1.out hB)
    clear hE hB
    obtain ⟨r0, r1, r2, r3, r4, r5, g0, g1, g2, g3, g4, g5⟩ := HT2.out
    simp only [zTm] at r0 r1 r2 r3 r4 r5
    go_wp2_with fail
    refine bodyPost_ret (resTm2 rfl _ _ w.heap.size zTm _ _ (by rfl) (HT2.out.put zTm _ _)) rfl ?_
    rw [HR.out]
    exact read_fail HB2.out HT2.out HE.out
  · have d0 : decide ((s.size : Int) > 4194304) = false := decide_eq_false (by omega)
    have HR := Lib.hid (hR.trans (rdAll_eq hl))
    have hsz : s.size ≤ 4194304 := by omega
    clear hR hl
    obtain ⟨w4, hw4, htm, hr, c4, c5, f5, hb4⟩ := four_boxes w s
    have HR4 := Lib.hid hr
    have HTM := Lib.hid htm
    have HB4 := Lib.hid hb4
    have HC4 := Lib.hid c4
    clear hr htm hb4 c4
    go_enter Tryz.func22, Tryz.ntmps22
    go_upto_region 5 with (fail)
    rw [← hw4]
    clear hw4
    have hst : (store ⟨w.heap.size + 1 + 1 + 1, 0, none⟩ (tv (w.heap.size + 1 + 1) (w.heap.size + 1 + 1 + 1))).run Tryz.prog w4 = .ok () (w4.setCell ⟨w.heap.size + 1 + 1 + 1, 0, none⟩ (tv (w.heap.size + 1 + 1) (w.heap.size + 1 + 1 + 1))) := by
      rw [run_store _ _ _ _ _ rfl]
      simp [stored, c5, f5]
    go_upto_region 6 with (fail)
    have HX5 : Hid (Boxes (w4.setCell ⟨w.heap.size + 1 + 1 + 1, 0, none⟩ (tv (w.heap.size + 1 + 1) (w.heap.size + 1 + 1 + 1))) (w.heap.size + 1) (w.heap.size + 1 + 1) (w.heap.size + 1 + 1 + 1)) := by
      refine Lib.hid ⟨?_, ?_, by omega, by omega, w.heap.size, by omega, ?_, fun W hW => HG.out.below ((HB4.out.setCell (by simp only; omega) _).trans hW)⟩
      · rw [World.cell?_setCell_other _ _ _ _ (by simp)]; exact HC4.out
      · exact World.cell?_setCell_same (u := .nilFunc) _ _ _ c5
      · exact (HB4.out.setCell (p := ⟨w.heap.size + 1 + 1 + 1, 0, none⟩) (by simp only; omega) _).size
    have HW5 : Hid (RdW w (w4.setCell ⟨w.heap.size + 1 + 1 + 1, 0, none⟩ (tv (w.heap.size + 1 + 1) (w.heap.size + 1 + 1 + 1))) s 0) := by
      refine Lib.hid ⟨HB4.out.setCell (by simp only; omega) _, HTM.out.grown (grown_set w4 (w.heap.size + 1 + 1 + 1) 0 _) (by omega), ⟨?_⟩, ?_⟩
      · rw [Below.heap_setCell _ _ _ _ (by simp only; omega)]; exact HR4.out.h
      · rw [World.cell?_setCell_other _ _ _ _ (by simp)]; exact HC4.out
    generalize w4.setCell ⟨w.heap.size + 1 + 1 + 1, 0, none⟩ (tv (w.heap.size + 1 + 1) (w.heap.size + 1 + 1 + 1)) = w5 at HX5 HW5 ⊢
    clear hst c5 f5 HC4 HB4 HTM HR4
    have c5 := HX5.out.c5
    have hE := callFunc_in Tryz.func47 (by kernel_rfl) rfl
    have HC := Lib.hid (read1 s (w.heap.size + 1) (w.heap.size + 1 + 1) (w.heap.size + 1 + 1 + 1) hsz 256 0 rfl 0 w5 (Nat.zero_le _) HW5.out.rd HX5.out)
    have HIN := Lib.hid (rdT_in s 256 0)
    generalize rdT s 256 0 = q at HC HR HIN
    obtain ⟨rt, re, rl⟩ := q
    go_wp2_with fail
    refine HC.out.mono ?_
    rintro e w6 ⟨v, ev, rfl, hM, hE6, k', hT, hk', hk2⟩
    have hlt5 : w.heap.size + 1 + 1 + 1 < w5.heap.size := World.block_lt_of_cell? w5 _ c5
    have hM2 := hM
    obtain ⟨v4, v5, rfl, hM4, hM5⟩ := hM2
    simp only at hM4 hM5
    obtain ⟨A4, d4, rfl⟩ := Kd.R_slice hM4
    obtain ⟨A5, d5, rfl⟩ := Kd.R_slice hM5
    have HW6 := Lib.hid (HW5.out.step hT)
    have HM := Lib.hid hM
    have HE := Lib.hid hE6
    clear hM hM4 hM5 hE6 hT c5 hE HX5 hmf HC
    unfold tmV
    go_upto_region 7 with (fail)
    have hb7 := below_alloc (Below.refl w6.heap.size w6) (.cells #[.int .i64 rt.kd, .int .i64 rt.it, .string rt.tx, .int .u32 rt.cr, .slice A4 rt.nums.length d4, .slice A5 rt.args.length d5] 27)
    have hta := TmAt.new w6 rt (.slice A4 rt.nums.length d4) (.slice A5 rt.args.length d5)
    generalize w6.alloc (.cells #[.int .i64 rt.kd, .int .i64 rt.it, .string rt.tx, .int .u32 rt.cr, .slice A4 rt.nums.length d4, .slice A5 rt.args.length d5] 27) = w7 at hb7 hta ⊢
    have HTA := Lib.hid hta
    have HM7 := Lib.hid (HM.out.below hb7)
    have HE7 := Lib.hid (HE.out.below hb7)
    have HW7 := Lib.hid (HW6.out.below hb7)
    have hlt6 : w.heap.size + 1 < w6.heap.size := HW6.out.rd.lt
    clear hb7 hta HE HM
    cases rl with
    | cons x r =>
      have HR2 : Hid (R = (zTm, x :: r)) := Lib.hid HR.out
      obtain ⟨eb, eu, rfl, _⟩ := HE7.out
      have rw4 := HW7.out.c4
      have rwa := HW7.out.rd.c1
      obtain ⟨r0, r1, r2, r3, r4, r5, g0, g1, g2, g3, g4, g5⟩ := HW7.out.tm
      simp only [zTm] at r0 r1 r2 r3 r4 r5
      go_wp2_with fail
      refine bodyPost_ret (resTm2 rfl _ _ w.heap.size zTm _ _ (by rfl) (HW7.out.tm.put zTm _ _)) rfl ?_
      rw [HR2.out]
      exact HW7.out.fail HE7.out
    | nil =>
      obtain rfl : ev = .nilIface := HE7.out
      obtain rfl := hk2 rfl
      have HR2 : Hid (R = rdEnd s rt (blk s k')) := Lib.hid HR.out
      have HSK := Lib.hid (rd_skip (w.heap.size + 1) s k' 0 hk' hsz w7 HW7.out.rd)
      have hkb := blk_le s k' hk'
      clear HR hk2 HE7
      have rw4 := HW7.out.c4
      go_wp2_with fail
      refine HSK.out.mono ?_
      rintro e w8 ⟨rfl, hT⟩
      have HW8 := Lib.hid (HW7.out.step hT)
      have HM8 := Lib.hid (HM7.out.grown HW7.out.rd hT.1)
      have HTA8 := Lib.hid (HTA.out.grown hT.1 (by omega))
      clear hT HSK HW7 HM7 HTA rw4
      by_cases hend : blk s k' < s.size
      · have HR3 : Hid (R = (zTm, [⟨nTerm, blk s k', 41⟩])) := Lib.hid (HR2.out.trans (by unfold rdEnd; rw [if_pos hend]))
        have d1 : decide (((blk s k' : Nat) : Int) < (s.size : Int)) = true := decide_eq_true (by omega)
        generalize blk s k' = kb at *
        have rw4 := HW8.out.c4
        have rwa := HW8.out.rd.c1
        obtain ⟨r0, r1, r2, r3, r4, r5, g0, g1, g2, g3, g4, g5⟩ := HW8.out.tm
        simp only [zTm] at r0 r1 r2 r3 r4 r5
        go_wp2_with fail
        refine (rd_text (w.heap.size + 1) s kb 0 _ HW8.out.rd).mono ?_
        rintro e w9 ⟨v, rfl, hE, hB⟩
        have HE := Lib.hid hE
        have HW9 := Lib.hid (HW8.out.below hB)
        clear hE hB rw4 rwa r0 r1 r2 r3 r4 r5 g0 g1 g2 g3 g4 g5
        have rw4 := HW9.out.c4
        have rwa := HW9.out.rd.c1
        obtain ⟨r0, r1, r2, r3, r4, r5, g0, g1, g2, g3, g4, g5⟩ := HW9.out.tm
        simp only [zTm] at r0 r1 r2 r3 r4 r5
        go_wp2_with fail
        refine bodyPost_ret (resTm2 rfl _ _ w.heap.size zTm _ _ (by rfl) (HW9.out.tm.put zTm _ _)) rfl ?_
        rw [HR3.out]
        exact HW9.out.fail HE.out
      · have HR3 : Hid (R = if chk rt = [] then (rt, []) else (zTm, chk rt)) := Lib.hid (HR2.out.trans (by unfold rdEnd; rw [if_neg hend]))
        have d1 : decide (((blk s k' : Nat) : Int) < (s.size : Int)) = false := decide_eq_false (by omega)
        generalize blk s k' = kb at *
        have HCK := Lib.hid (term_Check rt A4 A5 d4 d5 w8 HM8.out.R (inT_sm HIN.out) (HG.out.below HW8.out.bl))
        unfold tmV at HCK
        have rw4 := HW8.out.c4
        have rwa := HW8.out.rd.c1
        obtain ⟨r0, r1, r2, r3, r4, r5, g0, g1, g2, g3, g4, g5⟩ := HW8.out.tm
        simp only [zTm] at r0 r1 r2 r3 r4 r5
        obtain ⟨s0, s1, s2, s3, s4, s5, _, _, _, _, _, _⟩ := HTA8.out
        go_wp2_with fail
        refine HCK.out.mono ?_
        rintro e w9 ⟨v, rfl, hE, hB⟩
        have HE := Lib.hid hE
        have HW9 := Lib.hid (HW8.out.below hB)
        have HM9 := Lib.hid (HM8.out.below hB)
        have HTA9 := Lib.hid (HTA8.out.below hB HTA8.out.lt)
        clear hE hB rw4 rwa r0 r1 r2 r3 r4 r5 g0 g1 g2 g3 g4 g5 s0 s1 s2 s3 s4 s5 HCK
        cases hc : chk rt with
        | cons x r =>
          have HR4 : Hid (R = (zTm, x :: r)) := Lib.hid (HR3.out.trans (by rw [if_neg (by rw [hc]; simp), hc]))
          rw [hc] at HE
          obtain ⟨eb, eu, rfl, _⟩ := HE.out
          clear hc
          have rw4 := HW9.out.c4
          have rwa := HW9.out.rd.c1
          obtain ⟨r0, r1, r2, r3, r4, r5, g0, g1, g2, g3, g4, g5⟩ := HW9.out.tm
          simp only [zTm] at r0 r1 r2 r3 r4 r5
          go_wp2_with fail
          refine bodyPost_ret (resTm2 rfl _ _ w.heap.size zTm _ _ (by rfl) (HW9.out.tm.put zTm _ _)) rfl ?_
          rw [HR4.out]
          exact HW9.out.fail HE.out
        | nil =>
          have HR4 : Hid (R = (rt, [])) := Lib.hid (HR3.out.trans (by rw [if_pos hc]))
          rw [hc] at HE
          obtain rfl : v = .nilIface := HE.out
          clear hc
          have rw4 := HW9.out.c4
          have rwa := HW9.out.rd.c1
          obtain ⟨r0, r1, r2, r3, r4, r5, g0, g1, g2, g3, g4, g5⟩ := HW9.out.tm
          simp only [zTm] at r0 r1 r2 r3 r4 r5
          obtain ⟨s0, s1, s2, s3, s4, s5, _, _, _, _, _, _⟩ := HTA9.out
          go_wp2_with fail
          refine bodyPost_ret (resTm2 rfl _ _ w.heap.size rt _ _ (by rfl) (HW9.out.tm.put rt _ _)) rfl ?_
          rw [HR4.out]
          exact HW9.out.done HM9.out (by omega)
end Go.Proofs.YtgapeacflkfmdaaGreatDoor
set_option linter.unusedSimpArgs false
namespace Go.Proofs.YtgapeacflkfmdaaGreatDoor
open Go.RowKit Go.Proofs.YtgapeacflkfmdaaGreatDoorW.PrintWords

theorem ref02_no (at_ co : Int) (w : World) : Calls Tryz.prog 52 #[.int .i64 at_, .int .i64 co] w (LnPost w [⟨nTerm, at_, co⟩]) := by
  go_enter Tryz.func52, Tryz.ntmps52
  go_wp2_with fail
  refine (mem_One _ _ _ _).mono ?_
  rintro e w1 ⟨v, rfl, hL, hB⟩
  have HL := Lib.hid hL
  have HB := Lib.hid hB
  clear hL hB
  go_wp2_with fail
  go_ret
  exact ⟨_, rfl, HL.out, HB.out⟩
theorem ref02_over (at_ : Int) (x : Lk) (r : List Lk) (base : Nat) (v : Value) (w : World) (hL : LnIs w base (x :: r) v) (hl : (x :: r).length ≤ 16) :
    Calls Tryz.prog 82 #[.int .i64 at_, v] w (LnPost w (overTm at_ (x :: r))) := by
  obtain ⟨A, c, rfl, hc, hC⟩ := hL.reads
  obtain ⟨ad, rfl, a0, a1, a2⟩ := atLk hC 0 (by decide) (by simp)
  have HO := Lib.hid (mem_Over nTerm at_ x.co (x :: r) hl (some ad) c w hC)
  have ez : ad.add 0 = ad := by simp [Addr.add]
  simp only [Int.toNat_zero, Nat.zero_mul, ez] at a0 a1 a2
  have e0 : rdLk (x :: r) 0 = x := rfl
  rw [e0] at a0 a1 a2
  have y0 : (0 : Int) < ((x :: r).length : Int) := by simp
  generalize (x :: r).length = n at y0 HO ⊢
  clear hC hL
  go_enter Tryz.func82, Tryz.ntmps82
  go_wp2_with fail
  refine HO.out.mono ?_
  rintro e w1 ⟨v, rfl, hL, hB⟩
  have HL := Lib.hid hL
  have HB := Lib.hid hB
  clear hL hB
  go_wp2_with fail
  go_ret
  exact ⟨_, rfl, HL.out, HB.out⟩

/-! ### bare -/
theorem func0_i : PFm.heddleref02_func0.f 40 ⟨#[105]⟩ = some [true, false, false, false, false] := by decide +kernel
theorem func0_s : PFm.heddleref02_func0.f 40 ⟨#[115]⟩ = some [false, true, false, false, false] := by decide +kernel
theorem func0_scn : PFm.heddleref02_func0.f 40 ⟨#[115, 99, 110]⟩ = some [false, true, true, true, false] := by decide +kernel
theorem func0_a : PFm.heddleref02_func0.f 40 ⟨#[97]⟩ = some [false, false, false, false, true] := by decide +kernel
theorem func0_0 : PFm.heddleref02_func0.f 40 ⟨#[]⟩ = some [false, false, false, false, false] := by decide +kernel
/-- Are the fields that a kind does not name zero? -/
def bareOk (t : Tm) (m0 m1 m2 m3 m4 : Bool) : Bool := (m0 || decide (t.it = 0)) && (m1 || decide (t.tx.size = 0)) && (m2 || decide (t.cr = 0)) && (m3 || decide (t.nums.length = 0)) && (m4 || decide (t.args.length = 0))
theorem bools_at {w : World} {base : Nat} {v : Value} {l : List Bool} (h : Kd.R Kd.bool 4 w base (fun _ => True) v l) (hl : 0 < l.length) : ∃ g c, v = .slice (some ⟨g, 0, none⟩) l.length c ∧ ∀ j, j < l.length → w.cell? ⟨g, j, none⟩ = some (.bool (l.getD j false)) := by
  obtain ⟨A, c, hv, hc, hC⟩ := Kd.R_reads h
  have hr := Kd.reads_of_C (d := false) hC
  obtain ⟨ad, rfl, hh⟩ := hr.2.2 hl
  obtain ⟨_, inner, ho, _⟩ := h
  rcases ho.2 with ⟨he, _⟩ | ⟨g, cap, cur, he, _⟩
  · rw [hv] at he
    cases he
  · rw [hv] at he
    injection he with h1 _ _
    injection h1 with h1
    subst h1
    refine ⟨g, c, hv, fun j hj => ?_⟩
    have := hh j hj
    by_cases h0 : j = 0
    · subst h0
      simpa [Addr.add] using this
    · simpa [Addr.add, h0] using this

set_option maxRecDepth 100000 in
set_option maxHeartbeats 4000000 in
theorem bare_i (t : Tm) (A4 A5 : Option Addr) (c4 c5 : Nat) (w : World) :
    Calls Tryz.prog 137 #[tmV t (.slice A4 t.nums.length c4) (.slice A5 t.args.length c5), .string ⟨#[105]⟩] w fun e w' => e = .returned (.bool (bareOk t true false false false false)) ∧ Below w.heap.size w w' := by
  have HT := TmAt.new w t (.slice A4 t.nums.length c4) (.slice A5 t.args.length c5)
  obtain ⟨kd, it, tx, cr, ns, us⟩ := t
  unfold tmV bareOk
  simp only at HT ⊢
  have HT := Lib.hid HT
  have HF := Lib.hid fun w => PFm.heddleref02_func0.calls 40 ⟨#[105]⟩ _ w func0_i
  go_enter Tryz.func137, Tryz.ntmps137
  go_wp2_with fail
  refine (HF.out _).mono ?_
  rintro e w1 ⟨v, rfl, hL, hB⟩
  obtain ⟨g, c, rfl, hcell⟩ := bools_at hL (by decide)
  have a0 := hcell 0 (by decide)
  have a1 := hcell 1 (by decide)
  have a2 := hcell 2 (by decide)
  have a3 := hcell 3 (by decide)
  have a4 := hcell 4 (by decide)
  simp only [List.getD_cons_zero, List.getD_cons_succ] at a0 a1 a2 a3 a4
  have hT1 := HT.out.below hB (by simp)
  have t1 := hT1.c1
  have t2 := hT1.c2
  have t3 := hT1.c3
  have t4 := hT1.c4
  have t5 := hT1.c5
  simp only at t1 t2 t3 t4 t5
  have HB := Lib.hid (trans_below (below_alloc (Below.refl _ _) _) hB)
  clear hL hB hcell hT1 HT HF
  go_wp2
  all_goals go_ret
  all_goals refine ⟨eb ?_, HB.out⟩
  all_goals simp_all [tl_nil]
  all_goals (rw [Bool.eq_iff_iff]; simp_all; done)
set_option maxRecDepth 100000 in
set_option maxHeartbeats 4000000 in
theorem bare_s (t : Tm) (A4 A5 : Option Addr) (c4 c5 : Nat) (w : World) :
    Calls Tryz.prog 137 #[tmV t (.slice A4 t.nums.length c4) (.slice A5 t.args.length c5), .string ⟨#[115]⟩] w fun e w' => e = .returned (.bool (bareOk t false true false false false)) ∧ Below w.heap.size w w' := by
  have HT := TmAt.new w t (.slice A4 t.nums.length c4) (.slice A5 t.args.length c5)
  obtain ⟨kd, it, tx, cr, ns, us⟩ := t
  unfold tmV bareOk
  simp only at HT ⊢
  have HT := Lib.hid HT
  have HF := Lib.hid fun w => PFm.heddleref02_func0.calls 40 ⟨#[115]⟩ _ w func0_s
  go_enter Tryz.func137, Tryz.ntmps137
  go_wp2_with fail
  refine (HF.out _).mono ?_
  rintro e w1 ⟨v, rfl, hL, hB⟩
  obtain ⟨g, c, rfl, hcell⟩ := bools_at hL (by decide)
  have a0 := hcell 0 (by decide)
  have a1 := hcell 1 (by decide)
  have a2 := hcell 2 (by decide)
  have a3 := hcell 3 (by decide)
  have a4 := hcell 4 (by decide)
  simp only [List.getD_cons_zero, List.getD_cons_succ] at a0 a1 a2 a3 a4
  have hT1 := HT.out.below hB (by simp)
  have t1 := hT1.c1
  have t2 := hT1.c2
  have t3 := hT1.c3
  have t4 := hT1.c4
  have t5 := hT1.c5
  simp only at t1 t2 t3 t4 t5
  have HB := Lib.hid (trans_below (below_alloc (Below.refl _ _) _) hB)
  clear hL hB hcell hT1 HT HF
  go_wp2
  all_goals go_ret
  all_goals refine ⟨eb ?_, HB.out⟩
  all_goals simp_all [tl_nil]
  all_goals (rw [Bool.eq_iff_iff]; simp_all; done)
set_option maxRecDepth 100000 in
set_option maxHeartbeats 4000000 in
theorem bare_scn (t : Tm) (A4 A5 : Option Addr) (c4 c5 : Nat) (w : World) :
    Calls Tryz.prog 137 #[tmV t (.slice A4 t.nums.length c4) (.slice A5 t.args.length c5), .string ⟨#[115, 99, 110]⟩] w fun e w' => e = .returned (.bool (bareOk t false true true true false)) ∧ Below w.heap.size w w' := by
  have HT := TmAt.new w t (.slice A4 t.nums.length c4) (.slice A5 t.args.length c5)
  obtain ⟨kd, it, tx, cr, ns, us⟩ := t
  unfold tmV bareOk
  simp only at HT ⊢
  have HT := Lib.hid HT
  have HF := Lib.hid fun w => PFm.heddleref02_func0.calls 40 ⟨#[115, 99, 110]⟩ _ w func0_scn
  go_enter Tryz.func137, Tryz.ntmps137
  go_wp2_with fail
  refine (HF.out _).mono ?_
  rintro e w1 ⟨v, rfl, hL, hB⟩
  obtain ⟨g, c, rfl, hcell⟩ := bools_at hL (by decide)
  have a0 := hcell 0 (by decide)
  have a1 := hcell 1 (by decide)
  have a2 := hcell 2 (by decide)
  have a3 := hcell 3 (by decide)
  have a4 := hcell 4 (by decide)
  simp only [List.getD_cons_zero, List.getD_cons_succ] at a0 a1 a2 a3 a4
  have hT1 := HT.out.below hB (by simp)
  have t1 := hT1.c1
  have t2 := hT1.c2
  have t3 := hT1.c3
  have t4 := hT1.c4
  have t5 := hT1.c5
  simp only at t1 t2 t3 t4 t5
  have HB := Lib.hid (trans_below (below_alloc (Below.refl _ _) _) hB)
  clear hL hB hcell hT1 HT HF
  go_wp2
  all_goals go_ret
  all_goals refine ⟨eb ?_, HB.out⟩
  all_goals simp_all [tl_nil]
  all_goals (rw [Bool.eq_iff_iff]; simp_all; done)
set_option maxRecDepth 100000 in
set_option maxHeartbeats 4000000 in
theorem bare_a (t : Tm) (A4 A5 : Option Addr) (c4 c5 : Nat) (w : World) :
    Calls Tryz.prog 137 #[tmV t (.slice A4 t.nums.length c4) (.slice A5 t.args.length c5), .string ⟨#[97]⟩] w fun e w' => e = .returned (.bool (bareOk t false false false false true)) ∧ Below w.heap.size w w' := by
  have HT := TmAt.new w t (.slice A4 t.nums.length c4) (.slice A5 t.args.length c5)
  obtain ⟨kd, it, tx, cr, ns, us⟩ := t
  unfold tmV bareOk
  simp only at HT ⊢
  have HT := Lib.hid HT
  have HF := Lib.hid fun w => PFm.heddleref02_func0.calls 40 ⟨#[97]⟩ _ w func0_a
  go_enter Tryz.func137, Tryz.ntmps137
  go_wp2_with fail
  refine (HF.out _).mono ?_
  rintro e w1 ⟨v, rfl, hL, hB⟩
  obtain ⟨g, c, rfl, hcell⟩ := bools_at hL (by decide)
  have a0 := hcell 0 (by decide)
  have a1 := hcell 1 (by decide)
  have a2 := hcell 2 (by decide)
  have a3 := hcell 3 (by decide)
  have a4 := hcell 4 (by decide)
  simp only [List.getD_cons_zero, List.getD_cons_succ] at a0 a1 a2 a3 a4
  have hT1 := HT.out.below hB (by simp)
  have t1 := hT1.c1
  have t2 := hT1.c2
  have t3 := hT1.c3
  have t4 := hT1.c4
  have t5 := hT1.c5
  simp only at t1 t2 t3 t4 t5
  have HB := Lib.hid (trans_below (below_alloc (Below.refl _ _) _) hB)
  clear hL hB hcell hT1 HT HF
  go_wp2
  all_goals go_ret
  all_goals refine ⟨eb ?_, HB.out⟩
  all_goals simp_all [tl_nil]
  all_goals (rw [Bool.eq_iff_iff]; simp_all; done)
set_option maxRecDepth 100000 in
set_option maxHeartbeats 4000000 in
theorem bare_0 (t : Tm) (A4 A5 : Option Addr) (c4 c5 : Nat) (w : World) :
    Calls Tryz.prog 137 #[tmV t (.slice A4 t.nums.length c4) (.slice A5 t.args.length c5), .string ⟨#[]⟩] w fun e w' => e = .returned (.bool (bareOk t false false false false false)) ∧ Below w.heap.size w w' := by
  have HT := TmAt.new w t (.slice A4 t.nums.length c4) (.slice A5 t.args.length c5)
  obtain ⟨kd, it, tx, cr, ns, us⟩ := t
  unfold tmV bareOk
  simp only at HT ⊢
  have HT := Lib.hid HT
  have HF := Lib.hid fun w => PFm.heddleref02_func0.calls 40 ⟨#[]⟩ _ w func0_0
  go_enter Tryz.func137, Tryz.ntmps137
  go_wp2_with fail
  refine (HF.out _).mono ?_
  rintro e w1 ⟨v, rfl, hL, hB⟩
  obtain ⟨g, c, rfl, hcell⟩ := bools_at hL (by decide)
  have a0 := hcell 0 (by decide)
  have a1 := hcell 1 (by decide)
  have a2 := hcell 2 (by decide)
  have a3 := hcell 3 (by decide)
  have a4 := hcell 4 (by decide)
  simp only [List.getD_cons_zero, List.getD_cons_succ] at a0 a1 a2 a3 a4
  have hT1 := HT.out.below hB (by simp)
  have t1 := hT1.c1
  have t2 := hT1.c2
  have t3 := hT1.c3
  have t4 := hT1.c4
  have t5 := hT1.c5
  simp only at t1 t2 t3 t4 t5
  have HB := Lib.hid (trans_below (below_alloc (Below.refl _ _) _) hB)
  clear hL hB hcell hT1 HT HF
  go_wp2
  all_goals go_ret
  all_goals refine ⟨eb ?_, HB.out⟩
  all_goals simp_all [tl_nil]
  all_goals (rw [Bool.eq_iff_iff]; simp_all; done)

theorem bare_empty (t : Tm) (m1 m23 m4 : Bool) (h : t.kd ≠ 1) : bareOk t false m1 m23 m23 m4 = emptyOk t m1 m23 m4 := by
  unfold bareOk emptyOk
  rw [decide_eq_false h]
  generalize decide (t.it = 0) = a
  generalize decide (t.tx.size = 0) = b
  generalize decide (t.cr = 0) = c
  generalize decide (t.nums.length = 0) = d
  generalize decide (t.args.length = 0) = e
  revert a b c d e m1 m23 m4
  decide
theorem bare_empty1 (t : Tm) (h : t.kd = 1) : bareOk t true false false false false = emptyOk t false false false := by
  unfold bareOk emptyOk
  rw [decide_eq_true h]
  generalize decide (t.it = 0) = a
  generalize decide (t.tx.size = 0) = b
  generalize decide (t.cr = 0) = c
  generalize decide (t.nums.length = 0) = d
  generalize decide (t.args.length = 0) = e
  revert a b c d e
  decide
set_option maxRecDepth 100000 in
set_option maxHeartbeats 8000000 in
theorem ref02_form (t : Tm) (A4 A5 : Option Addr) (c4 c5 : Nat) (w : World) (hR : TmR w t A4 c4 A5 c5) :
    Calls Tryz.prog 81 #[tmV t (.slice A4 t.nums.length c4) (.slice A5 t.args.length c5)] w fun e w' => e = .returned (.bool (shapeOk t)) ∧ Below w.heap.size w w' := by
  unfold tmV
  have HR := Lib.hid hR
  obtain ⟨S, hS⟩ : ∃ S, S = shapeOk t := ⟨_, rfl⟩
  rw [← hS]
  have hlen := hR.g5.2.1
  clear hR
  unfold shapeOk at hS
  have HT0 := Lib.hid (TmAt.new w t (.slice A4 t.nums.length c4) (.slice A5 t.args.length c5))
  have HB0 := Lib.hid (below_alloc (Below.refl w.heap.size w) (.cells #[.int .i64 t.kd, .int .i64 t.it, .string t.tx, .int .u32 t.cr, .slice A4 t.nums.length c4, .slice A5 t.args.length c5] 27))
  go_enter Tryz.func81, Tryz.ntmps81
  go_upto_block 0 with (fail)
  by_cases k1 : t.kd = 1
  · have d1 : (t.kd == 1) = true := beq_iff_eq.2 k1
    rw [if_pos k1, ← bare_empty1 t k1] at hS
    have HQ := Lib.hid hS
    clear hS k1
    go_wp2_with fail
    refine (bare_i t A4 A5 c4 c5 _).mono ?_
    rintro e w1 ⟨rfl, hB⟩
    have HT := Lib.hid ((TmAt.new w t (.slice A4 t.nums.length c4) (.slice A5 t.args.length c5)).below hB (by simp))
    have HB := Lib.hid (trans_below (below_alloc (Below.refl _ _) _) hB)
    clear hB
    go_wp2_with fail
    go_ret
    exact ⟨eb (by rw [HQ.out]), HB.out⟩
  · have d1 : (t.kd == 1) = false := beq_eq_false_iff_ne.2 k1
    rw [if_neg k1] at hS
    by_cases k2 : t.kd = 2
    · have d2 : (t.kd == 2) = true := beq_iff_eq.2 k2
      rw [if_pos k2, ← bare_empty t _ _ _ k1] at hS
      have HQ := Lib.hid hS
      clear hS k1 k2
      go_wp2_with fail
      refine (bare_s t A4 A5 c4 c5 _).mono ?_
      rintro e w1 ⟨rfl, hB⟩
      have HT := Lib.hid ((TmAt.new w t (.slice A4 t.nums.length c4) (.slice A5 t.args.length c5)).below hB (by simp))
      have HB := Lib.hid (trans_below (below_alloc (Below.refl _ _) _) hB)
      clear hB
      go_wp2_with fail
      go_ret
      exact ⟨eb (by rw [HQ.out]), HB.out⟩
    · have d2 : (t.kd == 2) = false := beq_eq_false_iff_ne.2 k2
      rw [if_neg k2] at hS
      clear k2
      by_cases k3 : t.kd = 3
      · have d3 : (t.kd == 3) = true := beq_iff_eq.2 k3
        rw [if_pos k3] at hS
        have HQ := Lib.hid hS
        have HBE := Lib.hid (bare_empty t true true false k1)
        clear hS k1 k3
        go_wp2_with fail
        refine (bare_scn t A4 A5 c4 c5 _).mono ?_
        rintro e w1 ⟨rfl, hB⟩
        have HT := Lib.hid ((TmAt.new w t (.slice A4 t.nums.length c4) (.slice A5 t.args.length c5)).below hB (by simp))
        have HB := Lib.hid (trans_below (below_alloc (Below.refl _ _) _) hB)
        clear hB
        generalize hE : emptyOk t true true false = E at HQ HBE
        clear hE
        rw [HBE.out]
        cases E with
        | false =>
          rw [Bool.false_and] at HQ
          go_wp2_with fail
          go_ret
          exact ⟨eb (by rw [HQ.out]), HB.out⟩
        | true =>
          rw [Bool.true_and] at HQ
          have r4 := HT.out.c4
          by_cases hn : t.nums.length = 3
          · have dn : ((t.nums.length : Int) == 3) = true := beq_iff_eq.2 (by omega)
            rw [decide_eq_true hn] at HQ
            clear hn
            go_wp2_with fail
            go_ret
            exact ⟨eb (by rw [HQ.out]), HB.out⟩
          · have dn : ((t.nums.length : Int) == 3) = false := beq_eq_false_iff_ne.2 (by omega)
            rw [decide_eq_false hn] at HQ
            clear hn
            go_wp2_with fail
            go_ret
            exact ⟨eb (by rw [HQ.out]), HB.out⟩
      · have d3 : (t.kd == 3) = false := beq_eq_false_iff_ne.2 k3
        rw [if_neg k3] at hS
        clear k3
        by_cases k4 : t.kd = 4
        · have d4 : (t.kd == 4) = true := beq_iff_eq.2 k4
          rw [if_pos k4] at hS
          have HQ := Lib.hid hS
          have HBE := Lib.hid (bare_empty t true true false k1)
          clear hS k1 k4
          go_wp2_with fail
          refine (bare_scn t A4 A5 c4 c5 _).mono ?_
          rintro e w1 ⟨rfl, hB⟩
          have HT := Lib.hid ((TmAt.new w t (.slice A4 t.nums.length c4) (.slice A5 t.args.length c5)).below hB (by simp))
          have HB := Lib.hid (trans_below (below_alloc (Below.refl _ _) _) hB)
          clear hB
          generalize hE : emptyOk t true true false = E at HQ HBE
          clear hE
          rw [HBE.out]
          cases E with
          | false =>
            rw [Bool.false_and] at HQ
            go_wp2_with fail
            go_ret
            exact ⟨eb (by rw [HQ.out]), HB.out⟩
          | true =>
            rw [Bool.true_and] at HQ
            have r4 := HT.out.c4
            by_cases hn : t.nums.length = 2
            · have dn : ((t.nums.length : Int) == 2) = true := beq_iff_eq.2 (by omega)
              rw [decide_eq_true hn] at HQ
              clear hn
              go_wp2_with fail
              go_ret
              exact ⟨eb (by rw [HQ.out]), HB.out⟩
            · have dn : ((t.nums.length : Int) == 2) = false := beq_eq_false_iff_ne.2 (by omega)
              rw [decide_eq_false hn] at HQ
              clear hn
              go_wp2_with fail
              go_ret
              exact ⟨eb (by rw [HQ.out]), HB.out⟩
        · have d4 : (t.kd == 4) = false := beq_eq_false_iff_ne.2 k4
          rw [if_neg k4] at hS
          clear k4
          by_cases k5 : t.kd = 5
          · have d5 : (t.kd == 5) = true := beq_iff_eq.2 k5
            rw [if_pos k5, ← bare_empty t _ _ _ k1] at hS
            have HQ := Lib.hid hS
            clear hS k1 k5
            go_wp2_with fail
            refine (bare_a t A4 A5 c4 c5 _).mono ?_
            rintro e w1 ⟨rfl, hB⟩
            have HT := Lib.hid ((TmAt.new w t (.slice A4 t.nums.length c4) (.slice A5 t.args.length c5)).below hB (by simp))
            have HB := Lib.hid (trans_below (below_alloc (Below.refl _ _) _) hB)
            clear hB
            go_wp2_with fail
            go_ret
            exact ⟨eb (by rw [HQ.out]), HB.out⟩
          · have d5 : (t.kd == 5) = false := beq_eq_false_iff_ne.2 k5
            rw [if_neg k5] at hS
            clear k5
            by_cases k6 : t.kd = 6
            · have d6 : (t.kd == 6) = true := beq_iff_eq.2 k6
              rw [if_pos k6, ← bare_empty t _ _ _ k1] at hS
              have HQ := Lib.hid hS
              clear hS k1 k6
              go_wp2_with fail
              refine (bare_0 t A4 A5 c4 c5 _).mono ?_
              rintro e w1 ⟨rfl, hB⟩
              have HT := Lib.hid ((TmAt.new w t (.slice A4 t.nums.length c4) (.slice A5 t.args.length c5)).below hB (by simp))
              have HB := Lib.hid (trans_below (below_alloc (Below.refl _ _) _) hB)
              clear hB
              go_wp2_with fail
              go_ret
              exact ⟨eb (by rw [HQ.out]), HB.out⟩
            · have d6 : (t.kd == 6) = false := beq_eq_false_iff_ne.2 k6
              rw [if_neg k6] at hS
              clear k6
              by_cases k7 : t.kd = 7
              · have d7 : (t.kd == 7) = true := beq_iff_eq.2 k7
                rw [if_pos k7] at hS
                have HQ := Lib.hid hS
                have HBE := Lib.hid (bare_empty t false false true k1)
                clear hS k1 k7
                go_wp2_with fail
                refine (bare_a t A4 A5 c4 c5 _).mono ?_
                rintro e w1 ⟨rfl, hB⟩
                have HT := Lib.hid ((TmAt.new w t (.slice A4 t.nums.length c4) (.slice A5 t.args.length c5)).below hB (by simp))
                have HB := Lib.hid (trans_below (below_alloc (Below.refl _ _) _) hB)
                clear hB
                generalize hE : emptyOk t false false true = E at HQ HBE
                clear hE
                rw [HBE.out]
                cases E with
                | false =>
                  rw [Bool.false_and, Bool.false_and] at HQ
                  go_wp2_with fail
                  go_ret
                  exact ⟨eb (by rw [HQ.out]), HB.out⟩
                | true =>
                  rw [Bool.true_and] at HQ
                  have r5 := HT.out.c5
                  by_cases hn : (t.args.length : Int) ≥ 2
                  · have dn : decide ((t.args.length : Int) ≥ 2) = true := decide_eq_true hn
                    rw [decide_eq_true (show 2 ≤ t.args.length by omega), Bool.true_and] at HQ
                    obtain ⟨ad, A4', c4', A5', c5', rfl, a0, _⟩ := atTm (HR.out.below HB.out).g5 ((t.args.length : Int) - 1) (by omega) (by omega)
                    have ek : ((t.args.length : Int) - 1).toNat = t.args.length - 1 := by omega
                    have hlk : (rdTm t.args ((t.args.length : Int) - 1)).kd = lastKd t := rfl
                    rw [hlk] at a0
                    simp only [ek] at a0
                    have y0 : (0 : Int) ≤ (t.args.length : Int) - 1 := by omega
                    have y1 : (t.args.length : Int) - 1 < (t.args.length : Int) := by omega
                    generalize lastKd t = K at a0 HQ
                    clear ek hlk
                    by_cases h7 : K = 7
                    · have d8 : (K != 7) = false := by simp [h7]
                      rw [decide_eq_false (by simp [h7])] at HQ
                      clear h7
                      go_wp2_with fail
                      go_ret
                      exact ⟨eb (by rw [HQ.out]), HB.out⟩
                    · have d8 : (K != 7) = true := by simp [h7]
                      rw [decide_eq_true h7] at HQ
                      clear h7
                      go_wp2_with fail
                      go_ret
                      exact ⟨eb (by rw [HQ.out]), HB.out⟩
                  · have dn : decide ((t.args.length : Int) ≥ 2) = false := decide_eq_false hn
                    rw [decide_eq_false (show ¬ 2 ≤ t.args.length by omega), Bool.false_and] at HQ
                    go_wp2_with fail
                    go_ret
                    exact ⟨eb (by rw [HQ.out]), HB.out⟩
              · have d7 : (t.kd == 7) = false := beq_eq_false_iff_ne.2 k7
                rw [if_neg k7] at hS
                have HQ := Lib.hid hS
                have HB := HB0
                clear hS k1 k7
                go_wp2_with fail
                go_ret
                exact ⟨eb (by rw [HQ.out]), HB.out⟩
end Go.Proofs.YtgapeacflkfmdaaGreatDoor
namespace Go.Proofs.YtgapeacflkfmdaaGreatDoor
open Go.RowKit Go.Proofs.YtgapeacflkfmdaaGreatDoorW.PrintWords

theorem LnIs.headT {W : World} {base : Nat} {x : Lk} {r : List Lk} {v : Value} (h : LnIs W base (x :: r) v) :
    ∃ g c : Nat, v = .slice (some ⟨g, 0, none⟩) (r.length + 1) c ∧ base ≤ g ∧ g < W.heap.size := by
  obtain ⟨A, c, rfl, _, hC⟩ := h.reads
  obtain ⟨inner, ho⟩ := Kd.R_own h.1
  obtain ⟨g, cap, hv, hg1, hg2⟩ := ho.form (by simp)
  injection hv with hA _ _
  subst hA
  exact ⟨g, c, rfl, hg1, hg2⟩
theorem LnIs.setT {W : World} {base g : Nat} {l : List Lk} {v : Value} (h : LnIs W base l v) (hg : g < base) (o : Nat) (u : Value) : LnIs (W.setCell ⟨g, o, none⟩ u) base l v := by
  refine ⟨Kd.R_grown1 h.1 rfl (grown_set _ _ _ _) ?_, h.2⟩
  obtain ⟨inner, ho⟩ := Kd.R_own h.1
  intro he
  have := own_base ho _ he.symm
  omega

theorem grownOf {w w' : World} (h : Below w.heap.size w w') (r : Option Nat) : w.grownBy w' r := ⟨h.os, h.tape, h.output, h.size, fun k hk _ => h.block k hk⟩
theorem belowOf {w w' : World} {b n : Nat} (h : w.grownBy w' (some b)) (hn : n ≤ b) (hw : n ≤ w.heap.size) : Below n w w' := ⟨h.os, h.tape, h.output, h.size, fun k hk => h.block k (by omega) (by simp; omega)⟩
/-- The reference's walker: how many parts, how deep, the fault. -/
structure WrAt (W : World) (b : Nat) (n m : Int) (vb : Value) : Prop where
  c0 : W.cell? ⟨b, 0, none⟩ = some (.int .i64 n)
  c1 : W.cell? ⟨b, 1, none⟩ = some (.int .i64 m)
  c2 : W.cell? ⟨b, 2, none⟩ = some vb
  f0 : W.frozen? ⟨b, 0, none⟩ = false
  f1 : W.frozen? ⟨b, 1, none⟩ = false
  f2 : W.frozen? ⟨b, 2, none⟩ = false
theorem WrAt.lt {W : World} {b : Nat} {n m : Int} {vb : Value} (h : WrAt W b n m vb) : b < W.heap.size := World.block_lt_of_cell? W _ h.c0
theorem WrAt.below {W W' : World} {b k : Nat} {n m : Int} {vb : Value} (h : WrAt W b n m vb) (hb : Below k W W') (hk : b < k) : WrAt W' b n m vb :=
  ⟨(hb.cell hk).trans h.c0, (hb.cell hk).trans h.c1, (hb.cell hk).trans h.c2, (hb.frozen hk).trans h.f0, (hb.frozen hk).trans h.f1, (hb.frozen hk).trans h.f2⟩
theorem WrAt.put {W : World} {b : Nat} {n m : Int} {vb : Value} (h : WrAt W b n m vb) (n' m' : Int) : WrAt ((W.setCell ⟨b, 0, none⟩ (.int .i64 n')).setCell ⟨b, 1, none⟩ (.int .i64 m')) b n' m' vb := by
  obtain ⟨c0, c1, c2, f0, f1, f2⟩ := h
  constructor <;> simp [World.cell?_setCell_other, World.cell?_setCell_same, World.frozen?_setCell, *]
theorem WrAt.bad {W : World} {b : Nat} {n m : Int} {vb : Value} (h : WrAt W b n m vb) (v : Value) : WrAt (W.setCell ⟨b, 2, none⟩ v) b n m v := by
  obtain ⟨c0, c1, c2, f0, f1, f2⟩ := h
  constructor <;> simp [World.cell?_setCell_other, World.cell?_setCell_same, World.frozen?_setCell, *]
/-- What a part leaves. -/
def PartPost (w : World) (b : Nat) (r : Meas) (e : Ending) (w' : World) : Prop :=
  e = .returned (.tuple #[]) ∧ w.grownBy w' (some b) ∧ ∃ n m vb, WrAt w' b n m vb ∧ LnIs w' (b + 1) r.1 vb ∧ (r.1 = [] → n = r.2.1 ∧ m = r.2.2)
def formPre (t : Tm) (d n : Int) : List Lk := if n = 4096 then [⟨nTerm, n, 5⟩] else if 256 < d then [⟨nTerm, n, 9⟩] else formBad t n
theorem measT_pre (t : Tm) (d n m : Int) : measT t d n m = match formPre t d n with
    | [] => measL t.args (d + 1) (n + 1) (max m d)
    | l => (l, 0, 0) := by
  rw [measT_eq]
  unfold formPre
  split
  · rfl
  · split
    · rfl
    · rfl
theorem formPre_nil {t : Tm} {d n : Int} (h : formPre t d n = []) : n ≠ 4096 ∧ d ≤ 256 := by
  unfold formPre at h
  by_cases h1 : n = 4096
  · rw [if_pos h1] at h
    cases h
  · rw [if_neg h1] at h
    by_cases h2 : 256 < d
    · rw [if_pos h2] at h
      cases h
    · exact ⟨h1, by omega⟩
theorem formPre_len (t : Tm) (d n : Int) : (formPre t d n).length ≤ 2 := by
  have hq : (quoted t.tx).2.length ≤ 1 := by
    unfold quoted
    repeat' split
    all_goals simp
  have hn : (nodeBad t.tx).length ≤ 1 := by
    unfold nodeBad
    split <;> simp
  have ho : ∀ (a : Int) (l : List Lk), l.length ≤ 1 → (overTm a l).length ≤ 2 := by
    intro a l h
    cases l with
    | nil => simp [overTm]
    | cons x r => simp [overTm] at h ⊢; omega
  unfold formPre formBad
  repeat' split
  all_goals first | (simp; done) | exact ho _ _ hq | exact ho _ _ hn

theorem TmAt.grownR {W W' : World} {b g : Nat} {t : Tm} {v4 v5 : Value} (h : TmAt W b t v4 v5) (hg : W.grownBy W' (some g)) (hne : b ≠ g) : TmAt W' b t v4 v5 := by
  have hb : W'.heap[b]? = W.heap[b]? := hg.block b h.lt (by simpa using hne)
  have hc : ∀ o, W'.cell? ⟨b, o, none⟩ = W.cell? ⟨b, o, none⟩ := fun o => by simp [World.cell?, hb]
  have hf : ∀ o, W'.frozen? ⟨b, o, none⟩ = W.frozen? ⟨b, o, none⟩ := fun o => by simp [World.frozen?, hb]
  obtain ⟨c0, c1, c2, c3, c4, c5, f0, f1, f2, f3, f4, f5⟩ := h
  exact ⟨(hc _).trans c0, (hc _).trans c1, (hc _).trans c2, (hc _).trans c3, (hc _).trans c4, (hc _).trans c5, (hf _).trans f0, (hf _).trans f1, (hf _).trans f2, (hf _).trans f3, (hf _).trans f4, (hf _).trans f5⟩
theorem TmAt.far {W : World} {b g : Nat} {t : Tm} {v4 v5 : Value} (h : TmAt W b t v4 v5) (hne : b ≠ g) (o : Nat) (u : Value) : TmAt (W.setCell ⟨g, o, none⟩ u) b t v4 v5 := by
  obtain ⟨c0, c1, c2, c3, c4, c5, f0, f1, f2, f3, f4, f5⟩ := h
  constructor <;> simp [World.cell?_setCell_other, World.frozen?_setCell, *]
set_option maxRecDepth 100000 in
set_option maxHeartbeats 8000000 in
theorem ref02_part (w0 : World) (b : Nat) (hb0 : w0.heap.size ≤ b) (t : Tm) : ∀ (A4 A5 : Option Addr) (c4 c5 : Nat) (d n m : Int) (w : World), TmR w0 t A4 c4 A5 c5 → Below w0.heap.size w0 w → WrAt w b n m (.slice none 0 0) → smT t = true →
    0 ≤ n → n ≤ 4096 → 0 ≤ m → m ≤ 256 → 1 ≤ d → d ≤ 257 →
    Calls Tryz.prog 41 #[.pointer (some ⟨b, 0, none⟩), tmV t (.slice A4 t.nums.length c4) (.slice A5 t.args.length c5), .int .i64 d] w (PartPost w b (measT t d n m)) := by
  induction t using Tm.ind with
  | h t ih =>
    intro A4 A5 c4 c5 d n m w hR hB hW hsm hn0 hn1 hm0 hm1 hd0 hd1
    have HIH := Lib.hid ih
    have HR := Lib.hid hR
    have HB_ := Lib.hid hB
    have HSM := Lib.hid hsm
    have hr := measT_pre t d n m
    have hfl := formPre_len t d n
    generalize measT t d n m = R at hr ⊢
    obtain ⟨F, hF⟩ : ∃ F, F = formPre t d n := ⟨_, rfl⟩
    rw [← hF] at hr hfl
    have HRR := Lib.hid hr
    have HF := Lib.hid hF
    have hW1 : WrAt (w.alloc (.cells #[.int .i64 t.kd, .int .i64 t.it, .string t.tx, .int .u32 t.cr, .slice A4 t.nums.length c4, .slice A5 t.args.length c5] 27)) b n m (.slice none 0 0) := hW.below (below_alloc (Below.refl _ _) _) hW.lt
    have HT1 := Lib.hid (TmAt.new w t (.slice A4 t.nums.length c4) (.slice A5 t.args.length c5))
    have hlt1 : b < w.heap.size := hW.lt
    have HB1 := Lib.hid (below_alloc (Below.refl w.heap.size w) (.cells #[.int .i64 t.kd, .int .i64 t.it, .string t.tx, .int .u32 t.cr, .slice A4 t.nums.length c4, .slice A5 t.args.length c5] 27))
    have hne := fun (w : World) (a : Option Addr) (n c : Nat) => run_neq_slice_nil_any (P := Tryz.prog) w 32 83 a n c 0 0 Tryz.underlying32
    have heq := fun (w : World) (a : Option Addr) (n c : Nat) => Lib.run_eql_slice_nil (P := Tryz.prog) w 32 83 a n c 0 0 Tryz.underlying32
    clear ih hR hB hW hsm hr hF
    unfold tmV
    go_enter Tryz.func41, Tryz.ntmps41
    go_upto_region 1 with (fail)
    obtain ⟨w1, hw1⟩ : ∃ W, W = w.alloc (.cells #[.int .i64 t.kd, .int .i64 t.it, .string t.tx, .int .u32 t.cr, .slice A4 t.nums.length c4, .slice A5 t.args.length c5] 27) := ⟨_, rfl⟩
    rw [← hw1] at hW1 HT1 HB1
    rw [← hw1]
    clear hw1
    have hlt2 : w.heap.size < w1.heap.size := HT1.out.lt
    have HNB : Hid (w.heap.size ≠ b) := Lib.hid (by omega)
    have HNB2 : Hid (b < w.heap.size) := Lib.hid (by omega)
    have HBA : Hid (w.grownBy w1 (some b)) := Lib.hid (grownOf HB1.out _)
    have r0 := hW1.c0
    have r1 := hW1.c1
    have r2 := hW1.c2
    have g0 := hW1.f0
    have g1 := hW1.f1
    have HW1 := Lib.hid hW1
    clear hW1
    go_upto_block 0 with (fail)
    have hW3 : WrAt ((w1.setCell ⟨b, 0, none⟩ (.int .i64 (n + 1))).setCell ⟨b, 1, none⟩ (.int .i64 (max m d))) b (n + 1) (max m d) (.slice none 0 0) := HW1.out.put _ _
    have HB3 : Hid (w.grownBy ((w1.setCell ⟨b, 0, none⟩ (.int .i64 (n + 1))).setCell ⟨b, 1, none⟩ (.int .i64 (max m d))) (some b)) := Lib.hid ((HBA.out.trans (grown_set _ _ _ _)).trans (grown_set _ _ _ _))
    have hT3 : TmAt ((w1.setCell ⟨b, 0, none⟩ (.int .i64 (n + 1))).setCell ⟨b, 1, none⟩ (.int .i64 (max m d))) w.heap.size t (.slice A4 t.nums.length c4) (.slice A5 t.args.length c5) := (HT1.out.far HNB.out _ _).far HNB.out _ _
    have hsz3 : ((w1.setCell ⟨b, 0, none⟩ (.int .i64 (n + 1))).setCell ⟨b, 1, none⟩ (.int .i64 (max m d))).heap.size = w1.heap.size := by simp
    obtain ⟨w3, hw3⟩ : ∃ W, W = (w1.setCell ⟨b, 0, none⟩ (.int .i64 (n + 1))).setCell ⟨b, 1, none⟩ (.int .i64 (max m d)) := ⟨_, rfl⟩
    rw [← hw3] at hW3 HB3 hsz3 hT3
    rw [← hw3]
    clear hw3 r0 r1 r2 g0 g1
    have HW3 := Lib.hid hW3
    have HT3 := Lib.hid hT3
    have HBW : Hid (Below w0.heap.size w0 w3) := Lib.hid (HB_.out.trans (belowOf HB3.out hb0 (by omega)))
    clear hW3 hT3 HW1 HT1 HB1 HBA
    go_cut [] from 13 (fun w' => ∃ vb, WrAt w' b (n + 1) (max m d) vb ∧ LnIs w' (b + 1) F vb ∧ TmAt w' w.heap.size t (.slice A4 t.nums.length c4) (.slice A5 t.args.length c5) ∧ w.grownBy w' (some b))
    case first =>
      have hf := HF.out
      clear HF
      unfold formPre at hf
      have q2 := HW3.out.c2
      have qf := HW3.out.f2
      by_cases h1 : n = 4096
      · have d1 : decide (n ≥ 4096) = true := decide_eq_true (by omega)
        rw [if_pos h1] at hf
        have HQ := Lib.hid hf
        clear hf h1
        go_wp2_with fail
        refine (ref02_no _ _ _).mono ?_
        rintro e w6 ⟨v6, rfl, hL, hB6⟩
        obtain ⟨Aq, cq, hvq, _, _⟩ := hL.reads
        generalize hnq : List.length _ = nq at hvq
        clear hnq
        subst hvq
        have HL := Lib.hid ((hL.lower (base' := b + 1) (by omega)).setT (g := b) (by omega) 2 (.slice Aq nq cq))
        have HW4 := Lib.hid (HW3.out.below hB6 (by omega))
        have HT4 := Lib.hid (HT3.out.below hB6 (by omega))
        have HB4 : Hid (w.grownBy (w6.setCell ⟨b, 2, none⟩ (.slice Aq nq cq)) (some b)) := Lib.hid ((HB3.out.trans (grownOf hB6 _)).trans (grown_set _ _ _ _))
        clear hL hB6 q2 qf
        have q2 := HW4.out.c2
        have qf := HW4.out.f2
        go_wp2_with fail
        go_meet
        case rel => exact ⟨_, HW4.out.bad _, by rw [HQ.out]; exact HL.out, HT4.out.far HNB.out _ _, HB4.out⟩
      · have d1 : decide (n ≥ 4096) = false := decide_eq_false (by omega)
        rw [if_neg h1] at hf
        by_cases h2 : 256 < d
        · have d2 : decide (d > 256) = true := decide_eq_true h2
          rw [if_pos h2] at hf
          have HQ := Lib.hid hf
          clear hf h1 h2
          go_wp2_with fail
          refine (ref02_no _ _ _).mono ?_
          rintro e w6 ⟨v6, rfl, hL, hB6⟩
          obtain ⟨Aq, cq, hvq, _, _⟩ := hL.reads
          generalize hnq : List.length _ = nq at hvq
          clear hnq
          subst hvq
          have HL := Lib.hid ((hL.lower (base' := b + 1) (by omega)).setT (g := b) (by omega) 2 (.slice Aq nq cq))
          have HW4 := Lib.hid (HW3.out.below hB6 (by omega))
          have HT4 := Lib.hid (HT3.out.below hB6 (by omega))
          have HB4 : Hid (w.grownBy (w6.setCell ⟨b, 2, none⟩ (.slice Aq nq cq)) (some b)) := Lib.hid ((HB3.out.trans (grownOf hB6 _)).trans (grown_set _ _ _ _))
          clear hL hB6 q2 qf
          have q2 := HW4.out.c2
          have qf := HW4.out.f2
          go_wp2_with fail
          go_meet
          case rel => exact ⟨_, HW4.out.bad _, by rw [HQ.out]; exact HL.out, HT4.out.far HNB.out _ _, HB4.out⟩
        · have d2 : decide (d > 256) = false := decide_eq_false h2
          rw [if_neg h2] at hf
          have HFF := Lib.hid hf
          clear hf h1
          have t0 := HT3.out.c0
          have t1 := HT3.out.c1
          have t2 := HT3.out.c2
          have t3 := HT3.out.c3
          have t4 := HT3.out.c4
          have t5 := HT3.out.c5
          go_wp2_with fail
          refine (ref02_form t A4 A5 c4 c5 _ (HR.out.below HBW.out)).mono ?_
          rintro e w4 ⟨rfl, hB4⟩
          clear q2 qf t0 t1 t2 t3 t4 t5
          replace HW3 := Lib.hid (HW3.out.below hB4 (by omega))
          replace HT3 := Lib.hid (HT3.out.below hB4 (by omega))
          replace HB3 : Hid (w.grownBy w4 (some b)) := Lib.hid (HB3.out.trans (grownOf hB4 _))
          have hsz4 := hB4.size
          clear hB4
          have q2 := HW3.out.c2
          have qf := HW3.out.f2
          have hf := HFF.out
          unfold formBad at hf
          clear HFF
          generalize shapeOk t = S at hf ⊢
          cases S with
          | false =>
            rw [if_pos rfl] at hf
            have HQ := Lib.hid hf
            clear hf
            go_wp2_with fail
            refine (ref02_no _ _ _).mono ?_
            rintro e w6 ⟨v6, rfl, hL, hB6⟩
            obtain ⟨Aq, cq, hvq, _, _⟩ := hL.reads
            generalize hnq : List.length _ = nq at hvq
            clear hnq
            subst hvq
            have HL := Lib.hid ((hL.lower (base' := b + 1) (by omega)).setT (g := b) (by omega) 2 (.slice Aq nq cq))
            have HW4 := Lib.hid (HW3.out.below hB6 (by omega))
            have HT4 := Lib.hid (HT3.out.below hB6 (by omega))
            have HB4 : Hid (w.grownBy (w6.setCell ⟨b, 2, none⟩ (.slice Aq nq cq)) (some b)) := Lib.hid ((HB3.out.trans (grownOf hB6 _)).trans (grown_set _ _ _ _))
            clear hL hB6 q2 qf
            have q2 := HW4.out.c2
            have qf := HW4.out.f2
            go_wp2_with fail
            go_meet
            case rel => exact ⟨_, HW4.out.bad _, by rw [HQ.out]; exact HL.out, HT4.out.far HNB.out _ _, HB4.out⟩
          | true =>
            rw [if_neg (by simp)] at hf
            have t0 := HT3.out.c0
            have t1 := HT3.out.c1
            have t2 := HT3.out.c2
            by_cases k1 : t.kd = 1
            · have e1 : (t.kd == 1) = true := beq_iff_eq.2 k1
              have e2 : (t.kd == 2) = false := beq_eq_false_iff_ne.2 (by omega)
              have e3 : (t.kd == 3) = false := beq_eq_false_iff_ne.2 (by omega)
              have e4 : (t.kd == 4) = false := beq_eq_false_iff_ne.2 (by omega)
              rw [if_pos k1] at hf
              clear k1
              by_cases hlo : t.it < -576460752303423488
              · have f1 : decide (t.it < -576460752303423488) = true := decide_eq_true hlo
                rw [if_pos (.inl hlo)] at hf
                have HQ := Lib.hid hf
                clear hf
                go_wp2_with fail
                refine (ref02_no _ _ _).mono ?_
                rintro e w6 ⟨v6, rfl, hL, hB6⟩
                obtain ⟨Aq, cq, hvq, _, _⟩ := hL.reads
                generalize hnq : List.length _ = nq at hvq
                clear hnq
                subst hvq
                have HL := Lib.hid ((hL.lower (base' := b + 1) (by omega)).setT (g := b) (by omega) 2 (.slice Aq nq cq))
                have HW4 := Lib.hid (HW3.out.below hB6 (by omega))
                have HT4 := Lib.hid (HT3.out.below hB6 (by omega))
                have HB4 : Hid (w.grownBy (w6.setCell ⟨b, 2, none⟩ (.slice Aq nq cq)) (some b)) := Lib.hid ((HB3.out.trans (grownOf hB6 _)).trans (grown_set _ _ _ _))
                clear hL hB6 q2 qf
                have q2 := HW4.out.c2
                have qf := HW4.out.f2
                go_wp2_with fail
                go_meet
                case rel => exact ⟨_, HW4.out.bad _, by rw [HQ.out]; exact HL.out, HT4.out.far HNB.out _ _, HB4.out⟩
              · have f1 : decide (t.it < -576460752303423488) = false := decide_eq_false hlo
                by_cases hhi : t.it > 576460752303423487
                · have f2 : decide (t.it > 576460752303423487) = true := decide_eq_true hhi
                  rw [if_pos (.inr hhi)] at hf
                  have HQ := Lib.hid hf
                  clear hf
                  go_wp2_with fail
                  refine (ref02_no _ _ _).mono ?_
                  rintro e w6 ⟨v6, rfl, hL, hB6⟩
                  obtain ⟨Aq, cq, hvq, _, _⟩ := hL.reads
                  generalize hnq : List.length _ = nq at hvq
                  clear hnq
                  subst hvq
                  have HL := Lib.hid ((hL.lower (base' := b + 1) (by omega)).setT (g := b) (by omega) 2 (.slice Aq nq cq))
                  have HW4 := Lib.hid (HW3.out.below hB6 (by omega))
                  have HT4 := Lib.hid (HT3.out.below hB6 (by omega))
                  have HB4 : Hid (w.grownBy (w6.setCell ⟨b, 2, none⟩ (.slice Aq nq cq)) (some b)) := Lib.hid ((HB3.out.trans (grownOf hB6 _)).trans (grown_set _ _ _ _))
                  clear hL hB6 q2 qf
                  have q2 := HW4.out.c2
                  have qf := HW4.out.f2
                  go_wp2_with fail
                  go_meet
                  case rel => exact ⟨_, HW4.out.bad _, by rw [HQ.out]; exact HL.out, HT4.out.far HNB.out _ _, HB4.out⟩
                · have f2 : decide (t.it > 576460752303423487) = false := decide_eq_false hhi
                  rw [if_neg (by omega)] at hf
                  have HQ := Lib.hid hf
                  clear hf
                  go_wp2_with fail
                  go_meet
                  case rel => exact ⟨_, HW3.out, by rw [HQ.out]; exact LnIs.nil _ _, HT3.out, HB3.out⟩
            · have e1 : (t.kd == 1) = false := beq_eq_false_iff_ne.2 k1
              rw [if_neg k1] at hf
              clear k1
              by_cases k2 : t.kd = 2
              · have e2 : (t.kd == 2) = true := beq_iff_eq.2 k2
                rw [if_pos k2] at hf
                clear k2
                go_wp2_with fail
                refine (ref01_Quote t.tx (sm_tx HSM.out) _).mono ?_
                rintro e w5 ⟨v5, rfl, hL, hB5⟩
                have hW5 := HW3.out.below hB5 (by omega)
                replace HT3 := Lib.hid (HT3.out.below hB5 (by omega))
                replace HB3 : Hid (w.grownBy w5 (some b)) := Lib.hid (HB3.out.trans (grownOf hB5 _))
                have hsz5 := hB5.size
                clear q2 qf t0 t1 t2 hB5 HW3
                have HW3 := Lib.hid hW5
                have q2 := HW3.out.c2
                have qf := HW3.out.f2
                clear hW5
                try simp only at hL
                have hfl2 := hfl
                rw [hf] at hfl2
                generalize (quoted t.tx).2 = lq at hL hf hfl2
                cases lq with
                | nil =>
                  have hv := hL.2 rfl
                  subst hv
                  have HQ := Lib.hid hf
                  clear hf hL hfl2
                  have HQ : Hid (F = []) := Lib.hid HQ.out
                  go_wp2_with fail
                  go_meet
                  case rel => exact ⟨_, HW3.out, by rw [HQ.out]; exact LnIs.nil _ _, HT3.out, HB3.out⟩
                | cons x r =>
                  have HLL := Lib.hid hL
                  obtain ⟨gg, cc, rfl, _, _⟩ := hL.headT
                  have HQ := Lib.hid hf
                  have hlr : (x :: r).length ≤ 16 := by simp only [overTm, List.length_cons] at hfl2 ⊢; omega
                  have HLR := Lib.hid hlr
                  clear hf hL hfl2 hlr
                  go_wp2_with fail
                  refine (ref02_over n x r _ _ _ HLL.out HLR.out).mono ?_
                  rintro e w6 ⟨v6, rfl, hL, hB6⟩
                  obtain ⟨Aq, cq, hvq, _, _⟩ := hL.reads
                  generalize hnq : List.length _ = nq at hvq
                  clear hnq
                  subst hvq
                  have HL := Lib.hid ((hL.lower (base' := b + 1) (by omega)).setT (g := b) (by omega) 2 (.slice Aq nq cq))
                  have HW4 := Lib.hid (HW3.out.below hB6 (by omega))
                  have HT4 := Lib.hid (HT3.out.below hB6 (by omega))
                  have HB4 : Hid (w.grownBy (w6.setCell ⟨b, 2, none⟩ (.slice Aq nq cq)) (some b)) := Lib.hid ((HB3.out.trans (grownOf hB6 _)).trans (grown_set _ _ _ _))
                  clear hL hB6 q2 qf
                  have q2 := HW4.out.c2
                  have qf := HW4.out.f2
                  go_wp2_with fail
                  go_meet
                  case rel => exact ⟨_, HW4.out.bad _, by rw [HQ.out]; exact HL.out, HT4.out.far HNB.out _ _, HB4.out⟩
              · have e2 : (t.kd == 2) = false := beq_eq_false_iff_ne.2 k2
                rw [if_neg k2] at hf
                clear k2
                by_cases k3 : t.kd = 3
                · have e3 : (t.kd == 3) = true := beq_iff_eq.2 k3
                  rw [if_pos (.inl k3)] at hf
                  clear k3
                  go_wp2_with fail
                  refine (ref01_Node t.tx (sm_tx HSM.out) _).mono ?_
                  rintro e w5 ⟨q1_, q2_, v5, rfl, hL, hB5⟩
                  have hW5 := HW3.out.below hB5 (by omega)
                  replace HT3 := Lib.hid (HT3.out.below hB5 (by omega))
                  replace HB3 : Hid (w.grownBy w5 (some b)) := Lib.hid (HB3.out.trans (grownOf hB5 _))
                  have hsz5 := hB5.size
                  clear q2 qf t0 t1 t2 hB5 HW3
                  have HW3 := Lib.hid hW5
                  have q2 := HW3.out.c2
                  have qf := HW3.out.f2
                  clear hW5
                  try simp only at hL
                  have hfl2 := hfl
                  rw [hf] at hfl2
                  generalize (nodeBad t.tx) = lq at hL hf hfl2
                  cases lq with
                  | nil =>
                    have hv := hL.2 rfl
                    subst hv
                    have HQ := Lib.hid hf
                    clear hf hL hfl2
                    have HQ : Hid (F = []) := Lib.hid HQ.out
                    go_wp2_with fail
                    go_meet
                    case rel => exact ⟨_, HW3.out, by rw [HQ.out]; exact LnIs.nil _ _, HT3.out, HB3.out⟩
                  | cons x r =>
                    have HLL := Lib.hid hL
                    obtain ⟨gg, cc, rfl, _, _⟩ := hL.headT
                    have HQ := Lib.hid hf
                    have hlr : (x :: r).length ≤ 16 := by simp only [overTm, List.length_cons] at hfl2 ⊢; omega
                    have HLR := Lib.hid hlr
                    clear hf hL hfl2 hlr
                    go_wp2_with fail
                    refine (ref02_over n x r _ _ _ HLL.out HLR.out).mono ?_
                    rintro e w6 ⟨v6, rfl, hL, hB6⟩
                    obtain ⟨Aq, cq, hvq, _, _⟩ := hL.reads
                    generalize hnq : List.length _ = nq at hvq
                    clear hnq
                    subst hvq
                    have HL := Lib.hid ((hL.lower (base' := b + 1) (by omega)).setT (g := b) (by omega) 2 (.slice Aq nq cq))
                    have HW4 := Lib.hid (HW3.out.below hB6 (by omega))
                    have HT4 := Lib.hid (HT3.out.below hB6 (by omega))
                    have HB4 : Hid (w.grownBy (w6.setCell ⟨b, 2, none⟩ (.slice Aq nq cq)) (some b)) := Lib.hid ((HB3.out.trans (grownOf hB6 _)).trans (grown_set _ _ _ _))
                    clear hL hB6 q2 qf
                    have q2 := HW4.out.c2
                    have qf := HW4.out.f2
                    go_wp2_with fail
                    go_meet
                    case rel => exact ⟨_, HW4.out.bad _, by rw [HQ.out]; exact HL.out, HT4.out.far HNB.out _ _, HB4.out⟩
                · have e3 : (t.kd == 3) = false := beq_eq_false_iff_ne.2 k3
                  by_cases k4 : t.kd = 4
                  · have e4 : (t.kd == 4) = true := beq_iff_eq.2 k4
                    rw [if_pos (.inr k4)] at hf
                    clear k3 k4
                    go_wp2_with fail
                    refine (ref01_Node t.tx (sm_tx HSM.out) _).mono ?_
                    rintro e w5 ⟨q1_, q2_, v5, rfl, hL, hB5⟩
                    have hW5 := HW3.out.below hB5 (by omega)
                    replace HT3 := Lib.hid (HT3.out.below hB5 (by omega))
                    replace HB3 : Hid (w.grownBy w5 (some b)) := Lib.hid (HB3.out.trans (grownOf hB5 _))
                    have hsz5 := hB5.size
                    clear q2 qf t0 t1 t2 hB5 HW3
                    have HW3 := Lib.hid hW5
                    have q2 := HW3.out.c2
                    have qf := HW3.out.f2
                    clear hW5
                    try simp only at hL
                    have hfl2 := hfl
                    rw [hf] at hfl2
                    generalize (nodeBad t.tx) = lq at hL hf hfl2
                    cases lq with
                    | nil =>
                      have hv := hL.2 rfl
                      subst hv
                      have HQ := Lib.hid hf
                      clear hf hL hfl2
                      have HQ : Hid (F = []) := Lib.hid HQ.out
                      go_wp2_with fail
                      go_meet
                      case rel => exact ⟨_, HW3.out, by rw [HQ.out]; exact LnIs.nil _ _, HT3.out, HB3.out⟩
                    | cons x r =>
                      have HLL := Lib.hid hL
                      obtain ⟨gg, cc, rfl, _, _⟩ := hL.headT
                      have HQ := Lib.hid hf
                      have hlr : (x :: r).length ≤ 16 := by simp only [overTm, List.length_cons] at hfl2 ⊢; omega
                      have HLR := Lib.hid hlr
                      clear hf hL hfl2 hlr
                      go_wp2_with fail
                      refine (ref02_over n x r _ _ _ HLL.out HLR.out).mono ?_
                      rintro e w6 ⟨v6, rfl, hL, hB6⟩
                      obtain ⟨Aq, cq, hvq, _, _⟩ := hL.reads
                      generalize hnq : List.length _ = nq at hvq
                      clear hnq
                      subst hvq
                      have HL := Lib.hid ((hL.lower (base' := b + 1) (by omega)).setT (g := b) (by omega) 2 (.slice Aq nq cq))
                      have HW4 := Lib.hid (HW3.out.below hB6 (by omega))
                      have HT4 := Lib.hid (HT3.out.below hB6 (by omega))
                      have HB4 : Hid (w.grownBy (w6.setCell ⟨b, 2, none⟩ (.slice Aq nq cq)) (some b)) := Lib.hid ((HB3.out.trans (grownOf hB6 _)).trans (grown_set _ _ _ _))
                      clear hL hB6 q2 qf
                      have q2 := HW4.out.c2
                      have qf := HW4.out.f2
                      go_wp2_with fail
                      go_meet
                      case rel => exact ⟨_, HW4.out.bad _, by rw [HQ.out]; exact HL.out, HT4.out.far HNB.out _ _, HB4.out⟩
                  · have e4 : (t.kd == 4) = false := beq_eq_false_iff_ne.2 k4
                    rw [if_neg (by omega)] at hf
                    have HQ := Lib.hid hf
                    clear hf k3 k4
                    go_wp2_with fail
                    go_meet
                    case rel => exact ⟨_, HW3.out, by rw [HQ.out]; exact LnIs.nil _ _, HT3.out, HB3.out⟩
    case rest =>
      obtain ⟨vb, hW, hL, hT, hB⟩ := hcut
      clear HW3 HT3 HB3 hsz3 hfl HBW
      have HT := Lib.hid hT
      have hrr := HRR.out
      have hbwc : b < wc.heap.size := hW.lt
      have HK0 := Lib.hid HR.out.g5.2.1
      have HST : Hid ((∃ n' m', d ≤ 256 ∧ 0 ≤ n' ∧ n' ≤ 4096 ∧ 0 ≤ m' ∧ m' ≤ 256 ∧ WrAt wc b n' m' (.slice none 0 0) ∧ measL (t.args.drop 0) (d + 1) n' m' = R) ∨ (∃ n' m' g c z, WrAt wc b n' m' (.slice (some ⟨g, 0, none⟩) z c) ∧ LnIs wc (b + 1) R.1 (.slice (some ⟨g, 0, none⟩) z c) ∧ R.1 ≠ [])) := by
        refine Lib.hid ?_
        cases F with
        | nil =>
          left
          obtain rfl := hL.2 rfl
          have hpn := formPre_nil HF.out.symm
          exact ⟨n + 1, max m d, by omega, by omega, by omega, by omega, by omega, hW, hrr.symm⟩
        | cons x r =>
          right
          obtain ⟨g, c, rfl, _, _⟩ := hL.headT
          rw [hrr]
          exact ⟨_, _, g, c, _, hW, hL, by simp⟩
      have HB := Lib.hid hB
      clear hT hW hL hB hrr HRR HF
      go_wp2_with fail
      go_loopg [12] t.args.length (fun gk vi wl => ∃ (k : Nat), vi = .int .i64 (k : Int) ∧ gk = t.args.length - k ∧ k ≤ t.args.length ∧ Hid (TmAt wl w.heap.size t (.slice A4 t.nums.length c4) (.slice A5 t.args.length c5)) ∧ Hid (w.grownBy wl (some b)) ∧ b < wl.heap.size ∧
        Hid ((∃ n' m', d ≤ 256 ∧ 0 ≤ n' ∧ n' ≤ 4096 ∧ 0 ≤ m' ∧ m' ≤ 256 ∧ WrAt wl b n' m' (.slice none 0 0) ∧ measL (t.args.drop k) (d + 1) n' m' = R) ∨ (∃ n' m' g c z, WrAt wl b n' m' (.slice (some ⟨g, 0, none⟩) z c) ∧ LnIs wl (b + 1) R.1 (.slice (some ⟨g, 0, none⟩) z c) ∧ R.1 ≠ [])))
      case atStart => exact ⟨0, rfl, rfl, Nat.zero_le _, HT, HB, hbwc, HST⟩
      case round =>
        clear HST HT HB hbwc
        obtain ⟨k, rfl, hgk, hk, HT, HB, hbl, HST⟩ := hrel
        have HK := Lib.hid hgk
        have hk0 := HK0.out
        clear hgk
        have t5 := HT.out.c5
        rcases HST.out with ⟨n', m', hd9, a0, a1, a2, a3, hW, hs⟩ | ⟨n', m', g, c, z, hW, hL, hne1⟩
        · have q2 := hW.c2
          have HW := Lib.hid hW
          have HSS := Lib.hid hs
          clear hW hs HST
          by_cases hlt : k < t.args.length
          · have HBWl : Hid (Below w0.heap.size w0 wr) := Lib.hid (HB_.out.trans (belowOf HB.out hb0 (by omega)))
            obtain ⟨ad, A4', c4', A5', c5', hA, q0, q1, q2', q3, q4, q5, hTR⟩ := atTm HR.out.g5 (k : Int) (by omega) (by omega)
            subst hA
            simp only [Int.toNat_natCast] at q0 q1 q2' q3 q4 q5
            replace q0 := (HBWl.out.cell (World.block_lt_of_cell? w0 _ q0)).trans q0
            replace q1 := (HBWl.out.cell (World.block_lt_of_cell? w0 _ q1)).trans q1
            replace q2' := (HBWl.out.cell (World.block_lt_of_cell? w0 _ q2')).trans q2'
            replace q3 := (HBWl.out.cell (World.block_lt_of_cell? w0 _ q3)).trans q3
            replace q4 := (HBWl.out.cell (World.block_lt_of_cell? w0 _ q4)).trans q4
            replace q5 := (HBWl.out.cell (World.block_lt_of_cell? w0 _ q5)).trans q5
            obtain ⟨hge, hmem⟩ := rdTm_mem hlt
            have hs := HSS.out
            rw [List.drop_eq_getElem_cons hlt, measL, ← hge] at hs
            generalize rdTm t.args (k : Int) = a at q0 q1 q2' q3 q4 q5 hTR hs hmem
            have HTR := Lib.hid hTR
            have HS2 := Lib.hid hs
            have HMEM := Lib.hid hmem
            have y0 : (0 : Int) ≤ (k : Int) := by omega
            have y1 : (k : Int) < (t.args.length : Int) := by omega
            clear hTR hs hmem hge HSS
            go_wp2_with fail
            refine (HIH.out a HMEM.out A4' A5' c4' c5' (d + 1) n' m' _ HTR.out HBWl.out HW.out (smL_mem (sm_args HSM.out) HMEM.out) a0 a1 a2 a3 (by omega) (by omega)).mono ?_
            rintro e w5 ⟨rfl, hB5, n5, m5, vb5, hW5, hL5, hnm⟩
            have HB5 : Hid (w.grownBy w5 (some b)) := Lib.hid (HB.out.trans hB5)
            have HT5 := Lib.hid (HT.out.grownR hB5 HNB.out)
            have hs := HS2.out
            clear hB5 q0 q1 q2' q3 q4 q5 q2 t5
            have hrg := meas_range a (d + 1) n' m' a0 a1 a2 a3 (by omega)
            generalize measT a (d + 1) n' m' = ra at hL5 hnm hs hrg
            obtain ⟨la, na, ma⟩ := ra
            have hb5 := hW5.lt
            cases la with
            | cons x r =>
              obtain ⟨g, c, rfl, _, _⟩ := hL5.headT
              have HSN : Hid ((∃ n' m', d ≤ 256 ∧ 0 ≤ n' ∧ n' ≤ 4096 ∧ 0 ≤ m' ∧ m' ≤ 256 ∧ WrAt w5 b n' m' (.slice none 0 0) ∧ measL (t.args.drop (k + 1)) (d + 1) n' m' = R) ∨ (∃ n' m' g c z, WrAt w5 b n' m' (.slice (some ⟨g, 0, none⟩) z c) ∧ LnIs w5 (b + 1) R.1 (.slice (some ⟨g, 0, none⟩) z c) ∧ R.1 ≠ [])) :=
                Lib.hid (.inr ⟨n5, m5, g, c, _, hW5, by rw [← hs]; exact hL5, by rw [← hs]; simp⟩)
              clear hs hW5 hL5 hnm hrg HS2
              go_wp2_with fail
              go_roundg (t.args.length - (k + 1))
              case measure => rw [HK.out]; omega
              case rel => exact ⟨k + 1, by go_num, rfl, by omega, HT5, HB5, hb5, HSN⟩
            | nil =>
              obtain rfl := hL5.2 rfl
              obtain ⟨rfl, rfl⟩ := hnm rfl
              have hg9 := hrg rfl
              have HSN : Hid ((∃ n' m', d ≤ 256 ∧ 0 ≤ n' ∧ n' ≤ 4096 ∧ 0 ≤ m' ∧ m' ≤ 256 ∧ WrAt w5 b n' m' (.slice none 0 0) ∧ measL (t.args.drop (k + 1)) (d + 1) n' m' = R) ∨ (∃ n' m' g c z, WrAt w5 b n' m' (.slice (some ⟨g, 0, none⟩) z c) ∧ LnIs w5 (b + 1) R.1 (.slice (some ⟨g, 0, none⟩) z c) ∧ R.1 ≠ [])) :=
                Lib.hid (.inl ⟨n5, m5, hd9, hg9.1, hg9.2.1, hg9.2.2.1, hg9.2.2.2, hW5, hs⟩)
              clear hs hW5 hL5 hnm hrg hg9 HS2
              go_wp2_with fail
              go_roundg (t.args.length - (k + 1))
              case measure => rw [HK.out]; omega
              case rel => exact ⟨k + 1, by go_num, rfl, by omega, HT5, HB5, hb5, HSN⟩
          · have hs := HSS.out
            rw [List.drop_eq_nil_of_le (by omega), measL] at hs
            have HQ := Lib.hid hs.symm
            have d0 : decide (k < t.args.length) = false := decide_eq_false hlt
            clear hs HSS
            go_wp2_with fail
            go_end0
            exact ⟨rfl, HB.out, n', m', _, HW.out, by rw [HQ.out]; exact LnIs.nil _ _, fun _ => by rw [HQ.out]; exact ⟨rfl, rfl⟩⟩
        · have q2 := hW.c2
          have HFIN : Hid (PartPost w b R (.returned (.tuple #[])) wr) := Lib.hid ⟨rfl, HB.out, n', m', _, hW, hL, fun h => absurd h hne1⟩
          clear hW hL hne1 HST
          by_cases hlt : k < t.args.length
          · go_wp2_with fail
            go_end0
            exact HFIN.out
          · have d0 : decide (k < t.args.length) = false := decide_eq_false hlt
            go_wp2_with fail
            go_end0
            exact HFIN.out
end Go.Proofs.YtgapeacflkfmdaaGreatDoor
set_option linter.unusedSimpArgs false
namespace Go.Proofs.YtgapeacflkfmdaaGreatDoor
open Go.RowKit Go.Sort Go.Proofs.YtgapeacflkfmdaaGreatDoorW.PrintWords

def sTa : ByteArray := ⟨#[123, 111, 107, 44, 32, 91, 49, 44, 32, 50, 32, 124, 32, 120, 93, 44, 32, 39, 65, 32, 98, 39, 44, 32, 60, 110, 64, 104, 46, 49, 46, 53, 46, 48, 62, 125]⟩
def sTp : ByteArray := ⟨#[123, 111, 107, 44, 91, 49, 44, 50, 124, 120, 93, 44, 39, 65, 32, 98, 39, 44, 60, 110, 64, 104, 46, 49, 46, 53, 46, 48, 62, 125]⟩
def sTb : ByteArray := ⟨#[91, 49, 44]⟩
theorem ta_read : (rdAll sTa).2 = [] := by decide +kernel
theorem ta_print : printT (rdAll sTa).1 = (sTp, []) := by decide +kernel
theorem ta_meas : measure (rdAll sTa).1 = ([], 8, 3) := by decide +kernel
theorem ta_comp : compareT (rdAll sTa).1 tmNil = -1 := by decide +kernel
theorem tb_read : (rdAll sTb).2 = [⟨nTerm, 3, 41⟩] := by decide +kernel
def TruePost (w : World) (e : Ending) (w' : World) : Prop := e = .returned (.bool true) ∧ Below w.heap.size w w'
theorem nil_is (W : World) : TmIs W tmNil (tmV tmNil (.slice none 0 0) (.slice none 0 0)) := (TmMade.flat W 0 6 0 ⟨#[]⟩ 0).is
set_option maxRecDepth 100000 in
set_option maxHeartbeats 4000000 in
theorem awake_any (w : World) (hG : Glob w) : Calls Tryz.prog 20 #[] w (TruePost w) := by
  have HG := Lib.hid hG
  clear hG
  have HR1 := Lib.hid (term_Read sTa (by decide))
  have HR2 := Lib.hid (term_Read sTb (by decide))
  have HIN := Lib.hid (rdAll_in sTa)
  have HF1 := Lib.hid ta_read
  have HF2 := Lib.hid ta_print
  have HF3 := Lib.hid ta_meas
  have HF4 := Lib.hid ta_comp
  have HF5 := Lib.hid tb_read
  generalize rdAll sTa = q at HR1 HIN HF1 HF2 HF3 HF4
  generalize rdAll sTb = q2 at HR2 HF5
  obtain ⟨t, l⟩ := q
  obtain ⟨t2, l2⟩ := q2
  obtain rfl : l = [] := HF1.out
  obtain rfl : l2 = _ := HF5.out
  go_enter Tryz.func20, Tryz.ntmps20
  go_wp2_with fail
  refine (HR1.out w HG.out).mono ?_
  rintro e w1 ⟨v, ev, rfl, hM, hE, hB1⟩
  obtain rfl : ev = .nilIface := hE
  obtain ⟨A4, c4, A5, c5, rfl, hT⟩ := hM.is
  have HT := Lib.hid hT
  have HB1 := Lib.hid hB1
  clear hM hT hB1
  unfold tmV
  go_upto_region 2 with (fail)
  have hta := TmAt.new w1 t (.slice A4 t.nums.length c4) (.slice A5 t.args.length c5)
  have hb := below_alloc (Below.refl w1.heap.size w1) (.cells #[.int .i64 t.kd, .int .i64 t.it, .string t.tx, .int .u32 t.cr, .slice A4 t.nums.length c4, .slice A5 t.args.length c5] 27)
  generalize w1.alloc (.cells #[.int .i64 t.kd, .int .i64 t.it, .string t.tx, .int .u32 t.cr, .slice A4 t.nums.length c4, .slice A5 t.args.length c5] 27) = w2 at hta hb ⊢
  have HA2 := Lib.hid hta
  have HB2 := Lib.hid (trans_below HB1.out hb)
  have HT2 := Lib.hid (HT.out.below hb)
  clear hta hb HB1 HT
  have HP := Lib.hid (term_Print t A4 A5 c4 c5 w2 HT2.out (inT_sm HIN.out) (inT_wf HIN.out) (HG.out.below HB2.out))
  rw [HF2.out] at HP
  unfold tmV sTp at HP
  obtain ⟨a0, a1, a2, a3, a4, a5, _, _, _, _, _, _⟩ := HA2.out
  go_wp2_with fail
  refine HP.out.mono ?_
  rintro e w3 ⟨ev, rfl, hE, hB⟩
  obtain rfl : ev = .nilIface := hE
  have HA3 := Lib.hid (HA2.out.below hB HA2.out.lt)
  have HB3 := Lib.hid (trans_below HB2.out hB)
  have HT3 := Lib.hid (HT2.out.below hB)
  clear hB a0 a1 a2 a3 a4 a5 HP HA2 HB2 HT2
  have HM := Lib.hid (term_Measure t A4 A5 c4 c5 w3 HT3.out (inT_sm HIN.out) (HG.out.below HB3.out))
  rw [HF3.out] at HM
  unfold tmV at HM
  obtain ⟨a0, a1, a2, a3, a4, a5, _, _, _, _, _, _⟩ := HA3.out
  go_wp2_with fail
  refine HM.out.mono ?_
  rintro e w4 ⟨ev, rfl, hE, hB⟩
  obtain rfl : ev = .nilIface := hE
  simp only [if_true]
  have HA4 := Lib.hid (HA3.out.below hB HA3.out.lt)
  have HB4 := Lib.hid (trans_below HB3.out hB)
  have HT4 := Lib.hid (HT3.out.below hB)
  clear hB a0 a1 a2 a3 a4 a5 HM HA3 HB3 HT3
  go_wp2_with fail
  refine (HR2.out w4 (HG.out.below HB4.out)).mono ?_
  rintro e w5 ⟨v, ev, rfl, hM, hE, hB5⟩
  have HE := Lib.hid hE
  obtain ⟨be, ue, rfl, _⟩ := hE
  obtain ⟨D4, d4, D5, d5, rfl, _⟩ := hM.is
  have HA5 := Lib.hid (HA4.out.below hB5 HA4.out.lt)
  have HB5 := Lib.hid (trans_below HB4.out hB5)
  have HT5 := Lib.hid (HT4.out.below hB5)
  clear hM hB5 HA4 HB4 HT4
  unfold tmV
  go_upto_region 5 with (fail)
  have hb := below_alloc (Below.refl w5.heap.size w5) (.cells #[.int .i64 t2.kd, .int .i64 t2.it, .string t2.tx, .int .u32 t2.cr, .slice D4 t2.nums.length d4, .slice D5 t2.args.length d5] 27)
  generalize w5.alloc (.cells #[.int .i64 t2.kd, .int .i64 t2.it, .string t2.tx, .int .u32 t2.cr, .slice D4 t2.nums.length d4, .slice D5 t2.args.length d5] 27) = w6 at hb ⊢
  have HA6 := Lib.hid (HA5.out.below hb HA5.out.lt)
  have HB6 := Lib.hid (trans_below HB5.out hb)
  have HT6 := Lib.hid (HT5.out.below hb)
  have HE6 := Lib.hid (HE.out.below hb)
  clear hb HA5 HB5 HT5 HE
  have HC := Lib.hid (term_Compare t tmNil (tmV t (.slice A4 t.nums.length c4) (.slice A5 t.args.length c5)) (tmV tmNil (.slice none 0 0) (.slice none 0 0)) w6 ⟨A4, c4, A5, c5, rfl, HT6.out⟩ (nil_is w6) (inT_sm HIN.out) rfl (HG.out.below HB6.out))
  rw [HF4.out] at HC
  unfold tmV at HC
  simp only [tmNil] at HC
  obtain ⟨a0, a1, a2, a3, a4, a5, _, _, _, _, _, _⟩ := HA6.out
  go_wp2_with fail
  refine HC.out.mono ?_
  rintro e w7 ⟨rfl, hB7⟩
  have HB7 := Lib.hid (trans_below HB6.out hB7)
  have HE7 := Lib.hid (HE6.out.below hB7)
  clear hB7 a0 a1 a2 a3 a4 a5 HC HA6 HT6 HE6 HB6
  go_wp2_with fail
  refine (mem_One _ _ _ _).mono ?_
  rintro e w8 ⟨v4, rfl, hL, hB8⟩
  obtain ⟨A9, c9, rfl, _, hC9⟩ := hL.reads
  have HC9 := Lib.hid hC9
  have HE8 := Lib.hid (HE7.out.below hB8)
  have HB8 := Lib.hid (trans_below HB7.out hB8)
  clear hL hC9 hB8
  go_wp2_with fail
  refine (Refused_in [⟨nTerm, 3, 41⟩] [⟨nTerm, 3, 41⟩] _ A9 c9 HE8.out (by decide) HC9.out (by decide) (HG.out.below HB8.out)).mono ?_
  rintro e w9 ⟨rfl, hB9⟩
  have HB9 := Lib.hid (trans_below HB8.out hB9)
  clear hB9
  rw [show refusedOf [⟨nTerm, 3, 41⟩] [⟨nTerm, 3, 41⟩] = true from by decide +kernel]
  go_wp2_with fail
  go_ret
  exact ⟨rfl, HB9.out⟩
end Go.Proofs.YtgapeacflkfmdaaGreatDoor
namespace Go.Proofs.YtgapeacflkfmdaaGreatDoor
open Go.RowKit Go.Proofs.YtgapeacflkfmdaaGreatDoorW.PrintWords

theorem WrAt.new (w : World) : WrAt (w.alloc (.cells #[.int .i64 0, .int .i64 0, .slice none 0 0] 78)) w.heap.size 0 0 (.slice none 0 0) := by
  constructor <;> simp
def LnPost3 (w : World) (r : Meas) (e : Ending) (w' : World) : Prop := ∃ v, e = .returned (.tuple #[.int .i64 (if r.1 = [] then r.2.1 else 0), .int .i64 (if r.1 = [] then r.2.2 else 0), v]) ∧ LnIs w' w.heap.size r.1 v ∧ Below w.heap.size w w'
set_option maxRecDepth 100000 in
set_option maxHeartbeats 2000000 in
theorem ref02_Measure (t : Tm) (A4 A5 : Option Addr) (c4 c5 : Nat) (w : World) (hR : TmR w t A4 c4 A5 c5) (hsm : smT t = true) :
    Calls Tryz.prog 16 #[tmV t (.slice A4 t.nums.length c4) (.slice A5 t.args.length c5)] w (LnPost3 w (measure t)) := by
  obtain ⟨R, hr⟩ : ∃ R, R = measure t := ⟨_, rfl⟩
  rw [← hr]
  have HQ := Lib.hid hr
  clear hr
  have hne := fun (w : World) (a : Option Addr) (n c : Nat) => run_neq_slice_nil_any (P := Tryz.prog) w 32 83 a n c 0 0 Tryz.underlying32
  have HT1 := Lib.hid (TmAt.new w t (.slice A4 t.nums.length c4) (.slice A5 t.args.length c5))
  have hB1 := below_alloc (Below.refl w.heap.size w) (.cells #[.int .i64 t.kd, .int .i64 t.it, .string t.tx, .int .u32 t.cr, .slice A4 t.nums.length c4, .slice A5 t.args.length c5] 27)
  unfold tmV
  go_enter Tryz.func16, Tryz.ntmps16
  go_upto_region 1 with (fail)
  obtain ⟨w1, hw1⟩ : ∃ W, W = w.alloc (.cells #[.int .i64 t.kd, .int .i64 t.it, .string t.tx, .int .u32 t.cr, .slice A4 t.nums.length c4, .slice A5 t.args.length c5] 27) := ⟨_, rfl⟩
  rw [← hw1] at HT1 hB1
  rw [← hw1]
  clear hw1
  have hB2 := below_alloc (Below.refl w1.heap.size w1) (.cells #[.int .i64 0, .int .i64 0, .slice none 0 0] 78)
  have hW2 := WrAt.new w1
  have hT2 := HT1.out.below hB2 HT1.out.lt
  have hsz2 : w.heap.size < w1.heap.size := HT1.out.lt
  go_upto_region 2 with (fail)
  obtain ⟨w2, hw2⟩ : ∃ W, W = w1.alloc (.cells #[.int .i64 0, .int .i64 0, .slice none 0 0] 78) := ⟨_, rfl⟩
  rw [← hw2] at hB2 hW2 hT2
  rw [← hw2]
  clear hw2
  have HB2 : Hid (Below w.heap.size w w2) := Lib.hid (trans_below hB1 hB2)
  have HW := Lib.hid (ref02_part w w1.heap.size (Nat.le_of_lt hsz2) t A4 A5 c4 c5 1 0 0 w2 hR HB2.out hW2 hsm (by decide) (by decide) (by decide) (by decide) (by decide) (by decide))
  have t0 := hT2.c0
  have t1 := hT2.c1
  have t2 := hT2.c2
  have t3 := hT2.c3
  have t4 := hT2.c4
  have t5 := hT2.c5
  have hlt2 := hW2.lt
  clear hR hsm HT1 hB1 hB2 hW2 hT2
  go_wp2_with fail
  refine HW.out.mono ?_
  rintro e w3 ⟨rfl, hG3, n, m, vb, hW3, hL3, hnm⟩
  have HB3 : Hid (Below w.heap.size w w3) := Lib.hid (HB2.out.trans (belowOf hG3 (by omega) (by omega)))
  rw [show measT t 1 0 0 = R from HQ.out.symm] at hL3 hnm
  clear HQ hG3 t0 t1 t2 t3 t4 t5 HW
  have q0 := hW3.c0
  have q1 := hW3.c1
  have q2 := hW3.c2
  have HL3 := Lib.hid (hL3.lower (base' := w.heap.size) (by omega))
  obtain ⟨l, n', m'⟩ := R
  cases l with
  | cons x r =>
    obtain ⟨g, c, rfl, _, _⟩ := hL3.headT
    clear hL3 hnm hW3
    go_wp2_with fail
    go_quiet (fail)
    go_wp2_with fail
    go_ret3
    exact ⟨_, rfl, HL3.out.below (by repeat (first | exact Below.refl _ _ | apply pw_below_drewN)), trans_below HB3.out (by repeat (first | exact Below.refl _ _ | apply pw_below_drewN))⟩
  | nil =>
    obtain rfl := hL3.2 rfl
    obtain ⟨hn9, hm9⟩ := hnm rfl
    simp only at hn9 hm9
    subst hn9 hm9
    clear hL3 hnm hW3
    go_wp2_with fail
    go_quiet (fail)
    go_wp2_with fail
    go_ret3
    exact ⟨_, rfl, LnIs.nil _ _, trans_below HB3.out (by repeat (first | exact Below.refl _ _ | apply pw_below_drewN))⟩
set_option maxRecDepth 100000 in
set_option maxHeartbeats 2000000 in
theorem ref02_Check (t : Tm) (A4 A5 : Option Addr) (c4 c5 : Nat) (w : World) (hR : TmR w t A4 c4 A5 c5) (hsm : smT t = true) :
    Calls Tryz.prog 19 #[tmV t (.slice A4 t.nums.length c4) (.slice A5 t.args.length c5)] w (LnPost w (chk t)) := by
  obtain ⟨R, hr⟩ : ∃ R, R = measure t := ⟨_, rfl⟩
  unfold chk
  rw [← hr]
  have HQ := Lib.hid hr
  clear hr
  have HT1 := Lib.hid (TmAt.new w t (.slice A4 t.nums.length c4) (.slice A5 t.args.length c5))
  have hB1 := below_alloc (Below.refl w.heap.size w) (.cells #[.int .i64 t.kd, .int .i64 t.it, .string t.tx, .int .u32 t.cr, .slice A4 t.nums.length c4, .slice A5 t.args.length c5] 27)
  unfold tmV
  go_enter Tryz.func19, Tryz.ntmps19
  go_upto_region 1 with (fail)
  obtain ⟨w1, hw1⟩ : ∃ W, W = w.alloc (.cells #[.int .i64 t.kd, .int .i64 t.it, .string t.tx, .int .u32 t.cr, .slice A4 t.nums.length c4, .slice A5 t.args.length c5] 27) := ⟨_, rfl⟩
  rw [← hw1] at HT1 hB1
  rw [← hw1]
  clear hw1
  have hB2 := below_alloc (Below.refl w1.heap.size w1) (.cells #[.int .i64 0, .int .i64 0, .slice none 0 0] 78)
  have hW2 := WrAt.new w1
  have hT2 := HT1.out.below hB2 HT1.out.lt
  have hsz2 : w.heap.size < w1.heap.size := HT1.out.lt
  go_upto_region 2 with (fail)
  obtain ⟨w2, hw2⟩ : ∃ W, W = w1.alloc (.cells #[.int .i64 0, .int .i64 0, .slice none 0 0] 78) := ⟨_, rfl⟩
  rw [← hw2] at hB2 hW2 hT2
  rw [← hw2]
  clear hw2
  have HB2 : Hid (Below w.heap.size w w2) := Lib.hid (trans_below hB1 hB2)
  have HW := Lib.hid (ref02_part w w1.heap.size (Nat.le_of_lt hsz2) t A4 A5 c4 c5 1 0 0 w2 hR HB2.out hW2 hsm (by decide) (by decide) (by decide) (by decide) (by decide) (by decide))
  have t0 := hT2.c0
  have t1 := hT2.c1
  have t2 := hT2.c2
  have t3 := hT2.c3
  have t4 := hT2.c4
  have t5 := hT2.c5
  have hlt2 := hW2.lt
  clear hR hsm HT1 hB1 hB2 hW2 hT2
  go_wp2_with fail
  refine HW.out.mono ?_
  rintro e w3 ⟨rfl, hG3, n, m, vb, hW3, hL3, hnm⟩
  have HB3 : Hid (Below w.heap.size w w3) := Lib.hid (HB2.out.trans (belowOf hG3 (by omega) (by omega)))
  rw [show measT t 1 0 0 = R from HQ.out.symm] at hL3 hnm
  clear HQ hG3 t0 t1 t2 t3 t4 t5 HW
  have q0 := hW3.c0
  have q1 := hW3.c1
  have q2 := hW3.c2
  have HL3 := Lib.hid (hL3.lower (base' := w.heap.size) (by omega))
  obtain ⟨l, n', m'⟩ := R
  cases l with
  | cons x r =>
    obtain ⟨g, c, rfl, _, _⟩ := hL3.headT
    clear hL3 hnm hW3
    go_wp2_with fail
    go_ret
    exact ⟨_, rfl, HL3.out, HB3.out⟩
  | nil =>
    obtain rfl := hL3.2 rfl
    clear hL3 hnm hW3
    go_wp2_with fail
    go_ret
    exact ⟨_, rfl, LnIs.nil _ _, HB3.out⟩
end Go.Proofs.YtgapeacflkfmdaaGreatDoor
set_option linter.unusedSimpArgs false
namespace Go.Proofs.YtgapeacflkfmdaaGreatDoor
open Go.RowKit Go.Sort Go.Proofs.YtgapeacflkfmdaaGreatDoorW.PrintWords

theorem formBad_len (t : Tm) (n : Int) : (formBad t n).length ≤ 2 := by
  have h := formPre_len t 0 n
  unfold formPre at h
  by_cases h1 : n = 4096
  · subst h1
    have hq : (quoted t.tx).2.length ≤ 1 := by
      unfold quoted
      repeat' split
      all_goals simp
    have hn : (nodeBad t.tx).length ≤ 1 := by
      unfold nodeBad
      split <;> simp
    have ho : ∀ (a : Int) (l : List Lk), l.length ≤ 1 → (overTm a l).length ≤ 2 := by
      intro a l h
      cases l with
      | nil => simp [overTm]
      | cons x r => simp [overTm] at h ⊢; omega
    unfold formBad
    repeat' split
    all_goals first | (simp; done) | exact ho _ _ hq | exact ho _ _ hn
  · rw [if_neg h1, if_neg (by omega)] at h
    exact h
theorem meas_len (t : Tm) : ∀ d n m, (measT t d n m).1.length ≤ 2 := by
  induction t using Tm.ind with
  | h t ih =>
    intro d n m
    rw [measT_eq]
    split
    · simp
    · split
      · simp
      · have h := formBad_len t n
        have hl : ∀ (l : List Tm), (∀ a ∈ l, a ∈ t.args) → ∀ d n m, (measL l d n m).1.length ≤ 2 := by
          intro l
          induction l with
          | nil => intro _ d n m; rw [measL]; simp
          | cons a l ihl =>
            intro hs d n m
            rw [measL]
            have h1 := ih a (hs a (by simp)) d n m
            match he : measT a d n m with
            | ([], n', m') => exact ihl (fun x hx => hs x (by simp [hx])) d n' m'
            | (x :: r, n', m') => rw [he] at h1; exact h1
        cases hf : formBad t n with
        | nil => exact hl t.args (fun _ h => h) _ _ _
        | cons x r => rw [hf] at h; exact h
theorem chk_len (t : Tm) : (chk t).length ≤ 2 := meas_len t 1 0 0
/-- heddlemem.Refused of an error and just its chain. -/
theorem refused_same {W : World} {l : List Lk} {v : Value} {A : Option Addr} {c : Nat} (hl : l.length ≤ 2) (h : ErrIs W l v) (hC : kLk.C W A l.length l) (hG : Glob W) :
    Calls Tryz.prog 17 #[v, .slice A l.length c] W (TruePost W) := by
  refine (Refused_in l l v A c h (by omega) hC (by omega) hG).mono ?_
  rintro e w' ⟨rfl, hB⟩
  exact ⟨by rw [show refusedOf l l = true from decide_eq_true rfl], hB⟩
set_option maxRecDepth 100000 in
set_option maxHeartbeats 4000000 in
theorem walk_TermChecks (t : Tm) (v : Value) (w : World) (hv : TmIs w t v) (hsm : smT t = true) (hG : Glob w) :
    Calls Tryz.prog 3 #[v] w (TruePost w) := by
  obtain ⟨A4, c4, A5, c5, rfl, hR⟩ := hv
  have HT1 := Lib.hid (TmAt.new w t (.slice A4 t.nums.length c4) (.slice A5 t.args.length c5))
  have hB1 := below_alloc (Below.refl w.heap.size w) (.cells #[.int .i64 t.kd, .int .i64 t.it, .string t.tx, .int .u32 t.cr, .slice A4 t.nums.length c4, .slice A5 t.args.length c5] 27)
  have HM1 := Lib.hid fun W (hW : Below w.heap.size w W) => term_Measure t A4 A5 c4 c5 W (hR.below hW) hsm (hG.below hW)
  have HM2 := Lib.hid fun W (hW : Below w.heap.size w W) => ref02_Measure t A4 A5 c4 c5 W (hR.below hW) hsm
  have HC1 := Lib.hid fun W (hW : Below w.heap.size w W) => term_Check t A4 A5 c4 c5 W (hR.below hW) hsm (hG.below hW)
  have HC2 := Lib.hid fun W (hW : Below w.heap.size w W) => ref02_Check t A4 A5 c4 c5 W (hR.below hW) hsm
  have HG := Lib.hid fun W (hW : Below w.heap.size w W) => hG.below hW
  have HL := Lib.hid (chk_len t)
  have HLM : Hid ((measure t).1.length ≤ 2) := Lib.hid (chk_len t)
  generalize measure t = M at HM1 HM2 HLM
  generalize chk t = L at HC1 HC2 HL
  clear hR hsm hG
  unfold tmV at HM1 HM2 HC1 HC2 ⊢
  go_enter Tryz.func3, Tryz.ntmps3
  go_upto_region 1 with (fail)
  generalize w.alloc (.cells #[.int .i64 t.kd, .int .i64 t.it, .string t.tx, .int .u32 t.cr, .slice A4 t.nums.length c4, .slice A5 t.args.length c5] 27) = w1 at HT1 hB1 ⊢
  have HB1 := Lib.hid hB1
  clear hB1
  have a0 := HT1.out.c0
  have a1 := HT1.out.c1
  have a2 := HT1.out.c2
  have a3 := HT1.out.c3
  have a4 := HT1.out.c4
  have a5 := HT1.out.c5
  go_wp2_with fail
  refine (HM1.out _ HB1.out).mono ?_
  rintro e w2 ⟨ve, rfl, hE, hB⟩
  have HE2 := Lib.hid hE
  have HT2 := Lib.hid (HT1.out.below hB HT1.out.lt)
  have HB2 := Lib.hid (trans_below HB1.out hB)
  clear hE hB HT1 HB1
  clear a0 a1 a2 a3 a4 a5
  generalize hi1 : (if M.1 = [] then M.2.1 else 0) = i1
  generalize hi2 : (if M.1 = [] then M.2.2 else 0) = i2
  have HI1 := Lib.hid hi1
  have HI2 := Lib.hid hi2
  clear hi1 hi2
  have a0 := HT2.out.c0
  have a1 := HT2.out.c1
  have a2 := HT2.out.c2
  have a3 := HT2.out.c3
  have a4 := HT2.out.c4
  have a5 := HT2.out.c5
  go_wp2_with fail
  refine (HM2.out _ HB2.out).mono ?_
  rintro e w3 ⟨vf, rfl, hF, hB⟩
  rw [HI1.out, HI2.out]
  obtain ⟨A9, c9, rfl, _, hC9⟩ := hF.reads
  have HC9 := Lib.hid hC9
  have HE3 := Lib.hid (HE2.out.below hB)
  have HT3 := Lib.hid (HT2.out.below hB HT2.out.lt)
  have HB3 := Lib.hid (trans_below HB2.out hB)
  clear hF hC9 hB HE2 HT2 HB2
  clear a0 a1 a2 a3 a4 a5
  have hii : (i1 == i1) = true := beq_self_eq_true _
  have hjj : (i2 == i2) = true := beq_self_eq_true _
  have a0 := HT3.out.c0
  have a1 := HT3.out.c1
  have a2 := HT3.out.c2
  have a3 := HT3.out.c3
  have a4 := HT3.out.c4
  have a5 := HT3.out.c5
  go_wp2_with fail
  have HS : Hid (∀ W, Below w3.heap.size w3 W → (Below w3.heap.size w3 W ∧ W.cell? ⟨w.heap.size, 0, none⟩ = some (.int .i64 t.kd) ∧ W.cell? ⟨w.heap.size, 1, none⟩ = some (.int .i64 t.it) ∧ W.cell? ⟨w.heap.size, 2, none⟩ = some (.string t.tx) ∧ W.cell? ⟨w.heap.size, 3, none⟩ = some (.int .u32 t.cr) ∧ W.cell? ⟨w.heap.size, 4, none⟩ = some (.slice A4 t.nums.length c4) ∧ W.cell? ⟨w.heap.size, 5, none⟩ = some (.slice A5 t.args.length c5))) := Lib.hid fun W hW => ⟨hW, (hW.cell HT3.out.lt).trans HT3.out.c0, (hW.cell HT3.out.lt).trans HT3.out.c1, (hW.cell HT3.out.lt).trans HT3.out.c2, (hW.cell HT3.out.lt).trans HT3.out.c3, (hW.cell HT3.out.lt).trans HT3.out.c4, (hW.cell HT3.out.lt).trans HT3.out.c5⟩
  go_region_held3 (fun W => Below w3.heap.size w3 W ∧ W.cell? ⟨w.heap.size, 0, none⟩ = some (.int .i64 t.kd) ∧ W.cell? ⟨w.heap.size, 1, none⟩ = some (.int .i64 t.it) ∧ W.cell? ⟨w.heap.size, 2, none⟩ = some (.string t.tx) ∧ W.cell? ⟨w.heap.size, 3, none⟩ = some (.int .u32 t.cr) ∧ W.cell? ⟨w.heap.size, 4, none⟩ = some (.slice A4 t.nums.length c4) ∧ W.cell? ⟨w.heap.size, 5, none⟩ = some (.slice A5 t.args.length c5)) ((refine HS.out _ ?_; first | assumption | exact Below.refl _ _ | exact (Below.refl _ _).drew | exact below_alloc (by assumption) _ | exact below_alloc (Below.refl _ _).drew _))
    ((first
      | (go_at_call 18; refine (HC1.out _ (trans_below HB3.out (Below.refl _ _).drew)).mono ?_; rintro e w4 ⟨vg, rfl, hE4, hB4⟩; have hB4' : Below w3.heap.size w3 w4 := trans_below (Below.refl _ _).drew hB4)
      | (go_at_call 19; refine (HC2.out _ (trans_below HB3.out (by assumption))).mono ?_; rintro e w5 ⟨vh, rfl, hE5, hB5⟩; obtain ⟨A8, c8, rfl, _, hC8⟩ := hE5.reads; have hE4' := hE4.below hB5; have hB5' : Below w3.heap.size w3 w5 := trans_below hB4' hB5)
      | (go_at_call 17; (with_reducible refine (refused_same HL.out hE4' hC8 (HG.out _ (trans_below HB3.out hB5'))).mono ?_); rintro e w6 ⟨rfl, hB6⟩; have hB6' : Below w3.heap.size w3 w6 := trans_below hB5' hB6)
      | (go_at_call 17; (with_reducible refine (refused_same HLM.out (HE3.out.below hB6') (Kd.C_below HC9.out hB6') (HG.out _ (trans_below HB3.out hB6'))).mono ?_); rintro e w7 ⟨rfl, hB7⟩; have hB7' : Below w3.heap.size w3 w7 := trans_below hB6' hB7)
      | (go_at_call 20; refine (awake_any _ (HG.out _ (trans_below HB3.out hB7'))).mono ?_; rintro e w8 ⟨rfl, hB8⟩; have hB8' : Below w3.heap.size w3 w8 := trans_below hB7' hB8)))
  go_wp2_with fail
  go_ret
  exact ⟨rfl, trans_below HB3.out hB8'⟩
end Go.Proofs.YtgapeacflkfmdaaGreatDoor
set_option linter.unusedSimpArgs false
namespace Go.Proofs.YtgapeacflkfmdaaGreatDoor
open Go.RowKit Go.Sort Go.Proofs.YtgapeacflkfmdaaGreatDoorW.PrintWords

/-- The reference's chain as a value: nil where there is no fault. -/
theorem LnIs.shape {W : World} {base : Nat} {l : List Lk} {v : Value} (h : LnIs W base l v) : (l = [] ∧ v = .slice none 0 0) ∨ (l ≠ [] ∧ ∃ (g n c : Nat), v = .slice (some ⟨g, 0, none⟩) n c) := by
  cases l with
  | nil => exact .inl ⟨rfl, h.2 rfl⟩
  | cons x r => obtain ⟨g, c, e, _⟩ := h.headT; exact .inr ⟨by simp, g, _, c, e⟩
theorem compare_ok {a b : Tm} (ha : chk a = []) (hb : chk b = []) : compareT a b = ordT a b := by
  unfold compareT
  rw [if_neg (by rw [ha, hb]; simp)]
theorem kinds_ne {a b : Tm} (ha : chk a = []) (hb : chk b = []) (h : a.kd ≠ b.kd) : compareT a b = cmpI a.kd b.kd := by
  rw [compare_ok ha hb, ordT_eq, if_pos h]
theorem kinds_len {a b : Tm} (ha : chk a = []) (hb : chk b = []) (h : a.kd = b.kd) (h5 : a.kd = 5) (hl : a.args.length ≠ b.args.length) : compareT a b = cmpI a.args.length b.args.length := by
  rw [compare_ok ha hb, ordT_eq, if_neg (by simp [h]), if_neg (by omega), if_neg (by omega), if_neg (by omega), if_pos h5]
  unfold orI
  rw [if_neg]
  intro e
  rw [cmpI_zero] at e
  omega
theorem cmpI_lt {x y : Int} (h : x < y) : cmpI x y = -1 := by unfold cmpI; rw [if_pos h]
theorem cmpI_gt {x y : Int} (h : y < x) : cmpI x y = 1 := by unfold cmpI; rw [if_neg (by omega), if_pos h]
set_option maxRecDepth 100000 in
set_option maxHeartbeats 4000000 in
theorem walk_TermKinds (a b : Tm) (v u : Value) (w : World) (hv : TmIs w a v) (hu : TmIs w b u) (hsa : smT a = true) (hsb : smT b = true) (hG : Glob w) :
    Calls Tryz.prog 4 #[v, u] w (TruePost w) := by
  have hne := fun (w : World) (a : Option Addr) (n c : Nat) => run_neq_slice_nil_any (P := Tryz.prog) w 32 83 a n c 0 0 Tryz.underlying32
  obtain ⟨A4, c4, A5, c5, rfl, hT⟩ := hv
  obtain ⟨B4, d4, B5, d5, rfl, hU⟩ := hu
  obtain ⟨w1, hw1, hTa, hTb, hB1⟩ := two_boxes w a b (.slice A4 a.nums.length c4) (.slice A5 a.args.length c5) (.slice B4 b.nums.length d4) (.slice B5 b.args.length d5)
  have HG := Lib.hid fun W (hW : Below w.heap.size w W) => hG.below hW
  have HRa := Lib.hid fun W (hW : Below w.heap.size w W) => ref02_Check a A4 A5 c4 c5 W (hT.below hW) hsa
  have HRb := Lib.hid fun W (hW : Below w.heap.size w W) => ref02_Check b B4 B5 d4 d5 W (hU.below hW) hsb
  have HC := Lib.hid fun W (hW : Below w.heap.size w W) => term_Compare a b _ _ W (TmIs.below ⟨A4, c4, A5, c5, rfl, hT⟩ hW) (TmIs.below ⟨B4, d4, B5, d5, rfl, hU⟩ hW) hsa hsb (hG.below hW)
  clear hT hU hsa hsb hG
  unfold tmV at HRa HRb HC ⊢
  go_enter Tryz.func4, Tryz.ntmps4
  go_upto_region 1 with (fail)
  rw [← hw1]
  clear hw1
  have HTa := Lib.hid hTa
  have HTb := Lib.hid hTb
  have HBW := Lib.hid hB1
  clear hTa hTb hB1
  go_wp2_with fail
  refine (awake_any _ (HG.out _ HBW.out)).mono ?_
  rintro e w2 ⟨rfl, hB⟩
  replace HTa := Lib.hid (HTa.out.below hB HTa.out.lt)
  replace HTb := Lib.hid (HTb.out.below hB HTb.out.lt)
  replace HBW := Lib.hid (trans_below HBW.out hB)
  clear hB
  have p0 := HTa.out.c0
  have p1 := HTa.out.c1
  have p2 := HTa.out.c2
  have p3 := HTa.out.c3
  have p4 := HTa.out.c4
  have p5 := HTa.out.c5
  have q0 := HTb.out.c0
  have q1 := HTb.out.c1
  have q2 := HTb.out.c2
  have q3 := HTb.out.c3
  have q4 := HTb.out.c4
  have q5 := HTb.out.c5
  go_wp2_with fail
  refine (HRa.out _ HBW.out).mono ?_
  rintro e w3 ⟨va, rfl, hL, hB⟩
  have hsh := hL.shape
  clear hL
  replace HTa := Lib.hid (HTa.out.below hB HTa.out.lt)
  replace HTb := Lib.hid (HTb.out.below hB HTb.out.lt)
  replace HBW := Lib.hid (trans_below HBW.out hB)
  clear hB
  clear p0 p1 p2 p3 p4 p5 q0 q1 q2 q3 q4 q5
  rcases hsh with ⟨ha, rfl⟩ | ⟨_, g, n, c, rfl⟩
  · have HA := Lib.hid ha
    clear ha
    have p0 := HTa.out.c0
    have p1 := HTa.out.c1
    have p2 := HTa.out.c2
    have p3 := HTa.out.c3
    have p4 := HTa.out.c4
    have p5 := HTa.out.c5
    have q0 := HTb.out.c0
    have q1 := HTb.out.c1
    have q2 := HTb.out.c2
    have q3 := HTb.out.c3
    have q4 := HTb.out.c4
    have q5 := HTb.out.c5
    go_wp2_with fail
    refine (HRb.out _ HBW.out).mono ?_
    rintro e w4 ⟨vb, rfl, hL, hB⟩
    have hsh := hL.shape
    clear hL
    replace HTa := Lib.hid (HTa.out.below hB HTa.out.lt)
    replace HTb := Lib.hid (HTb.out.below hB HTb.out.lt)
    replace HBW := Lib.hid (trans_below HBW.out hB)
    clear hB
    clear p0 p1 p2 p3 p4 p5 q0 q1 q2 q3 q4 q5
    rcases hsh with ⟨hb, rfl⟩ | ⟨_, g, n, c, rfl⟩
    · have HB := Lib.hid hb
      clear hb
      have p0 := HTa.out.c0
      have p1 := HTa.out.c1
      have p2 := HTa.out.c2
      have p3 := HTa.out.c3
      have p4 := HTa.out.c4
      have p5 := HTa.out.c5
      have q0 := HTb.out.c0
      have q1 := HTb.out.c1
      have q2 := HTb.out.c2
      have q3 := HTb.out.c3
      have q4 := HTb.out.c4
      have q5 := HTb.out.c5
      go_wp2_with fail
      refine (HC.out _ HBW.out).mono ?_
      rintro e w5 ⟨rfl, hB⟩
      replace HTa := Lib.hid (HTa.out.below hB HTa.out.lt)
      replace HTb := Lib.hid (HTb.out.below hB HTb.out.lt)
      replace HBW := Lib.hid (trans_below HBW.out hB)
      clear hB
      clear p0 p1 p2 p3 p4 p5 q0 q1 q2 q3 q4 q5
      by_cases hk : a.kd = b.kd
      · have dk : (a.kd != b.kd) = false := by simp [hk]
        by_cases h5 : a.kd = 5
        · have d5 : (a.kd == 5) = true := beq_iff_eq.2 h5
          by_cases hl : a.args.length = b.args.length
          · have dl : ((a.args.length : Int) != (b.args.length : Int)) = false := by simp [hl]
            generalize compareT a b = c
            clear hk h5 hl
            have p0 := HTa.out.c0
            have p1 := HTa.out.c1
            have p2 := HTa.out.c2
            have p3 := HTa.out.c3
            have p4 := HTa.out.c4
            have p5 := HTa.out.c5
            have q0 := HTb.out.c0
            have q1 := HTb.out.c1
            have q2 := HTb.out.c2
            have q3 := HTb.out.c3
            have q4 := HTb.out.c4
            have q5 := HTb.out.c5
            go_wp2_with fail
            go_ret
            exact ⟨rfl, HBW.out⟩
          · have dl : ((a.args.length : Int) != (b.args.length : Int)) = true := by simp; omega
            rw [kinds_len HA.out HB.out hk h5 hl]
            by_cases hlt : a.args.length < b.args.length
            · rw [cmpI_lt (by omega)]
              have dm : decide ((a.args.length : Int) < (b.args.length : Int)) = true := decide_eq_true (by omega)
              have dn : decide (a.args.length < b.args.length) = true := decide_eq_true hlt
              clear hk h5 hl hlt
              have p0 := HTa.out.c0
              have p1 := HTa.out.c1
              have p2 := HTa.out.c2
              have p3 := HTa.out.c3
              have p4 := HTa.out.c4
              have p5 := HTa.out.c5
              have q0 := HTb.out.c0
              have q1 := HTb.out.c1
              have q2 := HTb.out.c2
              have q3 := HTb.out.c3
              have q4 := HTb.out.c4
              have q5 := HTb.out.c5
              go_wp2_with fail
              go_ret
              exact ⟨rfl, HBW.out⟩
            · rw [cmpI_gt (by omega)]
              have dm : decide ((a.args.length : Int) < (b.args.length : Int)) = false := decide_eq_false (by omega)
              have dn : decide (a.args.length < b.args.length) = false := decide_eq_false hlt
              clear hk h5 hl hlt
              have p0 := HTa.out.c0
              have p1 := HTa.out.c1
              have p2 := HTa.out.c2
              have p3 := HTa.out.c3
              have p4 := HTa.out.c4
              have p5 := HTa.out.c5
              have q0 := HTb.out.c0
              have q1 := HTb.out.c1
              have q2 := HTb.out.c2
              have q3 := HTb.out.c3
              have q4 := HTb.out.c4
              have q5 := HTb.out.c5
              go_wp2_with fail
              go_ret
              exact ⟨rfl, HBW.out⟩
        · have d5 : (a.kd == 5) = false := beq_eq_false_iff_ne.2 h5
          generalize compareT a b = c
          clear hk h5
          have p0 := HTa.out.c0
          have p1 := HTa.out.c1
          have p2 := HTa.out.c2
          have p3 := HTa.out.c3
          have p4 := HTa.out.c4
          have p5 := HTa.out.c5
          have q0 := HTb.out.c0
          have q1 := HTb.out.c1
          have q2 := HTb.out.c2
          have q3 := HTb.out.c3
          have q4 := HTb.out.c4
          have q5 := HTb.out.c5
          go_wp2_with fail
          go_ret
          exact ⟨rfl, HBW.out⟩
      · have dk : (a.kd != b.kd) = true := by simp [hk]
        rw [kinds_ne HA.out HB.out hk]
        by_cases hlt : a.kd < b.kd
        · rw [cmpI_lt hlt]
          have dm : decide (a.kd < b.kd) = true := decide_eq_true hlt
          clear hk hlt
          have p0 := HTa.out.c0
          have p1 := HTa.out.c1
          have p2 := HTa.out.c2
          have p3 := HTa.out.c3
          have p4 := HTa.out.c4
          have p5 := HTa.out.c5
          have q0 := HTb.out.c0
          have q1 := HTb.out.c1
          have q2 := HTb.out.c2
          have q3 := HTb.out.c3
          have q4 := HTb.out.c4
          have q5 := HTb.out.c5
          go_wp2_with fail
          go_ret
          exact ⟨rfl, HBW.out⟩
        · rw [cmpI_gt (by omega)]
          have dm : decide (a.kd < b.kd) = false := decide_eq_false hlt
          clear hk hlt
          have p0 := HTa.out.c0
          have p1 := HTa.out.c1
          have p2 := HTa.out.c2
          have p3 := HTa.out.c3
          have p4 := HTa.out.c4
          have p5 := HTa.out.c5
          have q0 := HTb.out.c0
          have q1 := HTb.out.c1
          have q2 := HTb.out.c2
          have q3 := HTb.out.c3
          have q4 := HTb.out.c4
          have q5 := HTb.out.c5
          go_wp2_with fail
          go_ret
          exact ⟨rfl, HBW.out⟩
    · go_wp2_with fail
      go_ret
      exact ⟨rfl, HBW.out⟩
  · go_wp2_with fail
    go_ret
    exact ⟨rfl, HBW.out⟩
end Go.Proofs.YtgapeacflkfmdaaGreatDoor
