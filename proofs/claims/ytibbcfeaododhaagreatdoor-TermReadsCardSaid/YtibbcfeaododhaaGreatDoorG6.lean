/-
 term's reader: tuple. heddleref02: no, over, bare, form. heddleref02: part, Check, Measure. heddleref02's Reader: its box, small steps. heddleref02's Reader: fail, blanks, must. heddleref02's Reader: row.
-/
import Derived.Test.YtibbcfeaododhaaGreatDoorG5
import Derived.Test.YtibbcfeaododhaaGreatDoorG4
import Derived.Test.YtibbcfeaododhaaGreatDoorG2
import Derived.Test.YtibbcfeaododhaaGreatDoorKPFmx1
import Derived.Test.YtibbcfeaododhaaGreatDoorG3
set_option linter.unusedSimpArgs false
namespace Go.Proofs.YtibbcfeaododhaaGreatDoor
open Go.RowKit Go.Sort Go.Proofs.YtibbcfeaododhaaGreatDoorW.PrintWords
theorem blk_idem (s : ByteArray) : ∀ (d k : Nat), s.size - k = d → blk s (blk s k) = blk s k
 | 0, k, h => by rw [show blk s k = k from runEnd_out (by omega), show blk s k = k from runEnd_out (by omega)]
 | d + 1, k, h => by
  cases hb : isBlank (bt s (k : Int)) with
  | true => rw [show blk s k = blk s (k + 1) from (runEnd_yes (by omega) hb).symm]; exact blk_idem s d (k + 1) (by omega)
  | false => rw [show blk s k = k from runEnd_no (by omega) hb, show blk s k = k from runEnd_no (by omega) hb]
theorem blk_blk (s : ByteArray) (k : Nat) : blk s (blk s k) = blk s k := blk_idem s _ k rfl
theorem sev_blk {F : Nat → Rd} {s : ByteArray} (hF : Fwd s F) : ∀ (m k : Nat) (acc : List Tm), k ≤ s.size → s.size + 1 ≤ m + k → (sevAt F s m k acc).2.2 = [] → blk s (sevAt F s m k acc).2.1 = (sevAt F s m k acc).2.1 ∧ k < (sevAt F s m k acc).2.1 ∧ (sevAt F s m k acc).1.length + k ≤ acc.length + (sevAt F s m k acc).2.1 ∧ (sevAt F s m k acc).2.1 ≤ s.size
 | 0, k, acc, h, hm, hn => by omega
 | m + 1, k, acc, h, hm, hn => by
  by_cases he : (F k).2.2 = []
  ·have hle := hF k (F k).1 (F k).2.1 (by rw [← he])
   have hge := blk_ge s (F k).2.1
   cases hc : isAt s (blk s (F k).2.1) 44 with
   | true =>
    rw [sev_more he hc] at hn ⊢
    have hlt := isAt_lt hc
    have ih := sev_blk hF m (blk s (F k).2.1 + 1) (acc ++ [(F k).1]) (by omega) (by omega) hn
    have ih2 := ih.2.2.1
    rw [List.length_append, List.length_singleton] at ih2
    exact ⟨ih.1, by omega, by omega, ih.2.2.2⟩
   | false =>
    rw [sev_last he hc]
    exact ⟨blk_blk _ _, by simp only; omega, by simp only [List.length_append, List.length_singleton]; omega, blk_le _ _ hle.2.1⟩
  ·rw [sev_err he] at hn
   exact absurd hn he
/-- Behind its elements. -/
def tupEnd (s : ByteArray) (q : List Tm × Nat × List Lk) : Rd := if q.2.2 = [] then (if isAt s q.2.1 125 then (⟨5, 0, ⟨#[]⟩, 0, [], q.1⟩, q.2.1 + 1, []) else rdNo q.2.1 41) else (zTm, 0, q.2.2)
theorem tupleAt_eq (F : Nat → Rd) (s : ByteArray) (k : Nat) : tupleAt F s k = if isAt s (blk s k) 125 then (⟨5, 0, ⟨#[]⟩, 0, [], []⟩, blk s k + 1, []) else tupEnd s (sevAt F s (s.size + 1) (blk s k) []) := by
 unfold tupleAt tupEnd
 generalize sevAt F s (s.size + 1) (blk s k) [] = q
 obtain ⟨l, e, r⟩ := q
 split
 ·rfl
 ·cases r with
  | nil => rfl
  | cons x y => rfl
set_option maxRecDepth 100000 in
set_option maxHeartbeats 8000000 in
theorem rd_tuple (b g4 g5 : Nat) (s : ByteArray) (k0 d : Nat) (F : Nat → Rd) (hF : TermSays s b g4 g5 d F) (hFw : Fwd s F) (h0 : k0 ≤ s.size) (hm : s.size ≤ 4194304) (w : World) (hS : RdAt w b s k0 d) (hX : Boxes w b g4 g5) :
  Calls Tryz.prog 57 #[.pointer (some ⟨b, 0, none⟩), tv g4 g5] w (TermE w b s d (tupleAt F s k0)) := by
 have hG := hX.gl
 obtain ⟨R, hR⟩ : ∃ R, R = tupleAt F s k0 := ⟨_, rfl⟩
 rw [← hR]
 rw [tupleAt_eq] at hR
 have HR0 := Lib.hid hR
 have HX0 := Lib.hid hX
 have HTS := Lib.hid hF
 have HFW := Lib.hid hFw
 clear hR hX hF hFw
 obtain ⟨w1, hw1⟩ : ∃ W, W = w.alloc (.cells #[.int .i64 0, .int .i64 0, .string ⟨#[]⟩, .int .u32 0, .slice none 0 0, .slice none 0 0] 27) := ⟨_, rfl⟩
 have hF : RdF w w1 b s k0 d := by rw [hw1]; exact RdF.start hS
 have HG : Hid (GlobG w1 b) := Lib.hid (hG.step hF.rd.1)
 have HF := Lib.hid hF
 clear hS hG hF
 go_enter Tryz.func57, Tryz.ntmps57
 go_upto_region 1 with (fail)
 rw [← hw1]
 clear hw1
 have HT1 := Lib.hid (take_c b s k0 d 125 125 (by decide) h0 hm w1 HF.out.rd.2)
 go_wp2_with fail
 refine HT1.out.mono ?_
 rintro e w2 ⟨rfl, hT⟩
 have HF2 := Lib.hid (HF.out.step hT)
 clear hT HT1 HF HG
 cases hc : isAt s (blk s k0) 125 with
 | true =>
  rw [hc] at HF2
  have HR : Hid (R = (⟨5, 0, ⟨#[]⟩, 0, [], []⟩, blk s k0 + 1, [])) := Lib.hid (by rw [HR0.out, if_pos hc])
  have hlt := isAt_lt hc
  clear hc
  have a0 := HF2.out.rd.2.c0
  have a1 := HF2.out.rd.2.c1
  have f1 := HF2.out.rd.2.f1
  obtain ⟨r0, r1, r2, r3, r4, r5, g0, g1, g2, g3, g4, g5⟩ := HF2.out.tm
  simp only [zTm] at r0 r1 r2 r3 r4 r5
  go_wp2_with fail
  refine bodyPost_ret (resTm2 rfl _ _ w.heap.size ⟨5, 0, ⟨#[]⟩, 0, [], []⟩ _ _ (by rfl) (HF2.out.tm.put ⟨5, 0, ⟨#[]⟩, 0, [], []⟩ _ _)) rfl ?_
  rw [HR.out]
  exact HF2.out.done ⟨5, 0, ⟨#[]⟩, 0, [], []⟩ (TmMade.flat _ _ _ _ _ _) (show blk s k0 + 1 ≤ s.size by omega)
 | false =>
  rw [hc] at HF2
  have HR1 : Hid (R = tupEnd s (sevAt F s (s.size + 1) (blk s k0) [])) := Lib.hid (by rw [HR0.out, if_neg (by simp [hc])])
  have hkb := blk_le s k0 h0
  have HSV := Lib.hid (rd_several b g4 g5 s (blk s k0) d F HTS.out HFW.out hkb hm w2 HF2.out.rd.2 (HX0.out.step HF2.out.rd.1))
  have HSB := Lib.hid (sev_blk HFW.out (s.size + 1) (blk s k0) [] hkb (by omega))
  clear hc HR0
  generalize sevAt F s (s.size + 1) (blk s k0) [] = q at HR1 HSV HSB
  obtain ⟨l, e0, r⟩ := q
  go_wp2_with fail
  refine HSV.out.mono ?_
  rintro e w3 ⟨lv, ev, rfl, hE, hL, hL0, k', hT, hk', hk2⟩
  have HF3 := Lib.hid (HF2.out.step hT)
  have HE := Lib.hid hE
  have HZ2 : Hid (w.heap.size + 1 ≤ w2.heap.size) := Lib.hid HF2.out.tm.lt
  clear hT HSV HF2
  cases r with
  | cons x y =>
   have HR : Hid (R = (zTm, 0, x :: y)) := Lib.hid (HR1.out.trans (by simp [tupEnd]))
   obtain ⟨eb, eu, rfl, _⟩ := hE
   obtain rfl := hL0 (by simp)
   clear hL
   have a0 := HF3.out.rd.2.c0
   have a1 := HF3.out.rd.2.c1
   have f1 := HF3.out.rd.2.f1
   obtain ⟨r0, r1, r2, r3, r4, r5, g0, g1, g2, g3, g4, g5⟩ := HF3.out.tm
   simp only [zTm] at r0 r1 r2 r3 r4 r5
   go_wp2_with fail
   refine bodyPost_ret (resTm2 rfl _ _ w.heap.size zTm _ _ (by rfl) (HF3.out.tm.put zTm _ _)) rfl ?_
   rw [HR.out]
   exact HF3.out.fail HE.out (by simp) hk'
  | nil =>
   obtain rfl : ev = .nilIface := hE
   obtain rfl := hk2 rfl
   have hL := hL rfl
   obtain ⟨A5, c5, rfl⟩ := Kd.R_slice hL
   have HL := Lib.hid hL
   have HBK : Hid (blk s k' = k') := Lib.hid (HSB.out rfl).1
   clear hL hL0 hk2 HSB HE
   have HT3 := Lib.hid (take_c b s k' d 125 125 (by decide) hk' hm w3 HF3.out.rd.2)
   rw [HBK.out] at HT3
   go_wp2_with fail
   refine HT3.out.mono ?_
   rintro e w4 ⟨rfl, hT⟩
   have HF4 := Lib.hid (HF3.out.step hT)
   have HL4 := Lib.hid (R_read HL.out HF3.out.rd.2 hT.1)
   clear hT HT3 HF3 HL
   cases hc : isAt s k' 125 with
   | false =>
    rw [hc] at HF4
    have HR : Hid (R = rdNo k' 41) := Lib.hid (HR1.out.trans (by simp [tupEnd, hc]))
    clear hc
    go_wp2_with fail
    refine (rd_text b s (k') d _ HF4.out.rd.2).mono ?_
    rintro e w7 ⟨v, rfl, hE, hB⟩
    have HE := Lib.hid hE
    have HF7 := Lib.hid (HF4.out.below hB)
    clear hE hB
    have a0 := HF7.out.rd.2.c0
    have a1 := HF7.out.rd.2.c1
    have f1 := HF7.out.rd.2.f1
    obtain ⟨r0, r1, r2, r3, r4, r5, g0, g1, g2, g3, g4, g5⟩ := HF7.out.tm
    simp only [zTm] at r0 r1 r2 r3 r4 r5
    go_wp2_with fail
    refine bodyPost_ret (resTm2 rfl _ _ w.heap.size zTm _ _ (by rfl) (HF7.out.tm.put zTm _ _)) rfl ?_
    rw [HR.out]
    exact HF7.out.fail HE.out (by simp) hk'
   | true =>
    rw [hc] at HF4
    have HR : Hid (R = (⟨5, 0, ⟨#[]⟩, 0, [], l⟩, k' + 1, [])) := Lib.hid (HR1.out.trans (by simp [tupEnd, hc]))
    have hlt := isAt_lt hc
    clear hc
    have a0 := HF4.out.rd.2.c0
    have a1 := HF4.out.rd.2.c1
    have f1 := HF4.out.rd.2.f1
    obtain ⟨r0, r1, r2, r3, r4, r5, g0, g1, g2, g3, g4, g5⟩ := HF4.out.tm
    simp only [zTm] at r0 r1 r2 r3 r4 r5
    go_wp2_with fail
    refine bodyPost_ret (resTm2 rfl _ _ w.heap.size ⟨5, 0, ⟨#[]⟩, 0, [], l⟩ _ _ (by rfl) (HF4.out.tm.put ⟨5, 0, ⟨#[]⟩, 0, [], l⟩ _ _)) rfl ?_
    rw [HR.out]
    exact HF4.out.done ⟨5, 0, ⟨#[]⟩, 0, [], l⟩ ⟨_, _, rfl, Kd.R_nil _ _ _ _ _, Kd.R_lower HL4.out HZ2.out⟩ (show k' + 1 ≤ s.size by omega)
end Go.Proofs.YtibbcfeaododhaaGreatDoor
set_option linter.unusedSimpArgs false
namespace Go.Proofs.YtibbcfeaododhaaGreatDoor
open Go.RowKit Go.Proofs.YtibbcfeaododhaaGreatDoorW.PrintWords
theorem ref02_no (at_ co : Int) (w : World) : Calls Tryz.prog 31 #[.int .i64 at_, .int .i64 co] w (LnPost w [⟨nTerm, at_, co⟩]) := by
 go_enter Tryz.func31, Tryz.ntmps31
 go_wp2_with fail
 refine (mem_One _ _ _ _).mono ?_
 rintro e w1 ⟨v, rfl, hL, hB⟩
 have HL := Lib.hid hL
 have HB := Lib.hid hB
 clear hL hB
 go_wp2_with fail
 go_ret
 exact ⟨_, rfl, HL.out, HB.out⟩
theorem ref02_over (at_ : Int) (x : Lk) (r : List Lk) (base : Nat) (v : Value) (w : World) (hL : LnIs w base (x :: r) v) (hl : (x :: r).length ≤ 16) :
  Calls Tryz.prog 95 #[.int .i64 at_, v] w (LnPost w (overTm at_ (x :: r))) := by
 obtain ⟨A, c, rfl, hc, hC⟩ := hL.reads
 obtain ⟨ad, rfl, a0, a1, a2⟩ := atLk hC 0 (by decide) (by simp)
 have HO := Lib.hid (mem_Over nTerm at_ x.co (x :: r) hl (some ad) c w hC)
 have ez : ad.add 0 = ad := by simp [Addr.add]
 simp only [Int.toNat_zero, Nat.zero_mul, ez] at a0 a1 a2
 have e0 : rdLk (x :: r) 0 = x := rfl
 rw [e0] at a0 a1 a2
 have y0 : (0 : Int) < ((x :: r).length : Int) := by simp
 generalize (x :: r).length = n at y0 HO ⊢
 clear hC hL
 go_enter Tryz.func95, Tryz.ntmps95
 go_wp2_with fail
 refine HO.out.mono ?_
 rintro e w1 ⟨v, rfl, hL, hB⟩
 have HL := Lib.hid hL
 have HB := Lib.hid hB
 clear hL hB
 go_wp2_with fail
 go_ret
 exact ⟨_, rfl, HL.out, HB.out⟩
/-! ### bare -/
theorem func0_i : PFm.heddleref02_func0.f 40 ⟨#[105]⟩ = some [true, false, false, false, false] := by decide +kernel
theorem func0_s : PFm.heddleref02_func0.f 40 ⟨#[115]⟩ = some [false, true, false, false, false] := by decide +kernel
theorem func0_scn : PFm.heddleref02_func0.f 40 ⟨#[115, 99, 110]⟩ = some [false, true, true, true, false] := by decide +kernel
theorem func0_a : PFm.heddleref02_func0.f 40 ⟨#[97]⟩ = some [false, false, false, false, true] := by decide +kernel
theorem func0_0 : PFm.heddleref02_func0.f 40 ⟨#[]⟩ = some [false, false, false, false, false] := by decide +kernel
/-- Are the fields that a kind does not name zero? -/
def bareOk (t : Tm) (m0 m1 m2 m3 m4 : Bool) : Bool := (m0 || decide (t.it = 0)) && (m1 || decide (t.tx.size = 0)) && (m2 || decide (t.cr = 0)) && (m3 || decide (t.nums.length = 0)) && (m4 || decide (t.args.length = 0))
theorem bools_at {w : World} {base : Nat} {v : Value} {l : List Bool} (h : Kd.R Kd.bool 4 w base (fun _ => True) v l) (hl : 0 < l.length) : ∃ g c, v = .slice (some ⟨g, 0, none⟩) l.length c ∧ ∀ j, j < l.length → w.cell? ⟨g, j, none⟩ = some (.bool (l.getD j false)) := by
 obtain ⟨A, c, hv, hc, hC⟩ := Kd.R_reads h
 have hr := Kd.reads_of_C (d := false) hC
 obtain ⟨ad, rfl, hh⟩ := hr.2.2 hl
 obtain ⟨_, inner, ho, _⟩ := h
 rcases ho.2 with ⟨he, _⟩ | ⟨g, cap, cur, he, _⟩
 ·rw [hv] at he
  cases he
 ·rw [hv] at he
  injection he with h1 _ _
  injection h1 with h1
  subst h1
  refine ⟨g, c, hv, fun j hj => ?_⟩
  have := hh j hj
  by_cases h0 : j = 0
  ·subst h0
   simpa [Addr.add] using this
  ·simpa [Addr.add, h0] using this
set_option maxRecDepth 100000 in
set_option maxHeartbeats 4000000 in
theorem bare_i (t : Tm) (A4 A5 : Option Addr) (c4 c5 : Nat) (w : World) :
  Calls Tryz.prog 141 #[tmV t (.slice A4 t.nums.length c4) (.slice A5 t.args.length c5), .string ⟨#[105]⟩] w fun e w' => e = .returned (.bool (bareOk t true false false false false)) ∧ Below w.heap.size w w' := by
 have HT := TmAt.new w t (.slice A4 t.nums.length c4) (.slice A5 t.args.length c5)
 obtain ⟨kd, it, tx, cr, ns, us⟩ := t
 unfold tmV bareOk
 simp only at HT ⊢
 have HT := Lib.hid HT
 have HF := Lib.hid fun w => PFm.heddleref02_func0.calls 40 ⟨#[105]⟩ _ w func0_i
 go_enter Tryz.func141, Tryz.ntmps141
 go_wp2_with fail
 refine (HF.out _).mono ?_
 rintro e w1 ⟨v, rfl, hL, hB⟩
 obtain ⟨g, c, rfl, hcell⟩ := bools_at hL (by decide)
 have a0 := hcell 0 (by decide)
 have a1 := hcell 1 (by decide)
 have a2 := hcell 2 (by decide)
 have a3 := hcell 3 (by decide)
 have a4 := hcell 4 (by decide)
 simp only [List.getD_cons_zero, List.getD_cons_succ] at a0 a1 a2 a3 a4
 have hT1 := HT.out.below hB (by simp)
 have t1 := hT1.c1
 have t2 := hT1.c2
 have t3 := hT1.c3
 have t4 := hT1.c4
 have t5 := hT1.c5
 simp only at t1 t2 t3 t4 t5
 have HB := Lib.hid (trans_below (below_alloc (Below.refl _ _) _) hB)
 clear hL hB hcell hT1 HT HF
 go_wp2
 all_goals go_ret
 all_goals refine ⟨eb ?_, HB.out⟩
 all_goals simp_all [tl_nil]
 all_goals (rw [Bool.eq_iff_iff]; simp_all; done)
set_option maxRecDepth 100000 in
set_option maxHeartbeats 4000000 in
theorem bare_s (t : Tm) (A4 A5 : Option Addr) (c4 c5 : Nat) (w : World) :
  Calls Tryz.prog 141 #[tmV t (.slice A4 t.nums.length c4) (.slice A5 t.args.length c5), .string ⟨#[115]⟩] w fun e w' => e = .returned (.bool (bareOk t false true false false false)) ∧ Below w.heap.size w w' := by
 have HT := TmAt.new w t (.slice A4 t.nums.length c4) (.slice A5 t.args.length c5)
 obtain ⟨kd, it, tx, cr, ns, us⟩ := t
 unfold tmV bareOk
 simp only at HT ⊢
 have HT := Lib.hid HT
 have HF := Lib.hid fun w => PFm.heddleref02_func0.calls 40 ⟨#[115]⟩ _ w func0_s
 go_enter Tryz.func141, Tryz.ntmps141
 go_wp2_with fail
 refine (HF.out _).mono ?_
 rintro e w1 ⟨v, rfl, hL, hB⟩
 obtain ⟨g, c, rfl, hcell⟩ := bools_at hL (by decide)
 have a0 := hcell 0 (by decide)
 have a1 := hcell 1 (by decide)
 have a2 := hcell 2 (by decide)
 have a3 := hcell 3 (by decide)
 have a4 := hcell 4 (by decide)
 simp only [List.getD_cons_zero, List.getD_cons_succ] at a0 a1 a2 a3 a4
 have hT1 := HT.out.below hB (by simp)
 have t1 := hT1.c1
 have t2 := hT1.c2
 have t3 := hT1.c3
 have t4 := hT1.c4
 have t5 := hT1.c5
 simp only at t1 t2 t3 t4 t5
 have HB := Lib.hid (trans_below (below_alloc (Below.refl _ _) _) hB)
 clear hL hB hcell hT1 HT HF
 go_wp2
 all_goals go_ret
 all_goals refine ⟨eb ?_, HB.out⟩
 all_goals simp_all [tl_nil]
 all_goals (rw [Bool.eq_iff_iff]; simp_all; done)
set_option maxRecDepth 100000 in
set_option maxHeartbeats 4000000 in
theorem bare_scn (t : Tm) (A4 A5 : Option Addr) (c4 c5 : Nat) (w : World) :
  Calls Tryz.prog 141 #[tmV t (.slice A4 t.nums.length c4) (.slice A5 t.args.length c5), .string ⟨#[115, 99, 110]⟩] w fun e w' => e = .returned (.bool (bareOk t false true true true false)) ∧ Below w.heap.size w w' := by
 have HT := TmAt.new w t (.slice A4 t.nums.length c4) (.slice A5 t.args.length c5)
 obtain ⟨kd, it, tx, cr, ns, us⟩ := t
 unfold tmV bareOk
 simp only at HT ⊢
 have HT := Lib.hid HT
 have HF := Lib.hid fun w => PFm.heddleref02_func0.calls 40 ⟨#[115, 99, 110]⟩ _ w func0_scn
 go_enter Tryz.func141, Tryz.ntmps141
 go_wp2_with fail
 refine (HF.out _).mono ?_
 rintro e w1 ⟨v, rfl, hL, hB⟩
 obtain ⟨g, c, rfl, hcell⟩ := bools_at hL (by decide)
 have a0 := hcell 0 (by decide)
 have a1 := hcell 1 (by decide)
 have a2 := hcell 2 (by decide)
 have a3 := hcell 3 (by decide)
 have a4 := hcell 4 (by decide)
 simp only [List.getD_cons_zero, List.getD_cons_succ] at a0 a1 a2 a3 a4
 have hT1 := HT.out.below hB (by simp)
 have t1 := hT1.c1
 have t2 := hT1.c2
 have t3 := hT1.c3
 have t4 := hT1.c4
 have t5 := hT1.c5
 simp only at t1 t2 t3 t4 t5
 have HB := Lib.hid (trans_below (below_alloc (Below.refl _ _) _) hB)
 clear hL hB hcell hT1 HT HF
 go_wp2
 all_goals go_ret
 all_goals refine ⟨eb ?_, HB.out⟩
 all_goals simp_all [tl_nil]
 all_goals (rw [Bool.eq_iff_iff]; simp_all; done)
set_option maxRecDepth 100000 in
set_option maxHeartbeats 4000000 in
theorem bare_a (t : Tm) (A4 A5 : Option Addr) (c4 c5 : Nat) (w : World) :
  Calls Tryz.prog 141 #[tmV t (.slice A4 t.nums.length c4) (.slice A5 t.args.length c5), .string ⟨#[97]⟩] w fun e w' => e = .returned (.bool (bareOk t false false false false true)) ∧ Below w.heap.size w w' := by
 have HT := TmAt.new w t (.slice A4 t.nums.length c4) (.slice A5 t.args.length c5)
 obtain ⟨kd, it, tx, cr, ns, us⟩ := t
 unfold tmV bareOk
 simp only at HT ⊢
 have HT := Lib.hid HT
 have HF := Lib.hid fun w => PFm.heddleref02_func0.calls 40 ⟨#[97]⟩ _ w func0_a
 go_enter Tryz.func141, Tryz.ntmps141
 go_wp2_with fail
 refine (HF.out _).mono ?_
 rintro e w1 ⟨v, rfl, hL, hB⟩
 obtain ⟨g, c, rfl, hcell⟩ := bools_at hL (by decide)
 have a0 := hcell 0 (by decide)
 have a1 := hcell 1 (by decide)
 have a2 := hcell 2 (by decide)
 have a3 := hcell 3 (by decide)
 have a4 := hcell 4 (by decide)
 simp only [List.getD_cons_zero, List.getD_cons_succ] at a0 a1 a2 a3 a4
 have hT1 := HT.out.below hB (by simp)
 have t1 := hT1.c1
 have t2 := hT1.c2
 have t3 := hT1.c3
 have t4 := hT1.c4
 have t5 := hT1.c5
 simp only at t1 t2 t3 t4 t5
 have HB := Lib.hid (trans_below (below_alloc (Below.refl _ _) _) hB)
 clear hL hB hcell hT1 HT HF
 go_wp2
 all_goals go_ret
 all_goals refine ⟨eb ?_, HB.out⟩
 all_goals simp_all [tl_nil]
 all_goals (rw [Bool.eq_iff_iff]; simp_all; done)
set_option maxRecDepth 100000 in
set_option maxHeartbeats 4000000 in
theorem bare_0 (t : Tm) (A4 A5 : Option Addr) (c4 c5 : Nat) (w : World) :
  Calls Tryz.prog 141 #[tmV t (.slice A4 t.nums.length c4) (.slice A5 t.args.length c5), .string ⟨#[]⟩] w fun e w' => e = .returned (.bool (bareOk t false false false false false)) ∧ Below w.heap.size w w' := by
 have HT := TmAt.new w t (.slice A4 t.nums.length c4) (.slice A5 t.args.length c5)
 obtain ⟨kd, it, tx, cr, ns, us⟩ := t
 unfold tmV bareOk
 simp only at HT ⊢
 have HT := Lib.hid HT
 have HF := Lib.hid fun w => PFm.heddleref02_func0.calls 40 ⟨#[]⟩ _ w func0_0
 go_enter Tryz.func141, Tryz.ntmps141
 go_wp2_with fail
 refine (HF.out _).mono ?_
 rintro e w1 ⟨v, rfl, hL, hB⟩
 obtain ⟨g, c, rfl, hcell⟩ := bools_at hL (by decide)
 have a0 := hcell 0 (by decide)
 have a1 := hcell 1 (by decide)
 have a2 := hcell 2 (by decide)
 have a3 := hcell 3 (by decide)
 have a4 := hcell 4 (by decide)
 simp only [List.getD_cons_zero, List.getD_cons_succ] at a0 a1 a2 a3 a4
 have hT1 := HT.out.below hB (by simp)
 have t1 := hT1.c1
 have t2 := hT1.c2
 have t3 := hT1.c3
 have t4 := hT1.c4
 have t5 := hT1.c5
 simp only at t1 t2 t3 t4 t5
 have HB := Lib.hid (trans_below (below_alloc (Below.refl _ _) _) hB)
 clear hL hB hcell hT1 HT HF
 go_wp2
 all_goals go_ret
 all_goals refine ⟨eb ?_, HB.out⟩
 all_goals simp_all [tl_nil]
 all_goals (rw [Bool.eq_iff_iff]; simp_all; done)
theorem bare_empty (t : Tm) (m1 m23 m4 : Bool) (h : t.kd ≠ 1) : bareOk t false m1 m23 m23 m4 = emptyOk t m1 m23 m4 := by
 unfold bareOk emptyOk
 rw [decide_eq_false h]
 generalize decide (t.it = 0) = a
 generalize decide (t.tx.size = 0) = b
 generalize decide (t.cr = 0) = c
 generalize decide (t.nums.length = 0) = d
 generalize decide (t.args.length = 0) = e
 revert a b c d e m1 m23 m4
 decide
theorem bare_empty1 (t : Tm) (h : t.kd = 1) : bareOk t true false false false false = emptyOk t false false false := by
 unfold bareOk emptyOk
 rw [decide_eq_true h]
 generalize decide (t.it = 0) = a
 generalize decide (t.tx.size = 0) = b
 generalize decide (t.cr = 0) = c
 generalize decide (t.nums.length = 0) = d
 generalize decide (t.args.length = 0) = e
 revert a b c d e
 decide
set_option maxRecDepth 100000 in
set_option maxHeartbeats 8000000 in
theorem ref02_form (t : Tm) (A4 A5 : Option Addr) (c4 c5 : Nat) (w : World) (hR : TmR w t A4 c4 A5 c5) :
  Calls Tryz.prog 93 #[tmV t (.slice A4 t.nums.length c4) (.slice A5 t.args.length c5)] w fun e w' => e = .returned (.bool (shapeOk t)) ∧ Below w.heap.size w w' := by
 unfold tmV
 have HR := Lib.hid hR
 obtain ⟨S, hS⟩ : ∃ S, S = shapeOk t := ⟨_, rfl⟩
 rw [← hS]
 have hlen := hR.g5.2.1
 clear hR
 unfold shapeOk at hS
 have HT0 := Lib.hid (TmAt.new w t (.slice A4 t.nums.length c4) (.slice A5 t.args.length c5))
 have HB0 := Lib.hid (below_alloc (Below.refl w.heap.size w) (.cells #[.int .i64 t.kd, .int .i64 t.it, .string t.tx, .int .u32 t.cr, .slice A4 t.nums.length c4, .slice A5 t.args.length c5] 27))
 go_enter Tryz.func93, Tryz.ntmps93
 go_upto_block 0 with (fail)
 by_cases k1 : t.kd = 1
 ·have d1 : (t.kd == 1) = true := beq_iff_eq.2 k1
  rw [if_pos k1, ← bare_empty1 t k1] at hS
  have HQ := Lib.hid hS
  clear hS k1
  go_wp2_with fail
  refine (bare_i t A4 A5 c4 c5 _).mono ?_
  rintro e w1 ⟨rfl, hB⟩
  have HT := Lib.hid ((TmAt.new w t (.slice A4 t.nums.length c4) (.slice A5 t.args.length c5)).below hB (by simp))
  have HB := Lib.hid (trans_below (below_alloc (Below.refl _ _) _) hB)
  clear hB
  go_wp2_with fail
  go_ret
  exact ⟨eb (by rw [HQ.out]), HB.out⟩
 ·have d1 : (t.kd == 1) = false := beq_eq_false_iff_ne.2 k1
  rw [if_neg k1] at hS
  by_cases k2 : t.kd = 2
  ·have d2 : (t.kd == 2) = true := beq_iff_eq.2 k2
   rw [if_pos k2, ← bare_empty t _ _ _ k1] at hS
   have HQ := Lib.hid hS
   clear hS k1 k2
   go_wp2_with fail
   refine (bare_s t A4 A5 c4 c5 _).mono ?_
   rintro e w1 ⟨rfl, hB⟩
   have HT := Lib.hid ((TmAt.new w t (.slice A4 t.nums.length c4) (.slice A5 t.args.length c5)).below hB (by simp))
   have HB := Lib.hid (trans_below (below_alloc (Below.refl _ _) _) hB)
   clear hB
   go_wp2_with fail
   go_ret
   exact ⟨eb (by rw [HQ.out]), HB.out⟩
  ·have d2 : (t.kd == 2) = false := beq_eq_false_iff_ne.2 k2
   rw [if_neg k2] at hS
   clear k2
   by_cases k3 : t.kd = 3
   ·have d3 : (t.kd == 3) = true := beq_iff_eq.2 k3
    rw [if_pos k3] at hS
    have HQ := Lib.hid hS
    have HBE := Lib.hid (bare_empty t true true false k1)
    clear hS k1 k3
    go_wp2_with fail
    refine (bare_scn t A4 A5 c4 c5 _).mono ?_
    rintro e w1 ⟨rfl, hB⟩
    have HT := Lib.hid ((TmAt.new w t (.slice A4 t.nums.length c4) (.slice A5 t.args.length c5)).below hB (by simp))
    have HB := Lib.hid (trans_below (below_alloc (Below.refl _ _) _) hB)
    clear hB
    generalize hE : emptyOk t true true false = E at HQ HBE
    clear hE
    rw [HBE.out]
    cases E with
    | false =>
     rw [Bool.false_and] at HQ
     go_wp2_with fail
     go_ret
     exact ⟨eb (by rw [HQ.out]), HB.out⟩
    | true =>
     rw [Bool.true_and] at HQ
     have r4 := HT.out.c4
     by_cases hn : t.nums.length = 3
     ·have dn : ((t.nums.length : Int) == 3) = true := beq_iff_eq.2 (by omega)
      rw [decide_eq_true hn] at HQ
      clear hn
      go_wp2_with fail
      go_ret
      exact ⟨eb (by rw [HQ.out]), HB.out⟩
     ·have dn : ((t.nums.length : Int) == 3) = false := beq_eq_false_iff_ne.2 (by omega)
      rw [decide_eq_false hn] at HQ
      clear hn
      go_wp2_with fail
      go_ret
      exact ⟨eb (by rw [HQ.out]), HB.out⟩
   ·have d3 : (t.kd == 3) = false := beq_eq_false_iff_ne.2 k3
    rw [if_neg k3] at hS
    clear k3
    by_cases k4 : t.kd = 4
    ·have d4 : (t.kd == 4) = true := beq_iff_eq.2 k4
     rw [if_pos k4] at hS
     have HQ := Lib.hid hS
     have HBE := Lib.hid (bare_empty t true true false k1)
     clear hS k1 k4
     go_wp2_with fail
     refine (bare_scn t A4 A5 c4 c5 _).mono ?_
     rintro e w1 ⟨rfl, hB⟩
     have HT := Lib.hid ((TmAt.new w t (.slice A4 t.nums.length c4) (.slice A5 t.args.length c5)).below hB (by simp))
     have HB := Lib.hid (trans_below (below_alloc (Below.refl _ _) _) hB)
     clear hB
     generalize hE : emptyOk t true true false = E at HQ HBE
     clear hE
     rw [HBE.out]
     cases E with
     | false =>
      rw [Bool.false_and] at HQ
      go_wp2_with fail
      go_ret
      exact ⟨eb (by rw [HQ.out]), HB.out⟩
     | true =>
      rw [Bool.true_and] at HQ
      have r4 := HT.out.c4
      by_cases hn : t.nums.length = 2
      ·have dn : ((t.nums.length : Int) == 2) = true := beq_iff_eq.2 (by omega)
       rw [decide_eq_true hn] at HQ
       clear hn
       go_wp2_with fail
       go_ret
       exact ⟨eb (by rw [HQ.out]), HB.out⟩
      ·have dn : ((t.nums.length : Int) == 2) = false := beq_eq_false_iff_ne.2 (by omega)
       rw [decide_eq_false hn] at HQ
       clear hn
       go_wp2_with fail
       go_ret
       exact ⟨eb (by rw [HQ.out]), HB.out⟩
    ·have d4 : (t.kd == 4) = false := beq_eq_false_iff_ne.2 k4
     rw [if_neg k4] at hS
     clear k4
     by_cases k5 : t.kd = 5
     ·have d5 : (t.kd == 5) = true := beq_iff_eq.2 k5
      rw [if_pos k5, ← bare_empty t _ _ _ k1] at hS
      have HQ := Lib.hid hS
      clear hS k1 k5
      go_wp2_with fail
      refine (bare_a t A4 A5 c4 c5 _).mono ?_
      rintro e w1 ⟨rfl, hB⟩
      have HT := Lib.hid ((TmAt.new w t (.slice A4 t.nums.length c4) (.slice A5 t.args.length c5)).below hB (by simp))
      have HB := Lib.hid (trans_below (below_alloc (Below.refl _ _) _) hB)
      clear hB
      go_wp2_with fail
      go_ret
      exact ⟨eb (by rw [HQ.out]), HB.out⟩
     ·have d5 : (t.kd == 5) = false := beq_eq_false_iff_ne.2 k5
      rw [if_neg k5] at hS
      clear k5
      by_cases k6 : t.kd = 6
      ·have d6 : (t.kd == 6) = true := beq_iff_eq.2 k6
       rw [if_pos k6, ← bare_empty t _ _ _ k1] at hS
       have HQ := Lib.hid hS
       clear hS k1 k6
       go_wp2_with fail
       refine (bare_0 t A4 A5 c4 c5 _).mono ?_
       rintro e w1 ⟨rfl, hB⟩
       have HT := Lib.hid ((TmAt.new w t (.slice A4 t.nums.length c4) (.slice A5 t.args.length c5)).below hB (by simp))
       have HB := Lib.hid (trans_below (below_alloc (Below.refl _ _) _) hB)
       clear hB
       go_wp2_with fail
       go_ret
       exact ⟨eb (by rw [HQ.out]), HB.out⟩
      ·have d6 : (t.kd == 6) = false := beq_eq_false_iff_ne.2 k6
       rw [if_neg k6] at hS
       clear k6
       by_cases k7 : t.kd = 7
       ·have d7 : (t.kd == 7) = true := beq_iff_eq.2 k7
        rw [if_pos k7] at hS
        have HQ := Lib.hid hS
        have HBE := Lib.hid (bare_empty t false false true k1)
        clear hS k1 k7
        go_wp2_with fail
        refine (bare_a t A4 A5 c4 c5 _).mono ?_
        rintro e w1 ⟨rfl, hB⟩
        have HT := Lib.hid ((TmAt.new w t (.slice A4 t.nums.length c4) (.slice A5 t.args.length c5)).below hB (by simp))
        have HB := Lib.hid (trans_below (below_alloc (Below.refl _ _) _) hB)
        clear hB
        generalize hE : emptyOk t false false true = E at HQ HBE
        clear hE
        rw [HBE.out]
        cases E with
        | false =>
         rw [Bool.false_and, Bool.false_and] at HQ
         go_wp2_with fail
         go_ret
         exact ⟨eb (by rw [HQ.out]), HB.out⟩
        | true =>
         rw [Bool.true_and] at HQ
         have r5 := HT.out.c5
         by_cases hn : (t.args.length : Int) ≥ 2
         ·have dn : decide ((t.args.length : Int) ≥ 2) = true := decide_eq_true hn
          rw [decide_eq_true (show 2 ≤ t.args.length by omega), Bool.true_and] at HQ
          obtain ⟨ad, A4', c4', A5', c5', rfl, a0, _⟩ := atTm (HR.out.below HB.out).g5 ((t.args.length : Int) - 1) (by omega) (by omega)
          have ek : ((t.args.length : Int) - 1).toNat = t.args.length - 1 := by omega
          have hlk : (rdTm t.args ((t.args.length : Int) - 1)).kd = lastKd t := rfl
          rw [hlk] at a0
          simp only [ek] at a0
          have y0 : (0 : Int) ≤ (t.args.length : Int) - 1 := by omega
          have y1 : (t.args.length : Int) - 1 < (t.args.length : Int) := by omega
          generalize lastKd t = K at a0 HQ
          clear ek hlk
          by_cases h7 : K = 7
          ·have d8 : (K != 7) = false := by simp [h7]
           rw [decide_eq_false (by simp [h7])] at HQ
           clear h7
           go_wp2_with fail
           go_ret
           exact ⟨eb (by rw [HQ.out]), HB.out⟩
          ·have d8 : (K != 7) = true := by simp [h7]
           rw [decide_eq_true h7] at HQ
           clear h7
           go_wp2_with fail
           go_ret
           exact ⟨eb (by rw [HQ.out]), HB.out⟩
         ·have dn : decide ((t.args.length : Int) ≥ 2) = false := decide_eq_false hn
          rw [decide_eq_false (show ¬ 2 ≤ t.args.length by omega), Bool.false_and] at HQ
          go_wp2_with fail
          go_ret
          exact ⟨eb (by rw [HQ.out]), HB.out⟩
       ·have d7 : (t.kd == 7) = false := beq_eq_false_iff_ne.2 k7
        rw [if_neg k7] at hS
        have HQ := Lib.hid hS
        have HB := HB0
        clear hS k1 k7
        go_wp2_with fail
        go_ret
        exact ⟨eb (by rw [HQ.out]), HB.out⟩
end Go.Proofs.YtibbcfeaododhaaGreatDoor
namespace Go.Proofs.YtibbcfeaododhaaGreatDoor
open Go.RowKit Go.Proofs.YtibbcfeaododhaaGreatDoorW.PrintWords
theorem LnIs.headT {W : World} {base : Nat} {x : Lk} {r : List Lk} {v : Value} (h : LnIs W base (x :: r) v) :
  ∃ g c : Nat, v = .slice (some ⟨g, 0, none⟩) (r.length + 1) c ∧ base ≤ g ∧ g < W.heap.size := by
 obtain ⟨A, c, rfl, _, hC⟩ := h.reads
 obtain ⟨inner, ho⟩ := Kd.R_own h.1
 obtain ⟨g, cap, hv, hg1, hg2⟩ := ho.form (by simp)
 injection hv with hA _ _
 subst hA
 exact ⟨g, c, rfl, hg1, hg2⟩
theorem LnIs.setT {W : World} {base g : Nat} {l : List Lk} {v : Value} (h : LnIs W base l v) (hg : g < base) (o : Nat) (u : Value) : LnIs (W.setCell ⟨g, o, none⟩ u) base l v := by
 refine ⟨Kd.R_grown1 h.1 rfl (grown_set _ _ _ _) ?_, h.2⟩
 obtain ⟨inner, ho⟩ := Kd.R_own h.1
 intro he
 have := own_base ho _ he.symm
 omega
theorem grownOf {w w' : World} (h : Below w.heap.size w w') (r : Option Nat) : w.grownBy w' r := ⟨h.os, h.tape, h.output, h.size, fun k hk _ => h.block k hk⟩
theorem belowOf {w w' : World} {b n : Nat} (h : w.grownBy w' (some b)) (hn : n ≤ b) (hw : n ≤ w.heap.size) : Below n w w' := ⟨h.os, h.tape, h.output, h.size, fun k hk => h.block k (by omega) (by simp; omega)⟩
/-- The reference's walker: how many parts, how deep, the fault. -/
structure WrAt (W : World) (b : Nat) (n m : Int) (vb : Value) : Prop where
 c0 : W.cell? ⟨b, 0, none⟩ = some (.int .i64 n)
 c1 : W.cell? ⟨b, 1, none⟩ = some (.int .i64 m)
 c2 : W.cell? ⟨b, 2, none⟩ = some vb
 f0 : W.frozen? ⟨b, 0, none⟩ = false
 f1 : W.frozen? ⟨b, 1, none⟩ = false
 f2 : W.frozen? ⟨b, 2, none⟩ = false
theorem WrAt.lt {W : World} {b : Nat} {n m : Int} {vb : Value} (h : WrAt W b n m vb) : b < W.heap.size := World.block_lt_of_cell? W _ h.c0
theorem WrAt.below {W W' : World} {b k : Nat} {n m : Int} {vb : Value} (h : WrAt W b n m vb) (hb : Below k W W') (hk : b < k) : WrAt W' b n m vb :=
 ⟨(hb.cell hk).trans h.c0, (hb.cell hk).trans h.c1, (hb.cell hk).trans h.c2, (hb.frozen hk).trans h.f0, (hb.frozen hk).trans h.f1, (hb.frozen hk).trans h.f2⟩
theorem WrAt.put {W : World} {b : Nat} {n m : Int} {vb : Value} (h : WrAt W b n m vb) (n' m' : Int) : WrAt ((W.setCell ⟨b, 0, none⟩ (.int .i64 n')).setCell ⟨b, 1, none⟩ (.int .i64 m')) b n' m' vb := by
 obtain ⟨c0, c1, c2, f0, f1, f2⟩ := h
 constructor <;> simp [World.cell?_setCell_other, World.cell?_setCell_same, World.frozen?_setCell, *]
theorem WrAt.bad {W : World} {b : Nat} {n m : Int} {vb : Value} (h : WrAt W b n m vb) (v : Value) : WrAt (W.setCell ⟨b, 2, none⟩ v) b n m v := by
 obtain ⟨c0, c1, c2, f0, f1, f2⟩ := h
 constructor <;> simp [World.cell?_setCell_other, World.cell?_setCell_same, World.frozen?_setCell, *]
/-- What a part leaves. -/
def PartPost (w : World) (b : Nat) (r : Meas) (e : Ending) (w' : World) : Prop :=
 e = .returned (.tuple #[]) ∧ w.grownBy w' (some b) ∧ ∃ n m vb, WrAt w' b n m vb ∧ LnIs w' (b + 1) r.1 vb ∧ (r.1 = [] → n = r.2.1 ∧ m = r.2.2)
def formPre (t : Tm) (d n : Int) : List Lk := if n = 4096 then [⟨nTerm, n, 5⟩] else if 256 < d then [⟨nTerm, n, 9⟩] else formBad t n
theorem measT_pre (t : Tm) (d n m : Int) : measT t d n m = match formPre t d n with
  | [] => measL t.args (d + 1) (n + 1) (max m d)
  | l => (l, 0, 0) := by
 rw [measT_eq]
 unfold formPre
 split
 ·rfl
 ·split
  ·rfl
  ·rfl
theorem formPre_nil {t : Tm} {d n : Int} (h : formPre t d n = []) : n ≠ 4096 ∧ d ≤ 256 := by
 unfold formPre at h
 by_cases h1 : n = 4096
 ·rw [if_pos h1] at h
  cases h
 ·rw [if_neg h1] at h
  by_cases h2 : 256 < d
  ·rw [if_pos h2] at h
   cases h
  ·exact ⟨h1, by omega⟩
theorem formPre_len (t : Tm) (d n : Int) : (formPre t d n).length ≤ 2 := by
 have hq : (quoted t.tx).2.length ≤ 1 := by
  unfold quoted
  repeat' split
  all_goals simp
 have hn : (nodeBad t.tx).length ≤ 1 := by
  unfold nodeBad
  split <;> simp
 have ho : ∀ (a : Int) (l : List Lk), l.length ≤ 1 → (overTm a l).length ≤ 2 := by
  intro a l h
  cases l with
  | nil => simp [overTm]
  | cons x r => simp [overTm] at h ⊢; omega
 unfold formPre formBad
 repeat' split
 all_goals first | (simp; done) | exact ho _ _ hq | exact ho _ _ hn
theorem TmAt.grownR {W W' : World} {b g : Nat} {t : Tm} {v4 v5 : Value} (h : TmAt W b t v4 v5) (hg : W.grownBy W' (some g)) (hne : b ≠ g) : TmAt W' b t v4 v5 := by
 have hb : W'.heap[b]? = W.heap[b]? := hg.block b h.lt (by simpa using hne)
 have hc : ∀ o, W'.cell? ⟨b, o, none⟩ = W.cell? ⟨b, o, none⟩ := fun o => by simp [World.cell?, hb]
 have hf : ∀ o, W'.frozen? ⟨b, o, none⟩ = W.frozen? ⟨b, o, none⟩ := fun o => by simp [World.frozen?, hb]
 obtain ⟨c0, c1, c2, c3, c4, c5, f0, f1, f2, f3, f4, f5⟩ := h
 exact ⟨(hc _).trans c0, (hc _).trans c1, (hc _).trans c2, (hc _).trans c3, (hc _).trans c4, (hc _).trans c5, (hf _).trans f0, (hf _).trans f1, (hf _).trans f2, (hf _).trans f3, (hf _).trans f4, (hf _).trans f5⟩
theorem TmAt.far {W : World} {b g : Nat} {t : Tm} {v4 v5 : Value} (h : TmAt W b t v4 v5) (hne : b ≠ g) (o : Nat) (u : Value) : TmAt (W.setCell ⟨g, o, none⟩ u) b t v4 v5 := by
 obtain ⟨c0, c1, c2, c3, c4, c5, f0, f1, f2, f3, f4, f5⟩ := h
 constructor <;> simp [World.cell?_setCell_other, World.frozen?_setCell, *]
set_option maxRecDepth 100000 in
set_option maxHeartbeats 8000000 in
theorem ref02_part (w0 : World) (b : Nat) (hb0 : w0.heap.size ≤ b) (t : Tm) : ∀ (A4 A5 : Option Addr) (c4 c5 : Nat) (d n m : Int) (w : World), TmR w0 t A4 c4 A5 c5 → Below w0.heap.size w0 w → WrAt w b n m (.slice none 0 0) → smT t = true →
  0 ≤ n → n ≤ 4096 → 0 ≤ m → m ≤ 256 → 1 ≤ d → d ≤ 257 →
  Calls Tryz.prog 52 #[.pointer (some ⟨b, 0, none⟩), tmV t (.slice A4 t.nums.length c4) (.slice A5 t.args.length c5), .int .i64 d] w (PartPost w b (measT t d n m)) := by
 induction t using Tm.ind with
 | h t ih =>
  intro A4 A5 c4 c5 d n m w hR hB hW hsm hn0 hn1 hm0 hm1 hd0 hd1
  have HIH := Lib.hid ih
  have HR := Lib.hid hR
  have HB_ := Lib.hid hB
  have HSM := Lib.hid hsm
  have hr := measT_pre t d n m
  have hfl := formPre_len t d n
  generalize measT t d n m = R at hr ⊢
  obtain ⟨F, hF⟩ : ∃ F, F = formPre t d n := ⟨_, rfl⟩
  rw [← hF] at hr hfl
  have HRR := Lib.hid hr
  have HF := Lib.hid hF
  have hW1 : WrAt (w.alloc (.cells #[.int .i64 t.kd, .int .i64 t.it, .string t.tx, .int .u32 t.cr, .slice A4 t.nums.length c4, .slice A5 t.args.length c5] 27)) b n m (.slice none 0 0) := hW.below (below_alloc (Below.refl _ _) _) hW.lt
  have HT1 := Lib.hid (TmAt.new w t (.slice A4 t.nums.length c4) (.slice A5 t.args.length c5))
  have hlt1 : b < w.heap.size := hW.lt
  have HB1 := Lib.hid (below_alloc (Below.refl w.heap.size w) (.cells #[.int .i64 t.kd, .int .i64 t.it, .string t.tx, .int .u32 t.cr, .slice A4 t.nums.length c4, .slice A5 t.args.length c5] 27))
  have hne := fun (w : World) (a : Option Addr) (n c : Nat) => run_neq_slice_nil_any (P := Tryz.prog) w 32 69 a n c 0 0 Tryz.underlying32
  have heq := fun (w : World) (a : Option Addr) (n c : Nat) => Lib.run_eql_slice_nil (P := Tryz.prog) w 32 69 a n c 0 0 Tryz.underlying32
  clear ih hR hB hW hsm hr hF
  unfold tmV
  go_enter Tryz.func52, Tryz.ntmps52
  go_upto_region 1 with (fail)
  obtain ⟨w1, hw1⟩ : ∃ W, W = w.alloc (.cells #[.int .i64 t.kd, .int .i64 t.it, .string t.tx, .int .u32 t.cr, .slice A4 t.nums.length c4, .slice A5 t.args.length c5] 27) := ⟨_, rfl⟩
  rw [← hw1] at hW1 HT1 HB1
  rw [← hw1]
  clear hw1
  have hlt2 : w.heap.size < w1.heap.size := HT1.out.lt
  have HNB : Hid (w.heap.size ≠ b) := Lib.hid (by omega)
  have HNB2 : Hid (b < w.heap.size) := Lib.hid (by omega)
  have HBA : Hid (w.grownBy w1 (some b)) := Lib.hid (grownOf HB1.out _)
  have r0 := hW1.c0
  have r1 := hW1.c1
  have r2 := hW1.c2
  have g0 := hW1.f0
  have g1 := hW1.f1
  have HW1 := Lib.hid hW1
  clear hW1
  go_upto_block 0 with (fail)
  have hW3 : WrAt ((w1.setCell ⟨b, 0, none⟩ (.int .i64 (n + 1))).setCell ⟨b, 1, none⟩ (.int .i64 (max m d))) b (n + 1) (max m d) (.slice none 0 0) := HW1.out.put _ _
  have HB3 : Hid (w.grownBy ((w1.setCell ⟨b, 0, none⟩ (.int .i64 (n + 1))).setCell ⟨b, 1, none⟩ (.int .i64 (max m d))) (some b)) := Lib.hid ((HBA.out.trans (grown_set _ _ _ _)).trans (grown_set _ _ _ _))
  have hT3 : TmAt ((w1.setCell ⟨b, 0, none⟩ (.int .i64 (n + 1))).setCell ⟨b, 1, none⟩ (.int .i64 (max m d))) w.heap.size t (.slice A4 t.nums.length c4) (.slice A5 t.args.length c5) := (HT1.out.far HNB.out _ _).far HNB.out _ _
  have hsz3 : ((w1.setCell ⟨b, 0, none⟩ (.int .i64 (n + 1))).setCell ⟨b, 1, none⟩ (.int .i64 (max m d))).heap.size = w1.heap.size := by simp
  obtain ⟨w3, hw3⟩ : ∃ W, W = (w1.setCell ⟨b, 0, none⟩ (.int .i64 (n + 1))).setCell ⟨b, 1, none⟩ (.int .i64 (max m d)) := ⟨_, rfl⟩
  rw [← hw3] at hW3 HB3 hsz3 hT3
  rw [← hw3]
  clear hw3 r0 r1 r2 g0 g1
  have HW3 := Lib.hid hW3
  have HT3 := Lib.hid hT3
  have HBW : Hid (Below w0.heap.size w0 w3) := Lib.hid (HB_.out.trans (belowOf HB3.out hb0 (by omega)))
  clear hW3 hT3 HW1 HT1 HB1 HBA
  go_cut [] from 13 (fun w' => ∃ vb, WrAt w' b (n + 1) (max m d) vb ∧ LnIs w' (b + 1) F vb ∧ TmAt w' w.heap.size t (.slice A4 t.nums.length c4) (.slice A5 t.args.length c5) ∧ w.grownBy w' (some b))
  case first =>
   have hf := HF.out
   clear HF
   unfold formPre at hf
   have q2 := HW3.out.c2
   have qf := HW3.out.f2
   by_cases h1 : n = 4096
   ·have d1 : decide (n ≥ 4096) = true := decide_eq_true (by omega)
    rw [if_pos h1] at hf
    have HQ := Lib.hid hf
    clear hf h1
    go_wp2_with fail
    refine (ref02_no _ _ _).mono ?_
    rintro e w6 ⟨v6, rfl, hL, hB6⟩
    obtain ⟨Aq, cq, hvq, _, _⟩ := hL.reads
    generalize hnq : List.length _ = nq at hvq
    clear hnq
    subst hvq
    have HL := Lib.hid ((hL.lower (base' := b + 1) (by omega)).setT (g := b) (by omega) 2 (.slice Aq nq cq))
    have HW4 := Lib.hid (HW3.out.below hB6 (by omega))
    have HT4 := Lib.hid (HT3.out.below hB6 (by omega))
    have HB4 : Hid (w.grownBy (w6.setCell ⟨b, 2, none⟩ (.slice Aq nq cq)) (some b)) := Lib.hid ((HB3.out.trans (grownOf hB6 _)).trans (grown_set _ _ _ _))
    clear hL hB6 q2 qf
    have q2 := HW4.out.c2
    have qf := HW4.out.f2
    go_wp2_with fail
    go_meet
    case rel => exact ⟨_, HW4.out.bad _, by rw [HQ.out]; exact HL.out, HT4.out.far HNB.out _ _, HB4.out⟩
   ·have d1 : decide (n ≥ 4096) = false := decide_eq_false (by omega)
    rw [if_neg h1] at hf
    by_cases h2 : 256 < d
    ·have d2 : decide (d > 256) = true := decide_eq_true h2
     rw [if_pos h2] at hf
     have HQ := Lib.hid hf
     clear hf h1 h2
     go_wp2_with fail
     refine (ref02_no _ _ _).mono ?_
     rintro e w6 ⟨v6, rfl, hL, hB6⟩
     obtain ⟨Aq, cq, hvq, _, _⟩ := hL.reads
     generalize hnq : List.length _ = nq at hvq
     clear hnq
     subst hvq
     have HL := Lib.hid ((hL.lower (base' := b + 1) (by omega)).setT (g := b) (by omega) 2 (.slice Aq nq cq))
     have HW4 := Lib.hid (HW3.out.below hB6 (by omega))
     have HT4 := Lib.hid (HT3.out.below hB6 (by omega))
     have HB4 : Hid (w.grownBy (w6.setCell ⟨b, 2, none⟩ (.slice Aq nq cq)) (some b)) := Lib.hid ((HB3.out.trans (grownOf hB6 _)).trans (grown_set _ _ _ _))
     clear hL hB6 q2 qf
     have q2 := HW4.out.c2
     have qf := HW4.out.f2
     go_wp2_with fail
     go_meet
     case rel => exact ⟨_, HW4.out.bad _, by rw [HQ.out]; exact HL.out, HT4.out.far HNB.out _ _, HB4.out⟩
    ·have d2 : decide (d > 256) = false := decide_eq_false h2
     rw [if_neg h2] at hf
     have HFF := Lib.hid hf
     clear hf h1
     have t0 := HT3.out.c0
     have t1 := HT3.out.c1
     have t2 := HT3.out.c2
     have t3 := HT3.out.c3
     have t4 := HT3.out.c4
     have t5 := HT3.out.c5
     go_wp2_with fail
     refine (ref02_form t A4 A5 c4 c5 _ (HR.out.below HBW.out)).mono ?_
     rintro e w4 ⟨rfl, hB4⟩
     clear q2 qf t0 t1 t2 t3 t4 t5
     replace HW3 := Lib.hid (HW3.out.below hB4 (by omega))
     replace HT3 := Lib.hid (HT3.out.below hB4 (by omega))
     replace HB3 : Hid (w.grownBy w4 (some b)) := Lib.hid (HB3.out.trans (grownOf hB4 _))
     have hsz4 := hB4.size
     clear hB4
     have q2 := HW3.out.c2
     have qf := HW3.out.f2
     have hf := HFF.out
     unfold formBad at hf
     clear HFF
     generalize shapeOk t = S at hf ⊢
     cases S with
     | false =>
      rw [if_pos rfl] at hf
      have HQ := Lib.hid hf
      clear hf
      go_wp2_with fail
      refine (ref02_no _ _ _).mono ?_
      rintro e w6 ⟨v6, rfl, hL, hB6⟩
      obtain ⟨Aq, cq, hvq, _, _⟩ := hL.reads
      generalize hnq : List.length _ = nq at hvq
      clear hnq
      subst hvq
      have HL := Lib.hid ((hL.lower (base' := b + 1) (by omega)).setT (g := b) (by omega) 2 (.slice Aq nq cq))
      have HW4 := Lib.hid (HW3.out.below hB6 (by omega))
      have HT4 := Lib.hid (HT3.out.below hB6 (by omega))
      have HB4 : Hid (w.grownBy (w6.setCell ⟨b, 2, none⟩ (.slice Aq nq cq)) (some b)) := Lib.hid ((HB3.out.trans (grownOf hB6 _)).trans (grown_set _ _ _ _))
      clear hL hB6 q2 qf
      have q2 := HW4.out.c2
      have qf := HW4.out.f2
      go_wp2_with fail
      go_meet
      case rel => exact ⟨_, HW4.out.bad _, by rw [HQ.out]; exact HL.out, HT4.out.far HNB.out _ _, HB4.out⟩
     | true =>
      rw [if_neg (by simp)] at hf
      have t0 := HT3.out.c0
      have t1 := HT3.out.c1
      have t2 := HT3.out.c2
      by_cases k1 : t.kd = 1
      ·have e1 : (t.kd == 1) = true := beq_iff_eq.2 k1
       have e2 : (t.kd == 2) = false := beq_eq_false_iff_ne.2 (by omega)
       have e3 : (t.kd == 3) = false := beq_eq_false_iff_ne.2 (by omega)
       have e4 : (t.kd == 4) = false := beq_eq_false_iff_ne.2 (by omega)
       rw [if_pos k1] at hf
       clear k1
       by_cases hlo : t.it < -576460752303423488
       ·have f1 : decide (t.it < -576460752303423488) = true := decide_eq_true hlo
        rw [if_pos (.inl hlo)] at hf
        have HQ := Lib.hid hf
        clear hf
        go_wp2_with fail
        refine (ref02_no _ _ _).mono ?_
        rintro e w6 ⟨v6, rfl, hL, hB6⟩
        obtain ⟨Aq, cq, hvq, _, _⟩ := hL.reads
        generalize hnq : List.length _ = nq at hvq
        clear hnq
        subst hvq
        have HL := Lib.hid ((hL.lower (base' := b + 1) (by omega)).setT (g := b) (by omega) 2 (.slice Aq nq cq))
        have HW4 := Lib.hid (HW3.out.below hB6 (by omega))
        have HT4 := Lib.hid (HT3.out.below hB6 (by omega))
        have HB4 : Hid (w.grownBy (w6.setCell ⟨b, 2, none⟩ (.slice Aq nq cq)) (some b)) := Lib.hid ((HB3.out.trans (grownOf hB6 _)).trans (grown_set _ _ _ _))
        clear hL hB6 q2 qf
        have q2 := HW4.out.c2
        have qf := HW4.out.f2
        go_wp2_with fail
        go_meet
        case rel => exact ⟨_, HW4.out.bad _, by rw [HQ.out]; exact HL.out, HT4.out.far HNB.out _ _, HB4.out⟩
       ·have f1 : decide (t.it < -576460752303423488) = false := decide_eq_false hlo
        by_cases hhi : t.it > 576460752303423487
        ·have f2 : decide (t.it > 576460752303423487) = true := decide_eq_true hhi
         rw [if_pos (.inr hhi)] at hf
         have HQ := Lib.hid hf
         clear hf
         go_wp2_with fail
         refine (ref02_no _ _ _).mono ?_
         rintro e w6 ⟨v6, rfl, hL, hB6⟩
         obtain ⟨Aq, cq, hvq, _, _⟩ := hL.reads
         generalize hnq : List.length _ = nq at hvq
         clear hnq
         subst hvq
         have HL := Lib.hid ((hL.lower (base' := b + 1) (by omega)).setT (g := b) (by omega) 2 (.slice Aq nq cq))
         have HW4 := Lib.hid (HW3.out.below hB6 (by omega))
         have HT4 := Lib.hid (HT3.out.below hB6 (by omega))
         have HB4 : Hid (w.grownBy (w6.setCell ⟨b, 2, none⟩ (.slice Aq nq cq)) (some b)) := Lib.hid ((HB3.out.trans (grownOf hB6 _)).trans (grown_set _ _ _ _))
         clear hL hB6 q2 qf
         have q2 := HW4.out.c2
         have qf := HW4.out.f2
         go_wp2_with fail
         go_meet
         case rel => exact ⟨_, HW4.out.bad _, by rw [HQ.out]; exact HL.out, HT4.out.far HNB.out _ _, HB4.out⟩
        ·have f2 : decide (t.it > 576460752303423487) = false := decide_eq_false hhi
         rw [if_neg (by omega)] at hf
         have HQ := Lib.hid hf
         clear hf
         go_wp2_with fail
         go_meet
         case rel => exact ⟨_, HW3.out, by rw [HQ.out]; exact LnIs.nil _ _, HT3.out, HB3.out⟩
      ·have e1 : (t.kd == 1) = false := beq_eq_false_iff_ne.2 k1
       rw [if_neg k1] at hf
       clear k1
       by_cases k2 : t.kd = 2
       ·have e2 : (t.kd == 2) = true := beq_iff_eq.2 k2
        rw [if_pos k2] at hf
        clear k2
        go_wp2_with fail
        refine (ref01_Quote t.tx (sm_tx HSM.out) _).mono ?_
        rintro e w5 ⟨v5, rfl, hL, hB5⟩
        have hW5 := HW3.out.below hB5 (by omega)
        replace HT3 := Lib.hid (HT3.out.below hB5 (by omega))
        replace HB3 : Hid (w.grownBy w5 (some b)) := Lib.hid (HB3.out.trans (grownOf hB5 _))
        have hsz5 := hB5.size
        clear q2 qf t0 t1 t2 hB5 HW3
        have HW3 := Lib.hid hW5
        have q2 := HW3.out.c2
        have qf := HW3.out.f2
        clear hW5
        try simp only at hL
        have hfl2 := hfl
        rw [hf] at hfl2
        generalize (quoted t.tx).2 = lq at hL hf hfl2
        cases lq with
        | nil =>
         have hv := hL.2 rfl
         subst hv
         have HQ := Lib.hid hf
         clear hf hL hfl2
         have HQ : Hid (F = []) := Lib.hid HQ.out
         go_wp2_with fail
         go_meet
         case rel => exact ⟨_, HW3.out, by rw [HQ.out]; exact LnIs.nil _ _, HT3.out, HB3.out⟩
        | cons x r =>
         have HLL := Lib.hid hL
         obtain ⟨gg, cc, rfl, _, _⟩ := hL.headT
         have HQ := Lib.hid hf
         have hlr : (x :: r).length ≤ 16 := by simp only [overTm, List.length_cons] at hfl2 ⊢; omega
         have HLR := Lib.hid hlr
         clear hf hL hfl2 hlr
         go_wp2_with fail
         refine (ref02_over n x r _ _ _ HLL.out HLR.out).mono ?_
         rintro e w6 ⟨v6, rfl, hL, hB6⟩
         obtain ⟨Aq, cq, hvq, _, _⟩ := hL.reads
         generalize hnq : List.length _ = nq at hvq
         clear hnq
         subst hvq
         have HL := Lib.hid ((hL.lower (base' := b + 1) (by omega)).setT (g := b) (by omega) 2 (.slice Aq nq cq))
         have HW4 := Lib.hid (HW3.out.below hB6 (by omega))
         have HT4 := Lib.hid (HT3.out.below hB6 (by omega))
         have HB4 : Hid (w.grownBy (w6.setCell ⟨b, 2, none⟩ (.slice Aq nq cq)) (some b)) := Lib.hid ((HB3.out.trans (grownOf hB6 _)).trans (grown_set _ _ _ _))
         clear hL hB6 q2 qf
         have q2 := HW4.out.c2
         have qf := HW4.out.f2
         go_wp2_with fail
         go_meet
         case rel => exact ⟨_, HW4.out.bad _, by rw [HQ.out]; exact HL.out, HT4.out.far HNB.out _ _, HB4.out⟩
       ·have e2 : (t.kd == 2) = false := beq_eq_false_iff_ne.2 k2
        rw [if_neg k2] at hf
        clear k2
        by_cases k3 : t.kd = 3
        ·have e3 : (t.kd == 3) = true := beq_iff_eq.2 k3
         rw [if_pos (.inl k3)] at hf
         clear k3
         go_wp2_with fail
         refine (ref01_Node t.tx (sm_tx HSM.out) _).mono ?_
         rintro e w5 ⟨q1_, q2_, v5, rfl, hL, hB5⟩
         have hW5 := HW3.out.below hB5 (by omega)
         replace HT3 := Lib.hid (HT3.out.below hB5 (by omega))
         replace HB3 : Hid (w.grownBy w5 (some b)) := Lib.hid (HB3.out.trans (grownOf hB5 _))
         have hsz5 := hB5.size
         clear q2 qf t0 t1 t2 hB5 HW3
         have HW3 := Lib.hid hW5
         have q2 := HW3.out.c2
         have qf := HW3.out.f2
         clear hW5
         try simp only at hL
         have hfl2 := hfl
         rw [hf] at hfl2
         generalize (nodeBad t.tx) = lq at hL hf hfl2
         cases lq with
         | nil =>
          have hv := hL.2 rfl
          subst hv
          have HQ := Lib.hid hf
          clear hf hL hfl2
          have HQ : Hid (F = []) := Lib.hid HQ.out
          go_wp2_with fail
          go_meet
          case rel => exact ⟨_, HW3.out, by rw [HQ.out]; exact LnIs.nil _ _, HT3.out, HB3.out⟩
         | cons x r =>
          have HLL := Lib.hid hL
          obtain ⟨gg, cc, rfl, _, _⟩ := hL.headT
          have HQ := Lib.hid hf
          have hlr : (x :: r).length ≤ 16 := by simp only [overTm, List.length_cons] at hfl2 ⊢; omega
          have HLR := Lib.hid hlr
          clear hf hL hfl2 hlr
          go_wp2_with fail
          refine (ref02_over n x r _ _ _ HLL.out HLR.out).mono ?_
          rintro e w6 ⟨v6, rfl, hL, hB6⟩
          obtain ⟨Aq, cq, hvq, _, _⟩ := hL.reads
          generalize hnq : List.length _ = nq at hvq
          clear hnq
          subst hvq
          have HL := Lib.hid ((hL.lower (base' := b + 1) (by omega)).setT (g := b) (by omega) 2 (.slice Aq nq cq))
          have HW4 := Lib.hid (HW3.out.below hB6 (by omega))
          have HT4 := Lib.hid (HT3.out.below hB6 (by omega))
          have HB4 : Hid (w.grownBy (w6.setCell ⟨b, 2, none⟩ (.slice Aq nq cq)) (some b)) := Lib.hid ((HB3.out.trans (grownOf hB6 _)).trans (grown_set _ _ _ _))
          clear hL hB6 q2 qf
          have q2 := HW4.out.c2
          have qf := HW4.out.f2
          go_wp2_with fail
          go_meet
          case rel => exact ⟨_, HW4.out.bad _, by rw [HQ.out]; exact HL.out, HT4.out.far HNB.out _ _, HB4.out⟩
        ·have e3 : (t.kd == 3) = false := beq_eq_false_iff_ne.2 k3
         by_cases k4 : t.kd = 4
         ·have e4 : (t.kd == 4) = true := beq_iff_eq.2 k4
          rw [if_pos (.inr k4)] at hf
          clear k3 k4
          go_wp2_with fail
          refine (ref01_Node t.tx (sm_tx HSM.out) _).mono ?_
          rintro e w5 ⟨q1_, q2_, v5, rfl, hL, hB5⟩
          have hW5 := HW3.out.below hB5 (by omega)
          replace HT3 := Lib.hid (HT3.out.below hB5 (by omega))
          replace HB3 : Hid (w.grownBy w5 (some b)) := Lib.hid (HB3.out.trans (grownOf hB5 _))
          have hsz5 := hB5.size
          clear q2 qf t0 t1 t2 hB5 HW3
          have HW3 := Lib.hid hW5
          have q2 := HW3.out.c2
          have qf := HW3.out.f2
          clear hW5
          try simp only at hL
          have hfl2 := hfl
          rw [hf] at hfl2
          generalize (nodeBad t.tx) = lq at hL hf hfl2
          cases lq with
          | nil =>
           have hv := hL.2 rfl
           subst hv
           have HQ := Lib.hid hf
           clear hf hL hfl2
           have HQ : Hid (F = []) := Lib.hid HQ.out
           go_wp2_with fail
           go_meet
           case rel => exact ⟨_, HW3.out, by rw [HQ.out]; exact LnIs.nil _ _, HT3.out, HB3.out⟩
          | cons x r =>
           have HLL := Lib.hid hL
           obtain ⟨gg, cc, rfl, _, _⟩ := hL.headT
           have HQ := Lib.hid hf
           have hlr : (x :: r).length ≤ 16 := by simp only [overTm, List.length_cons] at hfl2 ⊢; omega
           have HLR := Lib.hid hlr
           clear hf hL hfl2 hlr
           go_wp2_with fail
           refine (ref02_over n x r _ _ _ HLL.out HLR.out).mono ?_
           rintro e w6 ⟨v6, rfl, hL, hB6⟩
           obtain ⟨Aq, cq, hvq, _, _⟩ := hL.reads
           generalize hnq : List.length _ = nq at hvq
           clear hnq
           subst hvq
           have HL := Lib.hid ((hL.lower (base' := b + 1) (by omega)).setT (g := b) (by omega) 2 (.slice Aq nq cq))
           have HW4 := Lib.hid (HW3.out.below hB6 (by omega))
           have HT4 := Lib.hid (HT3.out.below hB6 (by omega))
           have HB4 : Hid (w.grownBy (w6.setCell ⟨b, 2, none⟩ (.slice Aq nq cq)) (some b)) := Lib.hid ((HB3.out.trans (grownOf hB6 _)).trans (grown_set _ _ _ _))
           clear hL hB6 q2 qf
           have q2 := HW4.out.c2
           have qf := HW4.out.f2
           go_wp2_with fail
           go_meet
           case rel => exact ⟨_, HW4.out.bad _, by rw [HQ.out]; exact HL.out, HT4.out.far HNB.out _ _, HB4.out⟩
         ·have e4 : (t.kd == 4) = false := beq_eq_false_iff_ne.2 k4
          rw [if_neg (by omega)] at hf
          have HQ := Lib.hid hf
          clear hf k3 k4
          go_wp2_with fail
          go_meet
          case rel => exact ⟨_, HW3.out, by rw [HQ.out]; exact LnIs.nil _ _, HT3.out, HB3.out⟩
  case rest =>
   obtain ⟨vb, hW, hL, hT, hB⟩ := hcut
   clear HW3 HT3 HB3 hsz3 hfl HBW
   have HT := Lib.hid hT
   have hrr := HRR.out
   have hbwc : b < wc.heap.size := hW.lt
   have HK0 := Lib.hid HR.out.g5.2.1
   have HST : Hid ((∃ n' m', d ≤ 256 ∧ 0 ≤ n' ∧ n' ≤ 4096 ∧ 0 ≤ m' ∧ m' ≤ 256 ∧ WrAt wc b n' m' (.slice none 0 0) ∧ measL (t.args.drop 0) (d + 1) n' m' = R) ∨ (∃ n' m' g c z, WrAt wc b n' m' (.slice (some ⟨g, 0, none⟩) z c) ∧ LnIs wc (b + 1) R.1 (.slice (some ⟨g, 0, none⟩) z c) ∧ R.1 ≠ [])) := by
    refine Lib.hid ?_
    cases F with
    | nil =>
     left
     obtain rfl := hL.2 rfl
     have hpn := formPre_nil HF.out.symm
     exact ⟨n + 1, max m d, by omega, by omega, by omega, by omega, by omega, hW, hrr.symm⟩
    | cons x r =>
     right
     obtain ⟨g, c, rfl, _, _⟩ := hL.headT
     rw [hrr]
     exact ⟨_, _, g, c, _, hW, hL, by simp⟩
   have HB := Lib.hid hB
   clear hT hW hL hB hrr HRR HF
   go_wp2_with fail
   go_loopg [12] t.args.length (fun gk vi wl => ∃ (k : Nat), vi = .int .i64 (k : Int) ∧ gk = t.args.length - k ∧ k ≤ t.args.length ∧ Hid (TmAt wl w.heap.size t (.slice A4 t.nums.length c4) (.slice A5 t.args.length c5)) ∧ Hid (w.grownBy wl (some b)) ∧ b < wl.heap.size ∧
    Hid ((∃ n' m', d ≤ 256 ∧ 0 ≤ n' ∧ n' ≤ 4096 ∧ 0 ≤ m' ∧ m' ≤ 256 ∧ WrAt wl b n' m' (.slice none 0 0) ∧ measL (t.args.drop k) (d + 1) n' m' = R) ∨ (∃ n' m' g c z, WrAt wl b n' m' (.slice (some ⟨g, 0, none⟩) z c) ∧ LnIs wl (b + 1) R.1 (.slice (some ⟨g, 0, none⟩) z c) ∧ R.1 ≠ [])))
   case atStart => exact ⟨0, rfl, rfl, Nat.zero_le _, HT, HB, hbwc, HST⟩
   case round =>
    clear HST HT HB hbwc
    obtain ⟨k, rfl, hgk, hk, HT, HB, hbl, HST⟩ := hrel
    have HK := Lib.hid hgk
    have hk0 := HK0.out
    clear hgk
    have t5 := HT.out.c5
    rcases HST.out with ⟨n', m', hd9, a0, a1, a2, a3, hW, hs⟩ | ⟨n', m', g, c, z, hW, hL, hne1⟩
    ·have q2 := hW.c2
     have HW := Lib.hid hW
     have HSS := Lib.hid hs
     clear hW hs HST
     by_cases hlt : k < t.args.length
     ·have HBWl : Hid (Below w0.heap.size w0 wr) := Lib.hid (HB_.out.trans (belowOf HB.out hb0 (by omega)))
      obtain ⟨ad, A4', c4', A5', c5', hA, q0, q1, q2', q3, q4, q5, hTR⟩ := atTm HR.out.g5 (k : Int) (by omega) (by omega)
      subst hA
      simp only [Int.toNat_natCast] at q0 q1 q2' q3 q4 q5
      replace q0 := (HBWl.out.cell (World.block_lt_of_cell? w0 _ q0)).trans q0
      replace q1 := (HBWl.out.cell (World.block_lt_of_cell? w0 _ q1)).trans q1
      replace q2' := (HBWl.out.cell (World.block_lt_of_cell? w0 _ q2')).trans q2'
      replace q3 := (HBWl.out.cell (World.block_lt_of_cell? w0 _ q3)).trans q3
      replace q4 := (HBWl.out.cell (World.block_lt_of_cell? w0 _ q4)).trans q4
      replace q5 := (HBWl.out.cell (World.block_lt_of_cell? w0 _ q5)).trans q5
      obtain ⟨hge, hmem⟩ := rdTm_mem hlt
      have hs := HSS.out
      rw [List.drop_eq_getElem_cons hlt, measL, ← hge] at hs
      generalize rdTm t.args (k : Int) = a at q0 q1 q2' q3 q4 q5 hTR hs hmem
      have HTR := Lib.hid hTR
      have HS2 := Lib.hid hs
      have HMEM := Lib.hid hmem
      have y0 : (0 : Int) ≤ (k : Int) := by omega
      have y1 : (k : Int) < (t.args.length : Int) := by omega
      clear hTR hs hmem hge HSS
      go_wp2_with fail
      refine (HIH.out a HMEM.out A4' A5' c4' c5' (d + 1) n' m' _ HTR.out HBWl.out HW.out (smL_mem (sm_args HSM.out) HMEM.out) a0 a1 a2 a3 (by omega) (by omega)).mono ?_
      rintro e w5 ⟨rfl, hB5, n5, m5, vb5, hW5, hL5, hnm⟩
      have HB5 : Hid (w.grownBy w5 (some b)) := Lib.hid (HB.out.trans hB5)
      have HT5 := Lib.hid (HT.out.grownR hB5 HNB.out)
      have hs := HS2.out
      clear hB5 q0 q1 q2' q3 q4 q5 q2 t5
      have hrg := meas_range a (d + 1) n' m' a0 a1 a2 a3 (by omega)
      generalize measT a (d + 1) n' m' = ra at hL5 hnm hs hrg
      obtain ⟨la, na, ma⟩ := ra
      have hb5 := hW5.lt
      cases la with
      | cons x r =>
       obtain ⟨g, c, rfl, _, _⟩ := hL5.headT
       have HSN : Hid ((∃ n' m', d ≤ 256 ∧ 0 ≤ n' ∧ n' ≤ 4096 ∧ 0 ≤ m' ∧ m' ≤ 256 ∧ WrAt w5 b n' m' (.slice none 0 0) ∧ measL (t.args.drop (k + 1)) (d + 1) n' m' = R) ∨ (∃ n' m' g c z, WrAt w5 b n' m' (.slice (some ⟨g, 0, none⟩) z c) ∧ LnIs w5 (b + 1) R.1 (.slice (some ⟨g, 0, none⟩) z c) ∧ R.1 ≠ [])) :=
        Lib.hid (.inr ⟨n5, m5, g, c, _, hW5, by rw [← hs]; exact hL5, by rw [← hs]; simp⟩)
       clear hs hW5 hL5 hnm hrg HS2
       go_wp2_with fail
       go_roundg (t.args.length - (k + 1))
       case measure => rw [HK.out]; omega
       case rel => exact ⟨k + 1, by go_num, rfl, by omega, HT5, HB5, hb5, HSN⟩
      | nil =>
       obtain rfl := hL5.2 rfl
       obtain ⟨rfl, rfl⟩ := hnm rfl
       have hg9 := hrg rfl
       have HSN : Hid ((∃ n' m', d ≤ 256 ∧ 0 ≤ n' ∧ n' ≤ 4096 ∧ 0 ≤ m' ∧ m' ≤ 256 ∧ WrAt w5 b n' m' (.slice none 0 0) ∧ measL (t.args.drop (k + 1)) (d + 1) n' m' = R) ∨ (∃ n' m' g c z, WrAt w5 b n' m' (.slice (some ⟨g, 0, none⟩) z c) ∧ LnIs w5 (b + 1) R.1 (.slice (some ⟨g, 0, none⟩) z c) ∧ R.1 ≠ [])) :=
        Lib.hid (.inl ⟨n5, m5, hd9, hg9.1, hg9.2.1, hg9.2.2.1, hg9.2.2.2, hW5, hs⟩)
       clear hs hW5 hL5 hnm hrg hg9 HS2
       go_wp2_with fail
       go_roundg (t.args.length - (k + 1))
       case measure => rw [HK.out]; omega
       case rel => exact ⟨k + 1, by go_num, rfl, by omega, HT5, HB5, hb5, HSN⟩
     ·have hs := HSS.out
      rw [List.drop_eq_nil_of_le (by omega), measL] at hs
      have HQ := Lib.hid hs.symm
      have d0 : decide (k < t.args.length) = false := decide_eq_false hlt
      clear hs HSS
      go_wp2_with fail
      go_end0
      exact ⟨rfl, HB.out, n', m', _, HW.out, by rw [HQ.out]; exact LnIs.nil _ _, fun _ => by rw [HQ.out]; exact ⟨rfl, rfl⟩⟩
    ·have q2 := hW.c2
     have HFIN : Hid (PartPost w b R (.returned (.tuple #[])) wr) := Lib.hid ⟨rfl, HB.out, n', m', _, hW, hL, fun h => absurd h hne1⟩
     clear hW hL hne1 HST
     by_cases hlt : k < t.args.length
     ·go_wp2_with fail
      go_end0
      exact HFIN.out
     ·have d0 : decide (k < t.args.length) = false := decide_eq_false hlt
      go_wp2_with fail
      go_end0
      exact HFIN.out
end Go.Proofs.YtibbcfeaododhaaGreatDoor
set_option linter.unusedSimpArgs false
namespace Go.Proofs.YtibbcfeaododhaaGreatDoor
open Go.RowKit Go.Sort Go.Proofs.YtibbcfeaododhaaGreatDoorW.PrintWords
abbrev tyRf : Nat := 64
/-- A reader in block b: its text, its place, how many terms are begun, its fault. -/
structure RfAt (W : World) (b : Nat) (s : ByteArray) (k d : Nat) (v : Value) : Prop where
 h : W.heap[b]? = some (.cells #[.string s, .int .i64 (k : Int), .int .i64 (d : Int), v] tyRf (0, 0))
theorem RfAt.c0 {W : World} {b : Nat} {s : ByteArray} {k d : Nat} {v : Value} (h : RfAt W b s k d v) : W.cell? ⟨b, 0, none⟩ = some (.string s) := by simp [World.cell?, h.h]
theorem RfAt.c1 {W : World} {b : Nat} {s : ByteArray} {k d : Nat} {v : Value} (h : RfAt W b s k d v) : W.cell? ⟨b, 1, none⟩ = some (.int .i64 (k : Int)) := by simp [World.cell?, h.h]
theorem RfAt.c2 {W : World} {b : Nat} {s : ByteArray} {k d : Nat} {v : Value} (h : RfAt W b s k d v) : W.cell? ⟨b, 2, none⟩ = some (.int .i64 (d : Int)) := by simp [World.cell?, h.h]
theorem RfAt.c3 {W : World} {b : Nat} {s : ByteArray} {k d : Nat} {v : Value} (h : RfAt W b s k d v) : W.cell? ⟨b, 3, none⟩ = some v := by simp [World.cell?, h.h]
theorem RfAt.f1 {W : World} {b : Nat} {s : ByteArray} {k d : Nat} {v : Value} (h : RfAt W b s k d v) : W.frozen? ⟨b, 1, none⟩ = false := by simp [World.frozen?, h.h]
theorem RfAt.f2 {W : World} {b : Nat} {s : ByteArray} {k d : Nat} {v : Value} (h : RfAt W b s k d v) : W.frozen? ⟨b, 2, none⟩ = false := by simp [World.frozen?, h.h]
theorem RfAt.f3 {W : World} {b : Nat} {s : ByteArray} {k d : Nat} {v : Value} (h : RfAt W b s k d v) : W.frozen? ⟨b, 3, none⟩ = false := by simp [World.frozen?, h.h]
theorem RfAt.lt {W : World} {b : Nat} {s : ByteArray} {k d : Nat} {v : Value} (h : RfAt W b s k d v) : b < W.heap.size := World.block_lt_of_cell? W _ h.c0
theorem RfAt.below {W W' : World} {b : Nat} {s : ByteArray} {k d : Nat} {v : Value} (h : RfAt W b s k d v) (hb : Below W.heap.size W W') : RfAt W' b s k d v := ⟨(hb.block b h.lt).trans h.h⟩
theorem RfAt.drewN {W : World} {b : Nat} {s : ByteArray} {k d : Nat} {v : Value} (h : RfAt W b s k d v) (n : Nat) : RfAt (W.drewN n) b s k d v := ⟨h.h⟩
theorem RfAt.set1 {W : World} {b : Nat} {s : ByteArray} {k d : Nat} {v : Value} (h : RfAt W b s k d v) (j : Int) (n : Nat) (hj : j = (n : Int)) : RfAt (W.setCell ⟨b, 1, none⟩ (.int .i64 j)) b s n d v := by
 subst hj
 refine ⟨?_⟩
 have hl := h.lt
 have e := h.h
 simp only [World.setCell]
 rw [Array.getElem?_modify]
 simp [e]
theorem RfAt.set2 {W : World} {b : Nat} {s : ByteArray} {k d : Nat} {v : Value} (h : RfAt W b s k d v) (j : Int) (n : Nat) (hj : j = (n : Int)) : RfAt (W.setCell ⟨b, 2, none⟩ (.int .i64 j)) b s k n v := by
 subst hj
 refine ⟨?_⟩
 have hl := h.lt
 have e := h.h
 simp only [World.setCell]
 rw [Array.getElem?_modify]
 simp [e]
theorem RfAt.set3 {W : World} {b : Nat} {s : ByteArray} {k d : Nat} {v : Value} (h : RfAt W b s k d v) (u : Value) : RfAt (W.setCell ⟨b, 3, none⟩ u) b s k d u := by
 refine ⟨?_⟩
 have hl := h.lt
 have e := h.h
 simp only [World.setCell]
 rw [Array.getElem?_modify]
 simp [e]
/-- The reader in block b stands at k now; besides, only new blocks. -/
def RfTo (W : World) (b : Nat) (s : ByteArray) (k d : Nat) (v : Value) (W' : World) : Prop := W.grownBy W' (some b) ∧ RfAt W' b s k d v
theorem RfTo.refl {W : World} {b : Nat} {s : ByteArray} {k d : Nat} {v : Value} (h : RfAt W b s k d v) : RfTo W b s k d v W := ⟨World.grownBy.refl _ _, h⟩
theorem RfTo.trans {W W1 W2 : World} {b : Nat} {s : ByteArray} {k d k2 d2 : Nat} {v v2 : Value} (h : RfTo W b s k d v W1) (h2 : RfTo W1 b s k2 d2 v2 W2) : RfTo W b s k2 d2 v2 W2 := ⟨h.1.trans h2.1, h2.2⟩
theorem RfTo.below {W W1 W2 : World} {b : Nat} {s : ByteArray} {k d : Nat} {v : Value} (h : RfTo W b s k d v W1) (h2 : Below W1.heap.size W1 W2) : RfTo W b s k d v W2 := ⟨h.1.trans (grown_of_below h2 _), h.2.below h2⟩
theorem RfTo.drewN {W W1 : World} {b : Nat} {s : ByteArray} {k d : Nat} {v : Value} (h : RfTo W b s k d v W1) (n : Nat) : RfTo W b s k d v (W1.drewN n) := ⟨h.1.trans (grown_drewN _ _ _), h.2.drewN n⟩
theorem RfTo.set1 {W W1 : World} {b : Nat} {s : ByteArray} {k d : Nat} {v : Value} (h : RfTo W b s k d v W1) (j : Int) (n : Nat) (hj : j = (n : Int)) : RfTo W b s n d v (W1.setCell ⟨b, 1, none⟩ (.int .i64 j)) := ⟨h.1.trans (grown_set _ _ _ _), h.2.set1 j n hj⟩
theorem RfTo.set2 {W W1 : World} {b : Nat} {s : ByteArray} {k d : Nat} {v : Value} (h : RfTo W b s k d v W1) (j : Int) (n : Nat) (hj : j = (n : Int)) : RfTo W b s k n v (W1.setCell ⟨b, 2, none⟩ (.int .i64 j)) := ⟨h.1.trans (grown_set _ _ _ _), h.2.set2 j n hj⟩
theorem RfTo.set3 {W W1 : World} {b : Nat} {s : ByteArray} {k d : Nat} {v : Value} (h : RfTo W b s k d v W1) (u : Value) : RfTo W b s k d u (W1.setCell ⟨b, 3, none⟩ u) := ⟨h.1.trans (grown_set _ _ _ _), h.2.set3 u⟩
theorem RfTo.below' {W W1 W2 : World} {b : Nat} {s : ByteArray} {k d n : Nat} {v : Value} (h : RfTo W b s k d v W1) (h2 : Below n W1 W2) (hn : W.heap.size ≤ n) (hb : b < n) : RfTo W b s k d v W2 := by
 refine ⟨⟨?_, ?_, ?_, Nat.le_trans h.1.size h2.size, fun i hi hne => (h2.block i (by omega)).trans (h.1.block i hi hne)⟩, ⟨(h2.block b hb).trans h.2.h⟩⟩
 ·first | exact h2.os.trans h.1.os | exact h.1.os.trans h2.os
 ·first | exact h2.tape.trans h.1.tape | exact h.1.tape.trans h2.tape
 ·first | exact h2.output.trans h.1.output | exact h.1.output.trans h2.output
theorem LnIs.grownR {W W' : World} {base b : Nat} {l : List Lk} {v u : Value} {s : ByteArray} {k d : Nat} (h : LnIs W base l v) (hr : RfAt W b s k d u) (hg : W.grownBy W' (some b)) : LnIs W' base l v :=
 ⟨Kd.R_mono (Kd.R_grown (Kd.R_types h.1 hr.h (by decide)) hg (fun k hk => by simpa using hk.2)) (fun _ _ => trivial), h.2⟩
theorem TmMade.grownR {W W' : World} {base b : Nat} {t : Tm} {v u : Value} {s : ByteArray} {k d : Nat} (h : TmMade W base t v) (hr : RfAt W b s k d u) (hg : W.grownBy W' (some b)) : TmMade W' base t v := by
 obtain ⟨v4, v5, e, h4, h5⟩ := h
 exact ⟨v4, v5, e, Kd.R_mono (Kd.R_grown (Kd.R_types h4 hr.h (by decide)) hg (fun k hk => by simpa using hk.2)) (fun _ _ => trivial), Kd.R_mono (Kd.R_grown (Kd.R_types h5 hr.h (by decide)) hg (fun k hk => by simpa using hk.2)) (fun _ _ => trivial)⟩
theorem R_readR {W W' : World} {base b : Nat} {l : List Tm} {v u : Value} {s : ByteArray} {k d : Nat} (h : kTm.R tyTm W base (fun _ => True) v l) (hr : RfAt W b s k d u) (hg : W.grownBy W' (some b)) : kTm.R tyTm W' base (fun _ => True) v l :=
 Kd.R_mono (Kd.R_grown (Kd.R_types h hr.h (by decide)) hg (fun k hk => by simpa using hk.2)) (fun _ _ => trivial)
/-- What a step of the reader leaves: it stands at e, or its fault is the chain l. -/
def RfOut (w : World) (b : Nat) (s : ByteArray) (d : Nat) (e : Nat) (l : List Lk) (w' : World) : Prop :=
 ∃ (k : Nat) (v : Value), RfTo w b s k d v w' ∧ k ≤ s.size ∧ LnIs w' (b + 1) l v ∧ (l = [] → k = e)
theorem RfOut.ok {w w' : World} {b : Nat} {s : ByteArray} {d k : Nat} (h : RfTo w b s k d (.slice none 0 0) w') (hk : k ≤ s.size) : RfOut w b s d k [] w' := ⟨k, _, h, hk, LnIs.nil _ _, fun _ => rfl⟩
theorem RfOut.bad {w w' : World} {b : Nat} {s : ByteArray} {d k e : Nat} {l : List Lk} {v : Value} (h : RfTo w b s k d v w') (hk : k ≤ s.size) (hl : LnIs w' (b + 1) l v) (hn : l ≠ []) : RfOut w b s d e l w' := ⟨k, v, h, hk, hl, fun e => absurd e hn⟩
theorem RfOut.from {w w1 w' : World} {b : Nat} {s : ByteArray} {d k d1 e : Nat} {l : List Lk} {v : Value} (h1 : RfTo w b s k d1 v w1) (h : RfOut w1 b s d e l w') : RfOut w b s d e l w' := by
 obtain ⟨k2, v2, h2, a, c, f⟩ := h
 exact ⟨k2, v2, h1.trans h2, a, c, f⟩
/-- The byte that stands here; 0: the end. -/
def byAt (s : ByteArray) (k : Nat) : Int := if k < s.size then bt s (k : Int) else 0
def DrawPost (w : World) (v : Value) (e : Ending) (w' : World) : Prop := e = .returned v ∧ ∃ n, w' = w.drewN n
set_option maxRecDepth 100000 in
theorem rf_byte (b : Nat) (s : ByteArray) (k d : Nat) (v : Value) (hk : k ≤ s.size) (_hm : s.size ≤ 4194304) (w : World) (hS : RfAt w b s k d v) :
  Calls Tryz.prog 105 #[.pointer (some ⟨b, 0, none⟩)] w (DrawPost w (.int .u8 (byAt s k))) := by
 have a0 := hS.c0
 have a1 := hS.c1
 have e1 : (0 : Int) ≤ (k : Int) := by omega
 clear hS
 by_cases h : k < s.size
 ·have HV : Hid (byAt s k = bt s (k : Int)) := Lib.hid (by unfold byAt; rw [if_pos h])
  have e2 : (k : Int) < (s.size : Int) := by omega
  have hb := btk s k
  go_enter Tryz.func105, Tryz.ntmps105
  go_wp2_with fail
  go_quiet (fail)
  go_wp2_with fail
  go_quiet (fail)
  go_wp2_with fail
  go_ret
  rw [HV.out]
  exact ⟨rfl, _, World.drewN_drewN _ _ _⟩
 ·have HV : Hid (byAt s k = 0) := Lib.hid (by unfold byAt; rw [if_neg h])
  have e2 : decide ((k : Int) < (s.size : Int)) = false := decide_eq_false (by omega)
  go_enter Tryz.func105, Tryz.ntmps105
  go_wp2_with fail
  go_quiet (fail)
  go_wp2_with fail
  go_ret
  rw [HV.out]
  exact ⟨rfl, _, rfl⟩
theorem byAt_beg {s : ByteArray} {k : Nat} : begAtom s k = ((decide (97 ≤ byAt s k) && decide (byAt s k ≤ 122)) || (byAt s k == 39)) := by
 unfold begAtom byAt isSmall
 by_cases h : k < s.size
 ·rw [if_pos h, Bool.eq_iff_iff]
  simp [h]
  omega
 ·rw [if_neg h, Bool.eq_iff_iff]
  simp [h]
set_option maxRecDepth 100000 in
theorem rf_begins (b : Nat) (s : ByteArray) (k d : Nat) (v : Value) (hk : k ≤ s.size) (hm : s.size ≤ 4194304) (w : World) (hS : RfAt w b s k d v) :
  Calls Tryz.prog 107 #[.pointer (some ⟨b, 0, none⟩)] w (DrawPost w (.bool (begAtom s k))) := by
 have HB := Lib.hid (rf_byte b s k d v hk hm w hS)
 have HE := Lib.hid (byAt_beg (s := s) (k := k))
 generalize byAt s k = c at HB HE
 clear hS
 go_enter Tryz.func107, Tryz.ntmps107
 go_wp2_with fail
 refine HB.out.mono ?_
 rintro e w' ⟨rfl, n, rfl⟩
 clear HB
 by_cases h1 : 97 ≤ c
 ·have d1 : decide (c ≥ 97) = true := decide_eq_true h1
  by_cases h2 : c ≤ 122
  ·go_wp2_with fail
   go_ret
   exact ⟨by rw [HE.out]; simp [h1, h2], _, rfl⟩
  ·have d2 : decide (c ≤ 122) = false := decide_eq_false h2
   go_wp2_with fail
   go_ret
   exact ⟨by rw [HE.out, show decide (c ≤ 122) = false from d2, Bool.and_false, Bool.false_or]; rfl, _, rfl⟩
 ·have d1 : decide (c ≥ 97) = false := decide_eq_false h1
  go_wp2_with fail
  go_ret
  exact ⟨by rw [HE.out, show decide (97 ≤ c) = false from d1, Bool.false_and, Bool.false_or]; rfl, _, rfl⟩
/-- A walk of a reader's function that hands back a term: its result's box, the reader. -/
structure RfF (w W : World) (b : Nat) (s : ByteArray) (k d : Nat) (v : Value) : Prop where
 rd : RfTo w b s k d v W
 bx : W.heap[w.heap.size]? = some (.cells #[.int .i64 0, .int .i64 0, .string ⟨#[]⟩, .int .u32 0, .slice none 0 0, .slice none 0 0] tyTm (0, 0))
 lt : b < w.heap.size
theorem RfF.tm {w W : World} {b : Nat} {s : ByteArray} {k d : Nat} {v : Value} (h : RfF w W b s k d v) : TmAt W w.heap.size zTm vNone vNone := by
 have e := h.bx
 constructor <;> simp [World.cell?, World.frozen?, e, zTm, vNone]
theorem RfF.start {w : World} {b : Nat} {s : ByteArray} {k d : Nat} {v : Value} (h : RfAt w b s k d v) : RfF w (w.alloc (.cells #[.int .i64 0, .int .i64 0, .string ⟨#[]⟩, .int .u32 0, .slice none 0 0, .slice none 0 0] 27)) b s k d v :=
 ⟨(RfTo.refl h).below (below_alloc (Below.refl _ _) _), heap_alloc_new w _, h.lt⟩
theorem RfF.step {w W W' : World} {b : Nat} {s : ByteArray} {k d k2 d2 : Nat} {v v2 : Value} (h : RfF w W b s k d v) (h2 : RfTo W b s k2 d2 v2 W') : RfF w W' b s k2 d2 v2 :=
 ⟨h.rd.trans h2, (h2.1.block _ (Array.getElem?_eq_some_iff.1 h.bx).1 (by have := h.lt; simp; omega)).trans h.bx, h.lt⟩
theorem RfF.drewN {w W : World} {b : Nat} {s : ByteArray} {k d : Nat} {v : Value} (h : RfF w W b s k d v) (n : Nat) : RfF w (W.drewN n) b s k d v := h.step ((RfTo.refl h.rd.2).drewN n)
theorem RfF.set2 {w W : World} {b : Nat} {s : ByteArray} {k d : Nat} {v : Value} (h : RfF w W b s k d v) (j : Int) (n : Nat) (hj : j = (n : Int)) : RfF w (W.setCell ⟨b, 2, none⟩ (.int .i64 j)) b s k n v := h.step ((RfTo.refl h.rd.2).set2 j n hj)
theorem RfF.set3 {w W : World} {b : Nat} {s : ByteArray} {k d : Nat} {v : Value} (h : RfF w W b s k d v) (u : Value) : RfF w (W.setCell ⟨b, 3, none⟩ u) b s k d u := h.step ((RfTo.refl h.rd.2).set3 u)
theorem RfF.below {w W W' : World} {b : Nat} {s : ByteArray} {k d : Nat} {v : Value} (h : RfF w W b s k d v) (hb : Below W.heap.size W W') : RfF w W' b s k d v := h.step ((RfTo.refl h.rd.2).below hb)
theorem RfF.put {w W : World} {b : Nat} {s : ByteArray} {k d : Nat} {v : Value} (h : RfF w W b s k d v) (x : Tm) (u4 u5 : Value) : RfTo w b s k d v (put6 W w.heap.size x u4 u5) := by
 have hg := grown_put6 W w.heap.size x u4 u5
 refine ⟨h.rd.1.andThen hg (fun j hj => .inl (by injection hj with hj; omega)), ⟨?_⟩⟩
 rw [hg.block b h.rd.2.lt (by have := h.lt; simp; omega)]
 exact h.rd.2.h
/-- A term that is told, and what the reader has become. -/
def RfTm (w : World) (b : Nat) (s : ByteArray) (d bd : Nat) (r : Rd) (e : Ending) (w' : World) : Prop :=
 ∃ (t : Tm) (v : Value), e = .returned v ∧ TmMade w' w.heap.size t v ∧ t.args.length ≤ bd ∧ (r.2.2 = [] → t = r.1) ∧ RfOut w b s d r.2.1 r.2.2 w'
theorem LnIs.wrote6 {W : World} {base g : Nat} {l : List Lk} {v : Value} (h : LnIs W base l v) (x : Tm) (u4 u5 : Value) (hty : ∃ c, W.heap[g]? = some (.cells c tyTm (0, 0))) : LnIs (put6 W g x u4 u5) base l v := by
 obtain ⟨c, hty⟩ := hty
 have h1 := Kd.R_types h.1 hty (by decide)
 exact ⟨Kd.R_mono (Kd.R_grown h1 (grown_put6 W g x u4 u5) (fun k hk => by simpa using hk.2)) (fun _ _ => trivial), h.2⟩
theorem RfF.ln {w W : World} {b : Nat} {s : ByteArray} {k d : Nat} {v u : Value} (h : RfF w W b s k d v) {base : Nat} {l : List Lk} (hl : LnIs W base l u) (x : Tm) (u4 u5 : Value) : LnIs (put6 W w.heap.size x u4 u5) base l u := hl.wrote6 x u4 u5 ⟨_, h.bx⟩
/-- A fault is told: the result is the empty term. -/
theorem RfF.fail {w W : World} {b : Nat} {s : ByteArray} {k d : Nat} {v : Value} (h : RfF w W b s k d v) {e : Nat} {l : List Lk} (hL : LnIs W (b + 1) l v) (hn : l ≠ []) (hk : k ≤ s.size) : RfOut w b s d e l (put6 W w.heap.size zTm vNone vNone) :=
 .bad (h.put _ _ _) hk (h.ln hL _ _ _) hn
/-- A term is told. -/
theorem RfF.done {w W : World} {b : Nat} {s : ByteArray} {k d : Nat} (h : RfF w W b s k d (.slice none 0 0)) (t : Tm) {u4 u5 : Value} (hm : TmMade W (w.heap.size + 1) t (tmV t u4 u5)) (hk : k ≤ s.size) {bd : Nat} (hbd : t.args.length ≤ bd := by exact Nat.zero_le _) : RfTm w b s d bd (t, k, []) (.returned (tmV t u4 u5)) (put6 W w.heap.size t u4 u5) :=
 ⟨_, _, rfl, (hm.above (fun j hj _ => put6_heap W w.heap.size t u4 u5 j (by omega))).lower (Nat.le_succ _), hbd, fun _ => rfl, .ok (h.put _ _ _) hk⟩
/-- Some term is told beside a fault. -/
theorem RfF.none {w W : World} {b : Nat} {s : ByteArray} {k d : Nat} {v : Value} (h : RfF w W b s k d v) (t t0 : Tm) {u4 u5 : Value} (hm : TmMade W (w.heap.size + 1) t (tmV t u4 u5)) {e : Nat} {l : List Lk} (hL : LnIs W (b + 1) l v) (hn : l ≠ []) (hk : k ≤ s.size) {bd : Nat} (hbd : t.args.length ≤ bd := by exact Nat.zero_le _) : RfTm w b s d bd (t0, e, l) (.returned (tmV t u4 u5)) (put6 W w.heap.size t u4 u5) :=
 ⟨_, _, rfl, (hm.above (fun j hj _ => put6_heap W w.heap.size t u4 u5 j (by omega))).lower (Nat.le_succ _), hbd, fun e => absurd e hn, .bad (h.put _ _ _) hk (h.ln hL _ _ _) hn⟩
end Go.Proofs.YtibbcfeaododhaaGreatDoor
set_option linter.unusedSimpArgs false
set_option linter.unusedVariables false
namespace Go.Proofs.YtibbcfeaododhaaGreatDoor
open Go.RowKit Go.Sort Go.Proofs.YtibbcfeaododhaaGreatDoorW.PrintWords
def FailE (w : World) (b : Nat) (s : ByteArray) (d : Nat) (l : List Lk) (e : Ending) (w' : World) : Prop := e = .returned vZero ∧ RfOut w b s d 0 l w'
set_option maxRecDepth 100000 in
set_option maxHeartbeats 1000000 in
theorem rf_fail (b : Nat) (s : ByteArray) (k d : Nat) (at_ co : Int) (hk : k ≤ s.size) (w : World) (hS : RfAt w b s k d (.slice none 0 0)) :
  Calls Tryz.prog 34 #[.pointer (some ⟨b, 0, none⟩), .int .i64 at_, .int .i64 co] w (FailE w b s d [⟨nTerm, at_, co⟩]) := by
 have hne := fun (w : World) (a : Option Addr) (n c : Nat) => run_neq_slice_nil_any (P := Tryz.prog) w 32 69 a n c 0 0 Tryz.underlying32
 have heq := fun (w : World) (a : Option Addr) (n c : Nat) => Lib.run_eql_slice_nil (P := Tryz.prog) w 32 69 a n c 0 0 Tryz.underlying32
 obtain ⟨w1, hw1⟩ : ∃ W, W = w.alloc (.cells #[.int .i64 0, .int .i64 0, .string ⟨#[]⟩, .int .u32 0, .slice none 0 0, .slice none 0 0] 27) := ⟨_, rfl⟩
 have hF : RfF w w1 b s k d (.slice none 0 0) := by rw [hw1]; exact RfF.start hS
 have HF := Lib.hid hF
 clear hS hF
 go_enter Tryz.func34, Tryz.ntmps34
 go_upto_region 1 with (fail)
 rw [← hw1]
 clear hw1
 have a0 := HF.out.rd.2.c0
 have a1 := HF.out.rd.2.c1
 have a2 := HF.out.rd.2.c2
 have a3 := HF.out.rd.2.c3
 have f1 := HF.out.rd.2.f1
 have f2 := HF.out.rd.2.f2
 have f3 := HF.out.rd.2.f3
 obtain ⟨r0, r1, r2, r3, r4, r5, g0, g1, g2, g3, g4, g5⟩ := HF.out.tm
 simp only [zTm] at r0 r1 r2 r3 r4 r5
 go_wp2_with fail
 refine (ref02_no _ _ _).mono ?_
 rintro e w2 ⟨v2, rfl, hL, hB⟩
 obtain ⟨Aq, cq, hvq, _, _⟩ := hL.reads
 generalize hnq : List.length _ = nq at hvq
 clear hnq
 subst hvq
 have HF2 := Lib.hid (HF.out.below hB)
 have HL := Lib.hid (hL.lower (base' := b + 1) HF.out.rd.2.lt)
 clear hL hB
 clear a0 a1 a2 a3 f1 f2 f3 r0 r1 r2 r3 r4 r5 g0 g1 g2 g3 g4 g5
 have a0 := HF2.out.rd.2.c0
 have a1 := HF2.out.rd.2.c1
 have a2 := HF2.out.rd.2.c2
 have a3 := HF2.out.rd.2.c3
 have f1 := HF2.out.rd.2.f1
 have f2 := HF2.out.rd.2.f2
 have f3 := HF2.out.rd.2.f3
 obtain ⟨r0, r1, r2, r3, r4, r5, g0, g1, g2, g3, g4, g5⟩ := HF2.out.tm
 simp only [zTm] at r0 r1 r2 r3 r4 r5
 go_upto_region 3 with (fail)
 have HF3 := Lib.hid (HF2.out.set3 (.slice Aq nq cq))
 replace HL := Lib.hid (HL.out.grownR HF2.out.rd.2 (grown_set _ _ 3 (.slice Aq nq cq)))
 clear a0 a1 a2 a3 f1 f2 f3 r0 r1 r2 r3 r4 r5 g0 g1 g2 g3 g4 g5
 clear HF2 HF
 generalize w2.setCell ⟨b, 3, none⟩ (.slice Aq nq cq) = w3 at HF3 HL ⊢
 have a0 := HF3.out.rd.2.c0
 have a1 := HF3.out.rd.2.c1
 have a2 := HF3.out.rd.2.c2
 have a3 := HF3.out.rd.2.c3
 have f1 := HF3.out.rd.2.f1
 have f2 := HF3.out.rd.2.f2
 have f3 := HF3.out.rd.2.f3
 obtain ⟨r0, r1, r2, r3, r4, r5, g0, g1, g2, g3, g4, g5⟩ := HF3.out.tm
 simp only [zTm] at r0 r1 r2 r3 r4 r5
 go_wp2_with fail
 refine bodyPost_ret (resTm rfl _ _ w.heap.size zTm _ _ (by rfl) (HF3.out.tm.put zTm _ _)) rfl ?_
 exact ⟨rfl, HF3.out.fail HL.out (by simp) hk⟩
def MoveR (w : World) (b : Nat) (s : ByteArray) (d : Nat) (k : Nat) (l : List Lk) (e : Ending) (w' : World) : Prop := e = .returned (.tuple #[]) ∧ RfOut w b s d k l w'
set_option maxRecDepth 100000 in
set_option maxHeartbeats 4000000 in
/-- blanks, whatever the fault. -/
theorem rf_blanks (b : Nat) (s : ByteArray) (k0 d : Nat) (v : Value) (h0 : k0 ≤ s.size) (hm : s.size ≤ 4194304) (w : World) (hS : RfAt w b s k0 d v) :
  Calls Tryz.prog 33 #[.pointer (some ⟨b, 0, none⟩)] w (fun e w' => e = .returned (.tuple #[]) ∧ RfTo w b s (blk s k0) d v w') := by
 go_enter Tryz.func33, Tryz.ntmps33
 go_wp2_with fail
 go_loopg [] (s.size - k0) (fun gk wl => ∃ k : Nat, k ≤ s.size ∧ gk = s.size - k ∧ Hid (blk s k = blk s k0) ∧ Hid (RfTo w b s k d v wl))
 case atStart => exact ⟨k0, h0, rfl, rfl, Lib.hid (.refl hS)⟩
 case round =>
  clear hS
  obtain ⟨k, hk, hgk, HR, HS⟩ := hrel
  have HK := Lib.hid hgk
  clear hgk
  have hs := HS.out.2.c0
  have ha := HS.out.2.c1
  have hf := HS.out.2.f1
  have e1 : (0 : Int) ≤ (k : Int) := by omega
  by_cases hlt : k < s.size
  ·have e2 : (k : Int) < (s.size : Int) := by omega
   have hb := btk s k
   have hrb := runEnd_yes (p := isBlank) (k := k) hlt
   have hrn := runEnd_no (p := isBlank) (k := k) hlt
   generalize bt s (k : Int) = c at hb hrb hrn
   by_cases h9 : c = 9
   ·subst h9
    have HN : Hid (blk s (k + 1) = blk s k0) := Lib.hid ((hrb rfl).trans HR.out)
    clear hrb hrn
    go_wp2_with fail
    go_quiet (fail)
    go_wp2_with fail
    go_roundg (s.size - (k + 1))
    case measure => rw [HK.out]; omega
    case rel => exact ⟨k + 1, by omega, rfl, HN, Lib.hid ((HS.out.drewN _).set1 _ (k + 1) (by omega))⟩
   ·have d9 : (c == 9) = false := beq_eq_false_iff_ne.2 h9
    by_cases h10 : c = 10
    ·subst h10
     have HN : Hid (blk s (k + 1) = blk s k0) := Lib.hid ((hrb rfl).trans HR.out)
     clear hrb hrn
     go_wp2_with fail
     go_quiet (fail)
     go_wp2_with fail
     go_roundg (s.size - (k + 1))
     case measure => rw [HK.out]; omega
     case rel => exact ⟨k + 1, by omega, rfl, HN, Lib.hid ((HS.out.drewN _).set1 _ (k + 1) (by omega))⟩
    ·have d10 : (c == 10) = false := beq_eq_false_iff_ne.2 h10
     by_cases h13 : c = 13
     ·subst h13
      have HN : Hid (blk s (k + 1) = blk s k0) := Lib.hid ((hrb rfl).trans HR.out)
      clear hrb hrn
      go_wp2_with fail
      go_quiet (fail)
      go_wp2_with fail
      go_roundg (s.size - (k + 1))
      case measure => rw [HK.out]; omega
      case rel => exact ⟨k + 1, by omega, rfl, HN, Lib.hid ((HS.out.drewN _).set1 _ (k + 1) (by omega))⟩
     ·have d13 : (c == 13) = false := beq_eq_false_iff_ne.2 h13
      by_cases h32 : c = 32
      ·subst h32
       have HN : Hid (blk s (k + 1) = blk s k0) := Lib.hid ((hrb rfl).trans HR.out)
       clear hrb hrn
       go_wp2_with fail
       go_quiet (fail)
       go_wp2_with fail
       go_roundg (s.size - (k + 1))
       case measure => rw [HK.out]; omega
       case rel => exact ⟨k + 1, by omega, rfl, HN, Lib.hid ((HS.out.drewN _).set1 _ (k + 1) (by omega))⟩
      ·have d32 : (c == 32) = false := beq_eq_false_iff_ne.2 h32
       have HN : Hid (blk s k0 = k) := Lib.hid (HR.out.symm.trans (hrn (by unfold isBlank; rw [d9, d10, d13, d32]; rfl)))
       clear hrb hrn
       go_wp2_with fail
       go_quiet (fail)
       go_wp2_with fail
       go_end0
       rw [HN.out]
       exact ⟨rfl, HS.out.drewN _⟩
  ·have HN : Hid (blk s k0 = k) := Lib.hid (HR.out.symm.trans (runEnd_out (by omega)))
   have e2 : decide ((k : Int) < (s.size : Int)) = false := decide_eq_false (by omega)
   go_wp2_with fail
   go_quiet (fail)
   go_wp2_with fail
   go_end0
   rw [HN.out]
   exact ⟨rfl, HS.out.drewN _⟩
/-- What 'must' does with a byte. -/
def mustL (s : ByteArray) (k : Nat) (c : Int) : List Lk := if isAt s k c then [] else [⟨nTerm, k, 41⟩]
set_option maxRecDepth 100000 in
set_option maxHeartbeats 2000000 in
theorem rf_must (b : Nat) (s : ByteArray) (k d : Nat) (c : Int) (hk : k ≤ s.size) (hm : s.size ≤ 4194304) (w : World) (hS : RfAt w b s k d (.slice none 0 0)) :
  Calls Tryz.prog 110 #[.pointer (some ⟨b, 0, none⟩), .int .u8 c] w (MoveR w b s d (k + 1) (mustL s k c)) := by
 have HS := Lib.hid hS
 have a0 := hS.c0
 have a1 := hS.c1
 have f1 := hS.f1
 have e1 : (0 : Int) ≤ (k : Int) := by omega
 clear hS
 by_cases h : k < s.size
 ·have e2 : decide ((k : Int) ≥ (s.size : Int)) = false := decide_eq_false (by omega)
  have e3 : (k : Int) < (s.size : Int) := by omega
  have hb := btk s k
  by_cases hc : bt s (k : Int) = c
  ·have hd : (bt s (k : Int) != c) = false := by simp [hc]
   have HM : Hid (mustL s k c = []) := Lib.hid (by unfold mustL; rw [if_pos (isAtY h hc)])
   clear hc
   go_enter Tryz.func110, Tryz.ntmps110
   go_wp2_with fail
   go_quiet (fail)
   go_wp2_with fail
   go_end0
   rw [HM.out]
   exact ⟨rfl, .ok (((RfTo.refl HS.out).drewN _).set1 _ (k + 1) (by omega)) (by omega)⟩
  ·have hd : (bt s (k : Int) != c) = true := by simp [hc]
   have HM : Hid (mustL s k c = [⟨nTerm, k, 41⟩]) := Lib.hid (by unfold mustL; rw [if_neg (by rw [isAtN hc]; simp)])
   clear hc
   go_enter Tryz.func110, Tryz.ntmps110
   go_wp2_with fail
   go_quiet (fail)
   go_wp2_with fail
   refine (rf_fail b s k d _ _ hk _ (HS.out.drewN _)).mono ?_
   rintro e w2 ⟨rfl, hO⟩
   have HO := Lib.hid (RfOut.from ((RfTo.refl HS.out).drewN _) hO)
   clear hO
   go_wp2_with fail
   refine bodyPost_ret (results_none rfl _ _ _) rfl ?_
   rw [HM.out]
   obtain ⟨k2, v2, x1, x2, x3, x4⟩ := HO.out
   exact ⟨rfl, k2, v2, x1, x2, x3, fun e => by cases e⟩
 ·have e2 : decide ((k : Int) ≥ (s.size : Int)) = true := decide_eq_true (by omega)
  have HM : Hid (mustL s k c = [⟨nTerm, k, 41⟩]) := Lib.hid (by unfold mustL; rw [if_neg (by rw [isAtO (by omega)]; simp)])
  go_enter Tryz.func110, Tryz.ntmps110
  go_wp2_with fail
  go_quiet (fail)
  go_wp2_with fail
  refine (rf_fail b s k d _ _ hk _ (HS.out.drewN _)).mono ?_
  rintro e w2 ⟨rfl, hO⟩
  have HO := Lib.hid (RfOut.from ((RfTo.refl HS.out).drewN _) hO)
  clear hO
  go_wp2_with fail
  refine bodyPost_ret (results_none rfl _ _ _) rfl ?_
  rw [HM.out]
  obtain ⟨k2, v2, x1, x2, x3, x4⟩ := HO.out
  exact ⟨rfl, k2, v2, x1, x2, x3, fun e => by cases e⟩
end Go.Proofs.YtibbcfeaododhaaGreatDoor
set_option linter.unusedSimpArgs false
set_option linter.unusedVariables false
namespace Go.Proofs.YtibbcfeaododhaaGreatDoor
open Go.RowKit Go.Sort Go.Proofs.YtibbcfeaododhaaGreatDoorW.PrintWords
theorem byAt_c {s : ByteArray} {k : Nat} {c : Int} (hc : c ≠ 0) : (byAt s k == c) = isAt s k c := by
 unfold byAt isAt
 by_cases h : k < s.size
 ·rw [if_pos h, decide_eq_true h, Bool.true_and, Bool.eq_iff_iff, beq_iff_eq, decide_eq_true_eq]
 ·rw [if_neg h, decide_eq_false h, Bool.false_and]
  exact beq_eq_false_iff_ne.2 (Ne.symm hc)
theorem byAt_n {s : ByteArray} {k : Nat} {c : Int} (hc : c ≠ 0) : (byAt s k != c) = !isAt s k c := by rw [bne, byAt_c hc]
/-- What 'term' does, so many terms being begun. -/
def TermSaysR (s : ByteArray) (b d bd : Nat) (F : Nat → Rd) : Prop := ∀ (k : Nat) (W : World), k ≤ s.size → RfAt W b s k d (.slice none 0 0) →
 Calls Tryz.prog 32 #[.pointer (some ⟨b, 0, none⟩)] W (RfTm W b s d bd (F k))
def rowM (F : Nat → Rd) (s : ByteArray) (k : Nat) (c : Int) : List Tm × Nat × List Lk := if isAt s (blk s k) c then ([], blk s k, []) else sevAt F s (s.size + 1) (blk s k) []
def RowE (w : World) (b : Nat) (s : ByteArray) (d : Nat) (r : List Tm × Nat × List Lk) (e : Ending) (w' : World) : Prop :=
 ∃ (l : List Tm) (lv : Value), e = .returned lv ∧ kTm.R tyTm w' w.heap.size (fun _ => True) lv l ∧ l.length ≤ s.size + 1 ∧ (r.2.2 = [] → l = r.1) ∧ RfOut w b s d r.2.1 r.2.2 w'
theorem LnIs.otherT {W W' : World} {base base' : Nat} {ok : Nat → Prop} {l : List Lk} {v u : Value} {ts : List Tm} (h : LnIs W base l v) (hn : kTm.R tyTm W base' ok u ts) (hg : W.grownBy W' u.ownBlock) : LnIs W' base l v := by
 refine ⟨?_, h.2⟩
 cases hu : u.ownBlock with
 | none => rw [hu] at hg; exact Kd.R_mono (Kd.R_grown h.1 hg (fun k _ => by simp)) (fun _ _ => trivial)
 | some g =>
  rw [hu] at hg
  obtain ⟨c, hc⟩ := Kd.R_typed hn g hu
  exact Kd.R_mono (Kd.R_grown (Kd.R_types h.1 hc (by decide)) hg (fun k hk => by simpa using hk.2)) (fun _ _ => trivial)
set_option maxRecDepth 100000 in
set_option maxHeartbeats 8000000 in
theorem rf_row (b : Nat) (s : ByteArray) (k0 d bd : Nat) (c : Int) (hc : c ≠ 0) (F : Nat → Rd) (hF : TermSaysR s b d bd F) (hFw : Fwd s F) (h0 : k0 ≤ s.size) (hm : s.size ≤ 4194304) (w : World) (hS : RfAt w b s k0 d (.slice none 0 0)) :
  Calls Tryz.prog 111 #[.pointer (some ⟨b, 0, none⟩), .int .u8 c] w (RowE w b s d (rowM F s k0 c)) := by
 obtain ⟨R, hR⟩ : ∃ R, R = rowM F s k0 c := ⟨_, rfl⟩
 rw [← hR]
 unfold rowM at hR
 have HR0 := Lib.hid hR
 have HBL := Lib.hid (rf_blanks b s k0 d _ h0 hm w hS)
 have HF := Lib.hid hF
 have HFW := Lib.hid hFw
 have HLT := Lib.hid hS.lt
 have hkb := blk_le s k0 h0
 clear hR hS hF hFw
 generalize blk s k0 = k1 at HR0 HBL hkb
 have hne := fun (w : World) (a : Option Addr) (n c : Nat) => run_neq_slice_nil_any (P := Tryz.prog) w 32 69 a n c 0 0 Tryz.underlying32
 have heq := fun (w : World) (a : Option Addr) (n c : Nat) => Lib.run_eql_slice_nil (P := Tryz.prog) w 32 69 a n c 0 0 Tryz.underlying32
 go_enter Tryz.func111, Tryz.ntmps111
 go_wp2_with fail
 refine HBL.out.mono ?_
 rintro e w1 ⟨rfl, hT⟩
 have HS := Lib.hid hT
 have HBY : Hid (∀ n, Calls Tryz.prog 105 #[.pointer (some ⟨b, 0, none⟩)] (w1.drewN n) fun e w' => e = .returned (.int .u8 (byAt s k1)) ∧ ∃ m, w' = (w1.drewN n).drewN m) := Lib.hid fun n => rf_byte b s k1 d _ hkb hm _ (HS.out.2.drewN n)
 have HBC := Lib.hid (byAt_c (s := s) (k := k1) hc)
 have a0 := HS.out.2.c0
 have a1 := HS.out.2.c1
 have e0 : (0 : Int) ≤ (k1 : Int) := by omega
 generalize byAt s k1 = c1 at HBY HBC
 clear hT HBL
 cases hcc : isAt s k1 c with
 | true =>
  have HR : Hid (R = ([], k1, [])) := Lib.hid (by rw [HR0.out, if_pos hcc])
  have dcc : (c1 == c) = true := by rw [HBC.out, hcc]
  have hlt := isAt_lt hcc
  have e1 : (k1 : Int) < (s.size : Int) := by omega
  clear hcc
  go_wp2_with fail
  go_quiet ((go_at_call 105; exact Calls.quiet_of (HBY.out _)))
  go_wp2_with fail
  go_ret
  rw [HR.out]
  exact ⟨[], _, rfl, Kd.R_nil _ _ _ _ _, Nat.zero_le _, fun _ => rfl, .ok (HS.out.drewN _) hkb⟩
 | false =>
  have HR : Hid (sevAt F s (s.size + 1) k1 [] = R) := Lib.hid (by rw [HR0.out, if_neg (by rw [hcc]; simp)])
  have dcc : (c1 == c) = false := by rw [HBC.out, hcc]
  clear hcc
  go_wp2_with fail
  go_quiet ((go_at_call 105; exact Calls.quiet_of (HBY.out _)))
  go_wp2_with fail
  clear a0 a1
  go_loopg [5] (s.size + 1) (fun gk vl wl => ∃ (k m : Nat) (acc : List Tm), gk = m ∧ k ≤ s.size ∧ s.size + 1 ≤ m + k ∧ acc.length + m ≤ s.size + 1 ∧ Hid (sevAt F s m k acc = R) ∧ Hid (RfTo w b s k d (.slice none 0 0) wl) ∧ Hid (kTm.R tyTm wl w.heap.size (fun _ => True) vl acc))
  case atStart => exact ⟨k1, s.size + 1, [], rfl, hkb, by omega, by simp, HR, Lib.hid (HS.out.drewN _), Lib.hid (Kd.R_nil _ _ _ _ _)⟩
  case round =>
   clear HR HS HBY HBC dcc
   obtain ⟨k, m, acc, hgk, hk, hmk, hla, HR, HS, HL⟩ := hrel
   have HK := Lib.hid hgk
   clear hgk
   have HC := Lib.hid (HF.out k wr hk HS.out.2)
   obtain ⟨m, rfl⟩ : ∃ n, m = n + 1 := ⟨m - 1, by omega⟩
   have HSE := Lib.hid (sev_err (F := F) (s := s) (k := k) (m := m) (acc := acc))
   have HSM := Lib.hid (sev_more (F := F) (s := s) (k := k) (m := m) (acc := acc))
   have HSL := Lib.hid (sev_last (F := F) (s := s) (k := k) (m := m) (acc := acc))
   have HSZ : Hid (w.heap.size ≤ wr.heap.size) := Lib.hid HS.out.1.size
   have HQF : Hid (∀ t e, F k = (t, e, []) → k ≤ e) := Lib.hid fun t e h => Nat.le_of_lt (HFW.out k t e h).1
   generalize hq : F k = q at HC HSE HSM HSL HQF
   clear hq
   obtain ⟨t0, e0', l⟩ := q
   have a3 := HS.out.2.c3
   go_wp2_with fail
   refine HC.out.mono ?_
   rintro e w2 ⟨t, v, rfl, hM, _, ht, k2, v2, hT, hk2, hLn, hke⟩
   have HT := Lib.hid (HS.out.trans hT)
   have HL2 := Lib.hid (R_readR HL.out HS.out.2 hT.1)
   have HLL := Lib.hid (Kd.R_lt HL.out)
   have HLn := Lib.hid hLn
   obtain ⟨v4, v5, rfl, hM4, hM5⟩ := hM
   obtain ⟨A4, c4, rfl⟩ := Kd.R_slice hM4
   obtain ⟨A5, c5, rfl⟩ := Kd.R_slice hM5
   have HM3 : Hid (kTm.M w2 w.heap.size (fun j => wr.heap.size ≤ j) t [.int .i64 t.kd, .int .i64 t.it, .string t.tx, .int .u32 t.cr, .slice A4 t.nums.length c4, .slice A5 t.args.length c5]) := Lib.hid (kTm_mkM w2 w.heap.size _ t
    (Kd.R_lower (Kd.R_mono (Kd.R_bound hM4) (fun j hj => hj.2.1)) HSZ.out)
    (Kd.R_lower (Kd.R_mono (Kd.R_bound hM5) (fun j hj => hj.2.1)) HSZ.out))
   have HBS : Hid (w.heap.size ≤ w2.heap.size) := Lib.hid HT.out.1.size
   have hl88 : (acc.length + 1) * 88 ≤ 140737488355328 := by omega
   clear hT hM4 hM5 HC HS HL hLn a3
   unfold tmV
   go_wp2_with (at_builtin; refine Kd.R_append kTm (w0 := w2) w.heap.size rfl (.tmp 30) (.tmp 33) 25 27 (.agg #[(.int .i64 0), (.int .i64 0), (.string ⟨#[]⟩), (.int .u32 0), (.slice none 0 0), (.slice none 0 0)]) 88 rfl Tryz.underlying25 infoTm rfl (by decide) (by omega) u5 acc t [.int .i64 t.kd, .int .i64 t.it, .string t.tx, .int .u32 t.cr, .slice A4 t.nums.length c4, .slice A5 t.args.length c5] (fun _ => True) (fun j => wr.heap.size ≤ j) ?hs ?hx ?hp ?hok ?hfr ?hO ?hB ?hbs ?hl ?_; (case hs => rfl); (case hx => first | rfl | (simp [Act.eval]; done)); (case hp => exact HM3.out); (case hok => exact fun j hj => ⟨trivial, fun e => by have := HLL.out j e.symm; omega⟩); (case hfr => exact fun _ _ => trivial); (case hO => exact HL2.out); (case hB => exact Below.refl _ _); (case hbs => exact HBS.out); (case hl => exact hl88); intro v1 w5 ho hb hg hat; have HO5 := Lib.hid ho; have HT5 := Lib.hid (HT.out.below' hb (Nat.le_refl _) HLT.out); have HLn5 := Lib.hid (HLn.out.otherT HL2.out hg); clear ho hb hg hat)
   refine (rf_blanks b s k2 d v2 hk2 hm w5 HT5.out.2).mono ?_
   rintro e w6 ⟨rfl, hT6⟩
   have HT6 := Lib.hid (HT5.out.trans hT6)
   have HL6 := Lib.hid (R_readR HO5.out HT5.out.2 hT6.1)
   have HLn6 := Lib.hid (HLn5.out.grownR HT5.out.2 hT6.1)
   have hkb2 := blk_le s k2 hk2
   have hla2 : (acc ++ [t]).length ≤ s.size + 1 := by rw [List.length_append, List.length_singleton]; omega
   clear hT6 HT5 HO5 HM3 HLn5 HLn HL2 HT
   cases l with
   | cons x r =>
    have HR2 : Hid (R = ([], 0, x :: r)) := Lib.hid (HR.out.symm.trans (HSE.out (by simp)))
    obtain ⟨g2, c2, rfl, _, _⟩ := HLn6.out.headT
    have a3 := HT6.out.2.c3
    go_wp2_with fail
    go_ret
    rw [HR2.out]
    exact ⟨_, _, rfl, HL6.out, hla2, fun e => (by cases e), .bad HT6.out hkb2 HLn6.out (by simp)⟩
   | nil =>
    obtain rfl := HLn6.out.2 rfl
    obtain rfl := hke (by trivial)
    obtain rfl := ht (by trivial)
    have a3 := HT6.out.2.c3
    clear hke ht HLn6 HSE
    have HLE : Hid (k ≤ blk s k2) := Lib.hid (Nat.le_trans (HQF.out t k2 rfl) (blk_ge s k2))
    have HBN := Lib.hid (byAt_n (s := s) (k := blk s k2) (c := 44) (by decide))
    have HBY := Lib.hid (rf_byte b s (blk s k2) d _ hkb2 hm w6 HT6.out.2)
    generalize byAt s (blk s k2) = c2 at HBY HBN
    cases hc4 : isAt s (blk s k2) 44 with
    | true =>
     have HR2 := Lib.hid ((HSM.out (by trivial) hc4).symm.trans HR.out)
     have hlt := isAt_lt hc4
     have d4 : (c2 != 44) = false := by rw [HBN.out, hc4]; rfl
     clear hc4
     go_wp2_with fail
     refine HBY.out.mono ?_
     rintro e w7 ⟨rfl, n7, rfl⟩
     replace HL6 := Lib.hid (R_readR HL6.out HT6.out.2 (grown_drewN w6 n7 (some b)))
     replace HT6 := Lib.hid (HT6.out.drewN n7)
     generalize w6.drewN n7 = w7 at HT6 HL6 ⊢
     clear a3
     have a1 := HT6.out.2.c1
     have f1 := HT6.out.2.f1
     go_wp2_with fail
     go_roundg m
     case measure => rw [HK.out]; omega
     case rel => exact ⟨blk s k2 + 1, m, acc ++ [t], rfl, by omega, by have := HLE.out; omega, by rw [List.length_append]; simp; omega, HR2, Lib.hid (HT6.out.set1 _ (blk s k2 + 1) (by omega)), Lib.hid (R_readR HL6.out HT6.out.2 (grown_set _ _ _ _))⟩
    | false =>
     have HR2 : Hid (R = (acc ++ [t], blk s k2, [])) := Lib.hid (HR.out.symm.trans (HSL.out (by trivial) hc4))
     have d4 : (c2 != 44) = true := by rw [HBN.out, hc4]; rfl
     clear hc4
     go_wp2_with fail
     refine HBY.out.mono ?_
     rintro e w7 ⟨rfl, n7, rfl⟩
     go_wp2_with fail
     go_ret
     rw [HR2.out]
     exact ⟨_, _, rfl, R_readR HL6.out HT6.out.2 (grown_drewN w6 n7 (some b)), hla2, fun _ => rfl, .ok (HT6.out.drewN n7) hkb2⟩
end Go.Proofs.YtibbcfeaododhaaGreatDoor
