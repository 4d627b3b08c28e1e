/-
 term's reader: begun. Plain: a reading goes forward. term: the closure that reads a term. Plain Lean: how long a term's text is; where a part's text stands in it. Plain: what is read from a text has texts and numbers of their sizes. term.Read. term.Cons.
-/
import Derived.Test.YtibbcfeaododhaaGreatDoorH6
import Derived.IntWalk
import Derived.Defers
import Derived.Test.YtibbcfeaododhaaGreatDoorH4
import Derived.Lib.ItoaLen
set_option linter.unusedSimpArgs false
namespace Go.Proofs.YtibbcfeaododhaaGreatDoor
open Go.RowKit Go.Sort Go.Proofs.YtibbcfeaododhaaGreatDoorW.PrintWords
theorem ext_drop (s : ByteArray) (j : Nat) : (s.extract j s.size).data.toList = s.data.toList.drop j := by
 have h : bs (s.extract j s.size) = (bs s).drop j := by rw [bs_cut', List.take_of_length_le (by rw [List.length_drop, bs_len]; omega)]
 rw [bs_data', bs_data', ← List.map_drop] at h
 exact (List.map_inj_right (fun a b e => UInt8.toNat_inj.1 (by have e : ((a.toNat : Nat) : Int) = ((b.toNat : Nat) : Int) := e; omega))).1 h
theorem pre_cons (s : ByteArray) (k : Nat) (c : UInt8) (r : List UInt8) : Lib.hasPrefix (s.extract k s.size).data.toList (c :: r) = (isAt s k (c.toNat : Int) && Lib.hasPrefix (s.extract (k + 1) s.size).data.toList r) := by
 have h1 := hit_one s k c
 unfold hitAt at h1
 rw [← h1, ext_drop, ext_drop]
 unfold Lib.hasPrefix
 by_cases h : k < s.data.toList.length
 ·rw [List.drop_eq_getElem_cons h]
  simp [List.isPrefixOf]
 ·rw [List.drop_of_length_le (by omega), List.drop_of_length_le (by omega)]
  simp [List.isPrefixOf]
def markTxt : ByteArray := ⟨#[35, 82, 101, 102, 60]⟩
theorem hit_mark (s : ByteArray) (k : Nat) : hitAt s k markTxt = decide (markLen s k 5 = 5) := by
 unfold hitAt markTxt
 simp only [pre_cons]
 simp only [markLen, refMark, List.getD_cons_zero, List.getD_cons_succ, Nat.add_zero, show (5 : Nat) - (4 + 1) = 0 from rfl, show (5 : Nat) - (3 + 1) = 1 from rfl, show (5 : Nat) - (2 + 1) = 2 from rfl, show (5 : Nat) - (1 + 1) = 3 from rfl, show (5 : Nat) - (0 + 1) = 4 from rfl, Nat.add_assoc, Nat.reduceAdd]
 have e : Lib.hasPrefix (s.extract (k + 5) s.size).data.toList [] = true := by simp [Lib.hasPrefix]
 rw [e]
 simp only [show ((35 : UInt8).toNat : Int) = 35 from rfl, show ((82 : UInt8).toNat : Int) = 82 from rfl, show ((101 : UInt8).toNat : Int) = 101 from rfl, show ((102 : UInt8).toNat : Int) = 102 from rfl, show ((60 : UInt8).toNat : Int) = 60 from rfl]
 generalize isAt s k 35 = a
 generalize isAt s (k + 1) 82 = b
 generalize isAt s (k + 2) 101 = c
 generalize isAt s (k + 3) 102 = d
 generalize isAt s (k + 4) 60 = f
 cases a <;> cases b <;> cases c <;> cases d <;> cases f <;> decide
/-- An inner reading's answer is handed on. -/
theorem RdF.pass {w W1 w' : World} {b : Nat} {s : ByteArray} {k d k' e0 : Nat} {l : List Lk} {t : Tm} {u4 u5 ev : Value} (h : RdF w W1 b s k d) (hM : TmMade w' W1.heap.size t (tmV t u4 u5)) (hE : ErrIs w' l ev) (hT : RdTo W1 b s k' d w') (hk : k' ≤ s.size) (hk2 : l = [] → k' = e0) :
  TermE w b s d (t, e0, l) (.returned (.tuple #[tmV t u4 u5, ev])) (put6 w' w.heap.size t u4 u5) := by
 have h2 := h.step hT
 have hsz : w.heap.size + 1 ≤ W1.heap.size := h.tm.lt
 exact ⟨_, _, rfl, (hM.above (fun j hj _ => put6_heap w' w.heap.size t u4 u5 j (by omega))).lower (by omega), hE.wrote6 h2.tm.c0 _ _ _, k', h2.put _ _ _, hk, hk2⟩
section
variable {F : Nat → Rd} {s : ByteArray} {k : Nat}
theorem bg_end (h : s.size ≤ k) : begunAt F s k = rdNo k 41 := by unfold begunAt; rw [if_pos h]
theorem bg_whole (h : k < s.size) (hc : isDigit (bt s (k : Int)) = true ∨ bt s (k : Int) = 45) : begunAt F s k = wholeAt s k := by unfold begunAt; rw [if_neg (by omega), if_pos hc]
theorem bg_tuple (h : k < s.size) (hc : bt s (k : Int) = 123) : begunAt F s k = tupleAt F s (k + 1) := by unfold begunAt; rw [if_neg (by omega), if_neg (by rw [hc]; decide), if_pos hc]
theorem bg_list (h : k < s.size) (hc : bt s (k : Int) = 91) : begunAt F s k = listAt F s (k + 1) := by unfold begunAt; rw [if_neg (by omega), if_neg (by rw [hc]; decide), if_neg (by omega), if_pos hc]
theorem bg_ref (h : k < s.size) (hc : bt s (k : Int) = 35) : begunAt F s k = if markLen s k 5 = 5 then farAt s (k + 5) 3 3 else rdNo (k + markLen s k 5) 41 := by unfold begunAt; rw [if_neg (by omega), if_neg (by rw [hc]; decide), if_neg (by omega), if_neg (by omega), if_pos hc]
theorem bg_pid (h : k < s.size) (hc : bt s (k : Int) = 60) : begunAt F s k = farAt s (k + 1) 4 2 := by unfold begunAt; rw [if_neg (by omega), if_neg (by rw [hc]; decide), if_neg (by omega), if_neg (by omega), if_neg (by omega), if_pos hc]
theorem bg_atom (h : k < s.size) (h0 : ¬ (isDigit (bt s (k : Int)) = true ∨ bt s (k : Int) = 45)) (h1 : bt s (k : Int) ≠ 123) (h2 : bt s (k : Int) ≠ 91) (h3 : bt s (k : Int) ≠ 35) (h4 : bt s (k : Int) ≠ 60) :
  begunAt F s k = if (atomAt s k).2.2 = [] then (⟨2, 0, (atomAt s k).1, 0, [], []⟩, (atomAt s k).2.1, []) else (zTm, 0, (atomAt s k).2.2) := by
 unfold begunAt
 rw [if_neg (by omega), if_neg h0, if_neg h1, if_neg h2, if_neg h3, if_neg h4]
 generalize atomAt s k = q
 obtain ⟨a, e, l⟩ := q
 cases l <;> rfl
end
theorem hit_len {s p : ByteArray} {k : Nat} (hk : k ≤ s.size) (h : hitAt s k p = true) : k + p.size ≤ s.size := by
 have := hasPrefix_len h
 rw [← Lib.size_eq, ← Lib.size_eq] at this
 simp at this
 omega
theorem mark_no {s : ByteArray} {k : Nat} (h : ¬ bt s (k : Int) = 35) : ¬ markLen s k 5 = 5 := by
 have e : isAt s (k + (5 - (4 + 1))) (refMark.getD (5 - (4 + 1)) 0) = false := isAtN h
 rw [markLen, if_neg (by rw [e]; decide)]
 decide
theorem mark_spec (s : ByteArray) (k : Nat) (h : ¬ markLen s k 5 = 5) : ∃ m, markLen s k 5 = m ∧ m < 5 ∧ (∀ j, j < m → isAt s (k + j) (refMark.getD j 0) = true) ∧ isAt s (k + m) (refMark.getD m 0) = false := by
 refine ⟨_, rfl, ?_⟩
 revert h
 simp only [markLen, refMark, List.getD_cons_zero, List.getD_cons_succ, Nat.add_zero, show (5 : Nat) - (4 + 1) = 0 from rfl, show (5 : Nat) - (3 + 1) = 1 from rfl, show (5 : Nat) - (2 + 1) = 2 from rfl, show (5 : Nat) - (1 + 1) = 3 from rfl, show (5 : Nat) - (0 + 1) = 4 from rfl]
 intro h
 by_cases a : isAt s k 35 = true
 ·rw [if_pos a] at h ⊢
  by_cases b : isAt s (k + 1) 82 = true
  ·rw [if_pos b] at h ⊢
   by_cases c : isAt s (k + 2) 101 = true
   ·rw [if_pos c] at h ⊢
    by_cases d : isAt s (k + 3) 102 = true
    ·rw [if_pos d] at h ⊢
     by_cases f : isAt s (k + 4) 60 = true
     ·rw [if_pos f] at h; exact absurd rfl h
     ·rw [if_neg f]
      refine ⟨by decide, fun j hj => ?_, by simpa using f⟩
      match j, hj with
      | 0, _ => exact a
      | 1, _ => exact b
      | 2, _ => exact c
      | 3, _ => exact d
    ·rw [if_neg d]
     refine ⟨by decide, fun j hj => ?_, by simpa using d⟩
     match j, hj with
     | 0, _ => exact a
     | 1, _ => exact b
     | 2, _ => exact c
   ·rw [if_neg c]
    refine ⟨by decide, fun j hj => ?_, by simpa using c⟩
    match j, hj with
    | 0, _ => exact a
    | 1, _ => exact b
  ·rw [if_neg b]
   refine ⟨by decide, fun j hj => ?_, by simpa using b⟩
   match j, hj with
   | 0, _ => exact a
 ·rw [if_neg a]
  refine ⟨by decide, fun j hj => absurd hj (by omega), by simpa using a⟩
theorem mark_get : ∀ j, j < 5 → (markTxt.get! j).toNat < 128 ∧ bt markTxt (j : Int) = refMark.getD j 0 := by decide
theorem mark_size : markTxt.size = 5 := rfl
theorem mark_dec (j : Nat) (h : j < 5) : (Utf8.decode markTxt j).2 = 1 := by rw [Tb.dec_asc (mark_get j h).1]
theorem isAt_val {s : ByteArray} {k : Nat} {c : Int} (h : isAt s k c = true) : bt s (k : Int) = c := by
 unfold isAt at h
 rw [Bool.and_eq_true, decide_eq_true_eq, decide_eq_true_eq] at h
 exact h.2
set_option maxRecDepth 100000 in
set_option maxHeartbeats 1000000 in
theorem rd_begun (b g4 g5 : Nat) (s : ByteArray) (k0 d : Nat) (F : Nat → Rd) (hF : TermSays s b g4 g5 d F) (hFw : Fwd s F) (h0 : k0 ≤ s.size) (hbk : blk s k0 = k0) (hm : s.size ≤ 4194304) (w : World) (hS : RdAt w b s k0 d) (hX : Boxes w b g4 g5) :
  Calls Tryz.prog 28 #[.pointer (some ⟨b, 0, none⟩), tv g4 g5] w (TermE w b s d (begunAt F s k0)) := by
 have HG := Lib.hid hX.gl
 obtain ⟨R, hR⟩ : ∃ R, R = begunAt F s k0 := ⟨_, rfl⟩
 rw [← hR]
 obtain ⟨rt, re, rl⟩ := R
 have HR0 := Lib.hid hR
 have HBK := Lib.hid hbk
 have HX0 := Lib.hid hX
 have HTS := Lib.hid hF
 have HFW := Lib.hid hFw
 have hG := hX.gl
 clear hR hX hF hFw hbk HG
 obtain ⟨w1, hw1⟩ : ∃ W, W = w.alloc (.cells #[.int .i64 0, .int .i64 0, .string ⟨#[]⟩, .int .u32 0, .slice none 0 0, .slice none 0 0] 27) := ⟨_, rfl⟩
 have hF : RdF w w1 b s k0 d := by rw [hw1]; exact RdF.start hS
 have HG : Hid (GlobG w1 b) := Lib.hid (hG.step hF.rd.1)
 have HF := Lib.hid hF
 clear hS hG hF
 go_enter Tryz.func28, Tryz.ntmps28
 go_upto_region 1 with (fail)
 rw [← hw1]
 clear hw1
 have e0 : (0 : Int) ≤ (k0 : Int) := by omega
 have a0 := HF.out.rd.2.c0
 have a1 := HF.out.rd.2.c1
 by_cases hlt : k0 < s.size
 ·have e1 : (k0 : Int) < (s.size : Int) := by omega
  have d0 : ((k0 : Int) == (s.size : Int)) = false := beq_eq_false_iff_ne.2 (by omega)
  have hb := btk s k0
  have hr := bt_range s (k0 : Int)
  go_wp2_with fail
  go_quiet (fail)
  have HFa := Lib.hid (HF.out.drewN nq)
  replace HG := Lib.hid (HG.out.step (grown_drewN w1 nq _))
  clear a0 a1
  generalize w1.drewN nq = w2 at HFa HG ⊢
  have a0 := HFa.out.rd.2.c0
  have a1 := HFa.out.rd.2.c1
  by_cases hnum : isDigit (bt s (k0 : Int)) = true ∨ bt s (k0 : Int) = 45
  ·have HR := HR0.out.trans (bg_whole hlt hnum)
   have HC : ∀ W, RdF w W b s k0 d → GlobG W b → Calls Tryz.prog 55 #[.pointer (some ⟨b, 0, none⟩)] W (TermE W b s d (rt, re, rl)) := fun W h1 h2 => by rw [HR]; exact rd_whole b s k0 d hlt hm W h1.rd.2 h2
   have HCC := Lib.hid HC
   clear HC HR HR0
   by_cases hd : isDigit (bt s (k0 : Int)) = true
   ·have HDG : Hid (∀ W, Calls Tryz.prog 54 #[.int .u8 (bt s (k0 : Int))] W fun e w' => e = .returned (.bool true) ∧ w' = W) := Lib.hid fun W => (term_digit _ W).mono fun e w' h => ⟨by rw [h.1, hd], h.2.symm⟩
    clear hnum hd
    go_wp2_with fail
    go_quiet ((go_at_call 54; exact Calls.quiet_of_same (HDG.out _)))
    have HF3 := Lib.hid (HFa.out.drewN nq)
    have HG3 := Lib.hid (HG.out.step (grown_drewN w2 nq _))
    clear a0 a1 HFa HG
    generalize w2.drewN nq = w3 at HF3 HG3 ⊢
    have HCW := Lib.hid (HCC.out w3 HF3.out HG3.out)
    go_wp2_with fail
    refine HCW.out.mono ?_
    rintro e w9 ⟨v, ev, rfl, hM, hE, k', hT, hk', hk2⟩
    have hM2 := hM
    obtain ⟨v4, v5, rfl, hM4, hM5⟩ := hM2
    simp only at hM4 hM5
    obtain ⟨A4, c4, rfl⟩ := Kd.R_slice hM4
    obtain ⟨A5, c5, rfl⟩ := Kd.R_slice hM5
    have HP := Lib.hid (HF3.out.pass hM hE hT hk' hk2)
    have HF9 := Lib.hid (HF3.out.step hT)
    clear hM hM4 hM5 hE hT hk' hk2
    unfold tmV
    have a0 := HF9.out.rd.2.c0
    have a1 := HF9.out.rd.2.c1
    have f1 := HF9.out.rd.2.f1
    obtain ⟨r0, r1, r2, r3, r4, r5, g0, g1, g2, g3, g4, g5⟩ := HF9.out.tm
    simp only [zTm] at r0 r1 r2 r3 r4 r5
    go_wp2_with fail
    refine bodyPost_ret (resTm2 rfl _ _ w.heap.size rt _ _ (by rfl) (HF9.out.tm.put rt _ _)) rfl ?_
    exact HP.out
   ·have d2 : (bt s (k0 : Int) == 45) = true := beq_iff_eq.2 (hnum.resolve_left hd)
    have HDG : Hid (∀ W, Calls Tryz.prog 54 #[.int .u8 (bt s (k0 : Int))] W fun e w' => e = .returned (.bool false) ∧ w' = W) := Lib.hid fun W => (term_digit _ W).mono fun e w' h => ⟨by rw [h.1, Bool.eq_false_iff.2 hd], h.2.symm⟩
    clear hnum hd
    go_wp2_with fail
    go_quiet ((go_at_call 54; exact Calls.quiet_of_same (HDG.out _)))
    have HF3 := Lib.hid (HFa.out.drewN nq)
    have HG3 := Lib.hid (HG.out.step (grown_drewN w2 nq _))
    clear a0 a1 HFa HG
    generalize w2.drewN nq = w3 at HF3 HG3 ⊢
    have HCW := Lib.hid (HCC.out w3 HF3.out HG3.out)
    go_wp2_with fail
    refine HCW.out.mono ?_
    rintro e w9 ⟨v, ev, rfl, hM, hE, k', hT, hk', hk2⟩
    have hM2 := hM
    obtain ⟨v4, v5, rfl, hM4, hM5⟩ := hM2
    simp only at hM4 hM5
    obtain ⟨A4, c4, rfl⟩ := Kd.R_slice hM4
    obtain ⟨A5, c5, rfl⟩ := Kd.R_slice hM5
    have HP := Lib.hid (HF3.out.pass hM hE hT hk' hk2)
    have HF9 := Lib.hid (HF3.out.step hT)
    clear hM hM4 hM5 hE hT hk' hk2
    unfold tmV
    have a0 := HF9.out.rd.2.c0
    have a1 := HF9.out.rd.2.c1
    have f1 := HF9.out.rd.2.f1
    obtain ⟨r0, r1, r2, r3, r4, r5, g0, g1, g2, g3, g4, g5⟩ := HF9.out.tm
    simp only [zTm] at r0 r1 r2 r3 r4 r5
    go_wp2_with fail
    refine bodyPost_ret (resTm2 rfl _ _ w.heap.size rt _ _ (by rfl) (HF9.out.tm.put rt _ _)) rfl ?_
    exact HP.out
  ·have hd : isDigit (bt s (k0 : Int)) = false := by simpa using fun h => hnum (.inl h)
   have h45 : ¬ bt s (k0 : Int) = 45 := fun h => hnum (.inr h)
   have d2 : (bt s (k0 : Int) == 45) = false := beq_eq_false_iff_ne.2 h45
   have HDG : Hid (∀ W, Calls Tryz.prog 54 #[.int .u8 (bt s (k0 : Int))] W fun e w' => e = .returned (.bool false) ∧ w' = W) := Lib.hid fun W => (term_digit _ W).mono fun e w' h => ⟨by rw [h.1, hd], h.2.symm⟩
   have HNU := Lib.hid hnum
   clear hd h45 hnum
   go_wp2_with fail
   go_quiet ((go_at_call 54; exact Calls.quiet_of_same (HDG.out _)))
   replace HFa := Lib.hid (HFa.out.drewN nq)
   clear a0 a1 HG HDG
   generalize w2.drewN nq = w3 at HFa ⊢
   by_cases c1 : bt s (k0 : Int) = 123
   ·have X := isAtY hlt c1
    have HRX := Lib.hid (HR0.out.trans (bg_tuple hlt c1))
    clear c1
    have HTK := Lib.hid (take_c b s k0 d 123 123 (by decide) (by omega) hm _ HFa.out.rd.2)
    rw [HBK.out, X] at HTK
    go_wp2_with fail
    refine HTK.out.mono ?_
    rintro e wn ⟨rfl, hT⟩
    have HFb : Hid (RdF w wn b s (k0 + 1) d) := Lib.hid (HFa.out.step hT)
    clear hT HTK HFa
    have HCW := Lib.hid (rd_tuple b g4 g5 s (k0 + 1) d F HTS.out HFW.out (by omega) hm wn HFb.out.rd.2 (HX0.out.step HFb.out.rd.1))
    rw [← HRX.out] at HCW
    clear X HRX
    go_wp2_with fail
    refine HCW.out.mono ?_
    rintro e w9 ⟨v, ev, rfl, hM, hE, k', hT, hk', hk2⟩
    have hM2 := hM
    obtain ⟨v4, v5, rfl, hM4, hM5⟩ := hM2
    simp only at hM4 hM5
    obtain ⟨A4, c4, rfl⟩ := Kd.R_slice hM4
    obtain ⟨A5, c5, rfl⟩ := Kd.R_slice hM5
    have HP := Lib.hid (HFb.out.pass hM hE hT hk' hk2)
    have HF9 := Lib.hid (HFb.out.step hT)
    clear hM hM4 hM5 hE hT hk' hk2
    unfold tmV
    have a0 := HF9.out.rd.2.c0
    have a1 := HF9.out.rd.2.c1
    have f1 := HF9.out.rd.2.f1
    obtain ⟨r0, r1, r2, r3, r4, r5, g0, g1, g2, g3, g4, g5⟩ := HF9.out.tm
    simp only [zTm] at r0 r1 r2 r3 r4 r5
    go_wp2_with fail
    refine bodyPost_ret (resTm2 rfl _ _ w.heap.size rt _ _ (by rfl) (HF9.out.tm.put rt _ _)) rfl ?_
    exact HP.out
   ·have X1 := isAtN (k := k0) c1
    have HTK := Lib.hid (take_c b s k0 d 123 123 (by decide) (by omega) hm _ HFa.out.rd.2)
    rw [HBK.out, X1] at HTK
    go_wp2_with fail
    refine HTK.out.mono ?_
    rintro e wn ⟨rfl, hT⟩
    replace HFa : Hid (RdF w wn b s k0 d) := Lib.hid (HFa.out.step hT)
    clear hT HTK
    by_cases c2 : bt s (k0 : Int) = 91
    ·have X := isAtY hlt c2
     have HRX := Lib.hid (HR0.out.trans (bg_list hlt c2))
     clear c1 c2
     have HTK := Lib.hid (take_c b s k0 d 91 91 (by decide) (by omega) hm _ HFa.out.rd.2)
     rw [HBK.out, X] at HTK
     go_wp2_with fail
     refine HTK.out.mono ?_
     rintro e wn ⟨rfl, hT⟩
     have HFb : Hid (RdF w wn b s (k0 + 1) d) := Lib.hid (HFa.out.step hT)
     clear hT HTK HFa
     have HCW := Lib.hid (rd_list b g4 g5 s (k0 + 1) d F HTS.out HFW.out (by omega) hm wn HFb.out.rd.2 (HX0.out.step HFb.out.rd.1))
     rw [← HRX.out] at HCW
     clear X HRX
     go_wp2_with fail
     refine HCW.out.mono ?_
     rintro e w9 ⟨v, ev, rfl, hM, hE, k', hT, hk', hk2⟩
     have hM2 := hM
     obtain ⟨v4, v5, rfl, hM4, hM5⟩ := hM2
     simp only at hM4 hM5
     obtain ⟨A4, c4, rfl⟩ := Kd.R_slice hM4
     obtain ⟨A5, c5, rfl⟩ := Kd.R_slice hM5
     have HP := Lib.hid (HFb.out.pass hM hE hT hk' hk2)
     have HF9 := Lib.hid (HFb.out.step hT)
     clear hM hM4 hM5 hE hT hk' hk2
     unfold tmV
     have a0 := HF9.out.rd.2.c0
     have a1 := HF9.out.rd.2.c1
     have f1 := HF9.out.rd.2.f1
     obtain ⟨r0, r1, r2, r3, r4, r5, g0, g1, g2, g3, g4, g5⟩ := HF9.out.tm
     simp only [zTm] at r0 r1 r2 r3 r4 r5
     go_wp2_with fail
     refine bodyPost_ret (resTm2 rfl _ _ w.heap.size rt _ _ (by rfl) (HF9.out.tm.put rt _ _)) rfl ?_
     exact HP.out
    ·have X2 := isAtN (k := k0) c2
     have HTK := Lib.hid (take_c b s k0 d 91 91 (by decide) (by omega) hm _ HFa.out.rd.2)
     rw [HBK.out, X2] at HTK
     go_wp2_with fail
     refine HTK.out.mono ?_
     rintro e wn ⟨rfl, hT⟩
     replace HFa : Hid (RdF w wn b s k0 d) := Lib.hid (HFa.out.step hT)
     clear hT HTK
     have HTM := Lib.hid (rd_take b s k0 d markTxt h0 hm _ HFa.out.rd.2)
     rw [HBK.out] at HTM
     unfold TakePost at HTM
     rw [hit_mark] at HTM
     by_cases c5 : markLen s k0 5 = 5
     ·have hh : decide (markLen s k0 5 = 5) = true := decide_eq_true c5
      have c3 : bt s (k0 : Int) = 35 := Classical.byContradiction fun h => mark_no h c5
      have HRX := Lib.hid (HR0.out.trans ((bg_ref (F := F) hlt c3).trans (if_pos c5)))
      have h5 : k0 + 5 ≤ s.size := hit_len (p := markTxt) h0 (by rw [hit_mark]; exact hh)
      clear c1 c2 c3 c5
      rw [hh] at HTM
      go_wp2_with fail
      refine HTM.out.mono ?_
      rintro e wm ⟨rfl, hT⟩
      have HFb : Hid (RdF w wm b s (k0 + 5) d) := Lib.hid (HFa.out.step hT)
      clear hT HTM hh HFa
      have HCW := Lib.hid (rd_far b s (k0 + 5) d 3 3 (by omega) h5 hm wm HFb.out.rd.2 (HX0.out.step HFb.out.rd.1).gl)
      rw [← HRX.out] at HCW
      clear HRX
      go_wp2_with fail
      refine HCW.out.mono ?_
      rintro e w9 ⟨v, ev, rfl, hM, hE, k', hT, hk', hk2⟩
      have hM2 := hM
      obtain ⟨v4, v5, rfl, hM4, hM5⟩ := hM2
      simp only at hM4 hM5
      obtain ⟨A4, c4, rfl⟩ := Kd.R_slice hM4
      obtain ⟨A5, c5, rfl⟩ := Kd.R_slice hM5
      have HP := Lib.hid (HFb.out.pass hM hE hT hk' hk2)
      have HF9 := Lib.hid (HFb.out.step hT)
      clear hM hM4 hM5 hE hT hk' hk2
      unfold tmV
      have a0 := HF9.out.rd.2.c0
      have a1 := HF9.out.rd.2.c1
      have f1 := HF9.out.rd.2.f1
      obtain ⟨r0, r1, r2, r3, r4, r5, g0, g1, g2, g3, g4, g5⟩ := HF9.out.tm
      simp only [zTm] at r0 r1 r2 r3 r4 r5
      go_wp2_with fail
      refine bodyPost_ret (resTm2 rfl _ _ w.heap.size rt _ _ (by rfl) (HF9.out.tm.put rt _ _)) rfl ?_
      exact HP.out
     ·have hh : decide (markLen s k0 5 = 5) = false := decide_eq_false c5
      rw [hh] at HTM
      go_wp2_with fail
      refine HTM.out.mono ?_
      rintro e wm ⟨rfl, hT⟩
      replace HFa : Hid (RdF w wm b s k0 d) := Lib.hid (HFa.out.step hT)
      clear hT HTM hh
      by_cases c3 : bt s (k0 : Int) = 35
      ·have X3 := isAtN (k := k0) (s := s) (c := 60) (by omega)
       have HRX := Lib.hid (HR0.out.trans ((bg_ref (F := F) hlt c3).trans (if_neg c5)))
       have d3 : (bt s (k0 : Int) == 35) = true := beq_iff_eq.2 c3
       clear c1 c2
       have HTK := Lib.hid (take_c b s k0 d 60 60 (by decide) (by omega) hm _ HFa.out.rd.2)
       rw [HBK.out, X3] at HTK
       go_wp2_with fail
       refine HTK.out.mono ?_
       rintro e wn ⟨rfl, hT⟩
       replace HFa : Hid (RdF w wn b s k0 d) := Lib.hid (HFa.out.step hT)
       clear hT HTK
       obtain ⟨m, hm5, hlt5, hall, hmis⟩ := mark_spec s k0 c5
       have HALL := Lib.hid hall
       have HMIS := Lib.hid hmis
       have HRY : Hid ((rt, re, rl) = rdNo (k0 + m) 41) := Lib.hid (by rw [HRX.out, hm5])
       clear hall hmis hm5 c3 c5 HRX
       have a0 := HFa.out.rd.2.c0
       have a1 := HFa.out.rd.2.c1
       go_wp2_with fail
       go_quiet (fail)
       replace HFa := Lib.hid (HFa.out.drewN nq)
       clear a0 a1
       generalize wn.drewN nq = w4 at HFa ⊢
       have hgi : (w4.iter markTxt 0).heap[w4.heap.size]? = some (.stringIter markTxt 0) := heap_alloc_new w4 _
       have HFi : Hid (RdF w (w4.iter markTxt 0) b s k0 d) := Lib.hid (HFa.out.below (below_alloc (Below.refl _ _) _))
       have hnb : w4.heap.size ≠ b := by have := HFa.out.rd.2.lt; omega
       have hnw : w.heap.size + 1 ≤ w4.heap.size := HFa.out.tm.lt
       generalize hW5 : w4.iter markTxt 0 = w5 at hgi HFi
       go_wp2_with fail
       change Code.wp _ _ _ _ (w4.iter markTxt 0)
       rw [hW5]
       clear hW5
       generalize w4.heap.size = gi at hgi hnb hnw ⊢
       have HGI := Lib.hid hgi
       have HNB := Lib.hid hnb
       have HNW := Lib.hid hnw
       clear hgi hnb hnw HFa
       go_loopg [] (m + 1) (fun gk wl => ∃ pos : Nat, gk = m + 1 - pos ∧ pos ≤ m ∧ Hid (wl.heap[gi]? = some (.stringIter markTxt pos)) ∧ Hid (RdF w wl b s k0 d))
       case atStart => exact ⟨0, rfl, Nat.zero_le _, HGI, HFi⟩
       case round =>
        obtain ⟨pos, hgk, hpm, HI, HFl⟩ := hrel
        have HK := Lib.hid hgk
        clear hgk HGI HFi
        have hp5 : pos < markTxt.size := by rw [mark_size]; omega
        have hnx := fun ty => Lib.run_next_any_at (P := Tryz.prog) wr gi markTxt pos ty HI.out hp5
        rw [mark_dec pos (by omega)] at hnx
        go_wp2_with fail
        have HF8 : Hid (RdF w (wr.iterAt gi markTxt (pos + 1)) b s k0 d) := Lib.hid (HFl.out.appd (Lib.below_iterAt (Below.refl _ _) HNW.out _ _))
        have HI8 : Hid ((wr.iterAt gi markTxt (pos + 1)).heap[gi]? = some (.stringIter markTxt (pos + 1))) := Lib.hid (Lib.iterAt_heap wr gi markTxt pos _ HI.out)
        clear hnx HFl HI
        generalize wr.iterAt gi markTxt (pos + 1) = w8 at HF8 HI8 ⊢
        have a0 := HF8.out.rd.2.c0
        have a1 := HF8.out.rd.2.c1
        have hmg := mark_get pos (by omega)
        have hbT := btk markTxt pos
        rw [hmg.2] at hbT
        unfold markTxt at hbT
        have hw : IntKind.i64.wrap ((k0 : Int) + (pos : Int)) = (k0 : Int) + (pos : Int) := IntWalk.i64_in _ (by omega)
        have hw0 : (0 : Int) ≤ (k0 : Int) + (pos : Int) := by omega
        have hp0 : (0 : Int) ≤ (pos : Int) := by omega
        have hp1 : (pos : Int) < (5 : Int) := by rw [mark_size] at hp5; omega
        have hwn : ((k0 : Int) + (pos : Int)).toNat = k0 + pos := by omega
        by_cases hpm2 : pos < m
        ·have hat := HALL.out pos hpm2
         have hl := isAt_lt hat
         have hx1 : (k0 : Int) + (pos : Int) < (s.size : Int) := by omega
         have hb := btk s (k0 + pos)
         rw [isAt_val hat] at hb
         generalize refMark.getD pos 0 = c at hb hbT
         have dn : (c != c) = false := by simp
         have dA : decide ((k0 : Int) + (pos : Int) ≥ (s.size : Int)) = false := decide_eq_false (by omega)
         have dB : decide ((s.size : Int) ≤ (k0 : Int) + (pos : Int)) = false := decide_eq_false (by omega)
         have dC : decide (s.size ≤ k0 + pos) = false := decide_eq_false (by omega)
         clear hat hmg
         go_wp2_with fail
         go_quiet (fail)
         go_wp2_with fail
         go_roundg (m + 1 - (pos + 1))
         case measure => rw [HK.out]; omega
         case rel => exact ⟨pos + 1, rfl, by omega, Lib.hid HI8.out, Lib.hid (HF8.out.drewN _)⟩
        ·obtain rfl : pos = m := by omega
         have hat := HMIS.out
         by_cases hl : k0 + pos < s.size
         ·have hx1 : (k0 : Int) + (pos : Int) < (s.size : Int) := by omega
          have hb := btk s (k0 + pos)
          have hne : bt s ((k0 + pos : Nat) : Int) ≠ refMark.getD pos 0 := fun e => by rw [isAtY hl e] at hat; cases hat
          generalize bt s ((k0 + pos : Nat) : Int) = y at hb hne
          generalize refMark.getD pos 0 = c at hbT hne
          have dA : decide ((k0 : Int) + (pos : Int) ≥ (s.size : Int)) = false := decide_eq_false (by omega)
          have dB : decide ((s.size : Int) ≤ (k0 : Int) + (pos : Int)) = false := decide_eq_false (by omega)
          have dC : decide (s.size ≤ k0 + pos) = false := decide_eq_false (by omega)
          have dn : (y != c) = true := bne_iff_ne.2 hne
          clear hat hmg hne
          go_wp2_with fail
          go_quiet (fail)
          have HF9 := Lib.hid (HF8.out.drewN nq)
          clear a0 a1 HF8 HI8
          generalize w8.drewN nq = w9 at HF9 ⊢
          have a1 := HF9.out.rd.2.c1
          go_wp2_with fail
          refine (term_fault _ _ _ _ [] rfl).mono ?_
          rintro e w7 ⟨v, rfl, hE, hB⟩
          have HE := Lib.hid hE
          have HF7 := Lib.hid (HF9.out.below hB)
          clear hE hB a1
          have a0 := HF7.out.rd.2.c0
          have a1 := HF7.out.rd.2.c1
          have f1 := HF7.out.rd.2.f1
          obtain ⟨r0, r1, r2, r3, r4, r5, g0, g1, g2, g3, g4, g5⟩ := HF7.out.tm
          simp only [zTm] at r0 r1 r2 r3 r4 r5
          go_wp2_with fail
          refine bodyPost_ret (resTm2 rfl _ _ w.heap.size zTm _ _ (by rfl) (HF7.out.tm.put zTm _ _)) rfl ?_
          rw [HRY.out]
          exact HF7.out.fail HE.out (by simp) h0
         ·have dA : decide ((k0 : Int) + (pos : Int) ≥ (s.size : Int)) = true := decide_eq_true (by omega)
          have dB : decide ((s.size : Int) ≤ (k0 : Int) + (pos : Int)) = true := decide_eq_true (by omega)
          have dC : decide (s.size ≤ k0 + pos) = true := decide_eq_true (by omega)
          clear hat hmg
          go_wp2_with fail
          go_quiet (fail)
          have HF9 := Lib.hid (HF8.out.drewN nq)
          clear a0 a1 HF8 HI8
          generalize w8.drewN nq = w9 at HF9 ⊢
          have a1 := HF9.out.rd.2.c1
          go_wp2_with fail
          refine (term_fault _ _ _ _ [] rfl).mono ?_
          rintro e w7 ⟨v, rfl, hE, hB⟩
          have HE := Lib.hid hE
          have HF7 := Lib.hid (HF9.out.below hB)
          clear hE hB a1
          have a0 := HF7.out.rd.2.c0
          have a1 := HF7.out.rd.2.c1
          have f1 := HF7.out.rd.2.f1
          obtain ⟨r0, r1, r2, r3, r4, r5, g0, g1, g2, g3, g4, g5⟩ := HF7.out.tm
          simp only [zTm] at r0 r1 r2 r3 r4 r5
          go_wp2_with fail
          refine bodyPost_ret (resTm2 rfl _ _ w.heap.size zTm _ _ (by rfl) (HF7.out.tm.put zTm _ _)) rfl ?_
          rw [HRY.out]
          exact HF7.out.fail HE.out (by simp) h0
      ·have d3 : (bt s (k0 : Int) == 35) = false := beq_eq_false_iff_ne.2 c3
       clear c5
       by_cases c4 : bt s (k0 : Int) = 60
       ·have X := isAtY hlt c4
        have HRX := Lib.hid (HR0.out.trans (bg_pid hlt c4))
        clear c1 c2 c3 c4
        have HTK := Lib.hid (take_c b s k0 d 60 60 (by decide) (by omega) hm _ HFa.out.rd.2)
        rw [HBK.out, X] at HTK
        go_wp2_with fail
        refine HTK.out.mono ?_
        rintro e wn ⟨rfl, hT⟩
        have HFb : Hid (RdF w wn b s (k0 + 1) d) := Lib.hid (HFa.out.step hT)
        clear hT HTK HFa
        have HCW := Lib.hid (rd_far b s (k0 + 1) d 4 2 (by omega) (by omega) hm wn HFb.out.rd.2 (HX0.out.step HFb.out.rd.1).gl)
        rw [← HRX.out] at HCW
        clear X HRX
        go_wp2_with fail
        refine HCW.out.mono ?_
        rintro e w9 ⟨v, ev, rfl, hM, hE, k', hT, hk', hk2⟩
        have hM2 := hM
        obtain ⟨v4, v5, rfl, hM4, hM5⟩ := hM2
        simp only at hM4 hM5
        obtain ⟨A4, c4, rfl⟩ := Kd.R_slice hM4
        obtain ⟨A5, c5, rfl⟩ := Kd.R_slice hM5
        have HP := Lib.hid (HFb.out.pass hM hE hT hk' hk2)
        have HF9 := Lib.hid (HFb.out.step hT)
        clear hM hM4 hM5 hE hT hk' hk2
        unfold tmV
        have a0 := HF9.out.rd.2.c0
        have a1 := HF9.out.rd.2.c1
        have f1 := HF9.out.rd.2.f1
        obtain ⟨r0, r1, r2, r3, r4, r5, g0, g1, g2, g3, g4, g5⟩ := HF9.out.tm
        simp only [zTm] at r0 r1 r2 r3 r4 r5
        go_wp2_with fail
        refine bodyPost_ret (resTm2 rfl _ _ w.heap.size rt _ _ (by rfl) (HF9.out.tm.put rt _ _)) rfl ?_
        exact HP.out
       ·have X4 := isAtN (k := k0) c4
        have HRX := Lib.hid (HR0.out.trans (bg_atom hlt HNU.out c1 c2 c3 c4))
        clear c1 c2 c3 c4
        have HTK := Lib.hid (take_c b s k0 d 60 60 (by decide) (by omega) hm _ HFa.out.rd.2)
        rw [HBK.out, X4] at HTK
        go_wp2_with fail
        refine HTK.out.mono ?_
        rintro e wn ⟨rfl, hT⟩
        replace HFa : Hid (RdF w wn b s k0 d) := Lib.hid (HFa.out.step hT)
        clear hT HTK
        have a0 := HFa.out.rd.2.c0
        have a1 := HFa.out.rd.2.c1
        go_wp2_with fail
        go_quiet (fail)
        replace HFa := Lib.hid (HFa.out.drewN nq)
        clear a0 a1
        generalize wn.drewN nq = w4 at HFa ⊢
        have HAT := Lib.hid (rd_atom b s k0 d h0 hm w4 HFa.out.rd.2 (HX0.out.step HFa.out.rd.1).gl)
        generalize atomAt s k0 = q at HAT HRX
        obtain ⟨nm, ne, nl⟩ := q
        go_wp2_with fail
        refine HAT.out.mono ?_
        rintro e w5 ⟨ev, rfl, hE, k', hT, _, hk', hk2⟩
        have HF5 := Lib.hid (HFa.out.step hT)
        have HE := Lib.hid hE
        clear hT HAT
        cases nl with
        | cons x r =>
         have HRY : Hid ((rt, re, rl) = (zTm, 0, x :: r)) := Lib.hid (HRX.out.trans (if_neg (by simp)))
         obtain ⟨eb, eu, rfl, _⟩ := hE
         have a0 := HF5.out.rd.2.c0
         have a1 := HF5.out.rd.2.c1
         have f1 := HF5.out.rd.2.f1
         obtain ⟨r0, r1, r2, r3, r4, r5, g0, g1, g2, g3, g4, g5⟩ := HF5.out.tm
         simp only [zTm] at r0 r1 r2 r3 r4 r5
         go_wp2_with fail
         refine bodyPost_ret (resTm2 rfl _ _ w.heap.size zTm _ _ (by rfl) (HF5.out.tm.put zTm _ _)) rfl ?_
         rw [HRY.out]
         exact HF5.out.fail HE.out (by simp) hk'
        | nil =>
         obtain rfl : ev = .nilIface := hE
         obtain rfl := hk2 rfl
         have HRY : Hid ((rt, re, rl) = (⟨2, 0, nm, 0, [], []⟩, k', [])) := Lib.hid (HRX.out.trans (if_pos rfl))
         clear hk2
         have a0 := HF5.out.rd.2.c0
         have a1 := HF5.out.rd.2.c1
         have f1 := HF5.out.rd.2.f1
         obtain ⟨r0, r1, r2, r3, r4, r5, g0, g1, g2, g3, g4, g5⟩ := HF5.out.tm
         simp only [zTm] at r0 r1 r2 r3 r4 r5
         go_wp2_with fail
         refine bodyPost_ret (resTm2 rfl _ _ w.heap.size ⟨2, 0, nm, 0, [], []⟩ _ _ (by rfl) (HF5.out.tm.put ⟨2, 0, nm, 0, [], []⟩ _ _)) rfl ?_
         rw [HRY.out]
         exact HF5.out.done ⟨2, 0, nm, 0, [], []⟩ (TmMade.flat _ _ _ _ _ _) hk'
 ·have d0 : ((k0 : Int) == (s.size : Int)) = true := beq_iff_eq.2 (by omega)
  have HRX := Lib.hid (HR0.out.trans (bg_end (F := F) (by omega)))
  clear HR0
  go_wp2_with fail
  go_quiet (fail)
  have HFa := Lib.hid (HF.out.drewN nq)
  clear a0 a1
  generalize w1.drewN nq = w2 at HFa ⊢
  go_wp2_with fail
  refine (rd_text b s k0 d _ HFa.out.rd.2).mono ?_
  rintro e w7 ⟨v, rfl, hE, hB⟩
  have HE := Lib.hid hE
  have HF7 := Lib.hid (HFa.out.below hB)
  clear hE hB
  have a0 := HF7.out.rd.2.c0
  have a1 := HF7.out.rd.2.c1
  have f1 := HF7.out.rd.2.f1
  obtain ⟨r0, r1, r2, r3, r4, r5, g0, g1, g2, g3, g4, g5⟩ := HF7.out.tm
  simp only [zTm] at r0 r1 r2 r3 r4 r5
  go_wp2_with fail
  refine bodyPost_ret (resTm2 rfl _ _ w.heap.size zTm _ _ (by rfl) (HF7.out.tm.put zTm _ _)) rfl ?_
  rw [HRX.out]
  exact HF7.out.fail HE.out (by simp) h0
end Go.Proofs.YtibbcfeaododhaaGreatDoor
set_option linter.unusedSimpArgs false
namespace Go.Proofs.YtibbcfeaododhaaGreatDoor
open Go.RowKit Go.Sort Go.Proofs.YtibbcfeaododhaaGreatDoorW.PrintWords
theorem numAt_fwd {s : ByteArray} {k : Nat} (h : (numAt s k).2.2 = []) : k < (numAt s k).2.1 ∧ (numAt s k).2.1 ≤ s.size := by
 unfold numAt at h ⊢
 cases hd : isDig s k with
 | false => rw [if_pos hd] at h; cases h
 | true =>
  have hq := digs_all hd
  rw [if_neg (by simp [hd])] at h ⊢
  split at h
  ·cases h
  ·rw [if_neg (by assumption)]
   exact ⟨hq.2.2.1, hq.2.2.2⟩
theorem numsAt_fwd {s : ByteArray} : ∀ (n k : Nat), (numsAt s n k).2.2 = [] → k ≤ (numsAt s n k).2.1
 | 0, k, _ => by rw [numsAt]; exact Nat.le_refl _
 | n + 1, k, h => by
  cases hd : isAt s k 46 with
  | false =>
   have e := nums_fail1 (s := s) (k := k) n [] hd
   rw [numsAt, if_pos hd] at h
   cases h
  | true =>
   by_cases h2 : (numAt s (k + 1)).2.2 = []
   ·have e := nums_step (s := s) (k := k) n [] hd h2
    have e1 : numExt [] (numsAt s (n + 1) k) = ((numsAt s (n + 1) k).1, (numsAt s (n + 1) k).2.1, []) := by unfold numExt; rw [if_pos h]; rfl
    rw [e1] at e
    by_cases h3 : (numsAt s n (numAt s (k + 1)).2.1).2.2 = []
    ·unfold numExt at e
     rw [if_pos h3] at e
     have e2 := congrArg (fun q => q.2.1) e
     simp only at e2
     rw [e2]
     have := numsAt_fwd n _ h3
     have := (numAt_fwd h2).1
     omega
    ·unfold numExt at e
     rw [if_neg h3] at e
     exact absurd (congrArg (fun q => q.2.2) e).symm h3
   ·have e := nums_fail2 (s := s) (k := k) n [] hd h2
    unfold numExt at e
    rw [if_pos h] at e
    exact absurd (congrArg (fun q => q.2.2) e).symm h2
theorem atomAt_fwd {s : ByteArray} {k : Nat} (h : (atomAt s k).2.2 = []) : k < (atomAt s k).2.1 ∧ (atomAt s k).2.1 ≤ s.size := by
 unfold atomAt at h ⊢
 cases hb : begAtom s k with
 | false => rw [if_pos hb] at h; cases h
 | true =>
  rw [if_neg (by simp [hb])] at h ⊢
  have hk : k < s.size := by unfold begAtom at hb; rw [Bool.and_eq_true, decide_eq_true_eq] at hb; exact hb.1
  have hr := aScan_range s k hk
  generalize aScan s k = q at h hr ⊢
  obtain ⟨a, e, l⟩ := q
  cases l with
  | nil => exact hr rfl
  | cons x r => simp [overTm] at h
/-- What a reading that went well says of its end. -/
def Good (s : ByteArray) (k : Nat) (r : Rd) : Prop := r.2.2 = [] → k < r.2.1 ∧ r.2.1 ≤ s.size ∧ k + r.1.args.length ≤ r.2.1
theorem good_no (s : ByteArray) (k j : Nat) (c : Int) : Good s k (rdNo j c) := fun h => by cases h
theorem good_err {s : ByteArray} {k : Nat} {l : List Lk} (h : l ≠ []) : Good s k (zTm, 0, l) := fun e => absurd e h
theorem int_good {s : ByteArray} {k j : Nat} (sg : Int) (h : k ≤ j) : Good s k (intAt s k j sg) := by
 unfold intAt
 cases hd : isDig s j with
 | false => rw [if_pos rfl]; exact good_no _ _ _ _
 | true =>
  have hq := digs_all hd
  rw [if_neg (by simp)]
  split
  ·exact good_no _ _ _ _
  ·exact fun _ => ⟨by simp only; omega, hq.2.2.2, by simp only [tmInt, List.length_nil]; omega⟩
theorem whole_good (s : ByteArray) (k : Nat) : Good s k (wholeAt s k) := by
 unfold wholeAt
 split
 ·split
  ·exact good_no _ _ _ _
  ·exact int_good _ (by omega)
 ·exact int_good _ (Nat.le_refl _)
theorem far_good (s : ByteArray) (k : Nat) (kd : Int) (many : Nat) : Good s k (farAt s k kd many) := by
 rw [farAt_eq]
 by_cases h : (atomAt s k).2.2 = []
 ·rw [if_pos h]
  have h1 := atomAt_fwd h
  split
  ·rename_i hn
   exact good_err (by unfold nodeBad; rw [if_neg (by simp [hn])]; simp [overTm])
  ·unfold farEnd
   by_cases h2 : (numsAt s (many + 1) (atomAt s k).2.1).2.2 = []
   ·rw [if_pos h2]
    have h3 := numsAt_fwd _ _ h2
    split
    ·exact good_no _ _ _ _
    ·rename_i hc
     have hlt := isAt_lt (by simpa using hc)
     exact fun _ => ⟨by simp only; omega, by simp only; omega, by simp only [List.length_nil]; omega⟩
   ·rw [if_neg h2]; exact good_err h2
 ·rw [if_neg h]; exact good_err h
theorem tuple_good {F : Nat → Rd} {s : ByteArray} (hF : Fwd s F) {k : Nat} (hk : k ≤ s.size) : Good s k (tupleAt F s k) := by
 rw [tupleAt_eq]
 have hb := blk_ge s k
 have hl := blk_le s k hk
 split
 ·rename_i hc
  have hlt := isAt_lt hc
  exact fun _ => ⟨by simp only; omega, by simp only; omega, by simp only [List.length_nil]; omega⟩
 ·unfold tupEnd
  by_cases h : (sevAt F s (s.size + 1) (blk s k) []).2.2 = []
  ·rw [if_pos h]
   have hs := sev_blk hF (s.size + 1) (blk s k) [] hl (by omega) h
   have h3 := hs.2.2.1
   rw [List.length_nil] at h3
   split
   ·rename_i hc
    have hlt := isAt_lt hc
    exact fun _ => ⟨by simp only; omega, by simp only; omega, by simp only; omega⟩
   ·exact good_no _ _ _ _
  ·rw [if_neg h]; exact good_err h
theorem listEnd_good {s : ByteArray} {k e : Nat} {l : List Tm} {t : Tm} (h1 : k + l.length ≤ e) (h2 : k + l.length + t.args.length ≤ e) (he : k < e) : Good s k (listEnd s l t e) := by
 unfold listEnd
 split
 ·rename_i hc
  have hlt := isAt_lt hc
  refine fun _ => ⟨by simp only; omega, by simp only; omega, ?_⟩
  simp only [joinT]
  split
  ·rw [List.length_append]; omega
  ·rw [List.length_append, List.length_singleton]; omega
 ·exact good_no _ _ _ _
theorem list_good {F : Nat → Rd} {s : ByteArray} (hF : Fwd s F) {k : Nat} (hk : k ≤ s.size) : Good s k (listAt F s k) := by
 rw [listAt_eq]
 have hb := blk_ge s k
 have hl := blk_le s k hk
 split
 ·rename_i hc
  have hlt := isAt_lt hc
  exact fun _ => ⟨by simp only; omega, by simp only; omega, by simp only [tmNil, List.length_nil]; omega⟩
 ·unfold lstEnd
  by_cases h : (sevAt F s (s.size + 1) (blk s k) []).2.2 = []
  ·rw [if_pos h]
   have hs := sev_blk hF (s.size + 1) (blk s k) [] hl (by omega) h
   have h3 := hs.2.2.1
   rw [List.length_nil] at h3
   generalize sevAt F s (s.size + 1) (blk s k) [] = q at h hs h3 ⊢
   split
   ·by_cases h2 : (F (q.2.1 + 1)).2.2 = []
    ·rw [if_pos h2]
     have hq := hF (q.2.1 + 1) (F (q.2.1 + 1)).1 (F (q.2.1 + 1)).2.1 (by rw [← h2])
     have hg := blk_ge s (F (q.2.1 + 1)).2.1
     exact listEnd_good (by omega) (by omega) (by omega)
    ·rw [if_neg h2]; exact good_err h2
   ·exact listEnd_good (by omega) (by simp only [tmNil, List.length_nil]; omega) (by omega)
  ·rw [if_neg h]; exact good_err h
theorem Good.down {s : ByteArray} {k j : Nat} {r : Rd} (h : Good s j r) (hk : k ≤ j) : Good s k r := fun e => by
 have := h e
 omega
theorem begun_good {F : Nat → Rd} {s : ByteArray} (hF : Fwd s F) (k : Nat) : Good s k (begunAt F s k) := by
 by_cases h0 : k < s.size
 ·by_cases c0 : isDigit (bt s (k : Int)) = true ∨ bt s (k : Int) = 45
  ·rw [bg_whole h0 c0]; exact whole_good s k
  ·by_cases c1 : bt s (k : Int) = 123
   ·rw [bg_tuple h0 c1]; exact (tuple_good hF (by omega)).down (by omega)
   ·by_cases c2 : bt s (k : Int) = 91
    ·rw [bg_list h0 c2]; exact (list_good hF (by omega)).down (by omega)
    ·by_cases c3 : bt s (k : Int) = 35
     ·rw [bg_ref h0 c3]
      split
      ·exact (far_good s (k + 5) 3 3).down (by omega)
      ·exact good_no _ _ _ _
     ·by_cases c4 : bt s (k : Int) = 60
      ·rw [bg_pid h0 c4]; exact (far_good s (k + 1) 4 2).down (by omega)
      ·rw [bg_atom h0 c0 c1 c2 c3 c4]
       by_cases h : (atomAt s k).2.2 = []
       ·rw [if_pos h]
        have h1 := atomAt_fwd h
        exact fun _ => ⟨h1.1, h1.2, by simp only [List.length_nil]; omega⟩
       ·rw [if_neg h]; exact good_err h
 ·rw [bg_end (by omega)]; exact good_no _ _ _ _
theorem rdT_fwd (s : ByteArray) : ∀ d, Fwd s (rdT s d)
 | 0 => fun k t e h => by rw [rdT] at h; cases h
 | d + 1 => fun k t e h => by
  have hg := (begun_good (rdT_fwd s d) (blk s k)).down (blk_ge s k)
  rw [rdT] at h
  rw [h] at hg
  exact hg rfl
end Go.Proofs.YtibbcfeaododhaaGreatDoor
set_option linter.unusedSimpArgs false
namespace Go.Proofs.YtibbcfeaododhaaGreatDoor
open Go.RowKit Go.Sort Go.Proofs.YtibbcfeaododhaaGreatDoorW.PrintWords
theorem read11 (b g4 : Nat) (s : ByteArray) (k d : Nat) (hd : d < 1000) (u : FrameMode) (w : World) (hS : RdAt w b s k (d + 1)) (h4 : w.cell? ⟨g4, 0, none⟩ = some (.pointer (some ⟨b, 0, none⟩))) :
  CallsD Tryz.prog 27 #[.pointer (some ⟨g4, 0, none⟩)] u w fun e u' w' => u' = u ∧ (e = .returned (.tuple #[]) ∧ w' = w.setCell ⟨b, 2, none⟩ (.int .i64 (d : Int))) := by
 have h2 := hS.c2
 have f2 := hS.f2
 clear hS
 rw [show ((d + 1 : Nat) : Int) = (d : Int) + 1 by omega] at h2
 go_enter_d Tryz.func27, Tryz.ntmps27
 go_wp2_with fail
 go_end0
 exact ⟨rfl, by simp⟩
theorem ErrIs.kept3 {W W' : World} (he : ∀ b o, (∃ u, W.cell? ⟨b, 3, none⟩ = some u) → W'.cell? ⟨b, o, none⟩ = W.cell? ⟨b, o, none⟩) : ∀ {l : List Lk} {v : Value}, ErrIs W l v → ErrIs W' l v
 | [], _, h => h
 | _ :: _, _, ⟨b, u, e, h0, h1, h2, h3, h4⟩ => ⟨b, u, e, (he b 0 ⟨_, h3⟩).trans h0, (he b 1 ⟨_, h3⟩).trans h1, (he b 2 ⟨_, h3⟩).trans h2, (he b 3 ⟨_, h3⟩).trans h3, ErrIs.kept3 he h4⟩
/-- An error's chain bears the reader's box being written: no link lies there. -/
theorem ErrIs.rd {W : World} {b : Nat} {s : ByteArray} {k d : Nat} {l : List Lk} {v : Value} (h : ErrIs W l v) (hr : RdAt W b s k d) (x : Value) : ErrIs (W.setCell ⟨b, 2, none⟩ x) l v := by
 refine ErrIs.kept3 (W := W) (fun b' o ⟨u, hu⟩ => ?_) h
 have hne : b' ≠ b := fun e => by
  rw [e] at hu
  simp [World.cell?, hr.h] at hu
 exact World.cell?_setCell_other _ _ _ _ (by simp [hne])
set_option maxRecDepth 100000 in
set_option maxHeartbeats 2000000 in
theorem read1 (s : ByteArray) (b g4 g5 : Nat) (hm : s.size ≤ 4194304) : ∀ n d, n + d = 256 → TermSays s b g4 g5 d (rdT s n)
 | n, d, hnd => by
  intro k0 w h0 hS hX
  have hG := hX.gl
  have HX0 := Lib.hid hX
  obtain ⟨w1, hw1⟩ : ∃ W, W = w.alloc (.cells #[.int .i64 0, .int .i64 0, .string ⟨#[]⟩, .int .u32 0, .slice none 0 0, .slice none 0 0] 27) := ⟨_, rfl⟩
  have hF : RdF w w1 b s k0 d := by rw [hw1]; exact RdF.start hS
  have HF := Lib.hid hF
  clear hS hG hF hX
  go_enter_defers Tryz.func25, Tryz.ntmps25
  go_upto_region 1 with (fail)
  rw [← hw1]
  clear hw1
  have HX1 := Lib.hid (HX0.out.step HF.out.rd.1)
  have a4 := HX1.out.c4
  have HSK := Lib.hid (rd_skip b s k0 d h0 hm w1 HF.out.rd.2)
  have hkb := blk_le s k0 h0
  go_wp2_with fail
  refine HSK.out.mono ?_
  rintro e w2 ⟨rfl, hT⟩
  have HF2 := Lib.hid (HF.out.step hT)
  have HX2 := Lib.hid (HX1.out.step hT.1)
  clear hT HSK HF HX1 a4
  have a4 := HX2.out.c4
  have a5 := HX2.out.c5
  have a1 := HF2.out.rd.2.c1
  have a2 := HF2.out.rd.2.c2
  have f2 := HF2.out.rd.2.f2
  match n, hnd with
  | 0, hnd =>
   obtain rfl : d = 256 := by omega
   have hR : rdT s 0 k0 = rdNo (blk s k0) 9 := rfl
   rw [hR]
   go_wp2_with fail
   refine (term_fault _ _ _ _ [] rfl).mono ?_
   rintro e w7 ⟨v, rfl, hE, hB⟩
   have HE := Lib.hid hE
   have HF7 := Lib.hid (HF2.out.below hB)
   clear hE hB a1 a2 f2 a4 a5
   obtain ⟨r0, r1, r2, r3, r4, r5, y0, y1, y2, y3, y4, y5⟩ := HF7.out.tm
   simp only [zTm] at r0 r1 r2 r3 r4 r5
   go_wp2_with fail
   have hp : TermE w b s 256 (rdT s 0 k0) (.returned (.tuple #[tmV zTm vNone vNone, v])) (put6 w7 w.heap.size zTm vNone vNone) := HF7.out.fail HE.out (by simp) hkb
   refine ⟨_, resTm2 rfl _ _ w.heap.size zTm _ _ (by rfl) (HF7.out.tm.put zTm _ _), ?_⟩
   exact hp
  | n + 1, hnd =>
   have d0 : decide ((d : Int) ≥ 256) = false := decide_eq_false (by omega)
   have hR : rdT s (n + 1) k0 = begunAt (rdT s n) s (blk s k0) := rfl
   have IH := Lib.hid (read1 s b g4 g5 hm n (d + 1) (by omega))
   have hmf : ∀ (fn : Fn) (first cap : Array Value) (w : World), (Instr.makeFunc fn first cap).run Tryz.prog w = .ok (.func fn first cap) w := fun _ _ _ _ => rfl
   go_upto_region 5 with (fail)
   have HF3 := Lib.hid (HF2.out.step ((RdTo.refl HF2.out.rd.2).set2 ((d : Int) + 1) (d + 1) (by omega)))
   have HX3 := Lib.hid (HX2.out.step (grown_set w2 b 2 (.int .i64 ((d : Int) + 1))))
   clear a1 a2 f2 a4 a5 HF2 HX2
   generalize w2.setCell ⟨b, 2, none⟩ (.int .i64 ((d : Int) + 1)) = w3 at HF3 HX3 ⊢
   have a4 := HX3.out.c4
   have a5 := HX3.out.c5
   have HCB := Lib.hid (rd_begun b g4 g5 s (blk s k0) (d + 1) (rdT s n) IH.out (rdT_fwd s n) hkb (blk_blk s k0) hm w3 HF3.out.rd.2 HX3.out)
   rw [← hR] at HCB
   obtain ⟨R, hRR⟩ : ∃ R, R = rdT s (n + 1) k0 := ⟨_, rfl⟩
   rw [← hRR] at HCB
   have HRR := Lib.hid hRR
   clear hR hRR
   obtain ⟨rt, re, rl⟩ := R
   go_wp2_with fail
   refine HCB.out.mono ?_
   rintro e w9 ⟨v, ev, rfl, hM, hE, k', hT, hk', hk2⟩
   have hM2 := hM
   obtain ⟨v4, v5, rfl, hM4, hM5⟩ := hM2
   simp only at hM4 hM5
   obtain ⟨A4, c4, rfl⟩ := Kd.R_slice hM4
   obtain ⟨A5, c5, rfl⟩ := Kd.R_slice hM5
   have HF9 := Lib.hid (HF3.out.step hT)
   have HX9 := Lib.hid (HX3.out.step hT.1)
   have HM := Lib.hid hM
   have HE := Lib.hid hE
   clear hM hM4 hM5 hE hT a4 a5
   unfold tmV
   obtain ⟨r0, r1, r2, r3, r4, r5, y0, y1, y2, y3, y4, y5⟩ := HF9.out.tm
   simp only [zTm] at r0 r1 r2 r3 r4 r5
   go_wp2_with fail
   refine leaves_cons (f := 27) (args := #[.pointer (some ⟨g4, 0, none⟩)]) (by simp) (by simp [go_sem]) ?_
   have hput := HF9.out.put rt (.slice A4 rt.nums.length c4) (.slice A5 rt.args.length c5)
   have h4p : (put6 w9 w.heap.size rt (.slice A4 rt.nums.length c4) (.slice A5 rt.args.length c5)).cell? ⟨g4, 0, none⟩ = some (.pointer (some ⟨b, 0, none⟩)) := (put6_far (fun e => by have h1 := HX0.out.c4; have h2 := World.block_lt_of_cell? w _ h1; simp only at h2; omega) _ _ _).trans HX9.out.c4
   refine (read11 b g4 s k' d (by omega) .returning _ hput.2 h4p).mono ?_
   rintro e u' w'' ⟨rfl, rfl, rfl⟩
   have hne : w.heap.size ≠ b := by have := HF9.out.lt; omega
   have htm := (HF9.out.tm.put rt (.slice A4 rt.nums.length c4) (.slice A5 rt.args.length c5)).grown (grown_set (put6 w9 w.heap.size rt (.slice A4 rt.nums.length c4) (.slice A5 rt.args.length c5)) b 2 (.int .i64 (d : Int))) hne
   have hsz : w.heap.size + 1 ≤ w3.heap.size := HF3.out.tm.lt
   have hlt := HF9.out.lt
   have hmd := HM.out.above (W' := (put6 w9 w.heap.size rt (.slice A4 rt.nums.length c4) (.slice A5 rt.args.length c5)).setCell ⟨b, 2, none⟩ (.int .i64 (d : Int))) (fun j hj _ => (Below.heap_setCell _ _ _ _ (by simp only; omega)).trans (put6_heap w9 w.heap.size rt _ _ j (by omega)))
   have her := (HE.out.wrote6 HF9.out.tm.c0 rt (.slice A4 rt.nums.length c4) (.slice A5 rt.args.length c5)).rd hput.2 (.int .i64 (d : Int))
   have hp : TermE w b s d (rt, re, rl) (.returned (.tuple #[tmV rt (.slice A4 rt.nums.length c4) (.slice A5 rt.args.length c5), ev])) ((put6 w9 w.heap.size rt (.slice A4 rt.nums.length c4) (.slice A5 rt.args.length c5)).setCell ⟨b, 2, none⟩ (.int .i64 (d : Int))) :=
    ⟨_, _, rfl, hmd.lower (by omega), her, k', hput.set2 _ d rfl, hk', hk2⟩
   refine ⟨_, resTm2 rfl _ _ w.heap.size rt _ _ (by rfl) htm, ?_⟩
   rw [← HRR.out]
   exact hp
end Go.Proofs.YtibbcfeaododhaaGreatDoor
namespace Go.Proofs.YtibbcfeaododhaaGreatDoor
open Go.RowKit Go.Proofs.YtibbcfeaododhaaGreatDoorW.PrintWords
theorem strOf_size (l : List Int) : (strOfNums l).size = l.length := by
 unfold strOfNums
 simp [ByteArray.size]
theorem quoteOf_len (s : ByteArray) : (quoteOf s).length ≤ 2 + 4 * s.size := by
 have h1 := flat_len (bs s)
 rw [bs_len] at h1
 unfold quoteOf
 simp only [List.length_cons, List.length_append, List.length_nil]
 omega
theorem quoted_size (s : ByteArray) : (quoted s).1.size ≤ 1022 := by
 have h := quoteOf_len s
 unfold quoted
 split
 ·exact Nat.zero_le 1022
 ·split
  ·exact Nat.zero_le 1022
  ·split
   ·simp only
    omega
   ·simp only
    rw [strOf_size]
    omega
theorem quoted_small (s : ByteArray) : (quoted s).1.size ≤ 2 + 4 * s.size := by
 have h := quoteOf_len s
 unfold quoted
 split
 ·exact Nat.zero_le _
 ·split
  ·exact Nat.zero_le _
  ·split
   ·simp only
    omega
   ·simp only
    rw [strOf_size]
    exact h
theorem itoaI_len {n : Int} (h0 : -9223372036854775808 ≤ n) (h1 : n ≤ 9223372036854775807) : (itoaI n).length ≤ 21 := by
 unfold itoaI
 rw [List.length_map]
 exact Lib.itoa_length_le n h0 h1
/-! ### where a part's text stands -/
def sepPre (c : List Int) (l : List (List Int)) : List Int := if l = [] then [] else sepBy c l ++ c
def sepPost (c : List Int) (l : List (List Int)) : List Int := if l = [] then [] else c ++ sepBy c l
theorem sepBy_cons (c a : List Int) (l : List (List Int)) : sepBy c (a :: l) = a ++ sepPost c l := by
 cases l with
 | nil => simp [sepBy, sepPost]
 | cons b l => simp [sepBy, sepPost]
theorem sepBy_split (c a : List Int) : ∀ (l r : List (List Int)), sepBy c (l ++ a :: r) = sepPre c l ++ (a ++ sepPost c r)
 | [], r => by rw [List.nil_append, sepBy_cons]; rfl
 | b :: l, r => by
  rw [List.cons_append, sepBy_cons]
  have h : sepPost c (l ++ a :: r) = c ++ sepBy c (l ++ a :: r) := by
   unfold sepPost
   rw [if_neg (fun e => by have := congrArg List.length e; simp at this)]
  have h2 : sepPre c (b :: l) = b ++ (sepPost c l ++ c) := by
   unfold sepPre
   rw [if_neg (fun e => by cases e), sepBy_cons, List.append_assoc]
  rw [h, sepBy_split c a l r, h2]
  cases l with
  | nil => simp [sepPre, sepPost]
  | cons d l => simp [sepPre, sepPost]
theorem sepBy_snoc (c a : List Int) (l : List (List Int)) : sepBy c (l ++ [a]) = sepPre c l ++ a := by
 rw [sepBy_split]
 simp [sepPost]
/-! ### how many parts -/
mutual
def cntT : Tm → Nat
 | ⟨_, _, _, _, _, us⟩ => 1 + cntL us
def cntL : List Tm → Nat
 | [] => 0
 | a :: us => cntT a + cntL us
end
theorem cntT_eq (t : Tm) : cntT t = 1 + cntL t.args := by
 cases t
 rw [cntT]
theorem meas_cnt (t : Tm) : ∀ d n m, (measT t d n m).1 = [] → (measT t d n m).2.1 = n + cntT t := by
 induction t using Tm.ind with
 | h t ih =>
  intro d n m h
  obtain ⟨_, _, h3, h4, _⟩ := meas_parts h
  rw [h4, cntT_eq]
  have hl : ∀ (l : List Tm), (∀ a ∈ l, a ∈ t.args) → ∀ d n m, (measL l d n m).1 = [] → (measL l d n m).2.1 = n + cntL l := by
   intro l
   induction l with
   | nil => intro _ d n m _; rw [measL, cntL]; simp
   | cons a l ihl =>
    intro hs d n m h
    rw [measL] at h ⊢
    match he : measT a d n m with
    | ([], n', m') =>
     rw [he] at h
     simp only at h ⊢
     have h1 := ih a (hs a (by simp)) d n m (by rw [he])
     rw [he] at h1
     simp only at h1
     rw [ihl (fun x hx => hs x (by simp [hx])) d n' m' h, h1, cntL]
     omega
    | (x :: r, n', m') => rw [he] at h; cases h
  rw [hl t.args (fun _ h => h) _ _ _ h3]
  omega
theorem chk_cnt {t : Tm} (h : chk t = []) : cntT t ≤ 4096 := by
 have h1 := meas_cnt t 1 0 0 h
 have h2 := meas_range t 1 0 0 (by decide) (by decide) (by decide) (by decide) (by decide) h
 omega
theorem sepBy_len (c : List Int) (hc : c.length ≤ 1) : ∀ (l : List (List Int)), (sepBy c l).length ≤ (l.map List.length).sum + l.length
 | [] => by simp [sepBy]
 | a :: l => by
  rw [sepBy_cons, List.length_append, List.map_cons, List.sum_cons, List.length_cons]
  have h := sepBy_len c hc l
  unfold sepPost
  split
  ·simp; omega
  ·rw [List.length_append]; omega
theorem nums_len : ∀ (l : List Int), (∀ n ∈ l, isU32 n) → (numsTxt l).length ≤ 22 * l.length
 | [], _ => by simp [numsTxt]
 | n :: l, h => by
  have h1 := nums_len l (fun x hx => h x (by simp [hx]))
  have h2 := itoaI_len (n := n) (by have := (h n (by simp)).1; omega) (by have := (h n (by simp)).2; omega)
  unfold numsTxt at h1 ⊢
  simp only [List.flatMap_cons, List.length_append, List.length_cons]
  omega
theorem shape_of {t : Tm} (h : okT t = true) : shapeOk t = true := by
 rw [okT_eq, Bool.and_eq_true] at h
 exact h.1
theorem shape_ref {t : Tm} (h : okT t = true) (hk : t.kd = 3) : t.nums.length = 3 := by
 have h3 := shape_of h
 unfold shapeOk at h3
 rw [if_neg (by omega), if_neg (by omega), if_pos hk] at h3
 simp at h3
 exact h3.2
theorem shape_pid {t : Tm} (h : okT t = true) (hk : t.kd = 4) : t.nums.length = 2 := by
 have h3 := shape_of h
 unfold shapeOk at h3
 rw [if_neg (by omega), if_neg (by omega), if_neg (by omega), if_pos hk] at h3
 simp at h3
 exact h3.2
def small64 (n : Int) : Prop := -9223372036854775808 ≤ n ∧ n ≤ 9223372036854775807
theorem txt_len (t : Tm) : okT t = true → wfT t = true → (t.kd = 1 → small64 t.it) → (t.kd = 3 ∨ t.kd = 4 → t.tx.size ≤ 64) → (∀ a, a ∈ t.args → (txtT [] a).length + 2 ≤ 1024 * cntT a) → (txtT [] t).length + 2 ≤ 1024 * cntT t := by
 intro hok hwf hit hnd ih
 have hqs := quoted_small t.tx
 have hqls : (bs (quoted t.tx).1).length ≤ 2 + 4 * t.tx.size := by rw [bs_len]; exact hqs
 have hkd := shape_kd hok
 have hq := quoted_size t.tx
 have hql : (bs (quoted t.tx).1).length ≤ 1022 := by rw [bs_len]; exact hq
 have hc := cntT_eq t
 have hal : ∀ l : List Tm, (∀ a ∈ l, (txtT [] a).length + 2 ≤ 1024 * cntT a) → ((l.map (txtT [])).map List.length).sum + l.length ≤ 1024 * cntL l := by
  intro l
  induction l with
  | nil => intro _; simp
  | cons a l ihl =>
   intro h
   have h1 := h a (by simp)
   have h2 := ihl (fun x hx => h x (by simp [hx]))
   rw [cntL]
   simp only [List.map_cons, List.sum_cons, List.length_cons]
   omega
 have hal2 := hal t.args ih
 rw [txtT_eq]
 rcases (show t.kd = 1 ∨ t.kd = 2 ∨ t.kd = 3 ∨ t.kd = 4 ∨ t.kd = 5 ∨ t.kd = 6 ∨ t.kd = 7 by omega) with hk | hk | hk | hk | hk | hk | hk
 ·rw [if_pos hk]
  have := itoaI_len (hit hk).1 (hit hk).2
  omega
 ·rw [if_neg (by omega), if_pos hk]
  omega
 ·rw [if_neg (by omega), if_neg (by omega), if_pos hk]
  have hn := shape_ref hok hk
  have hn64 := hnd (.inl hk)
  have h2 := nums_len (t.cr :: t.nums) (wf_nums hwf)
  unfold farTxt
  unfold numsTxt at h2
  simp only [List.length_cons, List.length_append, List.length_nil] at h2 ⊢
  omega
 ·rw [if_neg (by omega), if_neg (by omega), if_neg (by omega), if_pos hk]
  have hn := shape_pid hok hk
  have hn64 := hnd (.inr hk)
  have h2 := nums_len (t.cr :: t.nums) (wf_nums hwf)
  unfold farTxt
  unfold numsTxt at h2
  simp only [List.length_cons, List.length_append, List.length_nil] at h2 ⊢
  omega
 ·rw [if_neg (by omega), if_neg (by omega), if_neg (by omega), if_neg (by omega), if_pos hk]
  have h1 := sepBy_len [44] (by simp) (t.args.map (txtT []))
  rw [List.length_map] at h1
  simp only [List.nil_append, List.length_cons, List.length_append, List.length_nil]
  omega
 ·rw [if_neg (by omega), if_neg (by omega), if_neg (by omega), if_neg (by omega), if_neg (by omega), if_pos hk]
  simp only [List.nil_append, List.length_cons, List.length_nil]
  omega
 ·rw [if_neg (by omega), if_neg (by omega), if_neg (by omega), if_neg (by omega), if_neg (by omega), if_neg (by omega)]
  obtain ⟨hl2, _⟩ := shape_list hok hk
  obtain ⟨i, x, hix⟩ := dropLast_snoc (l := t.args) (by intro e; rw [e] at hl2; simp at hl2)
  rw [hix] at hal2 hc ⊢
  have h1 := sepBy_len [44] (by simp) (i.map (txtT []))
  rw [List.length_map] at h1
  rw [List.map_append, List.map_append] at hal2
  simp only [List.map_cons, List.map_nil, List.sum_append, List.sum_cons, List.sum_nil, List.length_append, List.length_cons, List.length_nil] at hal2
  simp only [List.nil_append, List.map_append, List.map_cons, List.map_nil, List.dropLast_concat, List.getLastD_concat, List.length_cons, List.length_append, List.length_nil]
  split
  ·simp only [List.length_nil]; omega
  ·simp only [List.length_cons]; omega
theorem txt_size (t : Tm) : ∀ D n m, (measT t D n m).1 = [] → wfT t = true → (txtT [] t).length + 2 ≤ 1024 * cntT t := by
 induction t using Tm.ind with
 | h t ih =>
  intro D n m h hwf
  have hok := meas_ok t D n m h
  obtain ⟨_, hf, h3, _, _⟩ := meas_parts h
  refine txt_len t hok hwf (fun hk => ?_) (fun hk => ?_) (fun a ha => ?_)
  ·have := form_int hf hk
   unfold small64
   omega
  ·have h := form_node hf hk
   unfold nodeOk nodeOkL at h
   simp only [Bool.and_eq_true, decide_eq_true_eq] at h
   have := h.1.1.1.2
   rw [bs_len] at this
   exact this
  ·obtain ⟨n', m', h4⟩ := measL_mem h3 a ha
   exact ih a ha _ n' m' h4 (wfL_mem (wf_args hwf) ha)
theorem chk_txt {t : Tm} (h : chk t = []) (hw : wfT t = true) : (txtT [] t).length ≤ 4194302 := by
 have h1 := txt_size t 1 0 0 h hw
 have h2 := chk_cnt h
 omega
end Go.Proofs.YtibbcfeaododhaaGreatDoor
set_option linter.unusedSimpArgs false
namespace Go.Proofs.YtibbcfeaododhaaGreatDoor
open Go.RowKit Go.Sort Go.Proofs.YtibbcfeaododhaaGreatDoorW.PrintWords
/-- Sizes and numbers are in bounds. -/
def inT (t : Tm) : Bool := smT t && wfT t
def inL (l : List Tm) : Bool := smL l && wfL l
theorem inL_iff (l : List Tm) : inL l = true ↔ ∀ a ∈ l, inT a = true := by
 unfold inL inT
 induction l with
 | nil => simp [smL, wfL]
 | cons a l ih =>
  rw [smL, wfL]
  simp only [Bool.and_eq_true, List.mem_cons, forall_eq_or_imp] at ih ⊢
  constructor
  ·rintro ⟨⟨h1, h2⟩, h3, h4⟩
   exact ⟨⟨h1, h3⟩, ih.1 ⟨h2, h4⟩⟩
  ·rintro ⟨⟨h1, h3⟩, h⟩
   have := ih.2 h
   exact ⟨⟨h1, this.1⟩, h3, this.2⟩
theorem inT_mk {t : Tm} (h1 : t.tx.size ≤ 140737488351232) (h2 : 0 ≤ t.cr ∧ t.cr ≤ 4294967295) (h3 : ∀ n ∈ t.nums, 0 ≤ n ∧ n ≤ 4294967295) (h4 : inL t.args = true) : inT t = true := by
 unfold inL at h4
 rw [Bool.and_eq_true] at h4
 unfold inT
 rw [smT_eq, wfT_eq, h4.1, h4.2]
 simp only [Bool.and_eq_true, decide_eq_true_eq, List.all_eq_true, and_true]
 exact ⟨h1, h2, h3⟩
theorem in_zero : inT zTm = true := inT_mk (Nat.zero_le _) (by decide) (fun n h => by cases h) rfl
theorem numAt_in (s : ByteArray) (k : Nat) : 0 ≤ (numAt s k).1 ∧ (numAt s k).1 ≤ 4294967295 := by
 unfold numAt
 split
 ·exact ⟨Int.le_refl 0, by simp⟩
 ·rename_i hd
  have hd' : isDig s k = true := by simpa using hd
  have h := decAt_txt (digs_all hd').1
  split
  ·exact ⟨Int.le_refl 0, by simp⟩
  ·simp only
   omega
theorem numsAt_in (s : ByteArray) : ∀ (n k : Nat), ∀ x ∈ (numsAt s n k).1, 0 ≤ x ∧ x ≤ 4294967295
 | 0, k, x, h => by rw [numsAt] at h; cases h
 | n + 1, k, x, h => by
  rw [numsAt] at h
  have h1 := numAt_in s (k + 1)
  split at h
  ·cases h
  ·generalize numAt s (k + 1) = q at h h1
   obtain ⟨v, e, l⟩ := q
   cases l with
   | cons y r => cases h
   | nil =>
    simp only at h
    have h2 := numsAt_in s n e
    generalize numsAt s n e = p at h h2
    obtain ⟨vs, e', l'⟩ := p
    cases l' with
    | cons y r => cases h
    | nil =>
     simp only [List.mem_cons] at h
     rcases h with rfl | h
     ·exact h1
     ·exact h2 x h
theorem int_in (s : ByteArray) (k j : Nat) (sg : Int) : inT (intAt s k j sg).1 = true := by
 unfold intAt rdNo
 split
 ·exact in_zero
 ·split
  ·exact in_zero
  ·exact inT_mk (Nat.zero_le _) (by simp [tmInt]) (fun n h => by cases h) rfl
theorem whole_in (s : ByteArray) (k : Nat) : inT (wholeAt s k).1 = true := by
 unfold wholeAt rdNo
 split
 ·split
  ·exact in_zero
  ·exact int_in _ _ _ _
 ·exact int_in _ _ _ _
theorem far_in (s : ByteArray) (k : Nat) (kd : Int) (many : Nat) : inT (farAt s k kd many).1 = true := by
 rw [farAt_eq]
 have h1 := atomAt_small s k
 split
 ·split
  ·exact in_zero
  ·unfold farEnd rdNo
   have h2 := numsAt_in s (many + 1) (atomAt s k).2.1
   generalize numsAt s (many + 1) (atomAt s k).2.1 = q at h2 ⊢
   split
   ·split
    ·exact in_zero
    ·refine inT_mk (by simp only; omega) ?_ ?_ rfl
     ·cases hq : q.1 with
      | nil => simp
      | cons a l => exact h2 a (by rw [hq]; simp)
     ·intro n hn
      exact h2 n (List.mem_of_mem_tail hn)
   ·exact in_zero
 ·exact in_zero
theorem sev_in {F : Nat → Rd} (s : ByteArray) (hF : ∀ k, inT (F k).1 = true) : ∀ (m k : Nat) (acc : List Tm), inL acc = true → inL (sevAt F s m k acc).1 = true
 | 0, k, acc, _ => by rw [sevAt]; rfl
 | m + 1, k, acc, ha => by
  have hk := hF k
  have hs : inL (acc ++ [(F k).1]) = true := by
   rw [inL_iff] at ha ⊢
   intro a h
   rcases List.mem_append.1 h with h | h
   ·exact ha a h
   ·rw [List.mem_singleton.1 h]; exact hk
  by_cases he : (F k).2.2 = []
  ·cases hc : isAt s (blk s (F k).2.1) 44 with
   | true => rw [sev_more he hc]; exact sev_in s hF m _ _ hs
   | false => rw [sev_last he hc]; exact hs
  ·rw [sev_err he]; rfl
theorem tuple_in {F : Nat → Rd} (s : ByteArray) (hF : ∀ k, inT (F k).1 = true) (k : Nat) : inT (tupleAt F s k).1 = true := by
 rw [tupleAt_eq]
 split
 ·exact inT_mk (Nat.zero_le _) (by simp) (fun n h => by cases h) rfl
 ·unfold tupEnd rdNo
  have h := sev_in s hF (s.size + 1) (blk s k) [] rfl
  split
  ·split
   ·exact inT_mk (Nat.zero_le _) (by simp) (fun n h => by cases h) h
   ·exact in_zero
  ·exact in_zero
theorem in_args {t : Tm} (h : inT t = true) : inL t.args = true := by
 unfold inT at h
 rw [Bool.and_eq_true] at h
 unfold inL
 rw [sm_args h.1, wf_args h.2]
 rfl
theorem join_in {l : List Tm} {t : Tm} (hl : inL l = true) (ht : inT t = true) : inT (joinT l t) = true := by
 unfold joinT
 refine inT_mk (Nat.zero_le _) (by simp) (fun n h => by cases h) ?_
 have ha := in_args ht
 rw [inL_iff] at hl ha ⊢
 simp only
 split
 ·intro a h
  rcases List.mem_append.1 h with h | h
  ·exact hl a h
  ·exact ha a h
 ·intro a h
  rcases List.mem_append.1 h with h | h
  ·exact hl a h
  ·rw [List.mem_singleton.1 h]; exact ht
theorem listEnd_in (s : ByteArray) {l : List Tm} {t : Tm} (k : Nat) (hl : inL l = true) (ht : inT t = true) : inT (listEnd s l t k).1 = true := by
 unfold listEnd rdNo
 split
 ·exact join_in hl ht
 ·exact in_zero
theorem in_nil : inT tmNil = true := inT_mk (Nat.zero_le _) (by decide) (fun n h => by cases h) rfl
theorem list_in {F : Nat → Rd} (s : ByteArray) (hF : ∀ k, inT (F k).1 = true) (k : Nat) : inT (listAt F s k).1 = true := by
 rw [listAt_eq]
 split
 ·exact in_nil
 ·unfold lstEnd
  have h := sev_in s hF (s.size + 1) (blk s k) [] rfl
  split
  ·split
   ·split
    ·exact listEnd_in s _ h (hF _)
    ·exact in_zero
   ·exact listEnd_in s _ h in_nil
  ·exact in_zero
theorem begun_in {F : Nat → Rd} (s : ByteArray) (hF : ∀ k, inT (F k).1 = true) (k : Nat) : inT (begunAt F s k).1 = true := by
 unfold begunAt rdNo
 split
 ·exact in_zero
 ·split
  ·exact whole_in s k
  ·split
   ·exact tuple_in s hF _
   ·split
    ·exact list_in s hF _
    ·split
     ·split
      ·exact far_in _ _ _ _
      ·exact in_zero
     ·split
      ·exact far_in _ _ _ _
      ·have h := atomAt_small s k
       generalize atomAt s k = q at h ⊢
       obtain ⟨a, e, l⟩ := q
       cases l with
       | nil => exact inT_mk (by simp only at h ⊢; omega) (by simp) (fun n h => by cases h) rfl
       | cons x r => exact in_zero
theorem rdT_in (s : ByteArray) : ∀ d k, inT (rdT s d k).1 = true
 | 0, k => by rw [rdT]; exact in_zero
 | d + 1, k => by rw [rdT]; exact begun_in s (rdT_in s d) _
theorem rdAll_in (s : ByteArray) : inT (rdAll s).1 = true := by
 unfold rdAll
 split
 ·exact in_zero
 ·have h := rdT_in s 256 0
  generalize rdT s 256 0 = q at h ⊢
  obtain ⟨t, e, l⟩ := q
  cases l with
  | nil =>
   simp only
   unfold rdEnd
   split
   ·exact in_zero
   ·split
    ·exact h
    ·exact in_zero
  | cons x r => exact in_zero
theorem inT_sm {t : Tm} (h : inT t = true) : smT t = true := by unfold inT at h; rw [Bool.and_eq_true] at h; exact h.1
theorem inT_wf {t : Tm} (h : inT t = true) : wfT t = true := by unfold inT at h; rw [Bool.and_eq_true] at h; exact h.2
end Go.Proofs.YtibbcfeaododhaaGreatDoor
set_option linter.unusedSimpArgs false
namespace Go.Proofs.YtibbcfeaododhaaGreatDoor
open Go.RowKit Go.Sort Go.Proofs.YtibbcfeaododhaaGreatDoorW.PrintWords
def ReadPost (w : World) (r : Tm × List Lk) (e : Ending) (w' : World) : Prop :=
 ∃ (v ev : Value), e = .returned (.tuple #[v, ev]) ∧ TmMade w' w.heap.size r.1 v ∧ ErrIs w' r.2 ev ∧ Below w.heap.size w w'
theorem four_boxes (w : World) (s : ByteArray) : ∃ w4, w4 = (((w.alloc (.cells #[.int .i64 0, .int .i64 0, .string ⟨#[]⟩, .int .u32 0, .slice none 0 0, .slice none 0 0] 27)).alloc (.cells #[.string s, .int .i64 0, .int .i64 0] tyRd)).alloc (.cells #[.pointer (some ⟨w.heap.size + 1, 0, none⟩)] 54)).alloc (.cells #[.nilFunc] 57) ∧
  TmAt w4 w.heap.size zTm vNone vNone ∧ RdAt w4 (w.heap.size + 1) s 0 0 ∧ w4.cell? ⟨w.heap.size + 1 + 1, 0, none⟩ = some (.pointer (some ⟨w.heap.size + 1, 0, none⟩)) ∧ w4.cell? ⟨w.heap.size + 1 + 1 + 1, 0, none⟩ = some .nilFunc ∧ w4.frozen? ⟨w.heap.size + 1 + 1 + 1, 0, none⟩ = false ∧ Below w.heap.size w w4 := by
 have h1 : TmAt (w.alloc (.cells #[.int .i64 0, .int .i64 0, .string ⟨#[]⟩, .int .u32 0, .slice none 0 0, .slice none 0 0] 27)) w.heap.size zTm vNone vNone := TmAt.new w zTm vNone vNone
 have hb1 := below_alloc (Below.refl w.heap.size w) (.cells #[.int .i64 0, .int .i64 0, .string ⟨#[]⟩, .int .u32 0, .slice none 0 0, .slice none 0 0] 27)
 have s1 : (w.alloc (.cells #[.int .i64 0, .int .i64 0, .string ⟨#[]⟩, .int .u32 0, .slice none 0 0, .slice none 0 0] 27)).heap.size = w.heap.size + 1 := by simp
 generalize w.alloc (.cells #[.int .i64 0, .int .i64 0, .string ⟨#[]⟩, .int .u32 0, .slice none 0 0, .slice none 0 0] 27) = w1 at h1 hb1 s1 ⊢
 have hb2 := below_alloc (Below.refl w1.heap.size w1) (.cells #[.string s, .int .i64 0, .int .i64 0] tyRd)
 have h2 := heap_alloc_new w1 (.cells #[.string s, .int .i64 0, .int .i64 0] tyRd)
 have s2 : (w1.alloc (.cells #[.string s, .int .i64 0, .int .i64 0] tyRd)).heap.size = w1.heap.size + 1 := by simp
 generalize w1.alloc (.cells #[.string s, .int .i64 0, .int .i64 0] tyRd) = w2 at hb2 h2 s2 ⊢
 have hb3 := below_alloc (Below.refl w2.heap.size w2) (.cells #[.pointer (some ⟨w.heap.size + 1, 0, none⟩)] 54)
 have h3 := heap_alloc_new w2 (.cells #[.pointer (some ⟨w.heap.size + 1, 0, none⟩)] 54)
 have s3 : (w2.alloc (.cells #[.pointer (some ⟨w.heap.size + 1, 0, none⟩)] 54)).heap.size = w2.heap.size + 1 := by simp
 generalize w2.alloc (.cells #[.pointer (some ⟨w.heap.size + 1, 0, none⟩)] 54) = w3 at hb3 h3 s3 ⊢
 have hb4 := below_alloc (Below.refl w3.heap.size w3) (.cells #[.nilFunc] 57)
 have h4 := heap_alloc_new w3 (.cells #[.nilFunc] 57)
 generalize w3.alloc (.cells #[.nilFunc] 57) = w4 at hb4 h4 ⊢
 rw [s1] at h2 s2
 rw [s2] at h3 s3
 rw [s3] at h4
 have e3 := (hb4.block (w.heap.size + 1 + 1) (by omega)).trans h3
 have e2 := (hb4.block (w.heap.size + 1) (by omega)).trans ((hb3.block (w.heap.size + 1) (by omega)).trans h2)
 have k2 := h1.below hb2 (by omega)
 have k3 := k2.below hb3 (by omega)
 have k4 := k3.below hb4 (by omega)
 refine ⟨w4, rfl, k4, ⟨e2⟩, by simp [World.cell?, e3], by simp [World.cell?, h4], by simp [World.frozen?, h4], ?_⟩
 exact trans_below (trans_below (trans_below hb1 hb2) hb3) hb4
/-- Read's walk: its result's box, its reader, the reader's box. -/
structure RdW (w W : World) (s : ByteArray) (k : Nat) : Prop where
 bl : Below w.heap.size w W
 tm : TmAt W w.heap.size zTm vNone vNone
 rd : RdAt W (w.heap.size + 1) s k 0
 c4 : W.cell? ⟨w.heap.size + 1 + 1, 0, none⟩ = some (.pointer (some ⟨w.heap.size + 1, 0, none⟩))
theorem RdW.step {w W W' : World} {s : ByteArray} {k k' : Nat} (h : RdW w W s k) (hT : RdTo W (w.heap.size + 1) s k' 0 W') : RdW w W' s k' := by
 refine ⟨h.bl.trans (below_of_grown hT.1 (by omega) h.bl.size), h.tm.grown hT.1 (by omega), hT.2, (hT.1.cell_far ⟨w.heap.size + 1 + 1, 0, none⟩ (World.block_lt_of_cell? W _ h.c4) (by simp)).trans h.c4⟩
theorem RdW.below {w W W' : World} {s : ByteArray} {k : Nat} (h : RdW w W s k) (hb : Below W.heap.size W W') : RdW w W' s k :=
 h.step ((RdTo.refl h.rd).below hb)
theorem RdW.fail {w W : World} {s : ByteArray} {k : Nat} (h : RdW w W s k) {l : List Lk} {ev : Value} (hE : ErrIs W l ev) : ReadPost w (zTm, l) (.returned (.tuple #[tmV zTm vNone vNone, ev])) (put6 W w.heap.size zTm vNone vNone) :=
 ⟨_, _, rfl, TmMade.zero _ _, hE.wrote6 h.tm.c0 _ _ _, h.bl.trans (below_of_grown (grown_put6 W w.heap.size zTm vNone vNone) (Nat.le_refl _) h.bl.size)⟩
theorem read_fail {w W : World} {l : List Lk} {ev : Value} (hb : Below w.heap.size w W) (htm : TmAt W w.heap.size zTm vNone vNone) (hE : ErrIs W l ev) : ReadPost w (zTm, l) (.returned (.tuple #[tmV zTm vNone vNone, ev])) (put6 W w.heap.size zTm vNone vNone) :=
 ⟨_, _, rfl, TmMade.zero _ _, hE.wrote6 htm.c0 _ _ _, hb.trans (below_of_grown (grown_put6 W w.heap.size zTm vNone vNone) (Nat.le_refl _) hb.size)⟩
theorem TmMade.R {W : World} {base : Nat} {t : Tm} {A4 A5 : Option Addr} {c4 c5 : Nat} (h : TmMade W base t (tmV t (.slice A4 t.nums.length c4) (.slice A5 t.args.length c5))) : TmR W t A4 c4 A5 c5 := by
 obtain ⟨B4, d4, B5, d5, e, hR⟩ := h.is
 unfold tmV at e
 injection e with e
 injection e with e
 simp only [List.cons.injEq, Value.slice.injEq, and_true, true_and] at e
 obtain ⟨⟨rfl, rfl⟩, rfl, rfl⟩ := e
 exact hR
theorem RdW.done {w W : World} {s : ByteArray} {k base : Nat} {t : Tm} {v4 v5 : Value} (h : RdW w W s k) (hm : TmMade W base t (tmV t v4 v5)) (hb : w.heap.size < base) : ReadPost w (t, []) (.returned (.tuple #[tmV t v4 v5, .nilIface])) (put6 W w.heap.size t v4 v5) :=
 ⟨_, _, rfl, (hm.above (fun j hj _ => put6_heap W w.heap.size t v4 v5 j (by omega))).lower (by omega), rfl, h.bl.trans (below_of_grown (grown_put6 W w.heap.size t v4 v5) (Nat.le_refl _) h.bl.size)⟩
theorem rdAll_eq {s : ByteArray} (h : ¬ 4194304 < s.size) : rdAll s = if (rdT s 256 0).2.2 = [] then rdEnd s (rdT s 256 0).1 (blk s (rdT s 256 0).2.1) else (zTm, (rdT s 256 0).2.2) := by
 unfold rdAll
 rw [if_neg h]
 obtain ⟨t, e, l⟩ := rdT s 256 0
 cases l with
 | nil => rfl
 | cons x r => rfl
set_option maxRecDepth 100000 in
set_option maxHeartbeats 4000000 in
theorem term_Read (s : ByteArray) (hm : s.size ≤ 140737488351232) (w : World) (hG : Glob w) :
  Calls Tryz.prog 7 #[.string s] w (ReadPost w (rdAll s)) := by
 have HG := Lib.hid hG
 obtain ⟨R, hR⟩ : ∃ R, R = rdAll s := ⟨_, rfl⟩
 rw [← hR]
 clear hG
 have hmf : ∀ (fn : Fn) (first cap : Array Value) (w : World), (Instr.makeFunc fn first cap).run Tryz.prog w = .ok (.func fn first cap) w := fun _ _ _ _ => rfl
 by_cases hl : 4194304 < s.size
 ·have d0 : decide ((s.size : Int) > 4194304) = true := decide_eq_true (by omega)
  have HR : Hid (R = (zTm, [⟨nTerm, 0, 4⟩])) := Lib.hid (hR.trans (by unfold rdAll; rw [if_pos hl]))
  obtain ⟨w1, hw1⟩ : ∃ W, W = w.alloc (.cells #[.int .i64 0, .int .i64 0, .string ⟨#[]⟩, .int .u32 0, .slice none 0 0, .slice none 0 0] 27) := ⟨_, rfl⟩
  have HT1 : Hid (TmAt w1 w.heap.size zTm vNone vNone) := Lib.hid (by rw [hw1]; exact TmAt.new w zTm vNone vNone)
  have HB1 : Hid (Below w.heap.size w w1) := Lib.hid (by rw [hw1]; exact below_alloc (Below.refl _ _) _)
  clear hR hl
  go_enter Tryz.func7, Tryz.ntmps7
  go_upto_region 1 with (fail)
  rw [← hw1]
  clear hw1
  go_wp2_with fail
  refine (term_fault _ _ _ _ [] rfl).mono ?_
  rintro e w2 ⟨v, rfl, hE, hB⟩
  have HE := Lib.hid hE
  have HT2 := Lib.hid (HT1.out.below hB HT1.out.lt)
  have HB2 := Lib.hid (trans_below HB1.out hB)
  clear hE hB
  obtain ⟨r0, r1, r2, r3, r4, r5, g0, g1, g2, g3, g4, g5⟩ := HT2.out
  simp only [zTm] at r0 r1 r2 r3 r4 r5
  go_wp2_with fail
  refine bodyPost_ret (resTm2 rfl _ _ w.heap.size zTm _ _ (by rfl) (HT2.out.put zTm _ _)) rfl ?_
  rw [HR.out]
  exact read_fail HB2.out HT2.out HE.out
 ·have d0 : decide ((s.size : Int) > 4194304) = false := decide_eq_false (by omega)
  have HR := Lib.hid (hR.trans (rdAll_eq hl))
  have hsz : s.size ≤ 4194304 := by omega
  clear hR hl
  obtain ⟨w4, hw4, htm, hr, c4, c5, f5, hb4⟩ := four_boxes w s
  have HR4 := Lib.hid hr
  have HTM := Lib.hid htm
  have HB4 := Lib.hid hb4
  have HC4 := Lib.hid c4
  clear hr htm hb4 c4
  go_enter Tryz.func7, Tryz.ntmps7
  go_upto_region 5 with (fail)
  rw [← hw4]
  clear hw4
  have hst : (store ⟨w.heap.size + 1 + 1 + 1, 0, none⟩ (tv (w.heap.size + 1 + 1) (w.heap.size + 1 + 1 + 1))).run Tryz.prog w4 = .ok () (w4.setCell ⟨w.heap.size + 1 + 1 + 1, 0, none⟩ (tv (w.heap.size + 1 + 1) (w.heap.size + 1 + 1 + 1))) := by
   rw [run_store _ _ _ _ _ rfl]
   simp [stored, c5, f5]
  go_upto_region 6 with (fail)
  have HX5 : Hid (Boxes (w4.setCell ⟨w.heap.size + 1 + 1 + 1, 0, none⟩ (tv (w.heap.size + 1 + 1) (w.heap.size + 1 + 1 + 1))) (w.heap.size + 1) (w.heap.size + 1 + 1) (w.heap.size + 1 + 1 + 1)) := by
   refine Lib.hid ⟨?_, ?_, by omega, by omega, w.heap.size, by omega, ?_, fun W hW => HG.out.below ((HB4.out.setCell (by simp only; omega) _).trans hW)⟩
   ·rw [World.cell?_setCell_other _ _ _ _ (by simp)]; exact HC4.out
   ·exact World.cell?_setCell_same (u := .nilFunc) _ _ _ c5
   ·exact (HB4.out.setCell (p := ⟨w.heap.size + 1 + 1 + 1, 0, none⟩) (by simp only; omega) _).size
  have HW5 : Hid (RdW w (w4.setCell ⟨w.heap.size + 1 + 1 + 1, 0, none⟩ (tv (w.heap.size + 1 + 1) (w.heap.size + 1 + 1 + 1))) s 0) := by
   refine Lib.hid ⟨HB4.out.setCell (by simp only; omega) _, HTM.out.grown (grown_set w4 (w.heap.size + 1 + 1 + 1) 0 _) (by omega), ⟨?_⟩, ?_⟩
   ·rw [Below.heap_setCell _ _ _ _ (by simp only; omega)]; exact HR4.out.h
   ·rw [World.cell?_setCell_other _ _ _ _ (by simp)]; exact HC4.out
  generalize w4.setCell ⟨w.heap.size + 1 + 1 + 1, 0, none⟩ (tv (w.heap.size + 1 + 1) (w.heap.size + 1 + 1 + 1)) = w5 at HX5 HW5 ⊢
  clear hst c5 f5 HC4 HB4 HTM HR4
  have c5 := HX5.out.c5
  have hE := callFunc_in Tryz.func25 (by kernel_rfl) rfl
  have HC := Lib.hid (read1 s (w.heap.size + 1) (w.heap.size + 1 + 1) (w.heap.size + 1 + 1 + 1) hsz 256 0 rfl 0 w5 (Nat.zero_le _) HW5.out.rd HX5.out)
  have HIN := Lib.hid (rdT_in s 256 0)
  generalize rdT s 256 0 = q at HC HR HIN
  obtain ⟨rt, re, rl⟩ := q
  go_wp2_with fail
  refine HC.out.mono ?_
  rintro e w6 ⟨v, ev, rfl, hM, hE6, k', hT, hk', hk2⟩
  have hlt5 : w.heap.size + 1 + 1 + 1 < w5.heap.size := World.block_lt_of_cell? w5 _ c5
  have hM2 := hM
  obtain ⟨v4, v5, rfl, hM4, hM5⟩ := hM2
  simp only at hM4 hM5
  obtain ⟨A4, d4, rfl⟩ := Kd.R_slice hM4
  obtain ⟨A5, d5, rfl⟩ := Kd.R_slice hM5
  have HW6 := Lib.hid (HW5.out.step hT)
  have HM := Lib.hid hM
  have HE := Lib.hid hE6
  clear hM hM4 hM5 hE6 hT c5 hE HX5 hmf HC
  unfold tmV
  go_upto_region 7 with (fail)
  have hb7 := below_alloc (Below.refl w6.heap.size w6) (.cells #[.int .i64 rt.kd, .int .i64 rt.it, .string rt.tx, .int .u32 rt.cr, .slice A4 rt.nums.length d4, .slice A5 rt.args.length d5] 27)
  have hta := TmAt.new w6 rt (.slice A4 rt.nums.length d4) (.slice A5 rt.args.length d5)
  generalize w6.alloc (.cells #[.int .i64 rt.kd, .int .i64 rt.it, .string rt.tx, .int .u32 rt.cr, .slice A4 rt.nums.length d4, .slice A5 rt.args.length d5] 27) = w7 at hb7 hta ⊢
  have HTA := Lib.hid hta
  have HM7 := Lib.hid (HM.out.below hb7)
  have HE7 := Lib.hid (HE.out.below hb7)
  have HW7 := Lib.hid (HW6.out.below hb7)
  have hlt6 : w.heap.size + 1 < w6.heap.size := HW6.out.rd.lt
  clear hb7 hta HE HM
  cases rl with
  | cons x r =>
   have HR2 : Hid (R = (zTm, x :: r)) := Lib.hid HR.out
   obtain ⟨eb, eu, rfl, _⟩ := HE7.out
   have rw4 := HW7.out.c4
   have rwa := HW7.out.rd.c1
   obtain ⟨r0, r1, r2, r3, r4, r5, g0, g1, g2, g3, g4, g5⟩ := HW7.out.tm
   simp only [zTm] at r0 r1 r2 r3 r4 r5
   go_wp2_with fail
   refine bodyPost_ret (resTm2 rfl _ _ w.heap.size zTm _ _ (by rfl) (HW7.out.tm.put zTm _ _)) rfl ?_
   rw [HR2.out]
   exact HW7.out.fail HE7.out
  | nil =>
   obtain rfl : ev = .nilIface := HE7.out
   obtain rfl := hk2 rfl
   have HR2 : Hid (R = rdEnd s rt (blk s k')) := Lib.hid HR.out
   have HSK := Lib.hid (rd_skip (w.heap.size + 1) s k' 0 hk' hsz w7 HW7.out.rd)
   have hkb := blk_le s k' hk'
   clear HR hk2 HE7
   have rw4 := HW7.out.c4
   go_wp2_with fail
   refine HSK.out.mono ?_
   rintro e w8 ⟨rfl, hT⟩
   have HW8 := Lib.hid (HW7.out.step hT)
   have HM8 := Lib.hid (HM7.out.grown HW7.out.rd hT.1)
   have HTA8 := Lib.hid (HTA.out.grown hT.1 (by omega))
   clear hT HSK HW7 HM7 HTA rw4
   by_cases hend : blk s k' < s.size
   ·have HR3 : Hid (R = (zTm, [⟨nTerm, blk s k', 41⟩])) := Lib.hid (HR2.out.trans (by unfold rdEnd; rw [if_pos hend]))
    have d1 : decide (((blk s k' : Nat) : Int) < (s.size : Int)) = true := decide_eq_true (by omega)
    generalize blk s k' = kb at *
    have rw4 := HW8.out.c4
    have rwa := HW8.out.rd.c1
    obtain ⟨r0, r1, r2, r3, r4, r5, g0, g1, g2, g3, g4, g5⟩ := HW8.out.tm
    simp only [zTm] at r0 r1 r2 r3 r4 r5
    go_wp2_with fail
    refine (rd_text (w.heap.size + 1) s kb 0 _ HW8.out.rd).mono ?_
    rintro e w9 ⟨v, rfl, hE, hB⟩
    have HE := Lib.hid hE
    have HW9 := Lib.hid (HW8.out.below hB)
    clear hE hB rw4 rwa r0 r1 r2 r3 r4 r5 g0 g1 g2 g3 g4 g5
    have rw4 := HW9.out.c4
    have rwa := HW9.out.rd.c1
    obtain ⟨r0, r1, r2, r3, r4, r5, g0, g1, g2, g3, g4, g5⟩ := HW9.out.tm
    simp only [zTm] at r0 r1 r2 r3 r4 r5
    go_wp2_with fail
    refine bodyPost_ret (resTm2 rfl _ _ w.heap.size zTm _ _ (by rfl) (HW9.out.tm.put zTm _ _)) rfl ?_
    rw [HR3.out]
    exact HW9.out.fail HE.out
   ·have HR3 : Hid (R = if chk rt = [] then (rt, []) else (zTm, chk rt)) := Lib.hid (HR2.out.trans (by unfold rdEnd; rw [if_neg hend]))
    have d1 : decide (((blk s k' : Nat) : Int) < (s.size : Int)) = false := decide_eq_false (by omega)
    generalize blk s k' = kb at *
    have HCK := Lib.hid (term_Check rt A4 A5 d4 d5 w8 HM8.out.R (inT_sm HIN.out) (HG.out.below HW8.out.bl))
    unfold tmV at HCK
    have rw4 := HW8.out.c4
    have rwa := HW8.out.rd.c1
    obtain ⟨r0, r1, r2, r3, r4, r5, g0, g1, g2, g3, g4, g5⟩ := HW8.out.tm
    simp only [zTm] at r0 r1 r2 r3 r4 r5
    obtain ⟨s0, s1, s2, s3, s4, s5, _, _, _, _, _, _⟩ := HTA8.out
    go_wp2_with fail
    refine HCK.out.mono ?_
    rintro e w9 ⟨v, rfl, hE, hB⟩
    have HE := Lib.hid hE
    have HW9 := Lib.hid (HW8.out.below hB)
    have HM9 := Lib.hid (HM8.out.below hB)
    have HTA9 := Lib.hid (HTA8.out.below hB HTA8.out.lt)
    clear hE hB rw4 rwa r0 r1 r2 r3 r4 r5 g0 g1 g2 g3 g4 g5 s0 s1 s2 s3 s4 s5 HCK
    cases hc : chk rt with
    | cons x r =>
     have HR4 : Hid (R = (zTm, x :: r)) := Lib.hid (HR3.out.trans (by rw [if_neg (by rw [hc]; simp), hc]))
     rw [hc] at HE
     obtain ⟨eb, eu, rfl, _⟩ := HE.out
     clear hc
     have rw4 := HW9.out.c4
     have rwa := HW9.out.rd.c1
     obtain ⟨r0, r1, r2, r3, r4, r5, g0, g1, g2, g3, g4, g5⟩ := HW9.out.tm
     simp only [zTm] at r0 r1 r2 r3 r4 r5
     go_wp2_with fail
     refine bodyPost_ret (resTm2 rfl _ _ w.heap.size zTm _ _ (by rfl) (HW9.out.tm.put zTm _ _)) rfl ?_
     rw [HR4.out]
     exact HW9.out.fail HE.out
    | nil =>
     have HR4 : Hid (R = (rt, [])) := Lib.hid (HR3.out.trans (by rw [if_pos hc]))
     rw [hc] at HE
     obtain rfl : v = .nilIface := HE.out
     clear hc
     have rw4 := HW9.out.c4
     have rwa := HW9.out.rd.c1
     obtain ⟨r0, r1, r2, r3, r4, r5, g0, g1, g2, g3, g4, g5⟩ := HW9.out.tm
     simp only [zTm] at r0 r1 r2 r3 r4 r5
     obtain ⟨s0, s1, s2, s3, s4, s5, _, _, _, _, _, _⟩ := HTA9.out
     go_wp2_with fail
     refine bodyPost_ret (resTm2 rfl _ _ w.heap.size rt _ _ (by rfl) (HW9.out.tm.put rt _ _)) rfl ?_
     rw [HR4.out]
     exact HW9.out.done HM9.out (by omega)
end Go.Proofs.YtibbcfeaododhaaGreatDoor
set_option linter.unusedSimpArgs false
set_option linter.unusedVariables false
namespace Go.Proofs.YtibbcfeaododhaaGreatDoor
open Go.RowKit Go.Sort Go.Proofs.YtibbcfeaododhaaGreatDoorW.PrintWords
/-- term.Cons, heddleref02.Cons. -/
def consT (h t : Tm) : Tm × List Lk := if chk h ≠ [] then (zTm, chk h) else if chk t ≠ [] then (zTm, chk t) else if chk (joinT [h] t) ≠ [] then (zTm, chk (joinT [h] t)) else (joinT [h] t, [])
structure CnF (w W : World) (h t : Tm) (h4 h5 t4 t5 : Value) : Prop where
 bl : Below w.heap.size w W
 ah : TmAt W w.heap.size h h4 h5
 at_ : TmAt W (w.heap.size + 1) t t4 t5
 bx : W.heap[w.heap.size + 2]? = some (.cells #[.int .i64 0, .int .i64 0, .string ⟨#[]⟩, .int .u32 0, .slice none 0 0, .slice none 0 0] tyTm (0, 0))
theorem CnF.tx {w W : World} {h t : Tm} {h4 h5 t4 t5 : Value} (x : CnF w W h t h4 h5 t4 t5) : TmAt W (w.heap.size + 2) zTm vNone vNone := tmAt_box (a := zTm) x.bx
theorem CnF.lt {w W : World} {h t : Tm} {h4 h5 t4 t5 : Value} (x : CnF w W h t h4 h5 t4 t5) : w.heap.size + 2 < W.heap.size := (Array.getElem?_eq_some_iff.1 x.bx).1
theorem CnF.upon {w W W' : World} {h t : Tm} {h4 h5 t4 t5 : Value} (x : CnF w W h t h4 h5 t4 t5) {n : Nat} (hb : Below n W W') (hn : w.heap.size + 3 ≤ n) : CnF w W' h t h4 h5 t4 t5 :=
 ⟨x.bl.trans (hb.mono (by omega)), x.ah.below hb (by omega), x.at_.below hb (by omega), (hb.block _ (by omega)).trans x.bx⟩
theorem CnF.below {w W W' : World} {h t : Tm} {h4 h5 t4 t5 : Value} (x : CnF w W h t h4 h5 t4 t5) (hb : Below W.heap.size W W') : CnF w W' h t h4 h5 t4 t5 := x.upon hb x.lt
theorem CnF.fail {w W : World} {h t : Tm} {h4 h5 t4 t5 : Value} (x : CnF w W h t h4 h5 t4 t5) {l : List Lk} {ev : Value} (hE : ErrIs W l ev) : ReadPost w (zTm, l) (.returned (.tuple #[tmV zTm vNone vNone, ev])) (put6 W (w.heap.size + 2) zTm vNone vNone) :=
 ⟨_, _, rfl, TmMade.zero _ _, hE.wrote6 x.tx.c0 _ _ _, x.bl.trans (below_of_grown (grown_put6 W (w.heap.size + 2) zTm vNone vNone) (by omega) x.bl.size)⟩
theorem CnF.done {w W : World} {h t : Tm} {h4 h5 t4 t5 : Value} (x : CnF w W h t h4 h5 t4 t5) {l : List Tm} {lv : Value} (hl : kTm.R tyTm W (w.heap.size + 3) (fun _ => True) lv l) : ReadPost w (⟨7, 0, ⟨#[]⟩, 0, [], l⟩, []) (.returned (.tuple #[tmV ⟨7, 0, ⟨#[]⟩, 0, [], l⟩ vNone lv, .nilIface])) (put6 W (w.heap.size + 2) ⟨7, 0, ⟨#[]⟩, 0, [], l⟩ vNone lv) := by
 have hg := grown_put6 W (w.heap.size + 2) ⟨7, 0, ⟨#[]⟩, 0, [], l⟩ vNone lv
 exact ⟨_, _, rfl, ⟨_, _, rfl, Kd.R_nil _ _ _ _ _, Kd.R_lower (R_offs hl hg (by omega)) (by omega)⟩, rfl, x.bl.trans (below_of_grown hg (by omega) x.bl.size)⟩
theorem cn_boxes (w : World) (h t : Tm) (h4 h5 t4 t5 : Value) : ∃ w3, w3 = ((w.alloc (.cells #[.int .i64 h.kd, .int .i64 h.it, .string h.tx, .int .u32 h.cr, h4, h5] 27)).alloc (.cells #[.int .i64 t.kd, .int .i64 t.it, .string t.tx, .int .u32 t.cr, t4, t5] 27)).alloc (.cells #[.int .i64 0, .int .i64 0, .string ⟨#[]⟩, .int .u32 0, .slice none 0 0, .slice none 0 0] 27) ∧ CnF w w3 h t h4 h5 t4 t5 := by
 have h1 := TmAt.new w h h4 h5
 have hb1 := below_alloc (Below.refl w.heap.size w) (.cells #[.int .i64 h.kd, .int .i64 h.it, .string h.tx, .int .u32 h.cr, h4, h5] 27)
 have s1 : (w.alloc (.cells #[.int .i64 h.kd, .int .i64 h.it, .string h.tx, .int .u32 h.cr, h4, h5] 27)).heap.size = w.heap.size + 1 := by simp
 generalize w.alloc (.cells #[.int .i64 h.kd, .int .i64 h.it, .string h.tx, .int .u32 h.cr, h4, h5] 27) = w1 at h1 hb1 s1 ⊢
 have h2 := TmAt.new w1 t t4 t5
 have hb2 := below_alloc (Below.refl w1.heap.size w1) (.cells #[.int .i64 t.kd, .int .i64 t.it, .string t.tx, .int .u32 t.cr, t4, t5] 27)
 have s2 : (w1.alloc (.cells #[.int .i64 t.kd, .int .i64 t.it, .string t.tx, .int .u32 t.cr, t4, t5] 27)).heap.size = w1.heap.size + 1 := by simp
 generalize w1.alloc (.cells #[.int .i64 t.kd, .int .i64 t.it, .string t.tx, .int .u32 t.cr, t4, t5] 27) = w2 at h2 hb2 s2 ⊢
 have h3 := heap_alloc_new w2 (.cells #[.int .i64 0, .int .i64 0, .string ⟨#[]⟩, .int .u32 0, .slice none 0 0, .slice none 0 0] 27)
 have hb3 := below_alloc (Below.refl w2.heap.size w2) (.cells #[.int .i64 0, .int .i64 0, .string ⟨#[]⟩, .int .u32 0, .slice none 0 0, .slice none 0 0] 27)
 generalize w2.alloc (.cells #[.int .i64 0, .int .i64 0, .string ⟨#[]⟩, .int .u32 0, .slice none 0 0, .slice none 0 0] 27) = w3 at h3 hb3 ⊢
 rw [s1] at h2 s2
 rw [s2] at h3
 exact ⟨w3, rfl, trans_below (trans_below hb1 hb2) hb3, (h1.below hb2 h1.lt).below hb3 (by omega), h2.below hb3 (by omega), h3⟩
theorem sm_join {h t : Tm} (hh : smT h = true) (ht : smT t = true) : smT (joinT [h] t) = true := by
 unfold joinT
 rw [smT_eq, Bool.and_eq_true]
 refine ⟨by simp; exact Nat.zero_le _, ?_⟩
 have key : ∀ l : List Tm, smL l = true → smL ([h] ++ l) = true := by
  intro l hl
  rw [List.singleton_append, smL, hh, hl]
  rfl
 simp only
 split
 ·exact key _ (sm_args ht)
 ·exact key _ (by rw [smL, ht]; rfl)
theorem field5 (k i : Int) (x : ByteArray) (c : Int) (A B : Option Addr) (m n a b : Nat) (w : World) : (Instr.field 27 (.agg #[.int .i64 k, .int .i64 i, .string x, .int .u32 c, .slice A m a, .slice B n b]) 5).run Tryz.prog w = .ok (.slice B n b) w := by
 kernel_rfl
set_option maxRecDepth 100000 in
set_option maxHeartbeats 4000000 in
theorem term_Cons (h t : Tm) (A4 A5 B4 B5 : Option Addr) (c4 c5 d4 d5 : Nat) (w : World) (hH : TmR w h A4 c4 A5 c5) (hT : TmR w t B4 d4 B5 d5) (sh : smT h = true) (st : smT t = true) (gh : bgT h = true) (gt : bgT t = true) (hG : Glob w) :
  Calls Tryz.prog 21 #[tmV h (.slice A4 h.nums.length c4) (.slice A5 h.args.length c5), tmV t (.slice B4 t.nums.length d4) (.slice B5 t.args.length d5)] w (ReadPost w (consT h t)) := by
 obtain ⟨w1, hw1, hF⟩ := cn_boxes w h t (.slice A4 h.nums.length c4) (.slice A5 h.args.length c5) (.slice B4 t.nums.length d4) (.slice B5 t.args.length d5)
 have HF := Lib.hid hF
 obtain ⟨R, hR⟩ : ∃ R, R = consT h t := ⟨_, rfl⟩
 rw [← hR]
 have HR0 := Lib.hid hR
 have HCH := Lib.hid fun W (hW : Below w.heap.size w W) => term_Check h A4 A5 c4 c5 W (hH.below hW) sh (hG.below hW)
 have HCT := Lib.hid fun W (hW : Below w.heap.size w W) => term_Check t B4 B5 d4 d5 W (hT.below hW) st (hG.below hW)
 have HPH := Lib.hid fun W (hW : Below w.heap.size w W) => term_Copy h A4 A5 c4 c5 W (hH.below hW) gh
 have HPT := Lib.hid fun W (hW : Below w.heap.size w W) => term_Copy t B4 B5 d4 d5 W (hT.below hW) gt
 have HG := Lib.hid fun W (hW : Below w.heap.size w W) => hG.below hW
 have HSJ := Lib.hid (sm_join sh st)
 have HBG : Hid (t.args.length * 88 ≤ 140737488351232) := Lib.hid (bg_len gt)
 clear hF hR hH hT sh st gh gt hG
 unfold tmV at HCH HCT HPH HPT ⊢
 go_enter Tryz.func21, Tryz.ntmps21
 go_upto_region 1 with (fail)
 rw [← hw1]
 clear hw1
 obtain ⟨q0, q1, q2, q3, q4, q5, _, _, _, _, _, _⟩ := HF.out.ah
 go_wp2_with fail
 refine (HCH.out w1 HF.out.bl).mono ?_
 rintro e w2 ⟨ve, rfl, hE, hB⟩
 have HF2 := Lib.hid (HF.out.below hB)
 have HE := Lib.hid hE
 clear hE hB q0 q1 q2 q3 q4 q5 HF HCH
 cases hch : chk h with
 | cons x r =>
  have HR : Hid (R = (zTm, x :: r)) := Lib.hid (by rw [HR0.out]; unfold consT; rw [if_pos (by rw [hch]; simp), hch])
  rw [hch] at HE
  obtain ⟨eb, eu, rfl, _⟩ := HE.out
  obtain ⟨r0, r1, r2, r3, r4, r5, g0, g1, g2, g3, g4, g5⟩ := HF2.out.tx
  simp only [zTm] at r0 r1 r2 r3 r4 r5
  clear hch
  go_wp2_with fail
  refine bodyPost_ret (resTm2 rfl _ _ (w.heap.size + 2) zTm _ _ (by rfl) (HF2.out.tx.put zTm _ _)) rfl ?_
  rw [HR.out]
  exact HF2.out.fail HE.out
 | nil =>
  rw [hch] at HE
  obtain rfl : ve = .nilIface := HE.out
  obtain ⟨q0, q1, q2, q3, q4, q5, _, _, _, _, _, _⟩ := HF2.out.at_
  go_wp2_with fail
  refine (HCT.out w2 HF2.out.bl).mono ?_
  rintro e w3 ⟨ve, rfl, hE, hB⟩
  have HF3 := Lib.hid (HF2.out.below hB)
  have HE3 := Lib.hid hE
  clear hE hB q0 q1 q2 q3 q4 q5 HF2 HCT HE
  cases hct : chk t with
  | cons x r =>
   have HR : Hid (R = (zTm, x :: r)) := Lib.hid (by rw [HR0.out]; unfold consT; rw [if_neg (by rw [hch]; simp), if_pos (by rw [hct]; simp), hct])
   rw [hct] at HE3
   obtain ⟨eb, eu, rfl, _⟩ := HE3.out
   obtain ⟨r0, r1, r2, r3, r4, r5, g0, g1, g2, g3, g4, g5⟩ := HF3.out.tx
   simp only [zTm] at r0 r1 r2 r3 r4 r5
   clear hch hct
   go_wp2_with fail
   refine bodyPost_ret (resTm2 rfl _ _ (w.heap.size + 2) zTm _ _ (by rfl) (HF3.out.tx.put zTm _ _)) rfl ?_
   rw [HR.out]
   exact HF3.out.fail HE3.out
  | nil =>
   rw [hct] at HE3
   obtain rfl : ve = .nilIface := HE3.out
   have HR1 : Hid (R = if chk (joinT [h] t) ≠ [] then (zTm, chk (joinT [h] t)) else (joinT [h] t, [])) := Lib.hid (by rw [HR0.out]; unfold consT; rw [if_neg (by rw [hch]; simp), if_neg (by rw [hct]; simp)])
   clear hch hct HE3 HR0
   obtain ⟨q0, q1, q2, q3, q4, q5, _, _, _, _, _, _⟩ := HF3.out.ah
   go_wp2_with fail
   refine (HPH.out w3 HF3.out.bl).mono ?_
   rintro e w4 ⟨v, rfl, hM, hB⟩
   obtain ⟨v4, v5, rfl, hM4, hM5⟩ := hM
   obtain ⟨Y4, y4, rfl⟩ := Kd.R_slice hM4
   obtain ⟨Y5, y5, rfl⟩ := Kd.R_slice hM5
   have hlt3 := HF3.out.lt
   have HF4 := Lib.hid (HF3.out.below hB)
   have hx := R_one (W := w4) (base := w.heap.size + 3) (kTm_mkM w4 (w.heap.size + 3) (fun _ => True) h (Kd.R_lower hM4 hlt3) (Kd.R_lower hM5 hlt3)) (ok := fun _ => True) (fun _ _ => trivial) trivial HF4.out.lt
   have hb := below_alloc (Below.refl w4.heap.size w4) (.cells #[.int .i64 h.kd, .int .i64 h.it, .string h.tx, .int .u32 h.cr, .slice Y4 h.nums.length y4, .slice Y5 h.args.length y5] tyTm)
   have hx : kTm.R tyTm (w4.alloc (.cells #[.int .i64 h.kd, .int .i64 h.it, .string h.tx, .int .u32 h.cr, .slice Y4 h.nums.length y4, .slice Y5 h.args.length y5] tyTm)) (w.heap.size + 3) (fun _ => True) (.slice (some ⟨w4.heap.size, 0, none⟩) 1 1) [h] := hx
   clear hM4 hM5 hB q0 q1 q2 q3 q4 q5 HPH hlt3
   unfold tmV
   go_upto_region 8 with (fail)
   generalize w4.alloc (.cells #[.int .i64 h.kd, .int .i64 h.it, .string h.tx, .int .u32 h.cr, .slice Y4 h.nums.length y4, .slice Y5 h.args.length y5] tyTm) = w5 at hb hx ⊢
   have HF5 := Lib.hid (HF4.out.below hb)
   have HX := Lib.hid hx
   have hgl := Kd.R_lt hx w4.heap.size (by simp [Value.ownBlock])
   generalize w4.heap.size = g8 at hx HX hgl ⊢
   have HGL := Lib.hid hgl
   clear hb hx hgl HF4 HF3
   have hbg := HBG.out
   have HBS5 : Hid (w.heap.size + 3 ≤ w5.heap.size) := Lib.hid HF5.out.lt
   have HOW : Hid (∀ j, w5.heap.size ≤ j → True ∧ some j ≠ (Value.slice (some ⟨g8, 0, none⟩) 1 1).ownBlock) := Lib.hid fun j hj => ⟨trivial, fun e => by have h8 : j = g8 := (by simpa [Value.ownBlock] using e); have := HGL.out; omega⟩
   obtain ⟨q0, q1, q2, q3, q4, q5, _, _, _, _, _, _⟩ := HF5.out.at_
   have HCP := Lib.hid (HPT.out w5 HF5.out.bl)
   clear HPT
   by_cases hk : t.kd = 7
   ·have d7 : (t.kd == 7) = true := beq_iff_eq.2 hk
    have HJ : Hid (joinT [h] t = ⟨7, 0, ⟨#[]⟩, 0, [], [h] ++ t.args⟩) := Lib.hid (by unfold joinT; rw [if_pos hk])
    have HL88 : Hid ((([h] : List Tm).length + t.args.length) * 88 ≤ 140737488355328) := Lib.hid (by simp only [List.length_cons, List.length_nil]; omega)
    clear hk hbg
    go_wp2_with fail
    refine HCP.out.mono ?_
    rintro e w6 ⟨v, rfl, hM, hB⟩
    obtain ⟨v4, v5, rfl, hM4, hM5⟩ := hM
    obtain ⟨Z4, z4, rfl⟩ := Kd.R_slice hM4
    obtain ⟨Z5, z5, rfl⟩ := Kd.R_slice hM5
    have HF6 := Lib.hid (HF5.out.below hB)
    have HX6 := Lib.hid (Kd.R_below HX.out hB)
    have HM6 : Hid (kTm.R tyTm w6 (w.heap.size + 3) (fun j => w5.heap.size ≤ j) (.slice Z5 t.args.length z5) t.args) := Lib.hid (Kd.R_lower (Kd.R_mono (Kd.R_bound hM5) (fun j hj => hj.2.1)) HBS5.out)
    have HBS6 : Hid (w.heap.size + 3 ≤ w6.heap.size) := Lib.hid HF6.out.lt
    clear hM4 hM5 hB HCP q0 q1 q2 q3 q4 q5 HF5 HX
    unfold tmV
    have hfd := fun W : World => field5 t.kd t.it t.tx t.cr Z4 Z5 t.nums.length t.args.length z4 z5 W
    go_wp2_with (at_builtin; refine Kd.R_append_rows kTm (Rr := kTm.M w6 (w.heap.size + 3) (fun j => w5.heap.size ≤ j)) (w0 := w6) (w.heap.size + 3) rfl (.tmp 29) (.tmp 32) 25 27 (.agg #[(.int .i64 0), (.int .i64 0), (.string ⟨#[]⟩), (.int .u32 0), (.slice none 0 0), (.slice none 0 0)]) 88 rfl Tryz.underlying25 infoTm rfl (by decide) (by decide) (.slice (some ⟨g8, 0, none⟩) 1 1) [h] t.args Z5 t.args.length z5 (fun _ => True) (fun j => w5.heap.size ≤ j) ?hs ?hx ?hO ?hR ?hKM ?hok ?hfr ?hB ?hbs ?hl ?_; (case hs => rfl); (case hx => rfl); (case hO => exact HX6.out); (case hR => exact tm_rows HM6.out); (case hKM => exact fun _ _ h => h); (case hok => exact HOW.out); (case hfr => exact fun _ _ => trivial); (case hB => exact Below.refl _ _); (case hbs => exact HBS6.out); (case hl => exact HL88.out); intro v1 w9 ho hb hg hat; obtain ⟨L9, hL9⟩ : ∃ L, L = [h] ++ t.args := ⟨_, rfl⟩; rw [← hL9] at ho; have HLQ := Lib.hid hL9; clear hL9; obtain ⟨A9, c9, rfl⟩ := Kd.R_slice ho; have HO9 := Lib.hid ho; have HF9 := Lib.hid (HF6.out.upon hb (Nat.le_refl _)); clear ho hb hg hat)
    have HZ : Hid (joinT [h] t = ⟨7, 0, ⟨#[]⟩, 0, [], L9⟩) := Lib.hid (by rw [HJ.out, HLQ.out])
    go_upto_region 12 with (fail)
    have hb := below_alloc (Below.refl w9.heap.size w9) (.cells #[.int .i64 7, .int .i64 0, .string ⟨#[]⟩, .int .u32 0, .slice none 0 0, .slice A9 L9.length c9] 27)
    have hta := TmAt.new w9 ⟨7, 0, ⟨#[]⟩, 0, [], L9⟩ vNone (.slice A9 L9.length c9)
    have hta : TmAt (w9.alloc (.cells #[.int .i64 7, .int .i64 0, .string ⟨#[]⟩, .int .u32 0, .slice none 0 0, .slice A9 L9.length c9] 27)) w9.heap.size ⟨7, 0, ⟨#[]⟩, 0, [], L9⟩ vNone (.slice A9 L9.length c9) := hta
    generalize w9.alloc (.cells #[.int .i64 7, .int .i64 0, .string ⟨#[]⟩, .int .u32 0, .slice none 0 0, .slice A9 L9.length c9] 27) = wA at hb hta ⊢
    have HFA := Lib.hid (HF9.out.below hb)
    have HOA := Lib.hid (Kd.R_below HO9.out hb)
    have HTA := Lib.hid hta
    generalize w9.heap.size = g9 at hta HTA ⊢
    clear hb hta HF9 HO9
    have hsz : smT ⟨7, 0, ⟨#[]⟩, 0, [], L9⟩ = true := by rw [← HZ.out]; exact HSJ.out
    have HCZ : Hid (Calls Tryz.prog 30 #[.agg #[.int .i64 7, .int .i64 0, .string ⟨#[]⟩, .int .u32 0, .slice none 0 0, .slice A9 L9.length c9]] wA (ErrPost wA (chk ⟨7, 0, ⟨#[]⟩, 0, [], L9⟩))) := Lib.hid (term_Check ⟨7, 0, ⟨#[]⟩, 0, [], L9⟩ none A9 0 c9 wA (TmMade.R (base := w.heap.size + 3) ⟨_, _, rfl, Kd.R_nil _ _ _ _ _, HOA.out⟩) hsz (HG.out wA HFA.out.bl))
    have HR2 := Lib.hid HR1.out
    rw [HZ.out] at HR2
    obtain ⟨z0, z1, z2, z3, z4, z5, _, _, _, _, _, _⟩ := HTA.out
    simp only at z0 z1 z2 z3 z4 z5
    clear hsz HR1
    generalize hcz : chk ⟨7, 0, ⟨#[]⟩, 0, [], L9⟩ = LZ at HCZ HR2
    clear hcz
    go_wp2_with fail
    refine HCZ.out.mono ?_
    rintro e wB ⟨ve, rfl, hE, hB⟩
    have HFB := Lib.hid (HFA.out.below hB)
    have HOB := Lib.hid (Kd.R_below HOA.out hB)
    have HTB := Lib.hid (HTA.out.below hB HTA.out.lt)
    have HEB := Lib.hid hE
    clear hE hB z0 z1 z2 z3 z4 z5 HFA HOA HTA HCZ
    obtain ⟨r0, r1, r2, r3, r4, r5, g0, g1, g2, g3, g4, g5⟩ := HFB.out.tx
    simp only [zTm] at r0 r1 r2 r3 r4 r5
    cases LZ with
    | cons x r =>
     have HR3 : Hid (R = (zTm, x :: r)) := Lib.hid (by rw [HR2.out, if_pos (by simp)])
     obtain ⟨eb, eu, rfl, _⟩ := HEB.out
     go_wp2_with fail
     refine bodyPost_ret (resTm2 rfl _ _ (w.heap.size + 2) zTm _ _ (by rfl) (HFB.out.tx.put zTm _ _)) rfl ?_
     rw [HR3.out]
     exact HFB.out.fail HEB.out
    | nil =>
     have HR3 : Hid (R = (⟨7, 0, ⟨#[]⟩, 0, [], L9⟩, [])) := Lib.hid (by rw [HR2.out, if_neg (by simp)])
     obtain rfl : ve = .nilIface := HEB.out
     obtain ⟨z0, z1, z2, z3, z4, z5, _, _, _, _, _, _⟩ := HTB.out
     simp only at z0 z1 z2 z3 z4 z5
     go_wp2_with fail
     refine bodyPost_ret (resTm2 rfl _ _ (w.heap.size + 2) ⟨7, 0, ⟨#[]⟩, 0, [], L9⟩ _ _ (by rfl) (HFB.out.tx.put ⟨7, 0, ⟨#[]⟩, 0, [], L9⟩ _ _)) rfl ?_
     rw [HR3.out]
     exact HFB.out.done HOB.out
   ·have d7 : (t.kd == 7) = false := beq_eq_false_iff_ne.2 hk
    have HJ : Hid (joinT [h] t = ⟨7, 0, ⟨#[]⟩, 0, [], [h] ++ [t]⟩) := Lib.hid (by unfold joinT; rw [if_neg hk])
    have HL88 : Hid ((([h] : List Tm).length + 1) * 88 ≤ 140737488355328) := Lib.hid (by simp only [List.length_cons, List.length_nil]; omega)
    clear hk hbg
    go_wp2_with fail
    refine HCP.out.mono ?_
    rintro e w6 ⟨v, rfl, hM, hB⟩
    obtain ⟨v4, v5, rfl, hM4, hM5⟩ := hM
    obtain ⟨Z4, z4, rfl⟩ := Kd.R_slice hM4
    obtain ⟨Z5, z5, rfl⟩ := Kd.R_slice hM5
    have HF6 := Lib.hid (HF5.out.below hB)
    have HX6 := Lib.hid (Kd.R_below HX.out hB)
    have HM6 : Hid (kTm.M w6 (w.heap.size + 3) (fun j => w5.heap.size ≤ j) t [.int .i64 t.kd, .int .i64 t.it, .string t.tx, .int .u32 t.cr, .slice Z4 t.nums.length z4, .slice Z5 t.args.length z5]) := Lib.hid (kTm_mkM w6 (w.heap.size + 3) _ t
     (Kd.R_lower (Kd.R_mono (Kd.R_bound hM4) (fun j hj => hj.2.1)) HBS5.out)
     (Kd.R_lower (Kd.R_mono (Kd.R_bound hM5) (fun j hj => hj.2.1)) HBS5.out))
    have HBS6 : Hid (w.heap.size + 3 ≤ w6.heap.size) := Lib.hid HF6.out.lt
    clear hM4 hM5 hB HCP q0 q1 q2 q3 q4 q5 HF5 HX
    unfold tmV
    go_wp2_with (at_builtin; refine Kd.R_append kTm (w0 := w6) (w.heap.size + 3) rfl (.tmp 34) (.tmp 37) 25 27 (.agg #[(.int .i64 0), (.int .i64 0), (.string ⟨#[]⟩), (.int .u32 0), (.slice none 0 0), (.slice none 0 0)]) 88 rfl Tryz.underlying25 infoTm rfl (by decide) (by decide) (.slice (some ⟨g8, 0, none⟩) 1 1) [h] t [.int .i64 t.kd, .int .i64 t.it, .string t.tx, .int .u32 t.cr, .slice Z4 t.nums.length z4, .slice Z5 t.args.length z5] (fun _ => True) (fun j => w5.heap.size ≤ j) ?hs ?hx ?hp ?hok ?hfr ?hO ?hB ?hbs ?hl ?_; (case hs => rfl); (case hx => first | rfl | (simp [Act.eval]; done)); (case hp => exact HM6.out); (case hok => exact HOW.out); (case hfr => exact fun _ _ => trivial); (case hO => exact HX6.out); (case hB => exact Below.refl _ _); (case hbs => exact HBS6.out); (case hl => exact HL88.out); intro v1 w9 ho hb hg hat; obtain ⟨L9, hL9⟩ : ∃ L, L = [h] ++ [t] := ⟨_, rfl⟩; rw [← hL9] at ho; have HLQ := Lib.hid hL9; clear hL9; obtain ⟨A9, c9, rfl⟩ := Kd.R_slice ho; have HO9 := Lib.hid ho; have HF9 := Lib.hid (HF6.out.upon hb (Nat.le_refl _)); clear ho hb hg hat)
    have HZ : Hid (joinT [h] t = ⟨7, 0, ⟨#[]⟩, 0, [], L9⟩) := Lib.hid (by rw [HJ.out, HLQ.out])
    go_upto_region 12 with (fail)
    have hb := below_alloc (Below.refl w9.heap.size w9) (.cells #[.int .i64 7, .int .i64 0, .string ⟨#[]⟩, .int .u32 0, .slice none 0 0, .slice A9 L9.length c9] 27)
    have hta := TmAt.new w9 ⟨7, 0, ⟨#[]⟩, 0, [], L9⟩ vNone (.slice A9 L9.length c9)
    have hta : TmAt (w9.alloc (.cells #[.int .i64 7, .int .i64 0, .string ⟨#[]⟩, .int .u32 0, .slice none 0 0, .slice A9 L9.length c9] 27)) w9.heap.size ⟨7, 0, ⟨#[]⟩, 0, [], L9⟩ vNone (.slice A9 L9.length c9) := hta
    generalize w9.alloc (.cells #[.int .i64 7, .int .i64 0, .string ⟨#[]⟩, .int .u32 0, .slice none 0 0, .slice A9 L9.length c9] 27) = wA at hb hta ⊢
    have HFA := Lib.hid (HF9.out.below hb)
    have HOA := Lib.hid (Kd.R_below HO9.out hb)
    have HTA := Lib.hid hta
    generalize w9.heap.size = g9 at hta HTA ⊢
    clear hb hta HF9 HO9
    have hsz : smT ⟨7, 0, ⟨#[]⟩, 0, [], L9⟩ = true := by rw [← HZ.out]; exact HSJ.out
    have HCZ : Hid (Calls Tryz.prog 30 #[.agg #[.int .i64 7, .int .i64 0, .string ⟨#[]⟩, .int .u32 0, .slice none 0 0, .slice A9 L9.length c9]] wA (ErrPost wA (chk ⟨7, 0, ⟨#[]⟩, 0, [], L9⟩))) := Lib.hid (term_Check ⟨7, 0, ⟨#[]⟩, 0, [], L9⟩ none A9 0 c9 wA (TmMade.R (base := w.heap.size + 3) ⟨_, _, rfl, Kd.R_nil _ _ _ _ _, HOA.out⟩) hsz (HG.out wA HFA.out.bl))
    have HR2 := Lib.hid HR1.out
    rw [HZ.out] at HR2
    obtain ⟨z0, z1, z2, z3, z4, z5, _, _, _, _, _, _⟩ := HTA.out
    simp only at z0 z1 z2 z3 z4 z5
    clear hsz HR1
    generalize hcz : chk ⟨7, 0, ⟨#[]⟩, 0, [], L9⟩ = LZ at HCZ HR2
    clear hcz
    go_wp2_with fail
    refine HCZ.out.mono ?_
    rintro e wB ⟨ve, rfl, hE, hB⟩
    have HFB := Lib.hid (HFA.out.below hB)
    have HOB := Lib.hid (Kd.R_below HOA.out hB)
    have HTB := Lib.hid (HTA.out.below hB HTA.out.lt)
    have HEB := Lib.hid hE
    clear hE hB z0 z1 z2 z3 z4 z5 HFA HOA HTA HCZ
    obtain ⟨r0, r1, r2, r3, r4, r5, g0, g1, g2, g3, g4, g5⟩ := HFB.out.tx
    simp only [zTm] at r0 r1 r2 r3 r4 r5
    cases LZ with
    | cons x r =>
     have HR3 : Hid (R = (zTm, x :: r)) := Lib.hid (by rw [HR2.out, if_pos (by simp)])
     obtain ⟨eb, eu, rfl, _⟩ := HEB.out
     go_wp2_with fail
     refine bodyPost_ret (resTm2 rfl _ _ (w.heap.size + 2) zTm _ _ (by rfl) (HFB.out.tx.put zTm _ _)) rfl ?_
     rw [HR3.out]
     exact HFB.out.fail HEB.out
    | nil =>
     have HR3 : Hid (R = (⟨7, 0, ⟨#[]⟩, 0, [], L9⟩, [])) := Lib.hid (by rw [HR2.out, if_neg (by simp)])
     obtain rfl : ve = .nilIface := HEB.out
     obtain ⟨z0, z1, z2, z3, z4, z5, _, _, _, _, _, _⟩ := HTB.out
     simp only at z0 z1 z2 z3 z4 z5
     go_wp2_with fail
     refine bodyPost_ret (resTm2 rfl _ _ (w.heap.size + 2) ⟨7, 0, ⟨#[]⟩, 0, [], L9⟩ _ _ (by rfl) (HFB.out.tx.put ⟨7, 0, ⟨#[]⟩, 0, [], L9⟩ _ _)) rfl ?_
     rw [HR3.out]
     exact HFB.out.done HOB.out
end Go.Proofs.YtibbcfeaododhaaGreatDoor
