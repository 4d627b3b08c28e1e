/-
 heddleref02's Reader: begun, further. heddleref02's Reader: begun (references), term. term: the closure that reads a term. Plain Lean: how long a term's text is; where a part's text stands in it. Plain: what is read from a text has texts and numbers of their sizes. term.Read. heddleref02: Check, Measure. heddleref02's Reader: term; Read. term: quoted, write: a term's text behind a row of bytes.
-/
import Derived.Test.YtibbcfeaododhaaGreatDoorG8
import Derived.Defers
import Derived.Test.YtibbcfeaododhaaGreatDoorG4
import Derived.Lib.ItoaLen
import Derived.Test.YtibbcfeaododhaaGreatDoorG6
import Derived.Lib.OthersKept
set_option linter.unusedSimpArgs false
set_option linter.unusedVariables false
namespace Go.Proofs.YtibbcfeaododhaaGreatDoor
open Go.RowKit Go.Sort Go.Proofs.YtibbcfeaododhaaGreatDoorW.PrintWords
theorem beg_at {s : ByteArray} {k : Nat} (hlt : k < s.size) : byAt s k = bt s (k : Int) := by unfold byAt; rw [if_pos hlt]
theorem beg_not {s : ByteArray} {k : Nat} {c : Int} (hb : bt s (k : Int) = c) (h : c ≠ 39 ∧ (c < 97 ∨ 122 < c)) : begAtom s k = false := by
 unfold begAtom isSmall
 rw [hb]
 simp [h.1]
 omega
theorem begun_atom {F : Nat → Rd} {s : ByteArray} {k : Nat} (h : k < s.size) (hb : begAtom s k = true) : (begunAt F s k).2.2 = (atomM s k).2.2 ∧ ((atomM s k).2.2 = [] → begunAt F s k = (⟨2, 0, (atomM s k).1, 0, [], []⟩, (atomM s k).2.1, [])) := by
 have hb2 := hb
 unfold begAtom isSmall at hb2
 simp only [Bool.and_eq_true, Bool.or_eq_true, decide_eq_true_eq] at hb2
 have hnd : ¬ (isDigit (bt s (k : Int)) = true ∨ bt s (k : Int) = 45) := by
  unfold isDigit
  simp only [Bool.and_eq_true, decide_eq_true_eq]
  omega
 rw [begun_c h hnd, if_neg (by omega), if_neg (by omega), if_neg (by omega), if_neg (by omega), atomM_at hb]
 generalize atomAt s k = q
 obtain ⟨a, e, l⟩ := q
 cases l <;> simp
set_option maxRecDepth 100000 in
set_option maxHeartbeats 4000000 in
theorem rf_begun_atom (b : Nat) (s : ByteArray) (k0 d bd : Nat) (F : Nat → Rd) (hlt : k0 < s.size) (hbg : begAtom s k0 = true) (hm : s.size ≤ 4194304) (w : World) (hS : RfAt w b s k0 d (.slice none 0 0)) :
  Calls Tryz.prog 61 #[.pointer (some ⟨b, 0, none⟩)] w (RfTm w b s d bd (begunAt F s k0)) := by
 obtain ⟨R, hR⟩ : ∃ R, R = begunAt F s k0 := ⟨_, rfl⟩
 rw [← hR]
 have hi := begun_atom (F := F) hlt hbg
 rw [← hR] at hi
 have HI := Lib.hid hi
 have h0 : k0 ≤ s.size := Nat.le_of_lt hlt
 have hb2 := hbg
 unfold begAtom isSmall at hb2
 simp only [Bool.and_eq_true, Bool.or_eq_true, decide_eq_true_eq] at hb2
 have hb3 := hb2.2
 clear hR hi hb2
 obtain ⟨c0, hc⟩ : ∃ c, byAt s k0 = c := ⟨_, rfl⟩
 rw [← beg_at hlt, hc] at hb3
 have HA := Lib.hid fun W h => rf_atom b s k0 d hlt hm W h
 rcases hb3 with rfl | hb3
 ·obtain ⟨w1, hw1⟩ : ∃ W, W = w.alloc (.cells #[.int .i64 0, .int .i64 0, .string ⟨#[]⟩, .int .u32 0, .slice none 0 0, .slice none 0 0] 27) := ⟨_, rfl⟩
  have hF1 : RfF w w1 b s k0 d (.slice none 0 0) := by rw [hw1]; exact RfF.start hS
  have HBY := Lib.hid (rf_byte b s k0 d _ h0 hm w1 hF1.rd.2)
  have HF := Lib.hid hF1
  clear hS hF1
  rw [hc] at HBY
  clear hc
  go_enter Tryz.func61, Tryz.ntmps61
  go_upto_region 1 with (fail)
  rw [← hw1]
  clear hw1
  go_wp2_with fail
  refine HBY.out.mono ?_
  rintro e w2 ⟨rfl, n2, rfl⟩
  replace HF := Lib.hid (HF.out.drewN n2)
  generalize w1.drewN n2 = w2 at HF ⊢
  clear HBY
  have a0 := HF.out.rd.2.c0
  have a1 := HF.out.rd.2.c1
  have e0 : (0 : Int) ≤ (k0 : Int) := by omega
  have e1 : (k0 : Int) < (s.size : Int) := by omega
  go_wp2_with fail
  go_quiet (fail)
  replace HF := Lib.hid (HF.out.drewN nq)
  clear a0 a1
  generalize w2.drewN nq = w3 at HF ⊢
  go_wp2_with fail
  refine (rf_begins b s k0 d _ h0 hm w3 HF.out.rd.2).mono ?_
  rintro e w4 ⟨rfl, n4, rfl⟩
  replace HF := Lib.hid (HF.out.drewN n4)
  generalize w3.drewN n4 = w4 at HF ⊢
  rw [hbg]
  replace HA := Lib.hid (HA.out w4 HF.out.rd.2)
  generalize atomM s k0 = q at HI HA
  go_wp2_with fail
  refine HA.out.mono ?_
  rintro e w6 ⟨rfl, k6, v6, hT, hk6, hL, hke⟩
  have HF7 := Lib.hid (HF.out.step hT)
  have HL := Lib.hid hL
  have HKE := Lib.hid hke
  clear hT hL hke HA
  obtain ⟨r0, r1, r2, r3, r4, r5, g0, g1, g2, g3, g4, g5⟩ := HF7.out.tm
  simp only [zTm] at r0 r1 r2 r3 r4 r5
  go_wp2_with fail
  refine bodyPost_ret (resTm rfl _ _ w.heap.size ⟨2, 0, q.1, 0, [], []⟩ _ _ (by rfl) (HF7.out.tm.put ⟨2, 0, q.1, 0, [], []⟩ _ _)) rfl ?_
  exact HF7.out.pass ⟨2, 0, q.1, 0, [], []⟩ (TmMade.flat _ _ _ _ _ _) (Nat.zero_le _) (fun e => by rw [HI.out.1] at e; rw [HI.out.2 e]) (by rw [HI.out.1]; exact HL.out) hk6 (fun e => by rw [HI.out.1] at e; rw [HI.out.2 e, HKE.out e])
 ·have d45 : (c0 == 45) = false := beq_eq_false_iff_ne.2 (by omega)
  have d48 : decide (c0 ≥ 48) = true := decide_eq_true (by omega)
  have d57 : decide (c0 ≤ 57) = false := decide_eq_false (by omega)
  clear hb3
  obtain ⟨w1, hw1⟩ : ∃ W, W = w.alloc (.cells #[.int .i64 0, .int .i64 0, .string ⟨#[]⟩, .int .u32 0, .slice none 0 0, .slice none 0 0] 27) := ⟨_, rfl⟩
  have hF1 : RfF w w1 b s k0 d (.slice none 0 0) := by rw [hw1]; exact RfF.start hS
  have HBY := Lib.hid (rf_byte b s k0 d _ h0 hm w1 hF1.rd.2)
  have HF := Lib.hid hF1
  clear hS hF1
  rw [hc] at HBY
  clear hc
  go_enter Tryz.func61, Tryz.ntmps61
  go_upto_region 1 with (fail)
  rw [← hw1]
  clear hw1
  go_wp2_with fail
  refine HBY.out.mono ?_
  rintro e w2 ⟨rfl, n2, rfl⟩
  replace HF := Lib.hid (HF.out.drewN n2)
  generalize w1.drewN n2 = w2 at HF ⊢
  clear HBY
  have a0 := HF.out.rd.2.c0
  have a1 := HF.out.rd.2.c1
  have e0 : (0 : Int) ≤ (k0 : Int) := by omega
  have e1 : (k0 : Int) < (s.size : Int) := by omega
  go_wp2_with fail
  go_quiet (fail)
  replace HF := Lib.hid (HF.out.drewN nq)
  clear a0 a1
  generalize w2.drewN nq = w3 at HF ⊢
  go_wp2_with fail
  refine (rf_begins b s k0 d _ h0 hm w3 HF.out.rd.2).mono ?_
  rintro e w4 ⟨rfl, n4, rfl⟩
  replace HF := Lib.hid (HF.out.drewN n4)
  generalize w3.drewN n4 = w4 at HF ⊢
  rw [hbg]
  replace HA := Lib.hid (HA.out w4 HF.out.rd.2)
  generalize atomM s k0 = q at HI HA
  go_wp2_with fail
  refine HA.out.mono ?_
  rintro e w6 ⟨rfl, k6, v6, hT, hk6, hL, hke⟩
  have HF7 := Lib.hid (HF.out.step hT)
  have HL := Lib.hid hL
  have HKE := Lib.hid hke
  clear hT hL hke HA
  obtain ⟨r0, r1, r2, r3, r4, r5, g0, g1, g2, g3, g4, g5⟩ := HF7.out.tm
  simp only [zTm] at r0 r1 r2 r3 r4 r5
  go_wp2_with fail
  refine bodyPost_ret (resTm rfl _ _ w.heap.size ⟨2, 0, q.1, 0, [], []⟩ _ _ (by rfl) (HF7.out.tm.put ⟨2, 0, q.1, 0, [], []⟩ _ _)) rfl ?_
  exact HF7.out.pass ⟨2, 0, q.1, 0, [], []⟩ (TmMade.flat _ _ _ _ _ _) (Nat.zero_le _) (fun e => by rw [HI.out.1] at e; rw [HI.out.2 e]) (by rw [HI.out.1]; exact HL.out) hk6 (fun e => by rw [HI.out.1] at e; rw [HI.out.2 e, HKE.out e])
set_option maxRecDepth 100000 in
set_option maxHeartbeats 4000000 in
theorem rf_begun_pid (b : Nat) (s : ByteArray) (k0 d bd : Nat) (F : Nat → Rd) (hlt : k0 < s.size) (hb : bt s (k0 : Int) = 60) (hm : s.size ≤ 4194304) (w : World) (hS : RfAt w b s k0 d (.slice none 0 0)) :
  Calls Tryz.prog 61 #[.pointer (some ⟨b, 0, none⟩)] w (RfTm w b s d bd (begunAt F s k0)) := by
 obtain ⟨R, hR⟩ : ∃ R, R = begunAt F s k0 := ⟨_, rfl⟩
 rw [← hR]
 rw [begun_c hlt (by rw [hb]; decide), hb] at hR
 have HR : Hid (R = farAt s (k0 + 1) 4 2) := Lib.hid hR
 have hc : byAt s k0 = 60 := (beg_at hlt).trans hb
 have hbg := beg_not hb (by decide)
 have h0 : k0 ≤ s.size := Nat.le_of_lt hlt
 clear hR hb
 obtain ⟨w1, hw1⟩ : ∃ W, W = w.alloc (.cells #[.int .i64 0, .int .i64 0, .string ⟨#[]⟩, .int .u32 0, .slice none 0 0, .slice none 0 0] 27) := ⟨_, rfl⟩
 have hF1 : RfF w w1 b s k0 d (.slice none 0 0) := by rw [hw1]; exact RfF.start hS
 have HBY := Lib.hid (rf_byte b s k0 d _ h0 hm w1 hF1.rd.2)
 have HF := Lib.hid hF1
 clear hS hF1
 rw [hc] at HBY
 clear hc
 go_enter Tryz.func61, Tryz.ntmps61
 go_upto_region 1 with (fail)
 rw [← hw1]
 clear hw1
 go_wp2_with fail
 refine HBY.out.mono ?_
 rintro e w2 ⟨rfl, n2, rfl⟩
 replace HF := Lib.hid (HF.out.drewN n2)
 generalize w1.drewN n2 = w2 at HF ⊢
 clear HBY
 have a0 := HF.out.rd.2.c0
 have a1 := HF.out.rd.2.c1
 have e0 : (0 : Int) ≤ (k0 : Int) := by omega
 have e1 : (k0 : Int) < (s.size : Int) := by omega
 go_wp2_with fail
 go_quiet (fail)
 replace HF := Lib.hid (HF.out.drewN nq)
 clear a0 a1
 generalize w2.drewN nq = w3 at HF ⊢
 go_wp2_with fail
 refine (rf_begins b s k0 d _ h0 hm w3 HF.out.rd.2).mono ?_
 rintro e w4 ⟨rfl, n4, rfl⟩
 replace HF := Lib.hid (HF.out.drewN n4)
 generalize w3.drewN n4 = w4 at HF ⊢
 rw [hbg]
 generalize w4 = w3 at HF ⊢
 have a1 := HF.out.rd.2.c1
 have f1 := HF.out.rd.2.f1
 go_upto_region 16 with (fail)
 replace HF := Lib.hid (HF.out.step ((RfTo.refl HF.out.rd.2).set1 ((k0 : Int) + 1) (k0 + 1) (by omega)))
 clear a1 f1
 generalize w3.setCell ⟨b, 1, none⟩ (.int .i64 ((k0 : Int) + 1)) = w4 at HF ⊢
 have h1 : k0 + 1 ≤ s.size := by omega
 obtain ⟨j, hj⟩ : ∃ j, j = k0 + 1 := ⟨_, rfl⟩
 rw [← hj] at HF h1
 rw [← hj] at HR
 clear hj
 have HO : Hid (Calls Tryz.prog 109 #[.pointer (some ⟨b, 0, none⟩), .int .i64 4, .int .i64 2] w4 (RfTm w4 b s d bd (farAt s j 4 2))) := Lib.hid (rf_own b s j d bd 4 2 (by decide) h1 hm w4 HF.out.rd.2)
 rw [← HR.out] at HO
 go_wp2_with fail
 refine HO.out.mono ?_
 rintro e w7 ⟨t, v, rfl, hM, htl, ht, k7, v7, hT, hk7, hL, hke⟩
 have HF7 := Lib.hid (HF.out.step hT)
 obtain ⟨v4, v5, rfl, hM4, hM5⟩ := hM
 obtain ⟨A4, c4, rfl⟩ := Kd.R_slice hM4
 obtain ⟨A5, c5, rfl⟩ := Kd.R_slice hM5
 have HM := Lib.hid (TmMade.lower (base' := w.heap.size + 1) ⟨_, _, rfl, hM4, hM5⟩ HF.out.tm.lt)
 have HL := Lib.hid hL
 have HTT := Lib.hid ht
 have HKE := Lib.hid hke
 clear hT hM4 hM5 hL ht hke HF
 unfold tmV
 obtain ⟨r0, r1, r2, r3, r4, r5, g0, g1, g2, g3, g4, g5⟩ := HF7.out.tm
 simp only [zTm] at r0 r1 r2 r3 r4 r5
 go_wp2_with fail
 refine bodyPost_ret (resTm rfl _ _ w.heap.size t _ _ (by rfl) (HF7.out.tm.put t _ _)) rfl ?_
 exact HF7.out.pass t HM.out htl HTT.out HL.out hk7 HKE.out
set_option maxRecDepth 100000 in
set_option maxHeartbeats 4000000 in
theorem rf_begun_list (b : Nat) (s : ByteArray) (k0 d bd : Nat) (F : Nat → Rd) (hF : TermSaysR s b d bd F) (hFw : Fwd s F) (hbd : bd ≤ 1500000000) (hlt : k0 < s.size) (hb : bt s (k0 : Int) = 91) (hm : s.size ≤ 4194304) (w : World) (hS : RfAt w b s k0 d (.slice none 0 0)) :
  Calls Tryz.prog 61 #[.pointer (some ⟨b, 0, none⟩)] w (RfTm w b s d (s.size + 2 + bd) (begunAt F s k0)) := by
 obtain ⟨R, hR⟩ : ∃ R, R = begunAt F s k0 := ⟨_, rfl⟩
 rw [← hR]
 rw [begun_c hlt (by rw [hb]; decide), hb] at hR
 have HR : Hid (R = listAt F s (k0 + 1)) := Lib.hid hR
 have hc : byAt s k0 = 91 := (beg_at hlt).trans hb
 have hbg := beg_not hb (by decide)
 have h0 : k0 ≤ s.size := Nat.le_of_lt hlt
 have HTS := Lib.hid hF
 have HFW := Lib.hid hFw
 clear hR hb hF hFw
 obtain ⟨w1, hw1⟩ : ∃ W, W = w.alloc (.cells #[.int .i64 0, .int .i64 0, .string ⟨#[]⟩, .int .u32 0, .slice none 0 0, .slice none 0 0] 27) := ⟨_, rfl⟩
 have hF1 : RfF w w1 b s k0 d (.slice none 0 0) := by rw [hw1]; exact RfF.start hS
 have HBY := Lib.hid (rf_byte b s k0 d _ h0 hm w1 hF1.rd.2)
 have HF := Lib.hid hF1
 clear hS hF1
 rw [hc] at HBY
 clear hc
 go_enter Tryz.func61, Tryz.ntmps61
 go_upto_region 1 with (fail)
 rw [← hw1]
 clear hw1
 go_wp2_with fail
 refine HBY.out.mono ?_
 rintro e w2 ⟨rfl, n2, rfl⟩
 replace HF := Lib.hid (HF.out.drewN n2)
 generalize w1.drewN n2 = w2 at HF ⊢
 clear HBY
 have a0 := HF.out.rd.2.c0
 have a1 := HF.out.rd.2.c1
 have e0 : (0 : Int) ≤ (k0 : Int) := by omega
 have e1 : (k0 : Int) < (s.size : Int) := by omega
 go_wp2_with fail
 go_quiet (fail)
 replace HF := Lib.hid (HF.out.drewN nq)
 clear a0 a1
 generalize w2.drewN nq = w3 at HF ⊢
 go_wp2_with fail
 refine (rf_begins b s k0 d _ h0 hm w3 HF.out.rd.2).mono ?_
 rintro e w4 ⟨rfl, n4, rfl⟩
 replace HF := Lib.hid (HF.out.drewN n4)
 generalize w3.drewN n4 = w4 at HF ⊢
 rw [hbg]
 generalize w4 = w3 at HF ⊢
 have a1 := HF.out.rd.2.c1
 have f1 := HF.out.rd.2.f1
 go_upto_region 34 with (fail)
 replace HF := Lib.hid (HF.out.step ((RfTo.refl HF.out.rd.2).set1 ((k0 : Int) + 1) (k0 + 1) (by omega)))
 clear a1 f1
 generalize w3.setCell ⟨b, 1, none⟩ (.int .i64 ((k0 : Int) + 1)) = w4 at HF ⊢
 have h1 : k0 + 1 ≤ s.size := by omega
 obtain ⟨j, hj⟩ : ∃ j, j = k0 + 1 := ⟨_, rfl⟩
 rw [← hj] at HF h1
 rw [← hj] at HR
 clear hj
 have HO := Lib.hid (rf_list b s j d bd F HTS.out HFW.out hbd h1 hm w4 HF.out.rd.2)
 rw [← HR.out] at HO
 go_wp2_with fail
 refine HO.out.mono ?_
 rintro e w7 ⟨t, v, rfl, hM, htl, ht, k7, v7, hT, hk7, hL, hke⟩
 have HF7 := Lib.hid (HF.out.step hT)
 obtain ⟨v4, v5, rfl, hM4, hM5⟩ := hM
 obtain ⟨A4, c4, rfl⟩ := Kd.R_slice hM4
 obtain ⟨A5, c5, rfl⟩ := Kd.R_slice hM5
 have HM := Lib.hid (TmMade.lower (base' := w.heap.size + 1) ⟨_, _, rfl, hM4, hM5⟩ HF.out.tm.lt)
 have HL := Lib.hid hL
 have HTT := Lib.hid ht
 have HKE := Lib.hid hke
 clear hT hM4 hM5 hL ht hke HF
 unfold tmV
 obtain ⟨r0, r1, r2, r3, r4, r5, g0, g1, g2, g3, g4, g5⟩ := HF7.out.tm
 simp only [zTm] at r0 r1 r2 r3 r4 r5
 go_wp2_with fail
 refine bodyPost_ret (resTm rfl _ _ w.heap.size t _ _ (by rfl) (HF7.out.tm.put t _ _)) rfl ?_
 exact HF7.out.pass t HM.out htl HTT.out HL.out hk7 HKE.out
theorem tupleAt_row (F : Nat → Rd) (s : ByteArray) (k : Nat) : tupleAt F s k = tupEnd s (rowM F s k 125) := by
 rw [tupleAt_eq]
 unfold rowM
 cases h : isAt s (blk s k) 125 with
 | true => simp [tupEnd, h]
 | false => simp
set_option maxRecDepth 100000 in
set_option maxHeartbeats 4000000 in
theorem rf_begun_tuple (b : Nat) (s : ByteArray) (k0 d bd : Nat) (F : Nat → Rd) (hF : TermSaysR s b d bd F) (hFw : Fwd s F) (hlt : k0 < s.size) (hb : bt s (k0 : Int) = 123) (hm : s.size ≤ 4194304) (w : World) (hS : RfAt w b s k0 d (.slice none 0 0)) :
  Calls Tryz.prog 61 #[.pointer (some ⟨b, 0, none⟩)] w (RfTm w b s d (s.size + 2 + bd) (begunAt F s k0)) := by
 obtain ⟨R, hR⟩ : ∃ R, R = begunAt F s k0 := ⟨_, rfl⟩
 rw [← hR]
 rw [begun_c hlt (by rw [hb]; decide), hb] at hR
 have HR0 : Hid (R = tupEnd s (rowM F s (k0 + 1) 125)) := Lib.hid (hR.trans (tupleAt_row F s (k0 + 1)))
 have hc : byAt s k0 = 123 := (beg_at hlt).trans hb
 have hbg := beg_not hb (by decide)
 have h0 : k0 ≤ s.size := Nat.le_of_lt hlt
 have HTS := Lib.hid hF
 have HFW := Lib.hid hFw
 clear hR hb hF hFw
 have hne := fun (w : World) (a : Option Addr) (n c : Nat) => run_neq_slice_nil_any (P := Tryz.prog) w 32 69 a n c 0 0 Tryz.underlying32
 have heq := fun (w : World) (a : Option Addr) (n c : Nat) => Lib.run_eql_slice_nil (P := Tryz.prog) w 32 69 a n c 0 0 Tryz.underlying32
 obtain ⟨w1, hw1⟩ : ∃ W, W = w.alloc (.cells #[.int .i64 0, .int .i64 0, .string ⟨#[]⟩, .int .u32 0, .slice none 0 0, .slice none 0 0] 27) := ⟨_, rfl⟩
 have hF1 : RfF w w1 b s k0 d (.slice none 0 0) := by rw [hw1]; exact RfF.start hS
 have HBY := Lib.hid (rf_byte b s k0 d _ h0 hm w1 hF1.rd.2)
 have HF := Lib.hid hF1
 clear hS hF1
 rw [hc] at HBY
 clear hc
 go_enter Tryz.func61, Tryz.ntmps61
 go_upto_region 1 with (fail)
 rw [← hw1]
 clear hw1
 go_wp2_with fail
 refine HBY.out.mono ?_
 rintro e w2 ⟨rfl, n2, rfl⟩
 replace HF := Lib.hid (HF.out.drewN n2)
 generalize w1.drewN n2 = w2 at HF ⊢
 clear HBY
 have a0 := HF.out.rd.2.c0
 have a1 := HF.out.rd.2.c1
 have e0 : (0 : Int) ≤ (k0 : Int) := by omega
 have e1 : (k0 : Int) < (s.size : Int) := by omega
 go_wp2_with fail
 go_quiet (fail)
 replace HF := Lib.hid (HF.out.drewN nq)
 clear a0 a1
 generalize w2.drewN nq = w3 at HF ⊢
 go_wp2_with fail
 refine (rf_begins b s k0 d _ h0 hm w3 HF.out.rd.2).mono ?_
 rintro e w4 ⟨rfl, n4, rfl⟩
 replace HF := Lib.hid (HF.out.drewN n4)
 generalize w3.drewN n4 = w4 at HF ⊢
 rw [hbg]
 generalize w4 = w3 at HF ⊢
 have a1 := HF.out.rd.2.c1
 have f1 := HF.out.rd.2.f1
 go_upto_region 28 with (fail)
 replace HF := Lib.hid (HF.out.step ((RfTo.refl HF.out.rd.2).set1 ((k0 : Int) + 1) (k0 + 1) (by omega)))
 clear a1 f1
 generalize w3.setCell ⟨b, 1, none⟩ (.int .i64 ((k0 : Int) + 1)) = w4 at HF ⊢
 have h1 : k0 + 1 ≤ s.size := by omega
 obtain ⟨j, hj⟩ : ∃ j, j = k0 + 1 := ⟨_, rfl⟩
 rw [← hj] at HF h1
 rw [← hj] at HR0
 clear hj
 have HO := Lib.hid (rf_row b s j d bd 125 (by decide) F HTS.out HFW.out h1 hm w4 HF.out.rd.2)
 generalize rowM F s j 125 = q at HO HR0
 obtain ⟨ql, e0, r⟩ := q
 go_wp2_with fail
 refine HO.out.mono ?_
 rintro e w5 ⟨l, lv, rfl, hRl, hll, hle, k5, v5, hT, hk5, hL, hke⟩
 have HF5 := Lib.hid (HF.out.step hT)
 have HRl := Lib.hid (Kd.R_lower hRl HF.out.tm.lt)
 have hnl := HRl.out
 obtain ⟨TL, cl, rfl⟩ := Kd.R_slice hnl
 have HL := Lib.hid hL
 simp only at hle hke
 have HLE := Lib.hid hle
 have HKE := Lib.hid hke
 clear hT hRl HO HF hnl hL hle hke
 cases r with
 | cons x y =>
  have HR : Hid (R = (zTm, 0, x :: y)) := Lib.hid (HR0.out.trans (by simp [tupEnd]))
  obtain ⟨gl, cc, rfl, _, _⟩ := HL.out.headT
  have a3 := HF5.out.rd.2.c3
  obtain ⟨r0, r1, r2, r3, r4, r5, g0, g1, g2, g3, g4, g5⟩ := HF5.out.tm
  simp only [zTm] at r0 r1 r2 r3 r4 r5
  go_wp2_with fail
  refine bodyPost_ret (resTm rfl _ _ w.heap.size ⟨5, 0, ⟨#[]⟩, 0, [], l⟩ _ _ (by rfl) (HF5.out.tm.put ⟨5, 0, ⟨#[]⟩, 0, [], l⟩ _ _)) rfl ?_
  rw [HR.out]
  exact HF5.out.none ⟨5, 0, ⟨#[]⟩, 0, [], l⟩ zTm ⟨_, _, rfl, Kd.R_nil _ _ _ _ _, HRl.out⟩ HL.out (by simp) hk5 (show l.length ≤ s.size + 2 + bd by omega)
 | nil =>
  obtain rfl := HL.out.2 rfl
  obtain rfl := HLE.out rfl
  obtain rfl := HKE.out rfl
  have HM := Lib.hid (rf_must b s k5 d 125 hk5 hm w5 HF5.out.rd.2)
  have a3 := HF5.out.rd.2.c3
  go_wp2_with fail
  refine HM.out.mono ?_
  rintro e w6 ⟨rfl, k6, v6, hT, hk6, hL, hke⟩
  have HF6 := Lib.hid (HF5.out.step hT)
  have HR6 := Lib.hid (R_readR HRl.out HF5.out.rd.2 hT.1)
  have HL6 := Lib.hid hL
  clear hT hL HM a3 HRl
  obtain ⟨r0, r1, r2, r3, r4, r5, g0, g1, g2, g3, g4, g5⟩ := HF6.out.tm
  simp only [zTm] at r0 r1 r2 r3 r4 r5
  go_wp2_with fail
  refine bodyPost_ret (resTm rfl _ _ w.heap.size ⟨5, 0, ⟨#[]⟩, 0, [], l⟩ _ _ (by rfl) (HF6.out.tm.put ⟨5, 0, ⟨#[]⟩, 0, [], l⟩ _ _)) rfl ?_
  cases h125 : isAt s k5 125 with
  | true =>
   have HR : Hid (R = (⟨5, 0, ⟨#[]⟩, 0, [], l⟩, k5 + 1, [])) := Lib.hid (HR0.out.trans (by simp [tupEnd, h125]))
   rw [must_ok h125] at HL6 hke
   obtain rfl := HL6.out.2 rfl
   obtain rfl := hke rfl
   rw [HR.out]
   exact HF6.out.done ⟨5, 0, ⟨#[]⟩, 0, [], l⟩ ⟨_, _, rfl, Kd.R_nil _ _ _ _ _, HR6.out⟩ hk6 (show l.length ≤ s.size + 2 + bd by omega)
  | false =>
   have HR : Hid (R = rdNo k5 41) := Lib.hid (HR0.out.trans (by simp [tupEnd, h125]))
   rw [must_no h125] at HL6
   rw [HR.out]
   exact HF6.out.none ⟨5, 0, ⟨#[]⟩, 0, [], l⟩ zTm ⟨_, _, rfl, Kd.R_nil _ _ _ _ _, HR6.out⟩ HL6.out (by simp) hk6 (show l.length ≤ s.size + 2 + bd by omega)
end Go.Proofs.YtibbcfeaododhaaGreatDoor
set_option linter.unusedSimpArgs false
set_option linter.unusedVariables false
namespace Go.Proofs.YtibbcfeaododhaaGreatDoor
open Go.RowKit Go.Sort Go.Proofs.YtibbcfeaododhaaGreatDoorW.PrintWords
theorem mark_index (i : Nat) (hi : i < 5) (w : World) : (Instr.index 9 (.string ⟨#[35, 82, 101, 102, 60]⟩) (.int .i64 (i : Int))).run Tryz.prog w = .ok (.int .u8 (refMark.getD i 0)) w := by
 obtain rfl | rfl | rfl | rfl | rfl : i = 0 ∨ i = 1 ∨ i = 2 ∨ i = 3 ∨ i = 4 := by omega
 all_goals (show _ = _; kernel_rfl)
theorem mark_yes {s : ByteArray} {k i : Nat} (hi : i < 5) (h : isAt s (k + i) (refMark.getD i 0) = true) : markLen s k (5 - i) = markLen s k (5 - (i + 1)) + 1 := by
 obtain ⟨n, hn⟩ : ∃ n, 5 - i = n + 1 := ⟨4 - i, by omega⟩
 rw [hn, markLen, show 5 - (n + 1) = i by omega, if_pos h, show 5 - (i + 1) = n by omega]
theorem mark_not {s : ByteArray} {k i : Nat} (hi : i < 5) (h : isAt s (k + i) (refMark.getD i 0) = false) : markLen s k (5 - i) = 0 := by
 obtain ⟨n, hn⟩ : ∃ n, 5 - i = n + 1 := ⟨4 - i, by omega⟩
 rw [hn, markLen, show 5 - (n + 1) = i by omega, if_neg (by rw [h]; simp)]
/-- What holds at the mark's loop's head. -/
def MarkSt (R : Rd) (W : World) (b : Nat) (s : ByteArray) (k0 k i : Nat) (v : Value) : Prop :=
 (v = .slice none 0 0 ∧ k = k0 + i ∧ markLen s k0 5 = i + markLen s k0 (5 - i)) ∨ (∃ l : List Lk, l ≠ [] ∧ LnIs W (b + 1) l v ∧ R = (zTm, 0, l))
set_option maxRecDepth 100000 in
set_option maxHeartbeats 4000000 in
theorem rf_begun_ref (b : Nat) (s : ByteArray) (k0 d bd : Nat) (F : Nat → Rd) (hlt : k0 < s.size) (hb : bt s (k0 : Int) = 35) (hm : s.size ≤ 4194304) (w : World) (hS : RfAt w b s k0 d (.slice none 0 0)) :
  Calls Tryz.prog 61 #[.pointer (some ⟨b, 0, none⟩)] w (RfTm w b s d bd (begunAt F s k0)) := by
 obtain ⟨R, hR⟩ : ∃ R, R = begunAt F s k0 := ⟨_, rfl⟩
 rw [← hR]
 rw [begun_c hlt (by rw [hb]; decide), hb] at hR
 have HR0 : Hid (R = if markLen s k0 5 = 5 then farAt s (k0 + 5) 3 3 else rdNo (k0 + markLen s k0 5) 41) := Lib.hid hR
 have hc : byAt s k0 = 35 := (beg_at hlt).trans hb
 have hbg := beg_not hb (by decide)
 have h0 : k0 ≤ s.size := Nat.le_of_lt hlt
 clear hR hb
 have hne := fun (w : World) (a : Option Addr) (n c : Nat) => run_neq_slice_nil_any (P := Tryz.prog) w 32 69 a n c 0 0 Tryz.underlying32
 have heq := fun (w : World) (a : Option Addr) (n c : Nat) => Lib.run_eql_slice_nil (P := Tryz.prog) w 32 69 a n c 0 0 Tryz.underlying32
 obtain ⟨w1, hw1⟩ : ∃ W, W = w.alloc (.cells #[.int .i64 0, .int .i64 0, .string ⟨#[]⟩, .int .u32 0, .slice none 0 0, .slice none 0 0] 27) := ⟨_, rfl⟩
 have hF1 : RfF w w1 b s k0 d (.slice none 0 0) := by rw [hw1]; exact RfF.start hS
 have HBY := Lib.hid (rf_byte b s k0 d _ h0 hm w1 hF1.rd.2)
 have HF := Lib.hid hF1
 clear hS hF1
 rw [hc] at HBY
 clear hc
 go_enter Tryz.func61, Tryz.ntmps61
 go_upto_region 1 with (fail)
 rw [← hw1]
 clear hw1
 go_wp2_with fail
 refine HBY.out.mono ?_
 rintro e w2 ⟨rfl, n2, rfl⟩
 replace HF := Lib.hid (HF.out.drewN n2)
 generalize w1.drewN n2 = w2 at HF ⊢
 clear HBY
 have a0 := HF.out.rd.2.c0
 have a1 := HF.out.rd.2.c1
 have e0 : (0 : Int) ≤ (k0 : Int) := by omega
 have e1 : (k0 : Int) < (s.size : Int) := by omega
 go_wp2_with fail
 go_quiet (fail)
 replace HF := Lib.hid (HF.out.drewN nq)
 clear a0 a1
 generalize w2.drewN nq = w3 at HF ⊢
 go_wp2_with fail
 refine (rf_begins b s k0 d _ h0 hm w3 HF.out.rd.2).mono ?_
 rintro e w4 ⟨rfl, n4, rfl⟩
 replace HF := Lib.hid (HF.out.drewN n4)
 generalize w3.drewN n4 = w4 at HF ⊢
 rw [hbg]
 go_wp2_with fail
 go_loopg [7] 5 (fun gk vi wl => ∃ (i k : Nat) (v : Value), vi = .int .i64 (i : Int) ∧ gk = 5 - i ∧ i ≤ 5 ∧ k ≤ s.size ∧ Hid (RfF w wl b s k d v) ∧ Hid (MarkSt R wl b s k0 k i v))
 case atStart => exact ⟨0, k0, _, rfl, rfl, by omega, h0, HF, Lib.hid (.inl ⟨rfl, rfl, by simp⟩)⟩
 case round =>
  clear HF
  obtain ⟨i, k, v, rfl, hgk, hi, hk, HF, HST⟩ := hrel
  have HK := Lib.hid hgk
  clear hgk
  rcases HST.out with ⟨rfl, hki, hml⟩ | ⟨l, hl, hL, hR⟩
  ·have HKI := Lib.hid hki
   have HML := Lib.hid hml
   clear HST hki hml
   have a3 := HF.out.rd.2.c3
   by_cases hi5 : i < 5
   ·have hix := fun w => mark_index i hi5 w
    have HY := Lib.hid (mark_yes (s := s) (k := k0) hi5)
    have HNO := Lib.hid (mark_not (s := s) (k := k0) hi5)
    rw [← HKI.out] at HY HNO
    have HM := Lib.hid (rf_must b s k d (refMark.getD i 0) hk hm wr HF.out.rd.2)
    have HMO := Lib.hid (must_ok (s := s) (k := k) (c := refMark.getD i 0))
    have HMN := Lib.hid (must_no (s := s) (k := k) (c := refMark.getD i 0))
    generalize refMark.getD i 0 = c at hix HM HY HNO HMO HMN
    go_wp2_with fail
    refine HM.out.mono ?_
    rintro e w6 ⟨rfl, k6, v6, hT, hk6, hL, hke⟩
    have HF6 := Lib.hid (HF.out.step hT)
    have HL6 := Lib.hid hL
    clear hT hL HM a3 HF hix
    cases hcc : isAt s k c with
    | true =>
     rw [HMO.out hcc] at HL6 hke
     obtain rfl := HL6.out.2 rfl
     have hk6' := hke rfl
     have HKI2 : Hid (k6 = k0 + (i + 1)) := Lib.hid (by rw [hk6', HKI.out]; omega)
     have HML2 : Hid (markLen s k0 5 = i + 1 + markLen s k0 (5 - (i + 1))) := Lib.hid (by rw [HML.out, HY.out hcc]; omega)
     clear hke hk6' hcc
     go_wp2_with fail
     go_roundg (5 - (i + 1))
     case measure => rw [HK.out]; omega
     case rel => exact ⟨i + 1, k6, _, by go_num, rfl, by omega, hk6, HF6, Lib.hid (.inl ⟨rfl, HKI2.out, HML2.out⟩)⟩
    | false =>
     rw [HMN.out hcc] at HL6
     have HR2 : Hid (R = (zTm, 0, [⟨nTerm, (k : Nat), 41⟩])) := Lib.hid (by
      have h9 := HML.out
      rw [HNO.out hcc] at h9
      rw [HR0.out, if_neg (by omega), h9, Nat.add_zero, ← HKI.out]
      rfl)
     clear hke hcc
     go_wp2_with fail
     go_roundg (5 - (i + 1))
     case measure => rw [HK.out]; omega
     case rel => exact ⟨i + 1, k6, _, by go_num, rfl, by omega, hk6, HF6, Lib.hid (.inr ⟨_, by simp, HL6.out, HR2.out⟩)⟩
   ·obtain rfl : i = 5 := by omega
    have HR : Hid (R = farAt s k 3 3) := Lib.hid (by
     have h9 := HML.out
     rw [show 5 - 5 = 0 from rfl, markLen] at h9
     rw [HR0.out, if_pos (by omega), ← HKI.out])
    have HO : Hid (Calls Tryz.prog 109 #[.pointer (some ⟨b, 0, none⟩), .int .i64 3, .int .i64 3] wr (RfTm wr b s d bd (farAt s k 3 3))) := Lib.hid (rf_own b s k d bd 3 3 (by decide) hk hm wr HF.out.rd.2)
    rw [← HR.out] at HO
    go_wp2_with fail
    refine HO.out.mono ?_
    rintro e w7 ⟨t, v, rfl, hM, htl, ht, k7, v7, hT, hk7, hL, hke⟩
    have HF7 := Lib.hid (HF.out.step hT)
    obtain ⟨v4, v5, rfl, hM4, hM5⟩ := hM
    obtain ⟨A4, c4, rfl⟩ := Kd.R_slice hM4
    obtain ⟨A5, c5, rfl⟩ := Kd.R_slice hM5
    have HM := Lib.hid (TmMade.lower (base' := w.heap.size + 1) ⟨_, _, rfl, hM4, hM5⟩ HF.out.tm.lt)
    have HL := Lib.hid hL
    have HTT := Lib.hid ht
    have HKE := Lib.hid hke
    clear hT hM4 hM5 hL ht hke HF
    unfold tmV
    obtain ⟨r0, r1, r2, r3, r4, r5, g0, g1, g2, g3, g4, g5⟩ := HF7.out.tm
    simp only [zTm] at r0 r1 r2 r3 r4 r5
    go_wp2_with fail
    refine bodyPost_ret (resTm rfl _ _ w.heap.size t _ _ (by rfl) (HF7.out.tm.put t _ _)) rfl ?_
    exact HF7.out.pass t HM.out htl HTT.out HL.out hk7 HKE.out
  ·have HL := Lib.hid hL
   have HR := Lib.hid hR
   have HLL := Lib.hid hl
   obtain ⟨g2, c2, hv2⟩ : ∃ g2 c2, v = .slice (some ⟨g2, 0, none⟩) l.length c2 := by
    cases l with
    | nil => exact absurd rfl hl
    | cons x r =>
     obtain ⟨g2, c2, e, _, _⟩ := hL.headT
     exact ⟨g2, c2, e⟩
   subst hv2
   clear hL hR hl HST
   have a3 := HF.out.rd.2.c3
   by_cases hi5 : i < 5
   ·go_wp2_with fail
    go_roundg (5 - (i + 1))
    case measure => rw [HK.out]; omega
    case rel => exact ⟨i + 1, k, _, by go_num, rfl, by omega, hk, HF, Lib.hid (.inr ⟨l, HLL.out, HL.out, HR.out⟩)⟩
   ·obtain ⟨r0, r1, r2, r3, r4, r5, g0, g1, g2, g3, g4, g5⟩ := HF.out.tm
    simp only [zTm] at r0 r1 r2 r3 r4 r5
    go_wp2_with fail
    refine bodyPost_ret (resTm rfl _ _ w.heap.size zTm _ _ (by rfl) (HF.out.tm.put zTm _ _)) rfl ?_
    rw [HR.out]
    exact HF.out.none zTm zTm (TmMade.zero _ _) HL.out HLL.out hk
theorem rf_begun (b : Nat) (s : ByteArray) (k0 d bd : Nat) (F : Nat → Rd) (hF : TermSaysR s b d bd F) (hFw : Fwd s F) (hbd : bd ≤ 1500000000) (h0 : k0 ≤ s.size) (hm : s.size ≤ 4194304) (w : World) (hS : RfAt w b s k0 d (.slice none 0 0)) :
  Calls Tryz.prog 61 #[.pointer (some ⟨b, 0, none⟩)] w (RfTm w b s d (s.size + 2 + bd) (begunAt F s k0)) := by
 by_cases hlt : k0 < s.size
 ·have hat := beg_at hlt
  by_cases c45 : bt s (k0 : Int) = 45
  ·exact rf_begun_minus b s k0 d _ F hlt c45 hm w hS
  ·cases hdg : isDigit (bt s (k0 : Int)) with
   | true => exact rf_begun_dig b s k0 d _ F hlt hdg hm w hS
   | false =>
    cases hbg : begAtom s k0 with
    | true => exact rf_begun_atom b s k0 d _ F hlt hbg hm w hS
    | false =>
     by_cases c60 : bt s (k0 : Int) = 60
     ·exact rf_begun_pid b s k0 d _ F hlt c60 hm w hS
     ·by_cases c35 : bt s (k0 : Int) = 35
      ·exact rf_begun_ref b s k0 d _ F hlt c35 hm w hS
      ·by_cases c123 : bt s (k0 : Int) = 123
       ·exact rf_begun_tuple b s k0 d bd F hF hFw hlt c123 hm w hS
       ·by_cases c91 : bt s (k0 : Int) = 91
        ·exact rf_begun_list b s k0 d bd F hF hFw hbd hlt c91 hm w hS
        ·have hnd : ¬ (isDigit (bt s (k0 : Int)) = true ∨ bt s (k0 : Int) = 45) := by rw [hdg]; simp [c45]
         have hR : begunAt F s k0 = rdNo k0 41 := by
          rw [begun_c hlt hnd, if_neg c123, if_neg c91, if_neg c35, if_neg c60, atomAt_no hbg]
          rfl
         unfold isDigit at hdg
         refine rf_begun_no b s k0 d _ _ hR h0 hm w hS ?_ ?_ hbg ?_ ?_ ?_ ?_
         ·rw [hat]; exact beq_eq_false_iff_ne.2 c45
         ·rw [hat]
          by_cases h48 : bt s (k0 : Int) ≥ 48
          ·refine .inr ⟨decide_eq_true h48, decide_eq_false fun h57 => ?_⟩
           rw [decide_eq_true h48, decide_eq_true h57] at hdg
           cases hdg
          ·exact .inl (decide_eq_false h48)
         ·rw [hat]; exact beq_eq_false_iff_ne.2 c60
         ·rw [hat]; exact beq_eq_false_iff_ne.2 c35
         ·rw [hat]; exact beq_eq_false_iff_ne.2 c123
         ·rw [hat]; exact beq_eq_false_iff_ne.2 c91
 ·have hat : byAt s k0 = 0 := by unfold byAt; rw [if_neg hlt]
  exact rf_begun_no b s k0 d _ _ (begun_out (by omega)) h0 hm w hS (by rw [hat]; rfl) (.inl (by rw [hat]; rfl)) (by unfold begAtom; rw [decide_eq_false hlt, Bool.false_and]) (by rw [hat]; rfl) (by rw [hat]; rfl) (by rw [hat]; rfl) (by rw [hat]; rfl)
end Go.Proofs.YtibbcfeaododhaaGreatDoor
set_option linter.unusedSimpArgs false
namespace Go.Proofs.YtibbcfeaododhaaGreatDoor
open Go.RowKit Go.Sort Go.Proofs.YtibbcfeaododhaaGreatDoorW.PrintWords
theorem read11 (b g4 : Nat) (s : ByteArray) (k d : Nat) (hd : d < 1000) (u : FrameMode) (w : World) (hS : RdAt w b s k (d + 1)) (h4 : w.cell? ⟨g4, 0, none⟩ = some (.pointer (some ⟨b, 0, none⟩))) :
  CallsD Tryz.prog 27 #[.pointer (some ⟨g4, 0, none⟩)] u w fun e u' w' => u' = u ∧ (e = .returned (.tuple #[]) ∧ w' = w.setCell ⟨b, 2, none⟩ (.int .i64 (d : Int))) := by
 have h2 := hS.c2
 have f2 := hS.f2
 clear hS
 rw [show ((d + 1 : Nat) : Int) = (d : Int) + 1 by omega] at h2
 go_enter_d Tryz.func27, Tryz.ntmps27
 go_wp2_with fail
 go_end0
 exact ⟨rfl, by simp⟩
theorem ErrIs.kept3 {W W' : World} (he : ∀ b o, (∃ u, W.cell? ⟨b, 3, none⟩ = some u) → W'.cell? ⟨b, o, none⟩ = W.cell? ⟨b, o, none⟩) : ∀ {l : List Lk} {v : Value}, ErrIs W l v → ErrIs W' l v
 | [], _, h => h
 | _ :: _, _, ⟨b, u, e, h0, h1, h2, h3, h4⟩ => ⟨b, u, e, (he b 0 ⟨_, h3⟩).trans h0, (he b 1 ⟨_, h3⟩).trans h1, (he b 2 ⟨_, h3⟩).trans h2, (he b 3 ⟨_, h3⟩).trans h3, ErrIs.kept3 he h4⟩
/-- An error's chain bears the reader's box being written: no link lies there. -/
theorem ErrIs.rd {W : World} {b : Nat} {s : ByteArray} {k d : Nat} {l : List Lk} {v : Value} (h : ErrIs W l v) (hr : RdAt W b s k d) (x : Value) : ErrIs (W.setCell ⟨b, 2, none⟩ x) l v := by
 refine ErrIs.kept3 (W := W) (fun b' o ⟨u, hu⟩ => ?_) h
 have hne : b' ≠ b := fun e => by
  rw [e] at hu
  simp [World.cell?, hr.h] at hu
 exact World.cell?_setCell_other _ _ _ _ (by simp [hne])
set_option maxRecDepth 100000 in
set_option maxHeartbeats 2000000 in
theorem read1 (s : ByteArray) (b g4 g5 : Nat) (hm : s.size ≤ 4194304) : ∀ n d, n + d = 256 → TermSays s b g4 g5 d (rdT s n)
 | n, d, hnd => by
  intro k0 w h0 hS hX
  have hG := hX.gl
  have HX0 := Lib.hid hX
  obtain ⟨w1, hw1⟩ : ∃ W, W = w.alloc (.cells #[.int .i64 0, .int .i64 0, .string ⟨#[]⟩, .int .u32 0, .slice none 0 0, .slice none 0 0] 27) := ⟨_, rfl⟩
  have hF : RdF w w1 b s k0 d := by rw [hw1]; exact RdF.start hS
  have HF := Lib.hid hF
  clear hS hG hF hX
  go_enter_defers Tryz.func25, Tryz.ntmps25
  go_upto_region 1 with (fail)
  rw [← hw1]
  clear hw1
  have HX1 := Lib.hid (HX0.out.step HF.out.rd.1)
  have a4 := HX1.out.c4
  have HSK := Lib.hid (rd_skip b s k0 d h0 hm w1 HF.out.rd.2)
  have hkb := blk_le s k0 h0
  go_wp2_with fail
  refine HSK.out.mono ?_
  rintro e w2 ⟨rfl, hT⟩
  have HF2 := Lib.hid (HF.out.step hT)
  have HX2 := Lib.hid (HX1.out.step hT.1)
  clear hT HSK HF HX1 a4
  have a4 := HX2.out.c4
  have a5 := HX2.out.c5
  have a1 := HF2.out.rd.2.c1
  have a2 := HF2.out.rd.2.c2
  have f2 := HF2.out.rd.2.f2
  match n, hnd with
  | 0, hnd =>
   obtain rfl : d = 256 := by omega
   have hR : rdT s 0 k0 = rdNo (blk s k0) 9 := rfl
   rw [hR]
   go_wp2_with fail
   refine (term_fault _ _ _ _ [] rfl).mono ?_
   rintro e w7 ⟨v, rfl, hE, hB⟩
   have HE := Lib.hid hE
   have HF7 := Lib.hid (HF2.out.below hB)
   clear hE hB a1 a2 f2 a4 a5
   obtain ⟨r0, r1, r2, r3, r4, r5, y0, y1, y2, y3, y4, y5⟩ := HF7.out.tm
   simp only [zTm] at r0 r1 r2 r3 r4 r5
   go_wp2_with fail
   have hp : TermE w b s 256 (rdT s 0 k0) (.returned (.tuple #[tmV zTm vNone vNone, v])) (put6 w7 w.heap.size zTm vNone vNone) := HF7.out.fail HE.out (by simp) hkb
   refine ⟨_, resTm2 rfl _ _ w.heap.size zTm _ _ (by rfl) (HF7.out.tm.put zTm _ _), ?_⟩
   exact hp
  | n + 1, hnd =>
   have d0 : decide ((d : Int) ≥ 256) = false := decide_eq_false (by omega)
   have hR : rdT s (n + 1) k0 = begunAt (rdT s n) s (blk s k0) := rfl
   have IH := Lib.hid (read1 s b g4 g5 hm n (d + 1) (by omega))
   have hmf : ∀ (fn : Fn) (first cap : Array Value) (w : World), (Instr.makeFunc fn first cap).run Tryz.prog w = .ok (.func fn first cap) w := fun _ _ _ _ => rfl
   go_upto_region 5 with (fail)
   have HF3 := Lib.hid (HF2.out.step ((RdTo.refl HF2.out.rd.2).set2 ((d : Int) + 1) (d + 1) (by omega)))
   have HX3 := Lib.hid (HX2.out.step (grown_set w2 b 2 (.int .i64 ((d : Int) + 1))))
   clear a1 a2 f2 a4 a5 HF2 HX2
   generalize w2.setCell ⟨b, 2, none⟩ (.int .i64 ((d : Int) + 1)) = w3 at HF3 HX3 ⊢
   have a4 := HX3.out.c4
   have a5 := HX3.out.c5
   have HCB := Lib.hid (rd_begun b g4 g5 s (blk s k0) (d + 1) (rdT s n) IH.out (rdT_fwd s n) hkb (blk_blk s k0) hm w3 HF3.out.rd.2 HX3.out)
   rw [← hR] at HCB
   obtain ⟨R, hRR⟩ : ∃ R, R = rdT s (n + 1) k0 := ⟨_, rfl⟩
   rw [← hRR] at HCB
   have HRR := Lib.hid hRR
   clear hR hRR
   obtain ⟨rt, re, rl⟩ := R
   go_wp2_with fail
   refine HCB.out.mono ?_
   rintro e w9 ⟨v, ev, rfl, hM, hE, k', hT, hk', hk2⟩
   have hM2 := hM
   obtain ⟨v4, v5, rfl, hM4, hM5⟩ := hM2
   simp only at hM4 hM5
   obtain ⟨A4, c4, rfl⟩ := Kd.R_slice hM4
   obtain ⟨A5, c5, rfl⟩ := Kd.R_slice hM5
   have HF9 := Lib.hid (HF3.out.step hT)
   have HX9 := Lib.hid (HX3.out.step hT.1)
   have HM := Lib.hid hM
   have HE := Lib.hid hE
   clear hM hM4 hM5 hE hT a4 a5
   unfold tmV
   obtain ⟨r0, r1, r2, r3, r4, r5, y0, y1, y2, y3, y4, y5⟩ := HF9.out.tm
   simp only [zTm] at r0 r1 r2 r3 r4 r5
   go_wp2_with fail
   refine leaves_cons (f := 27) (args := #[.pointer (some ⟨g4, 0, none⟩)]) (by simp) (by simp [go_sem]) ?_
   have hput := HF9.out.put rt (.slice A4 rt.nums.length c4) (.slice A5 rt.args.length c5)
   have h4p : (put6 w9 w.heap.size rt (.slice A4 rt.nums.length c4) (.slice A5 rt.args.length c5)).cell? ⟨g4, 0, none⟩ = some (.pointer (some ⟨b, 0, none⟩)) := (put6_far (fun e => by have h1 := HX0.out.c4; have h2 := World.block_lt_of_cell? w _ h1; simp only at h2; omega) _ _ _).trans HX9.out.c4
   refine (read11 b g4 s k' d (by omega) .returning _ hput.2 h4p).mono ?_
   rintro e u' w'' ⟨rfl, rfl, rfl⟩
   have hne : w.heap.size ≠ b := by have := HF9.out.lt; omega
   have htm := (HF9.out.tm.put rt (.slice A4 rt.nums.length c4) (.slice A5 rt.args.length c5)).grown (grown_set (put6 w9 w.heap.size rt (.slice A4 rt.nums.length c4) (.slice A5 rt.args.length c5)) b 2 (.int .i64 (d : Int))) hne
   have hsz : w.heap.size + 1 ≤ w3.heap.size := HF3.out.tm.lt
   have hlt := HF9.out.lt
   have hmd := HM.out.above (W' := (put6 w9 w.heap.size rt (.slice A4 rt.nums.length c4) (.slice A5 rt.args.length c5)).setCell ⟨b, 2, none⟩ (.int .i64 (d : Int))) (fun j hj _ => (Below.heap_setCell _ _ _ _ (by simp only; omega)).trans (put6_heap w9 w.heap.size rt _ _ j (by omega)))
   have her := (HE.out.wrote6 HF9.out.tm.c0 rt (.slice A4 rt.nums.length c4) (.slice A5 rt.args.length c5)).rd hput.2 (.int .i64 (d : Int))
   have hp : TermE w b s d (rt, re, rl) (.returned (.tuple #[tmV rt (.slice A4 rt.nums.length c4) (.slice A5 rt.args.length c5), ev])) ((put6 w9 w.heap.size rt (.slice A4 rt.nums.length c4) (.slice A5 rt.args.length c5)).setCell ⟨b, 2, none⟩ (.int .i64 (d : Int))) :=
    ⟨_, _, rfl, hmd.lower (by omega), her, k', hput.set2 _ d rfl, hk', hk2⟩
   refine ⟨_, resTm2 rfl _ _ w.heap.size rt _ _ (by rfl) htm, ?_⟩
   rw [← HRR.out]
   exact hp
end Go.Proofs.YtibbcfeaododhaaGreatDoor
namespace Go.Proofs.YtibbcfeaododhaaGreatDoor
open Go.RowKit Go.Proofs.YtibbcfeaododhaaGreatDoorW.PrintWords
theorem strOf_size (l : List Int) : (strOfNums l).size = l.length := by
 unfold strOfNums
 simp [ByteArray.size]
theorem quoteOf_len (s : ByteArray) : (quoteOf s).length ≤ 2 + 4 * s.size := by
 have h1 := flat_len (bs s)
 rw [bs_len] at h1
 unfold quoteOf
 simp only [List.length_cons, List.length_append, List.length_nil]
 omega
theorem quoted_size (s : ByteArray) : (quoted s).1.size ≤ 1022 := by
 have h := quoteOf_len s
 unfold quoted
 split
 ·exact Nat.zero_le 1022
 ·split
  ·exact Nat.zero_le 1022
  ·split
   ·simp only
    omega
   ·simp only
    rw [strOf_size]
    omega
theorem quoted_small (s : ByteArray) : (quoted s).1.size ≤ 2 + 4 * s.size := by
 have h := quoteOf_len s
 unfold quoted
 split
 ·exact Nat.zero_le _
 ·split
  ·exact Nat.zero_le _
  ·split
   ·simp only
    omega
   ·simp only
    rw [strOf_size]
    exact h
theorem itoaI_len {n : Int} (h0 : -9223372036854775808 ≤ n) (h1 : n ≤ 9223372036854775807) : (itoaI n).length ≤ 21 := by
 unfold itoaI
 rw [List.length_map]
 exact Lib.itoa_length_le n h0 h1
/-! ### where a part's text stands -/
def sepPre (c : List Int) (l : List (List Int)) : List Int := if l = [] then [] else sepBy c l ++ c
def sepPost (c : List Int) (l : List (List Int)) : List Int := if l = [] then [] else c ++ sepBy c l
theorem sepBy_cons (c a : List Int) (l : List (List Int)) : sepBy c (a :: l) = a ++ sepPost c l := by
 cases l with
 | nil => simp [sepBy, sepPost]
 | cons b l => simp [sepBy, sepPost]
theorem sepBy_split (c a : List Int) : ∀ (l r : List (List Int)), sepBy c (l ++ a :: r) = sepPre c l ++ (a ++ sepPost c r)
 | [], r => by rw [List.nil_append, sepBy_cons]; rfl
 | b :: l, r => by
  rw [List.cons_append, sepBy_cons]
  have h : sepPost c (l ++ a :: r) = c ++ sepBy c (l ++ a :: r) := by
   unfold sepPost
   rw [if_neg (fun e => by have := congrArg List.length e; simp at this)]
  have h2 : sepPre c (b :: l) = b ++ (sepPost c l ++ c) := by
   unfold sepPre
   rw [if_neg (fun e => by cases e), sepBy_cons, List.append_assoc]
  rw [h, sepBy_split c a l r, h2]
  cases l with
  | nil => simp [sepPre, sepPost]
  | cons d l => simp [sepPre, sepPost]
theorem sepBy_snoc (c a : List Int) (l : List (List Int)) : sepBy c (l ++ [a]) = sepPre c l ++ a := by
 rw [sepBy_split]
 simp [sepPost]
/-! ### how many parts -/
mutual
def cntT : Tm → Nat
 | ⟨_, _, _, _, _, us⟩ => 1 + cntL us
def cntL : List Tm → Nat
 | [] => 0
 | a :: us => cntT a + cntL us
end
theorem cntT_eq (t : Tm) : cntT t = 1 + cntL t.args := by
 cases t
 rw [cntT]
theorem meas_cnt (t : Tm) : ∀ d n m, (measT t d n m).1 = [] → (measT t d n m).2.1 = n + cntT t := by
 induction t using Tm.ind with
 | h t ih =>
  intro d n m h
  obtain ⟨_, _, h3, h4, _⟩ := meas_parts h
  rw [h4, cntT_eq]
  have hl : ∀ (l : List Tm), (∀ a ∈ l, a ∈ t.args) → ∀ d n m, (measL l d n m).1 = [] → (measL l d n m).2.1 = n + cntL l := by
   intro l
   induction l with
   | nil => intro _ d n m _; rw [measL, cntL]; simp
   | cons a l ihl =>
    intro hs d n m h
    rw [measL] at h ⊢
    match he : measT a d n m with
    | ([], n', m') =>
     rw [he] at h
     simp only at h ⊢
     have h1 := ih a (hs a (by simp)) d n m (by rw [he])
     rw [he] at h1
     simp only at h1
     rw [ihl (fun x hx => hs x (by simp [hx])) d n' m' h, h1, cntL]
     omega
    | (x :: r, n', m') => rw [he] at h; cases h
  rw [hl t.args (fun _ h => h) _ _ _ h3]
  omega
theorem chk_cnt {t : Tm} (h : chk t = []) : cntT t ≤ 4096 := by
 have h1 := meas_cnt t 1 0 0 h
 have h2 := meas_range t 1 0 0 (by decide) (by decide) (by decide) (by decide) (by decide) h
 omega
theorem sepBy_len (c : List Int) (hc : c.length ≤ 1) : ∀ (l : List (List Int)), (sepBy c l).length ≤ (l.map List.length).sum + l.length
 | [] => by simp [sepBy]
 | a :: l => by
  rw [sepBy_cons, List.length_append, List.map_cons, List.sum_cons, List.length_cons]
  have h := sepBy_len c hc l
  unfold sepPost
  split
  ·simp; omega
  ·rw [List.length_append]; omega
theorem nums_len : ∀ (l : List Int), (∀ n ∈ l, isU32 n) → (numsTxt l).length ≤ 22 * l.length
 | [], _ => by simp [numsTxt]
 | n :: l, h => by
  have h1 := nums_len l (fun x hx => h x (by simp [hx]))
  have h2 := itoaI_len (n := n) (by have := (h n (by simp)).1; omega) (by have := (h n (by simp)).2; omega)
  unfold numsTxt at h1 ⊢
  simp only [List.flatMap_cons, List.length_append, List.length_cons]
  omega
theorem shape_of {t : Tm} (h : okT t = true) : shapeOk t = true := by
 rw [okT_eq, Bool.and_eq_true] at h
 exact h.1
theorem shape_ref {t : Tm} (h : okT t = true) (hk : t.kd = 3) : t.nums.length = 3 := by
 have h3 := shape_of h
 unfold shapeOk at h3
 rw [if_neg (by omega), if_neg (by omega), if_pos hk] at h3
 simp at h3
 exact h3.2
theorem shape_pid {t : Tm} (h : okT t = true) (hk : t.kd = 4) : t.nums.length = 2 := by
 have h3 := shape_of h
 unfold shapeOk at h3
 rw [if_neg (by omega), if_neg (by omega), if_neg (by omega), if_pos hk] at h3
 simp at h3
 exact h3.2
def small64 (n : Int) : Prop := -9223372036854775808 ≤ n ∧ n ≤ 9223372036854775807
theorem txt_len (t : Tm) : okT t = true → wfT t = true → (t.kd = 1 → small64 t.it) → (t.kd = 3 ∨ t.kd = 4 → t.tx.size ≤ 64) → (∀ a, a ∈ t.args → (txtT [] a).length + 2 ≤ 1024 * cntT a) → (txtT [] t).length + 2 ≤ 1024 * cntT t := by
 intro hok hwf hit hnd ih
 have hqs := quoted_small t.tx
 have hqls : (bs (quoted t.tx).1).length ≤ 2 + 4 * t.tx.size := by rw [bs_len]; exact hqs
 have hkd := shape_kd hok
 have hq := quoted_size t.tx
 have hql : (bs (quoted t.tx).1).length ≤ 1022 := by rw [bs_len]; exact hq
 have hc := cntT_eq t
 have hal : ∀ l : List Tm, (∀ a ∈ l, (txtT [] a).length + 2 ≤ 1024 * cntT a) → ((l.map (txtT [])).map List.length).sum + l.length ≤ 1024 * cntL l := by
  intro l
  induction l with
  | nil => intro _; simp
  | cons a l ihl =>
   intro h
   have h1 := h a (by simp)
   have h2 := ihl (fun x hx => h x (by simp [hx]))
   rw [cntL]
   simp only [List.map_cons, List.sum_cons, List.length_cons]
   omega
 have hal2 := hal t.args ih
 rw [txtT_eq]
 rcases (show t.kd = 1 ∨ t.kd = 2 ∨ t.kd = 3 ∨ t.kd = 4 ∨ t.kd = 5 ∨ t.kd = 6 ∨ t.kd = 7 by omega) with hk | hk | hk | hk | hk | hk | hk
 ·rw [if_pos hk]
  have := itoaI_len (hit hk).1 (hit hk).2
  omega
 ·rw [if_neg (by omega), if_pos hk]
  omega
 ·rw [if_neg (by omega), if_neg (by omega), if_pos hk]
  have hn := shape_ref hok hk
  have hn64 := hnd (.inl hk)
  have h2 := nums_len (t.cr :: t.nums) (wf_nums hwf)
  unfold farTxt
  unfold numsTxt at h2
  simp only [List.length_cons, List.length_append, List.length_nil] at h2 ⊢
  omega
 ·rw [if_neg (by omega), if_neg (by omega), if_neg (by omega), if_pos hk]
  have hn := shape_pid hok hk
  have hn64 := hnd (.inr hk)
  have h2 := nums_len (t.cr :: t.nums) (wf_nums hwf)
  unfold farTxt
  unfold numsTxt at h2
  simp only [List.length_cons, List.length_append, List.length_nil] at h2 ⊢
  omega
 ·rw [if_neg (by omega), if_neg (by omega), if_neg (by omega), if_neg (by omega), if_pos hk]
  have h1 := sepBy_len [44] (by simp) (t.args.map (txtT []))
  rw [List.length_map] at h1
  simp only [List.nil_append, List.length_cons, List.length_append, List.length_nil]
  omega
 ·rw [if_neg (by omega), if_neg (by omega), if_neg (by omega), if_neg (by omega), if_neg (by omega), if_pos hk]
  simp only [List.nil_append, List.length_cons, List.length_nil]
  omega
 ·rw [if_neg (by omega), if_neg (by omega), if_neg (by omega), if_neg (by omega), if_neg (by omega), if_neg (by omega)]
  obtain ⟨hl2, _⟩ := shape_list hok hk
  obtain ⟨i, x, hix⟩ := dropLast_snoc (l := t.args) (by intro e; rw [e] at hl2; simp at hl2)
  rw [hix] at hal2 hc ⊢
  have h1 := sepBy_len [44] (by simp) (i.map (txtT []))
  rw [List.length_map] at h1
  rw [List.map_append, List.map_append] at hal2
  simp only [List.map_cons, List.map_nil, List.sum_append, List.sum_cons, List.sum_nil, List.length_append, List.length_cons, List.length_nil] at hal2
  simp only [List.nil_append, List.map_append, List.map_cons, List.map_nil, List.dropLast_concat, List.getLastD_concat, List.length_cons, List.length_append, List.length_nil]
  split
  ·simp only [List.length_nil]; omega
  ·simp only [List.length_cons]; omega
theorem txt_size (t : Tm) : ∀ D n m, (measT t D n m).1 = [] → wfT t = true → (txtT [] t).length + 2 ≤ 1024 * cntT t := by
 induction t using Tm.ind with
 | h t ih =>
  intro D n m h hwf
  have hok := meas_ok t D n m h
  obtain ⟨_, hf, h3, _, _⟩ := meas_parts h
  refine txt_len t hok hwf (fun hk => ?_) (fun hk => ?_) (fun a ha => ?_)
  ·have := form_int hf hk
   unfold small64
   omega
  ·have h := form_node hf hk
   unfold nodeOk nodeOkL at h
   simp only [Bool.and_eq_true, decide_eq_true_eq] at h
   have := h.1.1.1.2
   rw [bs_len] at this
   exact this
  ·obtain ⟨n', m', h4⟩ := measL_mem h3 a ha
   exact ih a ha _ n' m' h4 (wfL_mem (wf_args hwf) ha)
theorem chk_txt {t : Tm} (h : chk t = []) (hw : wfT t = true) : (txtT [] t).length ≤ 4194302 := by
 have h1 := txt_size t 1 0 0 h hw
 have h2 := chk_cnt h
 omega
end Go.Proofs.YtibbcfeaododhaaGreatDoor
set_option linter.unusedSimpArgs false
namespace Go.Proofs.YtibbcfeaododhaaGreatDoor
open Go.RowKit Go.Sort Go.Proofs.YtibbcfeaododhaaGreatDoorW.PrintWords
/-- Sizes and numbers are in bounds. -/
def inT (t : Tm) : Bool := smT t && wfT t
def inL (l : List Tm) : Bool := smL l && wfL l
theorem inL_iff (l : List Tm) : inL l = true ↔ ∀ a ∈ l, inT a = true := by
 unfold inL inT
 induction l with
 | nil => simp [smL, wfL]
 | cons a l ih =>
  rw [smL, wfL]
  simp only [Bool.and_eq_true, List.mem_cons, forall_eq_or_imp] at ih ⊢
  constructor
  ·rintro ⟨⟨h1, h2⟩, h3, h4⟩
   exact ⟨⟨h1, h3⟩, ih.1 ⟨h2, h4⟩⟩
  ·rintro ⟨⟨h1, h3⟩, h⟩
   have := ih.2 h
   exact ⟨⟨h1, this.1⟩, h3, this.2⟩
theorem inT_mk {t : Tm} (h1 : t.tx.size ≤ 140737488351232) (h2 : 0 ≤ t.cr ∧ t.cr ≤ 4294967295) (h3 : ∀ n ∈ t.nums, 0 ≤ n ∧ n ≤ 4294967295) (h4 : inL t.args = true) : inT t = true := by
 unfold inL at h4
 rw [Bool.and_eq_true] at h4
 unfold inT
 rw [smT_eq, wfT_eq, h4.1, h4.2]
 simp only [Bool.and_eq_true, decide_eq_true_eq, List.all_eq_true, and_true]
 exact ⟨h1, h2, h3⟩
theorem in_zero : inT zTm = true := inT_mk (Nat.zero_le _) (by decide) (fun n h => by cases h) rfl
theorem numAt_in (s : ByteArray) (k : Nat) : 0 ≤ (numAt s k).1 ∧ (numAt s k).1 ≤ 4294967295 := by
 unfold numAt
 split
 ·exact ⟨Int.le_refl 0, by simp⟩
 ·rename_i hd
  have hd' : isDig s k = true := by simpa using hd
  have h := decAt_txt (digs_all hd').1
  split
  ·exact ⟨Int.le_refl 0, by simp⟩
  ·simp only
   omega
theorem numsAt_in (s : ByteArray) : ∀ (n k : Nat), ∀ x ∈ (numsAt s n k).1, 0 ≤ x ∧ x ≤ 4294967295
 | 0, k, x, h => by rw [numsAt] at h; cases h
 | n + 1, k, x, h => by
  rw [numsAt] at h
  have h1 := numAt_in s (k + 1)
  split at h
  ·cases h
  ·generalize numAt s (k + 1) = q at h h1
   obtain ⟨v, e, l⟩ := q
   cases l with
   | cons y r => cases h
   | nil =>
    simp only at h
    have h2 := numsAt_in s n e
    generalize numsAt s n e = p at h h2
    obtain ⟨vs, e', l'⟩ := p
    cases l' with
    | cons y r => cases h
    | nil =>
     simp only [List.mem_cons] at h
     rcases h with rfl | h
     ·exact h1
     ·exact h2 x h
theorem int_in (s : ByteArray) (k j : Nat) (sg : Int) : inT (intAt s k j sg).1 = true := by
 unfold intAt rdNo
 split
 ·exact in_zero
 ·split
  ·exact in_zero
  ·exact inT_mk (Nat.zero_le _) (by simp [tmInt]) (fun n h => by cases h) rfl
theorem whole_in (s : ByteArray) (k : Nat) : inT (wholeAt s k).1 = true := by
 unfold wholeAt rdNo
 split
 ·split
  ·exact in_zero
  ·exact int_in _ _ _ _
 ·exact int_in _ _ _ _
theorem far_in (s : ByteArray) (k : Nat) (kd : Int) (many : Nat) : inT (farAt s k kd many).1 = true := by
 rw [farAt_eq]
 have h1 := atomAt_small s k
 split
 ·split
  ·exact in_zero
  ·unfold farEnd rdNo
   have h2 := numsAt_in s (many + 1) (atomAt s k).2.1
   generalize numsAt s (many + 1) (atomAt s k).2.1 = q at h2 ⊢
   split
   ·split
    ·exact in_zero
    ·refine inT_mk (by simp only; omega) ?_ ?_ rfl
     ·cases hq : q.1 with
      | nil => simp
      | cons a l => exact h2 a (by rw [hq]; simp)
     ·intro n hn
      exact h2 n (List.mem_of_mem_tail hn)
   ·exact in_zero
 ·exact in_zero
theorem sev_in {F : Nat → Rd} (s : ByteArray) (hF : ∀ k, inT (F k).1 = true) : ∀ (m k : Nat) (acc : List Tm), inL acc = true → inL (sevAt F s m k acc).1 = true
 | 0, k, acc, _ => by rw [sevAt]; rfl
 | m + 1, k, acc, ha => by
  have hk := hF k
  have hs : inL (acc ++ [(F k).1]) = true := by
   rw [inL_iff] at ha ⊢
   intro a h
   rcases List.mem_append.1 h with h | h
   ·exact ha a h
   ·rw [List.mem_singleton.1 h]; exact hk
  by_cases he : (F k).2.2 = []
  ·cases hc : isAt s (blk s (F k).2.1) 44 with
   | true => rw [sev_more he hc]; exact sev_in s hF m _ _ hs
   | false => rw [sev_last he hc]; exact hs
  ·rw [sev_err he]; rfl
theorem tuple_in {F : Nat → Rd} (s : ByteArray) (hF : ∀ k, inT (F k).1 = true) (k : Nat) : inT (tupleAt F s k).1 = true := by
 rw [tupleAt_eq]
 split
 ·exact inT_mk (Nat.zero_le _) (by simp) (fun n h => by cases h) rfl
 ·unfold tupEnd rdNo
  have h := sev_in s hF (s.size + 1) (blk s k) [] rfl
  split
  ·split
   ·exact inT_mk (Nat.zero_le _) (by simp) (fun n h => by cases h) h
   ·exact in_zero
  ·exact in_zero
theorem in_args {t : Tm} (h : inT t = true) : inL t.args = true := by
 unfold inT at h
 rw [Bool.and_eq_true] at h
 unfold inL
 rw [sm_args h.1, wf_args h.2]
 rfl
theorem join_in {l : List Tm} {t : Tm} (hl : inL l = true) (ht : inT t = true) : inT (joinT l t) = true := by
 unfold joinT
 refine inT_mk (Nat.zero_le _) (by simp) (fun n h => by cases h) ?_
 have ha := in_args ht
 rw [inL_iff] at hl ha ⊢
 simp only
 split
 ·intro a h
  rcases List.mem_append.1 h with h | h
  ·exact hl a h
  ·exact ha a h
 ·intro a h
  rcases List.mem_append.1 h with h | h
  ·exact hl a h
  ·rw [List.mem_singleton.1 h]; exact ht
theorem listEnd_in (s : ByteArray) {l : List Tm} {t : Tm} (k : Nat) (hl : inL l = true) (ht : inT t = true) : inT (listEnd s l t k).1 = true := by
 unfold listEnd rdNo
 split
 ·exact join_in hl ht
 ·exact in_zero
theorem in_nil : inT tmNil = true := inT_mk (Nat.zero_le _) (by decide) (fun n h => by cases h) rfl
theorem list_in {F : Nat → Rd} (s : ByteArray) (hF : ∀ k, inT (F k).1 = true) (k : Nat) : inT (listAt F s k).1 = true := by
 rw [listAt_eq]
 split
 ·exact in_nil
 ·unfold lstEnd
  have h := sev_in s hF (s.size + 1) (blk s k) [] rfl
  split
  ·split
   ·split
    ·exact listEnd_in s _ h (hF _)
    ·exact in_zero
   ·exact listEnd_in s _ h in_nil
  ·exact in_zero
theorem begun_in {F : Nat → Rd} (s : ByteArray) (hF : ∀ k, inT (F k).1 = true) (k : Nat) : inT (begunAt F s k).1 = true := by
 unfold begunAt rdNo
 split
 ·exact in_zero
 ·split
  ·exact whole_in s k
  ·split
   ·exact tuple_in s hF _
   ·split
    ·exact list_in s hF _
    ·split
     ·split
      ·exact far_in _ _ _ _
      ·exact in_zero
     ·split
      ·exact far_in _ _ _ _
      ·have h := atomAt_small s k
       generalize atomAt s k = q at h ⊢
       obtain ⟨a, e, l⟩ := q
       cases l with
       | nil => exact inT_mk (by simp only at h ⊢; omega) (by simp) (fun n h => by cases h) rfl
       | cons x r => exact in_zero
theorem rdT_in (s : ByteArray) : ∀ d k, inT (rdT s d k).1 = true
 | 0, k => by rw [rdT]; exact in_zero
 | d + 1, k => by rw [rdT]; exact begun_in s (rdT_in s d) _
theorem rdAll_in (s : ByteArray) : inT (rdAll s).1 = true := by
 unfold rdAll
 split
 ·exact in_zero
 ·have h := rdT_in s 256 0
  generalize rdT s 256 0 = q at h ⊢
  obtain ⟨t, e, l⟩ := q
  cases l with
  | nil =>
   simp only
   unfold rdEnd
   split
   ·exact in_zero
   ·split
    ·exact h
    ·exact in_zero
  | cons x r => exact in_zero
theorem inT_sm {t : Tm} (h : inT t = true) : smT t = true := by unfold inT at h; rw [Bool.and_eq_true] at h; exact h.1
theorem inT_wf {t : Tm} (h : inT t = true) : wfT t = true := by unfold inT at h; rw [Bool.and_eq_true] at h; exact h.2
end Go.Proofs.YtibbcfeaododhaaGreatDoor
set_option linter.unusedSimpArgs false
namespace Go.Proofs.YtibbcfeaododhaaGreatDoor
open Go.RowKit Go.Sort Go.Proofs.YtibbcfeaododhaaGreatDoorW.PrintWords
def ReadPost (w : World) (r : Tm × List Lk) (e : Ending) (w' : World) : Prop :=
 ∃ (v ev : Value), e = .returned (.tuple #[v, ev]) ∧ TmMade w' w.heap.size r.1 v ∧ ErrIs w' r.2 ev ∧ Below w.heap.size w w'
theorem four_boxes (w : World) (s : ByteArray) : ∃ w4, w4 = (((w.alloc (.cells #[.int .i64 0, .int .i64 0, .string ⟨#[]⟩, .int .u32 0, .slice none 0 0, .slice none 0 0] 27)).alloc (.cells #[.string s, .int .i64 0, .int .i64 0] tyRd)).alloc (.cells #[.pointer (some ⟨w.heap.size + 1, 0, none⟩)] 54)).alloc (.cells #[.nilFunc] 57) ∧
  TmAt w4 w.heap.size zTm vNone vNone ∧ RdAt w4 (w.heap.size + 1) s 0 0 ∧ w4.cell? ⟨w.heap.size + 1 + 1, 0, none⟩ = some (.pointer (some ⟨w.heap.size + 1, 0, none⟩)) ∧ w4.cell? ⟨w.heap.size + 1 + 1 + 1, 0, none⟩ = some .nilFunc ∧ w4.frozen? ⟨w.heap.size + 1 + 1 + 1, 0, none⟩ = false ∧ Below w.heap.size w w4 := by
 have h1 : TmAt (w.alloc (.cells #[.int .i64 0, .int .i64 0, .string ⟨#[]⟩, .int .u32 0, .slice none 0 0, .slice none 0 0] 27)) w.heap.size zTm vNone vNone := TmAt.new w zTm vNone vNone
 have hb1 := below_alloc (Below.refl w.heap.size w) (.cells #[.int .i64 0, .int .i64 0, .string ⟨#[]⟩, .int .u32 0, .slice none 0 0, .slice none 0 0] 27)
 have s1 : (w.alloc (.cells #[.int .i64 0, .int .i64 0, .string ⟨#[]⟩, .int .u32 0, .slice none 0 0, .slice none 0 0] 27)).heap.size = w.heap.size + 1 := by simp
 generalize w.alloc (.cells #[.int .i64 0, .int .i64 0, .string ⟨#[]⟩, .int .u32 0, .slice none 0 0, .slice none 0 0] 27) = w1 at h1 hb1 s1 ⊢
 have hb2 := below_alloc (Below.refl w1.heap.size w1) (.cells #[.string s, .int .i64 0, .int .i64 0] tyRd)
 have h2 := heap_alloc_new w1 (.cells #[.string s, .int .i64 0, .int .i64 0] tyRd)
 have s2 : (w1.alloc (.cells #[.string s, .int .i64 0, .int .i64 0] tyRd)).heap.size = w1.heap.size + 1 := by simp
 generalize w1.alloc (.cells #[.string s, .int .i64 0, .int .i64 0] tyRd) = w2 at hb2 h2 s2 ⊢
 have hb3 := below_alloc (Below.refl w2.heap.size w2) (.cells #[.pointer (some ⟨w.heap.size + 1, 0, none⟩)] 54)
 have h3 := heap_alloc_new w2 (.cells #[.pointer (some ⟨w.heap.size + 1, 0, none⟩)] 54)
 have s3 : (w2.alloc (.cells #[.pointer (some ⟨w.heap.size + 1, 0, none⟩)] 54)).heap.size = w2.heap.size + 1 := by simp
 generalize w2.alloc (.cells #[.pointer (some ⟨w.heap.size + 1, 0, none⟩)] 54) = w3 at hb3 h3 s3 ⊢
 have hb4 := below_alloc (Below.refl w3.heap.size w3) (.cells #[.nilFunc] 57)
 have h4 := heap_alloc_new w3 (.cells #[.nilFunc] 57)
 generalize w3.alloc (.cells #[.nilFunc] 57) = w4 at hb4 h4 ⊢
 rw [s1] at h2 s2
 rw [s2] at h3 s3
 rw [s3] at h4
 have e3 := (hb4.block (w.heap.size + 1 + 1) (by omega)).trans h3
 have e2 := (hb4.block (w.heap.size + 1) (by omega)).trans ((hb3.block (w.heap.size + 1) (by omega)).trans h2)
 have k2 := h1.below hb2 (by omega)
 have k3 := k2.below hb3 (by omega)
 have k4 := k3.below hb4 (by omega)
 refine ⟨w4, rfl, k4, ⟨e2⟩, by simp [World.cell?, e3], by simp [World.cell?, h4], by simp [World.frozen?, h4], ?_⟩
 exact trans_below (trans_below (trans_below hb1 hb2) hb3) hb4
/-- Read's walk: its result's box, its reader, the reader's box. -/
structure RdW (w W : World) (s : ByteArray) (k : Nat) : Prop where
 bl : Below w.heap.size w W
 tm : TmAt W w.heap.size zTm vNone vNone
 rd : RdAt W (w.heap.size + 1) s k 0
 c4 : W.cell? ⟨w.heap.size + 1 + 1, 0, none⟩ = some (.pointer (some ⟨w.heap.size + 1, 0, none⟩))
theorem RdW.step {w W W' : World} {s : ByteArray} {k k' : Nat} (h : RdW w W s k) (hT : RdTo W (w.heap.size + 1) s k' 0 W') : RdW w W' s k' := by
 refine ⟨h.bl.trans (below_of_grown hT.1 (by omega) h.bl.size), h.tm.grown hT.1 (by omega), hT.2, (hT.1.cell_far ⟨w.heap.size + 1 + 1, 0, none⟩ (World.block_lt_of_cell? W _ h.c4) (by simp)).trans h.c4⟩
theorem RdW.below {w W W' : World} {s : ByteArray} {k : Nat} (h : RdW w W s k) (hb : Below W.heap.size W W') : RdW w W' s k :=
 h.step ((RdTo.refl h.rd).below hb)
theorem RdW.fail {w W : World} {s : ByteArray} {k : Nat} (h : RdW w W s k) {l : List Lk} {ev : Value} (hE : ErrIs W l ev) : ReadPost w (zTm, l) (.returned (.tuple #[tmV zTm vNone vNone, ev])) (put6 W w.heap.size zTm vNone vNone) :=
 ⟨_, _, rfl, TmMade.zero _ _, hE.wrote6 h.tm.c0 _ _ _, h.bl.trans (below_of_grown (grown_put6 W w.heap.size zTm vNone vNone) (Nat.le_refl _) h.bl.size)⟩
theorem read_fail {w W : World} {l : List Lk} {ev : Value} (hb : Below w.heap.size w W) (htm : TmAt W w.heap.size zTm vNone vNone) (hE : ErrIs W l ev) : ReadPost w (zTm, l) (.returned (.tuple #[tmV zTm vNone vNone, ev])) (put6 W w.heap.size zTm vNone vNone) :=
 ⟨_, _, rfl, TmMade.zero _ _, hE.wrote6 htm.c0 _ _ _, hb.trans (below_of_grown (grown_put6 W w.heap.size zTm vNone vNone) (Nat.le_refl _) hb.size)⟩
theorem TmMade.R {W : World} {base : Nat} {t : Tm} {A4 A5 : Option Addr} {c4 c5 : Nat} (h : TmMade W base t (tmV t (.slice A4 t.nums.length c4) (.slice A5 t.args.length c5))) : TmR W t A4 c4 A5 c5 := by
 obtain ⟨B4, d4, B5, d5, e, hR⟩ := h.is
 unfold tmV at e
 injection e with e
 injection e with e
 simp only [List.cons.injEq, Value.slice.injEq, and_true, true_and] at e
 obtain ⟨⟨rfl, rfl⟩, rfl, rfl⟩ := e
 exact hR
theorem RdW.done {w W : World} {s : ByteArray} {k base : Nat} {t : Tm} {v4 v5 : Value} (h : RdW w W s k) (hm : TmMade W base t (tmV t v4 v5)) (hb : w.heap.size < base) : ReadPost w (t, []) (.returned (.tuple #[tmV t v4 v5, .nilIface])) (put6 W w.heap.size t v4 v5) :=
 ⟨_, _, rfl, (hm.above (fun j hj _ => put6_heap W w.heap.size t v4 v5 j (by omega))).lower (by omega), rfl, h.bl.trans (below_of_grown (grown_put6 W w.heap.size t v4 v5) (Nat.le_refl _) h.bl.size)⟩
theorem rdAll_eq {s : ByteArray} (h : ¬ 4194304 < s.size) : rdAll s = if (rdT s 256 0).2.2 = [] then rdEnd s (rdT s 256 0).1 (blk s (rdT s 256 0).2.1) else (zTm, (rdT s 256 0).2.2) := by
 unfold rdAll
 rw [if_neg h]
 obtain ⟨t, e, l⟩ := rdT s 256 0
 cases l with
 | nil => rfl
 | cons x r => rfl
set_option maxRecDepth 100000 in
set_option maxHeartbeats 4000000 in
theorem term_Read (s : ByteArray) (hm : s.size ≤ 140737488351232) (w : World) (hG : Glob w) :
  Calls Tryz.prog 7 #[.string s] w (ReadPost w (rdAll s)) := by
 have HG := Lib.hid hG
 obtain ⟨R, hR⟩ : ∃ R, R = rdAll s := ⟨_, rfl⟩
 rw [← hR]
 clear hG
 have hmf : ∀ (fn : Fn) (first cap : Array Value) (w : World), (Instr.makeFunc fn first cap).run Tryz.prog w = .ok (.func fn first cap) w := fun _ _ _ _ => rfl
 by_cases hl : 4194304 < s.size
 ·have d0 : decide ((s.size : Int) > 4194304) = true := decide_eq_true (by omega)
  have HR : Hid (R = (zTm, [⟨nTerm, 0, 4⟩])) := Lib.hid (hR.trans (by unfold rdAll; rw [if_pos hl]))
  obtain ⟨w1, hw1⟩ : ∃ W, W = w.alloc (.cells #[.int .i64 0, .int .i64 0, .string ⟨#[]⟩, .int .u32 0, .slice none 0 0, .slice none 0 0] 27) := ⟨_, rfl⟩
  have HT1 : Hid (TmAt w1 w.heap.size zTm vNone vNone) := Lib.hid (by rw [hw1]; exact TmAt.new w zTm vNone vNone)
  have HB1 : Hid (Below w.heap.size w w1) := Lib.hid (by rw [hw1]; exact below_alloc (Below.refl _ _) _)
  clear hR hl
  go_enter Tryz.func7, Tryz.ntmps7
  go_upto_region 1 with (fail)
  rw [← hw1]
  clear hw1
  go_wp2_with fail
  refine (term_fault _ _ _ _ [] rfl).mono ?_
  rintro e w2 ⟨v, rfl, hE, hB⟩
  have HE := Lib.hid hE
  have HT2 := Lib.hid (HT1.out.below hB HT1.out.lt)
  have HB2 := Lib.hid (trans_below HB1.out hB)
  clear hE hB
  obtain ⟨r0, r1, r2, r3, r4, r5, g0, g1, g2, g3, g4, g5⟩ := HT2.out
  simp only [zTm] at r0 r1 r2 r3 r4 r5
  go_wp2_with fail
  refine bodyPost_ret (resTm2 rfl _ _ w.heap.size zTm _ _ (by rfl) (HT2.out.put zTm _ _)) rfl ?_
  rw [HR.out]
  exact read_fail HB2.out HT2.out HE.out
 ·have d0 : decide ((s.size : Int) > 4194304) = false := decide_eq_false (by omega)
  have HR := Lib.hid (hR.trans (rdAll_eq hl))
  have hsz : s.size ≤ 4194304 := by omega
  clear hR hl
  obtain ⟨w4, hw4, htm, hr, c4, c5, f5, hb4⟩ := four_boxes w s
  have HR4 := Lib.hid hr
  have HTM := Lib.hid htm
  have HB4 := Lib.hid hb4
  have HC4 := Lib.hid c4
  clear hr htm hb4 c4
  go_enter Tryz.func7, Tryz.ntmps7
  go_upto_region 5 with (fail)
  rw [← hw4]
  clear hw4
  have hst : (store ⟨w.heap.size + 1 + 1 + 1, 0, none⟩ (tv (w.heap.size + 1 + 1) (w.heap.size + 1 + 1 + 1))).run Tryz.prog w4 = .ok () (w4.setCell ⟨w.heap.size + 1 + 1 + 1, 0, none⟩ (tv (w.heap.size + 1 + 1) (w.heap.size + 1 + 1 + 1))) := by
   rw [run_store _ _ _ _ _ rfl]
   simp [stored, c5, f5]
  go_upto_region 6 with (fail)
  have HX5 : Hid (Boxes (w4.setCell ⟨w.heap.size + 1 + 1 + 1, 0, none⟩ (tv (w.heap.size + 1 + 1) (w.heap.size + 1 + 1 + 1))) (w.heap.size + 1) (w.heap.size + 1 + 1) (w.heap.size + 1 + 1 + 1)) := by
   refine Lib.hid ⟨?_, ?_, by omega, by omega, w.heap.size, by omega, ?_, fun W hW => HG.out.below ((HB4.out.setCell (by simp only; omega) _).trans hW)⟩
   ·rw [World.cell?_setCell_other _ _ _ _ (by simp)]; exact HC4.out
   ·exact World.cell?_setCell_same (u := .nilFunc) _ _ _ c5
   ·exact (HB4.out.setCell (p := ⟨w.heap.size + 1 + 1 + 1, 0, none⟩) (by simp only; omega) _).size
  have HW5 : Hid (RdW w (w4.setCell ⟨w.heap.size + 1 + 1 + 1, 0, none⟩ (tv (w.heap.size + 1 + 1) (w.heap.size + 1 + 1 + 1))) s 0) := by
   refine Lib.hid ⟨HB4.out.setCell (by simp only; omega) _, HTM.out.grown (grown_set w4 (w.heap.size + 1 + 1 + 1) 0 _) (by omega), ⟨?_⟩, ?_⟩
   ·rw [Below.heap_setCell _ _ _ _ (by simp only; omega)]; exact HR4.out.h
   ·rw [World.cell?_setCell_other _ _ _ _ (by simp)]; exact HC4.out
  generalize w4.setCell ⟨w.heap.size + 1 + 1 + 1, 0, none⟩ (tv (w.heap.size + 1 + 1) (w.heap.size + 1 + 1 + 1)) = w5 at HX5 HW5 ⊢
  clear hst c5 f5 HC4 HB4 HTM HR4
  have c5 := HX5.out.c5
  have hE := callFunc_in Tryz.func25 (by kernel_rfl) rfl
  have HC := Lib.hid (read1 s (w.heap.size + 1) (w.heap.size + 1 + 1) (w.heap.size + 1 + 1 + 1) hsz 256 0 rfl 0 w5 (Nat.zero_le _) HW5.out.rd HX5.out)
  have HIN := Lib.hid (rdT_in s 256 0)
  generalize rdT s 256 0 = q at HC HR HIN
  obtain ⟨rt, re, rl⟩ := q
  go_wp2_with fail
  refine HC.out.mono ?_
  rintro e w6 ⟨v, ev, rfl, hM, hE6, k', hT, hk', hk2⟩
  have hlt5 : w.heap.size + 1 + 1 + 1 < w5.heap.size := World.block_lt_of_cell? w5 _ c5
  have hM2 := hM
  obtain ⟨v4, v5, rfl, hM4, hM5⟩ := hM2
  simp only at hM4 hM5
  obtain ⟨A4, d4, rfl⟩ := Kd.R_slice hM4
  obtain ⟨A5, d5, rfl⟩ := Kd.R_slice hM5
  have HW6 := Lib.hid (HW5.out.step hT)
  have HM := Lib.hid hM
  have HE := Lib.hid hE6
  clear hM hM4 hM5 hE6 hT c5 hE HX5 hmf HC
  unfold tmV
  go_upto_region 7 with (fail)
  have hb7 := below_alloc (Below.refl w6.heap.size w6) (.cells #[.int .i64 rt.kd, .int .i64 rt.it, .string rt.tx, .int .u32 rt.cr, .slice A4 rt.nums.length d4, .slice A5 rt.args.length d5] 27)
  have hta := TmAt.new w6 rt (.slice A4 rt.nums.length d4) (.slice A5 rt.args.length d5)
  generalize w6.alloc (.cells #[.int .i64 rt.kd, .int .i64 rt.it, .string rt.tx, .int .u32 rt.cr, .slice A4 rt.nums.length d4, .slice A5 rt.args.length d5] 27) = w7 at hb7 hta ⊢
  have HTA := Lib.hid hta
  have HM7 := Lib.hid (HM.out.below hb7)
  have HE7 := Lib.hid (HE.out.below hb7)
  have HW7 := Lib.hid (HW6.out.below hb7)
  have hlt6 : w.heap.size + 1 < w6.heap.size := HW6.out.rd.lt
  clear hb7 hta HE HM
  cases rl with
  | cons x r =>
   have HR2 : Hid (R = (zTm, x :: r)) := Lib.hid HR.out
   obtain ⟨eb, eu, rfl, _⟩ := HE7.out
   have rw4 := HW7.out.c4
   have rwa := HW7.out.rd.c1
   obtain ⟨r0, r1, r2, r3, r4, r5, g0, g1, g2, g3, g4, g5⟩ := HW7.out.tm
   simp only [zTm] at r0 r1 r2 r3 r4 r5
   go_wp2_with fail
   refine bodyPost_ret (resTm2 rfl _ _ w.heap.size zTm _ _ (by rfl) (HW7.out.tm.put zTm _ _)) rfl ?_
   rw [HR2.out]
   exact HW7.out.fail HE7.out
  | nil =>
   obtain rfl : ev = .nilIface := HE7.out
   obtain rfl := hk2 rfl
   have HR2 : Hid (R = rdEnd s rt (blk s k')) := Lib.hid HR.out
   have HSK := Lib.hid (rd_skip (w.heap.size + 1) s k' 0 hk' hsz w7 HW7.out.rd)
   have hkb := blk_le s k' hk'
   clear HR hk2 HE7
   have rw4 := HW7.out.c4
   go_wp2_with fail
   refine HSK.out.mono ?_
   rintro e w8 ⟨rfl, hT⟩
   have HW8 := Lib.hid (HW7.out.step hT)
   have HM8 := Lib.hid (HM7.out.grown HW7.out.rd hT.1)
   have HTA8 := Lib.hid (HTA.out.grown hT.1 (by omega))
   clear hT HSK HW7 HM7 HTA rw4
   by_cases hend : blk s k' < s.size
   ·have HR3 : Hid (R = (zTm, [⟨nTerm, blk s k', 41⟩])) := Lib.hid (HR2.out.trans (by unfold rdEnd; rw [if_pos hend]))
    have d1 : decide (((blk s k' : Nat) : Int) < (s.size : Int)) = true := decide_eq_true (by omega)
    generalize blk s k' = kb at *
    have rw4 := HW8.out.c4
    have rwa := HW8.out.rd.c1
    obtain ⟨r0, r1, r2, r3, r4, r5, g0, g1, g2, g3, g4, g5⟩ := HW8.out.tm
    simp only [zTm] at r0 r1 r2 r3 r4 r5
    go_wp2_with fail
    refine (rd_text (w.heap.size + 1) s kb 0 _ HW8.out.rd).mono ?_
    rintro e w9 ⟨v, rfl, hE, hB⟩
    have HE := Lib.hid hE
    have HW9 := Lib.hid (HW8.out.below hB)
    clear hE hB rw4 rwa r0 r1 r2 r3 r4 r5 g0 g1 g2 g3 g4 g5
    have rw4 := HW9.out.c4
    have rwa := HW9.out.rd.c1
    obtain ⟨r0, r1, r2, r3, r4, r5, g0, g1, g2, g3, g4, g5⟩ := HW9.out.tm
    simp only [zTm] at r0 r1 r2 r3 r4 r5
    go_wp2_with fail
    refine bodyPost_ret (resTm2 rfl _ _ w.heap.size zTm _ _ (by rfl) (HW9.out.tm.put zTm _ _)) rfl ?_
    rw [HR3.out]
    exact HW9.out.fail HE.out
   ·have HR3 : Hid (R = if chk rt = [] then (rt, []) else (zTm, chk rt)) := Lib.hid (HR2.out.trans (by unfold rdEnd; rw [if_neg hend]))
    have d1 : decide (((blk s k' : Nat) : Int) < (s.size : Int)) = false := decide_eq_false (by omega)
    generalize blk s k' = kb at *
    have HCK := Lib.hid (term_Check rt A4 A5 d4 d5 w8 HM8.out.R (inT_sm HIN.out) (HG.out.below HW8.out.bl))
    unfold tmV at HCK
    have rw4 := HW8.out.c4
    have rwa := HW8.out.rd.c1
    obtain ⟨r0, r1, r2, r3, r4, r5, g0, g1, g2, g3, g4, g5⟩ := HW8.out.tm
    simp only [zTm] at r0 r1 r2 r3 r4 r5
    obtain ⟨s0, s1, s2, s3, s4, s5, _, _, _, _, _, _⟩ := HTA8.out
    go_wp2_with fail
    refine HCK.out.mono ?_
    rintro e w9 ⟨v, rfl, hE, hB⟩
    have HE := Lib.hid hE
    have HW9 := Lib.hid (HW8.out.below hB)
    have HM9 := Lib.hid (HM8.out.below hB)
    have HTA9 := Lib.hid (HTA8.out.below hB HTA8.out.lt)
    clear hE hB rw4 rwa r0 r1 r2 r3 r4 r5 g0 g1 g2 g3 g4 g5 s0 s1 s2 s3 s4 s5 HCK
    cases hc : chk rt with
    | cons x r =>
     have HR4 : Hid (R = (zTm, x :: r)) := Lib.hid (HR3.out.trans (by rw [if_neg (by rw [hc]; simp), hc]))
     rw [hc] at HE
     obtain ⟨eb, eu, rfl, _⟩ := HE.out
     clear hc
     have rw4 := HW9.out.c4
     have rwa := HW9.out.rd.c1
     obtain ⟨r0, r1, r2, r3, r4, r5, g0, g1, g2, g3, g4, g5⟩ := HW9.out.tm
     simp only [zTm] at r0 r1 r2 r3 r4 r5
     go_wp2_with fail
     refine bodyPost_ret (resTm2 rfl _ _ w.heap.size zTm _ _ (by rfl) (HW9.out.tm.put zTm _ _)) rfl ?_
     rw [HR4.out]
     exact HW9.out.fail HE.out
    | nil =>
     have HR4 : Hid (R = (rt, [])) := Lib.hid (HR3.out.trans (by rw [if_pos hc]))
     rw [hc] at HE
     obtain rfl : v = .nilIface := HE.out
     clear hc
     have rw4 := HW9.out.c4
     have rwa := HW9.out.rd.c1
     obtain ⟨r0, r1, r2, r3, r4, r5, g0, g1, g2, g3, g4, g5⟩ := HW9.out.tm
     simp only [zTm] at r0 r1 r2 r3 r4 r5
     obtain ⟨s0, s1, s2, s3, s4, s5, _, _, _, _, _, _⟩ := HTA9.out
     go_wp2_with fail
     refine bodyPost_ret (resTm2 rfl _ _ w.heap.size rt _ _ (by rfl) (HW9.out.tm.put rt _ _)) rfl ?_
     rw [HR4.out]
     exact HW9.out.done HM9.out (by omega)
end Go.Proofs.YtibbcfeaododhaaGreatDoor
namespace Go.Proofs.YtibbcfeaododhaaGreatDoor
open Go.RowKit Go.Proofs.YtibbcfeaododhaaGreatDoorW.PrintWords
theorem WrAt.new (w : World) : WrAt (w.alloc (.cells #[.int .i64 0, .int .i64 0, .slice none 0 0] 90)) w.heap.size 0 0 (.slice none 0 0) := by
 constructor <;> simp
set_option maxRecDepth 100000 in
set_option maxHeartbeats 2000000 in
theorem ref02_Check (t : Tm) (A4 A5 : Option Addr) (c4 c5 : Nat) (w : World) (hR : TmR w t A4 c4 A5 c5) (hsm : smT t = true) :
  Calls Tryz.prog 23 #[tmV t (.slice A4 t.nums.length c4) (.slice A5 t.args.length c5)] w (LnPost w (chk t)) := by
 obtain ⟨R, hr⟩ : ∃ R, R = measure t := ⟨_, rfl⟩
 unfold chk
 rw [← hr]
 have HQ := Lib.hid hr
 clear hr
 have HT1 := Lib.hid (TmAt.new w t (.slice A4 t.nums.length c4) (.slice A5 t.args.length c5))
 have hB1 := below_alloc (Below.refl w.heap.size w) (.cells #[.int .i64 t.kd, .int .i64 t.it, .string t.tx, .int .u32 t.cr, .slice A4 t.nums.length c4, .slice A5 t.args.length c5] 27)
 unfold tmV
 go_enter Tryz.func23, Tryz.ntmps23
 go_upto_region 1 with (fail)
 obtain ⟨w1, hw1⟩ : ∃ W, W = w.alloc (.cells #[.int .i64 t.kd, .int .i64 t.it, .string t.tx, .int .u32 t.cr, .slice A4 t.nums.length c4, .slice A5 t.args.length c5] 27) := ⟨_, rfl⟩
 rw [← hw1] at HT1 hB1
 rw [← hw1]
 clear hw1
 have hB2 := below_alloc (Below.refl w1.heap.size w1) (.cells #[.int .i64 0, .int .i64 0, .slice none 0 0] 90)
 have hW2 := WrAt.new w1
 have hT2 := HT1.out.below hB2 HT1.out.lt
 have hsz2 : w.heap.size < w1.heap.size := HT1.out.lt
 go_upto_region 2 with (fail)
 obtain ⟨w2, hw2⟩ : ∃ W, W = w1.alloc (.cells #[.int .i64 0, .int .i64 0, .slice none 0 0] 90) := ⟨_, rfl⟩
 rw [← hw2] at hB2 hW2 hT2
 rw [← hw2]
 clear hw2
 have HB2 : Hid (Below w.heap.size w w2) := Lib.hid (trans_below hB1 hB2)
 have HW := Lib.hid (ref02_part w w1.heap.size (Nat.le_of_lt hsz2) t A4 A5 c4 c5 1 0 0 w2 hR HB2.out hW2 hsm (by decide) (by decide) (by decide) (by decide) (by decide) (by decide))
 have t0 := hT2.c0
 have t1 := hT2.c1
 have t2 := hT2.c2
 have t3 := hT2.c3
 have t4 := hT2.c4
 have t5 := hT2.c5
 have hlt2 := hW2.lt
 clear hR hsm HT1 hB1 hB2 hW2 hT2
 go_wp2_with fail
 refine HW.out.mono ?_
 rintro e w3 ⟨rfl, hG3, n, m, vb, hW3, hL3, hnm⟩
 have HB3 : Hid (Below w.heap.size w w3) := Lib.hid (HB2.out.trans (belowOf hG3 (by omega) (by omega)))
 rw [show measT t 1 0 0 = R from HQ.out.symm] at hL3 hnm
 clear HQ hG3 t0 t1 t2 t3 t4 t5 HW
 have q0 := hW3.c0
 have q1 := hW3.c1
 have q2 := hW3.c2
 have HL3 := Lib.hid (hL3.lower (base' := w.heap.size) (by omega))
 obtain ⟨l, n', m'⟩ := R
 cases l with
 | cons x r =>
  obtain ⟨g, c, rfl, _, _⟩ := hL3.headT
  clear hL3 hnm hW3
  go_wp2_with fail
  go_ret
  exact ⟨_, rfl, HL3.out, HB3.out⟩
 | nil =>
  obtain rfl := hL3.2 rfl
  clear hL3 hnm hW3
  go_wp2_with fail
  go_ret
  exact ⟨_, rfl, LnIs.nil _ _, HB3.out⟩
end Go.Proofs.YtibbcfeaododhaaGreatDoor
set_option linter.unusedSimpArgs false
set_option linter.unusedVariables false
namespace Go.Proofs.YtibbcfeaododhaaGreatDoor
open Go.RowKit Go.Sort Go.Proofs.YtibbcfeaododhaaGreatDoorW.PrintWords
/-- How many parts a term that is told beside a fault has at most. -/
def bdR (s : ByteArray) : Nat → Nat
 | 0 => 0
 | n + 1 => s.size + 2 + bdR s n
theorem bdR_le (s : ByteArray) (hm : s.size ≤ 4194304) : ∀ n, bdR s n ≤ 4194306 * n
 | 0 => Nat.le_refl _
 | n + 1 => by
  have := bdR_le s hm n
  rw [bdR]
  omega
set_option maxRecDepth 100000 in
set_option maxHeartbeats 2000000 in
theorem rf_term (s : ByteArray) (b : Nat) (hm : s.size ≤ 4194304) : ∀ n d, n + d = 256 → TermSaysR s b d (bdR s n) (rdT s n)
 | n, d, hnd => by
  intro k0 w h0 hS
  have hne := fun (w : World) (a : Option Addr) (n c : Nat) => run_neq_slice_nil_any (P := Tryz.prog) w 32 69 a n c 0 0 Tryz.underlying32
  have heq := fun (w : World) (a : Option Addr) (n c : Nat) => Lib.run_eql_slice_nil (P := Tryz.prog) w 32 69 a n c 0 0 Tryz.underlying32
  obtain ⟨w1, hw1⟩ : ∃ W, W = w.alloc (.cells #[.int .i64 0, .int .i64 0, .string ⟨#[]⟩, .int .u32 0, .slice none 0 0, .slice none 0 0] 27) := ⟨_, rfl⟩
  have hF : RfF w w1 b s k0 d (.slice none 0 0) := by rw [hw1]; exact RfF.start hS
  have HF := Lib.hid hF
  clear hS hF
  go_enter Tryz.func32, Tryz.ntmps32
  go_upto_region 1 with (fail)
  rw [← hw1]
  clear hw1
  have HBL := Lib.hid (rf_blanks b s k0 d _ h0 hm w1 HF.out.rd.2)
  have hkb := blk_le s k0 h0
  go_wp2_with fail
  refine HBL.out.mono ?_
  rintro e w2 ⟨rfl, hT⟩
  have HF2 := Lib.hid (HF.out.step hT)
  clear hT HBL HF
  match n, hnd with
  | 0, hnd =>
   have hd : d = 256 := by omega
   subst hd
   have HR : Hid (rdT s 0 k0 = (zTm, 0, [⟨nTerm, (blk s k0 : Nat), 9⟩])) := Lib.hid (by rw [rdT]; rfl)
   generalize blk s k0 = k1 at HF2 HR hkb
   have a1 := HF2.out.rd.2.c1
   have a2 := HF2.out.rd.2.c2
   have a3 := HF2.out.rd.2.c3
   clear hnd
   go_wp2_with fail
   refine (rf_fail b s k1 256 _ _ hkb _ HF2.out.rd.2).mono ?_
   rintro e w3 ⟨rfl, k3, v3, hT, hk3, hL, _⟩
   have HF3 := Lib.hid (HF2.out.step hT)
   have HL := Lib.hid hL
   obtain ⟨gl, cc, rfl, _, _⟩ := hL.headT
   clear hT hL a1 a2 a3 HF2
   have a3 := HF3.out.rd.2.c3
   obtain ⟨r0, r1, r2, r3, r4, r5, g0, g1, g2, g3, g4, g5⟩ := HF3.out.tm
   simp only [zTm] at r0 r1 r2 r3 r4 r5
   go_wp2_with fail
   refine bodyPost_ret (resTm rfl _ _ w.heap.size zTm _ _ (by rfl) (HF3.out.tm.put zTm _ _)) rfl ?_
   rw [HR.out]
   exact HF3.out.none zTm zTm (TmMade.zero _ _) HL.out (by simp) hk3
  | m + 1, hnd =>
   have HTS := Lib.hid (rf_term s b hm m (d + 1) (by omega))
   have HFW := Lib.hid (rdT_fwd s m)
   have hbd := bdR_le s hm m
   have HR : Hid (rdT s (m + 1) k0 = begunAt (rdT s m) s (blk s k0)) := Lib.hid (by rw [rdT])
   have HBE : Hid (bdR s (m + 1) = s.size + 2 + bdR s m) := Lib.hid rfl
   generalize blk s k0 = k1 at HF2 HR hkb
   have hd : decide ((d : Int) ≥ 256) = false := decide_eq_false (by omega)
   have hd2 : (d : Int) + 1 ≤ 257 := by omega
   have a2 := HF2.out.rd.2.c2
   have a3 := HF2.out.rd.2.c3
   have f2 := HF2.out.rd.2.f2
   go_upto_region 7 with (fail)
   have HF3 := Lib.hid (HF2.out.set2 ((d : Int) + 1) (d + 1) (by omega))
   clear a2 a3 f2 HF2
   generalize w2.setCell ⟨b, 2, none⟩ (.int .i64 ((d : Int) + 1)) = w3 at HF3 ⊢
   have HB := Lib.hid (rf_begun b s k1 (d + 1) (bdR s m) (rdT s m) HTS.out HFW.out (by omega) hkb hm w3 HF3.out.rd.2)
   generalize begunAt (rdT s m) s k1 = R at HB HR
   go_wp2_with fail
   refine HB.out.mono ?_
   rintro e w4 ⟨t, v, rfl, hM, htl, ht, k4, v4', hT, hk4, hL, hke⟩
   have HF4 := Lib.hid (HF3.out.step hT)
   obtain ⟨v4, v5, rfl, hM4, hM5⟩ := hM
   obtain ⟨A4, c4, rfl⟩ := Kd.R_slice hM4
   obtain ⟨A5, c5, rfl⟩ := Kd.R_slice hM5
   have HM := Lib.hid (TmMade.lower (base' := w.heap.size + 1) ⟨_, _, rfl, hM4, hM5⟩ HF3.out.tm.lt)
   have HL := Lib.hid hL
   have HTT := Lib.hid ht
   have HKE := Lib.hid hke
   clear hT hM4 hM5 hL ht hke HF3 HB HTS
   unfold tmV
   go_upto_region 8 with (fail)
   have hb := below_alloc (Below.refl w4.heap.size w4) (.cells #[.int .i64 t.kd, .int .i64 t.it, .string t.tx, .int .u32 t.cr, .slice A4 t.nums.length c4, .slice A5 t.args.length c5] 27)
   have hbx := heap_alloc_new w4 (.cells #[.int .i64 t.kd, .int .i64 t.it, .string t.tx, .int .u32 t.cr, .slice A4 t.nums.length c4, .slice A5 t.args.length c5] 27)
   generalize w4.alloc (.cells #[.int .i64 t.kd, .int .i64 t.it, .string t.tx, .int .u32 t.cr, .slice A4 t.nums.length c4, .slice A5 t.args.length c5] 27) = w5 at hb hbx ⊢
   have HF5 := Lib.hid (HF4.out.below hb)
   have HM5 := Lib.hid (HM.out.below hb)
   have HL5 := Lib.hid (HL.out.below hb)
   have hgb : w4.heap.size ≠ b := by have := HF4.out.rd.2.lt; omega
   generalize w4.heap.size = g at hbx hgb ⊢
   have HBX := Lib.hid hbx
   have HGB := Lib.hid hgb
   clear hb hbx hgb HF4 HM HL
   have a2 := HF5.out.rd.2.c2
   rw [show ((d + 1 : Nat) : Int) = (d : Int) + 1 by omega] at a2
   have f2 := HF5.out.rd.2.f2
   go_upto_region 9 with (fail)
   have HF6 := Lib.hid (HF5.out.set2 (d : Int) d rfl)
   have HM6 := Lib.hid (HM5.out.grownR HF5.out.rd.2 (grown_set w5 b 2 (.int .i64 (d : Int))))
   have HL6 := Lib.hid (HL5.out.grownR HF5.out.rd.2 (grown_set w5 b 2 (.int .i64 (d : Int))))
   have HTA := Lib.hid (tmAt_box ((Below.heap_setCell w5 ⟨b, 2, none⟩ (.int .i64 (d : Int)) g HGB.out).trans HBX.out))
   clear a2 f2 HF5 HM5 HL5
   generalize w5.setCell ⟨b, 2, none⟩ (.int .i64 (d : Int)) = w6 at HF6 HM6 HL6 HTA ⊢
   obtain ⟨t0, t1, t2, t3, t4, t5, _, _, _, _, _, _⟩ := HTA.out
   obtain ⟨r0, r1, r2, r3, r4, r5, g0, g1, g2, g3, g4, g5⟩ := HF6.out.tm
   simp only [zTm] at r0 r1 r2 r3 r4 r5
   go_wp2_with fail
   refine bodyPost_ret (resTm rfl _ _ w.heap.size t _ _ (by rfl) (HF6.out.tm.put t _ _)) rfl ?_
   rw [HR.out, HBE.out]
   exact HF6.out.pass t HM6.out htl HTT.out HL6.out hk4 HKE.out
def RdR (w : World) (r : Tm × List Lk) (e : Ending) (w' : World) : Prop :=
 ∃ (v ev : Value), e = .returned (.tuple #[v, ev]) ∧ TmMade w' w.heap.size r.1 v ∧ LnIs w' w.heap.size r.2 ev ∧ Below w.heap.size w w'
/-- Read's walk: its result's box, its reader. -/
structure RdV (w W : World) (s : ByteArray) (k : Nat) (v : Value) : Prop where
 bl : Below w.heap.size w W
 bx : W.heap[w.heap.size]? = some (.cells #[.int .i64 0, .int .i64 0, .string ⟨#[]⟩, .int .u32 0, .slice none 0 0, .slice none 0 0] tyTm (0, 0))
 rd : RfAt W (w.heap.size + 1) s k 0 v
theorem RdV.tm {w W : World} {s : ByteArray} {k : Nat} {v : Value} (h : RdV w W s k v) : TmAt W w.heap.size zTm vNone vNone := by
 have e := h.bx
 constructor <;> simp [World.cell?, World.frozen?, e, zTm, vNone]
theorem RdV.step {w W W' : World} {s : ByteArray} {k k' : Nat} {v v' : Value} (h : RdV w W s k v) (hT : RfTo W (w.heap.size + 1) s k' 0 v' W') : RdV w W' s k' v' :=
 ⟨h.bl.trans (below_of_grown hT.1 (by omega) h.bl.size), (hT.1.block _ (Array.getElem?_eq_some_iff.1 h.bx).1 (by simp)).trans h.bx, hT.2⟩
theorem RdV.below {w W W' : World} {s : ByteArray} {k : Nat} {v : Value} (h : RdV w W s k v) (hb : Below W.heap.size W W') : RdV w W' s k v := h.step ((RfTo.refl h.rd).below hb)
theorem RdV.fail {w W : World} {s : ByteArray} {k : Nat} {v : Value} (h : RdV w W s k v) {l : List Lk} {ev : Value} (hL : LnIs W w.heap.size l ev) : RdR w (zTm, l) (.returned (.tuple #[tmV zTm vNone vNone, ev])) (put6 W w.heap.size zTm vNone vNone) :=
 ⟨_, _, rfl, TmMade.zero _ _, hL.wrote6 _ _ _ ⟨_, h.bx⟩, h.bl.trans (below_of_grown (grown_put6 W w.heap.size zTm vNone vNone) (Nat.le_refl _) h.bl.size)⟩
theorem RdV.done {w W : World} {s : ByteArray} {k : Nat} {v : Value} (h : RdV w W s k v) (t : Tm) {u4 u5 : Value} (hm : TmMade W (w.heap.size + 1) t (tmV t u4 u5)) : RdR w (t, []) (.returned (.tuple #[tmV t u4 u5, .slice none 0 0])) (put6 W w.heap.size t u4 u5) :=
 ⟨_, _, rfl, (hm.above (fun j hj _ => put6_heap W w.heap.size t u4 u5 j (by omega))).lower (Nat.le_succ _), LnIs.nil _ _, h.bl.trans (below_of_grown (grown_put6 W w.heap.size t u4 u5) (Nat.le_refl _) h.bl.size)⟩
theorem two_rd (w : World) (s : ByteArray) : RdV w ((w.alloc (.cells #[.int .i64 0, .int .i64 0, .string ⟨#[]⟩, .int .u32 0, .slice none 0 0, .slice none 0 0] 27)).alloc (.cells #[.string s, .int .i64 0, .int .i64 0, .slice none 0 0] tyRf)) s 0 (.slice none 0 0) := by
 have hb1 := below_alloc (Below.refl w.heap.size w) (.cells #[.int .i64 0, .int .i64 0, .string ⟨#[]⟩, .int .u32 0, .slice none 0 0, .slice none 0 0] 27)
 have h1 := heap_alloc_new w (.cells #[.int .i64 0, .int .i64 0, .string ⟨#[]⟩, .int .u32 0, .slice none 0 0, .slice none 0 0] 27)
 have s1 : (w.alloc (.cells #[.int .i64 0, .int .i64 0, .string ⟨#[]⟩, .int .u32 0, .slice none 0 0, .slice none 0 0] 27)).heap.size = w.heap.size + 1 := by simp
 generalize w.alloc (.cells #[.int .i64 0, .int .i64 0, .string ⟨#[]⟩, .int .u32 0, .slice none 0 0, .slice none 0 0] 27) = w1 at h1 hb1 s1 ⊢
 have hb2 := below_alloc (Below.refl w1.heap.size w1) (.cells #[.string s, .int .i64 0, .int .i64 0, .slice none 0 0] tyRf)
 have h2 := heap_alloc_new w1 (.cells #[.string s, .int .i64 0, .int .i64 0, .slice none 0 0] tyRf)
 generalize w1.alloc (.cells #[.string s, .int .i64 0, .int .i64 0, .slice none 0 0] tyRf) = w2 at hb2 h2 ⊢
 rw [s1] at h2
 exact ⟨trans_below hb1 hb2, (hb2.block _ (by omega)).trans h1, ⟨h2⟩⟩
theorem TmAt.drewT {W : World} {b : Nat} {t : Tm} {v4 v5 : Value} (h : TmAt W b t v4 v5) : TmAt W.drew b t v4 v5 := ⟨h.c0, h.c1, h.c2, h.c3, h.c4, h.c5, h.f0, h.f1, h.f2, h.f3, h.f4, h.f5⟩
theorem RdR.drewR {w W : World} {r : Tm × List Lk} {e : Ending} (h : RdR w r e W) : RdR w r e W.drew := by
 obtain ⟨v, ev, he, hm, hl, hb⟩ := h
 exact ⟨v, ev, he, hm.below (Below.refl _ _).drew, hl.below (Below.refl _ _).drew, hb.drew⟩
theorem drew_cell (W : World) (a : Addr) : W.drew.cell? a = W.cell? a := rfl
theorem readR_fail {w W : World} (hb : Below w.heap.size w W) (hbx : W.heap[w.heap.size]? = some (.cells #[.int .i64 0, .int .i64 0, .string ⟨#[]⟩, .int .u32 0, .slice none 0 0, .slice none 0 0] tyTm (0, 0))) {l : List Lk} {ev : Value} (hL : LnIs W w.heap.size l ev) : RdR w (zTm, l) (.returned (.tuple #[tmV zTm vNone vNone, ev])) (put6 W w.heap.size zTm vNone vNone) :=
 ⟨_, _, rfl, TmMade.zero _ _, hL.wrote6 _ _ _ ⟨_, hbx⟩, hb.trans (below_of_grown (grown_put6 W w.heap.size zTm vNone vNone) (Nat.le_refl _) hb.size)⟩
set_option maxRecDepth 100000 in
set_option maxHeartbeats 4000000 in
theorem ref_Read (s : ByteArray) (hsz : s.size ≤ 140737488351232) (w : World) :
  Calls Tryz.prog 8 #[.string s] w (RdR w (rdAll s)) := by
 obtain ⟨R, hR⟩ : ∃ R, R = rdAll s := ⟨_, rfl⟩
 rw [← hR]
 have HR0 := Lib.hid hR
 clear hR
 have hne := fun (w : World) (a : Option Addr) (n c : Nat) => run_neq_slice_nil_any (P := Tryz.prog) w 32 69 a n c 0 0 Tryz.underlying32
 have heq := fun (w : World) (a : Option Addr) (n c : Nat) => Lib.run_eql_slice_nil (P := Tryz.prog) w 32 69 a n c 0 0 Tryz.underlying32
 obtain ⟨w1, hw1⟩ : ∃ W, W = w.alloc (.cells #[.int .i64 0, .int .i64 0, .string ⟨#[]⟩, .int .u32 0, .slice none 0 0, .slice none 0 0] 27) := ⟨_, rfl⟩
 by_cases hbig : s.size > 4194304
 ·have hd : decide ((s.size : Int) > 4194304) = true := decide_eq_true (by omega)
  have HR : Hid (R = (zTm, [⟨nTerm, 0, 4⟩])) := Lib.hid (by rw [HR0.out]; unfold rdAll; rw [if_pos hbig])
  have HTM : Hid (TmAt w1 w.heap.size zTm vNone vNone) := by rw [hw1]; exact Lib.hid (TmAt.new w zTm vNone vNone)
  have HB : Hid (Below w.heap.size w w1) := by rw [hw1]; exact Lib.hid (below_alloc (Below.refl _ _) _)
  have HBX : Hid (w1.heap[w.heap.size]? = some (.cells #[.int .i64 0, .int .i64 0, .string ⟨#[]⟩, .int .u32 0, .slice none 0 0, .slice none 0 0] tyTm (0, 0))) := by rw [hw1]; exact Lib.hid (heap_alloc_new w _)
  clear HR0
  go_enter Tryz.func8, Tryz.ntmps8
  go_upto_region 1 with (fail)
  rw [← hw1]
  clear hw1
  go_wp2_with fail
  refine (ref02_no _ _ _).mono ?_
  rintro e w2 ⟨v, rfl, hL, hB⟩
  have hb1 := HB.out
  have hbx2 := (hB.block _ HTM.out.lt).trans HBX.out
  have HL := Lib.hid (hL.lower (base' := w.heap.size) HB.out.size)
  have HB2 := Lib.hid (trans_below HB.out hB)
  have HBX2 := Lib.hid hbx2
  obtain ⟨r0, r1, r2, r3, r4, r5, g0, g1, g2, g3, g4, g5⟩ := HTM.out.below hB HTM.out.lt
  simp only [zTm] at r0 r1 r2 r3 r4 r5
  clear hL hB hb1 hbx2
  go_wp2_with fail
  refine bodyPost_ret (resTm2 rfl _ _ w.heap.size zTm _ _ (by rfl) ((tmAt_box (a := zTm) HBX2.out).put zTm _ _)) rfl ?_
  rw [HR.out]
  exact readR_fail HB2.out HBX2.out HL.out
 ·have hd : decide ((s.size : Int) > 4194304) = false := decide_eq_false (by omega)
  have hm : s.size ≤ 4194304 := by omega
  have HR1 := Lib.hid (HR0.out.trans (rdAll_eq hbig))
  have HIN := Lib.hid (rdT_in s 256 0)
  have s1 : w1.heap.size = w.heap.size + 1 := by rw [hw1]; simp
  have hV := two_rd w s
  rw [← hw1] at hV
  have HV := Lib.hid hV
  have HC := Lib.hid (rf_term s (w.heap.size + 1) hm 256 0 rfl 0 _ (Nat.zero_le _) hV.rd)
  have HS1 := Lib.hid s1
  generalize rdT s 256 0 = q at HR1 HIN HC
  obtain ⟨t0, e0, l⟩ := q
  clear hV HR0 s1
  go_enter Tryz.func8, Tryz.ntmps8
  go_upto_region 1 with (fail)
  rw [← hw1]
  clear hw1
  go_upto_region 4 with (fail)
  rw [HS1.out]
  generalize w1.alloc (.cells #[.string s, .int .i64 0, .int .i64 0, .slice none 0 0] tyRf) = w2 at HV HC ⊢
  clear HS1
  obtain ⟨b, hb⟩ : ∃ b, b = w.heap.size + 1 := ⟨_, rfl⟩
  go_wp2_with fail
  refine HC.out.mono ?_
  rintro e w3 ⟨t, v, rfl, hM, htl, ht, k3, v3, hT, hk3, hL, hke⟩
  have HV3 := Lib.hid (HV.out.step hT)
  obtain ⟨v4, v5, rfl, hM4, hM5⟩ := hM
  obtain ⟨A4, c4, rfl⟩ := Kd.R_slice hM4
  obtain ⟨A5, c5, rfl⟩ := Kd.R_slice hM5
  have HM := Lib.hid (TmMade.lower (base' := w.heap.size + 1) ⟨_, _, rfl, hM4, hM5⟩ (Nat.le_of_lt HV.out.rd.lt))
  have HL := Lib.hid hL
  have HTT := Lib.hid ht
  have HKE := Lib.hid hke
  clear hT hM4 hM5 hL ht hke HC HV hb b
  unfold tmV
  go_upto_region 5 with (fail)
  have hb := below_alloc (Below.refl w3.heap.size w3) (.cells #[.int .i64 t.kd, .int .i64 t.it, .string t.tx, .int .u32 t.cr, .slice A4 t.nums.length c4, .slice A5 t.args.length c5] 27)
  have hbx := heap_alloc_new w3 (.cells #[.int .i64 t.kd, .int .i64 t.it, .string t.tx, .int .u32 t.cr, .slice A4 t.nums.length c4, .slice A5 t.args.length c5] 27)
  generalize w3.alloc (.cells #[.int .i64 t.kd, .int .i64 t.it, .string t.tx, .int .u32 t.cr, .slice A4 t.nums.length c4, .slice A5 t.args.length c5] 27) = w4 at hb hbx ⊢
  have HV4 := Lib.hid (HV3.out.below hb)
  have HM4 := Lib.hid (HM.out.below hb)
  have HL4 := Lib.hid (HL.out.below hb)
  have hgb : w.heap.size + 1 < w3.heap.size := HV3.out.rd.lt
  generalize w3.heap.size = g at hbx hgb ⊢
  have HBX := Lib.hid hbx
  clear hb hbx HV3 HM HL
  go_wp2_with fail
  refine (rf_blanks (w.heap.size + 1) s k3 0 v3 hk3 hm w4 HV4.out.rd).mono ?_
  rintro e w5 ⟨rfl, hT⟩
  have HV5 := Lib.hid (HV4.out.step hT)
  have HM5 := Lib.hid (HM4.out.grownR HV4.out.rd hT.1)
  have HL5 := Lib.hid (HL4.out.grownR HV4.out.rd hT.1)
  have HTA := Lib.hid (tmAt_box ((hT.1.block g (Array.getElem?_eq_some_iff.1 HBX.out).1 (by simp; omega)).trans HBX.out))
  have hkb := blk_le s k3 hk3
  clear hT HV4 HM4 HL4
  cases l with
  | cons x r =>
   have HR : Hid (R = (zTm, x :: r)) := Lib.hid (HR1.out.trans (by rw [if_neg (by simp)]))
   obtain ⟨gl, cc, rfl, _, _⟩ := HL5.out.headT
   have a3 := HV5.out.rd.c3
   clear HTT HKE
   go_wp2_with fail
   obtain ⟨r0, r1, r2, r3, r4, r5, g0, g1, g2, g3, g4, g5⟩ := HV5.out.tm
   simp only [zTm] at r0 r1 r2 r3 r4 r5
   have HS0 : Hid ((w5).cell? ⟨w.heap.size + 1, 3, none⟩ = some (Value.slice (some ⟨gl, 0, none⟩) (r.length + 1) cc)) := Lib.hid a3
   have HS1 : Hid ((w5).drew.cell? ⟨w.heap.size + 1, 3, none⟩ = some (Value.slice (some ⟨gl, 0, none⟩) (r.length + 1) cc)) := Lib.hid ((drew_cell _ _).trans a3)
   have HS2 := Lib.hid fun u0 u1 u2 u3 u4 u5 => (six_far (W := w5) (g := w.heap.size) (b := w.heap.size + 1) (o := 3) (Nat.succ_ne_self _) u0 u1 u2 u3 u4 u5).trans a3
   have HS3 := Lib.hid fun u0 u1 u2 u3 u4 u5 => (six_far (W := (w5).drew) (g := w.heap.size) (b := w.heap.size + 1) (o := 3) (Nat.succ_ne_self _) u0 u1 u2 u3 u4 u5).trans HS1.out
   have HS4 : Hid (∀ u0 u1 u2 u3 u4 u5, (((((((w5).setCell ⟨w.heap.size, 0, none⟩ u0).setCell ⟨w.heap.size, 1, none⟩ u1).setCell ⟨w.heap.size, 2, none⟩ u2).setCell ⟨w.heap.size, 3, none⟩ u3).setCell ⟨w.heap.size, 4, none⟩ u4).setCell ⟨w.heap.size, 5, none⟩ u5).drew.cell? ⟨w.heap.size + 1, 3, none⟩ = some (Value.slice (some ⟨gl, 0, none⟩) (r.length + 1) cc)) := Lib.hid fun u0 u1 u2 u3 u4 u5 => (drew_cell _ _).trans (HS2.out u0 u1 u2 u3 u4 u5)
   have HVD := Lib.hid (HV5.out.below (Below.refl _ _).drew)
   have HLD := Lib.hid (HL5.out.below (Below.refl _ _).drew)
   go_region_held3 (fun W => W.cell? ⟨w.heap.size + 1, 3, none⟩ = some (Value.slice (some ⟨gl, 0, none⟩) (r.length + 1) cc)) (first | with_reducible exact HS0.out | with_reducible exact HS1.out | with_reducible exact HS2.out _ _ _ _ _ _ | with_reducible exact HS3.out _ _ _ _ _ _ | with_reducible exact HS4.out _ _ _ _ _ _) (fail)
   have HTQ := Lib.hid (TmAt.drewT (HV5.out.tm.put zTm vNone vNone))
   have HRQ := Lib.hid (RdR.drewR (HV5.out.fail (HL5.out.lower (Nat.le_trans (Nat.le_succ _) (Nat.le_succ _)))))
   clear HS0 HS1 HS2 HS3 HS4 HVD HLD r0 r1 r2 r3 r4 r5 g0 g1 g2 g3 g4 g5
   obtain ⟨wZ, hwZ⟩ : ∃ W, W = (put6 (w5) w.heap.size zTm vNone vNone).drew := ⟨_, rfl⟩
   rw [← hwZ] at HTQ HRQ
   rw [show (((((((w5).setCell ⟨w.heap.size, 0, none⟩ (.int .i64 0)).setCell ⟨w.heap.size, 1, none⟩ (.int .i64 0)).setCell ⟨w.heap.size, 2, none⟩ (.string ⟨#[]⟩)).setCell ⟨w.heap.size, 3, none⟩ (.int .u32 0)).setCell ⟨w.heap.size, 4, none⟩ (.slice none 0 0)).setCell ⟨w.heap.size, 5, none⟩ (.slice none 0 0)).drew = wZ from hwZ.symm]
   clear hwZ
   go_wp2_with fail
   refine bodyPost_ret (resTm2 rfl _ _ w.heap.size zTm _ _ (by rfl) HTQ.out) rfl ?_
   rw [HR.out]
   exact HRQ.out
  | nil =>
   obtain rfl := HL5.out.2 rfl
   obtain rfl := HTT.out rfl
   obtain rfl := HKE.out rfl
   have HR2 : Hid (R = rdEnd s t (blk s k3)) := Lib.hid (HR1.out.trans (by rw [if_pos rfl]))
   clear HTT HKE HR1 HL5
   generalize blk s k3 = k5 at HV5 HR2 hkb
   have a1 := HV5.out.rd.c1
   have a3 := HV5.out.rd.c3
   by_cases hlt : k5 < s.size
   ·have HR : Hid (R = (zTm, [⟨nTerm, (k5 : Nat), 41⟩])) := Lib.hid (HR2.out.trans (by unfold rdEnd; rw [if_pos hlt]))
    go_wp2_with fail
    refine (rf_fail (w.heap.size + 1) s k5 0 _ _ hkb _ HV5.out.rd).mono ?_
    rintro e w6 ⟨rfl, k6, v6, hT, hk6, hL, _⟩
    have HV6 := Lib.hid (HV5.out.step hT)
    have HL6 := Lib.hid hL
    obtain ⟨gl, cc, rfl, _, _⟩ := hL.headT
    rw [show ([] : List Lk).length + 1 = 1 from rfl] at HV6 HL6
    clear hT hL a1 a3
    have a3 := HV6.out.rd.c3
    go_wp2_with fail
    obtain ⟨r0, r1, r2, r3, r4, r5, g0, g1, g2, g3, g4, g5⟩ := HV6.out.tm
    simp only [zTm] at r0 r1 r2 r3 r4 r5
    have HS0 : Hid ((w6).cell? ⟨w.heap.size + 1, 3, none⟩ = some (Value.slice (some ⟨gl, 0, none⟩) 1 cc)) := Lib.hid a3
    have HS1 : Hid ((w6).drew.cell? ⟨w.heap.size + 1, 3, none⟩ = some (Value.slice (some ⟨gl, 0, none⟩) 1 cc)) := Lib.hid ((drew_cell _ _).trans a3)
    have HS2 := Lib.hid fun u0 u1 u2 u3 u4 u5 => (six_far (W := w6) (g := w.heap.size) (b := w.heap.size + 1) (o := 3) (Nat.succ_ne_self _) u0 u1 u2 u3 u4 u5).trans a3
    have HS3 := Lib.hid fun u0 u1 u2 u3 u4 u5 => (six_far (W := (w6).drew) (g := w.heap.size) (b := w.heap.size + 1) (o := 3) (Nat.succ_ne_self _) u0 u1 u2 u3 u4 u5).trans HS1.out
    have HS4 : Hid (∀ u0 u1 u2 u3 u4 u5, (((((((w6).setCell ⟨w.heap.size, 0, none⟩ u0).setCell ⟨w.heap.size, 1, none⟩ u1).setCell ⟨w.heap.size, 2, none⟩ u2).setCell ⟨w.heap.size, 3, none⟩ u3).setCell ⟨w.heap.size, 4, none⟩ u4).setCell ⟨w.heap.size, 5, none⟩ u5).drew.cell? ⟨w.heap.size + 1, 3, none⟩ = some (Value.slice (some ⟨gl, 0, none⟩) 1 cc)) := Lib.hid fun u0 u1 u2 u3 u4 u5 => (drew_cell _ _).trans (HS2.out u0 u1 u2 u3 u4 u5)
    have HVD := Lib.hid (HV6.out.below (Below.refl _ _).drew)
    have HLD := Lib.hid (HL6.out.below (Below.refl _ _).drew)
    go_region_held3 (fun W => W.cell? ⟨w.heap.size + 1, 3, none⟩ = some (Value.slice (some ⟨gl, 0, none⟩) 1 cc)) (first | with_reducible exact HS0.out | with_reducible exact HS1.out | with_reducible exact HS2.out _ _ _ _ _ _ | with_reducible exact HS3.out _ _ _ _ _ _ | with_reducible exact HS4.out _ _ _ _ _ _) (fail)
    have HTQ := Lib.hid (TmAt.drewT (HV6.out.tm.put zTm vNone vNone))
    have HRQ := Lib.hid (RdR.drewR (HV6.out.fail (HL6.out.lower (Nat.le_trans (Nat.le_succ _) (Nat.le_succ _)))))
    clear HS0 HS1 HS2 HS3 HS4 HVD HLD r0 r1 r2 r3 r4 r5 g0 g1 g2 g3 g4 g5
    obtain ⟨wZ, hwZ⟩ : ∃ W, W = (put6 (w6) w.heap.size zTm vNone vNone).drew := ⟨_, rfl⟩
    rw [← hwZ] at HTQ HRQ
    rw [show (((((((w6).setCell ⟨w.heap.size, 0, none⟩ (.int .i64 0)).setCell ⟨w.heap.size, 1, none⟩ (.int .i64 0)).setCell ⟨w.heap.size, 2, none⟩ (.string ⟨#[]⟩)).setCell ⟨w.heap.size, 3, none⟩ (.int .u32 0)).setCell ⟨w.heap.size, 4, none⟩ (.slice none 0 0)).setCell ⟨w.heap.size, 5, none⟩ (.slice none 0 0)).drew = wZ from hwZ.symm]
    clear hwZ
    go_wp2_with fail
    refine bodyPost_ret (resTm2 rfl _ _ w.heap.size zTm _ _ (by rfl) HTQ.out) rfl ?_
    rw [HR.out]
    exact HRQ.out
   ·have HR3 : Hid (R = if chk t = [] then (t, []) else (zTm, chk t)) := Lib.hid (HR2.out.trans (by unfold rdEnd; rw [if_neg hlt]))
    have HCK := Lib.hid (ref02_Check t A4 A5 c4 c5 w5 HM5.out.R (inT_sm HIN.out))
    unfold tmV at HCK
    obtain ⟨t0, t1, t2, t3, t4, t5, _, _, _, _, _, _⟩ := HTA.out
    generalize chk t = L at HR3 HCK
    go_wp2_with fail
    refine HCK.out.mono ?_
    rintro e w6 ⟨v6, rfl, hL, hB⟩
    have HV6 := Lib.hid (HV5.out.below hB)
    have HL6 := Lib.hid (hL.lower (base' := w.heap.size) (Nat.le_trans (Nat.le_succ _) (Nat.le_of_lt HV5.out.rd.lt)))
    have HM6 := Lib.hid (HM5.out.below hB)
    have HTA6 := Lib.hid (HTA.out.below hB HTA.out.lt)
    clear hL hB t0 t1 t2 t3 t4 t5 a1 a3 HCK
    cases L with
    | cons x r =>
     have HR : Hid (R = (zTm, x :: r)) := Lib.hid (HR3.out.trans (by rw [if_neg (by simp)]))
     obtain ⟨gl, cc, rfl, _, _⟩ := HL6.out.headT
     obtain ⟨r0, r1, r2, r3, r4, r5, g0, g1, g2, g3, g4, g5⟩ := HV6.out.tm
     simp only [zTm] at r0 r1 r2 r3 r4 r5
     go_wp2_with fail
     refine bodyPost_ret (resTm2 rfl _ _ w.heap.size zTm _ _ (by rfl) (HV6.out.tm.put zTm _ _)) rfl ?_
     rw [HR.out]
     exact HV6.out.fail HL6.out
    | nil =>
     have HR : Hid (R = (t, [])) := Lib.hid (HR3.out.trans (by rw [if_pos rfl]))
     obtain rfl := HL6.out.2 rfl
     obtain ⟨t0, t1, t2, t3, t4, t5, _, _, _, _, _, _⟩ := HTA6.out
     obtain ⟨r0, r1, r2, r3, r4, r5, g0, g1, g2, g3, g4, g5⟩ := HV6.out.tm
     simp only [zTm] at r0 r1 r2 r3 r4 r5
     go_wp2_with fail
     refine bodyPost_ret (resTm2 rfl _ _ w.heap.size t _ _ (by rfl) (HV6.out.tm.put t _ _)) rfl ?_
     rw [HR.out]
     exact HV6.out.done t HM6.out
end Go.Proofs.YtibbcfeaododhaaGreatDoor
set_option linter.unusedSimpArgs false
namespace Go.Proofs.YtibbcfeaododhaaGreatDoor
open Go.RowKit Go.Sort Go.Proofs.YtibbcfeaododhaaGreatDoorW.PrintWords Tb
abbrev tyU8 : Nat := 5
/-- A row of bytes that reads 'l' is handed back; what lies below B, and what is no row of bytes, is as it was. -/
def WrPost (w : World) (B : Nat) (l : List Int) (e : Ending) (w' : World) : Prop :=
 ∃ v, e = .returned v ∧ w'.ownsRow B tyU8 1 v l.length (nums .u8 l) ∧ Below B w w' ∧ Lib.OthersKept tyU8 none w w'
theorem own_keep {w w' : World} {B e sz n : Nat} {v : Value} {xs : List Value} (h : w.ownsRow B e sz v n xs) (hb : Below w.heap.size w w') : w'.ownsRow B e sz v n xs :=
 h.kept (row := none) (grown_of_below hb none) (Classical.em _)
theorem own_kind {w : World} {B e sz n : Nat} {v : Value} {xs : List Value} (h : w.ownsRow B e sz v n xs) : ∀ g, v.ownBlock = some g → ∃ c fz, w.heap[g]? = some (.cells c e fz) := by
 intro g hg
 obtain ⟨c, hc⟩ := own_typed h g hg
 exact ⟨c, _, hc⟩
theorem othersBelow {w W W' : World} (h : Lib.OthersKept tyU8 none w W) (hb : Below W.heap.size W W') : Lib.OthersKept tyU8 none w W' :=
 h.grown (row := none) (grown_of_below hb none) (fun g hg => by cases hg)
theorem othersOf {W W' : World} (hb : Below W.heap.size W W') : Lib.OthersKept tyU8 none W W' := othersBelow (Lib.OthersKept.refl _ _ _) hb
/-- A row of another type stays. -/
theorem own_others {w w' : World} {B e sz n : Nat} {v : Value} {xs : List Value} (h : w.ownsRow B e sz v n xs) (he : e ≠ tyU8) (ho : Lib.OthersKept tyU8 none w w') : w'.ownsRow B e sz v n xs := by
 refine own_move h fun k hk => ?_
 obtain ⟨c, fz, hc⟩ := own_kind h k hk
 rw [hc]
 exact ho k _ hc (by simp) (fun c' fz' e' => by injection e' with _ e2; exact he e2)
/-- write's walk: the row 'v' reads 'l'; the term's box. -/
structure WrS (w W : World) (B : Nat) (t : Tm) (v4 v5 : Value) (l : List Int) (v : Value) : Prop where
 own : W.ownsRow B tyU8 1 v l.length (nums .u8 l)
 below : Below B w W
 others : Lib.OthersKept tyU8 none w W
 box : W.heap[w.heap.size]? = some (.cells #[.int .i64 t.kd, .int .i64 t.it, .string t.tx, .int .u32 t.cr, v4, v5] tyTm (0, 0))
 base : B ≤ W.heap.size
theorem WrS.tm {w W : World} {B : Nat} {t : Tm} {v4 v5 : Value} {l : List Int} {v : Value} (h : WrS w W B t v4 v5 l v) : TmAt W w.heap.size t v4 v5 := by
 have e := h.box
 constructor <;> simp [World.cell?, World.frozen?, e]
theorem WrS.start {w : World} {B : Nat} {l : List Int} {v : Value} (t : Tm) (v4 v5 : Value) (h : w.ownsRow B tyU8 1 v l.length (nums .u8 l)) (hB : B ≤ w.heap.size) :
  WrS w (w.alloc (.cells #[.int .i64 t.kd, .int .i64 t.it, .string t.tx, .int .u32 t.cr, v4, v5] 27)) B t v4 v5 l v :=
 ⟨h.alloc _, (Below.refl _ _).alloc hB _, (Lib.OthersKept.refl _ _ _).alloc _, heap_alloc_new w _, by simp; omega⟩
theorem WrS.app {w W w1 : World} {B : Nat} {t : Tm} {v4 v5 : Value} {l m : List Int} {v v1 : Value} (h : WrS w W B t v4 v5 l v) (ho : w1.ownsRow B tyU8 1 v1 (l ++ m).length (nums .u8 (l ++ m))) (hb : Below B W w1) (hg : W.grownBy w1 v.ownBlock) : WrS w w1 B t v4 v5 (l ++ m) v1 := by
 have hlt : w.heap.size < W.heap.size := (Array.getElem?_eq_some_iff.1 h.box).1
 refine ⟨ho, h.below.trans hb, h.others.grown hg (own_kind h.own), ?_, Nat.le_trans h.base hb.size⟩
 rw [hg.block _ hlt ?_]
 ·exact h.box
 ·intro hk
  obtain ⟨c, fz, hc⟩ := own_kind h.own _ hk.symm
  rw [h.box] at hc
  injection hc with hc
  injection hc with _ hc
  exact absurd hc (by decide)
theorem WrS.call {w W w1 : World} {B : Nat} {t : Tm} {v4 v5 : Value} {l m : List Int} {v v1 : Value} (h : WrS w W B t v4 v5 l v) (ho : w1.ownsRow B tyU8 1 v1 m.length (nums .u8 m)) (hb : Below B W w1) (hk : Lib.OthersKept tyU8 none W w1) : WrS w w1 B t v4 v5 m v1 :=
 ⟨ho, h.below.trans hb, h.others.trans hk, hk _ _ h.box (by simp) (fun c fz e => by injection e with _ e2; exact absurd e2 (by decide)), Nat.le_trans h.base hb.size⟩
theorem WrS.step {w W W' : World} {B : Nat} {t : Tm} {v4 v5 : Value} {l : List Int} {v : Value} (h : WrS w W B t v4 v5 l v) (hb : Below W.heap.size W W') : WrS w W' B t v4 v5 l v :=
 ⟨own_keep h.own hb, h.below.trans (hb.mono h.base), othersBelow h.others hb, (hb.block _ (Array.getElem?_eq_some_iff.1 h.box).1).trans h.box, Nat.le_trans h.base hb.size⟩
theorem WrS.done {w W : World} {B : Nat} {t : Tm} {v4 v5 : Value} {l : List Int} {v : Value} (h : WrS w W B t v4 v5 l v) : WrPost w B l (.returned v) W := ⟨v, rfl, h.own, h.below, h.others⟩
theorem drewN_below (W : World) (n : Nat) : Below W.heap.size W (W.drewN n) := by repeat (first | exact Below.refl _ _ | apply pw_below_drewN)
/-- What holds of the library's variables from here on. -/
def GlobB (w : World) (B : Nat) : Prop := ∀ W, Below B w W → Glob W
theorem GlobB.trans {w W : World} {B : Nat} (h : GlobB w B) (hb : Below B w W) : GlobB W B := fun W' h' => h W' (hb.trans h')
theorem GlobB.now {w : World} {B : Nat} (h : GlobB w B) : Glob w := h w (Below.refl _ _)
theorem GlobB.up {w0 w : World} {B : Nat} (h : Glob w0) (hb : Below w0.heap.size w0 w) (hB : w0.heap.size ≤ B) : GlobB w B := fun _ hW => h.below (hb.trans (hW.mono hB))
theorem nums_itoa (i : Int) : nums .u8 (itoaI i) = Lib.byteCells (Lib.itoa i) := by
 unfold nums itoaI Lib.byteCells
 rw [List.map_map]
 rfl
theorem nums_decL (u : Nat) : nums .u8 (decL u) = Lib.byteCells (Lib.decDigits u) := by
 unfold nums decL Lib.byteCells
 rw [List.map_map]
 rfl
theorem app_int {W : World} {B : Nat} {l : List Int} {v : Value} (i : Int) (h0 : -9223372036854775808 ≤ i) (h1 : i ≤ 9223372036854775807) (ho : W.ownsRow B tyU8 1 v l.length (nums .u8 l)) (hB : B ≤ W.heap.size) (hG : GlobB W B) (hl : l.length + 21 ≤ 140737488355328) :
  Calls Tryz.prog 117 #[v, .int .i64 i, .int .i64 10] W (WrPost W B (l ++ itoaI i)) := by
 refine (Tryz.strconv_AppendInt_10 B l.length i h0 h1 v _ W ho hB hl (fun W' hW => (hG W' hW).pw)).mono ?_
 rintro e w' ⟨v', rfl, h2, h3, h4⟩
 refine ⟨v', rfl, ?_, h3, h4⟩
 rw [nums_append, nums_itoa, List.length_append, itoaI, List.length_map]
 exact h2
theorem app_uint {W : World} {B : Nat} {l : List Int} {v : Value} (i : Int) (h0 : 0 ≤ i) (h1 : i ≤ 4294967295) (ho : W.ownsRow B tyU8 1 v l.length (nums .u8 l)) (hB : B ≤ W.heap.size) (hG : GlobB W B) (hl : l.length + 20 ≤ 140737488355328) :
  Calls Tryz.prog 119 #[v, .int .u64 i, .int .i64 10] W (WrPost W B (l ++ itoaI i)) := by
 obtain ⟨u, rfl⟩ := Int.eq_ofNat_of_zero_le h0
 have HC := Lib.hid (Tryz.internal_strconv_AppendUint_10 B l.length u (by omega) v _ W ho hB hl hG.now.pw)
 have hv : ∃ A c, v = .slice A l.length c := by
  obtain ⟨A, c, h, _⟩ := own_reads ho
  exact ⟨A, c, h⟩
 obtain ⟨A, c, rfl⟩ := hv
 clear ho hB hG hl h0 h1
 go_enter Tryz.func119, Tryz.ntmps119
 go_wp2_with fail
 refine HC.out.mono ?_
 rintro e w' ⟨v', rfl, h2, h3, h4⟩
 have H2 := Lib.hid h2
 have H3 := Lib.hid h3
 have H4 := Lib.hid h4
 clear h2 h3 h4 HC
 go_wp2_with fail
 go_ret
 refine ⟨v', rfl, ?_, H3.out, H4.out⟩
 have h2 := H2.out
 change w'.ownsRow B tyU8 1 v' _ _
 rw [itoa_nat, nums_append, nums_decL, List.length_append, decL, List.length_map]
 exact h2
set_option maxRecDepth 100000 in
theorem term_quoted {W : World} {B : Nat} {l : List Int} {v : Value} (s : ByteArray) (hm : s.size ≤ 140737488351232) (ho : W.ownsRow B tyU8 1 v l.length (nums .u8 l)) (hB : B ≤ W.heap.size) (hG : GlobB W B) (hl : l.length + 1022 ≤ 140737488355328) :
  Calls Tryz.prog 118 #[v, .string s] W (WrPost W B (l ++ bs (quoted s).1)) := by
 have HQ := Lib.hid (atom_Quote s hm W hG.now)
 have HO := Lib.hid ho
 have HSZ := Lib.hid (quoted_size s)
 generalize quoted s = q at HQ HSZ ⊢
 clear ho hG
 go_enter Tryz.func118, Tryz.ntmps118
 go_wp2_with fail
 refine HQ.out.mono ?_
 rintro e w1 ⟨ev, rfl, hE, hB1⟩
 have HO1 := Lib.hid (own_keep HO.out hB1)
 have HB1 := Lib.hid hB1
 have HHB : Hid (B ≤ w1.heap.size) := Lib.hid (Nat.le_trans hB hB1.size)
 have HB2 : Hid (Below B W w1) := Lib.hid (hB1.mono hB)
 have HL : Hid (l.length + q.1.size ≤ 140737488355328) := Lib.hid (by have := HSZ.out; omega)
 clear hE hB1 HQ
 go_wp2_with (at_builtin; refine print_append_str (w0 := W) B rfl (.tmp 12) (.tmp 13) 104 9 5 rfl Tryz.underlying104 Tryz.underlying9 infoU8 v l q.1 rfl rfl ?hO ?hB ?hbs ?hl ?_; (case hO => exact HO1.out); (case hB => exact HB2.out); (case hbs => exact HHB.out); (case hl => exact HL.out); intro v1 w5 ho hb hg; have HO5 := Lib.hid ho; have HB5 := Lib.hid hb; have HK5 := Lib.hid ((othersOf HB1.out).grown hg (own_kind HO1.out)); clear ho hb hg)
 go_ret
 exact ⟨v1, rfl, HO5.out, HB5.out, HK5.out⟩
end Go.Proofs.YtibbcfeaododhaaGreatDoor
