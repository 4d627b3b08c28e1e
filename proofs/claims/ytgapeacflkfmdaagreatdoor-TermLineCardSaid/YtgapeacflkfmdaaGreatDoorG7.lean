/-
  heddleref02: cmp, Order where it does not go deeper; heddleref01.Compare. term: quoted, write: a term's text behind a row of bytes. term.write, Print. term: the closure that reads a term.
-/
import Derived.Test.YtgapeacflkfmdaaGreatDoorG4
import Derived.Test.YtgapeacflkfmdaaGreatDoorG6
import Derived.Test.YtgapeacflkfmdaaGreatDoorKPCpx1
import Derived.Lib.OthersKept
import Derived.Defers
set_option linter.unusedSimpArgs false
namespace Go.Proofs.YtgapeacflkfmdaaGreatDoor
open Go.RowKit Go.Sort Go.Proofs.YtgapeacflkfmdaaGreatDoorW.PrintWords Go.Proofs.YtgapeacflkfmdaaGreatDoor.PCp

theorem ref_cmp (a b : Int) (w : World) : Calls Tryz.prog 108 #[.int .i64 a, .int .i64 b] w fun e w' => e = .returned (.int .i64 (cmpI a b)) ∧ w = w' := by
  unfold cmpI
  go_enter Tryz.func108, Tryz.ntmps108
  go_wp2
  all_goals go_ret
  all_goals refine ⟨ei ?_, rfl⟩
  all_goals (repeat' split) <;> first | rfl | (exfalso; simp_all; omega)
theorem compare_l0 (a b : ByteArray) (hm : a.size ≤ 140737488351232) : ∀ (d i : Nat), a.size - i = d → i ≤ a.size → i ≤ b.size → Ev (fun k => heddleref01_Compare.l0 k a b (i : Int)) (cmpL ((bs a).drop i) ((bs b).drop i))
  | 0, i, hd, hi, hj => by
    have hi' : i = a.size := by omega
    rw [List.drop_of_length_le (by rw [bs_len]; omega)]
    refine Ev.step (f := fun k => heddleref01_Compare.j1 k a b (i : Int) false) (fun k => ?_) (Ev.step (f := fun _ => some (cmpL [] ((bs b).drop i))) (fun k => ?_) (Ev.now _))
    · simp only [heddleref01_Compare.l0]
      rw [if_neg (by omega)]
    · simp only [heddleref01_Compare.j1]
      rw [if_neg (by simp)]
      by_cases h : i < b.size
      · rw [bs_drop b i h, if_pos (by omega)]
        rfl
      · rw [List.drop_of_length_le (by rw [bs_len]; omega), if_neg (by omega), if_neg (by omega)]
        rfl
  | d + 1, i, hd, hi, hj => by
    have h1 : i < a.size := by omega
    have hw : wrap64 ((i : Int) + 1) = ((i + 1 : Nat) : Int) := by unfold wrap64; omega
    rw [bs_drop a i h1]
    by_cases h : i < b.size
    · rw [bs_drop b i h, cmpL]
      have ih := compare_l0 a b hm d (i + 1) (by omega) (by omega) (by omega)
      refine Ev.step (f := fun k => heddleref01_Compare.j1 k a b (i : Int) true) (fun k => ?_) ?_
      · simp only [heddleref01_Compare.l0]
        rw [if_pos (by omega), show decide ((i : Int) < (b.size : Int)) = true from decide_eq_true (by omega)]
      · by_cases c1 : bt a (i : Int) < bt b (i : Int)
        · rw [if_pos c1]
          refine Ev.step (f := fun _ => some (-1)) (fun k => ?_) (Ev.now _)
          simp only [heddleref01_Compare.j1]
          rw [if_pos trivial, if_pos (by omega), if_pos (by omega), if_pos (by omega), if_pos c1]
        · by_cases c2 : bt b (i : Int) < bt a (i : Int)
          · rw [if_neg c1, if_pos c2]
            refine Ev.step (f := fun _ => some 1) (fun k => ?_) (Ev.now _)
            simp only [heddleref01_Compare.j1]
            rw [if_pos trivial, if_pos (by omega), if_pos (by omega), if_pos (by omega), if_neg c1, if_pos c2]
          · rw [if_neg c1, if_neg c2]
            refine Ev.step (fun k => ?_) ih
            simp only [heddleref01_Compare.j1]
            rw [if_pos trivial, if_pos (by omega), if_pos (by omega), if_pos (by omega), if_neg c1, if_neg (by simpa using c2), hw]
    · clear hw
      rw [show (bs b).drop i = [] from List.drop_of_length_le (by rw [bs_len]; omega)]
      refine Ev.step (f := fun k => heddleref01_Compare.j1 k a b (i : Int) false) (fun k => ?_) (Ev.step (f := fun _ => some (1 : Int)) (fun k => ?_) (Ev.now _))
      · simp only [heddleref01_Compare.l0]
        rw [if_pos (by omega), show decide ((i : Int) < (b.size : Int)) = false from decide_eq_false (by omega)]
      · simp only [heddleref01_Compare.j1]
        rw [if_neg (by simp), if_neg (by omega), if_pos (by omega)]
theorem ref01_Compare (a b : ByteArray) (hm : a.size ≤ 140737488351232) (w : World) : Calls Tryz.prog 109 #[.string a, .string b] w fun e w' => e = .returned (.int .i64 (cmpS a b)) ∧ Drawn0 w w' := by
  obtain ⟨k, hk⟩ := (compare_l0 a b hm a.size 0 (by omega) (Nat.zero_le _) (Nat.zero_le _)).rounds
  rw [List.drop_zero, List.drop_zero] at hk
  exact heddleref01_Compare.calls k a b (cmpS a b) w hk
def OrdRSays (a : Tm) : Prop := ∀ (b : Tm) (A4 A5 B4 B5 : Option Addr) (c4 c5 d4 d5 : Nat) (w : World), TmR w a A4 c4 A5 c5 → TmR w b B4 d4 B5 d5 → okT a = true → okT b = true → inT a = true → inT b = true →
    Calls Tryz.prog 57 #[tmV a (.slice A4 a.nums.length c4) (.slice A5 a.args.length c5), tmV b (.slice B4 b.nums.length d4) (.slice B5 b.args.length d5)] w (OrdPost w (ordT a b))
set_option maxRecDepth 100000 in
theorem orderR_ne (a b : Tm) (A4 A5 B4 B5 : Option Addr) (c4 c5 d4 d5 : Nat) (w : World) (hk : a.kd ≠ b.kd) :
    Calls Tryz.prog 57 #[tmV a (.slice A4 a.nums.length c4) (.slice A5 a.args.length c5), tmV b (.slice B4 b.nums.length d4) (.slice B5 b.args.length d5)] w (OrdPost w (ordT a b)) := by
  have d0 : (a.kd != b.kd) = true := by simp [hk]
  rw [ordT_eq, if_pos hk]
  obtain ⟨w1, hw1, hTa, hTb, hB1⟩ := two_boxes w a b (.slice A4 a.nums.length c4) (.slice A5 a.args.length c5) (.slice B4 b.nums.length d4) (.slice B5 b.args.length d5)
  unfold tmV
  go_enter Tryz.func57, Tryz.ntmps57
  go_upto_region 1 with (fail)
  rw [← hw1]
  have hsz1 : w.heap.size + 1 < w1.heap.size := hTb.lt
  clear hw1
  have HTa := Lib.hid hTa
  have HTb := Lib.hid hTb
  have HB1 := Lib.hid hB1
  clear hTa hTb hB1
  have a0 := HTa.out.c0
  have b0 := HTb.out.c0
  clear hk
  go_wp2_with fail
  refine (ref_cmp _ _ _).mono ?_
  rintro e w' ⟨rfl, rfl⟩
  go_wp2_with fail
  go_ret
  exact ⟨rfl, HB1.out⟩
set_option maxRecDepth 100000 in
theorem orderR_one (a b : Tm) (A4 A5 B4 B5 : Option Addr) (c4 c5 d4 d5 : Nat) (w : World) (hk : a.kd = b.kd) (k1 : a.kd = 1) :
    Calls Tryz.prog 57 #[tmV a (.slice A4 a.nums.length c4) (.slice A5 a.args.length c5), tmV b (.slice B4 b.nums.length d4) (.slice B5 b.args.length d5)] w (OrdPost w (ordT a b)) := by
  rw [ordT_eq, if_neg (by simp [hk]), if_pos k1]
  have d0 : (a.kd != b.kd) = false := by simp [hk]
  have e1 : (a.kd == 1) = decide ((1 : Int) = 1) := by rw [k1]; rfl
  have e2 : (a.kd == 2) = decide ((1 : Int) = 2) := by rw [k1]; rfl
  have e3 : (a.kd == 3) = decide ((1 : Int) = 3) := by rw [k1]; rfl
  have e4 : (a.kd == 4) = decide ((1 : Int) = 4) := by rw [k1]; rfl
  have e5 : (a.kd == 5) = decide ((1 : Int) = 5) := by rw [k1]; rfl
  have e7 : (a.kd == 7) = decide ((1 : Int) = 7) := by rw [k1]; rfl
  simp only [Int.reduceEq, decide_true, decide_false] at e1 e2 e3 e4 e5 e7
  clear hk k1
  obtain ⟨w1, hw1, hTa, hTb, hB1⟩ := two_boxes w a b (.slice A4 a.nums.length c4) (.slice A5 a.args.length c5) (.slice B4 b.nums.length d4) (.slice B5 b.args.length d5)
  unfold tmV
  go_enter Tryz.func57, Tryz.ntmps57
  go_upto_region 1 with (fail)
  rw [← hw1]
  have hsz1 : w.heap.size + 1 < w1.heap.size := hTb.lt
  clear hw1
  have HTa := Lib.hid hTa
  have HTb := Lib.hid hTb
  have HB1 := Lib.hid hB1
  clear hTa hTb hB1
  have a0 := HTa.out.c0
  have b0 := HTb.out.c0
  have a1 := HTa.out.c1
  have b1 := HTb.out.c1
  go_wp2_with fail
  refine (ref_cmp _ _ _).mono ?_
  rintro e w' ⟨rfl, rfl⟩
  go_wp2_with fail
  go_ret
  exact ⟨rfl, HB1.out⟩
theorem drawn_below {w w' : World} (h : Drawn0 w w') : Below w.heap.size w w' := h.below
set_option maxRecDepth 100000 in
theorem orderR_two (a b : Tm) (A4 A5 B4 B5 : Option Addr) (c4 c5 d4 d5 : Nat) (w : World) (hk : a.kd = b.kd) (k1 : a.kd = 2) (hs : a.tx.size ≤ 140737488351232) :
    Calls Tryz.prog 57 #[tmV a (.slice A4 a.nums.length c4) (.slice A5 a.args.length c5), tmV b (.slice B4 b.nums.length d4) (.slice B5 b.args.length d5)] w (OrdPost w (ordT a b)) := by
  rw [ordT_eq, if_neg (by simp [hk]), if_neg (by omega), if_pos k1]
  have d0 : (a.kd != b.kd) = false := by simp [hk]
  have e1 : (a.kd == 1) = decide ((2 : Int) = 1) := by rw [k1]; rfl
  have e2 : (a.kd == 2) = decide ((2 : Int) = 2) := by rw [k1]; rfl
  have e3 : (a.kd == 3) = decide ((2 : Int) = 3) := by rw [k1]; rfl
  have e4 : (a.kd == 4) = decide ((2 : Int) = 4) := by rw [k1]; rfl
  have e5 : (a.kd == 5) = decide ((2 : Int) = 5) := by rw [k1]; rfl
  have e7 : (a.kd == 7) = decide ((2 : Int) = 7) := by rw [k1]; rfl
  simp only [Int.reduceEq, decide_true, decide_false] at e1 e2 e3 e4 e5 e7
  clear hk k1
  obtain ⟨w1, hw1, hTa, hTb, hB1⟩ := two_boxes w a b (.slice A4 a.nums.length c4) (.slice A5 a.args.length c5) (.slice B4 b.nums.length d4) (.slice B5 b.args.length d5)
  unfold tmV
  go_enter Tryz.func57, Tryz.ntmps57
  go_upto_region 1 with (fail)
  rw [← hw1]
  have hsz1 : w.heap.size + 1 < w1.heap.size := hTb.lt
  clear hw1
  have HTa := Lib.hid hTa
  have HTb := Lib.hid hTb
  have HB1 := Lib.hid hB1
  clear hTa hTb hB1
  have a0 := HTa.out.c0
  have b0 := HTb.out.c0
  have a2 := HTa.out.c2
  have b2 := HTb.out.c2
  go_wp2_with fail
  refine (ref01_Compare _ _ hs _).mono ?_
  rintro e w' ⟨rfl, hD⟩
  have HD := Lib.hid (trans_below HB1.out (drawn_below hD))
  clear hD a2 b2 a0 b0
  go_wp2_with fail
  go_ret
  exact ⟨rfl, HD.out⟩
set_option maxRecDepth 100000 in
theorem orderR_six (a b : Tm) (A4 A5 B4 B5 : Option Addr) (c4 c5 d4 d5 : Nat) (w : World) (hk : a.kd = b.kd) (k1 : a.kd = 6) :
    Calls Tryz.prog 57 #[tmV a (.slice A4 a.nums.length c4) (.slice A5 a.args.length c5), tmV b (.slice B4 b.nums.length d4) (.slice B5 b.args.length d5)] w (OrdPost w (ordT a b)) := by
  rw [ordT_eq, if_neg (by simp [hk]), if_neg (by omega), if_neg (by omega), if_neg (by omega), if_neg (by omega), if_neg (by omega)]
  have d0 : (a.kd != b.kd) = false := by simp [hk]
  have e1 : (a.kd == 1) = decide ((6 : Int) = 1) := by rw [k1]; rfl
  have e2 : (a.kd == 2) = decide ((6 : Int) = 2) := by rw [k1]; rfl
  have e3 : (a.kd == 3) = decide ((6 : Int) = 3) := by rw [k1]; rfl
  have e4 : (a.kd == 4) = decide ((6 : Int) = 4) := by rw [k1]; rfl
  have e5 : (a.kd == 5) = decide ((6 : Int) = 5) := by rw [k1]; rfl
  have e7 : (a.kd == 7) = decide ((6 : Int) = 7) := by rw [k1]; rfl
  simp only [Int.reduceEq, decide_true, decide_false] at e1 e2 e3 e4 e5 e7
  clear hk k1
  obtain ⟨w1, hw1, hTa, hTb, hB1⟩ := two_boxes w a b (.slice A4 a.nums.length c4) (.slice A5 a.args.length c5) (.slice B4 b.nums.length d4) (.slice B5 b.args.length d5)
  unfold tmV
  go_enter Tryz.func57, Tryz.ntmps57
  go_upto_region 1 with (fail)
  rw [← hw1]
  have hsz1 : w.heap.size + 1 < w1.heap.size := hTb.lt
  clear hw1
  have HTa := Lib.hid hTa
  have HTb := Lib.hid hTb
  have HB1 := Lib.hid hB1
  clear hTa hTb hB1
  have a0 := HTa.out.c0
  have b0 := HTb.out.c0
  go_wp2_with fail
  go_ret
  exact ⟨rfl, HB1.out⟩
/-- What is still to be held against each other of two rows of numbers. -/
theorem cmpL_drop {l m : List Int} {i : Nat} (h1 : i < l.length) (h2 : i < m.length) : cmpL (l.drop i) (m.drop i) = orI (cmpI l[i] m[i]) (cmpL (l.drop (i + 1)) (m.drop (i + 1))) := by
  rw [List.drop_eq_getElem_cons h1, List.drop_eq_getElem_cons h2, cmpL_eq]
set_option maxRecDepth 100000 in
set_option maxHeartbeats 4000000 in
theorem orderR_three (a b : Tm) (A4 A5 B4 B5 : Option Addr) (c4 c5 d4 d5 : Nat) (w : World) (hk : a.kd = b.kd) (k1 : a.kd = 3) (hs : a.tx.size ≤ 140737488351232) (hnl : a.nums.length = b.nums.length) (hT : TmR w a A4 c4 A5 c5) (hU : TmR w b B4 d4 B5 d5) (ha : inT a = true) (hb : inT b = true) :
    Calls Tryz.prog 57 #[tmV a (.slice A4 a.nums.length c4) (.slice A5 a.args.length c5), tmV b (.slice B4 b.nums.length d4) (.slice B5 b.args.length d5)] w (OrdPost w (ordT a b)) := by
  rw [ordT_eq, if_neg (by simp [hk]), if_neg (by omega), if_neg (by omega), if_pos (by omega)]
  have HU := Lib.hid (And.intro hT.g4 hU.g4)
  have hl4 := hT.l4
  have HWA := Lib.hid (wf_nums (inT_wf ha))
  have HWB := Lib.hid (wf_nums (inT_wf hb))
  have HNL := Lib.hid hnl
  have xa := HWA.out a.cr (by simp)
  have xb := HWB.out b.cr (by simp)
  have xa0 := xa.1
  have xa1 := xa.2
  have xb0 := xb.1
  have xb1 := xb.2
  obtain ⟨R, hR⟩ : ∃ R, R = orI (cmpS a.tx b.tx) (orI (cmpI a.cr b.cr) (cmpL a.nums b.nums)) := ⟨_, rfl⟩
  rw [← hR]
  have HR0 := Lib.hid hR
  clear hT hU ha hb xa xb hR hnl
  have d0 : (a.kd != b.kd) = false := by simp [hk]
  have e1 : (a.kd == 1) = decide ((3 : Int) = 1) := by rw [k1]; rfl
  have e2 : (a.kd == 2) = decide ((3 : Int) = 2) := by rw [k1]; rfl
  have e3 : (a.kd == 3) = decide ((3 : Int) = 3) := by rw [k1]; rfl
  have e4 : (a.kd == 4) = decide ((3 : Int) = 4) := by rw [k1]; rfl
  have e5 : (a.kd == 5) = decide ((3 : Int) = 5) := by rw [k1]; rfl
  have e7 : (a.kd == 7) = decide ((3 : Int) = 7) := by rw [k1]; rfl
  simp only [Int.reduceEq, decide_true, decide_false] at e1 e2 e3 e4 e5 e7
  clear hk k1
  obtain ⟨w1, hw1, hTa, hTb, hB1⟩ := two_boxes w a b (.slice A4 a.nums.length c4) (.slice A5 a.args.length c5) (.slice B4 b.nums.length d4) (.slice B5 b.args.length d5)
  unfold tmV
  go_enter Tryz.func57, Tryz.ntmps57
  go_upto_region 1 with (fail)
  rw [← hw1]
  have hsz1 : w.heap.size + 1 < w1.heap.size := hTb.lt
  clear hw1
  have HTa := Lib.hid hTa
  have HTb := Lib.hid hTb
  have HB1 := Lib.hid hB1
  clear hTa hTb hB1
  have a0 := HTa.out.c0
  have b0 := HTb.out.c0
  have a2 := HTa.out.c2
  have b2 := HTb.out.c2
  go_wp2_with fail
  refine (ref01_Compare _ _ hs _).mono ?_
  rintro e w2 ⟨rfl, hD⟩
  have HB2 := Lib.hid (trans_below HB1.out (drawn_below hD))
  have HTa2 := Lib.hid (HTa.out.below (drawn_below hD) HTa.out.lt)
  have HTb2 := Lib.hid (HTb.out.below (drawn_below hD) HTb.out.lt)
  clear hD a2 b2 a0 b0 HTa HTb HB1
  have a3 := HTa2.out.c3
  have b3 := HTb2.out.c3
  generalize cmpS a.tx b.tx = c0 at HR0 ⊢
  have HC1 : ∃ c1, Hid (R = orI c1 (cmpL a.nums b.nums)) ∧ Hid (c1 = if c0 = 0 then cmpI a.cr b.cr else c0) := ⟨_, Lib.hid (by rw [HR0.out]; unfold orI; by_cases h : c0 = 0 <;> simp [h]), Lib.hid rfl⟩
  obtain ⟨c1, HC1, HC2⟩ := HC1
  clear HR0
  by_cases hz : c0 = 0
  · have dz : (c0 == 0) = true := beq_iff_eq.2 hz
    have hc1 := HC2.out
    rw [if_pos hz] at hc1
    have HC3 := Lib.hid hc1
    clear hz hc1 HC2
    go_wp2_with fail
    refine (ref_cmp _ _ _).mono ?_
    rintro e w3 ⟨rfl, rfl⟩
    rw [← HC3.out]
    clear a3 b3 xa0 xa1 xb0 xb1 dz
    go_wp2_with fail
    try clear dz
    go_loopg [5, 6] (a.nums.length + 1) (fun gk v5 v6 wl => ∃ (i : Nat) (c : Int), v5 = .int .i64 c ∧ v6 = .int .i64 (i : Int) ∧ gk = a.nums.length + 1 - i ∧ i ≤ a.nums.length ∧ Hid (R = orI c (cmpL (a.nums.drop i) (b.nums.drop i))) ∧ Hid (Below w2.heap.size w2 wl))
    case atStart => exact ⟨0, c1, rfl, rfl, rfl, Nat.zero_le _, HC1, Lib.hid (Below.refl _ _)⟩
    case round =>
      clear HC1
      obtain ⟨i, c, rfl, rfl, hgk, hi, HR, HB⟩ := hrel
      have HK := Lib.hid hgk
      clear hgk
      have HTa3 := Lib.hid (HTa2.out.below HB.out HTa2.out.lt)
      have HTb3 := Lib.hid (HTb2.out.below HB.out HTb2.out.lt)
      have HBW := Lib.hid (trans_below HB2.out HB.out)
      have a4 := HTa3.out.c4
      have b4 := HTb3.out.c4
      by_cases hlt : i < a.nums.length
      · by_cases hz : c = 0
        · subst hz
          have hlt2 : i < b.nums.length := by have := HNL.out; omega
          have hRn := HR.out
          rw [cmpL_drop hlt hlt2] at hRn
          have HRN : Hid (R = orI (cmpI a.nums[i] b.nums[i]) (cmpL (a.nums.drop (i + 1)) (b.nums.drop (i + 1)))) := Lib.hid (by rw [hRn]; rfl)
          have hra : ReadsInt wr .u32 A4 a.nums.length a.nums := Kd.reads_of_C (Kd.C_below HU.out.1 HBW.out)
          have hrb : ReadsInt wr .u32 B4 b.nums.length b.nums := Kd.reads_of_C (Kd.C_below HU.out.2 HBW.out)
          obtain ⟨ad, rfl, qa⟩ := hra.at_ (i : Int) (by omega) (by omega)
          obtain ⟨bd, rfl, qb⟩ := hrb.at_ (i : Int) (by omega) (by omega)
          simp only [Int.toNat_natCast] at qa qb
          have ea : rd a.nums (i : Int) = a.nums[i] := by unfold rd; rw [Int.toNat_natCast, List.getD_eq_getElem?_getD, List.getElem?_eq_getElem hlt]; rfl
          have eb' : rd b.nums (i : Int) = b.nums[i] := by unfold rd; rw [Int.toNat_natCast, List.getD_eq_getElem?_getD, List.getElem?_eq_getElem hlt2]; rfl
          rw [ea] at qa
          rw [eb'] at qb
          have hxa := HWA.out a.nums[i] (List.mem_cons_of_mem _ (List.getElem_mem hlt))
          have hxb := HWB.out b.nums[i] (List.mem_cons_of_mem _ (List.getElem_mem hlt2))
          generalize a.nums[i] = x at qa hxa HRN
          generalize b.nums[i] = y at qb hxb HRN
          have wx : IntKind.i64.wrap x = x := IntWalk.i64_in _ (by have := hxa.1; have := hxa.2; omega)
          have wy : IntKind.i64.wrap y = y := IntWalk.i64_in _ (by have := hxb.1; have := hxb.2; omega)
          have y0 : (0 : Int) ≤ (i : Int) := by omega
          have y1 : (i : Int) < (a.nums.length : Int) := by omega
          have y2 : (i : Int) < (b.nums.length : Int) := by omega
          have hm : a.nums.length ≤ 9223372036854775807 := HU.out.1.2.1
          clear hra hrb ea eb' hRn HR hxa hxb
          go_wp2_with fail
          go_quiet ((go_at_call 108; exact Calls.quiet_of_same ((ref_cmp _ _ _).mono fun e w' h => ⟨h.1, h.2.symm⟩)))
          clear wx wy
          go_wp2_with fail
          go_roundg (a.nums.length + 1 - (i + 1))
          case measure => rw [HK.out]; omega
          case rel => exact ⟨i + 1, _, rfl, by go_num, rfl, by omega, HRN, Lib.hid (pw_below_drewN HB.out _)⟩
        · have dz : (c == 0) = false := beq_eq_false_iff_ne.2 hz
          have HRN : Hid (R = c) := Lib.hid (by rw [HR.out]; unfold orI; rw [if_neg hz])
          clear hz
          go_wp2_with fail
          go_ret
          rw [HRN.out]
          exact ⟨rfl, HBW.out⟩
      · have d9 : decide ((i : Int) < (a.nums.length : Int)) = false := decide_eq_false (by omega)
        have HRN : Hid (R = c) := Lib.hid (by
          rw [HR.out, List.drop_of_length_le (by omega), List.drop_of_length_le (by have := HNL.out; omega)]
          unfold orI
          split
          · rename_i h; rw [h]; rfl
          · rfl)
        go_wp2_with fail
        go_ret
        rw [HRN.out]
        exact ⟨rfl, HBW.out⟩
  · have dz : (c0 == 0) = false := beq_eq_false_iff_ne.2 hz
    have hc1 := HC2.out
    rw [if_neg hz] at hc1
    obtain rfl : c1 = c0 := hc1
    clear hz HC2 a3 b3 xa0 xa1 xb0 xb1
    go_wp2_with fail
    try clear dz
    go_loopg [5, 6] (a.nums.length + 1) (fun gk v5 v6 wl => ∃ (i : Nat) (c : Int), v5 = .int .i64 c ∧ v6 = .int .i64 (i : Int) ∧ gk = a.nums.length + 1 - i ∧ i ≤ a.nums.length ∧ Hid (R = orI c (cmpL (a.nums.drop i) (b.nums.drop i))) ∧ Hid (Below w2.heap.size w2 wl))
    case atStart => exact ⟨0, c1, rfl, rfl, rfl, Nat.zero_le _, HC1, Lib.hid (Below.refl _ _)⟩
    case round =>
      clear HC1
      obtain ⟨i, c, rfl, rfl, hgk, hi, HR, HB⟩ := hrel
      have HK := Lib.hid hgk
      clear hgk
      have HTa3 := Lib.hid (HTa2.out.below HB.out HTa2.out.lt)
      have HTb3 := Lib.hid (HTb2.out.below HB.out HTb2.out.lt)
      have HBW := Lib.hid (trans_below HB2.out HB.out)
      have a4 := HTa3.out.c4
      have b4 := HTb3.out.c4
      by_cases hlt : i < a.nums.length
      · by_cases hz : c = 0
        · subst hz
          have hlt2 : i < b.nums.length := by have := HNL.out; omega
          have hRn := HR.out
          rw [cmpL_drop hlt hlt2] at hRn
          have HRN : Hid (R = orI (cmpI a.nums[i] b.nums[i]) (cmpL (a.nums.drop (i + 1)) (b.nums.drop (i + 1)))) := Lib.hid (by rw [hRn]; rfl)
          have hra : ReadsInt wr .u32 A4 a.nums.length a.nums := Kd.reads_of_C (Kd.C_below HU.out.1 HBW.out)
          have hrb : ReadsInt wr .u32 B4 b.nums.length b.nums := Kd.reads_of_C (Kd.C_below HU.out.2 HBW.out)
          obtain ⟨ad, rfl, qa⟩ := hra.at_ (i : Int) (by omega) (by omega)
          obtain ⟨bd, rfl, qb⟩ := hrb.at_ (i : Int) (by omega) (by omega)
          simp only [Int.toNat_natCast] at qa qb
          have ea : rd a.nums (i : Int) = a.nums[i] := by unfold rd; rw [Int.toNat_natCast, List.getD_eq_getElem?_getD, List.getElem?_eq_getElem hlt]; rfl
          have eb' : rd b.nums (i : Int) = b.nums[i] := by unfold rd; rw [Int.toNat_natCast, List.getD_eq_getElem?_getD, List.getElem?_eq_getElem hlt2]; rfl
          rw [ea] at qa
          rw [eb'] at qb
          have hxa := HWA.out a.nums[i] (List.mem_cons_of_mem _ (List.getElem_mem hlt))
          have hxb := HWB.out b.nums[i] (List.mem_cons_of_mem _ (List.getElem_mem hlt2))
          generalize a.nums[i] = x at qa hxa HRN
          generalize b.nums[i] = y at qb hxb HRN
          have wx : IntKind.i64.wrap x = x := IntWalk.i64_in _ (by have := hxa.1; have := hxa.2; omega)
          have wy : IntKind.i64.wrap y = y := IntWalk.i64_in _ (by have := hxb.1; have := hxb.2; omega)
          have y0 : (0 : Int) ≤ (i : Int) := by omega
          have y1 : (i : Int) < (a.nums.length : Int) := by omega
          have y2 : (i : Int) < (b.nums.length : Int) := by omega
          have hm : a.nums.length ≤ 9223372036854775807 := HU.out.1.2.1
          clear hra hrb ea eb' hRn HR hxa hxb
          go_wp2_with fail
          go_quiet ((go_at_call 108; exact Calls.quiet_of_same ((ref_cmp _ _ _).mono fun e w' h => ⟨h.1, h.2.symm⟩)))
          clear wx wy
          go_wp2_with fail
          go_roundg (a.nums.length + 1 - (i + 1))
          case measure => rw [HK.out]; omega
          case rel => exact ⟨i + 1, _, rfl, by go_num, rfl, by omega, HRN, Lib.hid (pw_below_drewN HB.out _)⟩
        · have dz : (c == 0) = false := beq_eq_false_iff_ne.2 hz
          have HRN : Hid (R = c) := Lib.hid (by rw [HR.out]; unfold orI; rw [if_neg hz])
          clear hz
          go_wp2_with fail
          go_ret
          rw [HRN.out]
          exact ⟨rfl, HBW.out⟩
      · have d9 : decide ((i : Int) < (a.nums.length : Int)) = false := decide_eq_false (by omega)
        have HRN : Hid (R = c) := Lib.hid (by
          rw [HR.out, List.drop_of_length_le (by omega), List.drop_of_length_le (by have := HNL.out; omega)]
          unfold orI
          split
          · rename_i h; rw [h]; rfl
          · rfl)
        go_wp2_with fail
        go_ret
        rw [HRN.out]
        exact ⟨rfl, HBW.out⟩
set_option maxRecDepth 100000 in
set_option maxHeartbeats 4000000 in
theorem orderR_four (a b : Tm) (A4 A5 B4 B5 : Option Addr) (c4 c5 d4 d5 : Nat) (w : World) (hk : a.kd = b.kd) (k1 : a.kd = 4) (hs : a.tx.size ≤ 140737488351232) (hnl : a.nums.length = b.nums.length) (hT : TmR w a A4 c4 A5 c5) (hU : TmR w b B4 d4 B5 d5) (ha : inT a = true) (hb : inT b = true) :
    Calls Tryz.prog 57 #[tmV a (.slice A4 a.nums.length c4) (.slice A5 a.args.length c5), tmV b (.slice B4 b.nums.length d4) (.slice B5 b.args.length d5)] w (OrdPost w (ordT a b)) := by
  rw [ordT_eq, if_neg (by simp [hk]), if_neg (by omega), if_neg (by omega), if_pos (by omega)]
  have HU := Lib.hid (And.intro hT.g4 hU.g4)
  have hl4 := hT.l4
  have HWA := Lib.hid (wf_nums (inT_wf ha))
  have HWB := Lib.hid (wf_nums (inT_wf hb))
  have HNL := Lib.hid hnl
  have xa := HWA.out a.cr (by simp)
  have xb := HWB.out b.cr (by simp)
  have xa0 := xa.1
  have xa1 := xa.2
  have xb0 := xb.1
  have xb1 := xb.2
  obtain ⟨R, hR⟩ : ∃ R, R = orI (cmpS a.tx b.tx) (orI (cmpI a.cr b.cr) (cmpL a.nums b.nums)) := ⟨_, rfl⟩
  rw [← hR]
  have HR0 := Lib.hid hR
  clear hT hU ha hb xa xb hR hnl
  have d0 : (a.kd != b.kd) = false := by simp [hk]
  have e1 : (a.kd == 1) = decide ((4 : Int) = 1) := by rw [k1]; rfl
  have e2 : (a.kd == 2) = decide ((4 : Int) = 2) := by rw [k1]; rfl
  have e3 : (a.kd == 3) = decide ((4 : Int) = 3) := by rw [k1]; rfl
  have e4 : (a.kd == 4) = decide ((4 : Int) = 4) := by rw [k1]; rfl
  have e5 : (a.kd == 5) = decide ((4 : Int) = 5) := by rw [k1]; rfl
  have e7 : (a.kd == 7) = decide ((4 : Int) = 7) := by rw [k1]; rfl
  simp only [Int.reduceEq, decide_true, decide_false] at e1 e2 e3 e4 e5 e7
  clear hk k1
  obtain ⟨w1, hw1, hTa, hTb, hB1⟩ := two_boxes w a b (.slice A4 a.nums.length c4) (.slice A5 a.args.length c5) (.slice B4 b.nums.length d4) (.slice B5 b.args.length d5)
  unfold tmV
  go_enter Tryz.func57, Tryz.ntmps57
  go_upto_region 1 with (fail)
  rw [← hw1]
  have hsz1 : w.heap.size + 1 < w1.heap.size := hTb.lt
  clear hw1
  have HTa := Lib.hid hTa
  have HTb := Lib.hid hTb
  have HB1 := Lib.hid hB1
  clear hTa hTb hB1
  have a0 := HTa.out.c0
  have b0 := HTb.out.c0
  have a2 := HTa.out.c2
  have b2 := HTb.out.c2
  go_wp2_with fail
  refine (ref01_Compare _ _ hs _).mono ?_
  rintro e w2 ⟨rfl, hD⟩
  have HB2 := Lib.hid (trans_below HB1.out (drawn_below hD))
  have HTa2 := Lib.hid (HTa.out.below (drawn_below hD) HTa.out.lt)
  have HTb2 := Lib.hid (HTb.out.below (drawn_below hD) HTb.out.lt)
  clear hD a2 b2 a0 b0 HTa HTb HB1
  have a3 := HTa2.out.c3
  have b3 := HTb2.out.c3
  generalize cmpS a.tx b.tx = c0 at HR0 ⊢
  have HC1 : ∃ c1, Hid (R = orI c1 (cmpL a.nums b.nums)) ∧ Hid (c1 = if c0 = 0 then cmpI a.cr b.cr else c0) := ⟨_, Lib.hid (by rw [HR0.out]; unfold orI; by_cases h : c0 = 0 <;> simp [h]), Lib.hid rfl⟩
  obtain ⟨c1, HC1, HC2⟩ := HC1
  clear HR0
  by_cases hz : c0 = 0
  · have dz : (c0 == 0) = true := beq_iff_eq.2 hz
    have hc1 := HC2.out
    rw [if_pos hz] at hc1
    have HC3 := Lib.hid hc1
    clear hz hc1 HC2
    go_wp2_with fail
    refine (ref_cmp _ _ _).mono ?_
    rintro e w3 ⟨rfl, rfl⟩
    rw [← HC3.out]
    clear a3 b3 xa0 xa1 xb0 xb1 dz
    go_wp2_with fail
    try clear dz
    go_loopg [5, 6] (a.nums.length + 1) (fun gk v5 v6 wl => ∃ (i : Nat) (c : Int), v5 = .int .i64 c ∧ v6 = .int .i64 (i : Int) ∧ gk = a.nums.length + 1 - i ∧ i ≤ a.nums.length ∧ Hid (R = orI c (cmpL (a.nums.drop i) (b.nums.drop i))) ∧ Hid (Below w2.heap.size w2 wl))
    case atStart => exact ⟨0, c1, rfl, rfl, rfl, Nat.zero_le _, HC1, Lib.hid (Below.refl _ _)⟩
    case round =>
      clear HC1
      obtain ⟨i, c, rfl, rfl, hgk, hi, HR, HB⟩ := hrel
      have HK := Lib.hid hgk
      clear hgk
      have HTa3 := Lib.hid (HTa2.out.below HB.out HTa2.out.lt)
      have HTb3 := Lib.hid (HTb2.out.below HB.out HTb2.out.lt)
      have HBW := Lib.hid (trans_below HB2.out HB.out)
      have a4 := HTa3.out.c4
      have b4 := HTb3.out.c4
      by_cases hlt : i < a.nums.length
      · by_cases hz : c = 0
        · subst hz
          have hlt2 : i < b.nums.length := by have := HNL.out; omega
          have hRn := HR.out
          rw [cmpL_drop hlt hlt2] at hRn
          have HRN : Hid (R = orI (cmpI a.nums[i] b.nums[i]) (cmpL (a.nums.drop (i + 1)) (b.nums.drop (i + 1)))) := Lib.hid (by rw [hRn]; rfl)
          have hra : ReadsInt wr .u32 A4 a.nums.length a.nums := Kd.reads_of_C (Kd.C_below HU.out.1 HBW.out)
          have hrb : ReadsInt wr .u32 B4 b.nums.length b.nums := Kd.reads_of_C (Kd.C_below HU.out.2 HBW.out)
          obtain ⟨ad, rfl, qa⟩ := hra.at_ (i : Int) (by omega) (by omega)
          obtain ⟨bd, rfl, qb⟩ := hrb.at_ (i : Int) (by omega) (by omega)
          simp only [Int.toNat_natCast] at qa qb
          have ea : rd a.nums (i : Int) = a.nums[i] := by unfold rd; rw [Int.toNat_natCast, List.getD_eq_getElem?_getD, List.getElem?_eq_getElem hlt]; rfl
          have eb' : rd b.nums (i : Int) = b.nums[i] := by unfold rd; rw [Int.toNat_natCast, List.getD_eq_getElem?_getD, List.getElem?_eq_getElem hlt2]; rfl
          rw [ea] at qa
          rw [eb'] at qb
          have hxa := HWA.out a.nums[i] (List.mem_cons_of_mem _ (List.getElem_mem hlt))
          have hxb := HWB.out b.nums[i] (List.mem_cons_of_mem _ (List.getElem_mem hlt2))
          generalize a.nums[i] = x at qa hxa HRN
          generalize b.nums[i] = y at qb hxb HRN
          have wx : IntKind.i64.wrap x = x := IntWalk.i64_in _ (by have := hxa.1; have := hxa.2; omega)
          have wy : IntKind.i64.wrap y = y := IntWalk.i64_in _ (by have := hxb.1; have := hxb.2; omega)
          have y0 : (0 : Int) ≤ (i : Int) := by omega
          have y1 : (i : Int) < (a.nums.length : Int) := by omega
          have y2 : (i : Int) < (b.nums.length : Int) := by omega
          have hm : a.nums.length ≤ 9223372036854775807 := HU.out.1.2.1
          clear hra hrb ea eb' hRn HR hxa hxb
          go_wp2_with fail
          go_quiet ((go_at_call 108; exact Calls.quiet_of_same ((ref_cmp _ _ _).mono fun e w' h => ⟨h.1, h.2.symm⟩)))
          clear wx wy
          go_wp2_with fail
          go_roundg (a.nums.length + 1 - (i + 1))
          case measure => rw [HK.out]; omega
          case rel => exact ⟨i + 1, _, rfl, by go_num, rfl, by omega, HRN, Lib.hid (pw_below_drewN HB.out _)⟩
        · have dz : (c == 0) = false := beq_eq_false_iff_ne.2 hz
          have HRN : Hid (R = c) := Lib.hid (by rw [HR.out]; unfold orI; rw [if_neg hz])
          clear hz
          go_wp2_with fail
          go_ret
          rw [HRN.out]
          exact ⟨rfl, HBW.out⟩
      · have d9 : decide ((i : Int) < (a.nums.length : Int)) = false := decide_eq_false (by omega)
        have HRN : Hid (R = c) := Lib.hid (by
          rw [HR.out, List.drop_of_length_le (by omega), List.drop_of_length_le (by have := HNL.out; omega)]
          unfold orI
          split
          · rename_i h; rw [h]; rfl
          · rfl)
        go_wp2_with fail
        go_ret
        rw [HRN.out]
        exact ⟨rfl, HBW.out⟩
  · have dz : (c0 == 0) = false := beq_eq_false_iff_ne.2 hz
    have hc1 := HC2.out
    rw [if_neg hz] at hc1
    obtain rfl : c1 = c0 := hc1
    clear hz HC2 a3 b3 xa0 xa1 xb0 xb1
    go_wp2_with fail
    try clear dz
    go_loopg [5, 6] (a.nums.length + 1) (fun gk v5 v6 wl => ∃ (i : Nat) (c : Int), v5 = .int .i64 c ∧ v6 = .int .i64 (i : Int) ∧ gk = a.nums.length + 1 - i ∧ i ≤ a.nums.length ∧ Hid (R = orI c (cmpL (a.nums.drop i) (b.nums.drop i))) ∧ Hid (Below w2.heap.size w2 wl))
    case atStart => exact ⟨0, c1, rfl, rfl, rfl, Nat.zero_le _, HC1, Lib.hid (Below.refl _ _)⟩
    case round =>
      clear HC1
      obtain ⟨i, c, rfl, rfl, hgk, hi, HR, HB⟩ := hrel
      have HK := Lib.hid hgk
      clear hgk
      have HTa3 := Lib.hid (HTa2.out.below HB.out HTa2.out.lt)
      have HTb3 := Lib.hid (HTb2.out.below HB.out HTb2.out.lt)
      have HBW := Lib.hid (trans_below HB2.out HB.out)
      have a4 := HTa3.out.c4
      have b4 := HTb3.out.c4
      by_cases hlt : i < a.nums.length
      · by_cases hz : c = 0
        · subst hz
          have hlt2 : i < b.nums.length := by have := HNL.out; omega
          have hRn := HR.out
          rw [cmpL_drop hlt hlt2] at hRn
          have HRN : Hid (R = orI (cmpI a.nums[i] b.nums[i]) (cmpL (a.nums.drop (i + 1)) (b.nums.drop (i + 1)))) := Lib.hid (by rw [hRn]; rfl)
          have hra : ReadsInt wr .u32 A4 a.nums.length a.nums := Kd.reads_of_C (Kd.C_below HU.out.1 HBW.out)
          have hrb : ReadsInt wr .u32 B4 b.nums.length b.nums := Kd.reads_of_C (Kd.C_below HU.out.2 HBW.out)
          obtain ⟨ad, rfl, qa⟩ := hra.at_ (i : Int) (by omega) (by omega)
          obtain ⟨bd, rfl, qb⟩ := hrb.at_ (i : Int) (by omega) (by omega)
          simp only [Int.toNat_natCast] at qa qb
          have ea : rd a.nums (i : Int) = a.nums[i] := by unfold rd; rw [Int.toNat_natCast, List.getD_eq_getElem?_getD, List.getElem?_eq_getElem hlt]; rfl
          have eb' : rd b.nums (i : Int) = b.nums[i] := by unfold rd; rw [Int.toNat_natCast, List.getD_eq_getElem?_getD, List.getElem?_eq_getElem hlt2]; rfl
          rw [ea] at qa
          rw [eb'] at qb
          have hxa := HWA.out a.nums[i] (List.mem_cons_of_mem _ (List.getElem_mem hlt))
          have hxb := HWB.out b.nums[i] (List.mem_cons_of_mem _ (List.getElem_mem hlt2))
          generalize a.nums[i] = x at qa hxa HRN
          generalize b.nums[i] = y at qb hxb HRN
          have wx : IntKind.i64.wrap x = x := IntWalk.i64_in _ (by have := hxa.1; have := hxa.2; omega)
          have wy : IntKind.i64.wrap y = y := IntWalk.i64_in _ (by have := hxb.1; have := hxb.2; omega)
          have y0 : (0 : Int) ≤ (i : Int) := by omega
          have y1 : (i : Int) < (a.nums.length : Int) := by omega
          have y2 : (i : Int) < (b.nums.length : Int) := by omega
          have hm : a.nums.length ≤ 9223372036854775807 := HU.out.1.2.1
          clear hra hrb ea eb' hRn HR hxa hxb
          go_wp2_with fail
          go_quiet ((go_at_call 108; exact Calls.quiet_of_same ((ref_cmp _ _ _).mono fun e w' h => ⟨h.1, h.2.symm⟩)))
          clear wx wy
          go_wp2_with fail
          go_roundg (a.nums.length + 1 - (i + 1))
          case measure => rw [HK.out]; omega
          case rel => exact ⟨i + 1, _, rfl, by go_num, rfl, by omega, HRN, Lib.hid (pw_below_drewN HB.out _)⟩
        · have dz : (c == 0) = false := beq_eq_false_iff_ne.2 hz
          have HRN : Hid (R = c) := Lib.hid (by rw [HR.out]; unfold orI; rw [if_neg hz])
          clear hz
          go_wp2_with fail
          go_ret
          rw [HRN.out]
          exact ⟨rfl, HBW.out⟩
      · have d9 : decide ((i : Int) < (a.nums.length : Int)) = false := decide_eq_false (by omega)
        have HRN : Hid (R = c) := Lib.hid (by
          rw [HR.out, List.drop_of_length_le (by omega), List.drop_of_length_le (by have := HNL.out; omega)]
          unfold orI
          split
          · rename_i h; rw [h]; rfl
          · rfl)
        go_wp2_with fail
        go_ret
        rw [HRN.out]
        exact ⟨rfl, HBW.out⟩
end Go.Proofs.YtgapeacflkfmdaaGreatDoor
set_option linter.unusedSimpArgs false
namespace Go.Proofs.YtgapeacflkfmdaaGreatDoor
open Go.RowKit Go.Sort Go.Proofs.YtgapeacflkfmdaaGreatDoorW.PrintWords Tb

abbrev tyU8 : Nat := 5
/-- A row of bytes that reads 'l' is handed back; what lies below B, and what is no row of bytes, is as it was. -/
def WrPost (w : World) (B : Nat) (l : List Int) (e : Ending) (w' : World) : Prop :=
  ∃ v, e = .returned v ∧ w'.ownsRow B tyU8 1 v l.length (nums .u8 l) ∧ Below B w w' ∧ Lib.OthersKept tyU8 none w w'
theorem own_keep {w w' : World} {B e sz n : Nat} {v : Value} {xs : List Value} (h : w.ownsRow B e sz v n xs) (hb : Below w.heap.size w w') : w'.ownsRow B e sz v n xs :=
  h.kept (row := none) (grown_of_below hb none) (Classical.em _)
theorem own_kind {w : World} {B e sz n : Nat} {v : Value} {xs : List Value} (h : w.ownsRow B e sz v n xs) : ∀ g, v.ownBlock = some g → ∃ c fz, w.heap[g]? = some (.cells c e fz) := by
  intro g hg
  obtain ⟨c, hc⟩ := own_typed h g hg
  exact ⟨c, _, hc⟩
theorem othersBelow {w W W' : World} (h : Lib.OthersKept tyU8 none w W) (hb : Below W.heap.size W W') : Lib.OthersKept tyU8 none w W' :=
  h.grown (row := none) (grown_of_below hb none) (fun g hg => by cases hg)
theorem othersOf {W W' : World} (hb : Below W.heap.size W W') : Lib.OthersKept tyU8 none W W' := othersBelow (Lib.OthersKept.refl _ _ _) hb
/-- A row of another type stays. -/
theorem own_others {w w' : World} {B e sz n : Nat} {v : Value} {xs : List Value} (h : w.ownsRow B e sz v n xs) (he : e ≠ tyU8) (ho : Lib.OthersKept tyU8 none w w') : w'.ownsRow B e sz v n xs := by
  refine own_move h fun k hk => ?_
  obtain ⟨c, fz, hc⟩ := own_kind h k hk
  rw [hc]
  exact ho k _ hc (by simp) (fun c' fz' e' => by injection e' with _ e2; exact he e2)
/-- write's walk: the row 'v' reads 'l'; the term's box. -/
structure WrS (w W : World) (B : Nat) (t : Tm) (v4 v5 : Value) (l : List Int) (v : Value) : Prop where
  own : W.ownsRow B tyU8 1 v l.length (nums .u8 l)
  below : Below B w W
  others : Lib.OthersKept tyU8 none w W
  box : W.heap[w.heap.size]? = some (.cells #[.int .i64 t.kd, .int .i64 t.it, .string t.tx, .int .u32 t.cr, v4, v5] tyTm (0, 0))
  base : B ≤ W.heap.size
theorem WrS.tm {w W : World} {B : Nat} {t : Tm} {v4 v5 : Value} {l : List Int} {v : Value} (h : WrS w W B t v4 v5 l v) : TmAt W w.heap.size t v4 v5 := by
  have e := h.box
  constructor <;> simp [World.cell?, World.frozen?, e]
theorem WrS.start {w : World} {B : Nat} {l : List Int} {v : Value} (t : Tm) (v4 v5 : Value) (h : w.ownsRow B tyU8 1 v l.length (nums .u8 l)) (hB : B ≤ w.heap.size) :
    WrS w (w.alloc (.cells #[.int .i64 t.kd, .int .i64 t.it, .string t.tx, .int .u32 t.cr, v4, v5] 27)) B t v4 v5 l v :=
  ⟨h.alloc _, (Below.refl _ _).alloc hB _, (Lib.OthersKept.refl _ _ _).alloc _, heap_alloc_new w _, by simp; omega⟩
theorem WrS.app {w W w1 : World} {B : Nat} {t : Tm} {v4 v5 : Value} {l m : List Int} {v v1 : Value} (h : WrS w W B t v4 v5 l v) (ho : w1.ownsRow B tyU8 1 v1 (l ++ m).length (nums .u8 (l ++ m))) (hb : Below B W w1) (hg : W.grownBy w1 v.ownBlock) : WrS w w1 B t v4 v5 (l ++ m) v1 := by
  have hlt : w.heap.size < W.heap.size := (Array.getElem?_eq_some_iff.1 h.box).1
  refine ⟨ho, h.below.trans hb, h.others.grown hg (own_kind h.own), ?_, Nat.le_trans h.base hb.size⟩
  rw [hg.block _ hlt ?_]
  · exact h.box
  · intro hk
    obtain ⟨c, fz, hc⟩ := own_kind h.own _ hk.symm
    rw [h.box] at hc
    injection hc with hc
    injection hc with _ hc
    exact absurd hc (by decide)
theorem WrS.call {w W w1 : World} {B : Nat} {t : Tm} {v4 v5 : Value} {l m : List Int} {v v1 : Value} (h : WrS w W B t v4 v5 l v) (ho : w1.ownsRow B tyU8 1 v1 m.length (nums .u8 m)) (hb : Below B W w1) (hk : Lib.OthersKept tyU8 none W w1) : WrS w w1 B t v4 v5 m v1 :=
  ⟨ho, h.below.trans hb, h.others.trans hk, hk _ _ h.box (by simp) (fun c fz e => by injection e with _ e2; exact absurd e2 (by decide)), Nat.le_trans h.base hb.size⟩
theorem WrS.step {w W W' : World} {B : Nat} {t : Tm} {v4 v5 : Value} {l : List Int} {v : Value} (h : WrS w W B t v4 v5 l v) (hb : Below W.heap.size W W') : WrS w W' B t v4 v5 l v :=
  ⟨own_keep h.own hb, h.below.trans (hb.mono h.base), othersBelow h.others hb, (hb.block _ (Array.getElem?_eq_some_iff.1 h.box).1).trans h.box, Nat.le_trans h.base hb.size⟩
theorem WrS.done {w W : World} {B : Nat} {t : Tm} {v4 v5 : Value} {l : List Int} {v : Value} (h : WrS w W B t v4 v5 l v) : WrPost w B l (.returned v) W := ⟨v, rfl, h.own, h.below, h.others⟩
theorem drewN_below (W : World) (n : Nat) : Below W.heap.size W (W.drewN n) := by repeat (first | exact Below.refl _ _ | apply pw_below_drewN)

/-- What holds of the library's variables from here on. -/
def GlobB (w : World) (B : Nat) : Prop := ∀ W, Below B w W → Glob W
theorem GlobB.trans {w W : World} {B : Nat} (h : GlobB w B) (hb : Below B w W) : GlobB W B := fun W' h' => h W' (hb.trans h')
theorem GlobB.now {w : World} {B : Nat} (h : GlobB w B) : Glob w := h w (Below.refl _ _)
theorem GlobB.up {w0 w : World} {B : Nat} (h : Glob w0) (hb : Below w0.heap.size w0 w) (hB : w0.heap.size ≤ B) : GlobB w B := fun _ hW => h.below (hb.trans (hW.mono hB))

theorem nums_itoa (i : Int) : nums .u8 (itoaI i) = Lib.byteCells (Lib.itoa i) := by
  unfold nums itoaI Lib.byteCells
  rw [List.map_map]
  rfl
theorem nums_decL (u : Nat) : nums .u8 (decL u) = Lib.byteCells (Lib.decDigits u) := by
  unfold nums decL Lib.byteCells
  rw [List.map_map]
  rfl
theorem app_int {W : World} {B : Nat} {l : List Int} {v : Value} (i : Int) (h0 : -9223372036854775808 ≤ i) (h1 : i ≤ 9223372036854775807) (ho : W.ownsRow B tyU8 1 v l.length (nums .u8 l)) (hB : B ≤ W.heap.size) (hG : GlobB W B) (hl : l.length + 21 ≤ 140737488355328) :
    Calls Tryz.prog 105 #[v, .int .i64 i, .int .i64 10] W (WrPost W B (l ++ itoaI i)) := by
  refine (Tryz.strconv_AppendInt_10 B l.length i h0 h1 v _ W ho hB hl (fun W' hW => (hG W' hW).pw)).mono ?_
  rintro e w' ⟨v', rfl, h2, h3, h4⟩
  refine ⟨v', rfl, ?_, h3, h4⟩
  rw [nums_append, nums_itoa, List.length_append, itoaI, List.length_map]
  exact h2
theorem app_uint {W : World} {B : Nat} {l : List Int} {v : Value} (i : Int) (h0 : 0 ≤ i) (h1 : i ≤ 4294967295) (ho : W.ownsRow B tyU8 1 v l.length (nums .u8 l)) (hB : B ≤ W.heap.size) (hG : GlobB W B) (hl : l.length + 20 ≤ 140737488355328) :
    Calls Tryz.prog 107 #[v, .int .u64 i, .int .i64 10] W (WrPost W B (l ++ itoaI i)) := by
  obtain ⟨u, rfl⟩ := Int.eq_ofNat_of_zero_le h0
  have HC := Lib.hid (Tryz.internal_strconv_AppendUint_10 B l.length u (by omega) v _ W ho hB hl hG.now.pw)
  have hv : ∃ A c, v = .slice A l.length c := by
    obtain ⟨A, c, h, _⟩ := own_reads ho
    exact ⟨A, c, h⟩
  obtain ⟨A, c, rfl⟩ := hv
  clear ho hB hG hl h0 h1
  go_enter Tryz.func107, Tryz.ntmps107
  go_wp2_with fail
  refine HC.out.mono ?_
  rintro e w' ⟨v', rfl, h2, h3, h4⟩
  have H2 := Lib.hid h2
  have H3 := Lib.hid h3
  have H4 := Lib.hid h4
  clear h2 h3 h4 HC
  go_wp2_with fail
  go_ret
  refine ⟨v', rfl, ?_, H3.out, H4.out⟩
  have h2 := H2.out
  change w'.ownsRow B tyU8 1 v' _ _
  rw [itoa_nat, nums_append, nums_decL, List.length_append, decL, List.length_map]
  exact h2
set_option maxRecDepth 100000 in
theorem term_quoted {W : World} {B : Nat} {l : List Int} {v : Value} (s : ByteArray) (hm : s.size ≤ 140737488351232) (ho : W.ownsRow B tyU8 1 v l.length (nums .u8 l)) (hB : B ≤ W.heap.size) (hG : GlobB W B) (hl : l.length + 1022 ≤ 140737488355328) :
    Calls Tryz.prog 106 #[v, .string s] W (WrPost W B (l ++ bs (quoted s).1)) := by
  have HQ := Lib.hid (atom_Quote s hm W hG.now)
  have HO := Lib.hid ho
  have HSZ := Lib.hid (quoted_size s)
  generalize quoted s = q at HQ HSZ ⊢
  clear ho hG
  go_enter Tryz.func106, Tryz.ntmps106
  go_wp2_with fail
  refine HQ.out.mono ?_
  rintro e w1 ⟨ev, rfl, hE, hB1⟩
  have HO1 := Lib.hid (own_keep HO.out hB1)
  have HB1 := Lib.hid hB1
  have HHB : Hid (B ≤ w1.heap.size) := Lib.hid (Nat.le_trans hB hB1.size)
  have HB2 : Hid (Below B W w1) := Lib.hid (hB1.mono hB)
  have HL : Hid (l.length + q.1.size ≤ 140737488355328) := Lib.hid (by have := HSZ.out; omega)
  clear hE hB1 HQ
  go_wp2_with (at_builtin; refine print_append_str (w0 := W) B rfl (.tmp 12) (.tmp 13) 49 9 5 rfl Tryz.underlying49 Tryz.underlying9 infoU8 v l q.1 rfl rfl ?hO ?hB ?hbs ?hl ?_; (case hO => exact HO1.out); (case hB => exact HB2.out); (case hbs => exact HHB.out); (case hl => exact HL.out); intro v1 w5 ho hb hg; have HO5 := Lib.hid ho; have HB5 := Lib.hid hb; have HK5 := Lib.hid ((othersOf HB1.out).grown hg (own_kind HO1.out)); clear ho hb hg)
  go_ret
  exact ⟨v1, rfl, HO5.out, HB5.out, HK5.out⟩
end Go.Proofs.YtgapeacflkfmdaaGreatDoor
set_option linter.unusedSimpArgs false
namespace Go.Proofs.YtgapeacflkfmdaaGreatDoor
open Go.RowKit Go.Sort Go.Proofs.YtgapeacflkfmdaaGreatDoorW.PrintWords Tb

theorem numsTxt_snoc {ns : List Int} {i : Nat} (h : i < ns.length) : numsTxt (ns.take (i + 1)) = numsTxt (ns.take i) ++ (46 :: itoaI ns[i]) := by
  unfold numsTxt
  rw [List.take_succ_eq_append_getElem h, List.flatMap_append]
  simp
theorem rd_get {ns : List Int} {i : Nat} (h : i < ns.length) : rd ns (i : Int) = ns[i] := by
  unfold rd
  rw [Int.toNat_natCast, List.getD_eq_getElem?_getD, List.getElem?_eq_getElem h]
  rfl
theorem numsTake_len (ns : List Int) (h : ∀ n ∈ ns, isU32 n) (i : Nat) : (numsTxt (ns.take i)).length ≤ 22 * ns.length := by
  have h1 := nums_len (ns.take i) (fun n hn => h n (List.mem_of_mem_take hn))
  have h2 : (ns.take i).length ≤ ns.length := by rw [List.length_take]; omega
  omega
/-- What stands ahead of the k-th part. -/
def wrPre (l : List Int) (o : Int) (ts : List Tm) (k : Nat) : List Int := l ++ o :: sepPre [44] ((ts.take k).map (txtT []))
def wrCur (l : List Int) (o : Int) (ts : List Tm) (k : Nat) : List Int := l ++ o :: sepBy [44] ((ts.take k).map (txtT []))
theorem wrPre_zero (l : List Int) (o : Int) (ts : List Tm) : wrPre l o ts 0 = wrCur l o ts 0 := by
  unfold wrPre wrCur sepPre
  rw [List.take_zero, List.map_nil, if_pos rfl]
  rfl
theorem wrPre_pos {l : List Int} {o : Int} {ts : List Tm} {k : Nat} (h0 : 0 < k) (h : k ≤ ts.length) : wrPre l o ts k = wrCur l o ts k ++ [44] := by
  unfold wrPre wrCur sepPre
  rw [if_neg (fun e => by have := congrArg List.length e; rw [List.length_map, List.length_take, List.length_nil] at this; omega)]
  simp
theorem wrCur_succ {l : List Int} {o : Int} {ts : List Tm} {k : Nat} (h : k < ts.length) : wrCur l o ts (k + 1) = wrPre l o ts k ++ txtT [] ts[k] := by
  unfold wrPre wrCur
  rw [List.take_succ_eq_append_getElem h, List.map_append, List.map_cons, List.map_nil, sepBy_snoc]
  simp
theorem wrPre_len {l : List Int} {o : Int} {ts : List Tm} {k n : Nat} (h : k < n) (hn : n ≤ ts.length) : (wrPre l o ts k).length + (txtT [] (ts[k]'(by omega))).length ≤ l.length + 1 + (sepBy [44] ((ts.take n).map (txtT []))).length := by
  have e : (ts.take n).map (txtT []) = (ts.take k).map (txtT []) ++ txtT [] (ts[k]'(by omega)) :: (((ts.take n).drop (k + 1)).map (txtT [])) := by
    have h1 : ts.take n = ts.take k ++ ts[k]'(by omega) :: (ts.take n).drop (k + 1) := by
      have h2 : (ts.take n).take k = ts.take k := by rw [List.take_take, Nat.min_eq_left (by omega)]
      have h3 : k < (ts.take n).length := by rw [List.length_take]; omega
      have h4 := List.take_append_drop k (ts.take n)
      rw [List.drop_eq_getElem_cons h3, h2] at h4
      rw [List.getElem_take] at h4
      exact h4.symm
    calc (ts.take n).map (txtT []) = (ts.take k ++ ts[k]'(by omega) :: (ts.take n).drop (k + 1)).map (txtT []) := by rw [← h1]
      _ = _ := by rw [List.map_append, List.map_cons]
  rw [e, sepBy_split]
  unfold wrPre
  simp only [List.length_append, List.length_cons]
  omega
theorem WrS.tmBox {W w1 : World} {B b n : Nat} {v : Value} {xs : List Value} {a : Tm} {v4 v5 : Value} (hb : W.heap[b]? = some (.cells #[.int .i64 a.kd, .int .i64 a.it, .string a.tx, .int .u32 a.cr, v4, v5] tyTm (0, 0))) (ho : W.ownsRow B tyU8 1 v n xs) (hg : W.grownBy w1 v.ownBlock) : w1.heap[b]? = some (.cells #[.int .i64 a.kd, .int .i64 a.it, .string a.tx, .int .u32 a.cr, v4, v5] tyTm (0, 0)) := by
  rw [hg.block _ (Array.getElem?_eq_some_iff.1 hb).1 ?_]
  · exact hb
  · intro hk
    obtain ⟨c, fz, hc⟩ := own_kind ho _ hk.symm
    rw [hb] at hc
    injection hc with hc
    injection hc with _ hc
    exact absurd hc (by decide)
theorem tmAt_of_box {W : World} {b : Nat} {a : Tm} {v4 v5 : Value} (e : W.heap[b]? = some (.cells #[.int .i64 a.kd, .int .i64 a.it, .string a.tx, .int .u32 a.cr, v4, v5] tyTm (0, 0))) : TmAt W b a v4 v5 := by
  constructor <;> simp [World.cell?, World.frozen?, e]
set_option maxRecDepth 100000 in
set_option maxHeartbeats 8000000 in
theorem term_write (w0 : World) (hG0 : Glob w0) (B : Nat) (hB0 : w0.heap.size ≤ B) (t : Tm) : ∀ (A4 A5 : Option Addr) (c4 c5 : Nat) (l : List Int) (v : Value) (w : World), TmR w0 t A4 c4 A5 c5 → Below w0.heap.size w0 w → w.ownsRow B tyU8 1 v l.length (nums .u8 l) → B ≤ w.heap.size →
    (∃ D n m, (measT t D n m).1 = []) → smT t = true → wfT t = true → l.length + (txtT [] t).length + 1300 ≤ 140737488355328 →
    Calls Tryz.prog 56 #[v, tmV t (.slice A4 t.nums.length c4) (.slice A5 t.args.length c5)] w (WrPost w B (l ++ txtT [] t)) := by
  induction t using Tm.ind with
  | h t ih =>
    intro A4 A5 c4 c5 l v w hR hB hO hBw hms hsm hwf hlen
    have HMS := Lib.hid hms
    obtain ⟨D9, n9, m9, hms⟩ := hms
    have hok := meas_ok t D9 n9 m9 hms
    obtain ⟨_, hf, hml, _, _⟩ := meas_parts hms
    have hit : t.kd = 1 → small64 t.it := fun hk => by have := form_int hf hk; unfold small64; omega
    have HML : Hid (∀ a ∈ t.args, ∃ D n m, (measT a D n m).1 = []) := Lib.hid fun a ha => by obtain ⟨n', m', h⟩ := measL_mem hml a ha; exact ⟨_, n', m', h⟩
    clear hms hf hml
    have HIH := Lib.hid ih
    have HR := Lib.hid hR
    have HB := Lib.hid hB
    have HG0 := Lib.hid hG0
    have HSM := Lib.hid hsm
    have HWF := Lib.hid hwf
    have HOK := Lib.hid hok
    have hkd := shape_kd hok
    obtain ⟨R, hR0⟩ : ∃ R, R = txtT [] t := ⟨_, rfl⟩
    rw [← hR0] at hlen
    rw [← hR0]
    rw [txtT_eq] at hR0
    have HS1 := Lib.hid (WrS.start t (.slice A4 t.nums.length c4) (.slice A5 t.args.length c5) hO hBw)
    have HGB : Hid (GlobB w B) := Lib.hid (GlobB.up hG0 hB hB0)
    have HOKV : Hid (∃ A c, v = .slice A l.length c) := by
      obtain ⟨A, c, h, _⟩ := own_reads hO
      exact Lib.hid ⟨A, c, h⟩
    clear ih hR hB hO hG0 hsm hwf hok
    unfold tmV
    go_enter Tryz.func56, Tryz.ntmps56
    go_upto_region 1 with (fail)
    obtain ⟨w1, hw1⟩ : ∃ W, W = w.alloc (.cells #[.int .i64 t.kd, .int .i64 t.it, .string t.tx, .int .u32 t.cr, .slice A4 t.nums.length c4, .slice A5 t.args.length c5] 27) := ⟨_, rfl⟩
    rw [← hw1] at HS1
    rw [← hw1]
    clear hw1
    have t0 := HS1.out.tm.c0
    have t1 := HS1.out.tm.c1
    have t2 := HS1.out.tm.c2
    have t3 := HS1.out.tm.c3
    have t4 := HS1.out.tm.c4
    have t5 := HS1.out.tm.c5
    rcases (show t.kd = 1 ∨ t.kd = 2 ∨ t.kd = 3 ∨ t.kd = 4 ∨ t.kd = 5 ∨ t.kd = 6 ∨ t.kd = 7 by omega) with hk | hk | hk | hk | hk | hk | hk
    · have d1 : (t.kd == 1) = true := beq_iff_eq.2 hk
      rw [if_pos hk] at hR0
      have HQ := Lib.hid hR0
      have hi := hit hk
      have HC := Lib.hid (app_int t.it hi.1 hi.2 HS1.out.own HS1.out.base (HGB.out.trans HS1.out.below) (by omega))
      clear hR0 hit hk hkd hi
      go_wp2_with fail
      refine HC.out.mono ?_
      rintro e w2 ⟨v2, rfl, h2, h3, h4⟩
      have HS2 := Lib.hid (HS1.out.call h2 h3 h4)
      clear h2 h3 h4 HC t0 t1 t2 t3 t4 t5
      go_wp2_with fail
      go_ret
      rw [HQ.out]
      exact HS2.out.done
    · have d1 : (t.kd == 1) = false := beq_eq_false_iff_ne.2 (by omega)
      have d2 : (t.kd == 2) = true := beq_iff_eq.2 hk
      rw [if_neg (by omega), if_pos hk] at hR0
      have HQ := Lib.hid hR0
      have hql : (bs (quoted t.tx).1).length ≤ 1022 := by rw [bs_len]; exact quoted_size _
      have HC := Lib.hid (term_quoted t.tx (sm_tx HSM.out) HS1.out.own HS1.out.base (HGB.out.trans HS1.out.below) (by omega))
      clear hR0 hit hk hkd hql
      go_wp2_with fail
      refine HC.out.mono ?_
      rintro e w2 ⟨v2, rfl, h2, h3, h4⟩
      have HS2 := Lib.hid (HS1.out.call h2 h3 h4)
      clear h2 h3 h4 HC t0 t1 t2 t3 t4 t5
      go_wp2_with fail
      go_ret
      rw [HQ.out]
      exact HS2.out.done
    · have d1 : (t.kd == 1) = false := beq_eq_false_iff_ne.2 (by omega)
      have d2 : (t.kd == 2) = false := beq_eq_false_iff_ne.2 (by omega)
      have d3 : (t.kd == 3) = true := beq_iff_eq.2 hk
      rw [if_neg (by omega), if_neg (by omega), if_pos hk] at hR0
      have HQ := Lib.hid hR0
      have HN : Hid (t.nums.length ≤ 3) := Lib.hid (by have := shape_ref HOK.out hk; omega)
      have HL : Hid (l.length + 4 ≤ 140737488355328) := Lib.hid (by omega)
      clear hR0 hit hk hkd
      go_upto_region 10 with (at_builtin; refine print_append_str (w0 := w1) B rfl (.tmp 31) _ 49 9 5 rfl Tryz.underlying49 Tryz.underlying9 infoU8 v l ⟨#[35, 82, 101, 102]⟩ rfl rfl ?hO ?hB ?hbs ?hl ?_; (case hO => exact HS1.out.own); (case hB => exact Below.refl _ _); (case hbs => exact HS1.out.base); (case hl => exact HL.out); intro v3 w3 ho hb hg; have HS3 : Hid (WrS w w3 B t (.slice A4 t.nums.length c4) (.slice A5 t.args.length c5) (l ++ [35, 82, 101, 102]) v3) := Lib.hid (HS1.out.app ho hb hg); clear ho hb hg t0 t1 t2 t3 t4 t5; have t0 := HS3.out.tm.c0; have t1 := HS3.out.tm.c1; have t2 := HS3.out.tm.c2; have t3 := HS3.out.tm.c3; have t4 := HS3.out.tm.c4; have t5 := HS3.out.tm.c5)
      have HL1 : Hid (((l ++ [35, 82, 101, 102])).length + [(60 : Int)].length ≤ 140737488355328) := Lib.hid (by simp only [List.length_append, List.length_cons, List.length_nil]; omega)
      go_wp2_with (at_builtin; refine append_lit (w0 := w3) B rfl (.tmp 33) (.tmp 34) 49 5 rfl Tryz.underlying49 infoU8 v3 ((l ++ [35, 82, 101, 102])) [60] rfl ?hx ?hO ?hB ?hbs ?hl ?_; (case hx => first | rfl | (simp [Act.eval]; done)); (case hO => exact HS3.out.own); (case hB => exact Below.refl _ _); (case hbs => exact HS3.out.base); (case hl => exact HL1.out); intro v1 w5 ho hb hg; have HS5 := Lib.hid (HS3.out.app ho hb hg); have HK5 := Lib.hid ((Lib.OthersKept.refl tyU8 none w3).grown hg (own_kind HS3.out.own)); clear ho hb hg t0 t1 t2 t3 t4 t5; have t0 := HS5.out.tm.c0; have t1 := HS5.out.tm.c1; have t2 := HS5.out.tm.c2; have t3 := HS5.out.tm.c3; have t4 := HS5.out.tm.c4; have t5 := HS5.out.tm.c5)
      have hl6 : ((l ++ [35, 82, 101, 102]) ++ [60]).length + 1200 ≤ 140737488355328 := by simp only [List.length_append, List.length_cons, List.length_nil]; omega
      generalize hq6 : (l ++ [35, 82, 101, 102]) ++ [60] = l6 at HS5 hl6
      have HL6 := Lib.hid hq6
      clear hq6 HL1
      have HC := Lib.hid (term_quoted t.tx (sm_tx HSM.out) HS5.out.own HS5.out.base (HGB.out.trans HS5.out.below) (by omega))
      refine HC.out.mono ?_
      rintro e w6 ⟨v6, rfl, h2, h3, h4⟩
      have HS6 := Lib.hid (HS5.out.call h2 h3 h4)
      clear t0 t1 t2 t3 t4 t5
      clear h2 h3 h4 HC HS5
      have hl7 : (l6 ++ bs (quoted t.tx).1).length + 170 ≤ 140737488355328 := by have := quoted_size t.tx; rw [List.length_append, bs_len]; omega
      generalize hq7 : l6 ++ bs (quoted t.tx).1 = l7 at HS6 hl7
      have HL7 := Lib.hid hq7
      clear hq7
      have t0 := HS6.out.tm.c0
      have t1 := HS6.out.tm.c1
      have t2 := HS6.out.tm.c2
      have t3 := HS6.out.tm.c3
      have t4 := HS6.out.tm.c4
      have t5 := HS6.out.tm.c5
      obtain ⟨ns, hns⟩ : ∃ ns, ns = t.cr :: t.nums := ⟨_, rfl⟩
      have hu := wf_nums HWF.out
      rw [← hns] at hu
      have HNS := Lib.hid hns
      have HU := Lib.hid hu
      have hnl : ns.length = t.nums.length + 1 := by rw [hns, List.length_cons]
      have HNL := Lib.hid hnl
      have hn4 : t.nums.length ≤ 3 := HN.out
      clear hns hu hnl
      have hlt6 : w.heap.size < w6.heap.size := HS6.out.tm.lt
      have HBA := Lib.hid (below_alloc (Below.refl w6.heap.size w6) (.cells #[.int .u32 t.cr] tyU32))
      have HRD : Hid (ReadsInt (w6.alloc (.cells #[.int .u32 t.cr] tyU32)) .u32 A4 t.nums.length t.nums) := Lib.hid (Kd.reads_of_C (HR.out.below ((HB.out.trans (HS6.out.below.mono hB0)).trans (HBA.out.mono (Nat.le_trans hB0 HS6.out.base)))).g4)
      have HLZ : Hid (([t.cr].length + t.nums.length) * 4 ≤ 140737488355328) := Lib.hid (by have := HN.out; simp only [List.length_cons, List.length_nil]; omega)
      go_wp2_with (at_builtin; refine print_append_row (w0 := w6) w6.heap.size rfl (.tmp 42) (.tmp 44) 24 23 .u32 4 rfl Tryz.underlying24 infoU32 (by decide) (.slice (some ⟨w6.heap.size, 0, none⟩) 1 1) [t.cr] t.nums A4 t.nums.length c4 rfl rfl ?hO ?hR ?hB ?hbs ?hl ?_; (case hO => exact own_lit w6 w6.heap.size 23 .u32 [t.cr] (Nat.le_refl _) (by simp)); (case hR => exact HRD.out); (case hB => exact HBA.out); (case hbs => exact HBA.out.size); (case hl => exact HLZ.out); intro v8 w8 ho hb hg _; obtain ⟨g8, c8, rfl, hg8, hg9⟩ := ho.form (by simp); have HN8 : Hid (w8.ownsRow w6.heap.size tyU32 1 (.slice (some ⟨g8, 0, none⟩) (t.nums.length + 1) c8) (t.nums.length + 1) (nums .u32 ns)) := Lib.hid (by rw [HNS.out, show t.nums.length + 1 = ([t.cr] ++ t.nums).length by rw [List.length_append, List.length_singleton]; omega]; exact ho); have HS8 := Lib.hid (HS6.out.step hb); clear ho hb hg hg8 hg9)
      clear t0 t1 t2 t3 t4 t5
      clear HS6 HBA HRD HLZ
      go_loopg [0, 47] (t.nums.length + 1) (fun gk v0 vi wl => ∃ i : Nat, vi = .int .i64 (i : Int) ∧ gk = t.nums.length + 1 - i ∧ i ≤ t.nums.length + 1 ∧ Hid (WrS w wl B t (.slice A4 t.nums.length c4) (.slice A5 t.args.length c5) (l7 ++ numsTxt (ns.take i)) v0) ∧ Hid (wl.ownsRow w6.heap.size tyU32 1 (.slice (some ⟨g8, 0, none⟩) (t.nums.length + 1) c8) (t.nums.length + 1) (nums .u32 ns)))
      case atStart => exact ⟨0, rfl, rfl, Nat.zero_le _, by rw [show numsTxt (ns.take 0) = [] from rfl, List.append_nil]; exact HS8, HN8⟩
      case round =>
        clear HS8 HN8
        obtain ⟨i, rfl, hgk, hi, HSl, HNl⟩ := hrel
        have HK := Lib.hid hgk
        clear hgk
        have hli : (l7 ++ numsTxt (ns.take i)).length + 80 ≤ 140737488355328 := by
          have := numsTake_len ns HU.out i
          have := HNL.out
          rw [List.length_append]
          omega
        generalize hqi : l7 ++ numsTxt (ns.take i) = li at HSl hli
        have HLI := Lib.hid hqi
        clear hqi
        by_cases hlt0 : i < t.nums.length + 1
        · have hlt : i < ns.length := by rw [HNL.out]; exact hlt0
          have hc := (own_at HNl.out (i : Int) (by omega) (by omega)).1
          rw [Int.toNat_natCast, rd_get hlt] at hc
          have HSX := Lib.hid (numsTxt_snoc hlt)
          have hx := HU.out ns[i] (List.getElem_mem hlt)
          generalize ns[i] = x at hc HSX hx
          have x0 := hx.1
          have x1 := hx.2
          have y0 : (0 : Int) ≤ (i : Int) := by omega
          have y1 : (i : Int) < (t.nums.length : Int) + 1 := by omega
          have HL1 : Hid (li.length + [(46 : Int)].length ≤ 140737488355328) := Lib.hid (by simp only [List.length_cons, List.length_nil]; omega)
          clear hx hlt hlt0
          have t0 := HSl.out.tm.c0
          have t1 := HSl.out.tm.c1
          have t2 := HSl.out.tm.c2
          have t3 := HSl.out.tm.c3
          have t4 := HSl.out.tm.c4
          have t5 := HSl.out.tm.c5
          go_wp2_with (at_builtin; refine append_lit (w0 := wr) B rfl (.tmp 51) (.tmp 52) 49 5 rfl Tryz.underlying49 infoU8 u0 (li) [46] rfl ?hx ?hO ?hB ?hbs ?hl ?_; (case hx => first | rfl | (simp [Act.eval]; done)); (case hO => exact HSl.out.own); (case hB => exact Below.refl _ _); (case hbs => exact HSl.out.base); (case hl => exact HL1.out); intro v1 w5 ho hb hg; have HS5 := Lib.hid (HSl.out.app ho hb hg); have HK5 := Lib.hid ((Lib.OthersKept.refl tyU8 none wr).grown hg (own_kind HSl.out.own)); clear ho hb hg t0 t1 t2 t3 t4 t5; have t0 := HS5.out.tm.c0; have t1 := HS5.out.tm.c1; have t2 := HS5.out.tm.c2; have t3 := HS5.out.tm.c3; have t4 := HS5.out.tm.c4; have t5 := HS5.out.tm.c5)
          have hl5 : (li ++ [46]).length + 40 ≤ 140737488355328 := by rw [List.length_append]; simp only [List.length_cons, List.length_nil]; omega
          have HC := Lib.hid (app_uint x x0 x1 HS5.out.own HS5.out.base (HGB.out.trans HS5.out.below) (by omega))
          have HN5 := Lib.hid (own_others HNl.out (by decide) HK5.out)
          clear t0 t1 t2 t3 t4 t5
          clear hc
          refine HC.out.mono ?_
          rintro e w9 ⟨v9, rfl, h2, h3, h4⟩
          have HS9 := Lib.hid (HS5.out.call h2 h3 h4)
          have HN9 := Lib.hid (own_others HN5.out (by decide) h4)
          clear h2 h3 h4 HC
          go_wp2_with fail
          go_roundg (t.nums.length + 1 - (i + 1))
          case measure => rw [HK.out]; omega
          case rel => exact ⟨i + 1, by go_num, rfl, by omega, by rw [HSX.out, ← List.append_assoc, HLI.out, show li ++ 46 :: itoaI x = (li ++ [46]) ++ itoaI x by simp]; exact HS9, HN9⟩
        · have hie : ns.take i = ns := List.take_of_length_le (by rw [HNL.out]; omega)
          rw [hie] at HLI
          have d0 : decide ((i : Int) < (t.nums.length : Int) + 1) = false := decide_eq_false (by omega)
          have HL1 : Hid (li.length + [(62 : Int)].length ≤ 140737488355328) := Lib.hid (by simp only [List.length_cons, List.length_nil]; omega)
          clear hie hlt0
          have t0 := HSl.out.tm.c0
          have t1 := HSl.out.tm.c1
          have t2 := HSl.out.tm.c2
          have t3 := HSl.out.tm.c3
          have t4 := HSl.out.tm.c4
          have t5 := HSl.out.tm.c5
          go_wp2_with (at_builtin; refine append_lit (w0 := wr) B rfl (.tmp 59) (.tmp 60) 49 5 rfl Tryz.underlying49 infoU8 u0 (li) [62] rfl ?hx ?hO ?hB ?hbs ?hl ?_; (case hx => first | rfl | (simp [Act.eval]; done)); (case hO => exact HSl.out.own); (case hB => exact Below.refl _ _); (case hbs => exact HSl.out.base); (case hl => exact HL1.out); intro v1 w5 ho hb hg; have HS5 := Lib.hid (HSl.out.app ho hb hg); have HK5 := Lib.hid ((Lib.OthersKept.refl tyU8 none wr).grown hg (own_kind HSl.out.own)); clear ho hb hg t0 t1 t2 t3 t4 t5; have t0 := HS5.out.tm.c0; have t1 := HS5.out.tm.c1; have t2 := HS5.out.tm.c2; have t3 := HS5.out.tm.c3; have t4 := HS5.out.tm.c4; have t5 := HS5.out.tm.c5)
          go_ret
          have he : (l ++ [35, 82, 101, 102]) ++ farTxt t.tx (t.cr :: t.nums) = li ++ [62] := by
            rw [← HLI.out, ← HL7.out, ← HL6.out, HNS.out]
            unfold farTxt numsTxt
            simp
          have hl0 : l ++ R = (l ++ [35, 82, 101, 102]) ++ farTxt t.tx (t.cr :: t.nums) := by simp only [HQ.out, List.append_assoc, List.cons_append, List.nil_append]
          rw [hl0, he]
          exact HS5.out.done
    · have d1 : (t.kd == 1) = false := beq_eq_false_iff_ne.2 (by omega)
      have d2 : (t.kd == 2) = false := beq_eq_false_iff_ne.2 (by omega)
      have d3 : (t.kd == 3) = false := beq_eq_false_iff_ne.2 (by omega)
      have d4 : (t.kd == 4) = true := beq_iff_eq.2 hk
      rw [if_neg (by omega), if_neg (by omega), if_neg (by omega), if_pos hk] at hR0
      have HQ := Lib.hid hR0
      have HN : Hid (t.nums.length ≤ 3) := Lib.hid (by have := shape_pid HOK.out hk; omega)
      clear hR0 hit hk hkd
      have HL1 : Hid ((l).length + [(60 : Int)].length ≤ 140737488355328) := Lib.hid (by simp only [List.length_append, List.length_cons, List.length_nil]; omega)
      go_wp2_with (at_builtin; refine append_lit (w0 := w1) B rfl (.tmp 33) (.tmp 34) 49 5 rfl Tryz.underlying49 infoU8 v (l) [60] rfl ?hx ?hO ?hB ?hbs ?hl ?_; (case hx => first | rfl | (simp [Act.eval]; done)); (case hO => exact HS1.out.own); (case hB => exact Below.refl _ _); (case hbs => exact HS1.out.base); (case hl => exact HL1.out); intro v1 w5 ho hb hg; have HS5 := Lib.hid (HS1.out.app ho hb hg); have HK5 := Lib.hid ((Lib.OthersKept.refl tyU8 none w1).grown hg (own_kind HS1.out.own)); clear ho hb hg t0 t1 t2 t3 t4 t5; have t0 := HS5.out.tm.c0; have t1 := HS5.out.tm.c1; have t2 := HS5.out.tm.c2; have t3 := HS5.out.tm.c3; have t4 := HS5.out.tm.c4; have t5 := HS5.out.tm.c5)
      have hl6 : (l ++ [60]).length + 1200 ≤ 140737488355328 := by simp only [List.length_append, List.length_cons, List.length_nil]; omega
      generalize hq6 : l ++ [60] = l6 at HS5 hl6
      have HL6 := Lib.hid hq6
      clear hq6 HL1
      have HC := Lib.hid (term_quoted t.tx (sm_tx HSM.out) HS5.out.own HS5.out.base (HGB.out.trans HS5.out.below) (by omega))
      refine HC.out.mono ?_
      rintro e w6 ⟨v6, rfl, h2, h3, h4⟩
      have HS6 := Lib.hid (HS5.out.call h2 h3 h4)
      clear t0 t1 t2 t3 t4 t5
      clear h2 h3 h4 HC HS5
      have hl7 : (l6 ++ bs (quoted t.tx).1).length + 170 ≤ 140737488355328 := by have := quoted_size t.tx; rw [List.length_append, bs_len]; omega
      generalize hq7 : l6 ++ bs (quoted t.tx).1 = l7 at HS6 hl7
      have HL7 := Lib.hid hq7
      clear hq7
      have t0 := HS6.out.tm.c0
      have t1 := HS6.out.tm.c1
      have t2 := HS6.out.tm.c2
      have t3 := HS6.out.tm.c3
      have t4 := HS6.out.tm.c4
      have t5 := HS6.out.tm.c5
      obtain ⟨ns, hns⟩ : ∃ ns, ns = t.cr :: t.nums := ⟨_, rfl⟩
      have hu := wf_nums HWF.out
      rw [← hns] at hu
      have HNS := Lib.hid hns
      have HU := Lib.hid hu
      have hnl : ns.length = t.nums.length + 1 := by rw [hns, List.length_cons]
      have HNL := Lib.hid hnl
      have hn4 : t.nums.length ≤ 3 := HN.out
      clear hns hu hnl
      have hlt6 : w.heap.size < w6.heap.size := HS6.out.tm.lt
      have HBA := Lib.hid (below_alloc (Below.refl w6.heap.size w6) (.cells #[.int .u32 t.cr] tyU32))
      have HRD : Hid (ReadsInt (w6.alloc (.cells #[.int .u32 t.cr] tyU32)) .u32 A4 t.nums.length t.nums) := Lib.hid (Kd.reads_of_C (HR.out.below ((HB.out.trans (HS6.out.below.mono hB0)).trans (HBA.out.mono (Nat.le_trans hB0 HS6.out.base)))).g4)
      have HLZ : Hid (([t.cr].length + t.nums.length) * 4 ≤ 140737488355328) := Lib.hid (by have := HN.out; simp only [List.length_cons, List.length_nil]; omega)
      go_wp2_with (at_builtin; refine print_append_row (w0 := w6) w6.heap.size rfl (.tmp 42) (.tmp 44) 24 23 .u32 4 rfl Tryz.underlying24 infoU32 (by decide) (.slice (some ⟨w6.heap.size, 0, none⟩) 1 1) [t.cr] t.nums A4 t.nums.length c4 rfl rfl ?hO ?hR ?hB ?hbs ?hl ?_; (case hO => exact own_lit w6 w6.heap.size 23 .u32 [t.cr] (Nat.le_refl _) (by simp)); (case hR => exact HRD.out); (case hB => exact HBA.out); (case hbs => exact HBA.out.size); (case hl => exact HLZ.out); intro v8 w8 ho hb hg _; obtain ⟨g8, c8, rfl, hg8, hg9⟩ := ho.form (by simp); have HN8 : Hid (w8.ownsRow w6.heap.size tyU32 1 (.slice (some ⟨g8, 0, none⟩) (t.nums.length + 1) c8) (t.nums.length + 1) (nums .u32 ns)) := Lib.hid (by rw [HNS.out, show t.nums.length + 1 = ([t.cr] ++ t.nums).length by rw [List.length_append, List.length_singleton]; omega]; exact ho); have HS8 := Lib.hid (HS6.out.step hb); clear ho hb hg hg8 hg9)
      clear t0 t1 t2 t3 t4 t5
      clear HS6 HBA HRD HLZ
      go_loopg [0, 47] (t.nums.length + 1) (fun gk v0 vi wl => ∃ i : Nat, vi = .int .i64 (i : Int) ∧ gk = t.nums.length + 1 - i ∧ i ≤ t.nums.length + 1 ∧ Hid (WrS w wl B t (.slice A4 t.nums.length c4) (.slice A5 t.args.length c5) (l7 ++ numsTxt (ns.take i)) v0) ∧ Hid (wl.ownsRow w6.heap.size tyU32 1 (.slice (some ⟨g8, 0, none⟩) (t.nums.length + 1) c8) (t.nums.length + 1) (nums .u32 ns)))
      case atStart => exact ⟨0, rfl, rfl, Nat.zero_le _, by rw [show numsTxt (ns.take 0) = [] from rfl, List.append_nil]; exact HS8, HN8⟩
      case round =>
        clear HS8 HN8
        obtain ⟨i, rfl, hgk, hi, HSl, HNl⟩ := hrel
        have HK := Lib.hid hgk
        clear hgk
        have hli : (l7 ++ numsTxt (ns.take i)).length + 80 ≤ 140737488355328 := by
          have := numsTake_len ns HU.out i
          have := HNL.out
          rw [List.length_append]
          omega
        generalize hqi : l7 ++ numsTxt (ns.take i) = li at HSl hli
        have HLI := Lib.hid hqi
        clear hqi
        by_cases hlt0 : i < t.nums.length + 1
        · have hlt : i < ns.length := by rw [HNL.out]; exact hlt0
          have hc := (own_at HNl.out (i : Int) (by omega) (by omega)).1
          rw [Int.toNat_natCast, rd_get hlt] at hc
          have HSX := Lib.hid (numsTxt_snoc hlt)
          have hx := HU.out ns[i] (List.getElem_mem hlt)
          generalize ns[i] = x at hc HSX hx
          have x0 := hx.1
          have x1 := hx.2
          have y0 : (0 : Int) ≤ (i : Int) := by omega
          have y1 : (i : Int) < (t.nums.length : Int) + 1 := by omega
          have HL1 : Hid (li.length + [(46 : Int)].length ≤ 140737488355328) := Lib.hid (by simp only [List.length_cons, List.length_nil]; omega)
          clear hx hlt hlt0
          have t0 := HSl.out.tm.c0
          have t1 := HSl.out.tm.c1
          have t2 := HSl.out.tm.c2
          have t3 := HSl.out.tm.c3
          have t4 := HSl.out.tm.c4
          have t5 := HSl.out.tm.c5
          go_wp2_with (at_builtin; refine append_lit (w0 := wr) B rfl (.tmp 51) (.tmp 52) 49 5 rfl Tryz.underlying49 infoU8 u0 (li) [46] rfl ?hx ?hO ?hB ?hbs ?hl ?_; (case hx => first | rfl | (simp [Act.eval]; done)); (case hO => exact HSl.out.own); (case hB => exact Below.refl _ _); (case hbs => exact HSl.out.base); (case hl => exact HL1.out); intro v1 w5 ho hb hg; have HS5 := Lib.hid (HSl.out.app ho hb hg); have HK5 := Lib.hid ((Lib.OthersKept.refl tyU8 none wr).grown hg (own_kind HSl.out.own)); clear ho hb hg t0 t1 t2 t3 t4 t5; have t0 := HS5.out.tm.c0; have t1 := HS5.out.tm.c1; have t2 := HS5.out.tm.c2; have t3 := HS5.out.tm.c3; have t4 := HS5.out.tm.c4; have t5 := HS5.out.tm.c5)
          have hl5 : (li ++ [46]).length + 40 ≤ 140737488355328 := by rw [List.length_append]; simp only [List.length_cons, List.length_nil]; omega
          have HC := Lib.hid (app_uint x x0 x1 HS5.out.own HS5.out.base (HGB.out.trans HS5.out.below) (by omega))
          have HN5 := Lib.hid (own_others HNl.out (by decide) HK5.out)
          clear t0 t1 t2 t3 t4 t5
          clear hc
          refine HC.out.mono ?_
          rintro e w9 ⟨v9, rfl, h2, h3, h4⟩
          have HS9 := Lib.hid (HS5.out.call h2 h3 h4)
          have HN9 := Lib.hid (own_others HN5.out (by decide) h4)
          clear h2 h3 h4 HC
          go_wp2_with fail
          go_roundg (t.nums.length + 1 - (i + 1))
          case measure => rw [HK.out]; omega
          case rel => exact ⟨i + 1, by go_num, rfl, by omega, by rw [HSX.out, ← List.append_assoc, HLI.out, show li ++ 46 :: itoaI x = (li ++ [46]) ++ itoaI x by simp]; exact HS9, HN9⟩
        · have hie : ns.take i = ns := List.take_of_length_le (by rw [HNL.out]; omega)
          rw [hie] at HLI
          have d0 : decide ((i : Int) < (t.nums.length : Int) + 1) = false := decide_eq_false (by omega)
          have HL1 : Hid (li.length + [(62 : Int)].length ≤ 140737488355328) := Lib.hid (by simp only [List.length_cons, List.length_nil]; omega)
          clear hie hlt0
          have t0 := HSl.out.tm.c0
          have t1 := HSl.out.tm.c1
          have t2 := HSl.out.tm.c2
          have t3 := HSl.out.tm.c3
          have t4 := HSl.out.tm.c4
          have t5 := HSl.out.tm.c5
          go_wp2_with (at_builtin; refine append_lit (w0 := wr) B rfl (.tmp 59) (.tmp 60) 49 5 rfl Tryz.underlying49 infoU8 u0 (li) [62] rfl ?hx ?hO ?hB ?hbs ?hl ?_; (case hx => first | rfl | (simp [Act.eval]; done)); (case hO => exact HSl.out.own); (case hB => exact Below.refl _ _); (case hbs => exact HSl.out.base); (case hl => exact HL1.out); intro v1 w5 ho hb hg; have HS5 := Lib.hid (HSl.out.app ho hb hg); have HK5 := Lib.hid ((Lib.OthersKept.refl tyU8 none wr).grown hg (own_kind HSl.out.own)); clear ho hb hg t0 t1 t2 t3 t4 t5; have t0 := HS5.out.tm.c0; have t1 := HS5.out.tm.c1; have t2 := HS5.out.tm.c2; have t3 := HS5.out.tm.c3; have t4 := HS5.out.tm.c4; have t5 := HS5.out.tm.c5)
          go_ret
          have he : l ++ farTxt t.tx (t.cr :: t.nums) = li ++ [62] := by
            rw [← HLI.out, ← HL7.out, ← HL6.out, HNS.out]
            unfold farTxt numsTxt
            simp
          have hl0 : l ++ R = l ++ farTxt t.tx (t.cr :: t.nums) := by simp only [HQ.out, List.append_assoc, List.cons_append, List.nil_append]
          rw [hl0, he]
          exact HS5.out.done
    · have d1 : (t.kd == 1) = false := beq_eq_false_iff_ne.2 (by omega)
      have d2 : (t.kd == 2) = false := beq_eq_false_iff_ne.2 (by omega)
      have d3 : (t.kd == 3) = false := beq_eq_false_iff_ne.2 (by omega)
      have d4 : (t.kd == 4) = false := beq_eq_false_iff_ne.2 (by omega)
      have d6 : (t.kd == 6) = false := beq_eq_false_iff_ne.2 (by omega)
      have d7 : (t.kd == 7) = false := beq_eq_false_iff_ne.2 (by omega)
      rw [if_neg (by omega), if_neg (by omega), if_neg (by omega), if_neg (by omega), if_pos hk] at hR0
      have HQ := Lib.hid hR0
      clear hR0 hit hk hkd
      go_wp2_with fail
      go_quiet (fail)
      have HS2 := Lib.hid (HS1.out.step (drewN_below w1 nq))
      clear t0 t1 t2 t3 t4 t5
      generalize w1.drewN nq = w2 at HS2 ⊢
      have t0 := HS2.out.tm.c0
      have t1 := HS2.out.tm.c1
      have t2 := HS2.out.tm.c2
      have t3 := HS2.out.tm.c3
      have t4 := HS2.out.tm.c4
      have t5 := HS2.out.tm.c5
      have HL1 : Hid (l.length + [(123 : Int)].length ≤ 140737488355328) := Lib.hid (by simp only [List.length_cons, List.length_nil]; omega)
      go_wp2_with (at_builtin; refine append_lit (w0 := w2) B rfl (.tmp 76) (.tmp 79) 49 5 rfl Tryz.underlying49 infoU8 v (l) [123] rfl ?hx ?hO ?hB ?hbs ?hl ?_; (case hx => first | rfl | (simp [Act.eval]; done)); (case hO => exact HS2.out.own); (case hB => exact Below.refl _ _); (case hbs => exact HS2.out.base); (case hl => exact HL1.out); intro v1 w5 ho hb hg; have HS5 := Lib.hid (HS2.out.app ho hb hg); have HK5 := Lib.hid ((Lib.OthersKept.refl tyU8 none w2).grown hg (own_kind HS2.out.own)); clear ho hb hg t0 t1 t2 t3 t4 t5; have t0 := HS5.out.tm.c0; have t1 := HS5.out.tm.c1; have t2 := HS5.out.tm.c2; have t3 := HS5.out.tm.c3; have t4 := HS5.out.tm.c4; have t5 := HS5.out.tm.c5)
      have HNN : Hid (t.args.length = t.args.length) := Lib.hid rfl
      have HRL : Hid (l.length + 1 + (sepBy [44] ((t.args.take t.args.length).map (txtT []))).length + 1300 ≤ 140737488355328) := Lib.hid (by
        have := HQ.out
        rw [List.take_length]
        rw [this] at hlen
        simp only [List.nil_append, List.length_cons, List.length_append, List.length_nil] at hlen
        omega)
      clear HK5
      clear t0 t1 t2 t3 t4 t5
      have yN : t.args.length ≤ 9223372036854775807 := by have := HR.out.g5.2.1; have := HNN.out; omega
      go_loopg [0, 83] (t.args.length) (fun gk v0 vi wl => ∃ k : Nat, vi = .int .i64 (k : Int) ∧ gk = t.args.length - k ∧ k ≤ t.args.length ∧ Hid (WrS w wl B t (.slice A4 t.nums.length c4) (.slice A5 t.args.length c5) (wrCur l 123 t.args k) v0))
      case atStart => exact ⟨0, rfl, rfl, Nat.zero_le _, HS5⟩
      case round =>
        clear HS5
        obtain ⟨k, rfl, hgk, hk, HSl⟩ := hrel
        have HK := Lib.hid hgk
        clear hgk
        by_cases hlt : k < t.args.length
        · have HBWl : Hid (Below w0.heap.size w0 wr) := Lib.hid (HB.out.trans (HSl.out.below.mono hB0))
          obtain ⟨ad, A4', c4', A5', c5', hA, q0, q1, q2, q3, q4, q5, hTR⟩ := atTm HR.out.g5 (k : Int) (by omega) (by have := HNN.out; omega)
          cases hA
          simp only [Int.toNat_natCast] at q0 q1 q2 q3 q4 q5
          replace q0 := (HBWl.out.cell (World.block_lt_of_cell? w0 _ q0)).trans q0
          replace q1 := (HBWl.out.cell (World.block_lt_of_cell? w0 _ q1)).trans q1
          replace q2 := (HBWl.out.cell (World.block_lt_of_cell? w0 _ q2)).trans q2
          replace q3 := (HBWl.out.cell (World.block_lt_of_cell? w0 _ q3)).trans q3
          replace q4 := (HBWl.out.cell (World.block_lt_of_cell? w0 _ q4)).trans q4
          replace q5 := (HBWl.out.cell (World.block_lt_of_cell? w0 _ q5)).trans q5
          have hlt2 : k < t.args.length := by have := HNN.out; omega
          obtain ⟨hge, hmem⟩ := rdTm_mem hlt2
          have hnx := wrCur_succ (l := l) (o := 123) hlt2
          have hpl := wrPre_len (l := l) (o := 123) (ts := t.args) (n := t.args.length) hlt (by have := HNN.out; omega)
          rw [← hge] at hnx hpl
          generalize rdTm t.args (k : Int) = a at q0 q1 q2 q3 q4 q5 hTR hmem hnx hpl
          have HNX := Lib.hid hnx
          have HPL : Hid ((wrPre l 123 t.args k).length + (txtT [] a).length + 1300 ≤ 140737488355328) := Lib.hid (by have := HRL.out; omega)
          have HTR := Lib.hid hTR
          have HMEM := Lib.hid hmem
          have y0 : (0 : Int) ≤ (k : Int) := by omega
          have y1 : (k : Int) < (t.args.length : Int) := by omega
          clear hTR hmem hge hnx hpl hlt2
          go_upto_region 27 with (fail)
          have hbx := heap_alloc_new wr (.cells #[.int .i64 a.kd, .int .i64 a.it, .string a.tx, .int .u32 a.cr, .slice A4' a.nums.length c4', .slice A5' a.args.length c5'] 27)
          have HS3 := Lib.hid (HSl.out.step (below_alloc (Below.refl wr.heap.size wr) (.cells #[.int .i64 a.kd, .int .i64 a.it, .string a.tx, .int .u32 a.cr, .slice A4' a.nums.length c4', .slice A5' a.args.length c5'] 27)))
          generalize wr.alloc (.cells #[.int .i64 a.kd, .int .i64 a.it, .string a.tx, .int .u32 a.cr, .slice A4' a.nums.length c4', .slice A5' a.args.length c5'] 27) = w3 at hbx HS3 ⊢
          have HBX := Lib.hid hbx
          clear hbx q0 q1 q2 q3 q4 q5 HSl HBWl
          by_cases h0 : k = 0
          · have d0 : decide ((k : Int) > 0) = false := decide_eq_false (by omega)
            have d9 : decide (0 < k) = false := decide_eq_false (by omega)
            have HPE : Hid (wrPre l 123 t.args k = wrCur l 123 t.args k) := Lib.hid (by rw [h0]; exact wrPre_zero _ _ _)
            have HPL2 := HPL
            rw [HPE.out] at HPL2
            have HNX2 := HNX
            rw [HPE.out] at HNX2
            clear h0
            obtain ⟨q0, q1, q2, q3, q4, q5, _, _, _, _, _, _⟩ := tmAt_of_box HBX.out
            go_wp2_with fail
            refine (HIH.out a HMEM.out A4' A5' c4' c5' (wrCur l 123 t.args k) u0 _ HTR.out (HB.out.trans (HS3.out.below.mono hB0)) HS3.out.own HS3.out.base (HML.out a HMEM.out) (smL_mem (sm_args HSM.out) HMEM.out) (wfL_mem (wf_args HWF.out) HMEM.out) HPL2.out).mono ?_
            rintro e w9 ⟨v9, rfl, h2, h3, h4⟩
            have HS9 := Lib.hid (HS3.out.call h2 h3 h4)
            rw [← HNX2.out] at HS9
            clear h2 h3 h4 q0 q1 q2 q3 q4 q5
            go_wp2_with fail
            go_roundg (t.args.length - (k + 1))
            case measure => rw [HK.out]; omega
            case rel => exact ⟨k + 1, by go_num, rfl, by omega, HS9⟩
          · have d0 : decide ((k : Int) > 0) = true := decide_eq_true (by omega)
            have d9 : decide (0 < k) = true := decide_eq_true (by omega)
            have hpe := wrPre_pos (l := l) (o := 123) (ts := t.args) (k := k) (by omega) (by have := HNN.out; omega)
            have HL1 : Hid ((wrCur l 123 t.args k).length + [(44 : Int)].length ≤ 140737488355328) := Lib.hid (by have := HPL.out; rw [hpe, List.length_append] at this; omega)
            have HPE := Lib.hid hpe
            clear hpe h0
            go_wp2_with (at_builtin; refine append_lit (w0 := w3) B rfl (.tmp 90) (.tmp 91) 49 5 rfl Tryz.underlying49 infoU8 u0 (wrCur l 123 t.args k) [44] rfl ?hx ?hO ?hB ?hbs ?hl ?_; (case hx => first | rfl | (simp [Act.eval]; done)); (case hO => exact HS3.out.own); (case hB => exact Below.refl _ _); (case hbs => exact HS3.out.base); (case hl => exact HL1.out); intro v1 w5 ho hb hg; have HS5 := Lib.hid (HS3.out.app ho hb hg); have hb5 := WrS.tmBox HBX.out HS3.out.own hg; clear ho hb hg; obtain ⟨q0, q1, q2, q3, q4, q5, _, _, _, _, _, _⟩ := tmAt_of_box hb5; clear hb5)
            rw [← HPE.out] at HS5
            refine (HIH.out a HMEM.out A4' A5' c4' c5' (wrPre l 123 t.args k) v1 _ HTR.out (HB.out.trans (HS5.out.below.mono hB0)) HS5.out.own HS5.out.base (HML.out a HMEM.out) (smL_mem (sm_args HSM.out) HMEM.out) (wfL_mem (wf_args HWF.out) HMEM.out) HPL.out).mono ?_
            rintro e w9 ⟨v9, rfl, h2, h3, h4⟩
            have HS9 := Lib.hid (HS5.out.call h2 h3 h4)
            rw [← HNX.out] at HS9
            clear h2 h3 h4 q0 q1 q2 q3 q4 q5
            go_wp2_with fail
            go_roundg (t.args.length - (k + 1))
            case measure => rw [HK.out]; omega
            case rel => exact ⟨k + 1, by go_num, rfl, by omega, HS9⟩
        · obtain rfl : t.args.length = k := by omega
          have d0 : decide ((t.args.length : Int) < (t.args.length : Int)) = false := decide_eq_false (by omega)
          have t0 := HSl.out.tm.c0
          have t1 := HSl.out.tm.c1
          have t2 := HSl.out.tm.c2
          have t3 := HSl.out.tm.c3
          have t4 := HSl.out.tm.c4
          have t5 := HSl.out.tm.c5
          have HL1 : Hid ((wrCur l 123 t.args t.args.length).length + [(125 : Int)].length ≤ 140737488355328) := Lib.hid (by
            have := HRL.out
            unfold wrCur
            simp only [List.length_append, List.length_cons, List.length_nil]
            omega)
          go_wp2_with (at_builtin; refine append_lit (w0 := wr) B rfl (.tmp 125) (.tmp 128) 49 5 rfl Tryz.underlying49 infoU8 u0 (wrCur l 123 t.args t.args.length) [125] rfl ?hx ?hO ?hB ?hbs ?hl ?_; (case hx => first | rfl | (simp [Act.eval]; done)); (case hO => exact HSl.out.own); (case hB => exact Below.refl _ _); (case hbs => exact HSl.out.base); (case hl => exact HL1.out); intro v1 w5 ho hb hg; have HS5 := Lib.hid (HSl.out.app ho hb hg); have HK5 := Lib.hid ((Lib.OthersKept.refl tyU8 none wr).grown hg (own_kind HSl.out.own)); clear ho hb hg t0 t1 t2 t3 t4 t5; have t0 := HS5.out.tm.c0; have t1 := HS5.out.tm.c1; have t2 := HS5.out.tm.c2; have t3 := HS5.out.tm.c3; have t4 := HS5.out.tm.c4; have t5 := HS5.out.tm.c5)
          go_ret
          have he : l ++ R = wrCur l 123 t.args t.args.length ++ [125] := by
            rw [HQ.out]
            unfold wrCur
            rw [List.take_length]
            simp
          rw [he]
          exact HS5.out.done
    · have d1 : (t.kd == 1) = false := beq_eq_false_iff_ne.2 (by omega)
      have d2 : (t.kd == 2) = false := beq_eq_false_iff_ne.2 (by omega)
      have d3 : (t.kd == 3) = false := beq_eq_false_iff_ne.2 (by omega)
      have d4 : (t.kd == 4) = false := beq_eq_false_iff_ne.2 (by omega)
      have d6 : (t.kd == 6) = true := beq_iff_eq.2 hk
      rw [if_neg (by omega), if_neg (by omega), if_neg (by omega), if_neg (by omega), if_neg (by omega), if_pos hk] at hR0
      have HQ : Hid (R = bytesOf ⟨#[91, 93]⟩) := Lib.hid hR0
      have HL : Hid (l.length + 2 ≤ 140737488355328) := Lib.hid (by omega)
      clear hR0 hit hk hkd
      go_wp2_with (at_builtin; refine print_append_str (w0 := w1) B rfl (.tmp 62) _ 49 9 5 rfl Tryz.underlying49 Tryz.underlying9 infoU8 v l ⟨#[91, 93]⟩ rfl rfl ?hO ?hB ?hbs ?hl ?_; (case hO => exact HS1.out.own); (case hB => exact Below.refl _ _); (case hbs => exact HS1.out.base); (case hl => exact HL.out); intro v1 w5 ho hb hg; have HS5 := Lib.hid (HS1.out.app ho hb hg); clear ho hb hg)
      go_ret
      rw [HQ.out]
      exact HS5.out.done
    · have d1 : (t.kd == 1) = false := beq_eq_false_iff_ne.2 (by omega)
      have d2 : (t.kd == 2) = false := beq_eq_false_iff_ne.2 (by omega)
      have d3 : (t.kd == 3) = false := beq_eq_false_iff_ne.2 (by omega)
      have d4 : (t.kd == 4) = false := beq_eq_false_iff_ne.2 (by omega)
      have d6 : (t.kd == 6) = false := beq_eq_false_iff_ne.2 (by omega)
      have d7 : (t.kd == 7) = true := beq_iff_eq.2 hk
      rw [if_neg (by omega), if_neg (by omega), if_neg (by omega), if_neg (by omega), if_neg (by omega), if_neg (by omega)] at hR0
      have HQ := Lib.hid hR0
      have hs2 := (shape_list HOK.out hk).1
      clear hR0 hit hk hkd
      have hc5 := HR.out.l5
      obtain ⟨n, hn⟩ : ∃ n, t.args.length = n + 1 := ⟨t.args.length - 1, by omega⟩
      rw [hn] at hc5
      obtain ⟨ad5, rfl⟩ : ∃ ad, A5 = some ad := by obtain ⟨ad, e, _⟩ := HR.out.g5.2.2 (by omega); exact ⟨ad, e⟩
      simp only [hn] at HS1 t5 ⊢
      have HNN := Lib.hid hn
      have HS2 := Lib.hid hs2
      clear hn hs2
      go_wp2_with fail
      go_quiet (fail)
      replace HS1 := Lib.hid (HS1.out.step (drewN_below w1 nq))
      clear t0 t1 t2 t3 t4 t5
      generalize w1.drewN nq = w2 at HS1 ⊢
      have t0 := HS1.out.tm.c0
      have t1 := HS1.out.tm.c1
      have t2 := HS1.out.tm.c2
      have t3 := HS1.out.tm.c3
      have t4 := HS1.out.tm.c4
      have t5 := HS1.out.tm.c5
      have y0 : (0 : Int) ≤ (n : Int) := by omega
      have y1 : (n : Int) ≤ (c5 : Int) := by omega
      have y3 : (n : Int) ≤ 9223372036854775807 := by have := HR.out.g5.2.1; have := HNN.out; omega
      have y2 : wrap64 (n : Int) = (n : Int) := by unfold wrap64; omega
      go_wp2_with fail
      go_quiet (fail)
      replace HS1 := Lib.hid (HS1.out.step (drewN_below w2 nq))
      clear t0 t1 t2 t3 t4 t5
      clear y2
      generalize w2.drewN nq = w3 at HS1 ⊢
      have t0 := HS1.out.tm.c0
      have t1 := HS1.out.tm.c1
      have t2 := HS1.out.tm.c2
      have t3 := HS1.out.tm.c3
      have t4 := HS1.out.tm.c4
      have t5 := HS1.out.tm.c5
      have hae : t.args.map (txtT []) = (t.args.take n).map (txtT []) ++ [txtT [] (rdTm t.args (n : Int))] := by
        have h1 : n < t.args.length := by have := HNN.out; omega
        rw [(rdTm_mem h1).1]
        conv => lhs; rw [show t.args = t.args.take n ++ [t.args[n]] by
          have h2 := List.take_append_drop n t.args
          rw [List.drop_eq_getElem_cons h1, List.drop_eq_nil_of_le (by have := HNN.out; omega)] at h2
          exact h2.symm]
        rw [List.map_append]
        rfl
      have hlk : lastKd t = (rdTm t.args (n : Int)).kd := by
        unfold lastKd
        rw [HNN.out]
        congr 2
        omega
      have hR2 := HQ.out
      rw [hae, List.dropLast_concat, List.getLastD_concat, hlk] at hR2
      simp only [List.nil_append] at hR2
      obtain ⟨ad, A4', c4', A5', c5', hA, q0, q1, q2, q3, q4, q5, hTR⟩ := atTm HR.out.g5 (n : Int) (by omega) (by have := HNN.out; omega)
      cases hA
      simp only [Int.toNat_natCast] at q0 q1 q2 q3 q4 q5
      have hmem := (rdTm_mem (l := t.args) (k := n) (by have := HNN.out; omega)).2
      generalize rdTm t.args (n : Int) = z at q0 q1 q2 q3 q4 q5 hTR hmem hR2
      have HZ := Lib.hid (And.intro q0 (And.intro q1 (And.intro q2 (And.intro q3 (And.intro q4 q5)))))
      have HTZ := Lib.hid hTR
      have HMZ := Lib.hid hmem
      have HRL : Hid (l.length + 1 + (sepBy [44] ((t.args.take n).map (txtT []))).length + 1300 ≤ 140737488355328) := Lib.hid (by
        rw [hR2] at hlen
        simp only [List.length_cons, List.length_append, List.length_nil] at hlen
        omega)
      have HRZ : Hid (z.kd ≠ 6 → (wrCur l 91 t.args n ++ [124]).length + (txtT [] z).length + 1300 ≤ 140737488355328) := Lib.hid (fun hz => by
        rw [hR2, if_neg hz] at hlen
        unfold wrCur
        simp only [List.length_cons, List.length_append, List.length_nil] at hlen ⊢
        omega)
      have HR2 := Lib.hid hR2
      clear hae hlk hR2 hTR hmem q0 q1 q2 q3 q4 q5 HQ hlen
      have HL1 : Hid (l.length + [(91 : Int)].length ≤ 140737488355328) := Lib.hid (by have := HRL.out; simp only [List.length_cons, List.length_nil]; omega)
      go_wp2_with (at_builtin; refine append_lit (w0 := w3) B rfl (.tmp 76) (.tmp 79) 49 5 rfl Tryz.underlying49 infoU8 v (l) [91] rfl ?hx ?hO ?hB ?hbs ?hl ?_; (case hx => first | rfl | (simp [Act.eval]; done)); (case hO => exact HS1.out.own); (case hB => exact Below.refl _ _); (case hbs => exact HS1.out.base); (case hl => exact HL1.out); intro v1 w5 ho hb hg; have HS5 := Lib.hid (HS1.out.app ho hb hg); have HK5 := Lib.hid ((Lib.OthersKept.refl tyU8 none w3).grown hg (own_kind HS1.out.own)); clear ho hb hg t0 t1 t2 t3 t4 t5; have t0 := HS5.out.tm.c0; have t1 := HS5.out.tm.c1; have t2 := HS5.out.tm.c2; have t3 := HS5.out.tm.c3; have t4 := HS5.out.tm.c4; have t5 := HS5.out.tm.c5)
      clear HK5
      clear t0 t1 t2 t3 t4 t5
      have yN : n ≤ 9223372036854775807 := by have := HR.out.g5.2.1; have := HNN.out; omega
      go_loopg [0, 83] (n) (fun gk v0 vi wl => ∃ k : Nat, vi = .int .i64 (k : Int) ∧ gk = n - k ∧ k ≤ n ∧ Hid (WrS w wl B t (.slice A4 t.nums.length c4) (.slice (some ad5) (n + 1) c5) (wrCur l 91 t.args k) v0))
      case atStart => exact ⟨0, rfl, rfl, Nat.zero_le _, HS5⟩
      case round =>
        clear HS5
        obtain ⟨k, rfl, hgk, hk, HSl⟩ := hrel
        have HK := Lib.hid hgk
        clear hgk
        by_cases hlt : k < n
        · have HBWl : Hid (Below w0.heap.size w0 wr) := Lib.hid (HB.out.trans (HSl.out.below.mono hB0))
          obtain ⟨ad, A4', c4', A5', c5', hA, q0, q1, q2, q3, q4, q5, hTR⟩ := atTm HR.out.g5 (k : Int) (by omega) (by have := HNN.out; omega)
          cases hA
          simp only [Int.toNat_natCast] at q0 q1 q2 q3 q4 q5
          replace q0 := (HBWl.out.cell (World.block_lt_of_cell? w0 _ q0)).trans q0
          replace q1 := (HBWl.out.cell (World.block_lt_of_cell? w0 _ q1)).trans q1
          replace q2 := (HBWl.out.cell (World.block_lt_of_cell? w0 _ q2)).trans q2
          replace q3 := (HBWl.out.cell (World.block_lt_of_cell? w0 _ q3)).trans q3
          replace q4 := (HBWl.out.cell (World.block_lt_of_cell? w0 _ q4)).trans q4
          replace q5 := (HBWl.out.cell (World.block_lt_of_cell? w0 _ q5)).trans q5
          have hlt2 : k < t.args.length := by have := HNN.out; omega
          obtain ⟨hge, hmem⟩ := rdTm_mem hlt2
          have hnx := wrCur_succ (l := l) (o := 91) hlt2
          have hpl := wrPre_len (l := l) (o := 91) (ts := t.args) (n := n) hlt (by have := HNN.out; omega)
          rw [← hge] at hnx hpl
          generalize rdTm t.args (k : Int) = a at q0 q1 q2 q3 q4 q5 hTR hmem hnx hpl
          have HNX := Lib.hid hnx
          have HPL : Hid ((wrPre l 91 t.args k).length + (txtT [] a).length + 1300 ≤ 140737488355328) := Lib.hid (by have := HRL.out; omega)
          have HTR := Lib.hid hTR
          have HMEM := Lib.hid hmem
          have y0 : (0 : Int) ≤ (k : Int) := by omega
          have y1 : (k : Int) < (n : Int) := by omega
          clear hTR hmem hge hnx hpl hlt2
          go_upto_region 27 with (fail)
          have hbx := heap_alloc_new wr (.cells #[.int .i64 a.kd, .int .i64 a.it, .string a.tx, .int .u32 a.cr, .slice A4' a.nums.length c4', .slice A5' a.args.length c5'] 27)
          have HS3 := Lib.hid (HSl.out.step (below_alloc (Below.refl wr.heap.size wr) (.cells #[.int .i64 a.kd, .int .i64 a.it, .string a.tx, .int .u32 a.cr, .slice A4' a.nums.length c4', .slice A5' a.args.length c5'] 27)))
          generalize wr.alloc (.cells #[.int .i64 a.kd, .int .i64 a.it, .string a.tx, .int .u32 a.cr, .slice A4' a.nums.length c4', .slice A5' a.args.length c5'] 27) = w3 at hbx HS3 ⊢
          have HBX := Lib.hid hbx
          clear hbx q0 q1 q2 q3 q4 q5 HSl HBWl
          by_cases h0 : k = 0
          · have d0 : decide ((k : Int) > 0) = false := decide_eq_false (by omega)
            have d9 : decide (0 < k) = false := decide_eq_false (by omega)
            have HPE : Hid (wrPre l 91 t.args k = wrCur l 91 t.args k) := Lib.hid (by rw [h0]; exact wrPre_zero _ _ _)
            have HPL2 := HPL
            rw [HPE.out] at HPL2
            have HNX2 := HNX
            rw [HPE.out] at HNX2
            clear h0
            obtain ⟨q0, q1, q2, q3, q4, q5, _, _, _, _, _, _⟩ := tmAt_of_box HBX.out
            go_wp2_with fail
            refine (HIH.out a HMEM.out A4' A5' c4' c5' (wrCur l 91 t.args k) u0 _ HTR.out (HB.out.trans (HS3.out.below.mono hB0)) HS3.out.own HS3.out.base (HML.out a HMEM.out) (smL_mem (sm_args HSM.out) HMEM.out) (wfL_mem (wf_args HWF.out) HMEM.out) HPL2.out).mono ?_
            rintro e w9 ⟨v9, rfl, h2, h3, h4⟩
            have HS9 := Lib.hid (HS3.out.call h2 h3 h4)
            rw [← HNX2.out] at HS9
            clear h2 h3 h4 q0 q1 q2 q3 q4 q5
            go_wp2_with fail
            go_roundg (n - (k + 1))
            case measure => rw [HK.out]; omega
            case rel => exact ⟨k + 1, by go_num, rfl, by omega, HS9⟩
          · have d0 : decide ((k : Int) > 0) = true := decide_eq_true (by omega)
            have d9 : decide (0 < k) = true := decide_eq_true (by omega)
            have hpe := wrPre_pos (l := l) (o := 91) (ts := t.args) (k := k) (by omega) (by have := HNN.out; omega)
            have HL1 : Hid ((wrCur l 91 t.args k).length + [(44 : Int)].length ≤ 140737488355328) := Lib.hid (by have := HPL.out; rw [hpe, List.length_append] at this; omega)
            have HPE := Lib.hid hpe
            clear hpe h0
            go_wp2_with (at_builtin; refine append_lit (w0 := w3) B rfl (.tmp 90) (.tmp 91) 49 5 rfl Tryz.underlying49 infoU8 u0 (wrCur l 91 t.args k) [44] rfl ?hx ?hO ?hB ?hbs ?hl ?_; (case hx => first | rfl | (simp [Act.eval]; done)); (case hO => exact HS3.out.own); (case hB => exact Below.refl _ _); (case hbs => exact HS3.out.base); (case hl => exact HL1.out); intro v1 w5 ho hb hg; have HS5 := Lib.hid (HS3.out.app ho hb hg); have hb5 := WrS.tmBox HBX.out HS3.out.own hg; clear ho hb hg; obtain ⟨q0, q1, q2, q3, q4, q5, _, _, _, _, _, _⟩ := tmAt_of_box hb5; clear hb5)
            rw [← HPE.out] at HS5
            refine (HIH.out a HMEM.out A4' A5' c4' c5' (wrPre l 91 t.args k) v1 _ HTR.out (HB.out.trans (HS5.out.below.mono hB0)) HS5.out.own HS5.out.base (HML.out a HMEM.out) (smL_mem (sm_args HSM.out) HMEM.out) (wfL_mem (wf_args HWF.out) HMEM.out) HPL.out).mono ?_
            rintro e w9 ⟨v9, rfl, h2, h3, h4⟩
            have HS9 := Lib.hid (HS5.out.call h2 h3 h4)
            rw [← HNX.out] at HS9
            clear h2 h3 h4 q0 q1 q2 q3 q4 q5
            go_wp2_with fail
            go_roundg (n - (k + 1))
            case measure => rw [HK.out]; omega
            case rel => exact ⟨k + 1, by go_num, rfl, by omega, HS9⟩
        · obtain rfl : n = k := by omega
          have d0 : decide ((n : Int) < (n : Int)) = false := decide_eq_false (by omega)
          have t0 := HSl.out.tm.c0
          have t1 := HSl.out.tm.c1
          have t2 := HSl.out.tm.c2
          have t3 := HSl.out.tm.c3
          have t4 := HSl.out.tm.c4
          have t5 := HSl.out.tm.c5
          have HBWl : Hid (Below w0.heap.size w0 wr) := Lib.hid (HB.out.trans (HSl.out.below.mono hB0))
          obtain ⟨z0, z1, z2, z3, z4, z5⟩ := HZ.out
          have q0 := (HBWl.out.cell (World.block_lt_of_cell? w0 _ z0)).trans z0
          have q1 := (HBWl.out.cell (World.block_lt_of_cell? w0 _ z1)).trans z1
          have q2 := (HBWl.out.cell (World.block_lt_of_cell? w0 _ z2)).trans z2
          have q3 := (HBWl.out.cell (World.block_lt_of_cell? w0 _ z3)).trans z3
          have q4 := (HBWl.out.cell (World.block_lt_of_cell? w0 _ z4)).trans z4
          have q5 := (HBWl.out.cell (World.block_lt_of_cell? w0 _ z5)).trans z5
          clear z0 z1 z2 z3 z4 z5
          have y0 : (0 : Int) ≤ (n : Int) := by omega
          have y4 : (n : Int) < (n : Int) + 1 := by omega
          have y2 : wrap64 (n : Int) = (n : Int) := by unfold wrap64; omega
          have HCL : Hid ((wrCur l 91 t.args n).length + 1200 ≤ 140737488355328) := Lib.hid (by
            have := HRL.out
            unfold wrCur
            simp only [List.length_append, List.length_cons, List.length_nil]
            omega)
          by_cases hz : z.kd = 6
          · have dz : (z.kd != 6) = false := by rw [hz]; rfl
            have he : l ++ R = wrCur l 91 t.args n ++ [93] := by
              rw [HR2.out, if_pos hz]
              unfold wrCur
              simp
            have HE := Lib.hid he
            have HL1 : Hid ((wrCur l 91 t.args n).length + [(93 : Int)].length ≤ 140737488355328) := Lib.hid (by have := HCL.out; simp only [List.length_cons, List.length_nil]; omega)
            clear hz he
            go_wp2_with (at_builtin; refine append_lit (w0 := wr) B rfl (.tmp 125) (.tmp 128) 49 5 rfl Tryz.underlying49 infoU8 u0 (wrCur l 91 t.args n) [93] rfl ?hx ?hO ?hB ?hbs ?hl ?_; (case hx => first | rfl | (simp [Act.eval]; done)); (case hO => exact HSl.out.own); (case hB => exact Below.refl _ _); (case hbs => exact HSl.out.base); (case hl => exact HL1.out); intro v1 w5 ho hb hg; have HS5 := Lib.hid (HSl.out.app ho hb hg); have HK5 := Lib.hid ((Lib.OthersKept.refl tyU8 none wr).grown hg (own_kind HSl.out.own)); clear ho hb hg t0 t1 t2 t3 t4 t5; have t0 := HS5.out.tm.c0; have t1 := HS5.out.tm.c1; have t2 := HS5.out.tm.c2; have t3 := HS5.out.tm.c3; have t4 := HS5.out.tm.c4; have t5 := HS5.out.tm.c5)
            go_ret
            rw [HE.out]
            exact HS5.out.done
          · have dz : (z.kd != 6) = true := by rw [bne_iff_ne]; exact hz
            have he : l ++ R = (wrCur l 91 t.args n ++ [124] ++ txtT [] z) ++ [93] := by
              rw [HR2.out, if_neg hz]
              unfold wrCur
              simp
            have HE := Lib.hid he
            have HRZ2 := Lib.hid (HRZ.out hz)
            have HL1 : Hid ((wrCur l 91 t.args n).length + [(124 : Int)].length ≤ 140737488355328) := Lib.hid (by have := HCL.out; simp only [List.length_cons, List.length_nil]; omega)
            have hbz := HBWl
            clear hz he
            go_wp2_with (at_builtin; refine append_lit (w0 := wr) B rfl (.tmp 112) (.tmp 113) 49 5 rfl Tryz.underlying49 infoU8 u0 (wrCur l 91 t.args n) [124] rfl ?hx ?hO ?hB ?hbs ?hl ?_; (case hx => first | rfl | (simp [Act.eval]; done)); (case hO => exact HSl.out.own); (case hB => exact Below.refl _ _); (case hbs => exact HSl.out.base); (case hl => exact HL1.out); intro v1 w5 ho hb hg; have HS5 := Lib.hid (HSl.out.app ho hb hg); clear ho hb hg t0 t1 t2 t3 t4 t5 q0 q1 q2 q3 q4 q5; have HBW5 : Hid (Below w0.heap.size w0 w5) := Lib.hid (HB.out.trans (HS5.out.below.mono hB0)); have t5 := HS5.out.tm.c5; have q0 := (HBW5.out.cell (World.block_lt_of_cell? w0 _ HZ.out.1)).trans HZ.out.1; have q1 := (HBW5.out.cell (World.block_lt_of_cell? w0 _ HZ.out.2.1)).trans HZ.out.2.1; have q2 := (HBW5.out.cell (World.block_lt_of_cell? w0 _ HZ.out.2.2.1)).trans HZ.out.2.2.1; have q3 := (HBW5.out.cell (World.block_lt_of_cell? w0 _ HZ.out.2.2.2.1)).trans HZ.out.2.2.2.1; have q4 := (HBW5.out.cell (World.block_lt_of_cell? w0 _ HZ.out.2.2.2.2.1)).trans HZ.out.2.2.2.2.1; have q5 := (HBW5.out.cell (World.block_lt_of_cell? w0 _ HZ.out.2.2.2.2.2)).trans HZ.out.2.2.2.2.2)
            refine (HIH.out z HMZ.out A4' A5' c4' c5' (wrCur l 91 t.args n ++ [124]) v1 _ HTZ.out HBW5.out HS5.out.own HS5.out.base (HML.out z HMZ.out) (smL_mem (sm_args HSM.out) HMZ.out) (wfL_mem (wf_args HWF.out) HMZ.out) HRZ2.out).mono ?_
            rintro e w9 ⟨v9, rfl, h2, h3, h4⟩
            have HS9 := Lib.hid (HS5.out.call h2 h3 h4)
            have HL9 : Hid ((wrCur l 91 t.args n ++ [124] ++ txtT [] z).length + [(93 : Int)].length ≤ 140737488355328) := Lib.hid (by have := HRZ2.out; simp only [List.length_append, List.length_cons, List.length_nil] at this ⊢; omega)
            clear h2 h3 h4 q0 q1 q2 q3 q4 q5 t5 HS5
            have t0 := HS9.out.tm.c0
            have t1 := HS9.out.tm.c1
            have t2 := HS9.out.tm.c2
            have t3 := HS9.out.tm.c3
            have t4 := HS9.out.tm.c4
            have t5 := HS9.out.tm.c5
            go_wp2_with (at_builtin; refine append_lit (w0 := w9) B rfl (.tmp 125) (.tmp 128) 49 5 rfl Tryz.underlying49 infoU8 v9 (wrCur l 91 t.args n ++ [124] ++ txtT [] z) [93] rfl ?hx ?hO ?hB ?hbs ?hl ?_; (case hx => first | rfl | (simp [Act.eval]; done)); (case hO => exact HS9.out.own); (case hB => exact Below.refl _ _); (case hbs => exact HS9.out.base); (case hl => exact HL9.out); intro v1 w5 ho hb hg; have HS5 := Lib.hid (HS9.out.app ho hb hg); have HK5 := Lib.hid ((Lib.OthersKept.refl tyU8 none w9).grown hg (own_kind HS9.out.own)); clear ho hb hg t0 t1 t2 t3 t4 t5; have t0 := HS5.out.tm.c0; have t1 := HS5.out.tm.c1; have t2 := HS5.out.tm.c2; have t3 := HS5.out.tm.c3; have t4 := HS5.out.tm.c4; have t5 := HS5.out.tm.c5)
            go_ret
            rw [HE.out]
            exact HS5.out.done

set_option maxRecDepth 100000 in
set_option maxHeartbeats 2000000 in
theorem term_Print (t : Tm) (A4 A5 : Option Addr) (c4 c5 : Nat) (w : World) (hR : TmR w t A4 c4 A5 c5) (hsm : smT t = true) (hwf : wfT t = true) (hG : Glob w) :
    Calls Tryz.prog 25 #[tmV t (.slice A4 t.nums.length c4) (.slice A5 t.args.length c5)] w (StrPost w (printT t)) := by
  have HT1 := Lib.hid (TmAt.new w t (.slice A4 t.nums.length c4) (.slice A5 t.args.length c5))
  have hB1 := below_alloc (Below.refl w.heap.size w) (.cells #[.int .i64 t.kd, .int .i64 t.it, .string t.tx, .int .u32 t.cr, .slice A4 t.nums.length c4, .slice A5 t.args.length c5] 27)
  obtain ⟨R, hr⟩ : ∃ R, R = printT t := ⟨_, rfl⟩
  rw [← hr]
  have HQ := Lib.hid hr
  clear hr
  unfold tmV
  go_enter Tryz.func25, Tryz.ntmps25
  go_upto_region 1 with (fail)
  obtain ⟨w1, hw1⟩ : ∃ W, W = w.alloc (.cells #[.int .i64 t.kd, .int .i64 t.it, .string t.tx, .int .u32 t.cr, .slice A4 t.nums.length c4, .slice A5 t.args.length c5] 27) := ⟨_, rfl⟩
  rw [← hw1] at HT1 hB1
  rw [← hw1]
  clear hw1
  have HB1 := Lib.hid hB1
  have HCK := Lib.hid (term_Check t A4 A5 c4 c5 w1 (hR.below hB1) hsm (hG.below hB1))
  have HR := Lib.hid hR
  have HSM := Lib.hid hsm
  have HWF := Lib.hid hwf
  have HG := Lib.hid hG
  clear hR hsm hwf hG hB1
  unfold tmV at HCK
  obtain ⟨q0, q1, q2, q3, q4, q5, _, _, _, _, _, _⟩ := HT1.out
  go_wp2_with fail
  refine HCK.out.mono ?_
  rintro e w2 ⟨ve, rfl, hE, hB2⟩
  have HE := Lib.hid hE
  have HT2 := Lib.hid (HT1.out.below hB2 HT1.out.lt)
  have HB2 := Lib.hid (trans_below HB1.out hB2)
  clear hE hB2 HCK q0 q1 q2 q3 q4 q5
  cases hc : chk t with
  | cons x r =>
    have HQ2 : Hid (R = (⟨#[]⟩, x :: r)) := Lib.hid (HQ.out.trans (by unfold printT; rw [if_neg (by rw [hc]; simp), hc]))
    rw [hc] at HE
    obtain ⟨eb, u, rfl, _⟩ := HE.out
    clear hc
    go_wp2_with fail
    go_ret2
    rw [HQ2.out]
    exact ⟨_, rfl, HE.out, HB2.out⟩
  | nil =>
    have HQ2 : Hid (R = (strOfNums (txtT [] t), [])) := Lib.hid (HQ.out.trans (by unfold printT; rw [if_pos hc]))
    rw [hc] at HE
    obtain rfl : ve = .nilIface := HE.out
    have htl := chk_txt hc HWF.out
    have HW := Lib.hid (term_write w HG.out w2.heap.size HB2.out.size t A4 A5 c4 c5 [] (.slice none 0 0) w2 HR.out HB2.out (Kd.own_of_R (Kd.R_nil (Kd.int .u8) tyU8 w2 w2.heap.size (fun _ => True))) (Nat.le_refl _) ⟨1, 0, 0, hc⟩ HSM.out HWF.out (by simp only [List.length_nil]; omega))
    rw [List.nil_append] at HW
    generalize txtT [] t = T at HQ2 HW
    unfold tmV at HW
    obtain ⟨q0, q1, q2, q3, q4, q5, _, _, _, _, _, _⟩ := HT2.out
    clear hc htl
    go_wp2_with fail
    refine HW.out.mono ?_
    rintro e w3 ⟨v3, rfl, ho, hB3, _⟩
    have hcv := own_string (P := Tryz.prog) (src := 49) (dst := 9) Tryz.underlying49 Tryz.underlying5 Tryz.underlying9 ho
    have HB3 := Lib.hid (trans_below HB2.out hB3)
    clear ho hB3 HW q0 q1 q2 q3 q4 q5
    go_wp2_with fail
    go_ret2
    rw [HQ2.out]
    exact ⟨_, rfl, rfl, HB3.out⟩
end Go.Proofs.YtgapeacflkfmdaaGreatDoor
set_option linter.unusedSimpArgs false
namespace Go.Proofs.YtgapeacflkfmdaaGreatDoor
open Go.RowKit Go.Sort Go.Proofs.YtgapeacflkfmdaaGreatDoorW.PrintWords

theorem read11 (b g4 : Nat) (s : ByteArray) (k d : Nat) (hd : d < 1000) (u : FrameMode) (w : World) (hS : RdAt w b s k (d + 1)) (h4 : w.cell? ⟨g4, 0, none⟩ = some (.pointer (some ⟨b, 0, none⟩))) :
    CallsD Tryz.prog 49 #[.pointer (some ⟨g4, 0, none⟩)] u w fun e u' w' => u' = u ∧ (e = .returned (.tuple #[]) ∧ w' = w.setCell ⟨b, 2, none⟩ (.int .i64 (d : Int))) := by
  have h2 := hS.c2
  have f2 := hS.f2
  clear hS
  rw [show ((d + 1 : Nat) : Int) = (d : Int) + 1 by omega] at h2
  go_enter_d Tryz.func49, Tryz.ntmps49
  go_wp2_with fail
  go_end0
  exact ⟨rfl, by simp⟩
theorem ErrIs.kept3 {W W' : World} (he : ∀ b o, (∃ u, W.cell? ⟨b, 3, none⟩ = some u) → W'.cell? ⟨b, o, none⟩ = W.cell? ⟨b, o, none⟩) : ∀ {l : List Lk} {v : Value}, ErrIs W l v → ErrIs W' l v
  | [], _, h => h
  | _ :: _, _, ⟨b, u, e, h0, h1, h2, h3, h4⟩ => ⟨b, u, e, (he b 0 ⟨_, h3⟩).trans h0, (he b 1 ⟨_, h3⟩).trans h1, (he b 2 ⟨_, h3⟩).trans h2, (he b 3 ⟨_, h3⟩).trans h3, ErrIs.kept3 he h4⟩
/-- An error's chain bears the reader's box being written: no link lies there. -/
theorem ErrIs.rd {W : World} {b : Nat} {s : ByteArray} {k d : Nat} {l : List Lk} {v : Value} (h : ErrIs W l v) (hr : RdAt W b s k d) (x : Value) : ErrIs (W.setCell ⟨b, 2, none⟩ x) l v := by
  refine ErrIs.kept3 (W := W) (fun b' o ⟨u, hu⟩ => ?_) h
  have hne : b' ≠ b := fun e => by
    rw [e] at hu
    simp [World.cell?, hr.h] at hu
  exact World.cell?_setCell_other _ _ _ _ (by simp [hne])
set_option maxRecDepth 100000 in
set_option maxHeartbeats 2000000 in
theorem read1 (s : ByteArray) (b g4 g5 : Nat) (hm : s.size ≤ 4194304) : ∀ n d, n + d = 256 → TermSays s b g4 g5 d (rdT s n)
  | n, d, hnd => by
    intro k0 w h0 hS hX
    have hG := hX.gl
    have HX0 := Lib.hid hX
    obtain ⟨w1, hw1⟩ : ∃ W, W = w.alloc (.cells #[.int .i64 0, .int .i64 0, .string ⟨#[]⟩, .int .u32 0, .slice none 0 0, .slice none 0 0] 27) := ⟨_, rfl⟩
    have hF : RdF w w1 b s k0 d := by rw [hw1]; exact RdF.start hS
    have HF := Lib.hid hF
    clear hS hG hF hX
    go_enter_defers Tryz.func47, Tryz.ntmps47
    go_upto_region 1 with (fail)
    rw [← hw1]
    clear hw1
    have HX1 := Lib.hid (HX0.out.step HF.out.rd.1)
    have a4 := HX1.out.c4
    have HSK := Lib.hid (rd_skip b s k0 d h0 hm w1 HF.out.rd.2)
    have hkb := blk_le s k0 h0
    go_wp2_with fail
    refine HSK.out.mono ?_
    rintro e w2 ⟨rfl, hT⟩
    have HF2 := Lib.hid (HF.out.step hT)
    have HX2 := Lib.hid (HX1.out.step hT.1)
    clear hT HSK HF HX1 a4
    have a4 := HX2.out.c4
    have a5 := HX2.out.c5
    have a1 := HF2.out.rd.2.c1
    have a2 := HF2.out.rd.2.c2
    have f2 := HF2.out.rd.2.f2
    match n, hnd with
    | 0, hnd =>
      obtain rfl : d = 256 := by omega
      have hR : rdT s 0 k0 = rdNo (blk s k0) 9 := rfl
      rw [hR]
      go_wp2_with fail
      refine (term_fault _ _ _ _ [] rfl).mono ?_
      rintro e w7 ⟨v, rfl, hE, hB⟩
      have HE := Lib.hid hE
      have HF7 := Lib.hid (HF2.out.below hB)
      clear hE hB a1 a2 f2 a4 a5
      obtain ⟨r0, r1, r2, r3, r4, r5, y0, y1, y2, y3, y4, y5⟩ := HF7.out.tm
      simp only [zTm] at r0 r1 r2 r3 r4 r5
      go_wp2_with fail
      have hp : TermE w b s 256 (rdT s 0 k0) (.returned (.tuple #[tmV zTm vNone vNone, v])) (put6 w7 w.heap.size zTm vNone vNone) := HF7.out.fail HE.out (by simp) hkb
      refine ⟨_, resTm2 rfl _ _ w.heap.size zTm _ _ (by rfl) (HF7.out.tm.put zTm _ _), ?_⟩
      exact hp
    | n + 1, hnd =>
      have d0 : decide ((d : Int) ≥ 256) = false := decide_eq_false (by omega)
      have hR : rdT s (n + 1) k0 = begunAt (rdT s n) s (blk s k0) := rfl
      have IH := Lib.hid (read1 s b g4 g5 hm n (d + 1) (by omega))
      have hmf : ∀ (fn : Fn) (first cap : Array Value) (w : World), (Instr.makeFunc fn first cap).run Tryz.prog w = .ok (.func fn first cap) w := fun _ _ _ _ => rfl
      go_upto_region 5 with (fail)
      have HF3 := Lib.hid (HF2.out.step ((RdTo.refl HF2.out.rd.2).set2 ((d : Int) + 1) (d + 1) (by omega)))
      have HX3 := Lib.hid (HX2.out.step (grown_set w2 b 2 (.int .i64 ((d : Int) + 1))))
      clear a1 a2 f2 a4 a5 HF2 HX2
      generalize w2.setCell ⟨b, 2, none⟩ (.int .i64 ((d : Int) + 1)) = w3 at HF3 HX3 ⊢
      have a4 := HX3.out.c4
      have a5 := HX3.out.c5
      have HCB := Lib.hid (rd_begun b g4 g5 s (blk s k0) (d + 1) (rdT s n) IH.out (rdT_fwd s n) hkb (blk_blk s k0) hm w3 HF3.out.rd.2 HX3.out)
      rw [← hR] at HCB
      obtain ⟨R, hRR⟩ : ∃ R, R = rdT s (n + 1) k0 := ⟨_, rfl⟩
      rw [← hRR] at HCB
      have HRR := Lib.hid hRR
      clear hR hRR
      obtain ⟨rt, re, rl⟩ := R
      go_wp2_with fail
      refine HCB.out.mono ?_
      rintro e w9 ⟨v, ev, rfl, hM, hE, k', hT, hk', hk2⟩
      have hM2 := hM
      obtain ⟨v4, v5, rfl, hM4, hM5⟩ := hM2
      simp only at hM4 hM5
      obtain ⟨A4, c4, rfl⟩ := Kd.R_slice hM4
      obtain ⟨A5, c5, rfl⟩ := Kd.R_slice hM5
      have HF9 := Lib.hid (HF3.out.step hT)
      have HX9 := Lib.hid (HX3.out.step hT.1)
      have HM := Lib.hid hM
      have HE := Lib.hid hE
      clear hM hM4 hM5 hE hT a4 a5
      unfold tmV
      obtain ⟨r0, r1, r2, r3, r4, r5, y0, y1, y2, y3, y4, y5⟩ := HF9.out.tm
      simp only [zTm] at r0 r1 r2 r3 r4 r5
      go_wp2_with fail
      refine leaves_cons (f := 49) (args := #[.pointer (some ⟨g4, 0, none⟩)]) (by simp) (by simp [go_sem]) ?_
      have hput := HF9.out.put rt (.slice A4 rt.nums.length c4) (.slice A5 rt.args.length c5)
      have h4p : (put6 w9 w.heap.size rt (.slice A4 rt.nums.length c4) (.slice A5 rt.args.length c5)).cell? ⟨g4, 0, none⟩ = some (.pointer (some ⟨b, 0, none⟩)) := (put6_far (fun e => by have h1 := HX0.out.c4; have h2 := World.block_lt_of_cell? w _ h1; simp only at h2; omega) _ _ _).trans HX9.out.c4
      refine (read11 b g4 s k' d (by omega) .returning _ hput.2 h4p).mono ?_
      rintro e u' w'' ⟨rfl, rfl, rfl⟩
      have hne : w.heap.size ≠ b := by have := HF9.out.lt; omega
      have htm := (HF9.out.tm.put rt (.slice A4 rt.nums.length c4) (.slice A5 rt.args.length c5)).grown (grown_set (put6 w9 w.heap.size rt (.slice A4 rt.nums.length c4) (.slice A5 rt.args.length c5)) b 2 (.int .i64 (d : Int))) hne
      have hsz : w.heap.size + 1 ≤ w3.heap.size := HF3.out.tm.lt
      have hlt := HF9.out.lt
      have hmd := HM.out.above (W' := (put6 w9 w.heap.size rt (.slice A4 rt.nums.length c4) (.slice A5 rt.args.length c5)).setCell ⟨b, 2, none⟩ (.int .i64 (d : Int))) (fun j hj _ => (Below.heap_setCell _ _ _ _ (by simp only; omega)).trans (put6_heap w9 w.heap.size rt _ _ j (by omega)))
      have her := (HE.out.wrote6 HF9.out.tm.c0 rt (.slice A4 rt.nums.length c4) (.slice A5 rt.args.length c5)).rd hput.2 (.int .i64 (d : Int))
      have hp : TermE w b s d (rt, re, rl) (.returned (.tuple #[tmV rt (.slice A4 rt.nums.length c4) (.slice A5 rt.args.length c5), ev])) ((put6 w9 w.heap.size rt (.slice A4 rt.nums.length c4) (.slice A5 rt.args.length c5)).setCell ⟨b, 2, none⟩ (.int .i64 (d : Int))) :=
        ⟨_, _, rfl, hmd.lower (by omega), her, k', hput.set2 _ d rfl, hk', hk2⟩
      refine ⟨_, resTm2 rfl _ _ w.heap.size rt _ _ (by rfl) htm, ?_⟩
      rw [← HRR.out]
      exact hp
end Go.Proofs.YtgapeacflkfmdaaGreatDoor
