/-
 heddleref02: part, Check, Measure. heddleref02's Reader: its box, small steps. term's reader: list. heddleref02: joined. heddleref02's Reader: own. term.Copy; slices.Clone of numbers.
-/
import Derived.Test.YtibbcfeaododhaaGreatDoorH5
import Derived.Test.YtibbcfeaododhaaGreatDoorH4
import Derived.Test.YtibbcfeaododhaaGreatDoorH2
namespace Go.Proofs.YtibbcfeaododhaaGreatDoor
open Go.RowKit Go.Proofs.YtibbcfeaododhaaGreatDoorW.PrintWords
theorem LnIs.headT {W : World} {base : Nat} {x : Lk} {r : List Lk} {v : Value} (h : LnIs W base (x :: r) v) :
  ∃ g c : Nat, v = .slice (some ⟨g, 0, none⟩) (r.length + 1) c ∧ base ≤ g ∧ g < W.heap.size := by
 obtain ⟨A, c, rfl, _, hC⟩ := h.reads
 obtain ⟨inner, ho⟩ := Kd.R_own h.1
 obtain ⟨g, cap, hv, hg1, hg2⟩ := ho.form (by simp)
 injection hv with hA _ _
 subst hA
 exact ⟨g, c, rfl, hg1, hg2⟩
theorem LnIs.setT {W : World} {base g : Nat} {l : List Lk} {v : Value} (h : LnIs W base l v) (hg : g < base) (o : Nat) (u : Value) : LnIs (W.setCell ⟨g, o, none⟩ u) base l v := by
 refine ⟨Kd.R_grown1 h.1 rfl (grown_set _ _ _ _) ?_, h.2⟩
 obtain ⟨inner, ho⟩ := Kd.R_own h.1
 intro he
 have := own_base ho _ he.symm
 omega
theorem grownOf {w w' : World} (h : Below w.heap.size w w') (r : Option Nat) : w.grownBy w' r := ⟨h.os, h.tape, h.output, h.size, fun k hk _ => h.block k hk⟩
theorem belowOf {w w' : World} {b n : Nat} (h : w.grownBy w' (some b)) (hn : n ≤ b) (hw : n ≤ w.heap.size) : Below n w w' := ⟨h.os, h.tape, h.output, h.size, fun k hk => h.block k (by omega) (by simp; omega)⟩
/-- The reference's walker: how many parts, how deep, the fault. -/
structure WrAt (W : World) (b : Nat) (n m : Int) (vb : Value) : Prop where
 c0 : W.cell? ⟨b, 0, none⟩ = some (.int .i64 n)
 c1 : W.cell? ⟨b, 1, none⟩ = some (.int .i64 m)
 c2 : W.cell? ⟨b, 2, none⟩ = some vb
 f0 : W.frozen? ⟨b, 0, none⟩ = false
 f1 : W.frozen? ⟨b, 1, none⟩ = false
 f2 : W.frozen? ⟨b, 2, none⟩ = false
theorem WrAt.lt {W : World} {b : Nat} {n m : Int} {vb : Value} (h : WrAt W b n m vb) : b < W.heap.size := World.block_lt_of_cell? W _ h.c0
theorem WrAt.below {W W' : World} {b k : Nat} {n m : Int} {vb : Value} (h : WrAt W b n m vb) (hb : Below k W W') (hk : b < k) : WrAt W' b n m vb :=
 ⟨(hb.cell hk).trans h.c0, (hb.cell hk).trans h.c1, (hb.cell hk).trans h.c2, (hb.frozen hk).trans h.f0, (hb.frozen hk).trans h.f1, (hb.frozen hk).trans h.f2⟩
theorem WrAt.put {W : World} {b : Nat} {n m : Int} {vb : Value} (h : WrAt W b n m vb) (n' m' : Int) : WrAt ((W.setCell ⟨b, 0, none⟩ (.int .i64 n')).setCell ⟨b, 1, none⟩ (.int .i64 m')) b n' m' vb := by
 obtain ⟨c0, c1, c2, f0, f1, f2⟩ := h
 constructor <;> simp [World.cell?_setCell_other, World.cell?_setCell_same, World.frozen?_setCell, *]
theorem WrAt.bad {W : World} {b : Nat} {n m : Int} {vb : Value} (h : WrAt W b n m vb) (v : Value) : WrAt (W.setCell ⟨b, 2, none⟩ v) b n m v := by
 obtain ⟨c0, c1, c2, f0, f1, f2⟩ := h
 constructor <;> simp [World.cell?_setCell_other, World.cell?_setCell_same, World.frozen?_setCell, *]
/-- What a part leaves. -/
def PartPost (w : World) (b : Nat) (r : Meas) (e : Ending) (w' : World) : Prop :=
 e = .returned (.tuple #[]) ∧ w.grownBy w' (some b) ∧ ∃ n m vb, WrAt w' b n m vb ∧ LnIs w' (b + 1) r.1 vb ∧ (r.1 = [] → n = r.2.1 ∧ m = r.2.2)
def formPre (t : Tm) (d n : Int) : List Lk := if n = 4096 then [⟨nTerm, n, 5⟩] else if 256 < d then [⟨nTerm, n, 9⟩] else formBad t n
theorem measT_pre (t : Tm) (d n m : Int) : measT t d n m = match formPre t d n with
  | [] => measL t.args (d + 1) (n + 1) (max m d)
  | l => (l, 0, 0) := by
 rw [measT_eq]
 unfold formPre
 split
 ·rfl
 ·split
  ·rfl
  ·rfl
theorem formPre_nil {t : Tm} {d n : Int} (h : formPre t d n = []) : n ≠ 4096 ∧ d ≤ 256 := by
 unfold formPre at h
 by_cases h1 : n = 4096
 ·rw [if_pos h1] at h
  cases h
 ·rw [if_neg h1] at h
  by_cases h2 : 256 < d
  ·rw [if_pos h2] at h
   cases h
  ·exact ⟨h1, by omega⟩
theorem formPre_len (t : Tm) (d n : Int) : (formPre t d n).length ≤ 2 := by
 have hq : (quoted t.tx).2.length ≤ 1 := by
  unfold quoted
  repeat' split
  all_goals simp
 have hn : (nodeBad t.tx).length ≤ 1 := by
  unfold nodeBad
  split <;> simp
 have ho : ∀ (a : Int) (l : List Lk), l.length ≤ 1 → (overTm a l).length ≤ 2 := by
  intro a l h
  cases l with
  | nil => simp [overTm]
  | cons x r => simp [overTm] at h ⊢; omega
 unfold formPre formBad
 repeat' split
 all_goals first | (simp; done) | exact ho _ _ hq | exact ho _ _ hn
theorem TmAt.grownR {W W' : World} {b g : Nat} {t : Tm} {v4 v5 : Value} (h : TmAt W b t v4 v5) (hg : W.grownBy W' (some g)) (hne : b ≠ g) : TmAt W' b t v4 v5 := by
 have hb : W'.heap[b]? = W.heap[b]? := hg.block b h.lt (by simpa using hne)
 have hc : ∀ o, W'.cell? ⟨b, o, none⟩ = W.cell? ⟨b, o, none⟩ := fun o => by simp [World.cell?, hb]
 have hf : ∀ o, W'.frozen? ⟨b, o, none⟩ = W.frozen? ⟨b, o, none⟩ := fun o => by simp [World.frozen?, hb]
 obtain ⟨c0, c1, c2, c3, c4, c5, f0, f1, f2, f3, f4, f5⟩ := h
 exact ⟨(hc _).trans c0, (hc _).trans c1, (hc _).trans c2, (hc _).trans c3, (hc _).trans c4, (hc _).trans c5, (hf _).trans f0, (hf _).trans f1, (hf _).trans f2, (hf _).trans f3, (hf _).trans f4, (hf _).trans f5⟩
theorem TmAt.far {W : World} {b g : Nat} {t : Tm} {v4 v5 : Value} (h : TmAt W b t v4 v5) (hne : b ≠ g) (o : Nat) (u : Value) : TmAt (W.setCell ⟨g, o, none⟩ u) b t v4 v5 := by
 obtain ⟨c0, c1, c2, c3, c4, c5, f0, f1, f2, f3, f4, f5⟩ := h
 constructor <;> simp [World.cell?_setCell_other, World.frozen?_setCell, *]
set_option maxRecDepth 100000 in
set_option maxHeartbeats 8000000 in
theorem ref02_part (w0 : World) (b : Nat) (hb0 : w0.heap.size ≤ b) (t : Tm) : ∀ (A4 A5 : Option Addr) (c4 c5 : Nat) (d n m : Int) (w : World), TmR w0 t A4 c4 A5 c5 → Below w0.heap.size w0 w → WrAt w b n m (.slice none 0 0) → smT t = true →
  0 ≤ n → n ≤ 4096 → 0 ≤ m → m ≤ 256 → 1 ≤ d → d ≤ 257 →
  Calls Tryz.prog 52 #[.pointer (some ⟨b, 0, none⟩), tmV t (.slice A4 t.nums.length c4) (.slice A5 t.args.length c5), .int .i64 d] w (PartPost w b (measT t d n m)) := by
 induction t using Tm.ind with
 | h t ih =>
  intro A4 A5 c4 c5 d n m w hR hB hW hsm hn0 hn1 hm0 hm1 hd0 hd1
  have HIH := Lib.hid ih
  have HR := Lib.hid hR
  have HB_ := Lib.hid hB
  have HSM := Lib.hid hsm
  have hr := measT_pre t d n m
  have hfl := formPre_len t d n
  generalize measT t d n m = R at hr ⊢
  obtain ⟨F, hF⟩ : ∃ F, F = formPre t d n := ⟨_, rfl⟩
  rw [← hF] at hr hfl
  have HRR := Lib.hid hr
  have HF := Lib.hid hF
  have hW1 : WrAt (w.alloc (.cells #[.int .i64 t.kd, .int .i64 t.it, .string t.tx, .int .u32 t.cr, .slice A4 t.nums.length c4, .slice A5 t.args.length c5] 27)) b n m (.slice none 0 0) := hW.below (below_alloc (Below.refl _ _) _) hW.lt
  have HT1 := Lib.hid (TmAt.new w t (.slice A4 t.nums.length c4) (.slice A5 t.args.length c5))
  have hlt1 : b < w.heap.size := hW.lt
  have HB1 := Lib.hid (below_alloc (Below.refl w.heap.size w) (.cells #[.int .i64 t.kd, .int .i64 t.it, .string t.tx, .int .u32 t.cr, .slice A4 t.nums.length c4, .slice A5 t.args.length c5] 27))
  have hne := fun (w : World) (a : Option Addr) (n c : Nat) => run_neq_slice_nil_any (P := Tryz.prog) w 32 69 a n c 0 0 Tryz.underlying32
  have heq := fun (w : World) (a : Option Addr) (n c : Nat) => Lib.run_eql_slice_nil (P := Tryz.prog) w 32 69 a n c 0 0 Tryz.underlying32
  clear ih hR hB hW hsm hr hF
  unfold tmV
  go_enter Tryz.func52, Tryz.ntmps52
  go_upto_region 1 with (fail)
  obtain ⟨w1, hw1⟩ : ∃ W, W = w.alloc (.cells #[.int .i64 t.kd, .int .i64 t.it, .string t.tx, .int .u32 t.cr, .slice A4 t.nums.length c4, .slice A5 t.args.length c5] 27) := ⟨_, rfl⟩
  rw [← hw1] at hW1 HT1 HB1
  rw [← hw1]
  clear hw1
  have hlt2 : w.heap.size < w1.heap.size := HT1.out.lt
  have HNB : Hid (w.heap.size ≠ b) := Lib.hid (by omega)
  have HNB2 : Hid (b < w.heap.size) := Lib.hid (by omega)
  have HBA : Hid (w.grownBy w1 (some b)) := Lib.hid (grownOf HB1.out _)
  have r0 := hW1.c0
  have r1 := hW1.c1
  have r2 := hW1.c2
  have g0 := hW1.f0
  have g1 := hW1.f1
  have HW1 := Lib.hid hW1
  clear hW1
  go_upto_block 0 with (fail)
  have hW3 : WrAt ((w1.setCell ⟨b, 0, none⟩ (.int .i64 (n + 1))).setCell ⟨b, 1, none⟩ (.int .i64 (max m d))) b (n + 1) (max m d) (.slice none 0 0) := HW1.out.put _ _
  have HB3 : Hid (w.grownBy ((w1.setCell ⟨b, 0, none⟩ (.int .i64 (n + 1))).setCell ⟨b, 1, none⟩ (.int .i64 (max m d))) (some b)) := Lib.hid ((HBA.out.trans (grown_set _ _ _ _)).trans (grown_set _ _ _ _))
  have hT3 : TmAt ((w1.setCell ⟨b, 0, none⟩ (.int .i64 (n + 1))).setCell ⟨b, 1, none⟩ (.int .i64 (max m d))) w.heap.size t (.slice A4 t.nums.length c4) (.slice A5 t.args.length c5) := (HT1.out.far HNB.out _ _).far HNB.out _ _
  have hsz3 : ((w1.setCell ⟨b, 0, none⟩ (.int .i64 (n + 1))).setCell ⟨b, 1, none⟩ (.int .i64 (max m d))).heap.size = w1.heap.size := by simp
  obtain ⟨w3, hw3⟩ : ∃ W, W = (w1.setCell ⟨b, 0, none⟩ (.int .i64 (n + 1))).setCell ⟨b, 1, none⟩ (.int .i64 (max m d)) := ⟨_, rfl⟩
  rw [← hw3] at hW3 HB3 hsz3 hT3
  rw [← hw3]
  clear hw3 r0 r1 r2 g0 g1
  have HW3 := Lib.hid hW3
  have HT3 := Lib.hid hT3
  have HBW : Hid (Below w0.heap.size w0 w3) := Lib.hid (HB_.out.trans (belowOf HB3.out hb0 (by omega)))
  clear hW3 hT3 HW1 HT1 HB1 HBA
  go_cut [] from 13 (fun w' => ∃ vb, WrAt w' b (n + 1) (max m d) vb ∧ LnIs w' (b + 1) F vb ∧ TmAt w' w.heap.size t (.slice A4 t.nums.length c4) (.slice A5 t.args.length c5) ∧ w.grownBy w' (some b))
  case first =>
   have hf := HF.out
   clear HF
   unfold formPre at hf
   have q2 := HW3.out.c2
   have qf := HW3.out.f2
   by_cases h1 : n = 4096
   ·have d1 : decide (n ≥ 4096) = true := decide_eq_true (by omega)
    rw [if_pos h1] at hf
    have HQ := Lib.hid hf
    clear hf h1
    go_wp2_with fail
    refine (ref02_no _ _ _).mono ?_
    rintro e w6 ⟨v6, rfl, hL, hB6⟩
    obtain ⟨Aq, cq, hvq, _, _⟩ := hL.reads
    generalize hnq : List.length _ = nq at hvq
    clear hnq
    subst hvq
    have HL := Lib.hid ((hL.lower (base' := b + 1) (by omega)).setT (g := b) (by omega) 2 (.slice Aq nq cq))
    have HW4 := Lib.hid (HW3.out.below hB6 (by omega))
    have HT4 := Lib.hid (HT3.out.below hB6 (by omega))
    have HB4 : Hid (w.grownBy (w6.setCell ⟨b, 2, none⟩ (.slice Aq nq cq)) (some b)) := Lib.hid ((HB3.out.trans (grownOf hB6 _)).trans (grown_set _ _ _ _))
    clear hL hB6 q2 qf
    have q2 := HW4.out.c2
    have qf := HW4.out.f2
    go_wp2_with fail
    go_meet
    case rel => exact ⟨_, HW4.out.bad _, by rw [HQ.out]; exact HL.out, HT4.out.far HNB.out _ _, HB4.out⟩
   ·have d1 : decide (n ≥ 4096) = false := decide_eq_false (by omega)
    rw [if_neg h1] at hf
    by_cases h2 : 256 < d
    ·have d2 : decide (d > 256) = true := decide_eq_true h2
     rw [if_pos h2] at hf
     have HQ := Lib.hid hf
     clear hf h1 h2
     go_wp2_with fail
     refine (ref02_no _ _ _).mono ?_
     rintro e w6 ⟨v6, rfl, hL, hB6⟩
     obtain ⟨Aq, cq, hvq, _, _⟩ := hL.reads
     generalize hnq : List.length _ = nq at hvq
     clear hnq
     subst hvq
     have HL := Lib.hid ((hL.lower (base' := b + 1) (by omega)).setT (g := b) (by omega) 2 (.slice Aq nq cq))
     have HW4 := Lib.hid (HW3.out.below hB6 (by omega))
     have HT4 := Lib.hid (HT3.out.below hB6 (by omega))
     have HB4 : Hid (w.grownBy (w6.setCell ⟨b, 2, none⟩ (.slice Aq nq cq)) (some b)) := Lib.hid ((HB3.out.trans (grownOf hB6 _)).trans (grown_set _ _ _ _))
     clear hL hB6 q2 qf
     have q2 := HW4.out.c2
     have qf := HW4.out.f2
     go_wp2_with fail
     go_meet
     case rel => exact ⟨_, HW4.out.bad _, by rw [HQ.out]; exact HL.out, HT4.out.far HNB.out _ _, HB4.out⟩
    ·have d2 : decide (d > 256) = false := decide_eq_false h2
     rw [if_neg h2] at hf
     have HFF := Lib.hid hf
     clear hf h1
     have t0 := HT3.out.c0
     have t1 := HT3.out.c1
     have t2 := HT3.out.c2
     have t3 := HT3.out.c3
     have t4 := HT3.out.c4
     have t5 := HT3.out.c5
     go_wp2_with fail
     refine (ref02_form t A4 A5 c4 c5 _ (HR.out.below HBW.out)).mono ?_
     rintro e w4 ⟨rfl, hB4⟩
     clear q2 qf t0 t1 t2 t3 t4 t5
     replace HW3 := Lib.hid (HW3.out.below hB4 (by omega))
     replace HT3 := Lib.hid (HT3.out.below hB4 (by omega))
     replace HB3 : Hid (w.grownBy w4 (some b)) := Lib.hid (HB3.out.trans (grownOf hB4 _))
     have hsz4 := hB4.size
     clear hB4
     have q2 := HW3.out.c2
     have qf := HW3.out.f2
     have hf := HFF.out
     unfold formBad at hf
     clear HFF
     generalize shapeOk t = S at hf ⊢
     cases S with
     | false =>
      rw [if_pos rfl] at hf
      have HQ := Lib.hid hf
      clear hf
      go_wp2_with fail
      refine (ref02_no _ _ _).mono ?_
      rintro e w6 ⟨v6, rfl, hL, hB6⟩
      obtain ⟨Aq, cq, hvq, _, _⟩ := hL.reads
      generalize hnq : List.length _ = nq at hvq
      clear hnq
      subst hvq
      have HL := Lib.hid ((hL.lower (base' := b + 1) (by omega)).setT (g := b) (by omega) 2 (.slice Aq nq cq))
      have HW4 := Lib.hid (HW3.out.below hB6 (by omega))
      have HT4 := Lib.hid (HT3.out.below hB6 (by omega))
      have HB4 : Hid (w.grownBy (w6.setCell ⟨b, 2, none⟩ (.slice Aq nq cq)) (some b)) := Lib.hid ((HB3.out.trans (grownOf hB6 _)).trans (grown_set _ _ _ _))
      clear hL hB6 q2 qf
      have q2 := HW4.out.c2
      have qf := HW4.out.f2
      go_wp2_with fail
      go_meet
      case rel => exact ⟨_, HW4.out.bad _, by rw [HQ.out]; exact HL.out, HT4.out.far HNB.out _ _, HB4.out⟩
     | true =>
      rw [if_neg (by simp)] at hf
      have t0 := HT3.out.c0
      have t1 := HT3.out.c1
      have t2 := HT3.out.c2
      by_cases k1 : t.kd = 1
      ·have e1 : (t.kd == 1) = true := beq_iff_eq.2 k1
       have e2 : (t.kd == 2) = false := beq_eq_false_iff_ne.2 (by omega)
       have e3 : (t.kd == 3) = false := beq_eq_false_iff_ne.2 (by omega)
       have e4 : (t.kd == 4) = false := beq_eq_false_iff_ne.2 (by omega)
       rw [if_pos k1] at hf
       clear k1
       by_cases hlo : t.it < -576460752303423488
       ·have f1 : decide (t.it < -576460752303423488) = true := decide_eq_true hlo
        rw [if_pos (.inl hlo)] at hf
        have HQ := Lib.hid hf
        clear hf
        go_wp2_with fail
        refine (ref02_no _ _ _).mono ?_
        rintro e w6 ⟨v6, rfl, hL, hB6⟩
        obtain ⟨Aq, cq, hvq, _, _⟩ := hL.reads
        generalize hnq : List.length _ = nq at hvq
        clear hnq
        subst hvq
        have HL := Lib.hid ((hL.lower (base' := b + 1) (by omega)).setT (g := b) (by omega) 2 (.slice Aq nq cq))
        have HW4 := Lib.hid (HW3.out.below hB6 (by omega))
        have HT4 := Lib.hid (HT3.out.below hB6 (by omega))
        have HB4 : Hid (w.grownBy (w6.setCell ⟨b, 2, none⟩ (.slice Aq nq cq)) (some b)) := Lib.hid ((HB3.out.trans (grownOf hB6 _)).trans (grown_set _ _ _ _))
        clear hL hB6 q2 qf
        have q2 := HW4.out.c2
        have qf := HW4.out.f2
        go_wp2_with fail
        go_meet
        case rel => exact ⟨_, HW4.out.bad _, by rw [HQ.out]; exact HL.out, HT4.out.far HNB.out _ _, HB4.out⟩
       ·have f1 : decide (t.it < -576460752303423488) = false := decide_eq_false hlo
        by_cases hhi : t.it > 576460752303423487
        ·have f2 : decide (t.it > 576460752303423487) = true := decide_eq_true hhi
         rw [if_pos (.inr hhi)] at hf
         have HQ := Lib.hid hf
         clear hf
         go_wp2_with fail
         refine (ref02_no _ _ _).mono ?_
         rintro e w6 ⟨v6, rfl, hL, hB6⟩
         obtain ⟨Aq, cq, hvq, _, _⟩ := hL.reads
         generalize hnq : List.length _ = nq at hvq
         clear hnq
         subst hvq
         have HL := Lib.hid ((hL.lower (base' := b + 1) (by omega)).setT (g := b) (by omega) 2 (.slice Aq nq cq))
         have HW4 := Lib.hid (HW3.out.below hB6 (by omega))
         have HT4 := Lib.hid (HT3.out.below hB6 (by omega))
         have HB4 : Hid (w.grownBy (w6.setCell ⟨b, 2, none⟩ (.slice Aq nq cq)) (some b)) := Lib.hid ((HB3.out.trans (grownOf hB6 _)).trans (grown_set _ _ _ _))
         clear hL hB6 q2 qf
         have q2 := HW4.out.c2
         have qf := HW4.out.f2
         go_wp2_with fail
         go_meet
         case rel => exact ⟨_, HW4.out.bad _, by rw [HQ.out]; exact HL.out, HT4.out.far HNB.out _ _, HB4.out⟩
        ·have f2 : decide (t.it > 576460752303423487) = false := decide_eq_false hhi
         rw [if_neg (by omega)] at hf
         have HQ := Lib.hid hf
         clear hf
         go_wp2_with fail
         go_meet
         case rel => exact ⟨_, HW3.out, by rw [HQ.out]; exact LnIs.nil _ _, HT3.out, HB3.out⟩
      ·have e1 : (t.kd == 1) = false := beq_eq_false_iff_ne.2 k1
       rw [if_neg k1] at hf
       clear k1
       by_cases k2 : t.kd = 2
       ·have e2 : (t.kd == 2) = true := beq_iff_eq.2 k2
        rw [if_pos k2] at hf
        clear k2
        go_wp2_with fail
        refine (ref01_Quote t.tx (sm_tx HSM.out) _).mono ?_
        rintro e w5 ⟨v5, rfl, hL, hB5⟩
        have hW5 := HW3.out.below hB5 (by omega)
        replace HT3 := Lib.hid (HT3.out.below hB5 (by omega))
        replace HB3 : Hid (w.grownBy w5 (some b)) := Lib.hid (HB3.out.trans (grownOf hB5 _))
        have hsz5 := hB5.size
        clear q2 qf t0 t1 t2 hB5 HW3
        have HW3 := Lib.hid hW5
        have q2 := HW3.out.c2
        have qf := HW3.out.f2
        clear hW5
        try simp only at hL
        have hfl2 := hfl
        rw [hf] at hfl2
        generalize (quoted t.tx).2 = lq at hL hf hfl2
        cases lq with
        | nil =>
         have hv := hL.2 rfl
         subst hv
         have HQ := Lib.hid hf
         clear hf hL hfl2
         have HQ : Hid (F = []) := Lib.hid HQ.out
         go_wp2_with fail
         go_meet
         case rel => exact ⟨_, HW3.out, by rw [HQ.out]; exact LnIs.nil _ _, HT3.out, HB3.out⟩
        | cons x r =>
         have HLL := Lib.hid hL
         obtain ⟨gg, cc, rfl, _, _⟩ := hL.headT
         have HQ := Lib.hid hf
         have hlr : (x :: r).length ≤ 16 := by simp only [overTm, List.length_cons] at hfl2 ⊢; omega
         have HLR := Lib.hid hlr
         clear hf hL hfl2 hlr
         go_wp2_with fail
         refine (ref02_over n x r _ _ _ HLL.out HLR.out).mono ?_
         rintro e w6 ⟨v6, rfl, hL, hB6⟩
         obtain ⟨Aq, cq, hvq, _, _⟩ := hL.reads
         generalize hnq : List.length _ = nq at hvq
         clear hnq
         subst hvq
         have HL := Lib.hid ((hL.lower (base' := b + 1) (by omega)).setT (g := b) (by omega) 2 (.slice Aq nq cq))
         have HW4 := Lib.hid (HW3.out.below hB6 (by omega))
         have HT4 := Lib.hid (HT3.out.below hB6 (by omega))
         have HB4 : Hid (w.grownBy (w6.setCell ⟨b, 2, none⟩ (.slice Aq nq cq)) (some b)) := Lib.hid ((HB3.out.trans (grownOf hB6 _)).trans (grown_set _ _ _ _))
         clear hL hB6 q2 qf
         have q2 := HW4.out.c2
         have qf := HW4.out.f2
         go_wp2_with fail
         go_meet
         case rel => exact ⟨_, HW4.out.bad _, by rw [HQ.out]; exact HL.out, HT4.out.far HNB.out _ _, HB4.out⟩
       ·have e2 : (t.kd == 2) = false := beq_eq_false_iff_ne.2 k2
        rw [if_neg k2] at hf
        clear k2
        by_cases k3 : t.kd = 3
        ·have e3 : (t.kd == 3) = true := beq_iff_eq.2 k3
         rw [if_pos (.inl k3)] at hf
         clear k3
         go_wp2_with fail
         refine (ref01_Node t.tx (sm_tx HSM.out) _).mono ?_
         rintro e w5 ⟨q1_, q2_, v5, rfl, hL, hB5⟩
         have hW5 := HW3.out.below hB5 (by omega)
         replace HT3 := Lib.hid (HT3.out.below hB5 (by omega))
         replace HB3 : Hid (w.grownBy w5 (some b)) := Lib.hid (HB3.out.trans (grownOf hB5 _))
         have hsz5 := hB5.size
         clear q2 qf t0 t1 t2 hB5 HW3
         have HW3 := Lib.hid hW5
         have q2 := HW3.out.c2
         have qf := HW3.out.f2
         clear hW5
         try simp only at hL
         have hfl2 := hfl
         rw [hf] at hfl2
         generalize (nodeBad t.tx) = lq at hL hf hfl2
         cases lq with
         | nil =>
          have hv := hL.2 rfl
          subst hv
          have HQ := Lib.hid hf
          clear hf hL hfl2
          have HQ : Hid (F = []) := Lib.hid HQ.out
          go_wp2_with fail
          go_meet
          case rel => exact ⟨_, HW3.out, by rw [HQ.out]; exact LnIs.nil _ _, HT3.out, HB3.out⟩
         | cons x r =>
          have HLL := Lib.hid hL
          obtain ⟨gg, cc, rfl, _, _⟩ := hL.headT
          have HQ := Lib.hid hf
          have hlr : (x :: r).length ≤ 16 := by simp only [overTm, List.length_cons] at hfl2 ⊢; omega
          have HLR := Lib.hid hlr
          clear hf hL hfl2 hlr
          go_wp2_with fail
          refine (ref02_over n x r _ _ _ HLL.out HLR.out).mono ?_
          rintro e w6 ⟨v6, rfl, hL, hB6⟩
          obtain ⟨Aq, cq, hvq, _, _⟩ := hL.reads
          generalize hnq : List.length _ = nq at hvq
          clear hnq
          subst hvq
          have HL := Lib.hid ((hL.lower (base' := b + 1) (by omega)).setT (g := b) (by omega) 2 (.slice Aq nq cq))
          have HW4 := Lib.hid (HW3.out.below hB6 (by omega))
          have HT4 := Lib.hid (HT3.out.below hB6 (by omega))
          have HB4 : Hid (w.grownBy (w6.setCell ⟨b, 2, none⟩ (.slice Aq nq cq)) (some b)) := Lib.hid ((HB3.out.trans (grownOf hB6 _)).trans (grown_set _ _ _ _))
          clear hL hB6 q2 qf
          have q2 := HW4.out.c2
          have qf := HW4.out.f2
          go_wp2_with fail
          go_meet
          case rel => exact ⟨_, HW4.out.bad _, by rw [HQ.out]; exact HL.out, HT4.out.far HNB.out _ _, HB4.out⟩
        ·have e3 : (t.kd == 3) = false := beq_eq_false_iff_ne.2 k3
         by_cases k4 : t.kd = 4
         ·have e4 : (t.kd == 4) = true := beq_iff_eq.2 k4
          rw [if_pos (.inr k4)] at hf
          clear k3 k4
          go_wp2_with fail
          refine (ref01_Node t.tx (sm_tx HSM.out) _).mono ?_
          rintro e w5 ⟨q1_, q2_, v5, rfl, hL, hB5⟩
          have hW5 := HW3.out.below hB5 (by omega)
          replace HT3 := Lib.hid (HT3.out.below hB5 (by omega))
          replace HB3 : Hid (w.grownBy w5 (some b)) := Lib.hid (HB3.out.trans (grownOf hB5 _))
          have hsz5 := hB5.size
          clear q2 qf t0 t1 t2 hB5 HW3
          have HW3 := Lib.hid hW5
          have q2 := HW3.out.c2
          have qf := HW3.out.f2
          clear hW5
          try simp only at hL
          have hfl2 := hfl
          rw [hf] at hfl2
          generalize (nodeBad t.tx) = lq at hL hf hfl2
          cases lq with
          | nil =>
           have hv := hL.2 rfl
           subst hv
           have HQ := Lib.hid hf
           clear hf hL hfl2
           have HQ : Hid (F = []) := Lib.hid HQ.out
           go_wp2_with fail
           go_meet
           case rel => exact ⟨_, HW3.out, by rw [HQ.out]; exact LnIs.nil _ _, HT3.out, HB3.out⟩
          | cons x r =>
           have HLL := Lib.hid hL
           obtain ⟨gg, cc, rfl, _, _⟩ := hL.headT
           have HQ := Lib.hid hf
           have hlr : (x :: r).length ≤ 16 := by simp only [overTm, List.length_cons] at hfl2 ⊢; omega
           have HLR := Lib.hid hlr
           clear hf hL hfl2 hlr
           go_wp2_with fail
           refine (ref02_over n x r _ _ _ HLL.out HLR.out).mono ?_
           rintro e w6 ⟨v6, rfl, hL, hB6⟩
           obtain ⟨Aq, cq, hvq, _, _⟩ := hL.reads
           generalize hnq : List.length _ = nq at hvq
           clear hnq
           subst hvq
           have HL := Lib.hid ((hL.lower (base' := b + 1) (by omega)).setT (g := b) (by omega) 2 (.slice Aq nq cq))
           have HW4 := Lib.hid (HW3.out.below hB6 (by omega))
           have HT4 := Lib.hid (HT3.out.below hB6 (by omega))
           have HB4 : Hid (w.grownBy (w6.setCell ⟨b, 2, none⟩ (.slice Aq nq cq)) (some b)) := Lib.hid ((HB3.out.trans (grownOf hB6 _)).trans (grown_set _ _ _ _))
           clear hL hB6 q2 qf
           have q2 := HW4.out.c2
           have qf := HW4.out.f2
           go_wp2_with fail
           go_meet
           case rel => exact ⟨_, HW4.out.bad _, by rw [HQ.out]; exact HL.out, HT4.out.far HNB.out _ _, HB4.out⟩
         ·have e4 : (t.kd == 4) = false := beq_eq_false_iff_ne.2 k4
          rw [if_neg (by omega)] at hf
          have HQ := Lib.hid hf
          clear hf k3 k4
          go_wp2_with fail
          go_meet
          case rel => exact ⟨_, HW3.out, by rw [HQ.out]; exact LnIs.nil _ _, HT3.out, HB3.out⟩
  case rest =>
   obtain ⟨vb, hW, hL, hT, hB⟩ := hcut
   clear HW3 HT3 HB3 hsz3 hfl HBW
   have HT := Lib.hid hT
   have hrr := HRR.out
   have hbwc : b < wc.heap.size := hW.lt
   have HK0 := Lib.hid HR.out.g5.2.1
   have HST : Hid ((∃ n' m', d ≤ 256 ∧ 0 ≤ n' ∧ n' ≤ 4096 ∧ 0 ≤ m' ∧ m' ≤ 256 ∧ WrAt wc b n' m' (.slice none 0 0) ∧ measL (t.args.drop 0) (d + 1) n' m' = R) ∨ (∃ n' m' g c z, WrAt wc b n' m' (.slice (some ⟨g, 0, none⟩) z c) ∧ LnIs wc (b + 1) R.1 (.slice (some ⟨g, 0, none⟩) z c) ∧ R.1 ≠ [])) := by
    refine Lib.hid ?_
    cases F with
    | nil =>
     left
     obtain rfl := hL.2 rfl
     have hpn := formPre_nil HF.out.symm
     exact ⟨n + 1, max m d, by omega, by omega, by omega, by omega, by omega, hW, hrr.symm⟩
    | cons x r =>
     right
     obtain ⟨g, c, rfl, _, _⟩ := hL.headT
     rw [hrr]
     exact ⟨_, _, g, c, _, hW, hL, by simp⟩
   have HB := Lib.hid hB
   clear hT hW hL hB hrr HRR HF
   go_wp2_with fail
   go_loopg [12] t.args.length (fun gk vi wl => ∃ (k : Nat), vi = .int .i64 (k : Int) ∧ gk = t.args.length - k ∧ k ≤ t.args.length ∧ Hid (TmAt wl w.heap.size t (.slice A4 t.nums.length c4) (.slice A5 t.args.length c5)) ∧ Hid (w.grownBy wl (some b)) ∧ b < wl.heap.size ∧
    Hid ((∃ n' m', d ≤ 256 ∧ 0 ≤ n' ∧ n' ≤ 4096 ∧ 0 ≤ m' ∧ m' ≤ 256 ∧ WrAt wl b n' m' (.slice none 0 0) ∧ measL (t.args.drop k) (d + 1) n' m' = R) ∨ (∃ n' m' g c z, WrAt wl b n' m' (.slice (some ⟨g, 0, none⟩) z c) ∧ LnIs wl (b + 1) R.1 (.slice (some ⟨g, 0, none⟩) z c) ∧ R.1 ≠ [])))
   case atStart => exact ⟨0, rfl, rfl, Nat.zero_le _, HT, HB, hbwc, HST⟩
   case round =>
    clear HST HT HB hbwc
    obtain ⟨k, rfl, hgk, hk, HT, HB, hbl, HST⟩ := hrel
    have HK := Lib.hid hgk
    have hk0 := HK0.out
    clear hgk
    have t5 := HT.out.c5
    rcases HST.out with ⟨n', m', hd9, a0, a1, a2, a3, hW, hs⟩ | ⟨n', m', g, c, z, hW, hL, hne1⟩
    ·have q2 := hW.c2
     have HW := Lib.hid hW
     have HSS := Lib.hid hs
     clear hW hs HST
     by_cases hlt : k < t.args.length
     ·have HBWl : Hid (Below w0.heap.size w0 wr) := Lib.hid (HB_.out.trans (belowOf HB.out hb0 (by omega)))
      obtain ⟨ad, A4', c4', A5', c5', hA, q0, q1, q2', q3, q4, q5, hTR⟩ := atTm HR.out.g5 (k : Int) (by omega) (by omega)
      subst hA
      simp only [Int.toNat_natCast] at q0 q1 q2' q3 q4 q5
      replace q0 := (HBWl.out.cell (World.block_lt_of_cell? w0 _ q0)).trans q0
      replace q1 := (HBWl.out.cell (World.block_lt_of_cell? w0 _ q1)).trans q1
      replace q2' := (HBWl.out.cell (World.block_lt_of_cell? w0 _ q2')).trans q2'
      replace q3 := (HBWl.out.cell (World.block_lt_of_cell? w0 _ q3)).trans q3
      replace q4 := (HBWl.out.cell (World.block_lt_of_cell? w0 _ q4)).trans q4
      replace q5 := (HBWl.out.cell (World.block_lt_of_cell? w0 _ q5)).trans q5
      obtain ⟨hge, hmem⟩ := rdTm_mem hlt
      have hs := HSS.out
      rw [List.drop_eq_getElem_cons hlt, measL, ← hge] at hs
      generalize rdTm t.args (k : Int) = a at q0 q1 q2' q3 q4 q5 hTR hs hmem
      have HTR := Lib.hid hTR
      have HS2 := Lib.hid hs
      have HMEM := Lib.hid hmem
      have y0 : (0 : Int) ≤ (k : Int) := by omega
      have y1 : (k : Int) < (t.args.length : Int) := by omega
      clear hTR hs hmem hge HSS
      go_wp2_with fail
      refine (HIH.out a HMEM.out A4' A5' c4' c5' (d + 1) n' m' _ HTR.out HBWl.out HW.out (smL_mem (sm_args HSM.out) HMEM.out) a0 a1 a2 a3 (by omega) (by omega)).mono ?_
      rintro e w5 ⟨rfl, hB5, n5, m5, vb5, hW5, hL5, hnm⟩
      have HB5 : Hid (w.grownBy w5 (some b)) := Lib.hid (HB.out.trans hB5)
      have HT5 := Lib.hid (HT.out.grownR hB5 HNB.out)
      have hs := HS2.out
      clear hB5 q0 q1 q2' q3 q4 q5 q2 t5
      have hrg := meas_range a (d + 1) n' m' a0 a1 a2 a3 (by omega)
      generalize measT a (d + 1) n' m' = ra at hL5 hnm hs hrg
      obtain ⟨la, na, ma⟩ := ra
      have hb5 := hW5.lt
      cases la with
      | cons x r =>
       obtain ⟨g, c, rfl, _, _⟩ := hL5.headT
       have HSN : Hid ((∃ n' m', d ≤ 256 ∧ 0 ≤ n' ∧ n' ≤ 4096 ∧ 0 ≤ m' ∧ m' ≤ 256 ∧ WrAt w5 b n' m' (.slice none 0 0) ∧ measL (t.args.drop (k + 1)) (d + 1) n' m' = R) ∨ (∃ n' m' g c z, WrAt w5 b n' m' (.slice (some ⟨g, 0, none⟩) z c) ∧ LnIs w5 (b + 1) R.1 (.slice (some ⟨g, 0, none⟩) z c) ∧ R.1 ≠ [])) :=
        Lib.hid (.inr ⟨n5, m5, g, c, _, hW5, by rw [← hs]; exact hL5, by rw [← hs]; simp⟩)
       clear hs hW5 hL5 hnm hrg HS2
       go_wp2_with fail
       go_roundg (t.args.length - (k + 1))
       case measure => rw [HK.out]; omega
       case rel => exact ⟨k + 1, by go_num, rfl, by omega, HT5, HB5, hb5, HSN⟩
      | nil =>
       obtain rfl := hL5.2 rfl
       obtain ⟨rfl, rfl⟩ := hnm rfl
       have hg9 := hrg rfl
       have HSN : Hid ((∃ n' m', d ≤ 256 ∧ 0 ≤ n' ∧ n' ≤ 4096 ∧ 0 ≤ m' ∧ m' ≤ 256 ∧ WrAt w5 b n' m' (.slice none 0 0) ∧ measL (t.args.drop (k + 1)) (d + 1) n' m' = R) ∨ (∃ n' m' g c z, WrAt w5 b n' m' (.slice (some ⟨g, 0, none⟩) z c) ∧ LnIs w5 (b + 1) R.1 (.slice (some ⟨g, 0, none⟩) z c) ∧ R.1 ≠ [])) :=
        Lib.hid (.inl ⟨n5, m5, hd9, hg9.1, hg9.2.1, hg9.2.2.1, hg9.2.2.2, hW5, hs⟩)
       clear hs hW5 hL5 hnm hrg hg9 HS2
       go_wp2_with fail
       go_roundg (t.args.length - (k + 1))
       case measure => rw [HK.out]; omega
       case rel => exact ⟨k + 1, by go_num, rfl, by omega, HT5, HB5, hb5, HSN⟩
     ·have hs := HSS.out
      rw [List.drop_eq_nil_of_le (by omega), measL] at hs
      have HQ := Lib.hid hs.symm
      have d0 : decide (k < t.args.length) = false := decide_eq_false hlt
      clear hs HSS
      go_wp2_with fail
      go_end0
      exact ⟨rfl, HB.out, n', m', _, HW.out, by rw [HQ.out]; exact LnIs.nil _ _, fun _ => by rw [HQ.out]; exact ⟨rfl, rfl⟩⟩
    ·have q2 := hW.c2
     have HFIN : Hid (PartPost w b R (.returned (.tuple #[])) wr) := Lib.hid ⟨rfl, HB.out, n', m', _, hW, hL, fun h => absurd h hne1⟩
     clear hW hL hne1 HST
     by_cases hlt : k < t.args.length
     ·go_wp2_with fail
      go_end0
      exact HFIN.out
     ·have d0 : decide (k < t.args.length) = false := decide_eq_false hlt
      go_wp2_with fail
      go_end0
      exact HFIN.out
end Go.Proofs.YtibbcfeaododhaaGreatDoor
set_option linter.unusedSimpArgs false
namespace Go.Proofs.YtibbcfeaododhaaGreatDoor
open Go.RowKit Go.Sort Go.Proofs.YtibbcfeaododhaaGreatDoorW.PrintWords
theorem LnIs.wrote6 {W : World} {base g : Nat} {l : List Lk} {v : Value} (h : LnIs W base l v) (x : Tm) (u4 u5 : Value) (hty : ∃ c, W.heap[g]? = some (.cells c tyTm (0, 0))) : LnIs (put6 W g x u4 u5) base l v := by
 obtain ⟨c, hty⟩ := hty
 have h1 := Kd.R_types h.1 hty (by decide)
 exact ⟨Kd.R_mono (Kd.R_grown h1 (grown_put6 W g x u4 u5) (fun k hk => by simpa using hk.2)) (fun _ _ => trivial), h.2⟩
end Go.Proofs.YtibbcfeaododhaaGreatDoor
set_option linter.unusedSimpArgs false
namespace Go.Proofs.YtibbcfeaododhaaGreatDoor
open Go.RowKit Go.Sort Go.Proofs.YtibbcfeaododhaaGreatDoorW.PrintWords
/-- The reader, the result's box, the elements, and the tail in block g. -/
structure ListF (w W : World) (b : Nat) (s : ByteArray) (k d g : Nat) (l : List Tm) (lv : Value) (t : Tm) (v4 v5 : Value) : Prop where
 f : RdF w W b s k d
 ta : TmAt W g t v4 v5
 l : kTm.R tyTm W (w.heap.size + 1) (fun j => j ≠ g ∧ j ≠ b) lv l
 t4 : kU.R tyU32 W (w.heap.size + 1) (fun j => (j ≠ g ∧ j ≠ b) ∧ some j ≠ lv.ownBlock) v4 t.nums
 t5 : kTm.R tyTm W (w.heap.size + 1) (fun j => (j ≠ g ∧ j ≠ b) ∧ some j ≠ lv.ownBlock) v5 t.args
 hg : w.heap.size < g
 hb : b < w.heap.size
theorem ListF.step {w W W' : World} {b : Nat} {s : ByteArray} {k d k2 d2 g : Nat} {l : List Tm} {lv : Value} {t : Tm} {v4 v5 : Value} (h : ListF w W b s k d g l lv t v4 v5) (h2 : RdTo W b s k2 d2 W') : ListF w W' b s k2 d2 g l lv t v4 v5 :=
 ⟨h.f.step h2, h.ta.grown h2.1 (by have := h.hg; have := h.hb; omega), Kd.R_grown h.l h2.1 (fun k hk => by simp; exact hk.2), Kd.R_grown h.t4 h2.1 (fun k hk => by simp; exact hk.1.2), Kd.R_grown h.t5 h2.1 (fun k hk => by simp; exact hk.1.2), h.hg, h.hb⟩
theorem ListF.start {w W0 W : World} {b : Nat} {s : ByteArray} {k d : Nat} {l : List Tm} {lv : Value} (h : RdF w W b s k d) (hl : kTm.R tyTm W W0.heap.size (fun _ => True) lv l) (hs : w.heap.size < W.heap.size) (h0 : w.heap.size + 1 ≤ W0.heap.size) :
  ListF w (W.alloc (.cells #[.int .i64 6, .int .i64 0, .string ⟨#[]⟩, .int .u32 0, .slice none 0 0, .slice none 0 0] 27)) b s k d W.heap.size l lv tmNil vNone vNone := by
 have hlt := h.lt
 have h1 : kTm.R tyTm W W0.heap.size (fun j => j ≠ W.heap.size ∧ j ≠ b) lv l := Kd.R_mono (Kd.R_bound hl) (fun j hj => by have := hj.2.1; have := hj.2.2.1; omega)
 have hb := below_alloc (Below.refl W.heap.size W) (.cells #[.int .i64 6, .int .i64 0, .string ⟨#[]⟩, .int .u32 0, .slice none 0 0, .slice none 0 0] 27)
 have ht := TmAt.new W tmNil vNone vNone
 have ht : TmAt (W.alloc (.cells #[.int .i64 6, .int .i64 0, .string ⟨#[]⟩, .int .u32 0, .slice none 0 0, .slice none 0 0] 27)) W.heap.size tmNil vNone vNone := ht
 generalize W.alloc (.cells #[.int .i64 6, .int .i64 0, .string ⟨#[]⟩, .int .u32 0, .slice none 0 0, .slice none 0 0] 27) = W2 at hb ht ⊢
 exact ⟨h.below hb, ht, Kd.R_lower (Kd.R_below h1 hb) h0, Kd.R_nil _ _ _ _ _, Kd.R_nil _ _ _ _ _, hs, h.lt⟩
theorem tmV_inj {t : Tm} {u4 u5 w4 w5 : Value} (h : tmV t u4 u5 = tmV t w4 w5) : u4 = w4 ∧ u5 = w5 := by
 unfold tmV at h
 have h := Value.agg.inj h
 have h2 := congrArg Array.toList h
 simp only [List.cons.injEq, and_true, true_and] at h2
 exact h2
/-- The tail is read. -/
theorem ListF.tail {w W W' : World} {b : Nat} {s : ByteArray} {k d k2 d2 g : Nat} {l : List Tm} {lv : Value} {t : Tm} {v4 v5 : Value} (h : ListF w W b s k d g l lv t v4 v5) (h2 : RdTo W b s k2 d2 W') (t2 : Tm) {u4 u5 : Value} (hm : TmMade W' W.heap.size t2 (tmV t2 u4 u5)) :
  ListF w (put6 W' g t2 u4 u5) b s k2 d2 g l lv t2 u4 u5 := by
 have h1 := h.step h2
 obtain ⟨w4, w5, e, h4, h5⟩ := hm
 obtain ⟨rfl, rfl⟩ := tmV_inj e
 have hgl := h.ta.lt
 have hbl := h.f.rd.2.lt
 have hll := Kd.R_lt h.l
 have hok : ∀ j, W.heap.size ≤ j → (j ≠ g ∧ j ≠ b) ∧ some j ≠ lv.ownBlock := fun j hj => ⟨by omega, fun e => by have := hll j e.symm; omega⟩
 have hsz : w.heap.size + 1 ≤ W.heap.size := h.f.tm.lt
 have hg6 := grown_put6 W' g t2 u4 u5
 have ht6 : TmAt (put6 W' g t2 u4 u5) g t2 u4 u5 := h1.ta.put t2 u4 u5
 generalize put6 W' g t2 u4 u5 = W6 at hg6 ht6 ⊢
 have k4 := Kd.R_lower (Kd.R_mono (Kd.R_bound h4) (fun j hj => hok j hj.2.1)) hsz
 have k5 := Kd.R_lower (Kd.R_mono (Kd.R_bound h5) (fun j hj => hok j hj.2.1)) hsz
 exact ⟨h1.f.far hg6 h.hg h.hb, ht6, Kd.R_grown h1.l hg6 (fun j hj => by simp; exact hj.1), Kd.R_grown k4 hg6 (fun j hj => by simp; exact hj.1.1), Kd.R_grown k5 hg6 (fun j hj => by simp; exact hj.1.1), h.hg, h.hb⟩
/-- Behind its elements. -/
def lstEnd (F : Nat → Rd) (s : ByteArray) (q : List Tm × Nat × List Lk) : Rd :=
 if q.2.2 = [] then (if isAt s q.2.1 124 then (if (F (q.2.1 + 1)).2.2 = [] then listEnd s q.1 (F (q.2.1 + 1)).1 (blk s (F (q.2.1 + 1)).2.1) else (zTm, 0, (F (q.2.1 + 1)).2.2)) else listEnd s q.1 tmNil q.2.1) else (zTm, 0, q.2.2)
theorem listAt_eq (F : Nat → Rd) (s : ByteArray) (k : Nat) : listAt F s k = if isAt s (blk s k) 93 then (tmNil, blk s k + 1, []) else lstEnd F s (sevAt F s (s.size + 1) (blk s k) []) := by
 unfold listAt lstEnd
 generalize sevAt F s (s.size + 1) (blk s k) [] = q
 obtain ⟨l, e, r⟩ := q
 split
 ·rfl
 ·cases r with
  | nil =>
   simp only [if_true]
   split
   ·generalize F (e + 1) = q2
    obtain ⟨t, e2, r2⟩ := q2
    cases r2 with
    | nil => rfl
    | cons x y => rfl
   ·rfl
  | cons x y => rfl
theorem RdF.appd {w W W' : World} {b : Nat} {s : ByteArray} {k d : Nat} (h : RdF w W b s k d) (hb : Below (w.heap.size + 1) W W') : RdF w W' b s k d :=
 ⟨h.rd.below' hb (Nat.le_succ _) (Nat.lt_succ_of_lt h.lt), h.tm.below hb (Nat.lt_succ_self _), h.lt⟩
theorem tm_rows {W : World} {base : Nat} {ok : Nat → Prop} {l : List Tm} {A : Option Addr} {c : Nat} (h : kTm.R tyTm W base ok (.slice A l.length c) l) : ReadsRow (kTm.M W base ok) kTm.sz W A l.length l := by
 obtain ⟨A', c', he, _, hr⟩ := OwnRow.reads h.2
 injection he with h1 h2 h3
 subst h1
 exact hr.imp_ (Below.refl _ _) (fun _ _ hp => kTm.M_mono (fun k hk => hk.1) hp)
set_option maxRecDepth 100000 in
set_option maxHeartbeats 8000000 in
theorem rd_list (b g4 g5 : Nat) (s : ByteArray) (k0 d : Nat) (F : Nat → Rd) (hF : TermSays s b g4 g5 d F) (hFw : Fwd s F) (h0 : k0 ≤ s.size) (hm : s.size ≤ 4194304) (w : World) (hS : RdAt w b s k0 d) (hX : Boxes w b g4 g5) :
  Calls Tryz.prog 58 #[.pointer (some ⟨b, 0, none⟩), tv g4 g5] w (TermE w b s d (listAt F s k0)) := by
 have hG := hX.gl
 have hEF := callFunc_in Tryz.func25 (by kernel_rfl) rfl
 obtain ⟨R, hR⟩ : ∃ R, R = listAt F s k0 := ⟨_, rfl⟩
 rw [← hR]
 rw [listAt_eq] at hR
 have HR0 := Lib.hid hR
 have HX0 := Lib.hid hX
 have HTS := Lib.hid hF
 have HFW := Lib.hid hFw
 clear hR hX hF hFw
 obtain ⟨w1, hw1⟩ : ∃ W, W = w.alloc (.cells #[.int .i64 0, .int .i64 0, .string ⟨#[]⟩, .int .u32 0, .slice none 0 0, .slice none 0 0] 27) := ⟨_, rfl⟩
 have hF : RdF w w1 b s k0 d := by rw [hw1]; exact RdF.start hS
 have HG : Hid (GlobG w1 b) := Lib.hid (hG.step hF.rd.1)
 have HF := Lib.hid hF
 clear hS hG hF
 go_enter Tryz.func58, Tryz.ntmps58
 go_upto_region 1 with (fail)
 rw [← hw1]
 clear hw1
 have HT1 := Lib.hid (take_c b s k0 d 93 93 (by decide) h0 hm w1 HF.out.rd.2)
 go_wp2_with fail
 refine HT1.out.mono ?_
 rintro e w2 ⟨rfl, hT⟩
 have HF2 := Lib.hid (HF.out.step hT)
 clear hT HT1 HF HG
 cases hc : isAt s (blk s k0) 93 with
 | true =>
  rw [hc] at HF2
  have HR : Hid (R = (tmNil, blk s k0 + 1, [])) := Lib.hid (by rw [HR0.out, if_pos hc])
  have hlt := isAt_lt hc
  clear hc
  have a0 := HF2.out.rd.2.c0
  have a1 := HF2.out.rd.2.c1
  have f1 := HF2.out.rd.2.f1
  obtain ⟨r0, r1, r2, r3, r4, r5, g0, g1, g2, g3, g4, g5⟩ := HF2.out.tm
  simp only [zTm] at r0 r1 r2 r3 r4 r5
  go_wp2_with fail
  refine bodyPost_ret (resTm2 rfl _ _ w.heap.size tmNil _ _ (by rfl) (HF2.out.tm.put tmNil _ _)) rfl ?_
  rw [HR.out]
  exact HF2.out.done tmNil (TmMade.flat _ _ _ _ _ _) (show blk s k0 + 1 ≤ s.size by omega)
 | false =>
  rw [hc] at HF2
  have HR1 : Hid (R = lstEnd F s (sevAt F s (s.size + 1) (blk s k0) [])) := Lib.hid (by rw [HR0.out, if_neg (by simp [hc])])
  have hkb := blk_le s k0 h0
  have HSV := Lib.hid (rd_several b g4 g5 s (blk s k0) d F HTS.out HFW.out hkb hm w2 HF2.out.rd.2 (HX0.out.step HF2.out.rd.1))
  have HSB := Lib.hid (sev_blk HFW.out (s.size + 1) (blk s k0) [] hkb (by omega))
  clear hc HR0
  generalize sevAt F s (s.size + 1) (blk s k0) [] = q at HR1 HSV HSB
  obtain ⟨l, e0, r⟩ := q
  go_wp2_with fail
  refine HSV.out.mono ?_
  rintro e w3 ⟨lv, ev, rfl, hE, hL, hL0, k', hT, hk', hk2⟩
  have HF3 := Lib.hid (HF2.out.step hT)
  have HE := Lib.hid hE
  have HZ2 : Hid (w.heap.size + 1 ≤ w2.heap.size) := Lib.hid HF2.out.tm.lt
  clear hT HSV HF2
  cases r with
  | cons x y =>
   have HR : Hid (R = (zTm, 0, x :: y)) := Lib.hid (HR1.out.trans (by simp [lstEnd]))
   obtain ⟨eb, eu, rfl, _⟩ := hE
   obtain rfl := hL0 (by simp)
   clear hL
   have a0 := HF3.out.rd.2.c0
   have a1 := HF3.out.rd.2.c1
   have f1 := HF3.out.rd.2.f1
   obtain ⟨r0, r1, r2, r3, r4, r5, g0, g1, g2, g3, g4, g5⟩ := HF3.out.tm
   simp only [zTm] at r0 r1 r2 r3 r4 r5
   go_wp2_with fail
   refine bodyPost_ret (resTm2 rfl _ _ w.heap.size zTm _ _ (by rfl) (HF3.out.tm.put zTm _ _)) rfl ?_
   rw [HR.out]
   exact HF3.out.fail HE.out (by simp) hk'
  | nil =>
   obtain rfl : ev = .nilIface := hE
   obtain rfl := hk2 rfl
   have hL := hL rfl
   obtain ⟨A6, c6, rfl⟩ := Kd.R_slice hL
   have hsb := HSB.out rfl
   have HBK : Hid (blk s k' = k') := Lib.hid hsb.1
   have hlen : l.length ≤ s.size := by have := hsb.2.2.1; simp only [List.length_nil] at this; omega
   have HLF := Lib.hid (ListF.start HF3.out hL HF3.out.tm.lt HZ2.out)
   clear hL hL0 hk2 HSB HE hsb
   go_upto_region 7 with (fail)
   generalize w3.alloc (.cells #[.int .i64 6, .int .i64 0, .string ⟨#[]⟩, .int .u32 0, .slice none 0 0, .slice none 0 0] 27) = w4 at HLF ⊢
   generalize w3.heap.size = g at HLF ⊢
   clear HF3 HZ2
   have HT3 := Lib.hid (take_c b s k' d 124 124 (by decide) hk' hm w4 HLF.out.f.rd.2)
   rw [HBK.out] at HT3
   go_wp2_with fail
   refine HT3.out.mono ?_
   rintro e w5 ⟨rfl, hT⟩
   have HL5 := Lib.hid (HLF.out.step hT)
   clear hT HT3 HLF
   cases hc : isAt s k' 124 with
   | false =>
    rw [hc] at HL5
    have HR5 : Hid (R = listEnd s l tmNil (blk s k')) := Lib.hid (HR1.out.trans (by rw [HBK.out]; simp [lstEnd, hc]))
    clear hc HR1
    have HL6 : Hid (ListF w w5 b s k' d g l (.slice A6 l.length c6) tmNil vNone vNone) := Lib.hid HL5.out
    clear HL5
    have HTL := Lib.hid (take_c b s (k') d 93 93 (by decide) (by omega) hm _ HL6.out.f.rd.2)
    go_wp2_with fail
    refine HTL.out.mono ?_
    rintro e w8 ⟨rfl, hT⟩
    have HL8 := Lib.hid (HL6.out.step hT)
    clear hT HTL HL6
    cases hc : isAt s (blk s (k')) 93 with
    | false =>
     rw [hc] at HL8
     have HR : Hid (R = rdNo (blk s (k')) 41) := Lib.hid (HR5.out.trans (by unfold listEnd; rw [if_neg (by simp [hc])]))
     have HF8 := Lib.hid HL8.out.f
     have hk8 : blk s (k') ≤ s.size := blk_le s (k') (by omega)
     clear hc
     go_wp2_with fail
     refine (rd_text b s (blk s (k')) d _ HF8.out.rd.2).mono ?_
     rintro e w7 ⟨v, rfl, hE, hB⟩
     have HE := Lib.hid hE
     have HF7 := Lib.hid (HF8.out.below hB)
     clear hE hB
     have a0 := HF7.out.rd.2.c0
     have a1 := HF7.out.rd.2.c1
     have f1 := HF7.out.rd.2.f1
     obtain ⟨r0, r1, r2, r3, r4, r5, g0, g1, g2, g3, g4, g5⟩ := HF7.out.tm
     simp only [zTm] at r0 r1 r2 r3 r4 r5
     go_wp2_with fail
     refine bodyPost_ret (resTm2 rfl _ _ w.heap.size zTm _ _ (by rfl) (HF7.out.tm.put zTm _ _)) rfl ?_
     rw [HR.out]
     exact HF7.out.fail HE.out (by simp) hk8
    | true =>
     rw [hc] at HL8
     have HR : Hid (R = (joinT l (tmNil), blk s (k') + 1, [])) := Lib.hid (HR5.out.trans (by unfold listEnd; rw [if_pos hc]))
     have hlt := isAt_lt hc
     clear hc
     replace HR : Hid (R = (⟨7, 0, ⟨#[]⟩, 0, [], l ++ [tmNil]⟩, blk s k' + 1, [])) := Lib.hid HR.out
     have HM : Hid (kTm.M w8 (w.heap.size + 1) (fun j => (j ≠ g ∧ j ≠ b) ∧ some j ≠ (Value.slice A6 l.length c6).ownBlock) (tmNil) [.int .i64 (tmNil).kd, .int .i64 (tmNil).it, .string (tmNil).tx, .int .u32 (tmNil).cr, vNone, vNone]) := Lib.hid (kTm_mkM w8 (w.heap.size + 1) _ (tmNil) HL8.out.t4 HL8.out.t5)
     have hl88 : (l.length + 1) * 88 ≤ 140737488355328 := by omega
     have HFR : Hid (∀ j, w8.heap.size ≤ j → j ≠ g ∧ j ≠ b) := Lib.hid fun j hj => by
      have h1 := HL8.out.ta.lt
      have h2 := HL8.out.f.rd.2.lt
      omega
     have HBS : Hid (w.heap.size + 1 ≤ w8.heap.size) := Lib.hid HL8.out.f.tm.lt
     obtain ⟨t0, t1, t2, t3, t4, t5, _, _, _, _, _, _⟩ := HL8.out.ta
     go_wp2_with (at_builtin; refine Kd.R_append kTm (w0 := w8) (w.heap.size + 1) rfl (.tmp 48) (.tmp 50) 25 27 (.agg #[(.int .i64 0), (.int .i64 0), (.string ⟨#[]⟩), (.int .u32 0), (.slice none 0 0), (.slice none 0 0)]) 88 rfl Tryz.underlying25 infoTm rfl (by decide) (by omega) (.slice A6 l.length c6) l (tmNil) [.int .i64 (tmNil).kd, .int .i64 (tmNil).it, .string (tmNil).tx, .int .u32 (tmNil).cr, vNone, vNone] (fun j => j ≠ g ∧ j ≠ b) (fun j => (j ≠ g ∧ j ≠ b) ∧ some j ≠ (Value.slice A6 l.length c6).ownBlock) ?hs ?hx ?hp ?hok ?hfr ?hO ?hB ?hbs ?hl ?_; (case hs => rfl); (case hx => first | rfl | (simp [Act.eval]; done)); (case hp => exact HM.out); (case hok => exact fun _ h => h); (case hfr => exact HFR.out); (case hO => exact HL8.out.l); (case hB => exact Below.refl _ _); (case hbs => exact HBS.out); (case hl => exact hl88); intro v1 w9 ho hb hg hat; obtain ⟨L9, hL9⟩ : ∃ L, L = l ++ [tmNil] := ⟨_, rfl⟩; rw [← hL9] at ho; have HLQ := Lib.hid hL9; clear hL9; obtain ⟨A9, c9, rfl⟩ := Kd.R_slice ho; have HO9 := Lib.hid ho; have HF9 := Lib.hid (HL8.out.f.appd hb); obtain ⟨r0, r1, r2, r3, r4, r5, y0, y1, y2, y3, y4, y5⟩ := HF9.out.tm; simp only [zTm] at r0 r1 r2 r3 r4 r5; clear ho hb hg hat)
     refine bodyPost_ret (resTm2 rfl _ _ w.heap.size ⟨7, 0, ⟨#[]⟩, 0, [], L9⟩ _ _ (by rfl) (HF9.out.tm.put ⟨7, 0, ⟨#[]⟩, 0, [], L9⟩ _ _)) rfl ?_
     rw [HR.out, ← HLQ.out]
     exact HF9.out.done ⟨7, 0, ⟨#[]⟩, 0, [], L9⟩ ⟨_, _, rfl, Kd.R_nil _ _ _ _ _, Kd.R_mono HO9.out (fun _ _ => trivial)⟩ (show _ + 1 ≤ s.size by omega)
   | true =>
    have hlt := isAt_lt hc
    have HL5 : Hid (ListF w w5 b s (k' + 1) d g l (.slice A6 l.length c6) tmNil vNone vNone) := Lib.hid (by have h := HL5.out; rw [hc] at h; exact h)
    have HC := Lib.hid (HTS.out (k' + 1) w5 (by omega) HL5.out.f.rd.2 (HX0.out.step HL5.out.f.rd.1))
    have HQF := Lib.hid (HFW.out (k' + 1))
    have HR5 : Hid (R = if (F (k' + 1)).2.2 = [] then listEnd s l (F (k' + 1)).1 (blk s (F (k' + 1)).2.1) else (zTm, 0, (F (k' + 1)).2.2)) := Lib.hid (HR1.out.trans (by simp [lstEnd, hc]))
    clear hc HR1
    generalize hq : F (k' + 1) = q at HC HQF HR5
    clear hq
    obtain ⟨t, e2, r2⟩ := q
    go_wp2_with fail
    refine HC.out.mono ?_
    rintro e w6 ⟨v, ev, rfl, hM, hE, k2, hT, hk2, hk3⟩
    have HE := Lib.hid hE
    have hM2 := hM
    obtain ⟨v4, v5, rfl, hM4, hM5⟩ := hM2
    obtain ⟨A4, c4, rfl⟩ := Kd.R_slice hM4
    obtain ⟨A5, c5, rfl⟩ := Kd.R_slice hM5
    have HL6 := Lib.hid (HL5.out.tail hT t hM)
    have HS6 := Lib.hid (HL5.out.step hT)
    have HE6 := Lib.hid (hE.wrote6 (HS6.out.ta.c0) t (.slice A4 t.nums.length c4) (.slice A5 t.args.length c5))
    obtain ⟨t0, t1, t2, t3, t4, t5, y0, y1, y2, y3, y4, y5⟩ := HS6.out.ta
    simp only [tmNil] at t0 t1 t2 t3 t4 t5
    clear hM hM4 hM5 hT HC HL5
    unfold tmV
    go_upto_region 9 with (fail)
    obtain ⟨w7, hw7⟩ : ∃ W, W = put6 w6 g t (.slice A4 t.nums.length c4) (.slice A5 t.args.length c5) := ⟨_, rfl⟩
    have HL7 : Hid (ListF w w7 b s k2 d g l (.slice A6 l.length c6) t (.slice A4 t.nums.length c4) (.slice A5 t.args.length c5)) := Lib.hid (by rw [hw7]; exact HL6.out)
    have HE7 : Hid (ErrIs w7 r2 ev) := Lib.hid (by rw [hw7]; exact HE6.out)
    unfold put6 at hw7
    rw [← hw7]
    clear hw7 HL6 HE6 HS6 t0 t1 t2 t3 t4 t5 y0 y1 y2 y3 y4 y5
    cases r2 with
    | cons x y =>
     have HR : Hid (R = (zTm, 0, x :: y)) := Lib.hid (HR5.out.trans (by simp))
     obtain ⟨eb, eu, rfl, _⟩ := hE
     have HF7 := Lib.hid HL7.out.f
     have a0 := HF7.out.rd.2.c0
     have a1 := HF7.out.rd.2.c1
     have f1 := HF7.out.rd.2.f1
     obtain ⟨r0, r1, r2, r3, r4, r5, g0, g1, g2, g3, g4, g5⟩ := HF7.out.tm
     simp only [zTm] at r0 r1 r2 r3 r4 r5
     go_wp2_with fail
     refine bodyPost_ret (resTm2 rfl _ _ w.heap.size zTm _ _ (by rfl) (HF7.out.tm.put zTm _ _)) rfl ?_
     rw [HR.out]
     exact HF7.out.fail HE7.out (by simp) hk2
    | nil =>
     obtain rfl : ev = .nilIface := hE
     obtain rfl := hk3 rfl
     have HR6 : Hid (R = listEnd s l t (blk s k2)) := Lib.hid (HR5.out.trans (by simp))
     have hta : t.args.length ≤ s.size := by have := HQF.out t k2 rfl; omega
     clear hk3 HE HE7 HQF HR5
     have HTL := Lib.hid (take_c b s (k2) d 93 93 (by decide) (by omega) hm _ HL7.out.f.rd.2)
     go_wp2_with fail
     refine HTL.out.mono ?_
     rintro e w8 ⟨rfl, hT⟩
     have HL8 := Lib.hid (HL7.out.step hT)
     clear hT HTL HL7
     cases hc : isAt s (blk s (k2)) 93 with
     | false =>
      rw [hc] at HL8
      have HR : Hid (R = rdNo (blk s (k2)) 41) := Lib.hid (HR6.out.trans (by unfold listEnd; rw [if_neg (by simp [hc])]))
      have HF8 := Lib.hid HL8.out.f
      have hk8 : blk s (k2) ≤ s.size := blk_le s (k2) (by omega)
      clear hc
      go_wp2_with fail
      refine (rd_text b s (blk s (k2)) d _ HF8.out.rd.2).mono ?_
      rintro e w7 ⟨v, rfl, hE, hB⟩
      have HE := Lib.hid hE
      have HF7 := Lib.hid (HF8.out.below hB)
      clear hE hB
      have a0 := HF7.out.rd.2.c0
      have a1 := HF7.out.rd.2.c1
      have f1 := HF7.out.rd.2.f1
      obtain ⟨r0, r1, r2, r3, r4, r5, g0, g1, g2, g3, g4, g5⟩ := HF7.out.tm
      simp only [zTm] at r0 r1 r2 r3 r4 r5
      go_wp2_with fail
      refine bodyPost_ret (resTm2 rfl _ _ w.heap.size zTm _ _ (by rfl) (HF7.out.tm.put zTm _ _)) rfl ?_
      rw [HR.out]
      exact HF7.out.fail HE.out (by simp) hk8
     | true =>
      rw [hc] at HL8
      have HR : Hid (R = (joinT l (t), blk s (k2) + 1, [])) := Lib.hid (HR6.out.trans (by unfold listEnd; rw [if_pos hc]))
      have hlt := isAt_lt hc
      clear hc
      by_cases hk7 : t.kd = 7
      ·have dk : (t.kd == 7) = true := beq_iff_eq.2 hk7
       replace HR : Hid (R = (⟨7, 0, ⟨#[]⟩, 0, [], l ++ t.args⟩, blk s k2 + 1, [])) := Lib.hid (HR.out.trans (by unfold joinT; rw [if_pos hk7]))
       clear hk7
       have hl88 : (l.length + (t).args.length) * 88 ≤ 140737488355328 := by omega
       have HFR : Hid (∀ j, w8.heap.size ≤ j → j ≠ g ∧ j ≠ b) := Lib.hid fun j hj => by
        have h1 := HL8.out.ta.lt
        have h2 := HL8.out.f.rd.2.lt
        omega
       have HBS : Hid (w.heap.size + 1 ≤ w8.heap.size) := Lib.hid HL8.out.f.tm.lt
       obtain ⟨t0, t1, t2, t3, t4, t5, _, _, _, _, _, _⟩ := HL8.out.ta
       go_wp2_with (at_builtin; refine Kd.R_append_rows kTm (Rr := kTm.M w8 (w.heap.size + 1) (fun j => (j ≠ g ∧ j ≠ b) ∧ some j ≠ (Value.slice A6 l.length c6).ownBlock)) (w0 := w8) (w.heap.size + 1) rfl (.tmp 43) (.tmp 45) 25 27 (.agg #[(.int .i64 0), (.int .i64 0), (.string ⟨#[]⟩), (.int .u32 0), (.slice none 0 0), (.slice none 0 0)]) 88 rfl Tryz.underlying25 infoTm rfl (by decide) (by omega) (.slice A6 l.length c6) l (t).args A5 (t).args.length c5 (fun j => j ≠ g ∧ j ≠ b) (fun j => (j ≠ g ∧ j ≠ b) ∧ some j ≠ (Value.slice A6 l.length c6).ownBlock) ?hs ?hx ?hO ?hR ?hKM ?hok ?hfr ?hB ?hbs ?hl ?_; (case hs => rfl); (case hx => rfl); (case hO => exact HL8.out.l); (case hR => exact tm_rows HL8.out.t5); (case hKM => exact fun _ _ h => h); (case hok => exact fun _ h => h); (case hfr => exact HFR.out); (case hB => exact Below.refl _ _); (case hbs => exact HBS.out); (case hl => exact hl88); intro v1 w9 ho hb hg hat; obtain ⟨L9, hL9⟩ : ∃ L, L = l ++ (t).args := ⟨_, rfl⟩; rw [← hL9] at ho; have HLQ := Lib.hid hL9; clear hL9; obtain ⟨A9, c9, rfl⟩ := Kd.R_slice ho; have HO9 := Lib.hid ho; have HF9 := Lib.hid (HL8.out.f.appd hb); obtain ⟨r0, r1, r2, r3, r4, r5, y0, y1, y2, y3, y4, y5⟩ := HF9.out.tm; simp only [zTm] at r0 r1 r2 r3 r4 r5; clear ho hb hg hat)
       refine bodyPost_ret (resTm2 rfl _ _ w.heap.size ⟨7, 0, ⟨#[]⟩, 0, [], L9⟩ _ _ (by rfl) (HF9.out.tm.put ⟨7, 0, ⟨#[]⟩, 0, [], L9⟩ _ _)) rfl ?_
       rw [HR.out, ← HLQ.out]
       exact HF9.out.done ⟨7, 0, ⟨#[]⟩, 0, [], L9⟩ ⟨_, _, rfl, Kd.R_nil _ _ _ _ _, Kd.R_mono HO9.out (fun _ _ => trivial)⟩ (show _ + 1 ≤ s.size by omega)
      ·have dk : (t.kd == 7) = false := beq_eq_false_iff_ne.2 hk7
       replace HR : Hid (R = (⟨7, 0, ⟨#[]⟩, 0, [], l ++ [t]⟩, blk s k2 + 1, [])) := Lib.hid (HR.out.trans (by unfold joinT; rw [if_neg hk7]))
       clear hk7
       have HM : Hid (kTm.M w8 (w.heap.size + 1) (fun j => (j ≠ g ∧ j ≠ b) ∧ some j ≠ (Value.slice A6 l.length c6).ownBlock) (t) [.int .i64 (t).kd, .int .i64 (t).it, .string (t).tx, .int .u32 (t).cr, (.slice A4 t.nums.length c4), (.slice A5 t.args.length c5)]) := Lib.hid (kTm_mkM w8 (w.heap.size + 1) _ (t) HL8.out.t4 HL8.out.t5)
       have hl88 : (l.length + 1) * 88 ≤ 140737488355328 := by omega
       have HFR : Hid (∀ j, w8.heap.size ≤ j → j ≠ g ∧ j ≠ b) := Lib.hid fun j hj => by
        have h1 := HL8.out.ta.lt
        have h2 := HL8.out.f.rd.2.lt
        omega
       have HBS : Hid (w.heap.size + 1 ≤ w8.heap.size) := Lib.hid HL8.out.f.tm.lt
       obtain ⟨t0, t1, t2, t3, t4, t5, _, _, _, _, _, _⟩ := HL8.out.ta
       go_wp2_with (at_builtin; refine Kd.R_append kTm (w0 := w8) (w.heap.size + 1) rfl (.tmp 48) (.tmp 50) 25 27 (.agg #[(.int .i64 0), (.int .i64 0), (.string ⟨#[]⟩), (.int .u32 0), (.slice none 0 0), (.slice none 0 0)]) 88 rfl Tryz.underlying25 infoTm rfl (by decide) (by omega) (.slice A6 l.length c6) l (t) [.int .i64 (t).kd, .int .i64 (t).it, .string (t).tx, .int .u32 (t).cr, (.slice A4 t.nums.length c4), (.slice A5 t.args.length c5)] (fun j => j ≠ g ∧ j ≠ b) (fun j => (j ≠ g ∧ j ≠ b) ∧ some j ≠ (Value.slice A6 l.length c6).ownBlock) ?hs ?hx ?hp ?hok ?hfr ?hO ?hB ?hbs ?hl ?_; (case hs => rfl); (case hx => first | rfl | (simp [Act.eval]; done)); (case hp => exact HM.out); (case hok => exact fun _ h => h); (case hfr => exact HFR.out); (case hO => exact HL8.out.l); (case hB => exact Below.refl _ _); (case hbs => exact HBS.out); (case hl => exact hl88); intro v1 w9 ho hb hg hat; obtain ⟨L9, hL9⟩ : ∃ L, L = l ++ [t] := ⟨_, rfl⟩; rw [← hL9] at ho; have HLQ := Lib.hid hL9; clear hL9; obtain ⟨A9, c9, rfl⟩ := Kd.R_slice ho; have HO9 := Lib.hid ho; have HF9 := Lib.hid (HL8.out.f.appd hb); obtain ⟨r0, r1, r2, r3, r4, r5, y0, y1, y2, y3, y4, y5⟩ := HF9.out.tm; simp only [zTm] at r0 r1 r2 r3 r4 r5; clear ho hb hg hat)
       refine bodyPost_ret (resTm2 rfl _ _ w.heap.size ⟨7, 0, ⟨#[]⟩, 0, [], L9⟩ _ _ (by rfl) (HF9.out.tm.put ⟨7, 0, ⟨#[]⟩, 0, [], L9⟩ _ _)) rfl ?_
       rw [HR.out, ← HLQ.out]
       exact HF9.out.done ⟨7, 0, ⟨#[]⟩, 0, [], L9⟩ ⟨_, _, rfl, Kd.R_nil _ _ _ _ _, Kd.R_mono HO9.out (fun _ _ => trivial)⟩ (show _ + 1 ≤ s.size by omega)
end Go.Proofs.YtibbcfeaododhaaGreatDoor
set_option linter.unusedSimpArgs false
set_option linter.unusedVariables false
namespace Go.Proofs.YtibbcfeaododhaaGreatDoor
open Go.RowKit Go.Sort Go.Proofs.YtibbcfeaododhaaGreatDoorW.PrintWords
section
variable {P : Program} {ops : Array Oper} {o : Oper} {a : Act} {Q : Exit → Act → World → Prop} {Kc : Act → World → Prop} {α : Type} {E : Prop}
end
theorem R_one {W : World} {base : Nat} {okp ok : Nat → Prop} {t : Tm} {cs : List Value} (hp : kTm.M W base okp t cs) (hok : ∀ k, okp k → ok k) (h1 : ok W.heap.size) (h0 : base ≤ W.heap.size) : kTm.R tyTm (W.alloc (.cells cs.toArray tyTm)) base ok (.slice (some ⟨W.heap.size, 0, none⟩) 1 1) [t] := by
 have hl : cs.length = kTm.sz := kTm.K_len (kTm.K_of_M hp)
 have hrep : Reps (kTm.M W base okp) kTm.sz [t] cs := ⟨by simp [hl], fun j p hj => by
  match j, hj with
  | 0, hj =>
   simp only [List.getElem?_cons_zero, Option.some.injEq] at hj
   subst hj
   rw [Nat.zero_mul, List.drop_zero, List.take_of_length_le (by omega)]
   exact hp⟩
 refine ⟨fun k hk => ?_, cs, ?_, ?_⟩
 ·have : W.heap.size = k := by simpa [Value.ownBlock] using hk
  subst this
  exact h1
 ·have h2 := World.ownsRow_lit (base := base) (e := tyTm) (size := kTm.sz) W cs.toArray 1 h0 (by unfold maxLen; omega) (by simp [hl])
  simpa using h2
 ·refine hrep.imp_ (fun p c hp => kTm.M_mono (fun k hk => ⟨hok k hk.1, fun he => ?_⟩) (Kd.M_below (kTm.M_bound hp) (below_alloc (Below.refl _ _) _)))
  have h3 : k = W.heap.size := by simpa [Value.ownBlock] using he
  have := hk.2.2.1
  omega
end Go.Proofs.YtibbcfeaododhaaGreatDoor
set_option linter.unusedSimpArgs false
set_option linter.unusedVariables false
namespace Go.Proofs.YtibbcfeaododhaaGreatDoor
open Go.RowKit Go.Sort Go.Proofs.YtibbcfeaododhaaGreatDoorW.PrintWords
theorem tmAt_box {W : World} {b : Nat} {a : Tm} {v4 v5 : Value} (e : W.heap[b]? = some (.cells #[.int .i64 a.kd, .int .i64 a.it, .string a.tx, .int .u32 a.cr, v4, v5] tyTm (0, 0))) : TmAt W b a v4 v5 := by
 constructor <;> simp [World.cell?, World.frozen?, e]
end Go.Proofs.YtibbcfeaododhaaGreatDoor
set_option linter.unusedSimpArgs false
set_option linter.unusedVariables false
namespace Go.Proofs.YtibbcfeaododhaaGreatDoor
open Go.RowKit Go.Sort Go.Proofs.YtibbcfeaododhaaGreatDoorW.PrintWords
mutual
/-- The rows within a term are of a size that a machine can hold. -/
def bgT : Tm → Bool
 | ⟨_, _, _, _, ns, us⟩ => decide (ns.length * 4 ≤ 140737488351232) && decide (us.length * 88 ≤ 140737488351232) && bgL us
def bgL : List Tm → Bool
 | [] => true
 | a :: us => bgT a && bgL us
end
theorem bgT_eq (t : Tm) : bgT t = (decide (t.nums.length * 4 ≤ 140737488351232) && decide (t.args.length * 88 ≤ 140737488351232) && bgL t.args) := by
 cases t
 rw [bgT]
theorem bg_nums {t : Tm} (h : bgT t = true) : t.nums.length * 4 ≤ 140737488351232 := by
 rw [bgT_eq, Bool.and_eq_true, Bool.and_eq_true, decide_eq_true_eq] at h
 exact h.1.1
theorem bg_len {t : Tm} (h : bgT t = true) : t.args.length * 88 ≤ 140737488351232 := by
 rw [bgT_eq, Bool.and_eq_true, Bool.and_eq_true, decide_eq_true_eq, decide_eq_true_eq] at h
 exact h.1.2
theorem bgL_mem : ∀ {l : List Tm} {a : Tm}, bgL l = true → a ∈ l → bgT a = true
 | b :: l, a, h, hm => by
  rw [bgL, Bool.and_eq_true] at h
  rcases List.mem_cons.1 hm with rfl | hm
  ·exact h.1
  ·exact bgL_mem h.2 hm
theorem bg_args {t : Tm} (h : bgT t = true) {a : Tm} (ha : a ∈ t.args) : bgT a = true := by
 rw [bgT_eq, Bool.and_eq_true] at h
 exact bgL_mem h.2 ha
theorem bgL_of : ∀ {l : List Tm}, (∀ a ∈ l, bgT a = true) → bgL l = true
 | [], _ => by rw [bgL]
 | a :: l, h => by
  rw [bgL, Bool.and_eq_true]
  exact ⟨h a (by simp), bgL_of fun b hb => h b (by simp [hb])⟩
theorem R_emptyU {W : World} {base : Nat} {ok : Nat → Prop} (h0 : base ≤ W.heap.size) (hok : ok W.heap.size) : kU.R tyU32 (W.alloc (.cells #[] tyU32)) base ok (.slice (some ⟨W.heap.size, 0, none⟩) 0 0) [] := by
 refine ⟨fun k hk => ?_, [], ?_, ?_⟩
 ·have : W.heap.size = k := by simpa [Value.ownBlock] using hk
  subst this
  exact hok
 ·have h2 := World.ownsRow_lit (base := base) (e := tyU32) (size := kU.sz) W #[] 0 h0 (by unfold maxLen; omega) (by simp)
  simpa using h2
 ·exact ⟨by simp, fun j p hj => by simp at hj⟩
def CloneE (w : World) (ns : List Int) (e : Ending) (w' : World) : Prop := ∃ v, e = .returned v ∧ kU.R tyU32 w' w.heap.size (fun _ => True) v ns ∧ Below w.heap.size w w'
set_option maxRecDepth 100000 in
set_option maxHeartbeats 1000000 in
theorem slices_Clone (ns : List Int) (A : Option Addr) (c : Nat) (w : World) (hn : ns.length * 4 ≤ 140737488351232) (hC : kU.C w A ns.length ns) :
  Calls Tryz.prog 92 #[.slice A ns.length c] w (CloneE w ns) := by
 have heq := fun (w : World) (a : Option Addr) (n c : Nat) => Lib.run_eql_slice_nil (P := Tryz.prog) w 24 23 a n c 0 0 Tryz.underlying24
 cases A with
 | none =>
  have hz : ns = [] := by
   by_cases h : ns.length = 0
   ·exact List.length_eq_zero_iff.1 h
   ·obtain ⟨ad, e, _⟩ := hC.2.2 (by omega)
    cases e
  subst hz
  clear hC hn
  go_enter Tryz.func92, Tryz.ntmps92
  go_wp2_with fail
  go_ret
  exact ⟨_, rfl, Kd.R_nil _ _ _ _ _, Below.refl _ _⟩
 | some ad =>
  have HL : Hid ((([] : List Int).length + ns.length) * 4 ≤ 140737488355328) := Lib.hid (by simp only [List.length_nil]; omega)
  have hb := below_alloc (Below.refl w.heap.size w) (.cells #[] tyU32)
  have HE := Lib.hid (R_emptyU (W := w) (base := w.heap.size) (ok := fun _ => True) (Nat.le_refl _) trivial)
  have HC := Lib.hid (Kd.C_below hC hb)
  have HB := Lib.hid hb
  clear hC hb hn
  go_enter Tryz.func92, Tryz.ntmps92
  go_wp2_with (at_builtin; refine Kd.R_append_rows kU (Rr := kU.K (w.alloc (.cells #[] tyU32))) (w0 := w) w.heap.size rfl (.tmp 5) (.tmp 6) 24 23 (.int .u32 0) 4 rfl Tryz.underlying24 infoU32 rfl (by decide) (by decide) (.slice (some ⟨w.heap.size, 0, none⟩) 0 0) [] ns (some ad) ns.length c (fun _ => True) (fun _ => False) ?hs ?hx ?hO ?hR ?hKM ?hok ?hfr ?hB ?hbs ?hl ?_; (case hs => rfl); (case hx => rfl); (case hO => exact HE.out); (case hR => exact HC.out); (case hKM => exact fun _ _ h => h); (case hok => exact fun _ h => h.elim); (case hfr => exact fun _ _ => trivial); (case hB => exact HB.out); (case hbs => exact HB.out.size); (case hl => exact HL.out); intro v1 w5 ho hb hg hat; have HO := Lib.hid ho; have HB5 := Lib.hid hb; clear ho hb hg hat)
  go_ret
  exact ⟨_, rfl, HO.out, HB5.out⟩
def CopyE (w : World) (t : Tm) (e : Ending) (w' : World) : Prop := ∃ v, e = .returned v ∧ TmMade w' w.heap.size t v ∧ Below w.heap.size w w'
/-- Copy's walk: its two boxes, the numbers, and what is copied of the parts. -/
structure CpF (w W : World) (t : Tm) (v4 v5 : Value) (i : Nat) (lv : Value) : Prop where
 bl : Below w.heap.size w W
 ba : W.heap[w.heap.size]? = some (.cells #[.int .i64 t.kd, .int .i64 t.it, .string t.tx, .int .u32 t.cr, v4, v5] tyTm (0, 0))
 bx : W.heap[w.heap.size + 1]? = some (.cells #[.int .i64 0, .int .i64 0, .string ⟨#[]⟩, .int .u32 0, .slice none 0 0, .slice none 0 0] tyTm (0, 0))
 n : kU.R tyU32 W (w.heap.size + 2) (fun _ => True) v4 t.nums
 l : kTm.R tyTm W (w.heap.size + 2) (fun _ => True) lv (t.args.take i)
theorem CpF.ta {w W : World} {t : Tm} {v4 v5 lv : Value} {i : Nat} (h : CpF w W t v4 v5 i lv) : TmAt W w.heap.size t v4 v5 := tmAt_box h.ba
theorem CpF.tx {w W : World} {t : Tm} {v4 v5 lv : Value} {i : Nat} (h : CpF w W t v4 v5 i lv) : TmAt W (w.heap.size + 1) zTm vNone vNone := tmAt_box (a := zTm) h.bx
theorem CpF.lt {w W : World} {t : Tm} {v4 v5 lv : Value} {i : Nat} (h : CpF w W t v4 v5 i lv) : w.heap.size + 1 < W.heap.size := (Array.getElem?_eq_some_iff.1 h.bx).1
theorem CpF.below {w W W' : World} {t : Tm} {v4 v5 lv : Value} {i : Nat} (h : CpF w W t v4 v5 i lv) (hb : Below W.heap.size W W') : CpF w W' t v4 v5 i lv :=
 have hl := h.lt
 ⟨h.bl.trans (hb.mono h.bl.size), (hb.block _ (by omega)).trans h.ba, (hb.block _ hl).trans h.bx, Kd.R_below h.n hb, Kd.R_below h.l hb⟩
theorem CpF.app {w W W' : World} {t : Tm} {v4 v5 lv u : Value} {i : Nat} (h : CpF w W t v4 v5 i lv) (hb : Below (w.heap.size + 2) W W') (hg : W.grownBy W' lv.ownBlock) (j : Nat) (hr : kTm.R tyTm W' (w.heap.size + 2) (fun _ => True) u (t.args.take j)) : CpF w W' t v4 v5 j u := by
 refine ⟨h.bl.trans (hb.mono (by omega)), (hb.block _ (by omega)).trans h.ba, (hb.block _ (by omega)).trans h.bx, ?_, hr⟩
 cases hu : lv.ownBlock with
 | none => rw [hu] at hg; exact Kd.R_mono (Kd.R_grown h.n hg (fun k _ => by simp)) (fun _ _ => trivial)
 | some g =>
  rw [hu] at hg
  obtain ⟨c, hc⟩ := Kd.R_typed h.l g hu
  exact Kd.R_mono (Kd.R_grown (Kd.R_types h.n hc (by decide)) hg (fun k hk => by simpa using hk.2)) (fun _ _ => trivial)
theorem R_offs {α : Type} {d : Kd α} {e base g : Nat} {W W' : World} {v : Value} {xs : List α} (h : d.R e W base (fun _ => True) v xs) (hg : W.grownBy W' (some g)) (hlt : g < base) : d.R e W' base (fun _ => True) v xs :=
 Kd.R_mono (Kd.R_grown (Kd.R_bound h) hg (fun k hk => by have := hk.2.1; simp; omega)) (fun _ _ => trivial)
theorem CpF.start {w W2 W : World} {t : Tm} {u4 v4 v5 : Value} (hb2 : Below w.heap.size w W2) (ha : W2.heap[w.heap.size]? = some (.cells #[.int .i64 t.kd, .int .i64 t.it, .string t.tx, .int .u32 t.cr, u4, v5] tyTm (0, 0)))
  (hx : W2.heap[w.heap.size + 1]? = some (.cells #[.int .i64 0, .int .i64 0, .string ⟨#[]⟩, .int .u32 0, .slice none 0 0, .slice none 0 0] tyTm (0, 0))) (hb : Below W2.heap.size W2 W) (hn : kU.R tyU32 W W2.heap.size (fun _ => True) v4 t.nums) :
  CpF w (W.setCell ⟨w.heap.size, 4, none⟩ v4) t v4 v5 0 (.slice none 0 0) := by
 have hl := (Array.getElem?_eq_some_iff.1 hx).1
 have ha1 := (hb.block _ (by omega)).trans ha
 have hx1 := (hb.block _ hl).trans hx
 have hg := grown_set W w.heap.size 4 v4
 have hlt := (Array.getElem?_eq_some_iff.1 ha1).1
 refine ⟨trans_below hb2 hb |>.trans (below_of_grown hg (Nat.le_refl _) (Nat.le_of_lt hlt)), ?_, (hg.block _ (Array.getElem?_eq_some_iff.1 hx1).1 (by simp)).trans hx1, R_offs (Kd.R_lower hn hl) hg (by omega), Kd.R_nil _ _ _ _ _⟩
 simp only [World.setCell]
 rw [Array.getElem?_modify]
 simp [ha1]
theorem CpF.args {w W : World} {t : Tm} {v4 v5 lv : Value} {i : Nat} (h : CpF w W t v4 v5 i lv) : CpF w (W.setCell ⟨w.heap.size, 5, none⟩ lv) t v4 lv i lv := by
 have hl := h.lt
 have hg := grown_set W w.heap.size 5 lv
 refine ⟨h.bl.trans (below_of_grown hg (Nat.le_refl _) h.bl.size), ?_, (hg.block _ hl (by simp)).trans h.bx, R_offs h.n hg (by omega), R_offs h.l hg (by omega)⟩
 have ha1 := h.ba
 simp only [World.setCell]
 rw [Array.getElem?_modify]
 simp [ha1]
theorem CpF.done {w W : World} {t : Tm} {v4 v5 lv : Value} {i : Nat} (h : CpF w W t v4 v5 i lv) (hi : t.args.take i = t.args) : CopyE w t (.returned (tmV t v4 lv)) (put6 W (w.heap.size + 1) t v4 lv) := by
 have hg := grown_put6 W (w.heap.size + 1) t v4 lv
 have hl := h.l
 rw [hi] at hl
 exact ⟨_, rfl, ⟨_, _, rfl, Kd.R_lower (R_offs h.n hg (by omega)) (by omega), Kd.R_lower (R_offs hl hg (by omega)) (by omega)⟩, h.bl.trans (below_of_grown hg (by omega) h.bl.size)⟩
set_option maxRecDepth 100000 in
set_option maxHeartbeats 4000000 in
theorem term_Copy (t : Tm) : ∀ (A4 A5 : Option Addr) (c4 c5 : Nat) (w : World), TmR w t A4 c4 A5 c5 → bgT t = true →
  Calls Tryz.prog 51 #[tmV t (.slice A4 t.nums.length c4) (.slice A5 t.args.length c5)] w (CopyE w t) := by
 induction t using Tm.ind with
 | h t ih =>
  intro A4 A5 c4 c5 w hR hbg
  have HIH := Lib.hid ih
  have HBG := Lib.hid hbg
  have h1 := heap_alloc_new w (.cells #[.int .i64 t.kd, .int .i64 t.it, .string t.tx, .int .u32 t.cr, .slice A4 t.nums.length c4, .slice A5 t.args.length c5] 27)
  have hb1 := below_alloc (Below.refl w.heap.size w) (.cells #[.int .i64 t.kd, .int .i64 t.it, .string t.tx, .int .u32 t.cr, .slice A4 t.nums.length c4, .slice A5 t.args.length c5] 27)
  have s1 : (w.alloc (.cells #[.int .i64 t.kd, .int .i64 t.it, .string t.tx, .int .u32 t.cr, .slice A4 t.nums.length c4, .slice A5 t.args.length c5] 27)).heap.size = w.heap.size + 1 := by simp
  obtain ⟨w1, hw1⟩ : ∃ W, W = w.alloc (.cells #[.int .i64 t.kd, .int .i64 t.it, .string t.tx, .int .u32 t.cr, .slice A4 t.nums.length c4, .slice A5 t.args.length c5] 27) := ⟨_, rfl⟩
  rw [← hw1] at h1 hb1 s1
  have h2 := heap_alloc_new w1 (.cells #[.int .i64 0, .int .i64 0, .string ⟨#[]⟩, .int .u32 0, .slice none 0 0, .slice none 0 0] 27)
  have hb2 := below_alloc (Below.refl w1.heap.size w1) (.cells #[.int .i64 0, .int .i64 0, .string ⟨#[]⟩, .int .u32 0, .slice none 0 0, .slice none 0 0] 27)
  obtain ⟨w2, hw2⟩ : ∃ W, W = w1.alloc (.cells #[.int .i64 0, .int .i64 0, .string ⟨#[]⟩, .int .u32 0, .slice none 0 0, .slice none 0 0] 27) := ⟨_, rfl⟩
  rw [← hw2] at h2 hb2
  have ha := (hb2.block _ (by omega)).trans h1
  rw [s1] at h2
  have hbb := trans_below hb1 hb2
  have HA := Lib.hid ha
  have HX := Lib.hid h2
  have HB := Lib.hid hbb
  have HR := Lib.hid hR
  have HCL := Lib.hid (slices_Clone t.nums A4 c4 w2 (bg_nums hbg) (Kd.C_below hR.g4 hbb))
  have hbn := bg_len hbg
  clear h1 hb1 h2 hb2 ha hbb hR hbg ih s1
  unfold tmV
  go_enter Tryz.func51, Tryz.ntmps51
  go_upto_region 1 with (fail)
  rw [← hw1, ← hw2]
  clear hw1 hw2
  obtain ⟨t0, t1, t2, t3, t4, t5, g0, g1, g2, g3, g4, g5⟩ := tmAt_box HA.out
  go_wp2_with fail
  refine HCL.out.mono ?_
  rintro e w3 ⟨v, rfl, hn, hb⟩
  obtain ⟨B4, d4, rfl⟩ := Kd.R_slice hn
  have HF := Lib.hid (CpF.start HB.out HA.out HX.out hb hn)
  obtain ⟨_, _, _, _, y4, _, _, _, _, _, x4, _⟩ := (tmAt_box HA.out).below hb (tmAt_box HA.out).lt
  clear hn hb HCL HA HX HB t0 t1 t2 t3 t4 t5 g0 g1 g2 g3 g4 g5
  go_upto_region 2 with (fail)
  clear y4 x4
  generalize w3.setCell ⟨w.heap.size, 4, none⟩ (.slice B4 t.nums.length d4) = w4 at HF ⊢
  have t5 := HF.out.ta.c5
  go_wp2_with fail
  clear t5
  go_loopg [3, 13] (t.args.length) (fun gk v3 vi wl => ∃ i : Nat, vi = .int .i64 (i : Int) ∧ gk = t.args.length - i ∧ i ≤ t.args.length ∧ Hid (CpF w wl t (.slice B4 t.nums.length d4) (.slice A5 t.args.length c5) i v3))
  case atStart => exact ⟨0, rfl, rfl, Nat.zero_le _, HF⟩
  case round =>
   clear HF
   obtain ⟨i, rfl, hgk, hi, HF⟩ := hrel
   have HK := Lib.hid hgk
   clear hgk
   by_cases hlt : i < t.args.length
   ·obtain ⟨ad, E4, e4, E5, e5, hA, q0, q1, q2, q3, q4, q5, hTR⟩ := atTm HR.out.g5 (i : Int) (by omega) (by omega)
    cases hA
    simp only [Int.toNat_natCast] at q0 q1 q2 q3 q4 q5
    obtain ⟨hge, hmem⟩ := rdTm_mem hlt
    have htk : t.args.take (i + 1) = t.args.take i ++ [t.args[i]] := by rw [List.take_succ_eq_append_getElem hlt]
    rw [← hge] at htk
    generalize rdTm t.args (i : Int) = a at q0 q1 q2 q3 q4 q5 hTR hmem htk
    have HTK := Lib.hid htk
    have HTR := Lib.hid hTR
    have HMEM := Lib.hid hmem
    have hbl := HF.out.bl
    replace q0 := (hbl.cell (World.block_lt_of_cell? w _ q0)).trans q0
    replace q1 := (hbl.cell (World.block_lt_of_cell? w _ q1)).trans q1
    replace q2 := (hbl.cell (World.block_lt_of_cell? w _ q2)).trans q2
    replace q3 := (hbl.cell (World.block_lt_of_cell? w _ q3)).trans q3
    replace q4 := (hbl.cell (World.block_lt_of_cell? w _ q4)).trans q4
    replace q5 := (hbl.cell (World.block_lt_of_cell? w _ q5)).trans q5
    have y0 : (0 : Int) ≤ (i : Int) := by omega
    have y1 : (i : Int) < (t.args.length : Int) := by omega
    have hli : (t.args.take i).length = i := by rw [List.length_take]; omega
    have HLI := Lib.hid hli
    clear hTR hmem htk hge hbl hli
    go_upto_region 6 with (fail)
    have hb := below_alloc (Below.refl wr.heap.size wr) (.cells #[.int .i64 a.kd, .int .i64 a.it, .string a.tx, .int .u32 a.cr, .slice E4 a.nums.length e4, .slice E5 a.args.length e5] 27)
    have hta := TmAt.new wr a (.slice E4 a.nums.length e4) (.slice E5 a.args.length e5)
    generalize wr.alloc (.cells #[.int .i64 a.kd, .int .i64 a.it, .string a.tx, .int .u32 a.cr, .slice E4 a.nums.length e4, .slice E5 a.args.length e5] 27) = w5 at hb hta ⊢
    have HF5 := Lib.hid (HF.out.below hb)
    have HTA := Lib.hid hta
    clear q0 q1 q2 q3 q4 q5 hb hta HF
    have HC := Lib.hid (HIH.out a HMEM.out E4 E5 e4 e5 w5 (HTR.out.below HF5.out.bl) (bg_args HBG.out HMEM.out))
    unfold tmV at HC
    obtain ⟨s0, s1, s2, s3, s4, s5, _, _, _, _, _, _⟩ := HTA.out
    go_wp2_with fail
    refine HC.out.mono ?_
    rintro e w6 ⟨v, rfl, hM, hB⟩
    obtain ⟨v4, v5, rfl, hM4, hM5⟩ := hM
    obtain ⟨Z4, z4, rfl⟩ := Kd.R_slice hM4
    obtain ⟨Z5, z5, rfl⟩ := Kd.R_slice hM5
    have hsz5 := HF5.out.lt
    have hrl5 := Kd.R_lt HF5.out.l
    have HF6 := Lib.hid (HF5.out.below hB)
    have HM6 : Hid (kTm.M w6 (w.heap.size + 2) (fun j => w5.heap.size ≤ j) a [.int .i64 a.kd, .int .i64 a.it, .string a.tx, .int .u32 a.cr, .slice Z4 a.nums.length z4, .slice Z5 a.args.length z5]) := Lib.hid (kTm_mkM w6 (w.heap.size + 2) _ a
     (Kd.R_lower (Kd.R_mono (Kd.R_bound hM4) (fun j hj => hj.2.1)) (by omega))
     (Kd.R_lower (Kd.R_mono (Kd.R_bound hM5) (fun j hj => hj.2.1)) (by omega)))
    have HLT5 := Lib.hid hrl5
    have HBS : Hid (w.heap.size + 2 ≤ w6.heap.size) := Lib.hid HF6.out.lt
    have HL88 : Hid (((t.args.take i).length + 1) * 88 ≤ 140737488355328) := Lib.hid (Nat.le_trans (Nat.mul_le_mul_right 88 (by rw [HLI.out]; omega)) (Nat.le_trans hbn (by decide)))
    clear hM4 hM5 hB HC s0 s1 s2 s3 s4 s5 hsz5 hrl5 HF5
    unfold tmV
    go_wp2_with (at_builtin; refine Kd.R_append kTm (w0 := w6) (w.heap.size + 2) rfl (.tmp 17) (.tmp 20) 25 27 (.agg #[(.int .i64 0), (.int .i64 0), (.string ⟨#[]⟩), (.int .u32 0), (.slice none 0 0), (.slice none 0 0)]) 88 rfl Tryz.underlying25 infoTm rfl (by decide) (by decide) u3 (t.args.take i) a [.int .i64 a.kd, .int .i64 a.it, .string a.tx, .int .u32 a.cr, .slice Z4 a.nums.length z4, .slice Z5 a.args.length z5] (fun _ => True) (fun j => w5.heap.size ≤ j) ?hs ?hx ?hp ?hok ?hfr ?hO ?hB ?hbs ?hl ?_; (case hs => rfl); (case hx => first | rfl | (simp [Act.eval]; done)); (case hp => exact HM6.out); (case hok => exact fun j hj => ⟨trivial, fun e => by have := HLT5.out j e.symm; omega⟩); (case hfr => exact fun _ _ => trivial); (case hO => exact HF6.out.l); (case hB => exact Below.refl _ _); (case hbs => exact HBS.out); (case hl => exact HL88.out); intro v1 w7 ho hb hg hat; have HF7 := Lib.hid (HF6.out.app hb hg (i + 1) (by rw [HTK.out]; exact ho)); clear ho hb hg hat)
    go_roundg (t.args.length - (i + 1))
    case measure => rw [HK.out]; omega
    case rel => exact ⟨i + 1, by go_num, rfl, by omega, HF7⟩
   ·have hie : t.args.take i = t.args := List.take_of_length_le (by omega)
    have HIE := Lib.hid hie
    have hll := HF.out.l
    rw [hie] at hll
    obtain ⟨TL, yl, hul⟩ := Kd.R_slice hll
    subst hul
    clear hll hie
    obtain ⟨_, _, _, _, _, y5, _, _, _, _, _, x5⟩ := HF.out.ta
    go_upto_region 9 with (fail)
    have HF2 := Lib.hid HF.out.args
    clear y5 x5 HF
    generalize wr.setCell ⟨w.heap.size, 5, none⟩ (.slice TL t.args.length yl) = w5 at HF2 ⊢
    obtain ⟨t0, t1, t2, t3, t4, t5, _, _, _, _, _, _⟩ := HF2.out.ta
    obtain ⟨r0, r1, r2, r3, r4, r5, g0, g1, g2, g3, g4, g5⟩ := HF2.out.tx
    simp only [zTm] at r0 r1 r2 r3 r4 r5
    go_wp2_with fail
    refine bodyPost_ret (resTm rfl _ _ (w.heap.size + 1) t _ _ (by rfl) (HF2.out.tx.put t _ _)) rfl ?_
    exact HF2.out.done HIE.out
end Go.Proofs.YtibbcfeaododhaaGreatDoor
