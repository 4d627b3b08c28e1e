/-
  heddleref02: no, over, bare, form. heddleref02: part, Check, Measure. heddlelaw02.awake. heddleref02: Check, Measure. The walk of TermChecks. heddleref02.Same: two terms are the same just where they are equal. The walk of TermLine. TermBack: a term's text is read as that term. A term handed in: its reading opened.
-/
import Derived.Test.YtgapeacflkfmdaaGreatDoorG4
import Derived.Test.YtgapeacflkfmdaaGreatDoorG2
import Derived.Test.YtgapeacflkfmdaaGreatDoorKPFmx1
import Derived.Test.YtgapeacflkfmdaaGreatDoorG6
import Derived.Test.YtgapeacflkfmdaaGreatDoorG8
import Derived.Deep.RegionHeld3
import Derived.Test.YtgapeacflkfmdaaGreatDoorG3
import Derived.Test.YtgapeacflkfmdaaGreatDoorKPSex1
import Derived.Test.YtgapeacflkfmdaaGreatDoorG1
import Derived.Lib.SmallJoins
import Derived.Deep.Slices
set_option linter.unusedSimpArgs false
namespace Go.Proofs.YtgapeacflkfmdaaGreatDoor
open Go.RowKit Go.Proofs.YtgapeacflkfmdaaGreatDoorW.PrintWords

theorem ref02_no (at_ co : Int) (w : World) : Calls Tryz.prog 52 #[.int .i64 at_, .int .i64 co] w (LnPost w [⟨nTerm, at_, co⟩]) := by
  go_enter Tryz.func52, Tryz.ntmps52
  go_wp2_with fail
  refine (mem_One _ _ _ _).mono ?_
  rintro e w1 ⟨v, rfl, hL, hB⟩
  have HL := Lib.hid hL
  have HB := Lib.hid hB
  clear hL hB
  go_wp2_with fail
  go_ret
  exact ⟨_, rfl, HL.out, HB.out⟩
theorem ref02_over (at_ : Int) (x : Lk) (r : List Lk) (base : Nat) (v : Value) (w : World) (hL : LnIs w base (x :: r) v) (hl : (x :: r).length ≤ 16) :
    Calls Tryz.prog 82 #[.int .i64 at_, v] w (LnPost w (overTm at_ (x :: r))) := by
  obtain ⟨A, c, rfl, hc, hC⟩ := hL.reads
  obtain ⟨ad, rfl, a0, a1, a2⟩ := atLk hC 0 (by decide) (by simp)
  have HO := Lib.hid (mem_Over nTerm at_ x.co (x :: r) hl (some ad) c w hC)
  have ez : ad.add 0 = ad := by simp [Addr.add]
  simp only [Int.toNat_zero, Nat.zero_mul, ez] at a0 a1 a2
  have e0 : rdLk (x :: r) 0 = x := rfl
  rw [e0] at a0 a1 a2
  have y0 : (0 : Int) < ((x :: r).length : Int) := by simp
  generalize (x :: r).length = n at y0 HO ⊢
  clear hC hL
  go_enter Tryz.func82, Tryz.ntmps82
  go_wp2_with fail
  refine HO.out.mono ?_
  rintro e w1 ⟨v, rfl, hL, hB⟩
  have HL := Lib.hid hL
  have HB := Lib.hid hB
  clear hL hB
  go_wp2_with fail
  go_ret
  exact ⟨_, rfl, HL.out, HB.out⟩

/-! ### bare -/
theorem func0_i : PFm.heddleref02_func0.f 40 ⟨#[105]⟩ = some [true, false, false, false, false] := by decide +kernel
theorem func0_s : PFm.heddleref02_func0.f 40 ⟨#[115]⟩ = some [false, true, false, false, false] := by decide +kernel
theorem func0_scn : PFm.heddleref02_func0.f 40 ⟨#[115, 99, 110]⟩ = some [false, true, true, true, false] := by decide +kernel
theorem func0_a : PFm.heddleref02_func0.f 40 ⟨#[97]⟩ = some [false, false, false, false, true] := by decide +kernel
theorem func0_0 : PFm.heddleref02_func0.f 40 ⟨#[]⟩ = some [false, false, false, false, false] := by decide +kernel
/-- Are the fields that a kind does not name zero? -/
def bareOk (t : Tm) (m0 m1 m2 m3 m4 : Bool) : Bool := (m0 || decide (t.it = 0)) && (m1 || decide (t.tx.size = 0)) && (m2 || decide (t.cr = 0)) && (m3 || decide (t.nums.length = 0)) && (m4 || decide (t.args.length = 0))
theorem bools_at {w : World} {base : Nat} {v : Value} {l : List Bool} (h : Kd.R Kd.bool 4 w base (fun _ => True) v l) (hl : 0 < l.length) : ∃ g c, v = .slice (some ⟨g, 0, none⟩) l.length c ∧ ∀ j, j < l.length → w.cell? ⟨g, j, none⟩ = some (.bool (l.getD j false)) := by
  obtain ⟨A, c, hv, hc, hC⟩ := Kd.R_reads h
  have hr := Kd.reads_of_C (d := false) hC
  obtain ⟨ad, rfl, hh⟩ := hr.2.2 hl
  obtain ⟨_, inner, ho, _⟩ := h
  rcases ho.2 with ⟨he, _⟩ | ⟨g, cap, cur, he, _⟩
  · rw [hv] at he
    cases he
  · rw [hv] at he
    injection he with h1 _ _
    injection h1 with h1
    subst h1
    refine ⟨g, c, hv, fun j hj => ?_⟩
    have := hh j hj
    by_cases h0 : j = 0
    · subst h0
      simpa [Addr.add] using this
    · simpa [Addr.add, h0] using this

set_option maxRecDepth 100000 in
set_option maxHeartbeats 4000000 in
theorem bare_i (t : Tm) (A4 A5 : Option Addr) (c4 c5 : Nat) (w : World) :
    Calls Tryz.prog 137 #[tmV t (.slice A4 t.nums.length c4) (.slice A5 t.args.length c5), .string ⟨#[105]⟩] w fun e w' => e = .returned (.bool (bareOk t true false false false false)) ∧ Below w.heap.size w w' := by
  have HT := TmAt.new w t (.slice A4 t.nums.length c4) (.slice A5 t.args.length c5)
  obtain ⟨kd, it, tx, cr, ns, us⟩ := t
  unfold tmV bareOk
  simp only at HT ⊢
  have HT := Lib.hid HT
  have HF := Lib.hid fun w => PFm.heddleref02_func0.calls 40 ⟨#[105]⟩ _ w func0_i
  go_enter Tryz.func137, Tryz.ntmps137
  go_wp2_with fail
  refine (HF.out _).mono ?_
  rintro e w1 ⟨v, rfl, hL, hB⟩
  obtain ⟨g, c, rfl, hcell⟩ := bools_at hL (by decide)
  have a0 := hcell 0 (by decide)
  have a1 := hcell 1 (by decide)
  have a2 := hcell 2 (by decide)
  have a3 := hcell 3 (by decide)
  have a4 := hcell 4 (by decide)
  simp only [List.getD_cons_zero, List.getD_cons_succ] at a0 a1 a2 a3 a4
  have hT1 := HT.out.below hB (by simp)
  have t1 := hT1.c1
  have t2 := hT1.c2
  have t3 := hT1.c3
  have t4 := hT1.c4
  have t5 := hT1.c5
  simp only at t1 t2 t3 t4 t5
  have HB := Lib.hid (trans_below (below_alloc (Below.refl _ _) _) hB)
  clear hL hB hcell hT1 HT HF
  go_wp2
  all_goals go_ret
  all_goals refine ⟨eb ?_, HB.out⟩
  all_goals simp_all [tl_nil]
  all_goals (rw [Bool.eq_iff_iff]; simp_all; done)
set_option maxRecDepth 100000 in
set_option maxHeartbeats 4000000 in
theorem bare_s (t : Tm) (A4 A5 : Option Addr) (c4 c5 : Nat) (w : World) :
    Calls Tryz.prog 137 #[tmV t (.slice A4 t.nums.length c4) (.slice A5 t.args.length c5), .string ⟨#[115]⟩] w fun e w' => e = .returned (.bool (bareOk t false true false false false)) ∧ Below w.heap.size w w' := by
  have HT := TmAt.new w t (.slice A4 t.nums.length c4) (.slice A5 t.args.length c5)
  obtain ⟨kd, it, tx, cr, ns, us⟩ := t
  unfold tmV bareOk
  simp only at HT ⊢
  have HT := Lib.hid HT
  have HF := Lib.hid fun w => PFm.heddleref02_func0.calls 40 ⟨#[115]⟩ _ w func0_s
  go_enter Tryz.func137, Tryz.ntmps137
  go_wp2_with fail
  refine (HF.out _).mono ?_
  rintro e w1 ⟨v, rfl, hL, hB⟩
  obtain ⟨g, c, rfl, hcell⟩ := bools_at hL (by decide)
  have a0 := hcell 0 (by decide)
  have a1 := hcell 1 (by decide)
  have a2 := hcell 2 (by decide)
  have a3 := hcell 3 (by decide)
  have a4 := hcell 4 (by decide)
  simp only [List.getD_cons_zero, List.getD_cons_succ] at a0 a1 a2 a3 a4
  have hT1 := HT.out.below hB (by simp)
  have t1 := hT1.c1
  have t2 := hT1.c2
  have t3 := hT1.c3
  have t4 := hT1.c4
  have t5 := hT1.c5
  simp only at t1 t2 t3 t4 t5
  have HB := Lib.hid (trans_below (below_alloc (Below.refl _ _) _) hB)
  clear hL hB hcell hT1 HT HF
  go_wp2
  all_goals go_ret
  all_goals refine ⟨eb ?_, HB.out⟩
  all_goals simp_all [tl_nil]
  all_goals (rw [Bool.eq_iff_iff]; simp_all; done)
set_option maxRecDepth 100000 in
set_option maxHeartbeats 4000000 in
theorem bare_scn (t : Tm) (A4 A5 : Option Addr) (c4 c5 : Nat) (w : World) :
    Calls Tryz.prog 137 #[tmV t (.slice A4 t.nums.length c4) (.slice A5 t.args.length c5), .string ⟨#[115, 99, 110]⟩] w fun e w' => e = .returned (.bool (bareOk t false true true true false)) ∧ Below w.heap.size w w' := by
  have HT := TmAt.new w t (.slice A4 t.nums.length c4) (.slice A5 t.args.length c5)
  obtain ⟨kd, it, tx, cr, ns, us⟩ := t
  unfold tmV bareOk
  simp only at HT ⊢
  have HT := Lib.hid HT
  have HF := Lib.hid fun w => PFm.heddleref02_func0.calls 40 ⟨#[115, 99, 110]⟩ _ w func0_scn
  go_enter Tryz.func137, Tryz.ntmps137
  go_wp2_with fail
  refine (HF.out _).mono ?_
  rintro e w1 ⟨v, rfl, hL, hB⟩
  obtain ⟨g, c, rfl, hcell⟩ := bools_at hL (by decide)
  have a0 := hcell 0 (by decide)
  have a1 := hcell 1 (by decide)
  have a2 := hcell 2 (by decide)
  have a3 := hcell 3 (by decide)
  have a4 := hcell 4 (by decide)
  simp only [List.getD_cons_zero, List.getD_cons_succ] at a0 a1 a2 a3 a4
  have hT1 := HT.out.below hB (by simp)
  have t1 := hT1.c1
  have t2 := hT1.c2
  have t3 := hT1.c3
  have t4 := hT1.c4
  have t5 := hT1.c5
  simp only at t1 t2 t3 t4 t5
  have HB := Lib.hid (trans_below (below_alloc (Below.refl _ _) _) hB)
  clear hL hB hcell hT1 HT HF
  go_wp2
  all_goals go_ret
  all_goals refine ⟨eb ?_, HB.out⟩
  all_goals simp_all [tl_nil]
  all_goals (rw [Bool.eq_iff_iff]; simp_all; done)
set_option maxRecDepth 100000 in
set_option maxHeartbeats 4000000 in
theorem bare_a (t : Tm) (A4 A5 : Option Addr) (c4 c5 : Nat) (w : World) :
    Calls Tryz.prog 137 #[tmV t (.slice A4 t.nums.length c4) (.slice A5 t.args.length c5), .string ⟨#[97]⟩] w fun e w' => e = .returned (.bool (bareOk t false false false false true)) ∧ Below w.heap.size w w' := by
  have HT := TmAt.new w t (.slice A4 t.nums.length c4) (.slice A5 t.args.length c5)
  obtain ⟨kd, it, tx, cr, ns, us⟩ := t
  unfold tmV bareOk
  simp only at HT ⊢
  have HT := Lib.hid HT
  have HF := Lib.hid fun w => PFm.heddleref02_func0.calls 40 ⟨#[97]⟩ _ w func0_a
  go_enter Tryz.func137, Tryz.ntmps137
  go_wp2_with fail
  refine (HF.out _).mono ?_
  rintro e w1 ⟨v, rfl, hL, hB⟩
  obtain ⟨g, c, rfl, hcell⟩ := bools_at hL (by decide)
  have a0 := hcell 0 (by decide)
  have a1 := hcell 1 (by decide)
  have a2 := hcell 2 (by decide)
  have a3 := hcell 3 (by decide)
  have a4 := hcell 4 (by decide)
  simp only [List.getD_cons_zero, List.getD_cons_succ] at a0 a1 a2 a3 a4
  have hT1 := HT.out.below hB (by simp)
  have t1 := hT1.c1
  have t2 := hT1.c2
  have t3 := hT1.c3
  have t4 := hT1.c4
  have t5 := hT1.c5
  simp only at t1 t2 t3 t4 t5
  have HB := Lib.hid (trans_below (below_alloc (Below.refl _ _) _) hB)
  clear hL hB hcell hT1 HT HF
  go_wp2
  all_goals go_ret
  all_goals refine ⟨eb ?_, HB.out⟩
  all_goals simp_all [tl_nil]
  all_goals (rw [Bool.eq_iff_iff]; simp_all; done)
set_option maxRecDepth 100000 in
set_option maxHeartbeats 4000000 in
theorem bare_0 (t : Tm) (A4 A5 : Option Addr) (c4 c5 : Nat) (w : World) :
    Calls Tryz.prog 137 #[tmV t (.slice A4 t.nums.length c4) (.slice A5 t.args.length c5), .string ⟨#[]⟩] w fun e w' => e = .returned (.bool (bareOk t false false false false false)) ∧ Below w.heap.size w w' := by
  have HT := TmAt.new w t (.slice A4 t.nums.length c4) (.slice A5 t.args.length c5)
  obtain ⟨kd, it, tx, cr, ns, us⟩ := t
  unfold tmV bareOk
  simp only at HT ⊢
  have HT := Lib.hid HT
  have HF := Lib.hid fun w => PFm.heddleref02_func0.calls 40 ⟨#[]⟩ _ w func0_0
  go_enter Tryz.func137, Tryz.ntmps137
  go_wp2_with fail
  refine (HF.out _).mono ?_
  rintro e w1 ⟨v, rfl, hL, hB⟩
  obtain ⟨g, c, rfl, hcell⟩ := bools_at hL (by decide)
  have a0 := hcell 0 (by decide)
  have a1 := hcell 1 (by decide)
  have a2 := hcell 2 (by decide)
  have a3 := hcell 3 (by decide)
  have a4 := hcell 4 (by decide)
  simp only [List.getD_cons_zero, List.getD_cons_succ] at a0 a1 a2 a3 a4
  have hT1 := HT.out.below hB (by simp)
  have t1 := hT1.c1
  have t2 := hT1.c2
  have t3 := hT1.c3
  have t4 := hT1.c4
  have t5 := hT1.c5
  simp only at t1 t2 t3 t4 t5
  have HB := Lib.hid (trans_below (below_alloc (Below.refl _ _) _) hB)
  clear hL hB hcell hT1 HT HF
  go_wp2
  all_goals go_ret
  all_goals refine ⟨eb ?_, HB.out⟩
  all_goals simp_all [tl_nil]
  all_goals (rw [Bool.eq_iff_iff]; simp_all; done)

theorem bare_empty (t : Tm) (m1 m23 m4 : Bool) (h : t.kd ≠ 1) : bareOk t false m1 m23 m23 m4 = emptyOk t m1 m23 m4 := by
  unfold bareOk emptyOk
  rw [decide_eq_false h]
  generalize decide (t.it = 0) = a
  generalize decide (t.tx.size = 0) = b
  generalize decide (t.cr = 0) = c
  generalize decide (t.nums.length = 0) = d
  generalize decide (t.args.length = 0) = e
  revert a b c d e m1 m23 m4
  decide
theorem bare_empty1 (t : Tm) (h : t.kd = 1) : bareOk t true false false false false = emptyOk t false false false := by
  unfold bareOk emptyOk
  rw [decide_eq_true h]
  generalize decide (t.it = 0) = a
  generalize decide (t.tx.size = 0) = b
  generalize decide (t.cr = 0) = c
  generalize decide (t.nums.length = 0) = d
  generalize decide (t.args.length = 0) = e
  revert a b c d e
  decide
set_option maxRecDepth 100000 in
set_option maxHeartbeats 8000000 in
theorem ref02_form (t : Tm) (A4 A5 : Option Addr) (c4 c5 : Nat) (w : World) (hR : TmR w t A4 c4 A5 c5) :
    Calls Tryz.prog 81 #[tmV t (.slice A4 t.nums.length c4) (.slice A5 t.args.length c5)] w fun e w' => e = .returned (.bool (shapeOk t)) ∧ Below w.heap.size w w' := by
  unfold tmV
  have HR := Lib.hid hR
  obtain ⟨S, hS⟩ : ∃ S, S = shapeOk t := ⟨_, rfl⟩
  rw [← hS]
  have hlen := hR.g5.2.1
  clear hR
  unfold shapeOk at hS
  have HT0 := Lib.hid (TmAt.new w t (.slice A4 t.nums.length c4) (.slice A5 t.args.length c5))
  have HB0 := Lib.hid (below_alloc (Below.refl w.heap.size w) (.cells #[.int .i64 t.kd, .int .i64 t.it, .string t.tx, .int .u32 t.cr, .slice A4 t.nums.length c4, .slice A5 t.args.length c5] 27))
  go_enter Tryz.func81, Tryz.ntmps81
  go_upto_block 0 with (fail)
  by_cases k1 : t.kd = 1
  · have d1 : (t.kd == 1) = true := beq_iff_eq.2 k1
    rw [if_pos k1, ← bare_empty1 t k1] at hS
    have HQ := Lib.hid hS
    clear hS k1
    go_wp2_with fail
    refine (bare_i t A4 A5 c4 c5 _).mono ?_
    rintro e w1 ⟨rfl, hB⟩
    have HT := Lib.hid ((TmAt.new w t (.slice A4 t.nums.length c4) (.slice A5 t.args.length c5)).below hB (by simp))
    have HB := Lib.hid (trans_below (below_alloc (Below.refl _ _) _) hB)
    clear hB
    go_wp2_with fail
    go_ret
    exact ⟨eb (by rw [HQ.out]), HB.out⟩
  · have d1 : (t.kd == 1) = false := beq_eq_false_iff_ne.2 k1
    rw [if_neg k1] at hS
    by_cases k2 : t.kd = 2
    · have d2 : (t.kd == 2) = true := beq_iff_eq.2 k2
      rw [if_pos k2, ← bare_empty t _ _ _ k1] at hS
      have HQ := Lib.hid hS
      clear hS k1 k2
      go_wp2_with fail
      refine (bare_s t A4 A5 c4 c5 _).mono ?_
      rintro e w1 ⟨rfl, hB⟩
      have HT := Lib.hid ((TmAt.new w t (.slice A4 t.nums.length c4) (.slice A5 t.args.length c5)).below hB (by simp))
      have HB := Lib.hid (trans_below (below_alloc (Below.refl _ _) _) hB)
      clear hB
      go_wp2_with fail
      go_ret
      exact ⟨eb (by rw [HQ.out]), HB.out⟩
    · have d2 : (t.kd == 2) = false := beq_eq_false_iff_ne.2 k2
      rw [if_neg k2] at hS
      clear k2
      by_cases k3 : t.kd = 3
      · have d3 : (t.kd == 3) = true := beq_iff_eq.2 k3
        rw [if_pos k3] at hS
        have HQ := Lib.hid hS
        have HBE := Lib.hid (bare_empty t true true false k1)
        clear hS k1 k3
        go_wp2_with fail
        refine (bare_scn t A4 A5 c4 c5 _).mono ?_
        rintro e w1 ⟨rfl, hB⟩
        have HT := Lib.hid ((TmAt.new w t (.slice A4 t.nums.length c4) (.slice A5 t.args.length c5)).below hB (by simp))
        have HB := Lib.hid (trans_below (below_alloc (Below.refl _ _) _) hB)
        clear hB
        generalize hE : emptyOk t true true false = E at HQ HBE
        clear hE
        rw [HBE.out]
        cases E with
        | false =>
          rw [Bool.false_and] at HQ
          go_wp2_with fail
          go_ret
          exact ⟨eb (by rw [HQ.out]), HB.out⟩
        | true =>
          rw [Bool.true_and] at HQ
          have r4 := HT.out.c4
          by_cases hn : t.nums.length = 3
          · have dn : ((t.nums.length : Int) == 3) = true := beq_iff_eq.2 (by omega)
            rw [decide_eq_true hn] at HQ
            clear hn
            go_wp2_with fail
            go_ret
            exact ⟨eb (by rw [HQ.out]), HB.out⟩
          · have dn : ((t.nums.length : Int) == 3) = false := beq_eq_false_iff_ne.2 (by omega)
            rw [decide_eq_false hn] at HQ
            clear hn
            go_wp2_with fail
            go_ret
            exact ⟨eb (by rw [HQ.out]), HB.out⟩
      · have d3 : (t.kd == 3) = false := beq_eq_false_iff_ne.2 k3
        rw [if_neg k3] at hS
        clear k3
        by_cases k4 : t.kd = 4
        · have d4 : (t.kd == 4) = true := beq_iff_eq.2 k4
          rw [if_pos k4] at hS
          have HQ := Lib.hid hS
          have HBE := Lib.hid (bare_empty t true true false k1)
          clear hS k1 k4
          go_wp2_with fail
          refine (bare_scn t A4 A5 c4 c5 _).mono ?_
          rintro e w1 ⟨rfl, hB⟩
          have HT := Lib.hid ((TmAt.new w t (.slice A4 t.nums.length c4) (.slice A5 t.args.length c5)).below hB (by simp))
          have HB := Lib.hid (trans_below (below_alloc (Below.refl _ _) _) hB)
          clear hB
          generalize hE : emptyOk t true true false = E at HQ HBE
          clear hE
          rw [HBE.out]
          cases E with
          | false =>
            rw [Bool.false_and] at HQ
            go_wp2_with fail
            go_ret
            exact ⟨eb (by rw [HQ.out]), HB.out⟩
          | true =>
            rw [Bool.true_and] at HQ
            have r4 := HT.out.c4
            by_cases hn : t.nums.length = 2
            · have dn : ((t.nums.length : Int) == 2) = true := beq_iff_eq.2 (by omega)
              rw [decide_eq_true hn] at HQ
              clear hn
              go_wp2_with fail
              go_ret
              exact ⟨eb (by rw [HQ.out]), HB.out⟩
            · have dn : ((t.nums.length : Int) == 2) = false := beq_eq_false_iff_ne.2 (by omega)
              rw [decide_eq_false hn] at HQ
              clear hn
              go_wp2_with fail
              go_ret
              exact ⟨eb (by rw [HQ.out]), HB.out⟩
        · have d4 : (t.kd == 4) = false := beq_eq_false_iff_ne.2 k4
          rw [if_neg k4] at hS
          clear k4
          by_cases k5 : t.kd = 5
          · have d5 : (t.kd == 5) = true := beq_iff_eq.2 k5
            rw [if_pos k5, ← bare_empty t _ _ _ k1] at hS
            have HQ := Lib.hid hS
            clear hS k1 k5
            go_wp2_with fail
            refine (bare_a t A4 A5 c4 c5 _).mono ?_
            rintro e w1 ⟨rfl, hB⟩
            have HT := Lib.hid ((TmAt.new w t (.slice A4 t.nums.length c4) (.slice A5 t.args.length c5)).below hB (by simp))
            have HB := Lib.hid (trans_below (below_alloc (Below.refl _ _) _) hB)
            clear hB
            go_wp2_with fail
            go_ret
            exact ⟨eb (by rw [HQ.out]), HB.out⟩
          · have d5 : (t.kd == 5) = false := beq_eq_false_iff_ne.2 k5
            rw [if_neg k5] at hS
            clear k5
            by_cases k6 : t.kd = 6
            · have d6 : (t.kd == 6) = true := beq_iff_eq.2 k6
              rw [if_pos k6, ← bare_empty t _ _ _ k1] at hS
              have HQ := Lib.hid hS
              clear hS k1 k6
              go_wp2_with fail
              refine (bare_0 t A4 A5 c4 c5 _).mono ?_
              rintro e w1 ⟨rfl, hB⟩
              have HT := Lib.hid ((TmAt.new w t (.slice A4 t.nums.length c4) (.slice A5 t.args.length c5)).below hB (by simp))
              have HB := Lib.hid (trans_below (below_alloc (Below.refl _ _) _) hB)
              clear hB
              go_wp2_with fail
              go_ret
              exact ⟨eb (by rw [HQ.out]), HB.out⟩
            · have d6 : (t.kd == 6) = false := beq_eq_false_iff_ne.2 k6
              rw [if_neg k6] at hS
              clear k6
              by_cases k7 : t.kd = 7
              · have d7 : (t.kd == 7) = true := beq_iff_eq.2 k7
                rw [if_pos k7] at hS
                have HQ := Lib.hid hS
                have HBE := Lib.hid (bare_empty t false false true k1)
                clear hS k1 k7
                go_wp2_with fail
                refine (bare_a t A4 A5 c4 c5 _).mono ?_
                rintro e w1 ⟨rfl, hB⟩
                have HT := Lib.hid ((TmAt.new w t (.slice A4 t.nums.length c4) (.slice A5 t.args.length c5)).below hB (by simp))
                have HB := Lib.hid (trans_below (below_alloc (Below.refl _ _) _) hB)
                clear hB
                generalize hE : emptyOk t false false true = E at HQ HBE
                clear hE
                rw [HBE.out]
                cases E with
                | false =>
                  rw [Bool.false_and, Bool.false_and] at HQ
                  go_wp2_with fail
                  go_ret
                  exact ⟨eb (by rw [HQ.out]), HB.out⟩
                | true =>
                  rw [Bool.true_and] at HQ
                  have r5 := HT.out.c5
                  by_cases hn : (t.args.length : Int) ≥ 2
                  · have dn : decide ((t.args.length : Int) ≥ 2) = true := decide_eq_true hn
                    rw [decide_eq_true (show 2 ≤ t.args.length by omega), Bool.true_and] at HQ
                    obtain ⟨ad, A4', c4', A5', c5', rfl, a0, _⟩ := atTm (HR.out.below HB.out).g5 ((t.args.length : Int) - 1) (by omega) (by omega)
                    have ek : ((t.args.length : Int) - 1).toNat = t.args.length - 1 := by omega
                    have hlk : (rdTm t.args ((t.args.length : Int) - 1)).kd = lastKd t := rfl
                    rw [hlk] at a0
                    simp only [ek] at a0
                    have y0 : (0 : Int) ≤ (t.args.length : Int) - 1 := by omega
                    have y1 : (t.args.length : Int) - 1 < (t.args.length : Int) := by omega
                    generalize lastKd t = K at a0 HQ
                    clear ek hlk
                    by_cases h7 : K = 7
                    · have d8 : (K != 7) = false := by simp [h7]
                      rw [decide_eq_false (by simp [h7])] at HQ
                      clear h7
                      go_wp2_with fail
                      go_ret
                      exact ⟨eb (by rw [HQ.out]), HB.out⟩
                    · have d8 : (K != 7) = true := by simp [h7]
                      rw [decide_eq_true h7] at HQ
                      clear h7
                      go_wp2_with fail
                      go_ret
                      exact ⟨eb (by rw [HQ.out]), HB.out⟩
                  · have dn : decide ((t.args.length : Int) ≥ 2) = false := decide_eq_false hn
                    rw [decide_eq_false (show ¬ 2 ≤ t.args.length by omega), Bool.false_and] at HQ
                    go_wp2_with fail
                    go_ret
                    exact ⟨eb (by rw [HQ.out]), HB.out⟩
              · have d7 : (t.kd == 7) = false := beq_eq_false_iff_ne.2 k7
                rw [if_neg k7] at hS
                have HQ := Lib.hid hS
                have HB := HB0
                clear hS k1 k7
                go_wp2_with fail
                go_ret
                exact ⟨eb (by rw [HQ.out]), HB.out⟩
end Go.Proofs.YtgapeacflkfmdaaGreatDoor
namespace Go.Proofs.YtgapeacflkfmdaaGreatDoor
open Go.RowKit Go.Proofs.YtgapeacflkfmdaaGreatDoorW.PrintWords

theorem LnIs.headT {W : World} {base : Nat} {x : Lk} {r : List Lk} {v : Value} (h : LnIs W base (x :: r) v) :
    ∃ g c : Nat, v = .slice (some ⟨g, 0, none⟩) (r.length + 1) c ∧ base ≤ g ∧ g < W.heap.size := by
  obtain ⟨A, c, rfl, _, hC⟩ := h.reads
  obtain ⟨inner, ho⟩ := Kd.R_own h.1
  obtain ⟨g, cap, hv, hg1, hg2⟩ := ho.form (by simp)
  injection hv with hA _ _
  subst hA
  exact ⟨g, c, rfl, hg1, hg2⟩
theorem LnIs.setT {W : World} {base g : Nat} {l : List Lk} {v : Value} (h : LnIs W base l v) (hg : g < base) (o : Nat) (u : Value) : LnIs (W.setCell ⟨g, o, none⟩ u) base l v := by
  refine ⟨Kd.R_grown1 h.1 rfl (grown_set _ _ _ _) ?_, h.2⟩
  obtain ⟨inner, ho⟩ := Kd.R_own h.1
  intro he
  have := own_base ho _ he.symm
  omega

theorem grownOf {w w' : World} (h : Below w.heap.size w w') (r : Option Nat) : w.grownBy w' r := ⟨h.os, h.tape, h.output, h.size, fun k hk _ => h.block k hk⟩
theorem belowOf {w w' : World} {b n : Nat} (h : w.grownBy w' (some b)) (hn : n ≤ b) (hw : n ≤ w.heap.size) : Below n w w' := ⟨h.os, h.tape, h.output, h.size, fun k hk => h.block k (by omega) (by simp; omega)⟩
/-- The reference's walker: how many parts, how deep, the fault. -/
structure WrAt (W : World) (b : Nat) (n m : Int) (vb : Value) : Prop where
  c0 : W.cell? ⟨b, 0, none⟩ = some (.int .i64 n)
  c1 : W.cell? ⟨b, 1, none⟩ = some (.int .i64 m)
  c2 : W.cell? ⟨b, 2, none⟩ = some vb
  f0 : W.frozen? ⟨b, 0, none⟩ = false
  f1 : W.frozen? ⟨b, 1, none⟩ = false
  f2 : W.frozen? ⟨b, 2, none⟩ = false
theorem WrAt.lt {W : World} {b : Nat} {n m : Int} {vb : Value} (h : WrAt W b n m vb) : b < W.heap.size := World.block_lt_of_cell? W _ h.c0
theorem WrAt.below {W W' : World} {b k : Nat} {n m : Int} {vb : Value} (h : WrAt W b n m vb) (hb : Below k W W') (hk : b < k) : WrAt W' b n m vb :=
  ⟨(hb.cell hk).trans h.c0, (hb.cell hk).trans h.c1, (hb.cell hk).trans h.c2, (hb.frozen hk).trans h.f0, (hb.frozen hk).trans h.f1, (hb.frozen hk).trans h.f2⟩
theorem WrAt.put {W : World} {b : Nat} {n m : Int} {vb : Value} (h : WrAt W b n m vb) (n' m' : Int) : WrAt ((W.setCell ⟨b, 0, none⟩ (.int .i64 n')).setCell ⟨b, 1, none⟩ (.int .i64 m')) b n' m' vb := by
  obtain ⟨c0, c1, c2, f0, f1, f2⟩ := h
  constructor <;> simp [World.cell?_setCell_other, World.cell?_setCell_same, World.frozen?_setCell, *]
theorem WrAt.bad {W : World} {b : Nat} {n m : Int} {vb : Value} (h : WrAt W b n m vb) (v : Value) : WrAt (W.setCell ⟨b, 2, none⟩ v) b n m v := by
  obtain ⟨c0, c1, c2, f0, f1, f2⟩ := h
  constructor <;> simp [World.cell?_setCell_other, World.cell?_setCell_same, World.frozen?_setCell, *]
/-- What a part leaves. -/
def PartPost (w : World) (b : Nat) (r : Meas) (e : Ending) (w' : World) : Prop :=
  e = .returned (.tuple #[]) ∧ w.grownBy w' (some b) ∧ ∃ n m vb, WrAt w' b n m vb ∧ LnIs w' (b + 1) r.1 vb ∧ (r.1 = [] → n = r.2.1 ∧ m = r.2.2)
def formPre (t : Tm) (d n : Int) : List Lk := if n = 4096 then [⟨nTerm, n, 5⟩] else if 256 < d then [⟨nTerm, n, 9⟩] else formBad t n
theorem measT_pre (t : Tm) (d n m : Int) : measT t d n m = match formPre t d n with
    | [] => measL t.args (d + 1) (n + 1) (max m d)
    | l => (l, 0, 0) := by
  rw [measT_eq]
  unfold formPre
  split
  · rfl
  · split
    · rfl
    · rfl
theorem formPre_nil {t : Tm} {d n : Int} (h : formPre t d n = []) : n ≠ 4096 ∧ d ≤ 256 := by
  unfold formPre at h
  by_cases h1 : n = 4096
  · rw [if_pos h1] at h
    cases h
  · rw [if_neg h1] at h
    by_cases h2 : 256 < d
    · rw [if_pos h2] at h
      cases h
    · exact ⟨h1, by omega⟩
theorem formPre_len (t : Tm) (d n : Int) : (formPre t d n).length ≤ 2 := by
  have hq : (quoted t.tx).2.length ≤ 1 := by
    unfold quoted
    repeat' split
    all_goals simp
  have hn : (nodeBad t.tx).length ≤ 1 := by
    unfold nodeBad
    split <;> simp
  have ho : ∀ (a : Int) (l : List Lk), l.length ≤ 1 → (overTm a l).length ≤ 2 := by
    intro a l h
    cases l with
    | nil => simp [overTm]
    | cons x r => simp [overTm] at h ⊢; omega
  unfold formPre formBad
  repeat' split
  all_goals first | (simp; done) | exact ho _ _ hq | exact ho _ _ hn

theorem TmAt.grownR {W W' : World} {b g : Nat} {t : Tm} {v4 v5 : Value} (h : TmAt W b t v4 v5) (hg : W.grownBy W' (some g)) (hne : b ≠ g) : TmAt W' b t v4 v5 := by
  have hb : W'.heap[b]? = W.heap[b]? := hg.block b h.lt (by simpa using hne)
  have hc : ∀ o, W'.cell? ⟨b, o, none⟩ = W.cell? ⟨b, o, none⟩ := fun o => by simp [World.cell?, hb]
  have hf : ∀ o, W'.frozen? ⟨b, o, none⟩ = W.frozen? ⟨b, o, none⟩ := fun o => by simp [World.frozen?, hb]
  obtain ⟨c0, c1, c2, c3, c4, c5, f0, f1, f2, f3, f4, f5⟩ := h
  exact ⟨(hc _).trans c0, (hc _).trans c1, (hc _).trans c2, (hc _).trans c3, (hc _).trans c4, (hc _).trans c5, (hf _).trans f0, (hf _).trans f1, (hf _).trans f2, (hf _).trans f3, (hf _).trans f4, (hf _).trans f5⟩
theorem TmAt.far {W : World} {b g : Nat} {t : Tm} {v4 v5 : Value} (h : TmAt W b t v4 v5) (hne : b ≠ g) (o : Nat) (u : Value) : TmAt (W.setCell ⟨g, o, none⟩ u) b t v4 v5 := by
  obtain ⟨c0, c1, c2, c3, c4, c5, f0, f1, f2, f3, f4, f5⟩ := h
  constructor <;> simp [World.cell?_setCell_other, World.frozen?_setCell, *]
set_option maxRecDepth 100000 in
set_option maxHeartbeats 8000000 in
theorem ref02_part (w0 : World) (b : Nat) (hb0 : w0.heap.size ≤ b) (t : Tm) : ∀ (A4 A5 : Option Addr) (c4 c5 : Nat) (d n m : Int) (w : World), TmR w0 t A4 c4 A5 c5 → Below w0.heap.size w0 w → WrAt w b n m (.slice none 0 0) → smT t = true →
    0 ≤ n → n ≤ 4096 → 0 ≤ m → m ≤ 256 → 1 ≤ d → d ≤ 257 →
    Calls Tryz.prog 41 #[.pointer (some ⟨b, 0, none⟩), tmV t (.slice A4 t.nums.length c4) (.slice A5 t.args.length c5), .int .i64 d] w (PartPost w b (measT t d n m)) := by
  induction t using Tm.ind with
  | h t ih =>
    intro A4 A5 c4 c5 d n m w hR hB hW hsm hn0 hn1 hm0 hm1 hd0 hd1
    have HIH := Lib.hid ih
    have HR := Lib.hid hR
    have HB_ := Lib.hid hB
    have HSM := Lib.hid hsm
    have hr := measT_pre t d n m
    have hfl := formPre_len t d n
    generalize measT t d n m = R at hr ⊢
    obtain ⟨F, hF⟩ : ∃ F, F = formPre t d n := ⟨_, rfl⟩
    rw [← hF] at hr hfl
    have HRR := Lib.hid hr
    have HF := Lib.hid hF
    have hW1 : WrAt (w.alloc (.cells #[.int .i64 t.kd, .int .i64 t.it, .string t.tx, .int .u32 t.cr, .slice A4 t.nums.length c4, .slice A5 t.args.length c5] 27)) b n m (.slice none 0 0) := hW.below (below_alloc (Below.refl _ _) _) hW.lt
    have HT1 := Lib.hid (TmAt.new w t (.slice A4 t.nums.length c4) (.slice A5 t.args.length c5))
    have hlt1 : b < w.heap.size := hW.lt
    have HB1 := Lib.hid (below_alloc (Below.refl w.heap.size w) (.cells #[.int .i64 t.kd, .int .i64 t.it, .string t.tx, .int .u32 t.cr, .slice A4 t.nums.length c4, .slice A5 t.args.length c5] 27))
    have hne := fun (w : World) (a : Option Addr) (n c : Nat) => run_neq_slice_nil_any (P := Tryz.prog) w 32 83 a n c 0 0 Tryz.underlying32
    have heq := fun (w : World) (a : Option Addr) (n c : Nat) => Lib.run_eql_slice_nil (P := Tryz.prog) w 32 83 a n c 0 0 Tryz.underlying32
    clear ih hR hB hW hsm hr hF
    unfold tmV
    go_enter Tryz.func41, Tryz.ntmps41
    go_upto_region 1 with (fail)
    obtain ⟨w1, hw1⟩ : ∃ W, W = w.alloc (.cells #[.int .i64 t.kd, .int .i64 t.it, .string t.tx, .int .u32 t.cr, .slice A4 t.nums.length c4, .slice A5 t.args.length c5] 27) := ⟨_, rfl⟩
    rw [← hw1] at hW1 HT1 HB1
    rw [← hw1]
    clear hw1
    have hlt2 : w.heap.size < w1.heap.size := HT1.out.lt
    have HNB : Hid (w.heap.size ≠ b) := Lib.hid (by omega)
    have HNB2 : Hid (b < w.heap.size) := Lib.hid (by omega)
    have HBA : Hid (w.grownBy w1 (some b)) := Lib.hid (grownOf HB1.out _)
    have r0 := hW1.c0
    have r1 := hW1.c1
    have r2 := hW1.c2
    have g0 := hW1.f0
    have g1 := hW1.f1
    have HW1 := Lib.hid hW1
    clear hW1
    go_upto_block 0 with (fail)
    have hW3 : WrAt ((w1.setCell ⟨b, 0, none⟩ (.int .i64 (n + 1))).setCell ⟨b, 1, none⟩ (.int .i64 (max m d))) b (n + 1) (max m d) (.slice none 0 0) := HW1.out.put _ _
    have HB3 : Hid (w.grownBy ((w1.setCell ⟨b, 0, none⟩ (.int .i64 (n + 1))).setCell ⟨b, 1, none⟩ (.int .i64 (max m d))) (some b)) := Lib.hid ((HBA.out.trans (grown_set _ _ _ _)).trans (grown_set _ _ _ _))
    have hT3 : TmAt ((w1.setCell ⟨b, 0, none⟩ (.int .i64 (n + 1))).setCell ⟨b, 1, none⟩ (.int .i64 (max m d))) w.heap.size t (.slice A4 t.nums.length c4) (.slice A5 t.args.length c5) := (HT1.out.far HNB.out _ _).far HNB.out _ _
    have hsz3 : ((w1.setCell ⟨b, 0, none⟩ (.int .i64 (n + 1))).setCell ⟨b, 1, none⟩ (.int .i64 (max m d))).heap.size = w1.heap.size := by simp
    obtain ⟨w3, hw3⟩ : ∃ W, W = (w1.setCell ⟨b, 0, none⟩ (.int .i64 (n + 1))).setCell ⟨b, 1, none⟩ (.int .i64 (max m d)) := ⟨_, rfl⟩
    rw [← hw3] at hW3 HB3 hsz3 hT3
    rw [← hw3]
    clear hw3 r0 r1 r2 g0 g1
    have HW3 := Lib.hid hW3
    have HT3 := Lib.hid hT3
    have HBW : Hid (Below w0.heap.size w0 w3) := Lib.hid (HB_.out.trans (belowOf HB3.out hb0 (by omega)))
    clear hW3 hT3 HW1 HT1 HB1 HBA
    go_cut [] from 13 (fun w' => ∃ vb, WrAt w' b (n + 1) (max m d) vb ∧ LnIs w' (b + 1) F vb ∧ TmAt w' w.heap.size t (.slice A4 t.nums.length c4) (.slice A5 t.args.length c5) ∧ w.grownBy w' (some b))
    case first =>
      have hf := HF.out
      clear HF
      unfold formPre at hf
      have q2 := HW3.out.c2
      have qf := HW3.out.f2
      by_cases h1 : n = 4096
      · have d1 : decide (n ≥ 4096) = true := decide_eq_true (by omega)
        rw [if_pos h1] at hf
        have HQ := Lib.hid hf
        clear hf h1
        go_wp2_with fail
        refine (ref02_no _ _ _).mono ?_
        rintro e w6 ⟨v6, rfl, hL, hB6⟩
        obtain ⟨Aq, cq, hvq, _, _⟩ := hL.reads
        generalize hnq : List.length _ = nq at hvq
        clear hnq
        subst hvq
        have HL := Lib.hid ((hL.lower (base' := b + 1) (by omega)).setT (g := b) (by omega) 2 (.slice Aq nq cq))
        have HW4 := Lib.hid (HW3.out.below hB6 (by omega))
        have HT4 := Lib.hid (HT3.out.below hB6 (by omega))
        have HB4 : Hid (w.grownBy (w6.setCell ⟨b, 2, none⟩ (.slice Aq nq cq)) (some b)) := Lib.hid ((HB3.out.trans (grownOf hB6 _)).trans (grown_set _ _ _ _))
        clear hL hB6 q2 qf
        have q2 := HW4.out.c2
        have qf := HW4.out.f2
        go_wp2_with fail
        go_meet
        case rel => exact ⟨_, HW4.out.bad _, by rw [HQ.out]; exact HL.out, HT4.out.far HNB.out _ _, HB4.out⟩
      · have d1 : decide (n ≥ 4096) = false := decide_eq_false (by omega)
        rw [if_neg h1] at hf
        by_cases h2 : 256 < d
        · have d2 : decide (d > 256) = true := decide_eq_true h2
          rw [if_pos h2] at hf
          have HQ := Lib.hid hf
          clear hf h1 h2
          go_wp2_with fail
          refine (ref02_no _ _ _).mono ?_
          rintro e w6 ⟨v6, rfl, hL, hB6⟩
          obtain ⟨Aq, cq, hvq, _, _⟩ := hL.reads
          generalize hnq : List.length _ = nq at hvq
          clear hnq
          subst hvq
          have HL := Lib.hid ((hL.lower (base' := b + 1) (by omega)).setT (g := b) (by omega) 2 (.slice Aq nq cq))
          have HW4 := Lib.hid (HW3.out.below hB6 (by omega))
          have HT4 := Lib.hid (HT3.out.below hB6 (by omega))
          have HB4 : Hid (w.grownBy (w6.setCell ⟨b, 2, none⟩ (.slice Aq nq cq)) (some b)) := Lib.hid ((HB3.out.trans (grownOf hB6 _)).trans (grown_set _ _ _ _))
          clear hL hB6 q2 qf
          have q2 := HW4.out.c2
          have qf := HW4.out.f2
          go_wp2_with fail
          go_meet
          case rel => exact ⟨_, HW4.out.bad _, by rw [HQ.out]; exact HL.out, HT4.out.far HNB.out _ _, HB4.out⟩
        · have d2 : decide (d > 256) = false := decide_eq_false h2
          rw [if_neg h2] at hf
          have HFF := Lib.hid hf
          clear hf h1
          have t0 := HT3.out.c0
          have t1 := HT3.out.c1
          have t2 := HT3.out.c2
          have t3 := HT3.out.c3
          have t4 := HT3.out.c4
          have t5 := HT3.out.c5
          go_wp2_with fail
          refine (ref02_form t A4 A5 c4 c5 _ (HR.out.below HBW.out)).mono ?_
          rintro e w4 ⟨rfl, hB4⟩
          clear q2 qf t0 t1 t2 t3 t4 t5
          replace HW3 := Lib.hid (HW3.out.below hB4 (by omega))
          replace HT3 := Lib.hid (HT3.out.below hB4 (by omega))
          replace HB3 : Hid (w.grownBy w4 (some b)) := Lib.hid (HB3.out.trans (grownOf hB4 _))
          have hsz4 := hB4.size
          clear hB4
          have q2 := HW3.out.c2
          have qf := HW3.out.f2
          have hf := HFF.out
          unfold formBad at hf
          clear HFF
          generalize shapeOk t = S at hf ⊢
          cases S with
          | false =>
            rw [if_pos rfl] at hf
            have HQ := Lib.hid hf
            clear hf
            go_wp2_with fail
            refine (ref02_no _ _ _).mono ?_
            rintro e w6 ⟨v6, rfl, hL, hB6⟩
            obtain ⟨Aq, cq, hvq, _, _⟩ := hL.reads
            generalize hnq : List.length _ = nq at hvq
            clear hnq
            subst hvq
            have HL := Lib.hid ((hL.lower (base' := b + 1) (by omega)).setT (g := b) (by omega) 2 (.slice Aq nq cq))
            have HW4 := Lib.hid (HW3.out.below hB6 (by omega))
            have HT4 := Lib.hid (HT3.out.below hB6 (by omega))
            have HB4 : Hid (w.grownBy (w6.setCell ⟨b, 2, none⟩ (.slice Aq nq cq)) (some b)) := Lib.hid ((HB3.out.trans (grownOf hB6 _)).trans (grown_set _ _ _ _))
            clear hL hB6 q2 qf
            have q2 := HW4.out.c2
            have qf := HW4.out.f2
            go_wp2_with fail
            go_meet
            case rel => exact ⟨_, HW4.out.bad _, by rw [HQ.out]; exact HL.out, HT4.out.far HNB.out _ _, HB4.out⟩
          | true =>
            rw [if_neg (by simp)] at hf
            have t0 := HT3.out.c0
            have t1 := HT3.out.c1
            have t2 := HT3.out.c2
            by_cases k1 : t.kd = 1
            · have e1 : (t.kd == 1) = true := beq_iff_eq.2 k1
              have e2 : (t.kd == 2) = false := beq_eq_false_iff_ne.2 (by omega)
              have e3 : (t.kd == 3) = false := beq_eq_false_iff_ne.2 (by omega)
              have e4 : (t.kd == 4) = false := beq_eq_false_iff_ne.2 (by omega)
              rw [if_pos k1] at hf
              clear k1
              by_cases hlo : t.it < -576460752303423488
              · have f1 : decide (t.it < -576460752303423488) = true := decide_eq_true hlo
                rw [if_pos (.inl hlo)] at hf
                have HQ := Lib.hid hf
                clear hf
                go_wp2_with fail
                refine (ref02_no _ _ _).mono ?_
                rintro e w6 ⟨v6, rfl, hL, hB6⟩
                obtain ⟨Aq, cq, hvq, _, _⟩ := hL.reads
                generalize hnq : List.length _ = nq at hvq
                clear hnq
                subst hvq
                have HL := Lib.hid ((hL.lower (base' := b + 1) (by omega)).setT (g := b) (by omega) 2 (.slice Aq nq cq))
                have HW4 := Lib.hid (HW3.out.below hB6 (by omega))
                have HT4 := Lib.hid (HT3.out.below hB6 (by omega))
                have HB4 : Hid (w.grownBy (w6.setCell ⟨b, 2, none⟩ (.slice Aq nq cq)) (some b)) := Lib.hid ((HB3.out.trans (grownOf hB6 _)).trans (grown_set _ _ _ _))
                clear hL hB6 q2 qf
                have q2 := HW4.out.c2
                have qf := HW4.out.f2
                go_wp2_with fail
                go_meet
                case rel => exact ⟨_, HW4.out.bad _, by rw [HQ.out]; exact HL.out, HT4.out.far HNB.out _ _, HB4.out⟩
              · have f1 : decide (t.it < -576460752303423488) = false := decide_eq_false hlo
                by_cases hhi : t.it > 576460752303423487
                · have f2 : decide (t.it > 576460752303423487) = true := decide_eq_true hhi
                  rw [if_pos (.inr hhi)] at hf
                  have HQ := Lib.hid hf
                  clear hf
                  go_wp2_with fail
                  refine (ref02_no _ _ _).mono ?_
                  rintro e w6 ⟨v6, rfl, hL, hB6⟩
                  obtain ⟨Aq, cq, hvq, _, _⟩ := hL.reads
                  generalize hnq : List.length _ = nq at hvq
                  clear hnq
                  subst hvq
                  have HL := Lib.hid ((hL.lower (base' := b + 1) (by omega)).setT (g := b) (by omega) 2 (.slice Aq nq cq))
                  have HW4 := Lib.hid (HW3.out.below hB6 (by omega))
                  have HT4 := Lib.hid (HT3.out.below hB6 (by omega))
                  have HB4 : Hid (w.grownBy (w6.setCell ⟨b, 2, none⟩ (.slice Aq nq cq)) (some b)) := Lib.hid ((HB3.out.trans (grownOf hB6 _)).trans (grown_set _ _ _ _))
                  clear hL hB6 q2 qf
                  have q2 := HW4.out.c2
                  have qf := HW4.out.f2
                  go_wp2_with fail
                  go_meet
                  case rel => exact ⟨_, HW4.out.bad _, by rw [HQ.out]; exact HL.out, HT4.out.far HNB.out _ _, HB4.out⟩
                · have f2 : decide (t.it > 576460752303423487) = false := decide_eq_false hhi
                  rw [if_neg (by omega)] at hf
                  have HQ := Lib.hid hf
                  clear hf
                  go_wp2_with fail
                  go_meet
                  case rel => exact ⟨_, HW3.out, by rw [HQ.out]; exact LnIs.nil _ _, HT3.out, HB3.out⟩
            · have e1 : (t.kd == 1) = false := beq_eq_false_iff_ne.2 k1
              rw [if_neg k1] at hf
              clear k1
              by_cases k2 : t.kd = 2
              · have e2 : (t.kd == 2) = true := beq_iff_eq.2 k2
                rw [if_pos k2] at hf
                clear k2
                go_wp2_with fail
                refine (ref01_Quote t.tx (sm_tx HSM.out) _).mono ?_
                rintro e w5 ⟨v5, rfl, hL, hB5⟩
                have hW5 := HW3.out.below hB5 (by omega)
                replace HT3 := Lib.hid (HT3.out.below hB5 (by omega))
                replace HB3 : Hid (w.grownBy w5 (some b)) := Lib.hid (HB3.out.trans (grownOf hB5 _))
                have hsz5 := hB5.size
                clear q2 qf t0 t1 t2 hB5 HW3
                have HW3 := Lib.hid hW5
                have q2 := HW3.out.c2
                have qf := HW3.out.f2
                clear hW5
                try simp only at hL
                have hfl2 := hfl
                rw [hf] at hfl2
                generalize (quoted t.tx).2 = lq at hL hf hfl2
                cases lq with
                | nil =>
                  have hv := hL.2 rfl
                  subst hv
                  have HQ := Lib.hid hf
                  clear hf hL hfl2
                  have HQ : Hid (F = []) := Lib.hid HQ.out
                  go_wp2_with fail
                  go_meet
                  case rel => exact ⟨_, HW3.out, by rw [HQ.out]; exact LnIs.nil _ _, HT3.out, HB3.out⟩
                | cons x r =>
                  have HLL := Lib.hid hL
                  obtain ⟨gg, cc, rfl, _, _⟩ := hL.headT
                  have HQ := Lib.hid hf
                  have hlr : (x :: r).length ≤ 16 := by simp only [overTm, List.length_cons] at hfl2 ⊢; omega
                  have HLR := Lib.hid hlr
                  clear hf hL hfl2 hlr
                  go_wp2_with fail
                  refine (ref02_over n x r _ _ _ HLL.out HLR.out).mono ?_
                  rintro e w6 ⟨v6, rfl, hL, hB6⟩
                  obtain ⟨Aq, cq, hvq, _, _⟩ := hL.reads
                  generalize hnq : List.length _ = nq at hvq
                  clear hnq
                  subst hvq
                  have HL := Lib.hid ((hL.lower (base' := b + 1) (by omega)).setT (g := b) (by omega) 2 (.slice Aq nq cq))
                  have HW4 := Lib.hid (HW3.out.below hB6 (by omega))
                  have HT4 := Lib.hid (HT3.out.below hB6 (by omega))
                  have HB4 : Hid (w.grownBy (w6.setCell ⟨b, 2, none⟩ (.slice Aq nq cq)) (some b)) := Lib.hid ((HB3.out.trans (grownOf hB6 _)).trans (grown_set _ _ _ _))
                  clear hL hB6 q2 qf
                  have q2 := HW4.out.c2
                  have qf := HW4.out.f2
                  go_wp2_with fail
                  go_meet
                  case rel => exact ⟨_, HW4.out.bad _, by rw [HQ.out]; exact HL.out, HT4.out.far HNB.out _ _, HB4.out⟩
              · have e2 : (t.kd == 2) = false := beq_eq_false_iff_ne.2 k2
                rw [if_neg k2] at hf
                clear k2
                by_cases k3 : t.kd = 3
                · have e3 : (t.kd == 3) = true := beq_iff_eq.2 k3
                  rw [if_pos (.inl k3)] at hf
                  clear k3
                  go_wp2_with fail
                  refine (ref01_Node t.tx (sm_tx HSM.out) _).mono ?_
                  rintro e w5 ⟨q1_, q2_, v5, rfl, hL, hB5⟩
                  have hW5 := HW3.out.below hB5 (by omega)
                  replace HT3 := Lib.hid (HT3.out.below hB5 (by omega))
                  replace HB3 : Hid (w.grownBy w5 (some b)) := Lib.hid (HB3.out.trans (grownOf hB5 _))
                  have hsz5 := hB5.size
                  clear q2 qf t0 t1 t2 hB5 HW3
                  have HW3 := Lib.hid hW5
                  have q2 := HW3.out.c2
                  have qf := HW3.out.f2
                  clear hW5
                  try simp only at hL
                  have hfl2 := hfl
                  rw [hf] at hfl2
                  generalize (nodeBad t.tx) = lq at hL hf hfl2
                  cases lq with
                  | nil =>
                    have hv := hL.2 rfl
                    subst hv
                    have HQ := Lib.hid hf
                    clear hf hL hfl2
                    have HQ : Hid (F = []) := Lib.hid HQ.out
                    go_wp2_with fail
                    go_meet
                    case rel => exact ⟨_, HW3.out, by rw [HQ.out]; exact LnIs.nil _ _, HT3.out, HB3.out⟩
                  | cons x r =>
                    have HLL := Lib.hid hL
                    obtain ⟨gg, cc, rfl, _, _⟩ := hL.headT
                    have HQ := Lib.hid hf
                    have hlr : (x :: r).length ≤ 16 := by simp only [overTm, List.length_cons] at hfl2 ⊢; omega
                    have HLR := Lib.hid hlr
                    clear hf hL hfl2 hlr
                    go_wp2_with fail
                    refine (ref02_over n x r _ _ _ HLL.out HLR.out).mono ?_
                    rintro e w6 ⟨v6, rfl, hL, hB6⟩
                    obtain ⟨Aq, cq, hvq, _, _⟩ := hL.reads
                    generalize hnq : List.length _ = nq at hvq
                    clear hnq
                    subst hvq
                    have HL := Lib.hid ((hL.lower (base' := b + 1) (by omega)).setT (g := b) (by omega) 2 (.slice Aq nq cq))
                    have HW4 := Lib.hid (HW3.out.below hB6 (by omega))
                    have HT4 := Lib.hid (HT3.out.below hB6 (by omega))
                    have HB4 : Hid (w.grownBy (w6.setCell ⟨b, 2, none⟩ (.slice Aq nq cq)) (some b)) := Lib.hid ((HB3.out.trans (grownOf hB6 _)).trans (grown_set _ _ _ _))
                    clear hL hB6 q2 qf
                    have q2 := HW4.out.c2
                    have qf := HW4.out.f2
                    go_wp2_with fail
                    go_meet
                    case rel => exact ⟨_, HW4.out.bad _, by rw [HQ.out]; exact HL.out, HT4.out.far HNB.out _ _, HB4.out⟩
                · have e3 : (t.kd == 3) = false := beq_eq_false_iff_ne.2 k3
                  by_cases k4 : t.kd = 4
                  · have e4 : (t.kd == 4) = true := beq_iff_eq.2 k4
                    rw [if_pos (.inr k4)] at hf
                    clear k3 k4
                    go_wp2_with fail
                    refine (ref01_Node t.tx (sm_tx HSM.out) _).mono ?_
                    rintro e w5 ⟨q1_, q2_, v5, rfl, hL, hB5⟩
                    have hW5 := HW3.out.below hB5 (by omega)
                    replace HT3 := Lib.hid (HT3.out.below hB5 (by omega))
                    replace HB3 : Hid (w.grownBy w5 (some b)) := Lib.hid (HB3.out.trans (grownOf hB5 _))
                    have hsz5 := hB5.size
                    clear q2 qf t0 t1 t2 hB5 HW3
                    have HW3 := Lib.hid hW5
                    have q2 := HW3.out.c2
                    have qf := HW3.out.f2
                    clear hW5
                    try simp only at hL
                    have hfl2 := hfl
                    rw [hf] at hfl2
                    generalize (nodeBad t.tx) = lq at hL hf hfl2
                    cases lq with
                    | nil =>
                      have hv := hL.2 rfl
                      subst hv
                      have HQ := Lib.hid hf
                      clear hf hL hfl2
                      have HQ : Hid (F = []) := Lib.hid HQ.out
                      go_wp2_with fail
                      go_meet
                      case rel => exact ⟨_, HW3.out, by rw [HQ.out]; exact LnIs.nil _ _, HT3.out, HB3.out⟩
                    | cons x r =>
                      have HLL := Lib.hid hL
                      obtain ⟨gg, cc, rfl, _, _⟩ := hL.headT
                      have HQ := Lib.hid hf
                      have hlr : (x :: r).length ≤ 16 := by simp only [overTm, List.length_cons] at hfl2 ⊢; omega
                      have HLR := Lib.hid hlr
                      clear hf hL hfl2 hlr
                      go_wp2_with fail
                      refine (ref02_over n x r _ _ _ HLL.out HLR.out).mono ?_
                      rintro e w6 ⟨v6, rfl, hL, hB6⟩
                      obtain ⟨Aq, cq, hvq, _, _⟩ := hL.reads
                      generalize hnq : List.length _ = nq at hvq
                      clear hnq
                      subst hvq
                      have HL := Lib.hid ((hL.lower (base' := b + 1) (by omega)).setT (g := b) (by omega) 2 (.slice Aq nq cq))
                      have HW4 := Lib.hid (HW3.out.below hB6 (by omega))
                      have HT4 := Lib.hid (HT3.out.below hB6 (by omega))
                      have HB4 : Hid (w.grownBy (w6.setCell ⟨b, 2, none⟩ (.slice Aq nq cq)) (some b)) := Lib.hid ((HB3.out.trans (grownOf hB6 _)).trans (grown_set _ _ _ _))
                      clear hL hB6 q2 qf
                      have q2 := HW4.out.c2
                      have qf := HW4.out.f2
                      go_wp2_with fail
                      go_meet
                      case rel => exact ⟨_, HW4.out.bad _, by rw [HQ.out]; exact HL.out, HT4.out.far HNB.out _ _, HB4.out⟩
                  · have e4 : (t.kd == 4) = false := beq_eq_false_iff_ne.2 k4
                    rw [if_neg (by omega)] at hf
                    have HQ := Lib.hid hf
                    clear hf k3 k4
                    go_wp2_with fail
                    go_meet
                    case rel => exact ⟨_, HW3.out, by rw [HQ.out]; exact LnIs.nil _ _, HT3.out, HB3.out⟩
    case rest =>
      obtain ⟨vb, hW, hL, hT, hB⟩ := hcut
      clear HW3 HT3 HB3 hsz3 hfl HBW
      have HT := Lib.hid hT
      have hrr := HRR.out
      have hbwc : b < wc.heap.size := hW.lt
      have HK0 := Lib.hid HR.out.g5.2.1
      have HST : Hid ((∃ n' m', d ≤ 256 ∧ 0 ≤ n' ∧ n' ≤ 4096 ∧ 0 ≤ m' ∧ m' ≤ 256 ∧ WrAt wc b n' m' (.slice none 0 0) ∧ measL (t.args.drop 0) (d + 1) n' m' = R) ∨ (∃ n' m' g c z, WrAt wc b n' m' (.slice (some ⟨g, 0, none⟩) z c) ∧ LnIs wc (b + 1) R.1 (.slice (some ⟨g, 0, none⟩) z c) ∧ R.1 ≠ [])) := by
        refine Lib.hid ?_
        cases F with
        | nil =>
          left
          obtain rfl := hL.2 rfl
          have hpn := formPre_nil HF.out.symm
          exact ⟨n + 1, max m d, by omega, by omega, by omega, by omega, by omega, hW, hrr.symm⟩
        | cons x r =>
          right
          obtain ⟨g, c, rfl, _, _⟩ := hL.headT
          rw [hrr]
          exact ⟨_, _, g, c, _, hW, hL, by simp⟩
      have HB := Lib.hid hB
      clear hT hW hL hB hrr HRR HF
      go_wp2_with fail
      go_loopg [12] t.args.length (fun gk vi wl => ∃ (k : Nat), vi = .int .i64 (k : Int) ∧ gk = t.args.length - k ∧ k ≤ t.args.length ∧ Hid (TmAt wl w.heap.size t (.slice A4 t.nums.length c4) (.slice A5 t.args.length c5)) ∧ Hid (w.grownBy wl (some b)) ∧ b < wl.heap.size ∧
        Hid ((∃ n' m', d ≤ 256 ∧ 0 ≤ n' ∧ n' ≤ 4096 ∧ 0 ≤ m' ∧ m' ≤ 256 ∧ WrAt wl b n' m' (.slice none 0 0) ∧ measL (t.args.drop k) (d + 1) n' m' = R) ∨ (∃ n' m' g c z, WrAt wl b n' m' (.slice (some ⟨g, 0, none⟩) z c) ∧ LnIs wl (b + 1) R.1 (.slice (some ⟨g, 0, none⟩) z c) ∧ R.1 ≠ [])))
      case atStart => exact ⟨0, rfl, rfl, Nat.zero_le _, HT, HB, hbwc, HST⟩
      case round =>
        clear HST HT HB hbwc
        obtain ⟨k, rfl, hgk, hk, HT, HB, hbl, HST⟩ := hrel
        have HK := Lib.hid hgk
        have hk0 := HK0.out
        clear hgk
        have t5 := HT.out.c5
        rcases HST.out with ⟨n', m', hd9, a0, a1, a2, a3, hW, hs⟩ | ⟨n', m', g, c, z, hW, hL, hne1⟩
        · have q2 := hW.c2
          have HW := Lib.hid hW
          have HSS := Lib.hid hs
          clear hW hs HST
          by_cases hlt : k < t.args.length
          · have HBWl : Hid (Below w0.heap.size w0 wr) := Lib.hid (HB_.out.trans (belowOf HB.out hb0 (by omega)))
            obtain ⟨ad, A4', c4', A5', c5', hA, q0, q1, q2', q3, q4, q5, hTR⟩ := atTm HR.out.g5 (k : Int) (by omega) (by omega)
            subst hA
            simp only [Int.toNat_natCast] at q0 q1 q2' q3 q4 q5
            replace q0 := (HBWl.out.cell (World.block_lt_of_cell? w0 _ q0)).trans q0
            replace q1 := (HBWl.out.cell (World.block_lt_of_cell? w0 _ q1)).trans q1
            replace q2' := (HBWl.out.cell (World.block_lt_of_cell? w0 _ q2')).trans q2'
            replace q3 := (HBWl.out.cell (World.block_lt_of_cell? w0 _ q3)).trans q3
            replace q4 := (HBWl.out.cell (World.block_lt_of_cell? w0 _ q4)).trans q4
            replace q5 := (HBWl.out.cell (World.block_lt_of_cell? w0 _ q5)).trans q5
            obtain ⟨hge, hmem⟩ := rdTm_mem hlt
            have hs := HSS.out
            rw [List.drop_eq_getElem_cons hlt, measL, ← hge] at hs
            generalize rdTm t.args (k : Int) = a at q0 q1 q2' q3 q4 q5 hTR hs hmem
            have HTR := Lib.hid hTR
            have HS2 := Lib.hid hs
            have HMEM := Lib.hid hmem
            have y0 : (0 : Int) ≤ (k : Int) := by omega
            have y1 : (k : Int) < (t.args.length : Int) := by omega
            clear hTR hs hmem hge HSS
            go_wp2_with fail
            refine (HIH.out a HMEM.out A4' A5' c4' c5' (d + 1) n' m' _ HTR.out HBWl.out HW.out (smL_mem (sm_args HSM.out) HMEM.out) a0 a1 a2 a3 (by omega) (by omega)).mono ?_
            rintro e w5 ⟨rfl, hB5, n5, m5, vb5, hW5, hL5, hnm⟩
            have HB5 : Hid (w.grownBy w5 (some b)) := Lib.hid (HB.out.trans hB5)
            have HT5 := Lib.hid (HT.out.grownR hB5 HNB.out)
            have hs := HS2.out
            clear hB5 q0 q1 q2' q3 q4 q5 q2 t5
            have hrg := meas_range a (d + 1) n' m' a0 a1 a2 a3 (by omega)
            generalize measT a (d + 1) n' m' = ra at hL5 hnm hs hrg
            obtain ⟨la, na, ma⟩ := ra
            have hb5 := hW5.lt
            cases la with
            | cons x r =>
              obtain ⟨g, c, rfl, _, _⟩ := hL5.headT
              have HSN : Hid ((∃ n' m', d ≤ 256 ∧ 0 ≤ n' ∧ n' ≤ 4096 ∧ 0 ≤ m' ∧ m' ≤ 256 ∧ WrAt w5 b n' m' (.slice none 0 0) ∧ measL (t.args.drop (k + 1)) (d + 1) n' m' = R) ∨ (∃ n' m' g c z, WrAt w5 b n' m' (.slice (some ⟨g, 0, none⟩) z c) ∧ LnIs w5 (b + 1) R.1 (.slice (some ⟨g, 0, none⟩) z c) ∧ R.1 ≠ [])) :=
                Lib.hid (.inr ⟨n5, m5, g, c, _, hW5, by rw [← hs]; exact hL5, by rw [← hs]; simp⟩)
              clear hs hW5 hL5 hnm hrg HS2
              go_wp2_with fail
              go_roundg (t.args.length - (k + 1))
              case measure => rw [HK.out]; omega
              case rel => exact ⟨k + 1, by go_num, rfl, by omega, HT5, HB5, hb5, HSN⟩
            | nil =>
              obtain rfl := hL5.2 rfl
              obtain ⟨rfl, rfl⟩ := hnm rfl
              have hg9 := hrg rfl
              have HSN : Hid ((∃ n' m', d ≤ 256 ∧ 0 ≤ n' ∧ n' ≤ 4096 ∧ 0 ≤ m' ∧ m' ≤ 256 ∧ WrAt w5 b n' m' (.slice none 0 0) ∧ measL (t.args.drop (k + 1)) (d + 1) n' m' = R) ∨ (∃ n' m' g c z, WrAt w5 b n' m' (.slice (some ⟨g, 0, none⟩) z c) ∧ LnIs w5 (b + 1) R.1 (.slice (some ⟨g, 0, none⟩) z c) ∧ R.1 ≠ [])) :=
                Lib.hid (.inl ⟨n5, m5, hd9, hg9.1, hg9.2.1, hg9.2.2.1, hg9.2.2.2, hW5, hs⟩)
              clear hs hW5 hL5 hnm hrg hg9 HS2
              go_wp2_with fail
              go_roundg (t.args.length - (k + 1))
              case measure => rw [HK.out]; omega
              case rel => exact ⟨k + 1, by go_num, rfl, by omega, HT5, HB5, hb5, HSN⟩
          · have hs := HSS.out
            rw [List.drop_eq_nil_of_le (by omega), measL] at hs
            have HQ := Lib.hid hs.symm
            have d0 : decide (k < t.args.length) = false := decide_eq_false hlt
            clear hs HSS
            go_wp2_with fail
            go_end0
            exact ⟨rfl, HB.out, n', m', _, HW.out, by rw [HQ.out]; exact LnIs.nil _ _, fun _ => by rw [HQ.out]; exact ⟨rfl, rfl⟩⟩
        · have q2 := hW.c2
          have HFIN : Hid (PartPost w b R (.returned (.tuple #[])) wr) := Lib.hid ⟨rfl, HB.out, n', m', _, hW, hL, fun h => absurd h hne1⟩
          clear hW hL hne1 HST
          by_cases hlt : k < t.args.length
          · go_wp2_with fail
            go_end0
            exact HFIN.out
          · have d0 : decide (k < t.args.length) = false := decide_eq_false hlt
            go_wp2_with fail
            go_end0
            exact HFIN.out
end Go.Proofs.YtgapeacflkfmdaaGreatDoor
set_option linter.unusedSimpArgs false
namespace Go.Proofs.YtgapeacflkfmdaaGreatDoor
open Go.RowKit Go.Sort Go.Proofs.YtgapeacflkfmdaaGreatDoorW.PrintWords

def sTa : ByteArray := ⟨#[123, 111, 107, 44, 32, 91, 49, 44, 32, 50, 32, 124, 32, 120, 93, 44, 32, 39, 65, 32, 98, 39, 44, 32, 60, 110, 64, 104, 46, 49, 46, 53, 46, 48, 62, 125]⟩
def sTp : ByteArray := ⟨#[123, 111, 107, 44, 91, 49, 44, 50, 124, 120, 93, 44, 39, 65, 32, 98, 39, 44, 60, 110, 64, 104, 46, 49, 46, 53, 46, 48, 62, 125]⟩
def sTb : ByteArray := ⟨#[91, 49, 44]⟩
theorem ta_read : (rdAll sTa).2 = [] := by decide +kernel
theorem ta_print : printT (rdAll sTa).1 = (sTp, []) := by decide +kernel
theorem ta_meas : measure (rdAll sTa).1 = ([], 8, 3) := by decide +kernel
theorem ta_comp : compareT (rdAll sTa).1 tmNil = -1 := by decide +kernel
theorem tb_read : (rdAll sTb).2 = [⟨nTerm, 3, 41⟩] := by decide +kernel
def TruePost (w : World) (e : Ending) (w' : World) : Prop := e = .returned (.bool true) ∧ Below w.heap.size w w'
theorem nil_is (W : World) : TmIs W tmNil (tmV tmNil (.slice none 0 0) (.slice none 0 0)) := (TmMade.flat W 0 6 0 ⟨#[]⟩ 0).is
set_option maxRecDepth 100000 in
set_option maxHeartbeats 4000000 in
theorem awake_any (w : World) (hG : Glob w) : Calls Tryz.prog 20 #[] w (TruePost w) := by
  have HG := Lib.hid hG
  clear hG
  have HR1 := Lib.hid (term_Read sTa (by decide))
  have HR2 := Lib.hid (term_Read sTb (by decide))
  have HIN := Lib.hid (rdAll_in sTa)
  have HF1 := Lib.hid ta_read
  have HF2 := Lib.hid ta_print
  have HF3 := Lib.hid ta_meas
  have HF4 := Lib.hid ta_comp
  have HF5 := Lib.hid tb_read
  generalize rdAll sTa = q at HR1 HIN HF1 HF2 HF3 HF4
  generalize rdAll sTb = q2 at HR2 HF5
  obtain ⟨t, l⟩ := q
  obtain ⟨t2, l2⟩ := q2
  obtain rfl : l = [] := HF1.out
  obtain rfl : l2 = _ := HF5.out
  go_enter Tryz.func20, Tryz.ntmps20
  go_wp2_with fail
  refine (HR1.out w HG.out).mono ?_
  rintro e w1 ⟨v, ev, rfl, hM, hE, hB1⟩
  obtain rfl : ev = .nilIface := hE
  obtain ⟨A4, c4, A5, c5, rfl, hT⟩ := hM.is
  have HT := Lib.hid hT
  have HB1 := Lib.hid hB1
  clear hM hT hB1
  unfold tmV
  go_upto_region 2 with (fail)
  have hta := TmAt.new w1 t (.slice A4 t.nums.length c4) (.slice A5 t.args.length c5)
  have hb := below_alloc (Below.refl w1.heap.size w1) (.cells #[.int .i64 t.kd, .int .i64 t.it, .string t.tx, .int .u32 t.cr, .slice A4 t.nums.length c4, .slice A5 t.args.length c5] 27)
  generalize w1.alloc (.cells #[.int .i64 t.kd, .int .i64 t.it, .string t.tx, .int .u32 t.cr, .slice A4 t.nums.length c4, .slice A5 t.args.length c5] 27) = w2 at hta hb ⊢
  have HA2 := Lib.hid hta
  have HB2 := Lib.hid (trans_below HB1.out hb)
  have HT2 := Lib.hid (HT.out.below hb)
  clear hta hb HB1 HT
  have HP := Lib.hid (term_Print t A4 A5 c4 c5 w2 HT2.out (inT_sm HIN.out) (inT_wf HIN.out) (HG.out.below HB2.out))
  rw [HF2.out] at HP
  unfold tmV sTp at HP
  obtain ⟨a0, a1, a2, a3, a4, a5, _, _, _, _, _, _⟩ := HA2.out
  go_wp2_with fail
  refine HP.out.mono ?_
  rintro e w3 ⟨ev, rfl, hE, hB⟩
  obtain rfl : ev = .nilIface := hE
  have HA3 := Lib.hid (HA2.out.below hB HA2.out.lt)
  have HB3 := Lib.hid (trans_below HB2.out hB)
  have HT3 := Lib.hid (HT2.out.below hB)
  clear hB a0 a1 a2 a3 a4 a5 HP HA2 HB2 HT2
  have HM := Lib.hid (term_Measure t A4 A5 c4 c5 w3 HT3.out (inT_sm HIN.out) (HG.out.below HB3.out))
  rw [HF3.out] at HM
  unfold tmV at HM
  obtain ⟨a0, a1, a2, a3, a4, a5, _, _, _, _, _, _⟩ := HA3.out
  go_wp2_with fail
  refine HM.out.mono ?_
  rintro e w4 ⟨ev, rfl, hE, hB⟩
  obtain rfl : ev = .nilIface := hE
  simp only [if_true]
  have HA4 := Lib.hid (HA3.out.below hB HA3.out.lt)
  have HB4 := Lib.hid (trans_below HB3.out hB)
  have HT4 := Lib.hid (HT3.out.below hB)
  clear hB a0 a1 a2 a3 a4 a5 HM HA3 HB3 HT3
  go_wp2_with fail
  refine (HR2.out w4 (HG.out.below HB4.out)).mono ?_
  rintro e w5 ⟨v, ev, rfl, hM, hE, hB5⟩
  have HE := Lib.hid hE
  obtain ⟨be, ue, rfl, _⟩ := hE
  obtain ⟨D4, d4, D5, d5, rfl, _⟩ := hM.is
  have HA5 := Lib.hid (HA4.out.below hB5 HA4.out.lt)
  have HB5 := Lib.hid (trans_below HB4.out hB5)
  have HT5 := Lib.hid (HT4.out.below hB5)
  clear hM hB5 HA4 HB4 HT4
  unfold tmV
  go_upto_region 5 with (fail)
  have hb := below_alloc (Below.refl w5.heap.size w5) (.cells #[.int .i64 t2.kd, .int .i64 t2.it, .string t2.tx, .int .u32 t2.cr, .slice D4 t2.nums.length d4, .slice D5 t2.args.length d5] 27)
  generalize w5.alloc (.cells #[.int .i64 t2.kd, .int .i64 t2.it, .string t2.tx, .int .u32 t2.cr, .slice D4 t2.nums.length d4, .slice D5 t2.args.length d5] 27) = w6 at hb ⊢
  have HA6 := Lib.hid (HA5.out.below hb HA5.out.lt)
  have HB6 := Lib.hid (trans_below HB5.out hb)
  have HT6 := Lib.hid (HT5.out.below hb)
  have HE6 := Lib.hid (HE.out.below hb)
  clear hb HA5 HB5 HT5 HE
  have HC := Lib.hid (term_Compare t tmNil (tmV t (.slice A4 t.nums.length c4) (.slice A5 t.args.length c5)) (tmV tmNil (.slice none 0 0) (.slice none 0 0)) w6 ⟨A4, c4, A5, c5, rfl, HT6.out⟩ (nil_is w6) (inT_sm HIN.out) rfl (HG.out.below HB6.out))
  rw [HF4.out] at HC
  unfold tmV at HC
  simp only [tmNil] at HC
  obtain ⟨a0, a1, a2, a3, a4, a5, _, _, _, _, _, _⟩ := HA6.out
  go_wp2_with fail
  refine HC.out.mono ?_
  rintro e w7 ⟨rfl, hB7⟩
  have HB7 := Lib.hid (trans_below HB6.out hB7)
  have HE7 := Lib.hid (HE6.out.below hB7)
  clear hB7 a0 a1 a2 a3 a4 a5 HC HA6 HT6 HE6 HB6
  go_wp2_with fail
  refine (mem_One _ _ _ _).mono ?_
  rintro e w8 ⟨v4, rfl, hL, hB8⟩
  obtain ⟨A9, c9, rfl, _, hC9⟩ := hL.reads
  have HC9 := Lib.hid hC9
  have HE8 := Lib.hid (HE7.out.below hB8)
  have HB8 := Lib.hid (trans_below HB7.out hB8)
  clear hL hC9 hB8
  go_wp2_with fail
  refine (Refused_in [⟨nTerm, 3, 41⟩] [⟨nTerm, 3, 41⟩] _ A9 c9 HE8.out (by decide) HC9.out (by decide) (HG.out.below HB8.out)).mono ?_
  rintro e w9 ⟨rfl, hB9⟩
  have HB9 := Lib.hid (trans_below HB8.out hB9)
  clear hB9
  rw [show refusedOf [⟨nTerm, 3, 41⟩] [⟨nTerm, 3, 41⟩] = true from by decide +kernel]
  go_wp2_with fail
  go_ret
  exact ⟨rfl, HB9.out⟩
end Go.Proofs.YtgapeacflkfmdaaGreatDoor
namespace Go.Proofs.YtgapeacflkfmdaaGreatDoor
open Go.RowKit Go.Proofs.YtgapeacflkfmdaaGreatDoorW.PrintWords

theorem WrAt.new (w : World) : WrAt (w.alloc (.cells #[.int .i64 0, .int .i64 0, .slice none 0 0] 78)) w.heap.size 0 0 (.slice none 0 0) := by
  constructor <;> simp
set_option maxRecDepth 100000 in
set_option maxHeartbeats 2000000 in
theorem ref02_Check (t : Tm) (A4 A5 : Option Addr) (c4 c5 : Nat) (w : World) (hR : TmR w t A4 c4 A5 c5) (hsm : smT t = true) :
    Calls Tryz.prog 19 #[tmV t (.slice A4 t.nums.length c4) (.slice A5 t.args.length c5)] w (LnPost w (chk t)) := by
  obtain ⟨R, hr⟩ : ∃ R, R = measure t := ⟨_, rfl⟩
  unfold chk
  rw [← hr]
  have HQ := Lib.hid hr
  clear hr
  have HT1 := Lib.hid (TmAt.new w t (.slice A4 t.nums.length c4) (.slice A5 t.args.length c5))
  have hB1 := below_alloc (Below.refl w.heap.size w) (.cells #[.int .i64 t.kd, .int .i64 t.it, .string t.tx, .int .u32 t.cr, .slice A4 t.nums.length c4, .slice A5 t.args.length c5] 27)
  unfold tmV
  go_enter Tryz.func19, Tryz.ntmps19
  go_upto_region 1 with (fail)
  obtain ⟨w1, hw1⟩ : ∃ W, W = w.alloc (.cells #[.int .i64 t.kd, .int .i64 t.it, .string t.tx, .int .u32 t.cr, .slice A4 t.nums.length c4, .slice A5 t.args.length c5] 27) := ⟨_, rfl⟩
  rw [← hw1] at HT1 hB1
  rw [← hw1]
  clear hw1
  have hB2 := below_alloc (Below.refl w1.heap.size w1) (.cells #[.int .i64 0, .int .i64 0, .slice none 0 0] 78)
  have hW2 := WrAt.new w1
  have hT2 := HT1.out.below hB2 HT1.out.lt
  have hsz2 : w.heap.size < w1.heap.size := HT1.out.lt
  go_upto_region 2 with (fail)
  obtain ⟨w2, hw2⟩ : ∃ W, W = w1.alloc (.cells #[.int .i64 0, .int .i64 0, .slice none 0 0] 78) := ⟨_, rfl⟩
  rw [← hw2] at hB2 hW2 hT2
  rw [← hw2]
  clear hw2
  have HB2 : Hid (Below w.heap.size w w2) := Lib.hid (trans_below hB1 hB2)
  have HW := Lib.hid (ref02_part w w1.heap.size (Nat.le_of_lt hsz2) t A4 A5 c4 c5 1 0 0 w2 hR HB2.out hW2 hsm (by decide) (by decide) (by decide) (by decide) (by decide) (by decide))
  have t0 := hT2.c0
  have t1 := hT2.c1
  have t2 := hT2.c2
  have t3 := hT2.c3
  have t4 := hT2.c4
  have t5 := hT2.c5
  have hlt2 := hW2.lt
  clear hR hsm HT1 hB1 hB2 hW2 hT2
  go_wp2_with fail
  refine HW.out.mono ?_
  rintro e w3 ⟨rfl, hG3, n, m, vb, hW3, hL3, hnm⟩
  have HB3 : Hid (Below w.heap.size w w3) := Lib.hid (HB2.out.trans (belowOf hG3 (by omega) (by omega)))
  rw [show measT t 1 0 0 = R from HQ.out.symm] at hL3 hnm
  clear HQ hG3 t0 t1 t2 t3 t4 t5 HW
  have q0 := hW3.c0
  have q1 := hW3.c1
  have q2 := hW3.c2
  have HL3 := Lib.hid (hL3.lower (base' := w.heap.size) (by omega))
  obtain ⟨l, n', m'⟩ := R
  cases l with
  | cons x r =>
    obtain ⟨g, c, rfl, _, _⟩ := hL3.headT
    clear hL3 hnm hW3
    go_wp2_with fail
    go_ret
    exact ⟨_, rfl, HL3.out, HB3.out⟩
  | nil =>
    obtain rfl := hL3.2 rfl
    clear hL3 hnm hW3
    go_wp2_with fail
    go_ret
    exact ⟨_, rfl, LnIs.nil _ _, HB3.out⟩
end Go.Proofs.YtgapeacflkfmdaaGreatDoor
set_option linter.unusedSimpArgs false
namespace Go.Proofs.YtgapeacflkfmdaaGreatDoor
open Go.RowKit Go.Sort Go.Proofs.YtgapeacflkfmdaaGreatDoorW.PrintWords

theorem formBad_len (t : Tm) (n : Int) : (formBad t n).length ≤ 2 := by
  have h := formPre_len t 0 n
  unfold formPre at h
  by_cases h1 : n = 4096
  · subst h1
    have hq : (quoted t.tx).2.length ≤ 1 := by
      unfold quoted
      repeat' split
      all_goals simp
    have hn : (nodeBad t.tx).length ≤ 1 := by
      unfold nodeBad
      split <;> simp
    have ho : ∀ (a : Int) (l : List Lk), l.length ≤ 1 → (overTm a l).length ≤ 2 := by
      intro a l h
      cases l with
      | nil => simp [overTm]
      | cons x r => simp [overTm] at h ⊢; omega
    unfold formBad
    repeat' split
    all_goals first | (simp; done) | exact ho _ _ hq | exact ho _ _ hn
  · rw [if_neg h1, if_neg (by omega)] at h
    exact h
theorem meas_len (t : Tm) : ∀ d n m, (measT t d n m).1.length ≤ 2 := by
  induction t using Tm.ind with
  | h t ih =>
    intro d n m
    rw [measT_eq]
    split
    · simp
    · split
      · simp
      · have h := formBad_len t n
        have hl : ∀ (l : List Tm), (∀ a ∈ l, a ∈ t.args) → ∀ d n m, (measL l d n m).1.length ≤ 2 := by
          intro l
          induction l with
          | nil => intro _ d n m; rw [measL]; simp
          | cons a l ihl =>
            intro hs d n m
            rw [measL]
            have h1 := ih a (hs a (by simp)) d n m
            match he : measT a d n m with
            | ([], n', m') => exact ihl (fun x hx => hs x (by simp [hx])) d n' m'
            | (x :: r, n', m') => rw [he] at h1; exact h1
        cases hf : formBad t n with
        | nil => exact hl t.args (fun _ h => h) _ _ _
        | cons x r => rw [hf] at h; exact h
theorem chk_len (t : Tm) : (chk t).length ≤ 2 := meas_len t 1 0 0
/-- heddlemem.Refused of an error and just its chain. -/
theorem refused_same {W : World} {l : List Lk} {v : Value} {A : Option Addr} {c : Nat} (hl : l.length ≤ 2) (h : ErrIs W l v) (hC : kLk.C W A l.length l) (hG : Glob W) :
    Calls Tryz.prog 17 #[v, .slice A l.length c] W (TruePost W) := by
  refine (Refused_in l l v A c h (by omega) hC (by omega) hG).mono ?_
  rintro e w' ⟨rfl, hB⟩
  exact ⟨by rw [show refusedOf l l = true from decide_eq_true rfl], hB⟩
end Go.Proofs.YtgapeacflkfmdaaGreatDoor
namespace Go.Proofs.YtgapeacflkfmdaaGreatDoor
open Go.RowKit Go.Proofs.YtgapeacflkfmdaaGreatDoorW.PrintWords Go.Proofs.YtgapeacflkfmdaaGreatDoor.PSe

mutual
def toS : Tm → S27
  | ⟨kd, it, tx, cr, ns, us⟩ => ⟨kd, it, tx, cr, ns, toSL us⟩
def toSL : List Tm → List S27
  | [] => []
  | a :: us => toS a :: toSL us
end
theorem toSL_map : ∀ l : List Tm, toSL l = l.map toS
  | [] => by rw [toSL]; rfl
  | a :: l => by rw [toSL, toSL_map l]; rfl
theorem toS_eq (t : Tm) : toS t = ⟨t.kd, t.it, t.tx, t.cr, t.nums, t.args.map toS⟩ := by
  cases t
  rw [toS, toSL_map]
/-- Lists are of lengths that a machine can hold. -/
inductive LenOk : Tm → Prop
  | mk (t : Tm) (h4 : t.nums.length ≤ 9223372036854775807) (h5 : t.args.length ≤ 9223372036854775807) (h : ∀ a ∈ t.args, LenOk a) : LenOk t
theorem C_map {α β : Type} {d : Kd α} {d' : Kd β} {f : α → β} (hs : d.sz = d'.sz) {w : World} (h : ∀ x cs, d.K w x cs → d'.K w (f x) cs) {A : Option Addr} {n : Nat} {xs : List α} (hc : d.C w A n xs) : d'.C w A n (xs.map f) := by
  refine ⟨by rw [List.length_map]; exact hc.1, hc.2.1, fun hn => ?_⟩
  obtain ⟨ad, e, h2⟩ := hc.2.2 hn
  refine ⟨ad, e, fun j p hj => ?_⟩
  rw [List.getElem?_map, Option.map_eq_some_iff] at hj
  obtain ⟨x, hx, rfl⟩ := hj
  obtain ⟨cs, hl, hK, hcell⟩ := h2 j x hx
  refine ⟨cs, by rw [← hs]; exact hl, h _ _ hK, ?_⟩
  rw [← hs]
  exact hcell
theorem C_len {d : Kd Tm} {w : World} {A : Option Addr} {n : Nat} {xs : List Tm} (h : ∀ x cs, d.K w x cs → LenOk x) (hc : d.C w A n xs) : xs.length ≤ 9223372036854775807 ∧ ∀ a ∈ xs, LenOk a := by
  refine ⟨by rw [hc.1]; exact hc.2.1, fun a ha => ?_⟩
  obtain ⟨i, hi, rfl⟩ := List.mem_iff_getElem.1 ha
  obtain ⟨ad, e, h2⟩ := hc.2.2 (by have := hc.1; omega)
  obtain ⟨cs, _, hK, _⟩ := h2 i xs[i] (List.getElem?_eq_getElem hi)
  exact h _ _ hK
theorem K_toS (w : World) : ∀ n x cs, (Kd.upto kTmF 6 [tyU32, tyTm] n).K w x cs → (Kd.upto F27 6 [23, 27] n).K w (toS x) cs ∧ LenOk x
  | 0, _, _, h => h.elim
  | n + 1, x, cs, h => by
    obtain ⟨_, _, rfl, rfl, ⟨_, _, rfl, rfl, ⟨_, _, rfl, rfl, ⟨_, _, rfl, rfl, ⟨_, _, rfl, ⟨A4, c4, rfl, l4, g4⟩, ⟨A5, c5, rfl, l5, g5⟩⟩⟩⟩⟩⟩ := h
    have hl5 := C_len (d := Kd.upto kTmF 6 [tyU32, tyTm] n) (fun y cy hy => (K_toS w n y cy hy).2) g5
    refine ⟨?_, .mk x g4.2.1 hl5.1 hl5.2⟩
    rw [toS_eq]
    have g6 := C_map (d' := Kd.upto F27 6 [23, 27] n) (f := toS) (by rw [kTm_sz, sz27]) (fun y cy hy => (K_toS w n y cy hy).1) g5
    have hm : (x.args.map toS).length = x.args.length := List.length_map _
    refine ⟨[.int .i64 x.kd], [.int .i64 x.it, .string x.tx, .int .u32 x.cr, .slice A4 x.nums.length c4, .slice A5 x.args.length c5], rfl, rfl, ⟨[.int .i64 x.it], [.string x.tx, .int .u32 x.cr, .slice A4 x.nums.length c4, .slice A5 x.args.length c5], rfl, rfl, ⟨[.string x.tx], [.int .u32 x.cr, .slice A4 x.nums.length c4, .slice A5 x.args.length c5], rfl, rfl, ⟨[.int .u32 x.cr], [.slice A4 x.nums.length c4, .slice A5 x.args.length c5], rfl, rfl, ⟨[.slice A4 x.nums.length c4], [.slice A5 x.args.length c5], rfl, ⟨A4, c4, rfl, l4, g4⟩, ⟨A5, c5, by simp only [hm], by simp only [hm]; exact l5, by simp only [hm]; exact g6⟩⟩⟩⟩⟩⟩
theorem C_toS {w : World} {A : Option Addr} {n : Nat} {xs : List Tm} (h : kTm.C w A n xs) : k27.C w A n (xs.map toS) ∧ xs.length ≤ 9223372036854775807 ∧ ∀ a ∈ xs, LenOk a :=
  ⟨C_map (d := kTm) (d' := k27) rfl (fun x cs ⟨n, hn⟩ => ⟨n, (K_toS w n x cs hn).1⟩) h, C_len (d := kTm) (fun x cs ⟨n, hn⟩ => (K_toS w n x cs hn).2) h⟩
/-- Are these the same terms? -/
noncomputable def sameT (a b : Tm) : Bool := @decide (a = b) (Classical.propDecidable _)
theorem sameT_iff {a b : Tm} : sameT a b = true ↔ a = b := by unfold sameT; exact @decide_eq_true_iff (a = b) (Classical.propDecidable _)
theorem sameT_refl (a : Tm) : sameT a a = true := sameT_iff.2 rfl
theorem sameT_false {a b : Tm} (h : a ≠ b) : sameT a b = false := by rw [Bool.eq_false_iff]; exact fun e => h (sameT_iff.1 e)
theorem Tm.eq_iff {a b : Tm} : a = b ↔ a.kd = b.kd ∧ a.it = b.it ∧ a.tx = b.tx ∧ a.cr = b.cr ∧ a.nums = b.nums ∧ a.args = b.args := by
  cases a
  cases b
  simp only [Tm.mk.injEq]
theorem rd_at {l : List Int} {i : Nat} (h : i < l.length) : rd l (i : Int) = l[i] := by
  unfold rd
  rw [Int.toNat_natCast, List.getD_eq_getElem?_getD, List.getElem?_eq_getElem h]
  rfl
theorem rdS_at {l : List Tm} {i : Nat} (h : i < l.length) : rd_T27 (l.map toS) (i : Int) = toS l[i] := by
  unfold rd_T27
  rw [Int.toNat_natCast, List.getD_eq_getElem?_getD, List.getElem?_map, List.getElem?_eq_getElem h]
  rfl
section
variable {a b : Tm}
/-- The loop over two terms' parts. -/
theorem same_l1 (hl : a.args.length = b.args.length) (hm : a.args.length ≤ 9223372036854775807)
    (ih : ∀ (i : Nat) (h : i < a.args.length), Ev (fun k => heddleref02_Same.f k (toS a.args[i]).f0 (toS a.args[i]).f1 (toS a.args[i]).f2 (toS a.args[i]).f3 (toS a.args[i]).f4 (toS a.args[i]).f5 (toS (b.args[i]'(by omega))).f0 (toS (b.args[i]'(by omega))).f1 (toS (b.args[i]'(by omega))).f2 (toS (b.args[i]'(by omega))).f3 (toS (b.args[i]'(by omega))).f4 (toS (b.args[i]'(by omega))).f5) (sameT a.args[i] (b.args[i]'(by omega)))) :
    ∀ (d i : Nat), a.args.length - i = d → i ≤ a.args.length → ∃ r, (r = true ↔ a.args.drop i = b.args.drop i) ∧ Ev (fun k => heddleref02_Same.l1 k (i : Int) a.kd a.it a.tx a.cr a.nums (a.args.map toS) b.kd b.it b.tx b.cr b.nums (b.args.map toS)) r
  | 0, i, hd, hi => by
    refine ⟨true, ?_, Ev.step (f := fun _ => some true) (fun k => ?_) (Ev.now true)⟩
    · rw [List.drop_of_length_le (by omega), List.drop_of_length_le (by omega)]
      simp
    · simp only [heddleref02_Same.l1]
      rw [if_neg (by rw [List.length_map]; omega)]
  | d + 1, i, hd, hi => by
    have h1 : i < a.args.length := by omega
    have h2 : i < b.args.length := by omega
    obtain ⟨r, hr, he⟩ := same_l1 hl hm ih d (i + 1) (by omega) (by omega)
    have hw : wrap64 ((i : Int) + 1) = ((i + 1 : Nat) : Int) := by unfold wrap64; omega
    have hi1 := ih i h1
    by_cases heq : a.args[i] = b.args[i]
    · refine ⟨r, ?_, ?_⟩
      · rw [hr, List.drop_eq_getElem_cons h1, List.drop_eq_getElem_cons h2, heq]
        simp only [List.cons.injEq, true_and]
      · refine Ev.step (f := fun k => (heddleref02_Same.f k (toS a.args[i]).f0 (toS a.args[i]).f1 (toS a.args[i]).f2 (toS a.args[i]).f3 (toS a.args[i]).f4 (toS a.args[i]).f5 (toS b.args[i]).f0 (toS b.args[i]).f1 (toS b.args[i]).f2 (toS b.args[i]).f3 (toS b.args[i]).f4 (toS b.args[i]).f5).bind fun t => if t = true then heddleref02_Same.l1 k ((i + 1 : Nat) : Int) a.kd a.it a.tx a.cr a.nums (a.args.map toS) b.kd b.it b.tx b.cr b.nums (b.args.map toS) else some false) (fun k => ?_) ?_
        · simp only [heddleref02_Same.l1]
          rw [if_pos (by rw [List.length_map]; omega), if_pos (by omega), if_pos (by rw [List.length_map]; omega), rdS_at h1, rdS_at h2, hw]
        · refine Ev.bind (a := true) ?_ ?_
          · have := hi1
            rw [sameT_iff.2 heq] at this
            exact this
          · simp only [if_true]
            exact he
    · refine ⟨false, ?_, ?_⟩
      · rw [List.drop_eq_getElem_cons h1, List.drop_eq_getElem_cons h2]
        simp only [List.cons.injEq, heq, false_and]
        decide
      · refine Ev.step (f := fun k => (heddleref02_Same.f k (toS a.args[i]).f0 (toS a.args[i]).f1 (toS a.args[i]).f2 (toS a.args[i]).f3 (toS a.args[i]).f4 (toS a.args[i]).f5 (toS b.args[i]).f0 (toS b.args[i]).f1 (toS b.args[i]).f2 (toS b.args[i]).f3 (toS b.args[i]).f4 (toS b.args[i]).f5).bind fun t => if t = true then heddleref02_Same.l1 k ((i + 1 : Nat) : Int) a.kd a.it a.tx a.cr a.nums (a.args.map toS) b.kd b.it b.tx b.cr b.nums (b.args.map toS) else some false) (fun k => ?_) ?_
        · simp only [heddleref02_Same.l1]
          rw [if_pos (by rw [List.length_map]; omega), if_pos (by omega), if_pos (by rw [List.length_map]; omega), rdS_at h1, rdS_at h2, hw]
        · refine Ev.bind (a := false) ?_ ?_
          · have := hi1
            rw [sameT_false heq] at this
            exact this
          · exact Ev.congr (f := fun _ => some false) (fun k => by simp) (Ev.now false)
/-- The loop over two terms' numbers. -/
theorem same_l0 (hl : a.nums.length = b.nums.length) (hm : a.nums.length ≤ 9223372036854775807) {r : Bool}
    (h1 : Ev (fun k => heddleref02_Same.l1 k 0 a.kd a.it a.tx a.cr a.nums (a.args.map toS) b.kd b.it b.tx b.cr b.nums (b.args.map toS)) r) :
    ∀ (d i : Nat), a.nums.length - i = d → i ≤ a.nums.length → Ev (fun k => heddleref02_Same.l0 k (i : Int) a.kd a.it a.tx a.cr a.nums (a.args.map toS) b.kd b.it b.tx b.cr b.nums (b.args.map toS)) (decide (a.nums.drop i = b.nums.drop i) && r)
  | 0, i, hd, hi => by
    rw [List.drop_of_length_le (by omega), List.drop_of_length_le (by omega)]
    refine Ev.step (fun k => ?_) h1
    simp only [heddleref02_Same.l0]
    rw [if_neg (by omega)]
  | d + 1, i, hd, hi => by
    have h2 : i < a.nums.length := by omega
    have h3 : i < b.nums.length := by omega
    have he := same_l0 hl hm h1 d (i + 1) (by omega) (by omega)
    have hw : wrap64 ((i : Int) + 1) = ((i + 1 : Nat) : Int) := by unfold wrap64; omega
    rw [List.drop_eq_getElem_cons h2, List.drop_eq_getElem_cons h3]
    by_cases heq : a.nums[i] = b.nums[i]
    · rw [heq, show decide (b.nums[i] :: List.drop (i + 1) a.nums = b.nums[i] :: List.drop (i + 1) b.nums) = decide (List.drop (i + 1) a.nums = List.drop (i + 1) b.nums) by simp only [List.cons.injEq, true_and]]
      refine Ev.step (fun k => ?_) he
      simp only [heddleref02_Same.l0]
      rw [if_pos (by omega), if_pos (by omega), if_pos (by omega), rd_at h2, rd_at h3, if_pos heq, hw]
    · rw [show (decide (a.nums[i] :: List.drop (i + 1) a.nums = b.nums[i] :: List.drop (i + 1) b.nums) && r) = false by simp only [List.cons.injEq, heq, false_and, decide_false, Bool.false_and]]
      refine Ev.step (f := fun _ => some false) (fun k => ?_) (Ev.now false)
      simp only [heddleref02_Same.l0]
      rw [if_pos (by omega), if_pos (by omega), if_pos (by omega), rd_at h2, rd_at h3, if_neg heq]
theorem same_j0 (x : Bool) (hx : x = true) : Ev (fun k => heddleref02_Same.j0 k x a.kd a.it a.tx a.cr a.nums (a.args.map toS) b.kd b.it b.tx b.cr b.nums (b.args.map toS)) false := by
  refine Ev.step (f := fun _ => some false) (fun k => ?_) (Ev.now false)
  simp only [heddleref02_Same.j0]
  rw [if_pos hx]
end
theorem tl_eq {a b : ByteArray} : a.toList = b.toList ↔ a = b := by
  constructor
  · intro h
    rw [Lib.toList_data, Lib.toList_data] at h
    obtain ⟨⟨x⟩⟩ := a
    obtain ⟨⟨y⟩⟩ := b
    simp at h
    rw [h]
  · intro h
    rw [h]
theorem same_ev (a : Tm) : LenOk a → ∀ b, Ev (fun k => heddleref02_Same.f k a.kd a.it a.tx a.cr a.nums (a.args.map toS) b.kd b.it b.tx b.cr b.nums (b.args.map toS)) (sameT a b) := by
  induction a using Tm.ind with
  | h a ih =>
    intro hlen b
    obtain ⟨_, hn4, hn5, hna⟩ := hlen
    by_cases c0 : a.kd = b.kd
    · by_cases c1 : a.it = b.it
      · by_cases c2 : a.tx = b.tx
        · by_cases c3 : a.cr = b.cr
          · by_cases c4 : a.nums.length = b.nums.length
            · by_cases c5 : a.args.length = b.args.length
              · obtain ⟨r, hr, he⟩ := same_l1 (a := a) (b := b) c5 hn5 (fun i h => by
                  have h2 : i < b.args.length := by omega
                  have := ih a.args[i] (List.getElem_mem h) (hna _ (List.getElem_mem h)) b.args[i]
                  rw [toS_eq, toS_eq]
                  exact this) a.args.length 0 (by omega) (Nat.zero_le _)
                have h0 := same_l0 (a := a) (b := b) c4 hn4 he a.nums.length 0 (by omega) (Nat.zero_le _)
                rw [List.drop_zero, List.drop_zero] at h0 hr
                have hs : sameT a b = (decide (a.nums = b.nums) && r) := by
                  rw [Bool.eq_iff_iff, sameT_iff, Tm.eq_iff, Bool.and_eq_true, decide_eq_true_eq, hr]
                  simp [c0, c1, c2, c3]
                rw [hs]
                refine Ev.step (f := fun k => heddleref02_Same.j0 k false a.kd a.it a.tx a.cr a.nums (a.args.map toS) b.kd b.it b.tx b.cr b.nums (b.args.map toS)) (fun k => ?_) (Ev.step (fun k => ?_) h0)
                · simp only [heddleref02_Same.f]
                  rw [if_pos c0, if_pos c1, if_pos (tl_eq.2 c2), if_pos c3, if_pos (by omega)]
                  rw [show (((a.args.map toS).length : Int) != ((b.args.map toS).length : Int)) = false by simp [c5]]
                · simp only [heddleref02_Same.j0]
                  rw [if_neg (by simp)]
                  rfl
              · rw [sameT_false (fun e => c5 (by rw [e]))]
                refine Ev.step (fun k => ?_) (same_j0 (a := a) (b := b) (((a.args.map toS).length : Int) != ((b.args.map toS).length : Int)) (by simp; omega))
                simp only [heddleref02_Same.f]
                rw [if_pos c0, if_pos c1, if_pos (tl_eq.2 c2), if_pos c3, if_pos (by omega)]
            · rw [sameT_false (fun e => c4 (by rw [e]))]
              refine Ev.step (fun k => ?_) (same_j0 (a := a) (b := b) true rfl)
              simp only [heddleref02_Same.f]
              rw [if_pos c0, if_pos c1, if_pos (tl_eq.2 c2), if_pos c3, if_neg (by omega)]
          · rw [sameT_false (fun e => c3 (by rw [e]))]
            refine Ev.step (fun k => ?_) (same_j0 (a := a) (b := b) true rfl)
            simp only [heddleref02_Same.f]
            rw [if_pos c0, if_pos c1, if_pos (tl_eq.2 c2), if_neg c3]
        · rw [sameT_false (fun e => c2 (by rw [e]))]
          refine Ev.step (fun k => ?_) (same_j0 (a := a) (b := b) true rfl)
          simp only [heddleref02_Same.f]
          rw [if_pos c0, if_pos c1, if_neg (fun e => c2 (tl_eq.1 e))]
      · rw [sameT_false (fun e => c1 (by rw [e]))]
        refine Ev.step (fun k => ?_) (same_j0 (a := a) (b := b) true rfl)
        simp only [heddleref02_Same.f]
        rw [if_pos c0, if_neg c1]
    · rw [sameT_false (fun e => c0 (by rw [e]))]
      refine Ev.step (fun k => ?_) (same_j0 (a := a) (b := b) true rfl)
      simp only [heddleref02_Same.f]
      rw [if_neg c0]
/-- heddleref02.Same. -/
theorem ref02_Same {a b : Tm} {v u : Value} {w : World} (hv : TmIs w a v) (hu : TmIs w b u) :
    Calls Tryz.prog 24 #[v, u] w fun e w' => e = .returned (.bool (sameT a b)) ∧ Below w.heap.size w w' := by
  obtain ⟨A4, c4, A5, c5, rfl, hT⟩ := hv
  obtain ⟨B4, d4, B5, d5, rfl, hU⟩ := hu
  obtain ⟨g5, hm, hl⟩ := C_toS hT.g5
  obtain ⟨e5, _, _⟩ := C_toS hU.g5
  obtain ⟨k, hk⟩ := (same_ev a (.mk a hT.g4.2.1 hm hl) b).rounds
  have ha : (a.args.map toS).length = a.args.length := List.length_map _
  have hb : (b.args.map toS).length = b.args.length := List.length_map _
  have h := heddleref02_Same.calls k a.kd a.it a.tx a.cr A4 c4 a.nums A5 c5 (a.args.map toS) b.kd b.it b.tx b.cr B4 d4 b.nums B5 d5 (b.args.map toS) (sameT a b) w hT.g4 hT.l4 (by rw [ha]; exact g5) (by rw [ha]; exact hT.l5) hU.g4 hU.l4 (by rw [hb]; exact e5) (by rw [hb]; exact hU.l5) hk
  rw [ha, hb] at h
  exact h
end Go.Proofs.YtgapeacflkfmdaaGreatDoor
set_option linter.unusedSimpArgs false
namespace Go.Proofs.YtgapeacflkfmdaaGreatDoor
open Go.RowKit Go.Sort Go.Proofs.YtgapeacflkfmdaaGreatDoorW.PrintWords

/-- An error as a value: nil just where there is no fault. -/
theorem ErrIs.shapeL {W : World} {l : List Lk} {v : Value} (h : ErrIs W l v) : (l = [] ∧ v = .nilIface) ∨ (l ≠ [] ∧ ∃ b : Nat, v = .iface 125 (.pointer (some ⟨b, 0, none⟩))) := by
  cases l with
  | nil => exact .inl ⟨rfl, h⟩
  | cons x r => obtain ⟨b, u, e, _⟩ := h; exact .inr ⟨by simp, b, e⟩
end Go.Proofs.YtgapeacflkfmdaaGreatDoor
set_option linter.unusedSimpArgs false
namespace Go.Proofs.YtgapeacflkfmdaaGreatDoor
open Go.RowKit Go.Sort Go.Proofs.YtgapeacflkfmdaaGreatDoorW.PrintWords Tb

theorem blank_in {c : Int} (h : isBlank c = true) : isIn c = false := by
  unfold isBlank at h
  simp only [Bool.or_eq_true, beq_iff_eq] at h
  rcases h with ((rfl | rfl) | rfl) | rfl <;> rfl
/-- A term's text, with blanks around and within, is read as that term. -/
theorem read_txt {t : Tm} (hc : chk t = []) (hw : wfT t = true) {g B1 B2 : List Int} (hg : ∀ x ∈ g, isBlank x = true) (h1 : ∀ x ∈ B1, isBlank x = true) (h2 : ∀ x ∈ B2, isBlank x = true)
    (s : ByteArray) (hs : bs s = B1 ++ (txtT g t ++ B2)) (hl : s.size ≤ 4194304) : rdAll s = (t, []) := by
  have hp := meas_parts (t := t) (d := 1) (n := 0) (m := 0) hc
  obtain ⟨c, r, hh, hd⟩ := txt_head g hp.2.1
  have hb0 : blk s 0 = B1.length := by
    have := blk_to (s := s) (A := []) (G := B1) (c := c) (R := r ++ B2) (by rw [hs, hh]; simp) h1 hd.1
    simpa using this
  have hst : StopR B2 := fun x R' e => blank_in (h2 x (by rw [e]; simp))
  have hr := rd_txt hg s t 1 0 0 256 hc hw (by decide) B1 B2 0 hs hst hb0
  rw [rdAll_eq (by omega), hr]
  simp only [if_true]
  have hba : blk s (B1.length + (txtT g t).length) = s.size := by
    have := blk_all (s := s) (A := B1 ++ txtT g t) (G := B2) (by rw [hs, List.append_assoc]) h2
    rw [List.length_append] at this
    exact this
  rw [hba]
  unfold rdEnd
  rw [if_neg (Nat.lt_irrefl _), if_pos hc]
theorem txt_range (g : List Int) (hg : ∀ x ∈ g, 0 ≤ x ∧ x ≤ 255) (t : Tm) : ∀ c ∈ txtT g t, 0 ≤ c ∧ c ≤ 255 := by
  have hit : ∀ n : Int, ∀ c ∈ itoaI n, 0 ≤ c ∧ c ≤ 255 := by
    intro n c hc
    unfold itoaI at hc
    obtain ⟨u, _, rfl⟩ := List.mem_map.1 hc
    have := u.toNat_lt
    omega
  have hsep : ∀ (s : List Int) (l : List (List Int)), (∀ c ∈ s, 0 ≤ c ∧ c ≤ 255) → (∀ x ∈ l, ∀ c ∈ x, 0 ≤ c ∧ c ≤ 255) → ∀ c ∈ sepBy s l, 0 ≤ c ∧ c ≤ 255 := by
    intro s l hs
    induction l with
    | nil => intro _ c hc; cases hc
    | cons a l ih =>
      intro h c hc
      rw [sepBy_cons, List.mem_append] at hc
      rcases hc with hc | hc
      · exact h a (by simp) c hc
      · unfold sepPost at hc
        split at hc
        · cases hc
        · rw [List.mem_append] at hc
          rcases hc with hc | hc
          · exact hs c hc
          · exact ih (fun x hx => h x (by simp [hx])) c hc
  have hfar : ∀ (tx : ByteArray) (ns : List Int), ∀ c ∈ farTxt tx ns, 0 ≤ c ∧ c ≤ 255 := by
    intro tx ns c hc
    unfold farTxt at hc
    simp only [List.mem_cons, List.mem_append, List.mem_flatMap, List.not_mem_nil, or_false] at hc
    rcases hc with rfl | hc | ⟨n, _, rfl | hc⟩ | rfl
    · decide
    · exact bs_range _ c hc
    · decide
    · exact hit n c hc
    · decide
  induction t using Tm.ind with
  | h t ih =>
    intro c hc
    rw [txtT_eq] at hc
    have h44 : ∀ x ∈ (44 : Int) :: g, 0 ≤ x ∧ x ≤ 255 := by
      intro x hx
      rcases List.mem_cons.1 hx with rfl | hx
      · decide
      · exact hg x hx
    have hm : ∀ x ∈ t.args.map (txtT g), ∀ c ∈ x, 0 ≤ c ∧ c ≤ 255 := by
      intro x hx
      obtain ⟨a, ha, rfl⟩ := List.mem_map.1 hx
      exact ih a ha
    split at hc
    · exact hit _ c hc
    · split at hc
      · exact bs_range _ c hc
      · split at hc
        · simp only [List.mem_cons] at hc
          rcases hc with rfl | rfl | rfl | rfl | hc
          · decide
          · decide
          · decide
          · decide
          · exact hfar _ _ c hc
        · split at hc
          · exact hfar _ _ c hc
          · split at hc
            · simp only [List.mem_cons, List.mem_append, List.not_mem_nil, or_false] at hc
              rcases hc with rfl | hc | hc | rfl
              · decide
              · exact hg c hc
              · exact hsep _ _ h44 hm c hc
              · decide
            · split at hc
              · simp only [List.mem_cons, List.mem_append, List.not_mem_nil, or_false] at hc
                rcases hc with rfl | hc | rfl
                · decide
                · exact hg c hc
                · decide
              · simp only [List.mem_cons, List.mem_append, List.not_mem_nil, or_false] at hc
                rcases hc with rfl | hc | hc | hc | rfl
                · decide
                · exact hg c hc
                · exact hsep _ _ h44 (fun x hx => hm x (List.dropLast_subset _ hx)) c hc
                · split at hc
                  · cases hc
                  · simp only [List.mem_cons, List.mem_append] at hc
                    rcases hc with rfl | hc | hc
                    · decide
                    · exact hg c hc
                    · by_cases he : t.args.map (txtT g) = []
                      · rw [he] at hc; cases hc
                      · obtain ⟨i, x, hix⟩ := dropLast_snoc he
                        rw [hix, List.getLastD_concat] at hc
                        exact hm x (by rw [hix]; simp) c hc
                · decide
/-- What is printed is read again. -/
theorem read_print {t : Tm} (hc : chk t = []) (hw : wfT t = true) : rdAll (strOfNums (txtT [] t)) = (t, []) := by
  have hb := bs_strOf (l := txtT [] t) (txt_range [] (fun x hx => by cases hx) t)
  refine read_txt hc hw (g := []) (B1 := []) (B2 := []) (fun x hx => by cases hx) (fun x hx => by cases hx) (fun x hx => by cases hx) _ (by rw [hb]; simp) ?_
  rw [strOf_size]
  have := chk_txt hc hw
  omega
set_option maxRecDepth 100000 in
set_option maxHeartbeats 4000000 in
theorem walk_TermBack (t : Tm) (v : Value) (w : World) (hv : TmIs w t v) (hsm : smT t = true) (hwf : wfT t = true) (hG : Glob w) :
    Calls Tryz.prog 6 #[v] w (TruePost w) := by
  obtain ⟨A4, c4, A5, c5, rfl, hR⟩ := hv
  have HT1 := Lib.hid (TmAt.new w t (.slice A4 t.nums.length c4) (.slice A5 t.args.length c5))
  have hB1 := below_alloc (Below.refl w.heap.size w) (.cells #[.int .i64 t.kd, .int .i64 t.it, .string t.tx, .int .u32 t.cr, .slice A4 t.nums.length c4, .slice A5 t.args.length c5] 27)
  have HP := Lib.hid fun W (hW : Below w.heap.size w W) => term_Print t A4 A5 c4 c5 W (hR.below hW) hsm hwf (hG.below hW)
  have HI := Lib.hid fun W (hW : Below w.heap.size w W) => TmIs.below (v := tmV t (.slice A4 t.nums.length c4) (.slice A5 t.args.length c5)) ⟨A4, c4, A5, c5, rfl, hR⟩ hW
  have HG := Lib.hid fun W (hW : Below w.heap.size w W) => hG.below hW
  have HWF := Lib.hid hwf
  clear hR hsm hG hwf
  unfold tmV at HP HI ⊢
  go_enter Tryz.func6, Tryz.ntmps6
  go_upto_region 1 with (fail)
  generalize w.alloc (.cells #[.int .i64 t.kd, .int .i64 t.it, .string t.tx, .int .u32 t.cr, .slice A4 t.nums.length c4, .slice A5 t.args.length c5] 27) = w1 at HT1 hB1 ⊢
  have HB1 := Lib.hid hB1
  clear hB1
  have a0 := HT1.out.c0
  have a1 := HT1.out.c1
  have a2 := HT1.out.c2
  have a3 := HT1.out.c3
  have a4 := HT1.out.c4
  have a5 := HT1.out.c5
  go_wp2_with fail
  refine (HP.out _ HB1.out).mono ?_
  rintro e w2 ⟨ve, rfl, hE, hB⟩
  have hE' := hE.shapeL
  have HT2 := Lib.hid (HT1.out.below hB HT1.out.lt)
  have HB2 := Lib.hid (trans_below HB1.out hB)
  clear hE hB HT1 HB1
  clear a0 a1 a2 a3 a4 a5
  cases hc : chk t with
  | cons x r =>
    have hpr : printT t = (⟨#[]⟩, x :: r) := by unfold printT; rw [if_neg (by rw [hc]; simp), hc]
    rw [hpr] at hE' ⊢
    obtain ⟨_, b, rfl⟩ := hE'.resolve_left (fun h => by cases h.1)
    clear hpr hE' hc
    go_wp2_with fail
    refine (awake_any _ (HG.out _ HB2.out)).mono ?_
    rintro e w3 ⟨rfl, hB⟩
    have HB3 := Lib.hid (trans_below HB2.out hB)
    clear hB
    go_wp2_with fail
    go_ret
    exact ⟨rfl, HB3.out⟩
  | nil =>
    have hpr : printT t = (strOfNums (txtT [] t), []) := by unfold printT; rw [if_pos hc]
    have hrd := read_print hc HWF.out
    have hsz : (strOfNums (txtT [] t)).size ≤ 140737488351232 := by
      rw [strOf_size]
      have := chk_txt hc HWF.out
      omega
    have HRD := Lib.hid (term_Read (strOfNums (txtT [] t)) hsz)
    rw [hrd] at HRD
    rw [hpr] at hE' ⊢
    obtain ⟨_, rfl⟩ := hE'.resolve_right (fun h => h.1 rfl)
    generalize strOfNums (txtT [] t) = s at HRD ⊢
    clear hpr hE' hc hrd hsz
    go_wp2_with fail
    refine (awake_any _ (HG.out _ HB2.out)).mono ?_
    rintro e w3 ⟨rfl, hB⟩
    have HT3 := Lib.hid (HT2.out.below hB HT2.out.lt)
    have HB3 := Lib.hid (trans_below HB2.out hB)
    clear hB HT2 HB2
    go_wp2_with fail
    refine (HRD.out _ (HG.out _ HB3.out)).mono ?_
    rintro e w4 ⟨v, ev, rfl, hM, hE, hB⟩
    obtain rfl : ev = .nilIface := hE
    obtain ⟨D4, d4, D5, d5, rfl, hT⟩ := hM.is
    have HT4 := Lib.hid (HT3.out.below hB HT3.out.lt)
    have HB4 := Lib.hid (trans_below HB3.out hB)
    have HTT := Lib.hid hT
    clear hB HT3 HB3 hM hT
    unfold tmV
    go_upto_region 5 with (fail)
    have hb := below_alloc (Below.refl w4.heap.size w4) (.cells #[.int .i64 t.kd, .int .i64 t.it, .string t.tx, .int .u32 t.cr, .slice D4 t.nums.length d4, .slice D5 t.args.length d5] 27)
    have hta := TmAt.new w4 t (.slice D4 t.nums.length d4) (.slice D5 t.args.length d5)
    generalize w4.alloc (.cells #[.int .i64 t.kd, .int .i64 t.it, .string t.tx, .int .u32 t.cr, .slice D4 t.nums.length d4, .slice D5 t.args.length d5] 27) = w5 at hb hta ⊢
    have HTA := Lib.hid hta
    have HT5 := Lib.hid (HT4.out.below hb HT4.out.lt)
    have HB5 := Lib.hid (trans_below HB4.out hb)
    have HS := Lib.hid (ref02_Same (HI.out w5 HB5.out) (TmIs.below ⟨D4, d4, D5, d5, rfl, HTT.out⟩ hb))
    rw [sameT_refl] at HS
    unfold tmV at HS
    clear hb hta HT4 HB4 HTT
    obtain ⟨s0, s1, s2, s3, s4, s5, _, _, _, _, _, _⟩ := HTA.out
    have a0 := HT5.out.c0
    have a1 := HT5.out.c1
    have a2 := HT5.out.c2
    have a3 := HT5.out.c3
    have a4 := HT5.out.c4
    have a5 := HT5.out.c5
    go_wp2_with fail
    refine HS.out.mono ?_
    rintro e w6 ⟨rfl, hB⟩
    have HB6 := Lib.hid (trans_below HB5.out hB)
    clear hB
    go_wp2_with fail
    go_ret
    exact ⟨rfl, HB6.out⟩
end Go.Proofs.YtgapeacflkfmdaaGreatDoor
namespace Go.Proofs.YtgapeacflkfmdaaGreatDoor
open Go.Lib Go.ChangeShapes Go.WideShapes Go.ChangeAt Go.RowKit Go.Proofs.YtgapeacflkfmdaaGreatDoorW.PrintWords

theorem wfL_of {l : List Tm} (h : ∀ a ∈ l, wfT a = true) : wfL l = true := by
  induction l with
  | nil => rfl
  | cons a l ih =>
    rw [wfL, Bool.and_eq_true]
    exact ⟨h a (by simp), ih fun x hx => h x (by simp [hx])⟩
theorem smL_of {l : List Tm} (h : ∀ a ∈ l, smT a = true) : smL l = true := by
  induction l with
  | nil => rfl
  | cons a l ih =>
    rw [smL, Bool.and_eq_true]
    exact ⟨h a (by simp), ih fun x hx => h x (by simp [hx])⟩
section
variable {H : Type} {enc : TypeId × Value → H} {w : World} {base : Nat} {sp : Nat → Bool} {held : Bool}
theorem bulk1 (d : DataW H) : 1 ≤ Rows.uptoBulk d := by
  cases d with
  | lit x => cases x <;> simp [Rows.uptoBulk]
  | _ => simp [Rows.uptoBulk]
theorem bulkIn : ∀ {ds : List (DataW H)} {d : DataW H}, d ∈ ds → Rows.uptoBulk d ≤ Rows.uptoBulkAll ds
  | e :: ds, d, h => by
    rw [Rows.uptoBulkAll]
    rcases List.mem_cons.1 h with rfl | h
    · omega
    · have := bulkIn h
      omega
theorem weightIn {e : TypeId} : ∀ {ds : List (DataW H)} {d : DataW H} {k : Nat}, d ∈ ds → k ∈ d.weights Tryz.prog e → k ∈ DataW.weightsAll Tryz.prog e ds
  | c :: ds, d, k, h, hk => by
    rw [DataW.weightsAll, List.mem_append]
    rcases List.mem_cons.1 h with rfl | h
    · exact .inl hk
    · exact .inr (weightIn h hk)
/-- A row that is read, element by element. -/
theorem C_of_cells {α : Type} (d : Kd α) (z : α) (Q : Nat → α → Prop) {a : Addr} {len cap : Nat} (hl : len ≤ cap) (hc : cap ≤ maxLen)
    (h : ∀ i, i < len → ∃ cs', w.cells? base (a.add (i * d.sz)) d.sz = some cs' ∧ ∃ p, d.K w p cs' ∧ Q i p) :
    ∃ l : List α, l.length = len ∧ d.C w (some a) len l ∧ ∀ (i : Nat) (hi : i < l.length), Q i l[i] := by
  have key : ∃ T : Nat → α, ∀ i, i < len → ∃ cs', w.cells? base (a.add (i * d.sz)) d.sz = some cs' ∧ d.K w (T i) cs' ∧ Q i (T i) := by
    refine ⟨fun i => if hi : i < len then (h i hi).choose_spec.2.choose else z, fun i hi => ?_⟩
    simp only [dif_pos hi]
    exact ⟨(h i hi).choose, (h i hi).choose_spec.1, (h i hi).choose_spec.2.choose_spec⟩
  obtain ⟨T, hT⟩ := key
  have hll : ((List.range len).map T).length = len := by simp
  have hget : ∀ i, i < len → ((List.range len).map T)[i]? = some (T i) := by
    intro i hi
    rw [List.getElem?_map, List.getElem?_range hi]
    rfl
  refine ⟨(List.range len).map T, hll, ⟨hll, by have : maxLen = 9223372036854775807 := rfl; omega, fun _ => ⟨a, rfl, fun j p hj => ?_⟩⟩, fun i hi => ?_⟩
  · have hj' : j < len := by rw [← hll]; exact (List.getElem?_eq_some_iff.1 hj).1
    rw [hget j hj'] at hj
    obtain rfl := Option.some.inj hj
    obtain ⟨cs', hcs, hK, _⟩ := hT j hj'
    obtain ⟨_, hlen, hcell⟩ := World.cells?_some hcs
    refine ⟨cs', d.K_len hK, hK, fun i u hu => ?_⟩
    have hi : i < d.sz := by rw [← d.K_len hK]; exact (List.getElem?_eq_some_iff.1 hu).1
    have := hcell i hi
    rw [hu] at this
    rw [← this, Addr.add_add]
  · rw [hll] at hi
    have e : ((List.range len).map T)[i]'(by rw [hll]; exact hi) = T i := by simp
    rw [e]
    exact (hT i hi).choose_spec.2.2
theorem u32_wf {z : Int} (h : (Lit.int .u32 z).wf = true) : 0 ≤ z ∧ z ≤ 4294967295 := by
  have h1 := (of_decide_eq_true ((Bool.and_eq_true _ _).mp h).1 : IntKind.u32.min ≤ z)
  have h2 := (of_decide_eq_true ((Bool.and_eq_true _ _).mp h).2 : z ≤ IntKind.u32.max)
  exact ⟨h1, h2⟩
set_option maxRecDepth 100000 in
theorem nums_in {fuel : Nat} {v : Value} {x : DataW H × List MemPlace} (h : DataW.trod enc Tryz.prog w base sp held fuel 24 [v] = some x) :
    ∃ (l : List Int) (A : Option Addr) (c : Nat), v = .slice A l.length c ∧ l.length ≤ c ∧ kU.C w A l.length l ∧ ∀ n ∈ l, 0 ≤ n ∧ n ≤ 4294967295 := by
  rcases Go.Deep.open_slice Tryz.underlying24 h with ⟨hcs, hx⟩ | ⟨a, len, cap, m, n, D, Pl, hcs, _, hl, hcm, hm, hx, hall⟩
  · simp only [List.cons.injEq, and_true] at hcs
    subst hcs
    exact ⟨[], none, 0, rfl, Nat.le_refl _, ⟨rfl, by simp, fun h => absurd h (Nat.lt_irrefl 0)⟩, fun n hn => by cases hn⟩
  · simp only [List.cons.injEq, and_true] at hcs
    subst hcs
    rw [show Tryz.prog.cellsOf 23 = 1 by kernel_rfl] at hall
    have hlm : len ≤ m := by rw [hm]; split <;> omega
    obtain ⟨l, hll, hC, hQ⟩ := C_of_cells (d := kU) 0 (fun _ n => 0 ≤ n ∧ n ≤ 4294967295) hl hcm (fun i hi => by
      obtain ⟨cs', hc, ht⟩ := hall i (by omega)
      obtain ⟨z, e0, _, hz⟩ := DataW.trod_int Tryz.underlying23 ht
      exact ⟨cs', hc, z, e0, u32_wf hz⟩)
    subst hll
    refine ⟨l, some a, cap, rfl, hl, hC, fun n hn => ?_⟩
    obtain ⟨i, hi, rfl⟩ := List.mem_iff_getElem.1 hn
    exact hQ i hi
theorem trod_struct6 {t : TypeId} {f0 f1 f2 f3 f4 f5 : Field} {fuel : Nat} {cs : List Value} {x : DataW H × List MemPlace} (ht : Tryz.prog.underlying t = some (.struct #[f0, f1, f2, f3, f4, f5])) (h : DataW.trod enc Tryz.prog w base sp held fuel t cs = some x) :
    ∃ y0 y1 y2 y3 y4 y5 n, x.1 = .agg [y0.1, y1.1, y2.1, y3.1, y4.1, y5.1] ∧ cs.length = Tryz.prog.cellsOf t ∧ DataW.trod enc Tryz.prog w base sp held n f0.type ((cs.drop f0.offset).take (Tryz.prog.cellsOf f0.type)) = some y0 ∧
      DataW.trod enc Tryz.prog w base sp held n f1.type ((cs.drop f1.offset).take (Tryz.prog.cellsOf f1.type)) = some y1 ∧ DataW.trod enc Tryz.prog w base sp held n f2.type ((cs.drop f2.offset).take (Tryz.prog.cellsOf f2.type)) = some y2 ∧
      DataW.trod enc Tryz.prog w base sp held n f3.type ((cs.drop f3.offset).take (Tryz.prog.cellsOf f3.type)) = some y3 ∧ DataW.trod enc Tryz.prog w base sp held n f4.type ((cs.drop f4.offset).take (Tryz.prog.cellsOf f4.type)) = some y4 ∧
      DataW.trod enc Tryz.prog w base sp held n f5.type ((cs.drop f5.offset).take (Tryz.prog.cellsOf f5.type)) = some y5 := by
  obtain ⟨xs, n, _, rfl, hl, hlen, hf⟩ := DataW.trod_struct ht h
  match xs, hlen with
  | [y0, y1, y2, y3, y4, y5], _ => exact ⟨y0, y1, y2, y3, y4, y5, n, by simp, hl, by simpa using hf 0 f0 rfl, by simpa using hf 1 f1 rfl, by simpa using hf 2 f2 rfl, by simpa using hf 3 f3 rfl, by simpa using hf 4 f4 rfl, by simpa using hf 5 f5 rfl⟩
/-- The bound that the statements' rows give on each weight. -/
def Light (ks : List Nat) : Prop := ∀ k ∈ ks, k ≤ 140737488351232
set_option maxRecDepth 100000 in
theorem one_tm : ∀ (N : Nat) {fuel : Nat} {cs : List Value} {x : DataW H × List MemPlace}, Rows.uptoBulk x.1 ≤ N → DataW.trod enc Tryz.prog w base sp held fuel 27 cs = some x →
    ∃ t : Tm, kTm.K w t cs ∧ wfT t = true ∧ (Light (x.1.weights Tryz.prog 27) → smT t = true)
  | 0, _, _, x, hN, _ => absurd hN (by have := bulk1 x.1; omega)
  | N + 1, fuel, cs, x, hN, h => by
    obtain ⟨y0, y1, y2, y3, y4, y5, n, hx, hlen, h0, h1, h2, h3, h4, h5⟩ := trod_struct6 Tryz.underlying27 h
    rw [show Tryz.prog.cellsOf 27 = 6 by kernel_rfl] at hlen
    obtain ⟨c0, c1, c2, c3, c4, c5, rfl⟩ : ∃ c0 c1 c2 c3 c4 c5, cs = [c0, c1, c2, c3, c4, c5] := by
      match cs, hlen with
      | [c0, c1, c2, c3, c4, c5], _ => exact ⟨c0, c1, c2, c3, c4, c5, rfl⟩
    rw [show Tryz.prog.cellsOf 24 = 1 by kernel_rfl] at h4
    rw [show Tryz.prog.cellsOf 25 = 1 by kernel_rfl] at h5
    obtain ⟨kd, e0, d0, _⟩ := DataW.trod_int Tryz.underlying22 h0
    obtain ⟨it, e1, d1, _⟩ := DataW.trod_int Tryz.underlying2 h1
    obtain ⟨tx, e2, d2, _⟩ := DataW.trod_string Tryz.underlying9 h2
    obtain ⟨cr, e3, d3, hcr⟩ := DataW.trod_int Tryz.underlying23 h3
    rw [show Tryz.prog.cellsOf 22 = 1 by kernel_rfl] at e0
    rw [show Tryz.prog.cellsOf 2 = 1 by kernel_rfl] at e1
    rw [show Tryz.prog.cellsOf 9 = 1 by kernel_rfl] at e2
    rw [show Tryz.prog.cellsOf 23 = 1 by kernel_rfl] at e3
    simp only [List.drop, List.take, List.cons.injEq, and_true] at e0 e1 e2 e3 h4 h5
    subst e0 e1 e2 e3
    obtain ⟨ns, A4, k4, rfl, l4, g4, hns⟩ := nums_in h4
    have hB5 : Rows.uptoBulk y5.1 ≤ N := by
      rw [hx, Rows.uptoBulk] at hN
      have := bulkIn (ds := [y0.1, y1.1, y2.1, y3.1, y4.1, y5.1]) (d := y5.1) (by simp)
      omega
    have hL2 : Light (x.1.weights Tryz.prog 27) → tx.size ≤ 140737488351232 := by
      intro hl
      refine hl _ ?_
      rw [hx, DataW.weights, Tryz.underlying27]
      simp only [List.map, DataW.weightsEach, List.mem_append]
      refine .inr (.inr (.inl ?_))
      rw [d2, DataW.weights, List.mem_singleton]
      exact Lib.size_eq _
    have hL5 : Light (x.1.weights Tryz.prog 27) → Light (y5.1.weights Tryz.prog 25) := by
      intro hl k hk
      refine hl _ ?_
      rw [hx, DataW.weights, Tryz.underlying27]
      simp only [List.map, DataW.weightsEach, List.mem_append]
      exact .inr (.inr (.inr (.inr (.inr (.inl hk)))))
    rcases Go.Deep.open_slice Tryz.underlying25 h5 with ⟨hcs, _⟩ | ⟨a, len, cap, m, n', D, Pl, hcs, _, hl, hcm, hm, hy5, hall⟩
    · simp only [List.cons.injEq, and_true] at hcs
      subst hcs
      refine ⟨⟨kd, it, tx, cr, ns, []⟩, kTm_mk w ⟨kd, it, tx, cr, ns, []⟩ l4 g4 (Nat.le_refl _) ⟨rfl, by simp, fun h => absurd h (Nat.lt_irrefl 0)⟩, ?_, fun hL => ?_⟩
      · rw [wfT_eq, wfL]
        simp only [Bool.and_eq_true, decide_eq_true_eq, List.all_eq_true, and_true]
        exact ⟨u32_wf hcr, hns⟩
      · rw [smT_eq, smL]
        simp only [Bool.and_eq_true, decide_eq_true_eq, and_true]
        exact hL2 hL
    · simp only [List.cons.injEq, and_true] at hcs
      subst hcs
      rw [show Tryz.prog.cellsOf 27 = 6 by kernel_rfl] at hall
      have hlm : len ≤ m := by rw [hm]; split <;> omega
      have hmem : ∀ i, i < len → D i ∈ (List.range len).map D := fun i hi => List.mem_map.2 ⟨i, List.mem_range.2 hi, rfl⟩
      have hD : ∀ i, i < len → Rows.uptoBulk (D i) ≤ N := by
        intro i hi
        rw [hy5] at hB5
        simp only [Rows.uptoBulk] at hB5
        have := bulkIn (hmem i hi)
        omega
      have hDL : Light (y5.1.weights Tryz.prog 25) → ∀ i, i < len → Light ((D i).weights Tryz.prog 27) := by
        intro hl i hi k hk
        refine hl k ?_
        rw [hy5]
        simp only [DataW.weights, Tryz.underlying25, List.mem_cons, List.mem_append]
        exact .inr (.inl (weightIn (hmem i hi) hk))
      obtain ⟨l, hll, hC, hQ⟩ := C_of_cells (d := kTm) zTm (fun i t => wfT t = true ∧ (Light ((D i).weights Tryz.prog 27) → smT t = true)) hl hcm (fun i hi => by
        obtain ⟨cs', hc, ht⟩ := hall i (by omega)
        obtain ⟨t, hK, hw, hs⟩ := one_tm N (x := (D i, Pl i)) (hD i hi) ht
        exact ⟨cs', hc, t, hK, hw, hs⟩)
      subst hll
      refine ⟨⟨kd, it, tx, cr, ns, l⟩, kTm_mk w ⟨kd, it, tx, cr, ns, l⟩ l4 g4 hl hC, ?_, fun hL => ?_⟩
      · rw [wfT_eq]
        simp only [Bool.and_eq_true, decide_eq_true_eq, List.all_eq_true]
        refine ⟨⟨u32_wf hcr, hns⟩, wfL_of fun a ha => ?_⟩
        obtain ⟨i, hi, rfl⟩ := List.mem_iff_getElem.1 ha
        exact (hQ i hi).1
      · rw [smT_eq]
        simp only [Bool.and_eq_true, decide_eq_true_eq]
        refine ⟨hL2 hL, smL_of fun a ha => ?_⟩
        obtain ⟨i, hi, rfl⟩ := List.mem_iff_getElem.1 ha
        exact (hQ i hi).2 (hDL (hL5 hL) i hi)
set_option maxRecDepth 100000 in
/-- A term handed in. -/
theorem open_tm {r : Reach} {b0 : Nat} {v : Value} {d : DataW H} {ps : List MemPlace} (hv : Value.okWide Tryz.prog w r b0 27 v) (h : DataW.Trod enc Tryz.prog w base sp held 27 v d ps) :
    ∃ t : Tm, TmIs w t v ∧ wfT t = true ∧ (Light (d.weights Tryz.prog 27) → smT t = true) := by
  obtain ⟨cs, rfl, hsz⟩ := okWide_struct Tryz.underlying27 hv
  obtain ⟨fuel, hf⟩ := h
  obtain ⟨t, hK, hw, hs⟩ := one_tm (Rows.uptoBulk d) (x := (d, ps)) (Nat.le_refl _) hf
  refine ⟨t, ?_, hw, hs⟩
  have := TmIs.ofK hK
  simpa [Value.cells] using this
end
end Go.Proofs.YtgapeacflkfmdaaGreatDoor
