/-
  The walk of TermLine.
-/
import Derived.Test.YtgapeacflkfmdaaGreatDoorG8
import Derived.Test.YtgapeacflkfmdaaGreatDoorG9
set_option linter.unusedSimpArgs false
namespace Go.Proofs.YtgapeacflkfmdaaGreatDoor
open Go.RowKit Go.Sort Go.Proofs.YtgapeacflkfmdaaGreatDoorW.PrintWords

/-- What the order of three terms says. -/
theorem line_cases {a b c : Tm} (ha : chk a = []) (hb : chk b = []) (hc : chk c = []) :
    compareT b a = - compareT a b ∧ compareT a a = 0 ∧ (-1 ≤ compareT a b ∧ compareT a b ≤ 1) ∧ (-1 ≤ compareT b c ∧ compareT b c ≤ 1) ∧ (-1 ≤ compareT a c ∧ compareT a c ≤ 1) ∧
      (sameT a b = decide (compareT a b = 0)) ∧ (equalT a b = decide (compareT a b = 0)) ∧
      (compareT a b ≤ 0 → compareT b c ≤ 0 → compareT a c ≤ 0) ∧ (compareT a b < 0 → compareT b c ≤ 0 → compareT a c < 0) ∧ (compareT a b ≤ 0 → compareT b c < 0 → compareT a c < 0) ∧
      (0 ≤ compareT a b → 0 ≤ compareT b c → 0 ≤ compareT a c) := by
  have oa := chk_ok ha
  have ob := chk_ok hb
  have oc := chk_ok hc
  rw [compare_ok ha hb, compare_ok hb ha, compare_ok ha ha, compare_ok hb hc, compare_ok ha hc]
  have t1 := ordT_T3 a b c oa ob oc
  have t2 := ordT_T3 c b a oc ob oa
  have n1 := ordT_anti b c
  have n2 := ordT_anti a b
  have n3 := ordT_anti a c
  have r1 := ordT_range a b
  have r2 := ordT_range b c
  have r3 := ordT_range a c
  have z := ordT_zero a b oa ob
  unfold T3 at t1 t2
  rw [n1, n2, n3] at t2
  refine ⟨n2, (ordT_zero a a oa oa).2 rfl, r1, r2, r3, ?_, ?_, t1.1, t1.2.1, t1.2.2.1, ?_⟩
  · rw [Bool.eq_iff_iff, sameT_iff, decide_eq_true_iff, z]
  · unfold equalT
    rw [ha, hb]
    simp
  · intro h1 h2
    have := t2.1 (by omega) (by omega)
    omega
theorem three_boxes (w : World) (a b c : Tm) (v4 v5 u4 u5 x4 x5 : Value) :
    ∃ w1, w1 = ((w.alloc (.cells #[.int .i64 a.kd, .int .i64 a.it, .string a.tx, .int .u32 a.cr, v4, v5] 27)).alloc (.cells #[.int .i64 b.kd, .int .i64 b.it, .string b.tx, .int .u32 b.cr, u4, u5] 27)).alloc (.cells #[.int .i64 c.kd, .int .i64 c.it, .string c.tx, .int .u32 c.cr, x4, x5] 27) ∧
      TmAt w1 w.heap.size a v4 v5 ∧ TmAt w1 (w.heap.size + 1) b u4 u5 ∧ TmAt w1 (w.heap.size + 1 + 1) c x4 x5 ∧ Below w.heap.size w w1 := by
  obtain ⟨w1, hw1, ha, hb, hB⟩ := two_boxes w a b v4 v5 u4 u5
  have hs : w1.heap.size = w.heap.size + 1 + 1 := by rw [hw1]; simp
  rw [← hw1]
  have hB2 := below_alloc (Below.refl w1.heap.size w1) (.cells #[.int .i64 c.kd, .int .i64 c.it, .string c.tx, .int .u32 c.cr, x4, x5] 27)
  have hc := TmAt.new w1 c x4 x5
  rw [hs] at hc
  exact ⟨_, rfl, ha.below hB2 ha.lt, hb.below hB2 hb.lt, hc, trans_below hB hB2⟩
/-- An error as a value: nil just where there is no fault. -/
theorem ErrIs.shapeL {W : World} {l : List Lk} {v : Value} (h : ErrIs W l v) : (l = [] ∧ v = .nilIface) ∨ (l ≠ [] ∧ ∃ b : Nat, v = .iface 125 (.pointer (some ⟨b, 0, none⟩))) := by
  cases l with
  | nil => exact .inl ⟨rfl, h⟩
  | cons x r => obtain ⟨b, u, e, _⟩ := h; exact .inr ⟨by simp, b, e⟩
set_option maxRecDepth 100000 in
set_option maxHeartbeats 16000000 in
theorem walk_TermLine (a b c : Tm) (v u x : Value) (w : World) (hv : TmIs w a v) (hu : TmIs w b u) (hx : TmIs w c x) (hsa : smT a = true) (hsb : smT b = true) (hsc : smT c = true) (hG : Glob w) :
    Calls Tryz.prog 9 #[v, u, x] w (TruePost w) := by
  have hne := fun (w : World) (a : Option Addr) (n c : Nat) => run_neq_slice_nil_any (P := Tryz.prog) w 32 83 a n c 0 0 Tryz.underlying32
  obtain ⟨A4, c4, A5, c5, rfl, hT⟩ := hv
  obtain ⟨B4, d4, B5, d5, rfl, hU⟩ := hu
  obtain ⟨X4, e4, X5, e5, rfl, hX⟩ := hx
  obtain ⟨w1, hw1, hTa, hTb, hTc, hB1⟩ := three_boxes w a b c (.slice A4 a.nums.length c4) (.slice A5 a.args.length c5) (.slice B4 b.nums.length d4) (.slice B5 b.args.length d5) (.slice X4 c.nums.length e4) (.slice X5 c.args.length e5)
  have HG := Lib.hid fun W (hW : Below w.heap.size w W) => hG.below hW
  have HRa := Lib.hid fun W (hW : Below w.heap.size w W) => ref02_Check a A4 A5 c4 c5 W (hT.below hW) hsa
  have HRb := Lib.hid fun W (hW : Below w.heap.size w W) => ref02_Check b B4 B5 d4 d5 W (hU.below hW) hsb
  have HRc := Lib.hid fun W (hW : Below w.heap.size w W) => ref02_Check c X4 X5 e4 e5 W (hX.below hW) hsc
  have HKa := Lib.hid fun W (hW : Below w.heap.size w W) => term_Check a A4 A5 c4 c5 W (hT.below hW) hsa (hG.below hW)
  have HKb := Lib.hid fun W (hW : Below w.heap.size w W) => term_Check b B4 B5 d4 d5 W (hU.below hW) hsb (hG.below hW)
  have HKc := Lib.hid fun W (hW : Below w.heap.size w W) => term_Check c X4 X5 e4 e5 W (hX.below hW) hsc (hG.below hW)
  have ia : ∀ W, Below w.heap.size w W → TmIs W a (tmV a (.slice A4 a.nums.length c4) (.slice A5 a.args.length c5)) := fun W hW => TmIs.below ⟨A4, c4, A5, c5, rfl, hT⟩ hW
  have ib : ∀ W, Below w.heap.size w W → TmIs W b (tmV b (.slice B4 b.nums.length d4) (.slice B5 b.args.length d5)) := fun W hW => TmIs.below ⟨B4, d4, B5, d5, rfl, hU⟩ hW
  have ic : ∀ W, Below w.heap.size w W → TmIs W c (tmV c (.slice X4 c.nums.length e4) (.slice X5 c.args.length e5)) := fun W hW => TmIs.below ⟨X4, e4, X5, e5, rfl, hX⟩ hW
  have HCab := Lib.hid fun W (hW : Below w.heap.size w W) => term_Compare a b _ _ W (ia W hW) (ib W hW) hsa hsb (hG.below hW)
  have HCbc := Lib.hid fun W (hW : Below w.heap.size w W) => term_Compare b c _ _ W (ib W hW) (ic W hW) hsb hsc (hG.below hW)
  have HCac := Lib.hid fun W (hW : Below w.heap.size w W) => term_Compare a c _ _ W (ia W hW) (ic W hW) hsa hsc (hG.below hW)
  have HCba := Lib.hid fun W (hW : Below w.heap.size w W) => term_Compare b a _ _ W (ib W hW) (ia W hW) hsb hsa (hG.below hW)
  have HCaa := Lib.hid fun W (hW : Below w.heap.size w W) => term_Compare a a _ _ W (ia W hW) (ia W hW) hsa hsa (hG.below hW)
  have HSab := Lib.hid fun W (hW : Below w.heap.size w W) => ref02_Same (ia W hW) (ib W hW)
  have HEab := Lib.hid fun W (hW : Below w.heap.size w W) => term_Equal a b _ _ W (ia W hW) (ib W hW) hsa hsb (hG.below hW)
  clear hT hU hX hsa hsb hsc hG ia ib ic
  unfold tmV at HRa HRb HRc HKa HKb HKc HCab HCbc HCac HCba HCaa HSab HEab ⊢
  go_enter Tryz.func9, Tryz.ntmps9
  go_upto_region 1 with (fail)
  rw [← hw1]
  clear hw1
  have HTa := Lib.hid hTa
  have HTb := Lib.hid hTb
  have HTc := Lib.hid hTc
  have HBW := Lib.hid hB1
  clear hTa hTb hTc hB1
  go_wp2_with fail
  refine (awake_any _ (HG.out _ HBW.out)).mono ?_
  rintro e w2 ⟨rfl, hB⟩
  replace HTa := Lib.hid (HTa.out.below hB HTa.out.lt)
  replace HTb := Lib.hid (HTb.out.below hB HTb.out.lt)
  replace HTc := Lib.hid (HTc.out.below hB HTc.out.lt)
  replace HBW := Lib.hid (trans_below HBW.out hB)
  clear hB
  by_cases hall : chk a = [] ∧ chk b = [] ∧ chk c = []
  · have HALL := Lib.hid hall
    clear hall
    have p0 := HTa.out.c0
    have p1 := HTa.out.c1
    have p2 := HTa.out.c2
    have p3 := HTa.out.c3
    have p4 := HTa.out.c4
    have p5 := HTa.out.c5
    have q0 := HTb.out.c0
    have q1 := HTb.out.c1
    have q2 := HTb.out.c2
    have q3 := HTb.out.c3
    have q4 := HTb.out.c4
    have q5 := HTb.out.c5
    have r0 := HTc.out.c0
    have r1 := HTc.out.c1
    have r2 := HTc.out.c2
    have r3 := HTc.out.c3
    have r4 := HTc.out.c4
    have r5 := HTc.out.c5
    go_wp2_with fail
    refine (HRa.out _ HBW.out).mono ?_
    rintro e wr ⟨va, rfl, hL, hB⟩
    have hsh := hL.shape
    clear hL
    replace HTa := Lib.hid (HTa.out.below hB HTa.out.lt)
    replace HTb := Lib.hid (HTb.out.below hB HTb.out.lt)
    replace HTc := Lib.hid (HTc.out.below hB HTc.out.lt)
    replace HBW := Lib.hid (trans_below HBW.out hB)
    clear hB
    clear p0 p1 p2 p3 p4 p5 q0 q1 q2 q3 q4 q5 r0 r1 r2 r3 r4 r5
    obtain ⟨_, rfl⟩ := hsh.resolve_right (fun h => h.1 HALL.out.1)
    clear hsh
    have p0 := HTa.out.c0
    have p1 := HTa.out.c1
    have p2 := HTa.out.c2
    have p3 := HTa.out.c3
    have p4 := HTa.out.c4
    have p5 := HTa.out.c5
    have q0 := HTb.out.c0
    have q1 := HTb.out.c1
    have q2 := HTb.out.c2
    have q3 := HTb.out.c3
    have q4 := HTb.out.c4
    have q5 := HTb.out.c5
    have r0 := HTc.out.c0
    have r1 := HTc.out.c1
    have r2 := HTc.out.c2
    have r3 := HTc.out.c3
    have r4 := HTc.out.c4
    have r5 := HTc.out.c5
    go_wp2_with fail
    refine (HRb.out _ HBW.out).mono ?_
    rintro e wr ⟨va, rfl, hL, hB⟩
    have hsh := hL.shape
    clear hL
    replace HTa := Lib.hid (HTa.out.below hB HTa.out.lt)
    replace HTb := Lib.hid (HTb.out.below hB HTb.out.lt)
    replace HTc := Lib.hid (HTc.out.below hB HTc.out.lt)
    replace HBW := Lib.hid (trans_below HBW.out hB)
    clear hB
    clear p0 p1 p2 p3 p4 p5 q0 q1 q2 q3 q4 q5 r0 r1 r2 r3 r4 r5
    obtain ⟨_, rfl⟩ := hsh.resolve_right (fun h => h.1 HALL.out.2.1)
    clear hsh
    have p0 := HTa.out.c0
    have p1 := HTa.out.c1
    have p2 := HTa.out.c2
    have p3 := HTa.out.c3
    have p4 := HTa.out.c4
    have p5 := HTa.out.c5
    have q0 := HTb.out.c0
    have q1 := HTb.out.c1
    have q2 := HTb.out.c2
    have q3 := HTb.out.c3
    have q4 := HTb.out.c4
    have q5 := HTb.out.c5
    have r0 := HTc.out.c0
    have r1 := HTc.out.c1
    have r2 := HTc.out.c2
    have r3 := HTc.out.c3
    have r4 := HTc.out.c4
    have r5 := HTc.out.c5
    go_wp2_with fail
    refine (HRc.out _ HBW.out).mono ?_
    rintro e wr ⟨va, rfl, hL, hB⟩
    have hsh := hL.shape
    clear hL
    replace HTa := Lib.hid (HTa.out.below hB HTa.out.lt)
    replace HTb := Lib.hid (HTb.out.below hB HTb.out.lt)
    replace HTc := Lib.hid (HTc.out.below hB HTc.out.lt)
    replace HBW := Lib.hid (trans_below HBW.out hB)
    clear hB
    clear p0 p1 p2 p3 p4 p5 q0 q1 q2 q3 q4 q5 r0 r1 r2 r3 r4 r5
    obtain ⟨_, rfl⟩ := hsh.resolve_right (fun h => h.1 HALL.out.2.2)
    clear hsh HRa HRb HRc HKa HKb HKc
    have hln := line_cases HALL.out.1 HALL.out.2.1 HALL.out.2.2
    clear HALL
    rename World => w3
    go_upto_region 5 with (fail)
    clear hne
    have HG1 := Lib.hid fun dd os => calls_grow (w := w3) (fun W hW => HCab.out W (trans_below HBW.out hW)) dd os
    have HG2 := Lib.hid fun dd os => calls_grow (w := w3) (fun W hW => HCbc.out W (trans_below HBW.out hW)) dd os
    have HG3 := Lib.hid fun dd os => calls_grow (w := w3) (fun W hW => HCac.out W (trans_below HBW.out hW)) dd os
    have p0 := cell_regrown HTa.out.c0
    have p1 := cell_regrown HTa.out.c1
    have p2 := cell_regrown HTa.out.c2
    have p3 := cell_regrown HTa.out.c3
    have p4 := cell_regrown HTa.out.c4
    have p5 := cell_regrown HTa.out.c5
    have q0 := cell_regrown HTb.out.c0
    have q1 := cell_regrown HTb.out.c1
    have q2 := cell_regrown HTb.out.c2
    have q3 := cell_regrown HTb.out.c3
    have q4 := cell_regrown HTb.out.c4
    have q5 := cell_regrown HTb.out.c5
    have r0 := cell_regrown HTc.out.c0
    have r1 := cell_regrown HTc.out.c1
    have r2 := cell_regrown HTc.out.c2
    have r3 := cell_regrown HTc.out.c3
    have r4 := cell_regrown HTc.out.c4
    have r5 := cell_regrown HTc.out.c5
    generalize hxe : compareT a b = x at hln HG1 HCab
    generalize hye : compareT b c = y at hln HG2 HCbc
    generalize hze : compareT a c = z at hln HG3 HCac
    obtain ⟨hba, haa, hxr, hyr, hzr, hsm, heq, m1, m2, m3, m4⟩ := hln
    rw [hba] at HCba
    rw [haa] at HCaa
    rw [hsm] at HSab
    rw [heq] at HEab
    clear hxe hye hze hba haa hsm heq
    have HM := Lib.hid (And.intro m1 (And.intro m2 (And.intro m3 m4)))
    have HXR := Lib.hid (And.intro hxr (And.intro hyr hzr))
    clear hxr hyr hzr m1 m2 m3 m4
    refine wp_region_quiet_below (by kernel_rfl) (by kernel_rfl) ?_
    repeat (go_big_quiet_step ((first | with_reducible exact HG1.out _ _ | with_reducible exact HG2.out _ _ | with_reducible exact HG3.out _ _)))
    refine wpQuiet_nil ?_
    intro _ hw'
    obtain ⟨⟨dq, osq⟩, hw''⟩ := hw'
    subst hw''
    have hwq := below_regrown w3 dq osq
    generalize grow (redrawn w3 dq) osq = wq at hwq ⊢
    clear p0 p1 p2 p3 p4 p5 q0 q1 q2 q3 q4 q5 r0 r1 r2 r3 r4 r5 HG1 HG2 HG3
    replace HTa := Lib.hid (HTa.out.below hwq HTa.out.lt)
    replace HTb := Lib.hid (HTb.out.below hwq HTb.out.lt)
    replace HTc := Lib.hid (HTc.out.below hwq HTc.out.lt)
    replace HBW := Lib.hid (trans_below HBW.out hwq)
    clear hwq
    obtain ⟨hxr, hyr, hzr⟩ := HXR.out
    have hx3 : x = -1 ∨ x = 0 ∨ x = 1 := by omega
    have hy3 : y = -1 ∨ y = 0 ∨ y = 1 := by omega
    have hz3 : z = -1 ∨ z = 0 ∨ z = 1 := by omega
    have HY3 := Lib.hid hy3
    have HZ3 := Lib.hid hz3
    clear hxr hyr hzr hy3 hz3 HXR HCab HCbc HCac
    rcases hx3 with rfl | rfl | rfl
    · rw [show (-(-1) : Int) = 1 from rfl] at HCba
      rw [show decide (((-1) : Int) = 0) = false from rfl] at HSab HEab
      have p0 := HTa.out.c0
      have p1 := HTa.out.c1
      have p2 := HTa.out.c2
      have p3 := HTa.out.c3
      have p4 := HTa.out.c4
      have p5 := HTa.out.c5
      have q0 := HTb.out.c0
      have q1 := HTb.out.c1
      have q2 := HTb.out.c2
      have q3 := HTb.out.c3
      have q4 := HTb.out.c4
      have q5 := HTb.out.c5
      have r0 := HTc.out.c0
      have r1 := HTc.out.c1
      have r2 := HTc.out.c2
      have r3 := HTc.out.c3
      have r4 := HTc.out.c4
      have r5 := HTc.out.c5
      go_wp2_with fail
      refine (HCba.out _ HBW.out).mono ?_
      rintro e wr ⟨rfl, hB⟩
      replace HTa := Lib.hid (HTa.out.below hB HTa.out.lt)
      replace HTb := Lib.hid (HTb.out.below hB HTb.out.lt)
      replace HTc := Lib.hid (HTc.out.below hB HTc.out.lt)
      replace HBW := Lib.hid (trans_below HBW.out hB)
      clear hB
      clear p0 p1 p2 p3 p4 p5 q0 q1 q2 q3 q4 q5 r0 r1 r2 r3 r4 r5
      have p0 := HTa.out.c0
      have p1 := HTa.out.c1
      have p2 := HTa.out.c2
      have p3 := HTa.out.c3
      have p4 := HTa.out.c4
      have p5 := HTa.out.c5
      have q0 := HTb.out.c0
      have q1 := HTb.out.c1
      have q2 := HTb.out.c2
      have q3 := HTb.out.c3
      have q4 := HTb.out.c4
      have q5 := HTb.out.c5
      have r0 := HTc.out.c0
      have r1 := HTc.out.c1
      have r2 := HTc.out.c2
      have r3 := HTc.out.c3
      have r4 := HTc.out.c4
      have r5 := HTc.out.c5
      go_wp2_with fail
      refine (HCaa.out _ HBW.out).mono ?_
      rintro e wr ⟨rfl, hB⟩
      replace HTa := Lib.hid (HTa.out.below hB HTa.out.lt)
      replace HTb := Lib.hid (HTb.out.below hB HTb.out.lt)
      replace HTc := Lib.hid (HTc.out.below hB HTc.out.lt)
      replace HBW := Lib.hid (trans_below HBW.out hB)
      clear hB
      clear p0 p1 p2 p3 p4 p5 q0 q1 q2 q3 q4 q5 r0 r1 r2 r3 r4 r5
      have p0 := HTa.out.c0
      have p1 := HTa.out.c1
      have p2 := HTa.out.c2
      have p3 := HTa.out.c3
      have p4 := HTa.out.c4
      have p5 := HTa.out.c5
      have q0 := HTb.out.c0
      have q1 := HTb.out.c1
      have q2 := HTb.out.c2
      have q3 := HTb.out.c3
      have q4 := HTb.out.c4
      have q5 := HTb.out.c5
      have r0 := HTc.out.c0
      have r1 := HTc.out.c1
      have r2 := HTc.out.c2
      have r3 := HTc.out.c3
      have r4 := HTc.out.c4
      have r5 := HTc.out.c5
      go_wp2_with fail
      refine (HSab.out _ HBW.out).mono ?_
      rintro e wr ⟨rfl, hB⟩
      replace HTa := Lib.hid (HTa.out.below hB HTa.out.lt)
      replace HTb := Lib.hid (HTb.out.below hB HTb.out.lt)
      replace HTc := Lib.hid (HTc.out.below hB HTc.out.lt)
      replace HBW := Lib.hid (trans_below HBW.out hB)
      clear hB
      clear p0 p1 p2 p3 p4 p5 q0 q1 q2 q3 q4 q5 r0 r1 r2 r3 r4 r5
      have p0 := HTa.out.c0
      have p1 := HTa.out.c1
      have p2 := HTa.out.c2
      have p3 := HTa.out.c3
      have p4 := HTa.out.c4
      have p5 := HTa.out.c5
      have q0 := HTb.out.c0
      have q1 := HTb.out.c1
      have q2 := HTb.out.c2
      have q3 := HTb.out.c3
      have q4 := HTb.out.c4
      have q5 := HTb.out.c5
      have r0 := HTc.out.c0
      have r1 := HTc.out.c1
      have r2 := HTc.out.c2
      have r3 := HTc.out.c3
      have r4 := HTc.out.c4
      have r5 := HTc.out.c5
      go_wp2_with fail
      refine (HEab.out _ HBW.out).mono ?_
      rintro e wr ⟨rfl, hB⟩
      replace HTa := Lib.hid (HTa.out.below hB HTa.out.lt)
      replace HTb := Lib.hid (HTb.out.below hB HTb.out.lt)
      replace HTc := Lib.hid (HTc.out.below hB HTc.out.lt)
      replace HBW := Lib.hid (trans_below HBW.out hB)
      clear hB
      clear p0 p1 p2 p3 p4 p5 q0 q1 q2 q3 q4 q5 r0 r1 r2 r3 r4 r5
      rcases HY3.out with rfl | rfl | rfl <;> rcases HZ3.out with rfl | rfl | rfl <;> first | (exfalso; obtain ⟨m1, m2, m3, m4⟩ := HM.out; omega) | (clear HM HY3 HZ3; go_wp2_with fail; go_ret; exact ⟨rfl, HBW.out⟩)
    · rw [show (-0 : Int) = 0 from rfl] at HCba
      rw [show decide ((0 : Int) = 0) = true from rfl] at HSab HEab
      have p0 := HTa.out.c0
      have p1 := HTa.out.c1
      have p2 := HTa.out.c2
      have p3 := HTa.out.c3
      have p4 := HTa.out.c4
      have p5 := HTa.out.c5
      have q0 := HTb.out.c0
      have q1 := HTb.out.c1
      have q2 := HTb.out.c2
      have q3 := HTb.out.c3
      have q4 := HTb.out.c4
      have q5 := HTb.out.c5
      have r0 := HTc.out.c0
      have r1 := HTc.out.c1
      have r2 := HTc.out.c2
      have r3 := HTc.out.c3
      have r4 := HTc.out.c4
      have r5 := HTc.out.c5
      go_wp2_with fail
      refine (HCba.out _ HBW.out).mono ?_
      rintro e wr ⟨rfl, hB⟩
      replace HTa := Lib.hid (HTa.out.below hB HTa.out.lt)
      replace HTb := Lib.hid (HTb.out.below hB HTb.out.lt)
      replace HTc := Lib.hid (HTc.out.below hB HTc.out.lt)
      replace HBW := Lib.hid (trans_below HBW.out hB)
      clear hB
      clear p0 p1 p2 p3 p4 p5 q0 q1 q2 q3 q4 q5 r0 r1 r2 r3 r4 r5
      have p0 := HTa.out.c0
      have p1 := HTa.out.c1
      have p2 := HTa.out.c2
      have p3 := HTa.out.c3
      have p4 := HTa.out.c4
      have p5 := HTa.out.c5
      have q0 := HTb.out.c0
      have q1 := HTb.out.c1
      have q2 := HTb.out.c2
      have q3 := HTb.out.c3
      have q4 := HTb.out.c4
      have q5 := HTb.out.c5
      have r0 := HTc.out.c0
      have r1 := HTc.out.c1
      have r2 := HTc.out.c2
      have r3 := HTc.out.c3
      have r4 := HTc.out.c4
      have r5 := HTc.out.c5
      go_wp2_with fail
      refine (HCaa.out _ HBW.out).mono ?_
      rintro e wr ⟨rfl, hB⟩
      replace HTa := Lib.hid (HTa.out.below hB HTa.out.lt)
      replace HTb := Lib.hid (HTb.out.below hB HTb.out.lt)
      replace HTc := Lib.hid (HTc.out.below hB HTc.out.lt)
      replace HBW := Lib.hid (trans_below HBW.out hB)
      clear hB
      clear p0 p1 p2 p3 p4 p5 q0 q1 q2 q3 q4 q5 r0 r1 r2 r3 r4 r5
      have p0 := HTa.out.c0
      have p1 := HTa.out.c1
      have p2 := HTa.out.c2
      have p3 := HTa.out.c3
      have p4 := HTa.out.c4
      have p5 := HTa.out.c5
      have q0 := HTb.out.c0
      have q1 := HTb.out.c1
      have q2 := HTb.out.c2
      have q3 := HTb.out.c3
      have q4 := HTb.out.c4
      have q5 := HTb.out.c5
      have r0 := HTc.out.c0
      have r1 := HTc.out.c1
      have r2 := HTc.out.c2
      have r3 := HTc.out.c3
      have r4 := HTc.out.c4
      have r5 := HTc.out.c5
      go_wp2_with fail
      refine (HSab.out _ HBW.out).mono ?_
      rintro e wr ⟨rfl, hB⟩
      replace HTa := Lib.hid (HTa.out.below hB HTa.out.lt)
      replace HTb := Lib.hid (HTb.out.below hB HTb.out.lt)
      replace HTc := Lib.hid (HTc.out.below hB HTc.out.lt)
      replace HBW := Lib.hid (trans_below HBW.out hB)
      clear hB
      clear p0 p1 p2 p3 p4 p5 q0 q1 q2 q3 q4 q5 r0 r1 r2 r3 r4 r5
      have p0 := HTa.out.c0
      have p1 := HTa.out.c1
      have p2 := HTa.out.c2
      have p3 := HTa.out.c3
      have p4 := HTa.out.c4
      have p5 := HTa.out.c5
      have q0 := HTb.out.c0
      have q1 := HTb.out.c1
      have q2 := HTb.out.c2
      have q3 := HTb.out.c3
      have q4 := HTb.out.c4
      have q5 := HTb.out.c5
      have r0 := HTc.out.c0
      have r1 := HTc.out.c1
      have r2 := HTc.out.c2
      have r3 := HTc.out.c3
      have r4 := HTc.out.c4
      have r5 := HTc.out.c5
      go_wp2_with fail
      refine (HEab.out _ HBW.out).mono ?_
      rintro e wr ⟨rfl, hB⟩
      replace HTa := Lib.hid (HTa.out.below hB HTa.out.lt)
      replace HTb := Lib.hid (HTb.out.below hB HTb.out.lt)
      replace HTc := Lib.hid (HTc.out.below hB HTc.out.lt)
      replace HBW := Lib.hid (trans_below HBW.out hB)
      clear hB
      clear p0 p1 p2 p3 p4 p5 q0 q1 q2 q3 q4 q5 r0 r1 r2 r3 r4 r5
      rcases HY3.out with rfl | rfl | rfl <;> rcases HZ3.out with rfl | rfl | rfl <;> first | (exfalso; obtain ⟨m1, m2, m3, m4⟩ := HM.out; omega) | (clear HM HY3 HZ3; go_wp2_with fail; go_ret; exact ⟨rfl, HBW.out⟩)
    · rw [show (-1 : Int) = (-1) from rfl] at HCba
      rw [show decide ((1 : Int) = 0) = false from rfl] at HSab HEab
      have p0 := HTa.out.c0
      have p1 := HTa.out.c1
      have p2 := HTa.out.c2
      have p3 := HTa.out.c3
      have p4 := HTa.out.c4
      have p5 := HTa.out.c5
      have q0 := HTb.out.c0
      have q1 := HTb.out.c1
      have q2 := HTb.out.c2
      have q3 := HTb.out.c3
      have q4 := HTb.out.c4
      have q5 := HTb.out.c5
      have r0 := HTc.out.c0
      have r1 := HTc.out.c1
      have r2 := HTc.out.c2
      have r3 := HTc.out.c3
      have r4 := HTc.out.c4
      have r5 := HTc.out.c5
      go_wp2_with fail
      refine (HCba.out _ HBW.out).mono ?_
      rintro e wr ⟨rfl, hB⟩
      replace HTa := Lib.hid (HTa.out.below hB HTa.out.lt)
      replace HTb := Lib.hid (HTb.out.below hB HTb.out.lt)
      replace HTc := Lib.hid (HTc.out.below hB HTc.out.lt)
      replace HBW := Lib.hid (trans_below HBW.out hB)
      clear hB
      clear p0 p1 p2 p3 p4 p5 q0 q1 q2 q3 q4 q5 r0 r1 r2 r3 r4 r5
      have p0 := HTa.out.c0
      have p1 := HTa.out.c1
      have p2 := HTa.out.c2
      have p3 := HTa.out.c3
      have p4 := HTa.out.c4
      have p5 := HTa.out.c5
      have q0 := HTb.out.c0
      have q1 := HTb.out.c1
      have q2 := HTb.out.c2
      have q3 := HTb.out.c3
      have q4 := HTb.out.c4
      have q5 := HTb.out.c5
      have r0 := HTc.out.c0
      have r1 := HTc.out.c1
      have r2 := HTc.out.c2
      have r3 := HTc.out.c3
      have r4 := HTc.out.c4
      have r5 := HTc.out.c5
      go_wp2_with fail
      refine (HCaa.out _ HBW.out).mono ?_
      rintro e wr ⟨rfl, hB⟩
      replace HTa := Lib.hid (HTa.out.below hB HTa.out.lt)
      replace HTb := Lib.hid (HTb.out.below hB HTb.out.lt)
      replace HTc := Lib.hid (HTc.out.below hB HTc.out.lt)
      replace HBW := Lib.hid (trans_below HBW.out hB)
      clear hB
      clear p0 p1 p2 p3 p4 p5 q0 q1 q2 q3 q4 q5 r0 r1 r2 r3 r4 r5
      have p0 := HTa.out.c0
      have p1 := HTa.out.c1
      have p2 := HTa.out.c2
      have p3 := HTa.out.c3
      have p4 := HTa.out.c4
      have p5 := HTa.out.c5
      have q0 := HTb.out.c0
      have q1 := HTb.out.c1
      have q2 := HTb.out.c2
      have q3 := HTb.out.c3
      have q4 := HTb.out.c4
      have q5 := HTb.out.c5
      have r0 := HTc.out.c0
      have r1 := HTc.out.c1
      have r2 := HTc.out.c2
      have r3 := HTc.out.c3
      have r4 := HTc.out.c4
      have r5 := HTc.out.c5
      go_wp2_with fail
      refine (HSab.out _ HBW.out).mono ?_
      rintro e wr ⟨rfl, hB⟩
      replace HTa := Lib.hid (HTa.out.below hB HTa.out.lt)
      replace HTb := Lib.hid (HTb.out.below hB HTb.out.lt)
      replace HTc := Lib.hid (HTc.out.below hB HTc.out.lt)
      replace HBW := Lib.hid (trans_below HBW.out hB)
      clear hB
      clear p0 p1 p2 p3 p4 p5 q0 q1 q2 q3 q4 q5 r0 r1 r2 r3 r4 r5
      have p0 := HTa.out.c0
      have p1 := HTa.out.c1
      have p2 := HTa.out.c2
      have p3 := HTa.out.c3
      have p4 := HTa.out.c4
      have p5 := HTa.out.c5
      have q0 := HTb.out.c0
      have q1 := HTb.out.c1
      have q2 := HTb.out.c2
      have q3 := HTb.out.c3
      have q4 := HTb.out.c4
      have q5 := HTb.out.c5
      have r0 := HTc.out.c0
      have r1 := HTc.out.c1
      have r2 := HTc.out.c2
      have r3 := HTc.out.c3
      have r4 := HTc.out.c4
      have r5 := HTc.out.c5
      go_wp2_with fail
      refine (HEab.out _ HBW.out).mono ?_
      rintro e wr ⟨rfl, hB⟩
      replace HTa := Lib.hid (HTa.out.below hB HTa.out.lt)
      replace HTb := Lib.hid (HTb.out.below hB HTb.out.lt)
      replace HTc := Lib.hid (HTc.out.below hB HTc.out.lt)
      replace HBW := Lib.hid (trans_below HBW.out hB)
      clear hB
      clear p0 p1 p2 p3 p4 p5 q0 q1 q2 q3 q4 q5 r0 r1 r2 r3 r4 r5
      rcases HY3.out with rfl | rfl | rfl <;> rcases HZ3.out with rfl | rfl | rfl <;> first | (exfalso; obtain ⟨m1, m2, m3, m4⟩ := HM.out; omega) | (clear HM HY3 HZ3; go_wp2_with fail; go_ret; exact ⟨rfl, HBW.out⟩)
  · have HALL := Lib.hid hall
    clear hall
    clear HCab HCbc HCac HCba HCaa HSab HEab
    by_cases ha : chk a = []
    · have HA := Lib.hid ha
      clear ha
      have p0 := HTa.out.c0
      have p1 := HTa.out.c1
      have p2 := HTa.out.c2
      have p3 := HTa.out.c3
      have p4 := HTa.out.c4
      have p5 := HTa.out.c5
      have q0 := HTb.out.c0
      have q1 := HTb.out.c1
      have q2 := HTb.out.c2
      have q3 := HTb.out.c3
      have q4 := HTb.out.c4
      have q5 := HTb.out.c5
      have r0 := HTc.out.c0
      have r1 := HTc.out.c1
      have r2 := HTc.out.c2
      have r3 := HTc.out.c3
      have r4 := HTc.out.c4
      have r5 := HTc.out.c5
      go_wp2_with fail
      refine (HRa.out _ HBW.out).mono ?_
      rintro e wr ⟨va, rfl, hL, hB⟩
      have hsh := hL.shape
      clear hL
      replace HTa := Lib.hid (HTa.out.below hB HTa.out.lt)
      replace HTb := Lib.hid (HTb.out.below hB HTb.out.lt)
      replace HTc := Lib.hid (HTc.out.below hB HTc.out.lt)
      replace HBW := Lib.hid (trans_below HBW.out hB)
      clear hB
      clear p0 p1 p2 p3 p4 p5 q0 q1 q2 q3 q4 q5 r0 r1 r2 r3 r4 r5
      obtain ⟨_, rfl⟩ := hsh.resolve_right (fun h => h.1 HA.out)
      clear hsh
      by_cases hb : chk b = []
      · have HB := Lib.hid hb
        clear hb
        have HC : Hid (chk c ≠ []) := Lib.hid (fun h => HALL.out ⟨HA.out, HB.out, h⟩)
        have p0 := HTa.out.c0
        have p1 := HTa.out.c1
        have p2 := HTa.out.c2
        have p3 := HTa.out.c3
        have p4 := HTa.out.c4
        have p5 := HTa.out.c5
        have q0 := HTb.out.c0
        have q1 := HTb.out.c1
        have q2 := HTb.out.c2
        have q3 := HTb.out.c3
        have q4 := HTb.out.c4
        have q5 := HTb.out.c5
        have r0 := HTc.out.c0
        have r1 := HTc.out.c1
        have r2 := HTc.out.c2
        have r3 := HTc.out.c3
        have r4 := HTc.out.c4
        have r5 := HTc.out.c5
        go_wp2_with fail
        refine (HRb.out _ HBW.out).mono ?_
        rintro e wr ⟨va, rfl, hL, hB⟩
        have hsh := hL.shape
        clear hL
        replace HTa := Lib.hid (HTa.out.below hB HTa.out.lt)
        replace HTb := Lib.hid (HTb.out.below hB HTb.out.lt)
        replace HTc := Lib.hid (HTc.out.below hB HTc.out.lt)
        replace HBW := Lib.hid (trans_below HBW.out hB)
        clear hB
        clear p0 p1 p2 p3 p4 p5 q0 q1 q2 q3 q4 q5 r0 r1 r2 r3 r4 r5
        obtain ⟨_, rfl⟩ := hsh.resolve_right (fun h => h.1 HB.out)
        clear hsh
        have p0 := HTa.out.c0
        have p1 := HTa.out.c1
        have p2 := HTa.out.c2
        have p3 := HTa.out.c3
        have p4 := HTa.out.c4
        have p5 := HTa.out.c5
        have q0 := HTb.out.c0
        have q1 := HTb.out.c1
        have q2 := HTb.out.c2
        have q3 := HTb.out.c3
        have q4 := HTb.out.c4
        have q5 := HTb.out.c5
        have r0 := HTc.out.c0
        have r1 := HTc.out.c1
        have r2 := HTc.out.c2
        have r3 := HTc.out.c3
        have r4 := HTc.out.c4
        have r5 := HTc.out.c5
        go_wp2_with fail
        refine (HRc.out _ HBW.out).mono ?_
        rintro e wr ⟨va, rfl, hL, hB⟩
        have hsh := hL.shape
        clear hL
        replace HTa := Lib.hid (HTa.out.below hB HTa.out.lt)
        replace HTb := Lib.hid (HTb.out.below hB HTb.out.lt)
        replace HTc := Lib.hid (HTc.out.below hB HTc.out.lt)
        replace HBW := Lib.hid (trans_below HBW.out hB)
        clear hB
        clear p0 p1 p2 p3 p4 p5 q0 q1 q2 q3 q4 q5 r0 r1 r2 r3 r4 r5
        obtain ⟨_, g, n, c, rfl⟩ := hsh.resolve_left (fun h => HC.out h.1)
        clear hsh
        have p0 := HTa.out.c0
        have p1 := HTa.out.c1
        have p2 := HTa.out.c2
        have p3 := HTa.out.c3
        have p4 := HTa.out.c4
        have p5 := HTa.out.c5
        have q0 := HTb.out.c0
        have q1 := HTb.out.c1
        have q2 := HTb.out.c2
        have q3 := HTb.out.c3
        have q4 := HTb.out.c4
        have q5 := HTb.out.c5
        have r0 := HTc.out.c0
        have r1 := HTc.out.c1
        have r2 := HTc.out.c2
        have r3 := HTc.out.c3
        have r4 := HTc.out.c4
        have r5 := HTc.out.c5
        go_wp2_with fail
        refine (HKa.out _ HBW.out).mono ?_
        rintro e wr ⟨va, rfl, hE, hB⟩
        have hE' := hE.shapeL
        clear hE
        replace HTa := Lib.hid (HTa.out.below hB HTa.out.lt)
        replace HTb := Lib.hid (HTb.out.below hB HTb.out.lt)
        replace HTc := Lib.hid (HTc.out.below hB HTc.out.lt)
        replace HBW := Lib.hid (trans_below HBW.out hB)
        clear hB
        clear p0 p1 p2 p3 p4 p5 q0 q1 q2 q3 q4 q5 r0 r1 r2 r3 r4 r5
        obtain ⟨_, rfl⟩ := hE'.resolve_right (fun h => h.1 HA.out)
        clear hE'
        have p0 := HTa.out.c0
        have p1 := HTa.out.c1
        have p2 := HTa.out.c2
        have p3 := HTa.out.c3
        have p4 := HTa.out.c4
        have p5 := HTa.out.c5
        have q0 := HTb.out.c0
        have q1 := HTb.out.c1
        have q2 := HTb.out.c2
        have q3 := HTb.out.c3
        have q4 := HTb.out.c4
        have q5 := HTb.out.c5
        have r0 := HTc.out.c0
        have r1 := HTc.out.c1
        have r2 := HTc.out.c2
        have r3 := HTc.out.c3
        have r4 := HTc.out.c4
        have r5 := HTc.out.c5
        go_wp2_with fail
        refine (HKb.out _ HBW.out).mono ?_
        rintro e wr ⟨va, rfl, hE, hB⟩
        have hE' := hE.shapeL
        clear hE
        replace HTa := Lib.hid (HTa.out.below hB HTa.out.lt)
        replace HTb := Lib.hid (HTb.out.below hB HTb.out.lt)
        replace HTc := Lib.hid (HTc.out.below hB HTc.out.lt)
        replace HBW := Lib.hid (trans_below HBW.out hB)
        clear hB
        clear p0 p1 p2 p3 p4 p5 q0 q1 q2 q3 q4 q5 r0 r1 r2 r3 r4 r5
        obtain ⟨_, rfl⟩ := hE'.resolve_right (fun h => h.1 HB.out)
        clear hE'
        have p0 := HTa.out.c0
        have p1 := HTa.out.c1
        have p2 := HTa.out.c2
        have p3 := HTa.out.c3
        have p4 := HTa.out.c4
        have p5 := HTa.out.c5
        have q0 := HTb.out.c0
        have q1 := HTb.out.c1
        have q2 := HTb.out.c2
        have q3 := HTb.out.c3
        have q4 := HTb.out.c4
        have q5 := HTb.out.c5
        have r0 := HTc.out.c0
        have r1 := HTc.out.c1
        have r2 := HTc.out.c2
        have r3 := HTc.out.c3
        have r4 := HTc.out.c4
        have r5 := HTc.out.c5
        go_wp2_with fail
        refine (HKc.out _ HBW.out).mono ?_
        rintro e wr ⟨va, rfl, hE, hB⟩
        have hE' := hE.shapeL
        clear hE
        replace HTa := Lib.hid (HTa.out.below hB HTa.out.lt)
        replace HTb := Lib.hid (HTb.out.below hB HTb.out.lt)
        replace HTc := Lib.hid (HTc.out.below hB HTc.out.lt)
        replace HBW := Lib.hid (trans_below HBW.out hB)
        clear hB
        clear p0 p1 p2 p3 p4 p5 q0 q1 q2 q3 q4 q5 r0 r1 r2 r3 r4 r5
        obtain ⟨_, g, rfl⟩ := hE'.resolve_left (fun h => HC.out h.1)
        clear hE'
        go_wp2_with fail
        go_ret
        exact ⟨rfl, HBW.out⟩
      · have HB := Lib.hid hb
        clear hb
        have p0 := HTa.out.c0
        have p1 := HTa.out.c1
        have p2 := HTa.out.c2
        have p3 := HTa.out.c3
        have p4 := HTa.out.c4
        have p5 := HTa.out.c5
        have q0 := HTb.out.c0
        have q1 := HTb.out.c1
        have q2 := HTb.out.c2
        have q3 := HTb.out.c3
        have q4 := HTb.out.c4
        have q5 := HTb.out.c5
        have r0 := HTc.out.c0
        have r1 := HTc.out.c1
        have r2 := HTc.out.c2
        have r3 := HTc.out.c3
        have r4 := HTc.out.c4
        have r5 := HTc.out.c5
        go_wp2_with fail
        refine (HRb.out _ HBW.out).mono ?_
        rintro e wr ⟨va, rfl, hL, hB⟩
        have hsh := hL.shape
        clear hL
        replace HTa := Lib.hid (HTa.out.below hB HTa.out.lt)
        replace HTb := Lib.hid (HTb.out.below hB HTb.out.lt)
        replace HTc := Lib.hid (HTc.out.below hB HTc.out.lt)
        replace HBW := Lib.hid (trans_below HBW.out hB)
        clear hB
        clear p0 p1 p2 p3 p4 p5 q0 q1 q2 q3 q4 q5 r0 r1 r2 r3 r4 r5
        obtain ⟨_, g, n, c, rfl⟩ := hsh.resolve_left (fun h => HB.out h.1)
        clear hsh
        have p0 := HTa.out.c0
        have p1 := HTa.out.c1
        have p2 := HTa.out.c2
        have p3 := HTa.out.c3
        have p4 := HTa.out.c4
        have p5 := HTa.out.c5
        have q0 := HTb.out.c0
        have q1 := HTb.out.c1
        have q2 := HTb.out.c2
        have q3 := HTb.out.c3
        have q4 := HTb.out.c4
        have q5 := HTb.out.c5
        have r0 := HTc.out.c0
        have r1 := HTc.out.c1
        have r2 := HTc.out.c2
        have r3 := HTc.out.c3
        have r4 := HTc.out.c4
        have r5 := HTc.out.c5
        go_wp2_with fail
        refine (HKa.out _ HBW.out).mono ?_
        rintro e wr ⟨va, rfl, hE, hB⟩
        have hE' := hE.shapeL
        clear hE
        replace HTa := Lib.hid (HTa.out.below hB HTa.out.lt)
        replace HTb := Lib.hid (HTb.out.below hB HTb.out.lt)
        replace HTc := Lib.hid (HTc.out.below hB HTc.out.lt)
        replace HBW := Lib.hid (trans_below HBW.out hB)
        clear hB
        clear p0 p1 p2 p3 p4 p5 q0 q1 q2 q3 q4 q5 r0 r1 r2 r3 r4 r5
        obtain ⟨_, rfl⟩ := hE'.resolve_right (fun h => h.1 HA.out)
        clear hE'
        have p0 := HTa.out.c0
        have p1 := HTa.out.c1
        have p2 := HTa.out.c2
        have p3 := HTa.out.c3
        have p4 := HTa.out.c4
        have p5 := HTa.out.c5
        have q0 := HTb.out.c0
        have q1 := HTb.out.c1
        have q2 := HTb.out.c2
        have q3 := HTb.out.c3
        have q4 := HTb.out.c4
        have q5 := HTb.out.c5
        have r0 := HTc.out.c0
        have r1 := HTc.out.c1
        have r2 := HTc.out.c2
        have r3 := HTc.out.c3
        have r4 := HTc.out.c4
        have r5 := HTc.out.c5
        go_wp2_with fail
        refine (HKb.out _ HBW.out).mono ?_
        rintro e wr ⟨va, rfl, hE, hB⟩
        have hE' := hE.shapeL
        clear hE
        replace HTa := Lib.hid (HTa.out.below hB HTa.out.lt)
        replace HTb := Lib.hid (HTb.out.below hB HTb.out.lt)
        replace HTc := Lib.hid (HTc.out.below hB HTc.out.lt)
        replace HBW := Lib.hid (trans_below HBW.out hB)
        clear hB
        clear p0 p1 p2 p3 p4 p5 q0 q1 q2 q3 q4 q5 r0 r1 r2 r3 r4 r5
        obtain ⟨_, g, rfl⟩ := hE'.resolve_left (fun h => HB.out h.1)
        clear hE'
        go_wp2_with fail
        go_ret
        exact ⟨rfl, HBW.out⟩
    · have HA := Lib.hid ha
      clear ha
      have p0 := HTa.out.c0
      have p1 := HTa.out.c1
      have p2 := HTa.out.c2
      have p3 := HTa.out.c3
      have p4 := HTa.out.c4
      have p5 := HTa.out.c5
      have q0 := HTb.out.c0
      have q1 := HTb.out.c1
      have q2 := HTb.out.c2
      have q3 := HTb.out.c3
      have q4 := HTb.out.c4
      have q5 := HTb.out.c5
      have r0 := HTc.out.c0
      have r1 := HTc.out.c1
      have r2 := HTc.out.c2
      have r3 := HTc.out.c3
      have r4 := HTc.out.c4
      have r5 := HTc.out.c5
      go_wp2_with fail
      refine (HRa.out _ HBW.out).mono ?_
      rintro e wr ⟨va, rfl, hL, hB⟩
      have hsh := hL.shape
      clear hL
      replace HTa := Lib.hid (HTa.out.below hB HTa.out.lt)
      replace HTb := Lib.hid (HTb.out.below hB HTb.out.lt)
      replace HTc := Lib.hid (HTc.out.below hB HTc.out.lt)
      replace HBW := Lib.hid (trans_below HBW.out hB)
      clear hB
      clear p0 p1 p2 p3 p4 p5 q0 q1 q2 q3 q4 q5 r0 r1 r2 r3 r4 r5
      obtain ⟨_, g, n, c, rfl⟩ := hsh.resolve_left (fun h => HA.out h.1)
      clear hsh
      have p0 := HTa.out.c0
      have p1 := HTa.out.c1
      have p2 := HTa.out.c2
      have p3 := HTa.out.c3
      have p4 := HTa.out.c4
      have p5 := HTa.out.c5
      have q0 := HTb.out.c0
      have q1 := HTb.out.c1
      have q2 := HTb.out.c2
      have q3 := HTb.out.c3
      have q4 := HTb.out.c4
      have q5 := HTb.out.c5
      have r0 := HTc.out.c0
      have r1 := HTc.out.c1
      have r2 := HTc.out.c2
      have r3 := HTc.out.c3
      have r4 := HTc.out.c4
      have r5 := HTc.out.c5
      go_wp2_with fail
      refine (HKa.out _ HBW.out).mono ?_
      rintro e wr ⟨va, rfl, hE, hB⟩
      have hE' := hE.shapeL
      clear hE
      replace HTa := Lib.hid (HTa.out.below hB HTa.out.lt)
      replace HTb := Lib.hid (HTb.out.below hB HTb.out.lt)
      replace HTc := Lib.hid (HTc.out.below hB HTc.out.lt)
      replace HBW := Lib.hid (trans_below HBW.out hB)
      clear hB
      clear p0 p1 p2 p3 p4 p5 q0 q1 q2 q3 q4 q5 r0 r1 r2 r3 r4 r5
      obtain ⟨_, g, rfl⟩ := hE'.resolve_left (fun h => HA.out h.1)
      clear hE'
      go_wp2_with fail
      go_ret
      exact ⟨rfl, HBW.out⟩
end Go.Proofs.YtgapeacflkfmdaaGreatDoor
