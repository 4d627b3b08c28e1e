/-
 code.checker: forms, on the one program that 'alive' makes. code.checker: states, flows, on the one program that 'alive' makes. code.checker: each, on the one program that 'alive' makes. code.checker: unset, on the one program that 'alive' makes. code.Check on the one program that 'alive' makes. code.Height on the one program that 'alive' makes.
-/
import Derived.Test.YtibbcfeaododhaaGreatDoorG1
set_option linter.unusedSimpArgs false
set_option linter.unusedVariables false
namespace Go.Proofs.YtibbcfeaododhaaGreatDoor
open Go.RowKit Go.Sort Go.Proofs.YtibbcfeaododhaaGreatDoorW.PrintWords Go.Proofs.YtibbcfeaododhaaGreatDoorW.PrintLast Go.Proofs.YtibbcfeaododhaaGreatDoorW.PrintMore
abbrev kI64 : Kd Int := Kd.int .i64
/-- The one program in memory. -/
structure PrgAt (W : World) (am ae af : Addr) (e f i : Nat) (I : Option Addr) : Prop where
 m0 : W.cell? am = some (.string sM)
 m1 : W.cell? ⟨am.block, am.off + 1, none⟩ = some (.slice (some ae) 1 e)
 m2 : W.cell? ⟨am.block, am.off + 2, none⟩ = some (.slice (some af) 1 f)
 x0 : W.cell? ae = some (.int .i64 0)
 n0 : W.cell? af = some (.string sF)
 n1 : W.cell? ⟨af.block, af.off + 1, none⟩ = some (.int .i64 1)
 n2 : W.cell? ⟨af.block, af.off + 2, none⟩ = some (.int .i64 1)
 n3 : W.cell? ⟨af.block, af.off + 3, none⟩ = some (.slice I 2 i)
 cx : kI64.C W (some ae) 1 [0]
 cf : kFun.C W (some af) 1 [fun0]
 ci : kIns.C W I 2 insL
 le : 1 ≤ e
 lf : 1 ≤ f
 li : 2 ≤ i
theorem prg_at {W : World} {A : Option Addr} (h : kMod.C W A 1 [mod0]) : ∃ am ae af e f i I, A = some am ∧ PrgAt W am ae af e f i I := by
 obtain ⟨am, E, e, F, f, rfl, a0, a1, a2, le, cE, lf, cF⟩ := PCa.at_T128 h 0 (by decide) (by decide)
 have ez : am.add 0 = am := by simp [Addr.add]
 simp only [Int.toNat_zero, Nat.zero_mul, ez] at a0 a1 a2
 have cE' : kI64.C W E 1 [0] := cE
 have cF' : kFun.C W F 1 [fun0] := cF
 obtain ⟨ae, c, rfl, _, hK, hc⟩ := Kd.C_get cE' (0 : Int) 0 (by decide) (by decide)
 obtain ⟨af, I, i, rfl, b0, b1, b2, b3, li, cI⟩ := PCa.at_T135 cF' 0 (by decide) (by decide)
 have ef : af.add 0 = af := by simp [Addr.add]
 have ee : ae.add 0 = ae := by simp [Addr.add]
 simp only [Int.toNat_zero, Nat.zero_mul, ef] at b0 b1 b2 b3
 have hK' : c = [.int .i64 0] := hK
 subst hK'
 have hx := hc 0 _ rfl
 simp only [Int.toNat_zero, Nat.zero_mul, Nat.add_zero, ee] at hx
 exact ⟨am, ae, af, e, f, i, I, rfl, a0, a1, a2, hx, b0, b1, b2, b3, cE', cF', cI, le, lf, li⟩
theorem PrgAt.below {W W' : World} {am ae af : Addr} {e f i : Nat} {I : Option Addr} (h : PrgAt W am ae af e f i I) (hb : Below W.heap.size W W') : PrgAt W' am ae af e f i I :=
 ⟨cell_b hb h.m0, cell_b hb h.m1, cell_b hb h.m2, cell_b hb h.x0, cell_b hb h.n0, cell_b hb h.n1, cell_b hb h.n2, cell_b hb h.n3, Kd.C_below h.cx hb, Kd.C_below h.cf hb, Kd.C_below h.ci hb, h.le, h.lf, h.li⟩
section
variable {w0 : World} {g : Nat} {bl al : List Bf}
set_option maxRecDepth 100000 in
set_option maxHeartbeats 4000000 in
theorem chk_forms (w : World) (h : Ck w0 w g bl al ⟨#[]⟩ [] [] ⟨#[]⟩ 0 0 [] 0) (hw : Below w0.heap.size w0 w) :
  Calls Tryz.prog 88 #[.pointer (some ⟨g, 0, none⟩)] w (CkPost w0 w g (fun W => Ck w0 W g bl al sM [0] [fun0] sF 1 1 insL 2)) := by
 have HI := Lib.hid h
 have HW := Lib.hid hw
 have HV := Lib.hid fun W => valid_fine sM fineM (by decide) plainM W
 have HFN := Lib.hid fun (W : World) (am ae af : Addr) (e f i : Nat) (I : Option Addr) (fn : ByteArray) (fa fl at_ : Int) (fc : List Ins) (hp : PrgAt w0 am ae af e f i I) (h : Ck w0 W g bl al sM [0] [fun0] fn fa fl fc at_) (hw : Below w0.heap.size w0 W) => chk_function W h hw I i hp.ci
 clear h hw
 go_enter Tryz.func88, Tryz.ntmps88
 obtain ⟨A0, c0, A1, c1, A2, c2, A3, c3, A5, c5, A6, c6, A10, c10, hgb, hgw, hs0, hs1, hs2, hs3, hs5, hs6, hs10⟩ := HI.out
 have k0 := PCa.cellS139_0 hgb
 have k1 := PCa.cellS139_1 hgb
 have k2 := PCa.cellS139_2 hgb
 have k3 := PCa.cellS139_3 hgb
 have k4 := PCa.cellS139_4 hgb
 have k5 := PCa.cellS139_5 hgb
 have k6 := PCa.cellS139_6 hgb
 have k7 := PCa.cellS139_7 hgb
 have k8 := PCa.cellS139_8 hgb
 have k9 := PCa.cellS139_9 hgb
 have k10 := PCa.cellS139_10 hgb
 have k11 := PCa.cellS139_11 hgb
 have f4 := blk_frozen hgb 4
 have f5 := blk_frozen hgb 5
 have f6 := blk_frozen hgb 6
 have f7 := blk_frozen hgb 7
 have f8 := blk_frozen hgb 8
 have f9 := blk_frozen hgb 9
 have f10 := blk_frozen hgb 10
 have f11 := blk_frozen hgb 11
 obtain ⟨am, ae, af, e, f, i, I, rfl, hP⟩ := prg_at hs1
 have HP0 := Lib.hid hP
 have HP := Lib.hid (hP.below HW.out)
 clear hP
 go_wp2_with fail
 clear k0 k1 k2 k3 k4 k5 k6 k7 k8 k9 k10 k11 f4 f5 f6 f7 f8 f9 f10 f11 hgb hgw hs0 hs1 hs2 hs3 hs5 hs6 hs10
 refine wp_loop_rounds 2 ?_
 rw [rounds_succ]
 have m0 := HP.out.m0
 have m1 := HP.out.m1
 have m2 := HP.out.m2
 have x0 := HP.out.x0
 have n0 := HP.out.n0
 have n1 := HP.out.n1
 have n2 := HP.out.n2
 have n3 := HP.out.n3
 have le := HP.out.le
 have lf := HP.out.lf
 have li := HP.out.li
 go_upto_region 4 with (fail)
 have b0 : (w.alloc (.cells #[.string sM, .slice (some ae) 1 e, .slice (some af) 1 f] 128)).cell? ⟨w.heap.size, 0, none⟩ = some (.string sM) := by simp
 have b1 : (w.alloc (.cells #[.string sM, .slice (some ae) 1 e, .slice (some af) 1 f] 128)).cell? ⟨w.heap.size, 1, none⟩ = some (.slice (some ae) 1 e) := by simp
 have b2 : (w.alloc (.cells #[.string sM, .slice (some ae) 1 e, .slice (some af) 1 f] 128)).cell? ⟨w.heap.size, 2, none⟩ = some (.slice (some af) 1 f) := by simp
 have hb := below_alloc (Below.refl w.heap.size w) (.cells #[.string sM, .slice (some ae) 1 e, .slice (some af) 1 f] 128)
 generalize w.alloc (.cells #[.string sM, .slice (some ae) 1 e, .slice (some af) 1 f] 128) = w1 at b0 b1 b2 hb ⊢
 have HI1 := Lib.hid (HI.out.below hb)
 have hgl : g < w.heap.size := HI.out.lt
 have hne : ¬ w.heap.size = g := by omega
 clear m0 m1 m2 x0 n0 n1 n2 n3 le lf li
 obtain ⟨A0, c0, A1, c1, A2, c2, A3, c3, A5, c5, A6, c6, A10, c10, hgb, hgw, hs0, hs1, hs2, hs3, hs5, hs6, hs10⟩ := HI1.out
 have k0 := PCa.cellS139_0 hgb
 have k1 := PCa.cellS139_1 hgb
 have k2 := PCa.cellS139_2 hgb
 have k3 := PCa.cellS139_3 hgb
 have k4 := PCa.cellS139_4 hgb
 have k5 := PCa.cellS139_5 hgb
 have k6 := PCa.cellS139_6 hgb
 have k7 := PCa.cellS139_7 hgb
 have k8 := PCa.cellS139_8 hgb
 have k9 := PCa.cellS139_9 hgb
 have k10 := PCa.cellS139_10 hgb
 have k11 := PCa.cellS139_11 hgb
 have f4 := blk_frozen hgb 4
 have f5 := blk_frozen hgb 5
 have f6 := blk_frozen hgb 6
 have f7 := blk_frozen hgb 7
 have f8 := blk_frozen hgb 8
 have f9 := blk_frozen hgb 9
 have f10 := blk_frozen hgb 10
 have f11 := blk_frozen hgb 11
 go_upto_region 5 with (fail)
 clear k0 k1 k2 k3 k4 k5 k6 k7 k8 k9 k10 k11 f4 f5 f6 f7 f8 f9 f10 f11 hgb hgw hs0 hs1 hs2 hs3 hs5 hs6 hs10
 obtain ⟨hI2, hG2⟩ := Ck.setMod HI1.out (d := e) (d' := f) HP0.out.cx HP0.out.cf sM
 have ez : ([0] : List Int).length = 1 := rfl
 have ef : [fun0].length = 1 := rfl
 rw [ez, ef] at hI2 hG2
 generalize ((w1.setCell ⟨g, 4, none⟩ (.string sM)).setCell ⟨g, 5, none⟩ (.slice (some ae) 1 e)).setCell ⟨g, 6, none⟩ (.slice (some af) 1 f) = w2 at hI2 hG2 ⊢
 clear ez ef
 replace b0 := cell_g hG2 hne b0
 replace b1 := cell_g hG2 hne b1
 replace b2 := cell_g hG2 hne b2
 have HI2 := Lib.hid hI2
 have HG2 := Lib.hid ((hb.grownBy).trans hG2)
 clear hb hI2 hG2 HI1 HI
 go_wp2_with fail
 refine (HV.out w2).mono ?_
 rintro e1 w3 ⟨rfl, hb⟩
 replace b0 := cell_b hb b0
 replace b1 := cell_b hb b1
 replace b2 := cell_b hb b2
 have HI3 := Lib.hid (HI2.out.below hb)
 have HG3 := Lib.hid (HG2.out.trans hb.grownBy)
 clear hb HI2 HG2 HV
 obtain ⟨A0, c0, A1, c1, A2, c2, A3, c3, A5, c5, A6, c6, A10, c10, hgb, hgw, hs0, hs1, hs2, hs3, hs5, hs6, hs10⟩ := HI3.out
 have k0 := PCa.cellS139_0 hgb
 have k1 := PCa.cellS139_1 hgb
 have k2 := PCa.cellS139_2 hgb
 have k3 := PCa.cellS139_3 hgb
 have k4 := PCa.cellS139_4 hgb
 have k5 := PCa.cellS139_5 hgb
 have k6 := PCa.cellS139_6 hgb
 have k7 := PCa.cellS139_7 hgb
 have k8 := PCa.cellS139_8 hgb
 have k9 := PCa.cellS139_9 hgb
 have k10 := PCa.cellS139_10 hgb
 have k11 := PCa.cellS139_11 hgb
 have f4 := blk_frozen hgb 4
 have f5 := blk_frozen hgb 5
 have f6 := blk_frozen hgb 6
 have f7 := blk_frozen hgb 7
 have f8 := blk_frozen hgb 8
 have f9 := blk_frozen hgb 9
 have f10 := blk_frozen hgb 10
 have f11 := blk_frozen hgb 11
 go_wp2_with fail
 refine (contMod_none _ _ _ _).mono ?_
 rintro e1 w4 ⟨rfl, rfl⟩
 have HW3 := Lib.hid (HW.out.trans (below_grownC HG3.out HI3.out.ge HW.out.size))
 have HP3 := Lib.hid (HP0.out.below HW3.out)
 have m0 := HP3.out.m0
 have m1 := HP3.out.m1
 have m2 := HP3.out.m2
 have x0 := HP3.out.x0
 have n0 := HP3.out.n0
 have n1 := HP3.out.n1
 have n2 := HP3.out.n2
 have n3 := HP3.out.n3
 have le := HP3.out.le
 have lf := HP3.out.lf
 have li := HP3.out.li
 go_wp2_with fail
 refine wp_loop_rounds 2 ?_
 rw [rounds_succ]
 go_wp2_with fail
 rw [rounds_succ]
 go_wp2_with fail
 refine wp_loop_rounds 2 ?_
 rw [rounds_succ]
 go_upto_region 20 with (fail)
 have d3 : (w3.alloc (.cells #[.string sF, .int .i64 1, .int .i64 1, .slice I 2 i] 135)).cell? ⟨w3.heap.size, 3, none⟩ = some (.slice I 2 i) := by simp
 have d0 : (w3.alloc (.cells #[.string sF, .int .i64 1, .int .i64 1, .slice I 2 i] 135)).cell? ⟨w3.heap.size, 0, none⟩ = some (.string sF) := by simp
 have d1 : (w3.alloc (.cells #[.string sF, .int .i64 1, .int .i64 1, .slice I 2 i] 135)).cell? ⟨w3.heap.size, 1, none⟩ = some (.int .i64 1) := by simp
 have d2 : (w3.alloc (.cells #[.string sF, .int .i64 1, .int .i64 1, .slice I 2 i] 135)).cell? ⟨w3.heap.size, 2, none⟩ = some (.int .i64 1) := by simp
 have hb := below_alloc (Below.refl w3.heap.size w3) (.cells #[.string sF, .int .i64 1, .int .i64 1, .slice I 2 i] 135)
 have hgl3 : g < w3.heap.size := HI3.out.lt
 have hne3 : ¬ w3.heap.size = g := by omega
 generalize w3.alloc (.cells #[.string sF, .int .i64 1, .int .i64 1, .slice I 2 i] 135) = w5 at d0 d1 d2 d3 hb ⊢
 have HI5 := Lib.hid (HI3.out.below hb)
 have HG5 := Lib.hid (HG3.out.trans hb.grownBy)
 have HW5 := Lib.hid (HW.out.trans (below_grownC HG5.out HI5.out.ge HW.out.size))
 clear k0 k1 k2 k3 k4 k5 k6 k7 k8 k9 k10 k11 f4 f5 f6 f7 f8 f9 f10 f11 hgb hgw hs0 hs1 hs2 hs3 hs5 hs6 hs10
 clear m0 m1 m2 x0 n0 n1 n2 n3 le lf li
 clear hb HI3 HG3 HP3 HW3 b0 b1 b2
 go_wp2_with fail
 refine (HFN.out w5 am ae af e f i I _ _ _ _ _ HP0.out HI5.out HW5.out).mono ?_
 rintro e1 w6 ⟨rfl, hI6, hG6⟩
 replace d3 := cell_g hG6 hne3 d3
 have HI6 := Lib.hid hI6
 have HG6 := Lib.hid (HG5.out.trans hG6)
 clear hI6 hG6 HFN HI5 HG5 HW5 d0 d1 d2
 obtain ⟨A0, c0, A1, c1, A2, c2, A3, c3, A5, c5, A6, c6, A10, c10, hgb, hgw, hs0, hs1, hs2, hs3, hs5, hs6, hs10⟩ := HI6.out
 have k0 := PCa.cellS139_0 hgb
 have k1 := PCa.cellS139_1 hgb
 have k2 := PCa.cellS139_2 hgb
 have k3 := PCa.cellS139_3 hgb
 have k4 := PCa.cellS139_4 hgb
 have k5 := PCa.cellS139_5 hgb
 have k6 := PCa.cellS139_6 hgb
 have k7 := PCa.cellS139_7 hgb
 have k8 := PCa.cellS139_8 hgb
 have k9 := PCa.cellS139_9 hgb
 have k10 := PCa.cellS139_10 hgb
 have k11 := PCa.cellS139_11 hgb
 have f4 := blk_frozen hgb 4
 have f5 := blk_frozen hgb 5
 have f6 := blk_frozen hgb 6
 have f7 := blk_frozen hgb 7
 have f8 := blk_frozen hgb 8
 have f9 := blk_frozen hgb 9
 have f10 := blk_frozen hgb 10
 have f11 := blk_frozen hgb 11
 go_upto_region 23 with (fail)
 go_region
 have hI7 := (PCa.IsS139.set_11 HI6.out 2).drew
 have hG7 : w.grownBy ((w6.setCell ⟨g, 11, none⟩ (.int .i64 2)).drew) (some g) := (HG6.out.trans (grownC_set _ _ _ _)).trans (Below.grownBy (below_drew (Below.refl _ _)))
 generalize (w6.setCell ⟨g, 11, none⟩ (.int .i64 2)).drew = w7 at hI7 hG7 ⊢
 have HI7 := Lib.hid hI7
 have HG7 := Lib.hid hG7
 clear k0 k1 k2 k3 k4 k5 k6 k7 k8 k9 k10 k11 f4 f5 f6 f7 f8 f9 f10 f11 hgb hgw hs0 hs1 hs2 hs3 hs5 hs6 hs10
 clear hI7 hG7 HI6 HG6
 go_wp2_with fail
 rw [rounds_succ]
 go_wp2_with fail
 rw [rounds_succ]
 go_wp2_with fail
 go_ret
 exact ⟨rfl, HI7.out, HG7.out⟩
end
end Go.Proofs.YtibbcfeaododhaaGreatDoor
set_option linter.unusedSimpArgs false
set_option linter.unusedVariables false
namespace Go.Proofs.YtibbcfeaododhaaGreatDoor
open Go.RowKit Go.Sort Go.Proofs.YtibbcfeaododhaaGreatDoorW.PrintWords Go.Proofs.YtibbcfeaododhaaGreatDoorW.PrintLast Go.Proofs.YtibbcfeaododhaaGreatDoorW.PrintMore
abbrev LBk (W : World) (lb : Nat) (a : Bool) (b c : Int) (d : Bool) (e f : Int) : Prop := W.heap[lb]? = some (.cells #[.bool a, .int .i64 b, .int .i64 c, .bool d, .int .i64 e, .int .i64 f] 144 (0, 0))
abbrev DBk (W : World) (db : Nat) (a b : Bool) : Prop := W.heap[db]? = some (.cells #[.bool a, .bool b] 4 (0, 0))
/-- The two rows as they are made. -/
def StMade (w W : World) (v5 v6 : Value) : Prop := ∃ lb db : Nat, v5 = .slice (some ⟨lb, 0, none⟩) 2 2 ∧ v6 = .slice (some ⟨db, 0, none⟩) 2 2 ∧ LBk W lb false 0 0 false 0 0 ∧ DBk W db false false ∧ lb ≠ db ∧ w.heap.size ≤ lb ∧ w.heap.size ≤ db ∧ Below w.heap.size w W
theorem stMade1 (w : World) : StMade w ((w.alloc (.cells #[.bool false, .int .i64 0, .int .i64 0, .bool false, .int .i64 0, .int .i64 0] 144)).alloc (.cells #[.bool false, .bool false] 4)).drew (.slice (some ⟨w.heap.size, 0, none⟩) 2 2) (.slice (some ⟨w.heap.size + 1, 0, none⟩) 2 2) := by
 have h1 := heap_alloc_new w (.cells #[.bool false, .int .i64 0, .int .i64 0, .bool false, .int .i64 0, .int .i64 0] 144)
 have hb1 := below_alloc (Below.refl w.heap.size w) (.cells #[.bool false, .int .i64 0, .int .i64 0, .bool false, .int .i64 0, .int .i64 0] 144)
 have s1 : (w.alloc (.cells #[.bool false, .int .i64 0, .int .i64 0, .bool false, .int .i64 0, .int .i64 0] 144)).heap.size = w.heap.size + 1 := by simp
 generalize w.alloc (.cells #[.bool false, .int .i64 0, .int .i64 0, .bool false, .int .i64 0, .int .i64 0] 144) = w1 at h1 hb1 s1 ⊢
 have h2 := heap_alloc_new w1 (.cells #[.bool false, .bool false] 4)
 have hb2 := below_alloc (Below.refl w1.heap.size w1) (.cells #[.bool false, .bool false] 4)
 rw [s1] at h2
 exact ⟨_, _, rfl, rfl, (hb2.block _ (by omega)).trans h1, h2, by omega, Nat.le_refl _, by omega, below_drew (trans_below hb1 hb2)⟩
theorem stMade2 (w : World) : StMade w ((w.alloc (.cells #[.bool false, .bool false] 4)).alloc (.cells #[.bool false, .int .i64 0, .int .i64 0, .bool false, .int .i64 0, .int .i64 0] 144)).drew (.slice (some ⟨w.heap.size + 1, 0, none⟩) 2 2) (.slice (some ⟨w.heap.size, 0, none⟩) 2 2) := by
 have h1 := heap_alloc_new w (.cells #[.bool false, .bool false] 4)
 have hb1 := below_alloc (Below.refl w.heap.size w) (.cells #[.bool false, .bool false] 4)
 have s1 : (w.alloc (.cells #[.bool false, .bool false] 4)).heap.size = w.heap.size + 1 := by simp
 generalize w.alloc (.cells #[.bool false, .bool false] 4) = w1 at h1 hb1 s1 ⊢
 have h2 := heap_alloc_new w1 (.cells #[.bool false, .int .i64 0, .int .i64 0, .bool false, .int .i64 0, .int .i64 0] 144)
 have hb2 := below_alloc (Below.refl w1.heap.size w1) (.cells #[.bool false, .int .i64 0, .int .i64 0, .bool false, .int .i64 0, .int .i64 0] 144)
 rw [s1] at h2
 exact ⟨_, _, rfl, rfl, h2, (hb2.block _ (by omega)).trans h1, by omega, by omega, Nat.le_refl _, below_drew (trans_below hb1 hb2)⟩
/-- What lies in a block made since may be written over. -/
theorem grown_new {w W : World} {r : Option Nat} (h : w.grownBy W r) {b : Nat} (hb : w.heap.size ≤ b) (o : Nat) (v : Value) : w.grownBy (W.setCell ⟨b, o, none⟩ v) r :=
 ⟨h.os, h.tape, h.output, by simpa using h.size, fun k hk hne => (Below.heap_setCell W ⟨b, o, none⟩ v k (fun e => by simp at e; omega)).trans (h.block k hk hne)⟩
theorem grown_keep {w0 w W W' : World} {b g : Nat} (h : w.grownBy W (some g)) (hk : KeepBut W W' g none) (h0 : Below b w0 W) (h1 : Below b w0 W') : w.grownBy W' (some g) :=
 ⟨h1.os.trans (h0.os.symm.trans h.os), h1.tape.trans (h0.tape.symm.trans h.tape), h1.output.trans (h0.output.symm.trans h.output), Nat.le_trans h.size hk.1, fun k hk' hne => (hk.2 k (Nat.lt_of_lt_of_le hk' h.size) (fun e => hne (by rw [e])) (by simp)).trans (h.block k hk' hne)⟩
/-- states' walk. -/
structure StF (w0 w W : World) (g : Nat) (bl al : List Bf) (at_ : Int) (lb db : Nat) (a : Bool) (b c : Int) (d : Bool) (e f : Int) (x y : Bool) : Prop where
 ck : Ck w0 W g bl al sM [0] [fun0] sF 1 1 insL at_
 hw : Below w0.heap.size w0 W
 gr : w.grownBy W (some g)
 L : LBk W lb a b c d e f
 D : DBk W db x y
 ne : lb ≠ db
 ln : w.heap.size ≤ lb
 dn : w.heap.size ≤ db
 gn : g < w.heap.size
 wn : w0.heap.size ≤ w.heap.size
section
variable {w0 w W W' : World} {g : Nat} {bl al : List Bf} {at_ : Int} {lb db : Nat} {a : Bool} {b c : Int} {d : Bool} {e f : Int} {x y : Bool}
theorem StF.below (h : StF w0 w W g bl al at_ lb db a b c d e f x y) (hb : Below W.heap.size W W') : StF w0 w W' g bl al at_ lb db a b c d e f x y :=
 ⟨h.ck.below hb, h.hw.trans (hb.mono h.hw.size), h.gr.trans hb.grownBy, (hb.block _ (blk_lt h.L)).trans h.L, (hb.block _ (blk_lt h.D)).trans h.D, h.ne, h.ln, h.dn, h.gn, h.wn⟩
theorem StF.keep (h : StF w0 w W g bl al at_ lb db a b c d e f x y) (hk : KeepBut W W' g none) (h1 : Below w0.heap.size w0 W') (hc : Ck w0 W' g bl al sM [0] [fun0] sF 1 1 insL at_) : StF w0 w W' g bl al at_ lb db a b c d e f x y :=
 ⟨hc, h1, grown_keep h.gr hk h.hw h1, (hk.2 lb (blk_lt h.L) (by have := h.ln; have := h.gn; omega) (by simp)).trans h.L, (hk.2 db (blk_lt h.D) (by have := h.dn; have := h.gn; omega) (by simp)).trans h.D, h.ne, h.ln, h.dn, h.gn, h.wn⟩
theorem StF.setL {a' : Bool} {b' c' : Int} {d' : Bool} {e' f' : Int} (h : StF w0 w W g bl al at_ lb db a b c d e f x y) (o : Nat) (v : Value) (hv : (#[.bool a, .int .i64 b, .int .i64 c, .bool d, .int .i64 e, .int .i64 f] : Array Value).setIfInBounds o v = #[.bool a', .int .i64 b', .int .i64 c', .bool d', .int .i64 e', .int .i64 f']) :
  StF w0 w (W.setCell ⟨lb, o, none⟩ v) g bl al at_ lb db a' b' c' d' e' f' x y :=
 ⟨PCa.IsS139.far h.ck (by have := h.ln; have := h.gn; show g ≠ lb; omega) v, h.hw.trans (below_grownC (grownC_set _ _ _ _) (by have := h.ln; have := h.wn; omega) h.hw.size), grown_new h.gr h.ln o v, by have := blk_set h.L o v; rw [hv] at this; exact this, blk_far h.D (fun e => h.ne e.symm) v, h.ne, h.ln, h.dn, h.gn, h.wn⟩
theorem StF.setD {x' y' : Bool} (h : StF w0 w W g bl al at_ lb db a b c d e f x y) (o : Nat) (v : Value) (hv : (#[.bool x, .bool y] : Array Value).setIfInBounds o v = #[.bool x', .bool y']) :
  StF w0 w (W.setCell ⟨db, o, none⟩ v) g bl al at_ lb db a b c d e f x' y' :=
 ⟨PCa.IsS139.far h.ck (by have := h.dn; have := h.gn; show g ≠ db; omega) v, h.hw.trans (below_grownC (grownC_set _ _ _ _) (by have := h.dn; have := h.wn; omega) h.hw.size), grown_new h.gr h.dn o v, blk_far h.L h.ne v, by have := blk_set h.D o v; rw [hv] at this; exact this, h.ne, h.ln, h.dn, h.gn, h.wn⟩
end
/-- What states tells. -/
def StPost (w0 w : World) (g : Nat) (bl al : List Bf) (at_ : Int) (e : Ending) (w' : World) : Prop := ∃ lb : Nat, e = .returned (.tuple #[.slice (some ⟨lb, 0, none⟩) 2 2, .int .i64 (-1)]) ∧ LBk w' lb true 0 0 true 1 0 ∧ w.heap.size ≤ lb ∧ Ck w0 w' g bl al sM [0] [fun0] sF 1 1 insL at_ ∧ w.grownBy w' (some g)
theorem mkSt (W : World) : (Instr.makeSlice 140 (.int .i64 2) (.int .i64 2)).run Tryz.prog W = .ok (.slice (some ⟨W.heap.size, 0, none⟩) 2 2) (W.alloc (.cells #[.bool false, .int .i64 0, .int .i64 0, .bool false, .int .i64 0, .int .i64 0] 144)) := by kernel_rfl
theorem mkBools2 (W : World) : (Instr.makeSlice 209 (.int .i64 2) (.int .i64 2)).run Tryz.prog W = .ok (.slice (some ⟨W.heap.size, 0, none⟩) 2 2) (W.alloc (.cells #[.bool false, .bool false] 4)) := by kernel_rfl
section
variable {w0 : World} {g : Nat} {bl al : List Bf} {at_ : Int}
set_option maxRecDepth 100000 in
set_option maxHeartbeats 4000000 in
theorem chk_states (w : World) (h : Ck w0 w g bl al sM [0] [fun0] sF 1 1 insL at_) (hw : Below w0.heap.size w0 w) :
  Calls Tryz.prog 86 #[.pointer (some ⟨g, 0, none⟩)] w (StPost w0 w g bl al at_) := by
 have HI := Lib.hid h
 have HW := Lib.hid hw
 have Hwrong0 := Lib.hid fun (w : World) (h : Ck w0 w g bl al sM [0] [fun0] sF 1 1 insL at_) (hw : Below w0.heap.size w0 w) => PCa.code_checker_wrong.calls 60 g [] [mod0] bl al sM [0] [fun0] sF 1 1 insL at_ 0 true 0 0 false sM sF 1 1 at_ w0 w h hw (by kernel_rfl)
 have Hwrong1 := Lib.hid fun (w : World) (h : Ck w0 w g bl al sM [0] [fun0] sF 1 1 insL at_) (hw : Below w0.heap.size w0 w) => PCa.code_checker_wrong.calls 60 g [] [mod0] bl al sM [0] [fun0] sF 1 1 insL at_ 1 true 1 0 false sM sF 1 1 at_ w0 w h hw (by kernel_rfl)
 have Hways0 := Lib.hid fun (w : World) (h : Ck w0 w g bl al sM [0] [fun0] sF 1 1 insL at_) (hw : Below w0.heap.size w0 w) => PCa.code_checker_ways.calls 60 g [] [mod0] bl al sM [0] [fun0] sF 1 1 insL at_ 0 true 0 0 [⟨1, ⟨true, 1, 0⟩⟩] sM sF 1 1 at_ w0 w h hw (by kernel_rfl)
 have Hways1 := Lib.hid fun (w : World) (h : Ck w0 w g bl al sM [0] [fun0] sF 1 1 insL at_) (hw : Below w0.heap.size w0 w) => PCa.code_checker_ways.calls 60 g [] [mod0] bl al sM [0] [fun0] sF 1 1 insL at_ 1 true 1 0 [] sM sF 1 1 at_ w0 w h hw (by kernel_rfl)
 clear h hw
 have hm1 := mkSt
 have hm2 := mkBools2
 have hlen : insL.length = 2 := rfl
 go_enter Tryz.func86, Tryz.ntmps86
 obtain ⟨A0, c0, A1, c1, A2, c2, A3, c3, A5, c5, A6, c6, A10, c10, hgb, hgw, hs0, hs1, hs2, hs3, hs5, hs6, hs10⟩ := HI.out
 have k0 := PCa.cellS139_0 hgb
 have k1 := PCa.cellS139_1 hgb
 have k2 := PCa.cellS139_2 hgb
 have k3 := PCa.cellS139_3 hgb
 have k4 := PCa.cellS139_4 hgb
 have k5 := PCa.cellS139_5 hgb
 have k6 := PCa.cellS139_6 hgb
 have k7 := PCa.cellS139_7 hgb
 have k8 := PCa.cellS139_8 hgb
 have k9 := PCa.cellS139_9 hgb
 have k10 := PCa.cellS139_10 hgb
 have k11 := PCa.cellS139_11 hgb
 have f4 := blk_frozen hgb 4
 have f5 := blk_frozen hgb 5
 have f6 := blk_frozen hgb 6
 have f7 := blk_frozen hgb 7
 have f8 := blk_frozen hgb 8
 have f9 := blk_frozen hgb 9
 have f10 := blk_frozen hgb 10
 have f11 := blk_frozen hgb 11
 rw [hlen] at k10
 clear hlen
 go_upto_region 2 with (fail)
 go_cut [5, 6] from 17 to 20 (fun v5 v6 w' => StMade w w' v5 v6)
 case first =>
  go_region
  ·clear hm1 hm2
   go_wp2_with fail
   go_meet
   exact stMade1 w
  ·clear hm1 hm2
   go_wp2_with fail
   go_meet
   exact stMade2 w
 case rest =>
  obtain ⟨lb, db, rfl, rfl, hL, hD, hne, hlb, hdb, hB⟩ := hcut
  have HF := Lib.hid (show StF w0 w wc g bl al at_ lb db false 0 0 false 0 0 false false from ⟨HI.out.below hB, HW.out.trans (hB.mono HW.out.size), hB.grownBy, hL, hD, hne, hlb, hdb, HI.out.lt, HW.out.size⟩)
  clear k0 k1 k2 k3 k4 k5 k6 k7 k8 k9 k10 k11 f4 f5 f6 f7 f8 f9 f10 f11 hgb hgw hs0 hs1 hs2 hs3 hs5 hs6 hs10
  clear hm1 hm2 hL hD hB HI HW
  have nld : ¬ lb = db := hne
  have ndl : ¬ db = lb := fun e => hne e.symm
  clear hne hlb hdb
  have l0 := (blk_cell HF.out.L 0).trans rfl
  have l1 := (blk_cell HF.out.L 1).trans rfl
  have l2 := (blk_cell HF.out.L 2).trans rfl
  have l3 := (blk_cell HF.out.L 3).trans rfl
  have l4 := (blk_cell HF.out.L 4).trans rfl
  have l5 := (blk_cell HF.out.L 5).trans rfl
  have d0 := (blk_cell HF.out.D 0).trans rfl
  have d1 := (blk_cell HF.out.D 1).trans rfl
  have z0 := blk_frozen HF.out.L 0
  have z3 := blk_frozen HF.out.L 3
  have z4 := blk_frozen HF.out.L 4
  have z5 := blk_frozen HF.out.L 5
  have y0 := blk_frozen HF.out.D 0
  have y1 := blk_frozen HF.out.D 1
  go_upto_region 4 with (fail)
  have HF1 := Lib.hid (HF.out.setL 0 (.bool true) rfl)
  generalize wc.setCell ⟨lb, 0, none⟩ (.bool true) = w1 at HF1 ⊢
  clear l0 l1 l2 l3 l4 l5 d0 d1 z0 z3 z4 z5 y0 y1
  clear HF
  go_wp2_with fail
  refine wp_loop_rounds 3 ?_
  rw [rounds_succ]
  go_wp2_with fail
  refine wp_loop_rounds 3 ?_
  rw [rounds_succ]
  have l0 := (blk_cell HF1.out.L 0).trans rfl
  have l1 := (blk_cell HF1.out.L 1).trans rfl
  have l2 := (blk_cell HF1.out.L 2).trans rfl
  have l3 := (blk_cell HF1.out.L 3).trans rfl
  have l4 := (blk_cell HF1.out.L 4).trans rfl
  have l5 := (blk_cell HF1.out.L 5).trans rfl
  have d0 := (blk_cell HF1.out.D 0).trans rfl
  have d1 := (blk_cell HF1.out.D 1).trans rfl
  have z0 := blk_frozen HF1.out.L 0
  have z3 := blk_frozen HF1.out.L 3
  have z4 := blk_frozen HF1.out.L 4
  have z5 := blk_frozen HF1.out.L 5
  have y0 := blk_frozen HF1.out.D 0
  have y1 := blk_frozen HF1.out.D 1
  go_upto_region 12 with (fail)
  have HF2 := Lib.hid (HF1.out.setD 0 (.bool true) rfl)
  generalize w1.setCell ⟨db, 0, none⟩ (.bool true) = w2 at HF2 ⊢
  clear l0 l1 l2 l3 l4 l5 d0 d1 z0 z3 z4 z5 y0 y1
  clear HF1
  have l0 := (blk_cell HF2.out.L 0).trans rfl
  have l1 := (blk_cell HF2.out.L 1).trans rfl
  have l2 := (blk_cell HF2.out.L 2).trans rfl
  have l3 := (blk_cell HF2.out.L 3).trans rfl
  have l4 := (blk_cell HF2.out.L 4).trans rfl
  have l5 := (blk_cell HF2.out.L 5).trans rfl
  have d0 := (blk_cell HF2.out.D 0).trans rfl
  have d1 := (blk_cell HF2.out.D 1).trans rfl
  have z0 := blk_frozen HF2.out.L 0
  have z3 := blk_frozen HF2.out.L 3
  have z4 := blk_frozen HF2.out.L 4
  have z5 := blk_frozen HF2.out.L 5
  have y0 := blk_frozen HF2.out.D 0
  have y1 := blk_frozen HF2.out.D 1
  go_wp2_with fail
  refine (Hwrong0.out w2 HF2.out.ck HF2.out.hw).mono ?_
  rintro e1 w3 ⟨rfl, hc, hb, hk⟩
  have HF3 := Lib.hid (HF2.out.keep hk hb hc)
  clear l0 l1 l2 l3 l4 l5 d0 d1 z0 z3 z4 z5 y0 y1
  clear HF2 hc hb hk
  have l0 := (blk_cell HF3.out.L 0).trans rfl
  have l1 := (blk_cell HF3.out.L 1).trans rfl
  have l2 := (blk_cell HF3.out.L 2).trans rfl
  have l3 := (blk_cell HF3.out.L 3).trans rfl
  have l4 := (blk_cell HF3.out.L 4).trans rfl
  have l5 := (blk_cell HF3.out.L 5).trans rfl
  have d0 := (blk_cell HF3.out.D 0).trans rfl
  have d1 := (blk_cell HF3.out.D 1).trans rfl
  have z0 := blk_frozen HF3.out.L 0
  have z3 := blk_frozen HF3.out.L 3
  have z4 := blk_frozen HF3.out.L 4
  have z5 := blk_frozen HF3.out.L 5
  have y0 := blk_frozen HF3.out.D 0
  have y1 := blk_frozen HF3.out.D 1
  go_wp2_with fail
  refine (Hways0.out w3 HF3.out.ck HF3.out.hw).mono ?_
  rintro e1 w4 ⟨v, rfl, hR, hc, hb, hk⟩
  have HF4 := Lib.hid (HF3.out.keep hk hb hc)
  clear l0 l1 l2 l3 l4 l5 d0 d1 z0 z3 z4 z5 y0 y1
  clear HF3 hc hb hk
  obtain ⟨A, cw, rfl, _, hC⟩ := Kd.R_reads hR
  obtain ⟨aw, rfl, q0, q1, q2, q3⟩ := PCa.at_T214 hC 0 (by decide) (by decide)
  have ez : aw.add 0 = aw := by simp [Addr.add]
  simp only [Int.toNat_zero, Nat.zero_mul, ez] at q0 q1 q2 q3
  replace q0 : w4.cell? aw = some (.int .i64 1) := q0
  replace q1 : w4.cell? ⟨aw.block, aw.off + 1, none⟩ = some (.bool true) := q1
  replace q2 : w4.cell? ⟨aw.block, aw.off + 2, none⟩ = some (.int .i64 1) := q2
  replace q3 : w4.cell? ⟨aw.block, aw.off + 3, none⟩ = some (.int .i64 0) := q3
  clear hR hC ez
  have e1 : ([(⟨1, ⟨true, 1, 0⟩⟩ : PCa.S214)] : List PCa.S214).length = 1 := rfl
  rw [e1]
  clear e1
  go_wp2_with fail
  refine wp_loop_rounds 2 ?_
  rw [rounds_succ]
  go_upto_region 17 with (fail)
  have o0 : (w4.alloc (.cells #[.int .i64 1, .bool true, .int .i64 1, .int .i64 0] 214)).cell? ⟨w4.heap.size, 0, none⟩ = some (.int .i64 1) := by simp
  have o1 : (w4.alloc (.cells #[.int .i64 1, .bool true, .int .i64 1, .int .i64 0] 214)).cell? ⟨w4.heap.size, 1, none⟩ = some (.bool true) := by simp
  have o2 : (w4.alloc (.cells #[.int .i64 1, .bool true, .int .i64 1, .int .i64 0] 214)).cell? ⟨w4.heap.size, 2, none⟩ = some (.int .i64 1) := by simp
  have o3 : (w4.alloc (.cells #[.int .i64 1, .bool true, .int .i64 1, .int .i64 0] 214)).cell? ⟨w4.heap.size, 3, none⟩ = some (.int .i64 0) := by simp
  have hb := below_alloc (Below.refl w4.heap.size w4) (.cells #[.int .i64 1, .bool true, .int .i64 1, .int .i64 0] 214)
  generalize w4.alloc (.cells #[.int .i64 1, .bool true, .int .i64 1, .int .i64 0] 214) = w5 at o0 o1 o2 o3 hb ⊢
  have HF5 := Lib.hid (HF4.out.below hb)
  clear HF4 hb q0 q1 q2 q3
  have l0 := (blk_cell HF5.out.L 0).trans rfl
  have l1 := (blk_cell HF5.out.L 1).trans rfl
  have l2 := (blk_cell HF5.out.L 2).trans rfl
  have l3 := (blk_cell HF5.out.L 3).trans rfl
  have l4 := (blk_cell HF5.out.L 4).trans rfl
  have l5 := (blk_cell HF5.out.L 5).trans rfl
  have d0 := (blk_cell HF5.out.D 0).trans rfl
  have d1 := (blk_cell HF5.out.D 1).trans rfl
  have z0 := blk_frozen HF5.out.L 0
  have z3 := blk_frozen HF5.out.L 3
  have z4 := blk_frozen HF5.out.L 4
  have z5 := blk_frozen HF5.out.L 5
  have y0 := blk_frozen HF5.out.D 0
  have y1 := blk_frozen HF5.out.D 1
  go_quiet (fail)
  have hq := pw_below_drewN (Below.refl w5.heap.size w5) nq
  replace o0 := cell_b hq o0
  replace o1 := cell_b hq o1
  replace o2 := cell_b hq o2
  replace o3 := cell_b hq o3
  have HF6 := Lib.hid (HF5.out.below hq)
  clear l0 l1 l2 l3 l4 l5 d0 d1 z0 z3 z4 z5 y0 y1
  clear HF5
  generalize w5.drewN nq = w6 at hq o0 o1 o2 o3 HF6 ⊢
  clear hq
  have l0 := (blk_cell HF6.out.L 0).trans rfl
  have l1 := (blk_cell HF6.out.L 1).trans rfl
  have l2 := (blk_cell HF6.out.L 2).trans rfl
  have l3 := (blk_cell HF6.out.L 3).trans rfl
  have l4 := (blk_cell HF6.out.L 4).trans rfl
  have l5 := (blk_cell HF6.out.L 5).trans rfl
  have d0 := (blk_cell HF6.out.D 0).trans rfl
  have d1 := (blk_cell HF6.out.D 1).trans rfl
  have z0 := blk_frozen HF6.out.L 0
  have z3 := blk_frozen HF6.out.L 3
  have z4 := blk_frozen HF6.out.L 4
  have z5 := blk_frozen HF6.out.L 5
  have y0 := blk_frozen HF6.out.D 0
  have y1 := blk_frozen HF6.out.D 1
  go_upto_region 20 with (fail)
  have HF7 := Lib.hid (((HF6.out.setL 3 (.bool true) rfl).setL 4 (.int .i64 1) rfl).setL 5 (.int .i64 0) rfl)
  generalize ((w6.setCell ⟨lb, 3, none⟩ (.bool true)).setCell ⟨lb, 4, none⟩ (.int .i64 1)).setCell ⟨lb, 5, none⟩ (.int .i64 0) = w7 at HF7 ⊢
  clear l0 l1 l2 l3 l4 l5 d0 d1 z0 z3 z4 z5 y0 y1
  clear HF6 o0 o1 o2 o3
  go_wp2_with fail
  rw [rounds_succ]
  go_wp2_with fail
  rw [rounds_succ]
  have l0 := (blk_cell HF7.out.L 0).trans rfl
  have l1 := (blk_cell HF7.out.L 1).trans rfl
  have l2 := (blk_cell HF7.out.L 2).trans rfl
  have l3 := (blk_cell HF7.out.L 3).trans rfl
  have l4 := (blk_cell HF7.out.L 4).trans rfl
  have l5 := (blk_cell HF7.out.L 5).trans rfl
  have d0 := (blk_cell HF7.out.D 0).trans rfl
  have d1 := (blk_cell HF7.out.D 1).trans rfl
  have z0 := blk_frozen HF7.out.L 0
  have z3 := blk_frozen HF7.out.L 3
  have z4 := blk_frozen HF7.out.L 4
  have z5 := blk_frozen HF7.out.L 5
  have y0 := blk_frozen HF7.out.D 0
  have y1 := blk_frozen HF7.out.D 1
  go_upto_region 12 with (fail)
  have HF8 := Lib.hid (HF7.out.setD 1 (.bool true) rfl)
  generalize w7.setCell ⟨db, 1, none⟩ (.bool true) = w8 at HF8 ⊢
  clear l0 l1 l2 l3 l4 l5 d0 d1 z0 z3 z4 z5 y0 y1
  clear HF7
  have l0 := (blk_cell HF8.out.L 0).trans rfl
  have l1 := (blk_cell HF8.out.L 1).trans rfl
  have l2 := (blk_cell HF8.out.L 2).trans rfl
  have l3 := (blk_cell HF8.out.L 3).trans rfl
  have l4 := (blk_cell HF8.out.L 4).trans rfl
  have l5 := (blk_cell HF8.out.L 5).trans rfl
  have d0 := (blk_cell HF8.out.D 0).trans rfl
  have d1 := (blk_cell HF8.out.D 1).trans rfl
  have z0 := blk_frozen HF8.out.L 0
  have z3 := blk_frozen HF8.out.L 3
  have z4 := blk_frozen HF8.out.L 4
  have z5 := blk_frozen HF8.out.L 5
  have y0 := blk_frozen HF8.out.D 0
  have y1 := blk_frozen HF8.out.D 1
  go_wp2_with fail
  refine (Hwrong1.out w8 HF8.out.ck HF8.out.hw).mono ?_
  rintro e1 w9 ⟨rfl, hc, hb, hk⟩
  have HF9 := Lib.hid (HF8.out.keep hk hb hc)
  clear l0 l1 l2 l3 l4 l5 d0 d1 z0 z3 z4 z5 y0 y1
  clear HF8 hc hb hk
  have l0 := (blk_cell HF9.out.L 0).trans rfl
  have l1 := (blk_cell HF9.out.L 1).trans rfl
  have l2 := (blk_cell HF9.out.L 2).trans rfl
  have l3 := (blk_cell HF9.out.L 3).trans rfl
  have l4 := (blk_cell HF9.out.L 4).trans rfl
  have l5 := (blk_cell HF9.out.L 5).trans rfl
  have d0 := (blk_cell HF9.out.D 0).trans rfl
  have d1 := (blk_cell HF9.out.D 1).trans rfl
  have z0 := blk_frozen HF9.out.L 0
  have z3 := blk_frozen HF9.out.L 3
  have z4 := blk_frozen HF9.out.L 4
  have z5 := blk_frozen HF9.out.L 5
  have y0 := blk_frozen HF9.out.D 0
  have y1 := blk_frozen HF9.out.D 1
  go_wp2_with fail
  refine (Hways1.out w9 HF9.out.ck HF9.out.hw).mono ?_
  rintro e1 w10 ⟨v, rfl, hR, hc, hb, hk⟩
  have HF10 := Lib.hid (HF9.out.keep hk hb hc)
  clear l0 l1 l2 l3 l4 l5 d0 d1 z0 z3 z4 z5 y0 y1
  clear HF9 hc hb hk
  obtain ⟨A, cw, rfl, _, _⟩ := Kd.R_reads hR
  clear hR
  rw [List.length_nil]
  go_wp2_with fail
  refine wp_loop_rounds 1 ?_
  rw [rounds_succ]
  go_wp2_with fail
  rw [rounds_succ]
  go_wp2_with fail
  rw [rounds_succ]
  have l0 := (blk_cell HF10.out.L 0).trans rfl
  have l1 := (blk_cell HF10.out.L 1).trans rfl
  have l2 := (blk_cell HF10.out.L 2).trans rfl
  have l3 := (blk_cell HF10.out.L 3).trans rfl
  have l4 := (blk_cell HF10.out.L 4).trans rfl
  have l5 := (blk_cell HF10.out.L 5).trans rfl
  have d0 := (blk_cell HF10.out.D 0).trans rfl
  have d1 := (blk_cell HF10.out.D 1).trans rfl
  have z0 := blk_frozen HF10.out.L 0
  have z3 := blk_frozen HF10.out.L 3
  have z4 := blk_frozen HF10.out.L 4
  have z5 := blk_frozen HF10.out.L 5
  have y0 := blk_frozen HF10.out.D 0
  have y1 := blk_frozen HF10.out.D 1
  go_wp2_with fail
  refine wp_loop_rounds 3 ?_
  rw [rounds_succ]
  go_wp2_with fail
  rw [rounds_succ]
  go_wp2_with fail
  rw [rounds_succ]
  go_wp2_with fail
  rw [rounds_succ]
  go_wp2_with fail
  go_ret2
  exact ⟨lb, rfl, HF10.out.L, HF10.out.ln, HF10.out.ck, HF10.out.gr⟩
theorem chk_flows (w : World) (h : Ck w0 w g bl al sM [0] [fun0] sF 1 1 insL at_) (hw : Below w0.heap.size w0 w) :
  Calls Tryz.prog 90 #[.pointer (some ⟨g, 0, none⟩)] w (CkPost w0 w g (fun W => Ck w0 W g bl al sM [0] [fun0] sF 1 1 insL at_)) := by
 have HS := Lib.hid (chk_states w h hw)
 clear h hw
 go_enter Tryz.func90, Tryz.ntmps90
 go_wp2_with fail
 refine HS.out.mono ?_
 rintro e w1 ⟨lb, rfl, _, _, hc, hg⟩
 have HC := Lib.hid (And.intro hc hg)
 clear hc hg
 go_wp2_with fail
 go_ret
 exact ⟨rfl, HC.out.1, HC.out.2⟩
end
end Go.Proofs.YtibbcfeaododhaaGreatDoor
set_option linter.unusedSimpArgs false
set_option linter.unusedVariables false
namespace Go.Proofs.YtibbcfeaododhaaGreatDoor
open Go.RowKit Go.Sort Go.Proofs.YtibbcfeaododhaaGreatDoorW.PrintWords Go.Proofs.YtibbcfeaododhaaGreatDoorW.PrintLast Go.Proofs.YtibbcfeaododhaaGreatDoorW.PrintMore
section
variable {w0 : World} {g : Nat} {bl al : List Bf}
/-- The checker's state with all set. -/
abbrev CkAll (w0 W : World) (g : Nat) (bl al : List Bf) (at_ : Int) : Prop := Ck w0 W g bl al sM [0] [fun0] sF 1 1 insL at_
set_option maxRecDepth 100000 in
set_option maxHeartbeats 4000000 in
theorem chk_each (F : Nat) (eg : ∀ args w, (callFunc F args).run Tryz.prog w = .ok (.enter F args) w) (hF : ∀ W, CkAll w0 W g bl al 0 → Below w0.heap.size w0 W → Calls Tryz.prog F #[.pointer (some ⟨g, 0, none⟩)] W (CkPost w0 W g (fun W' => CkAll w0 W' g bl al 0)))
  (w : World) (h : CkAll w0 w g bl al 2) (hw : Below w0.heap.size w0 w) :
  Calls Tryz.prog 89 #[.pointer (some ⟨g, 0, none⟩), .func (.func F) #[.pointer (some ⟨g, 0, none⟩)] #[]] w (CkPost w0 w g (fun W => CkAll w0 W g bl al 2)) := by
 have HI := Lib.hid h
 have HW := Lib.hid hw
 have HF := Lib.hid hF
 clear h hw hF
 go_enter Tryz.func89, Tryz.ntmps89
 obtain ⟨A0, c0, A1, c1, A2, c2, A3, c3, A5, c5, A6, c6, A10, c10, hgb, hgw, hs0, hs1, hs2, hs3, hs5, hs6, hs10⟩ := HI.out
 have k0 := PCa.cellS139_0 hgb
 have k1 := PCa.cellS139_1 hgb
 have k2 := PCa.cellS139_2 hgb
 have k3 := PCa.cellS139_3 hgb
 have k4 := PCa.cellS139_4 hgb
 have k5 := PCa.cellS139_5 hgb
 have k6 := PCa.cellS139_6 hgb
 have k7 := PCa.cellS139_7 hgb
 have k8 := PCa.cellS139_8 hgb
 have k9 := PCa.cellS139_9 hgb
 have k10 := PCa.cellS139_10 hgb
 have k11 := PCa.cellS139_11 hgb
 have f4 := blk_frozen hgb 4
 have f5 := blk_frozen hgb 5
 have f6 := blk_frozen hgb 6
 have f7 := blk_frozen hgb 7
 have f8 := blk_frozen hgb 8
 have f9 := blk_frozen hgb 9
 have f10 := blk_frozen hgb 10
 have f11 := blk_frozen hgb 11
 go_upto_region 2 with (fail)
 clear k0 k1 k2 k3 k4 k5 k6 k7 k8 k9 k10 k11 f4 f5 f6 f7 f8 f9 f10 f11 hgb hgw hs0 hs1 hs2 hs3 hs5 hs6 hs10
 have hI1 := PCa.IsS139.set_11 HI.out 0
 have hG1 := grownC_set w g 11 (.int .i64 0)
 generalize w.setCell ⟨g, 11, none⟩ (.int .i64 0) = w1 at hI1 hG1 ⊢
 have HI1 := Lib.hid hI1
 have HG1 := Lib.hid hG1
 have HW1 := Lib.hid (HW.out.trans (below_grownC hG1 hI1.ge HW.out.size))
 clear hI1 hG1 HI
 obtain ⟨A0, c0, A1, c1, A2, c2, A3, c3, A5, c5, A6, c6, A10, c10, hgb, hgw, hs0, hs1, hs2, hs3, hs5, hs6, hs10⟩ := HI1.out
 have k0 := PCa.cellS139_0 hgb
 have k1 := PCa.cellS139_1 hgb
 have k2 := PCa.cellS139_2 hgb
 have k3 := PCa.cellS139_3 hgb
 have k4 := PCa.cellS139_4 hgb
 have k5 := PCa.cellS139_5 hgb
 have k6 := PCa.cellS139_6 hgb
 have k7 := PCa.cellS139_7 hgb
 have k8 := PCa.cellS139_8 hgb
 have k9 := PCa.cellS139_9 hgb
 have k10 := PCa.cellS139_10 hgb
 have k11 := PCa.cellS139_11 hgb
 have f4 := blk_frozen hgb 4
 have f5 := blk_frozen hgb 5
 have f6 := blk_frozen hgb 6
 have f7 := blk_frozen hgb 7
 have f8 := blk_frozen hgb 8
 have f9 := blk_frozen hgb 9
 have f10 := blk_frozen hgb 10
 have f11 := blk_frozen hgb 11
 obtain ⟨am, ae, af, e, f, i, I, rfl, hP⟩ := prg_at hs1
 have HP0 := Lib.hid hP
 have HP1 := Lib.hid (hP.below HW1.out)
 clear hP
 go_wp2_with fail
 clear k0 k1 k2 k3 k4 k5 k6 k7 k8 k9 k10 k11 f4 f5 f6 f7 f8 f9 f10 f11 hgb hgw hs0 hs1 hs2 hs3 hs5 hs6 hs10
 refine wp_loop_rounds 2 ?_
 rw [rounds_succ]
 have m0 := HP1.out.m0
 have m1 := HP1.out.m1
 have m2 := HP1.out.m2
 have x0 := HP1.out.x0
 have n0 := HP1.out.n0
 have n1 := HP1.out.n1
 have n2 := HP1.out.n2
 have n3 := HP1.out.n3
 have le := HP1.out.le
 have lf := HP1.out.lf
 have li := HP1.out.li
 go_upto_region 5 with (fail)
 have b0 : (w1.alloc (.cells #[.string sM, .slice (some ae) 1 e, .slice (some af) 1 f] 128)).cell? ⟨w1.heap.size, 0, none⟩ = some (.string sM) := by simp
 have b1 : (w1.alloc (.cells #[.string sM, .slice (some ae) 1 e, .slice (some af) 1 f] 128)).cell? ⟨w1.heap.size, 1, none⟩ = some (.slice (some ae) 1 e) := by simp
 have b2 : (w1.alloc (.cells #[.string sM, .slice (some ae) 1 e, .slice (some af) 1 f] 128)).cell? ⟨w1.heap.size, 2, none⟩ = some (.slice (some af) 1 f) := by simp
 have hb := below_alloc (Below.refl w1.heap.size w1) (.cells #[.string sM, .slice (some ae) 1 e, .slice (some af) 1 f] 128)
 have hgl : g < w1.heap.size := HI1.out.lt
 have hne : ¬ w1.heap.size = g := by omega
 generalize w1.alloc (.cells #[.string sM, .slice (some ae) 1 e, .slice (some af) 1 f] 128) = w2 at b0 b1 b2 hb ⊢
 have HI2 := Lib.hid (HI1.out.below hb)
 have HG2 := Lib.hid (HG1.out.trans hb.grownBy)
 clear m0 m1 m2 x0 n0 n1 n2 n3 le lf li
 clear HI1 HG1 HW1 HP1 hb
 obtain ⟨A0, c0, A1, c1, A2, c2, A3, c3, A5, c5, A6, c6, A10, c10, hgb, hgw, hs0, hs1, hs2, hs3, hs5, hs6, hs10⟩ := HI2.out
 have k0 := PCa.cellS139_0 hgb
 have k1 := PCa.cellS139_1 hgb
 have k2 := PCa.cellS139_2 hgb
 have k3 := PCa.cellS139_3 hgb
 have k4 := PCa.cellS139_4 hgb
 have k5 := PCa.cellS139_5 hgb
 have k6 := PCa.cellS139_6 hgb
 have k7 := PCa.cellS139_7 hgb
 have k8 := PCa.cellS139_8 hgb
 have k9 := PCa.cellS139_9 hgb
 have k10 := PCa.cellS139_10 hgb
 have k11 := PCa.cellS139_11 hgb
 have f4 := blk_frozen hgb 4
 have f5 := blk_frozen hgb 5
 have f6 := blk_frozen hgb 6
 have f7 := blk_frozen hgb 7
 have f8 := blk_frozen hgb 8
 have f9 := blk_frozen hgb 9
 have f10 := blk_frozen hgb 10
 have f11 := blk_frozen hgb 11
 go_upto_region 6 with (fail)
 clear k0 k1 k2 k3 k4 k5 k6 k7 k8 k9 k10 k11 f4 f5 f6 f7 f8 f9 f10 f11 hgb hgw hs0 hs1 hs2 hs3 hs5 hs6 hs10
 obtain ⟨hI3, hG3⟩ := Ck.setMod HI2.out (d := e) (d' := f) HP0.out.cx HP0.out.cf sM
 have ez : ([0] : List Int).length = 1 := rfl
 have ef : [fun0].length = 1 := rfl
 rw [ez, ef] at hI3 hG3
 generalize ((w2.setCell ⟨g, 4, none⟩ (.string sM)).setCell ⟨g, 5, none⟩ (.slice (some ae) 1 e)).setCell ⟨g, 6, none⟩ (.slice (some af) 1 f) = w3 at hI3 hG3 ⊢
 clear ez ef
 replace b0 := cell_g hG3 hne b0
 replace b1 := cell_g hG3 hne b1
 replace b2 := cell_g hG3 hne b2
 have HI3 := Lib.hid hI3
 have HG3 := Lib.hid (HG2.out.trans hG3)
 clear hI3 hG3 HI2 HG2
 have HW3 := Lib.hid (HW.out.trans (below_grownC HG3.out HI3.out.ge HW.out.size))
 have HP3 := Lib.hid (HP0.out.below HW3.out)
 have m0 := HP3.out.m0
 have m1 := HP3.out.m1
 have m2 := HP3.out.m2
 have x0 := HP3.out.x0
 have n0 := HP3.out.n0
 have n1 := HP3.out.n1
 have n2 := HP3.out.n2
 have n3 := HP3.out.n3
 have le := HP3.out.le
 have lf := HP3.out.lf
 have li := HP3.out.li
 go_wp2_with fail
 refine wp_loop_rounds 2 ?_
 rw [rounds_succ]
 go_upto_region 9 with (fail)
 have d3 : (w3.alloc (.cells #[.string sF, .int .i64 1, .int .i64 1, .slice I 2 i] 135)).cell? ⟨w3.heap.size, 3, none⟩ = some (.slice I 2 i) := by simp
 have d0 : (w3.alloc (.cells #[.string sF, .int .i64 1, .int .i64 1, .slice I 2 i] 135)).cell? ⟨w3.heap.size, 0, none⟩ = some (.string sF) := by simp
 have d1 : (w3.alloc (.cells #[.string sF, .int .i64 1, .int .i64 1, .slice I 2 i] 135)).cell? ⟨w3.heap.size, 1, none⟩ = some (.int .i64 1) := by simp
 have d2 : (w3.alloc (.cells #[.string sF, .int .i64 1, .int .i64 1, .slice I 2 i] 135)).cell? ⟨w3.heap.size, 2, none⟩ = some (.int .i64 1) := by simp
 have hb := below_alloc (Below.refl w3.heap.size w3) (.cells #[.string sF, .int .i64 1, .int .i64 1, .slice I 2 i] 135)
 have hgl3 : g < w3.heap.size := HI3.out.lt
 have hne3 : ¬ w3.heap.size = g := by omega
 generalize w3.alloc (.cells #[.string sF, .int .i64 1, .int .i64 1, .slice I 2 i] 135) = w4 at d0 d1 d2 d3 hb ⊢
 have HI4 := Lib.hid (HI3.out.below hb)
 have HG4 := Lib.hid (HG3.out.trans hb.grownBy)
 clear m0 m1 m2 x0 n0 n1 n2 n3 le lf li
 clear hb HI3 HG3 HP3 HW3 b0 b1 b2
 obtain ⟨A0, c0, A1, c1, A2, c2, A3, c3, A5, c5, A6, c6, A10, c10, hgb, hgw, hs0, hs1, hs2, hs3, hs5, hs6, hs10⟩ := HI4.out
 have k0 := PCa.cellS139_0 hgb
 have k1 := PCa.cellS139_1 hgb
 have k2 := PCa.cellS139_2 hgb
 have k3 := PCa.cellS139_3 hgb
 have k4 := PCa.cellS139_4 hgb
 have k5 := PCa.cellS139_5 hgb
 have k6 := PCa.cellS139_6 hgb
 have k7 := PCa.cellS139_7 hgb
 have k8 := PCa.cellS139_8 hgb
 have k9 := PCa.cellS139_9 hgb
 have k10 := PCa.cellS139_10 hgb
 have k11 := PCa.cellS139_11 hgb
 have f4 := blk_frozen hgb 4
 have f5 := blk_frozen hgb 5
 have f6 := blk_frozen hgb 6
 have f7 := blk_frozen hgb 7
 have f8 := blk_frozen hgb 8
 have f9 := blk_frozen hgb 9
 have f10 := blk_frozen hgb 10
 have f11 := blk_frozen hgb 11
 go_upto_region 10 with (fail)
 clear k0 k1 k2 k3 k4 k5 k6 k7 k8 k9 k10 k11 f4 f5 f6 f7 f8 f9 f10 f11 hgb hgw hs0 hs1 hs2 hs3 hs5 hs6 hs10
 have hci : kIns.C w0 I insL.length insL := HP0.out.ci
 obtain ⟨hI5, hG5⟩ := Ck.setFun HI4.out (d := i) hci sF 1 1
 have el : insL.length = 2 := rfl
 rw [el] at hI5 hG5
 generalize (((w4.setCell ⟨g, 7, none⟩ (.string sF)).setCell ⟨g, 8, none⟩ (.int .i64 1)).setCell ⟨g, 9, none⟩ (.int .i64 1)).setCell ⟨g, 10, none⟩ (.slice I 2 i) = w5 at hI5 hG5 ⊢
 clear el hci
 replace d3 := cell_g hG5 hne3 d3
 have HI5 := Lib.hid hI5
 have HG5 := Lib.hid (HG4.out.trans hG5)
 have HW5 := Lib.hid (HW.out.trans (below_grownC HG5.out HI5.out.ge HW.out.size))
 clear hI5 hG5 HI4 HG4 d0 d1 d2
 have HC5 := Lib.hid (HF.out w5 HI5.out HW5.out)
 go_wp2_with (go_at_fn F; refine HC5.out.mono ?_; rintro e1 w6 ⟨rfl, hI6, hG6⟩)
 replace d3 := cell_g hG6 hne3 d3
 have HI6 := Lib.hid hI6
 have HG6 := Lib.hid (HG5.out.trans hG6)
 clear hI6 hG6 HF HI5 HG5 HW5 HC5
 obtain ⟨A0, c0, A1, c1, A2, c2, A3, c3, A5, c5, A6, c6, A10, c10, hgb, hgw, hs0, hs1, hs2, hs3, hs5, hs6, hs10⟩ := HI6.out
 have k0 := PCa.cellS139_0 hgb
 have k1 := PCa.cellS139_1 hgb
 have k2 := PCa.cellS139_2 hgb
 have k3 := PCa.cellS139_3 hgb
 have k4 := PCa.cellS139_4 hgb
 have k5 := PCa.cellS139_5 hgb
 have k6 := PCa.cellS139_6 hgb
 have k7 := PCa.cellS139_7 hgb
 have k8 := PCa.cellS139_8 hgb
 have k9 := PCa.cellS139_9 hgb
 have k10 := PCa.cellS139_10 hgb
 have k11 := PCa.cellS139_11 hgb
 have f4 := blk_frozen hgb 4
 have f5 := blk_frozen hgb 5
 have f6 := blk_frozen hgb 6
 have f7 := blk_frozen hgb 7
 have f8 := blk_frozen hgb 8
 have f9 := blk_frozen hgb 9
 have f10 := blk_frozen hgb 10
 have f11 := blk_frozen hgb 11
 go_region
 have hI7 := (PCa.IsS139.set_11 HI6.out 2).drew
 have hG7 : w.grownBy ((w6.setCell ⟨g, 11, none⟩ (.int .i64 2)).drew) (some g) := (HG6.out.trans (grownC_set _ _ _ _)).trans (Below.grownBy (below_drew (Below.refl _ _)))
 generalize (w6.setCell ⟨g, 11, none⟩ (.int .i64 2)).drew = w7 at hI7 hG7 ⊢
 have HI7 := Lib.hid hI7
 have HG7 := Lib.hid hG7
 clear k0 k1 k2 k3 k4 k5 k6 k7 k8 k9 k10 k11 f4 f5 f6 f7 f8 f9 f10 f11 hgb hgw hs0 hs1 hs2 hs3 hs5 hs6 hs10
 clear hI7 hG7 HI6 HG6
 go_wp2_with fail
 rw [rounds_succ]
 go_wp2_with fail
 rw [rounds_succ]
 go_wp2_with fail
 go_ret
 exact ⟨rfl, HI7.out, HG7.out⟩
end
end Go.Proofs.YtibbcfeaododhaaGreatDoor
set_option linter.unusedSimpArgs false
set_option linter.unusedVariables false
namespace Go.Proofs.YtibbcfeaododhaaGreatDoor
open Go.RowKit Go.Sort Go.Proofs.YtibbcfeaododhaaGreatDoorW.PrintWords Go.Proofs.YtibbcfeaododhaaGreatDoorW.PrintLast Go.Proofs.YtibbcfeaododhaaGreatDoorW.PrintMore
abbrev kB : Kd Bool := Kd.bool
theorem infoB : (Tryz.prog.info? 4).map (fun i => (i.zero, i.size, i.bytes)) = some (some (.bool false), 1, 1) := by kernel_rfl
theorem infoI : (Tryz.prog.info? 3).map (fun i => (i.zero, i.size, i.bytes)) = some (some (.int .i64 0), 1, 8) := by kernel_rfl
/-- A row of one bool, made anew. -/
def OneB (w : World) (x : Bool) (e : Ending) (w' : World) : Prop := ∃ gb cap : Nat, e = .returned (.slice (some ⟨gb, 0, none⟩) 1 cap) ∧ w.heap.size ≤ gb ∧ gb < w'.heap.size ∧ w'.cell? ⟨gb, 0, none⟩ = some (.bool x) ∧ w'.frozen? ⟨gb, 0, none⟩ = false ∧ 1 ≤ cap ∧ Below w.heap.size w w'
theorem B_C {W : World} {b : Nat} {x : Bool} (h : W.cell? ⟨b, 0, none⟩ = some (.bool x)) : kB.C W (some ⟨b, 0, none⟩) 1 [x] := by
 refine ⟨rfl, by decide, fun _ => ⟨_, rfl, fun j p hj => ?_⟩⟩
 have hj0 : j = 0 := by
  have := (List.getElem?_eq_some_iff.1 hj).1
  simpa using this
 subst hj0
 simp only [List.getElem?_cons_zero, Option.some.injEq] at hj
 subst hj
 refine ⟨[.bool x], rfl, rfl, fun i u hu => ?_⟩
 have hi0 : i = 0 := by
  have := (List.getElem?_eq_some_iff.1 hu).1
  simpa using this
 subst hi0
 simp only [List.getElem?_cons_zero, Option.some.injEq] at hu
 subst hu
 simpa [Addr.add] using h
theorem R_emptyB {W : World} {base : Nat} {ok : Nat → Prop} (h0 : base ≤ W.heap.size) (hok : ok W.heap.size) : kB.R 4 (W.alloc (.cells #[] 4)) base ok (.slice (some ⟨W.heap.size, 0, none⟩) 0 0) [] := by
 refine ⟨fun k hk => ?_, [], ?_, ?_⟩
 ·have : W.heap.size = k := by simpa [Value.ownBlock] using hk
  subst this
  exact hok
 ·have h2 := World.ownsRow_lit (base := base) (e := 4) (size := kB.sz) W #[] 0 h0 (by unfold maxLen; omega) (by simp)
  simpa using h2
 ·exact ⟨by simp, fun j p hj => by simp at hj⟩
set_option maxRecDepth 100000 in
set_option maxHeartbeats 1000000 in
theorem clone_bool (x : Bool) (b c : Nat) (w : World) (h : w.cell? ⟨b, 0, none⟩ = some (.bool x)) : Calls Tryz.prog 140 #[.slice (some ⟨b, 0, none⟩) 1 c] w (OneB w x) := by
 have heq := fun (w : World) (a : Option Addr) (n c : Nat) => Lib.run_eql_slice_nil (P := Tryz.prog) w 209 4 a n c 0 0 Tryz.underlying209
 have HL : Hid ((([] : List Bool).length + 1) * 1 ≤ 140737488355328) := Lib.hid (by decide)
 have hb := below_alloc (Below.refl w.heap.size w) (.cells #[] 4)
 have HE := Lib.hid (R_emptyB (W := w) (base := w.heap.size) (ok := fun _ => True) (Nat.le_refl _) trivial)
 have HC := Lib.hid (Kd.C_below (B_C h) hb)
 have HB := Lib.hid hb
 clear h hb
 go_enter Tryz.func140, Tryz.ntmps140
 go_wp2_with (at_builtin; refine Kd.R_append_rows kB (Rr := kB.K (w.alloc (.cells #[] 4))) (w0 := w) w.heap.size rfl (.tmp 5) (.tmp 6) 209 4 (.bool false) 1 rfl Tryz.underlying209 infoB rfl (by decide) (by decide) (.slice (some ⟨w.heap.size, 0, none⟩) 0 0) [] [x] (some ⟨b, 0, none⟩) 1 c (fun _ => True) (fun _ => False) ?hs ?hx ?hO ?hR ?hKM ?hok ?hfr ?hB ?hbs ?hl ?_; (case hs => rfl); (case hx => rfl); (case hO => exact HE.out); (case hR => exact HC.out); (case hKM => exact fun _ _ h => h); (case hok => exact fun _ h => h.elim); (case hfr => exact fun _ _ => trivial); (case hB => exact HB.out); (case hbs => exact HB.out.size); (case hl => exact HL.out); intro v1 w5 ho hb hg hat; have HO := Lib.hid ho; have HB5 := Lib.hid hb; clear ho hb hg hat)
 go_ret
 obtain ⟨gb, cap, rfl, h1, h2, _⟩ := Kd.R_form HO.out (by simp)
 obtain ⟨cs, hc, hM, hcc, hf⟩ := Kd.R_elem HO.out false 0 (by decide) (by simp)
 have hM' : cs = [.bool x] := hM
 subst hM'
 have h0 := hcc 0 _ rfl
 have hf0 := hf 0
 simp only [Int.toNat_zero, Nat.zero_mul, Nat.add_zero] at h0 hf0
 have hcap : 1 ≤ cap := by
  obtain ⟨_, _, e, hle, _⟩ := Kd.R_reads HO.out
  cases e
  exact hle
 exact ⟨gb, cap, rfl, h1, h2, h0, hf0, hcap, HB5.out⟩
theorem mkRows2 (W : World) : (Instr.makeSlice 218 (.int .i64 2) (.int .i64 2)).run Tryz.prog W = .ok (.slice (some ⟨W.heap.size, 0, none⟩) 2 2) (W.alloc (.cells #[.slice none 0 0, .slice none 0 0] 209)) := by kernel_rfl
theorem mkBools1 (W : World) : (Instr.makeSlice 209 (.int .i64 1) (.int .i64 1)).run Tryz.prog W = .ok (.slice (some ⟨W.heap.size, 0, none⟩) 1 1) (W.alloc (.cells #[.bool false] 4)) := by kernel_rfl
/-- unset's walk: the states, the rows of bools, the row of what is to be done. -/
structure UnF (w0 w W : World) (g : Nat) (bl al : List Bf) (at_ : Int) (lb ib b0 : Nat) (ia : Array Value) (x : Bool) (tv : Value) (tl : List Int) : Prop where
 ck : CkAll w0 W g bl al at_
 hw : Below w0.heap.size w0 W
 gr : w.grownBy W (some g)
 L : LBk W lb true 0 0 true 1 0
 I : W.heap[ib]? = some (.cells ia 209 (0, 0))
 B : W.heap[b0]? = some (.cells #[.bool x] 4 (0, 0))
 T : kI64.R 3 W w.heap.size (fun k => b0 < k) tv tl
 n1 : w.heap.size ≤ lb
 n2 : lb < ib
 n3 : ib < b0
 gn : g < w.heap.size
 wn : w0.heap.size ≤ w.heap.size
section
variable {w0 w W W' : World} {g : Nat} {bl al : List Bf} {at_ : Int} {lb ib b0 : Nat} {ia : Array Value} {x : Bool} {tv : Value} {tl : List Int}
theorem cell_k {W W' : World} {g : Nat} {p : Addr} {v : Value} (hk : KeepBut W W' g none) (hne : ¬ p.block = g) (h : W.cell? p = some v) : W'.cell? p = some v := by
 have hb := hk.2 p.block (World.block_lt_of_cell? W _ h) hne (by simp)
 rw [← h]
 simp only [World.cell?, hb]
theorem UnF.below (h : UnF w0 w W g bl al at_ lb ib b0 ia x tv tl) (hb : Below W.heap.size W W') : UnF w0 w W' g bl al at_ lb ib b0 ia x tv tl :=
 ⟨h.ck.below hb, h.hw.trans (hb.mono h.hw.size), h.gr.trans hb.grownBy, (hb.block _ (blk_lt h.L)).trans h.L, (hb.block _ (blk_lt h.I)).trans h.I, (hb.block _ (blk_lt h.B)).trans h.B, Kd.R_below h.T hb, h.n1, h.n2, h.n3, h.gn, h.wn⟩
theorem UnF.keep (h : UnF w0 w W g bl al at_ lb ib b0 ia x tv tl) (hk : KeepBut W W' g none) (h1 : Below w0.heap.size w0 W') (hc : CkAll w0 W' g bl al at_) : UnF w0 w W' g bl al at_ lb ib b0 ia x tv tl := by
 have h2 := h.n1
 have h3 := h.n2
 have h4 := h.n3
 have h6 := h.gn
 exact ⟨hc, h1, grown_keep h.gr hk h.hw h1, (hk.2 lb (blk_lt h.L) (by omega) (by simp)).trans h.L, (hk.2 ib (blk_lt h.I) (by omega) (by simp)).trans h.I, (hk.2 b0 (blk_lt h.B) (by omega) (by simp)).trans h.B, Kd.R_step h.T (fun k hk1 hk2 => hk.2 k hk2 (by omega) (by simp)), h.n1, h.n2, h.n3, h.gn, h.wn⟩
theorem UnF.setI (h : UnF w0 w W g bl al at_ lb ib b0 ia x tv tl) (o : Nat) (v : Value) : UnF w0 w (W.setCell ⟨ib, o, none⟩ v) g bl al at_ lb ib b0 (ia.setIfInBounds o v) x tv tl := by
 have h2 := h.n1
 have h3 := h.n2
 have h4 := h.n3
 have h6 := h.gn
 have h7 := h.wn
 exact ⟨PCa.IsS139.far h.ck (show g ≠ ib by omega) v, h.hw.trans (below_grownC (grownC_set _ _ _ _) (by omega) h.hw.size), grown_new h.gr (by omega) o v, blk_far h.L (show lb ≠ ib by omega) v, blk_set h.I o v, blk_far h.B (show b0 ≠ ib by omega) v, Kd.R_far h.T (fun k hk => show k ≠ ib by omega) v, h.n1, h.n2, h.n3, h.gn, h.wn⟩
/-- The row of what is to be done has turned. -/
theorem UnF.todo {tv' : Value} {tl' : List Int} (h : UnF w0 w W g bl al at_ lb ib b0 ia x tv tl) (hT : kI64.R 3 W' w.heap.size (fun k => b0 < k) tv' tl') (hg : W.grownBy W' tv.ownBlock) : UnF w0 w W' g bl al at_ lb ib b0 ia x tv' tl' := by
 have h2 := h.n1
 have h3 := h.n2
 have h4 := h.n3
 have h6 := h.gn
 have h7 := h.wn
 have h8 := h.gr.size
 have hn : ∀ k, k ≤ b0 → some k ≠ tv.ownBlock := fun k hk e => by
  have := h.T.1 k e.symm
  omega
 exact ⟨h.ck.grown hg (hn g (by omega)), h.hw.trans ⟨hg.os, hg.tape, hg.output, hg.size, fun k hk => hg.block k (by omega) (hn k (by omega))⟩, ⟨hg.os.trans h.gr.os, hg.tape.trans h.gr.tape, hg.output.trans h.gr.output, Nat.le_trans h.gr.size hg.size, fun k hk hne => (hg.block k (by omega) (hn k (by omega))).trans (h.gr.block k hk hne)⟩, (hg.block lb (blk_lt h.L) (hn lb (by omega))).trans h.L, (hg.block ib (blk_lt h.I) (hn ib (by omega))).trans h.I, (hg.block b0 (blk_lt h.B) (hn b0 (by omega))).trans h.B, hT, h.n1, h.n2, h.n3, h.gn, h.wn⟩
theorem R_one {W : World} {base : Nat} {ok : Nat → Prop} (z : Int) (h0 : base ≤ W.heap.size) (hok : ok W.heap.size) : kI64.R 3 (W.alloc (.cells #[.int .i64 z] 3)) base ok (.slice (some ⟨W.heap.size, 0, none⟩) 1 1) [z] := by
 refine ⟨fun k hk => ?_, [.int .i64 z], ?_, ?_⟩
 ·have : W.heap.size = k := by simpa [Value.ownBlock] using hk
  subst this
  exact hok
 ·have h2 := World.ownsRow_lit (base := base) (e := 3) (size := kI64.sz) W #[.int .i64 z] 1 h0 (by unfold maxLen; omega) rfl
  simpa using h2
 ·exact ⟨rfl, fun j p hj => by
   have hj0 : j = 0 := by
    have := (List.getElem?_eq_some_iff.1 hj).1
    simpa using this
   subst hj0
   simp only [List.getElem?_cons_zero, Option.some.injEq] at hj
   subst hj
   rfl⟩
end
/-- Behind the second row's making. -/
def UnIn (w0 w W : World) (g : Nat) (bl al : List Bf) (at_ : Int) (lb ib wb : Nat) (tv : Value) (tl : List Int) : Prop := ∃ ob oc : Nat, UnF w0 w W g bl al at_ lb ib (ib + 1) #[.slice (some ⟨ib + 1, 0, none⟩) 1 1, .slice (some ⟨ob, 0, none⟩) 1 oc] true tv tl ∧ (ib + 1 < ob ∧ tv.ownBlock ≠ some ob) ∧ 1 ≤ oc ∧ W.cell? ⟨ob, 0, none⟩ = some (.bool true) ∧ W.cell? ⟨wb, 0, none⟩ = some (.int .i64 1)
section
variable {w0 : World} {g : Nat} {bl al : List Bf} {at_ : Int}
set_option maxRecDepth 100000 in
set_option maxHeartbeats 8000000 in
theorem chk_unset (w : World) (h : CkAll w0 w g bl al at_) (hw : Below w0.heap.size w0 w) :
  Calls Tryz.prog 91 #[.pointer (some ⟨g, 0, none⟩)] w (CkPost w0 w g (fun W => CkAll w0 W g bl al at_)) := by
 have heq := fun (w : World) (a : Option Addr) (n c : Nat) => Lib.run_eql_slice_nil (P := Tryz.prog) w 209 4 a n c 0 0 Tryz.underlying209
 have hne := fun (w : World) (a : Option Addr) (n c : Nat) => run_neq_slice_nil_any (P := Tryz.prog) w 209 4 a n c 0 0 Tryz.underlying209
 have HS := Lib.hid (chk_states w h hw)
 have HW := Lib.hid hw
 have Hways0 := Lib.hid fun (w : World) (h : CkAll w0 w g bl al at_) (hw : Below w0.heap.size w0 w) => PCa.code_checker_ways.calls 60 g [] [mod0] bl al sM [0] [fun0] sF 1 1 insL at_ 0 true 0 0 [⟨1, ⟨true, 1, 0⟩⟩] sM sF 1 1 at_ w0 w h hw (by kernel_rfl)
 have Hways1 := Lib.hid fun (w : World) (h : CkAll w0 w g bl al at_) (hw : Below w0.heap.size w0 w) => PCa.code_checker_ways.calls 60 g [] [mod0] bl al sM [0] [fun0] sF 1 1 insL at_ 1 true 1 0 [] sM sF 1 1 at_ w0 w h hw (by kernel_rfl)
 have hgw : g < w.heap.size := h.lt
 have hww := hw.size
 clear h hw
 have hm1 := mkRows2
 have hm2 := mkBools1
 go_enter Tryz.func91, Tryz.ntmps91
 go_wp2_with fail
 refine HS.out.mono ?_
 rintro e w1 ⟨lb, rfl, hL, hlb, hc, hg⟩
 have HC := Lib.hid hc
 have HL := Lib.hid hL
 have HG := Lib.hid hg
 clear hc hL hg HS
 obtain ⟨A0, c0, A1, c1, A2, c2, A3, c3, A5, c5, A6, c6, A10, c10, hgb, hgw, hs0, hs1, hs2, hs3, hs5, hs6, hs10⟩ := HC.out
 have k0 := PCa.cellS139_0 hgb
 have k1 := PCa.cellS139_1 hgb
 have k2 := PCa.cellS139_2 hgb
 have k3 := PCa.cellS139_3 hgb
 have k4 := PCa.cellS139_4 hgb
 have k5 := PCa.cellS139_5 hgb
 have k6 := PCa.cellS139_6 hgb
 have k7 := PCa.cellS139_7 hgb
 have k8 := PCa.cellS139_8 hgb
 have k9 := PCa.cellS139_9 hgb
 have k10 := PCa.cellS139_10 hgb
 have k11 := PCa.cellS139_11 hgb
 have f4 := blk_frozen hgb 4
 have f5 := blk_frozen hgb 5
 have f6 := blk_frozen hgb 6
 have f7 := blk_frozen hgb 7
 have f8 := blk_frozen hgb 8
 have f9 := blk_frozen hgb 9
 have f10 := blk_frozen hgb 10
 have f11 := blk_frozen hgb 11
 have el : insL.length = 2 := rfl
 rw [el] at k10
 clear el
 go_upto_region 4 with (fail)
 obtain ⟨ib, hib⟩ : ∃ ib, ib = w1.heap.size := ⟨_, rfl⟩
 have hI := heap_alloc_new w1 (.cells #[.slice none 0 0, .slice none 0 0] 209)
 have hb := below_alloc (Below.refl w1.heap.size w1) (.cells #[.slice none 0 0, .slice none 0 0] 209)
 have hs : (w1.alloc (.cells #[.slice none 0 0, .slice none 0 0] 209)).heap.size = w1.heap.size + 1 := by simp
 generalize w1.alloc (.cells #[.slice none 0 0, .slice none 0 0] 209) = w2 at hI hb hs ⊢
 have hll := blk_lt HL.out
 rw [← hib] at hI hs hll ⊢
 clear hib
 have HC2 := Lib.hid (HC.out.below hb)
 have HL2 := Lib.hid ((hb.block _ (blk_lt HL.out)).trans HL.out)
 have HG2 := Lib.hid (HG.out.trans hb.grownBy)
 have HI2 := Lib.hid hI
 clear k0 k1 k2 k3 k4 k5 k6 k7 k8 k9 k10 k11 f4 f5 f6 f7 f8 f9 f10 f11 hgb hgw hs0 hs1 hs2 hs3 hs5 hs6 hs10
 clear HC HL HG hI hb
 obtain ⟨A0, c0, A1, c1, A2, c2, A3, c3, A5, c5, A6, c6, A10, c10, hgb, hgw, hs0, hs1, hs2, hs3, hs5, hs6, hs10⟩ := HC2.out
 have k0 := PCa.cellS139_0 hgb
 have k1 := PCa.cellS139_1 hgb
 have k2 := PCa.cellS139_2 hgb
 have k3 := PCa.cellS139_3 hgb
 have k4 := PCa.cellS139_4 hgb
 have k5 := PCa.cellS139_5 hgb
 have k6 := PCa.cellS139_6 hgb
 have k7 := PCa.cellS139_7 hgb
 have k8 := PCa.cellS139_8 hgb
 have k9 := PCa.cellS139_9 hgb
 have k10 := PCa.cellS139_10 hgb
 have k11 := PCa.cellS139_11 hgb
 have f4 := blk_frozen hgb 4
 have f5 := blk_frozen hgb 5
 have f6 := blk_frozen hgb 6
 have f7 := blk_frozen hgb 7
 have f8 := blk_frozen hgb 8
 have f9 := blk_frozen hgb 9
 have f10 := blk_frozen hgb 10
 have f11 := blk_frozen hgb 11
 have i0 := (blk_cell HI2.out 0).trans rfl
 have zi0 := blk_frozen HI2.out 0
 go_upto_region 5 with (fail)
 clear k0 k1 k2 k3 k4 k5 k6 k7 k8 k9 k10 k11 f4 f5 f6 f7 f8 f9 f10 f11 hgb hgw hs0 hs1 hs2 hs3 hs5 hs6 hs10
 clear i0 zi0
 have hgib : ¬ g = ib := by omega
 have hC3 := PCa.IsS139.far (p := ⟨ib, 0, none⟩) HC2.out hgib (.slice (some ⟨ib + 1, 0, none⟩) 1 1)
 have hL3 := blk_far (p := ⟨ib, 0, none⟩) HL2.out (show lb ≠ ib by omega) (.slice (some ⟨ib + 1, 0, none⟩) 1 1)
 have hI3 := blk_set HI2.out 0 (.slice (some ⟨ib + 1, 0, none⟩) 1 1)
 have hG3 := grown_new HG2.out (show w.heap.size ≤ ib by omega) 0 (.slice (some ⟨ib + 1, 0, none⟩) 1 1)
 have hs3 : (w2.setCell ⟨ib, 0, none⟩ (.slice (some ⟨ib + 1, 0, none⟩) 1 1)).heap.size = ib + 1 := by simp [hs]
 generalize w2.setCell ⟨ib, 0, none⟩ (.slice (some ⟨ib + 1, 0, none⟩) 1 1) = w3 at hC3 hL3 hI3 hG3 hs3 ⊢
 have hb := below_alloc (Below.refl w3.heap.size w3) (.cells #[.bool false] 4)
 have hB3 := heap_alloc_new w3 (.cells #[.bool false] 4)
 rw [hs3] at hB3
 replace hC3 := hC3.below hb
 replace hL3 := (hb.block _ (blk_lt hL3)).trans hL3
 replace hI3 := (hb.block _ (blk_lt hI3)).trans hI3
 replace hG3 := hG3.trans hb.grownBy
 generalize w3.alloc (.cells #[.bool false] 4) = w4 at hb hC3 hL3 hI3 hB3 hG3 ⊢
 clear hs3 hb HC2 HL2 HG2 HI2 hs
 have HC4 := Lib.hid hC3
 have HP4 := Lib.hid (And.intro hL3 (And.intro hI3 (And.intro hB3 hG3)))
 clear hC3 hL3 hI3 hB3 hG3
 obtain ⟨A0, c0, A1, c1, A2, c2, A3, c3, A5, c5, A6, c6, A10, c10, hgb, hgw, hs0, hs1, hs2, hs3, hs5, hs6, hs10⟩ := HC4.out
 have k0 := PCa.cellS139_0 hgb
 have k1 := PCa.cellS139_1 hgb
 have k2 := PCa.cellS139_2 hgb
 have k3 := PCa.cellS139_3 hgb
 have k4 := PCa.cellS139_4 hgb
 have k5 := PCa.cellS139_5 hgb
 have k6 := PCa.cellS139_6 hgb
 have k7 := PCa.cellS139_7 hgb
 have k8 := PCa.cellS139_8 hgb
 have k9 := PCa.cellS139_9 hgb
 have k10 := PCa.cellS139_10 hgb
 have k11 := PCa.cellS139_11 hgb
 have f4 := blk_frozen hgb 4
 have f5 := blk_frozen hgb 5
 have f6 := blk_frozen hgb 6
 have f7 := blk_frozen hgb 7
 have f8 := blk_frozen hgb 8
 have f9 := blk_frozen hgb 9
 have f10 := blk_frozen hgb 10
 have f11 := blk_frozen hgb 11
 have i0 : w4.cell? ⟨ib, 0, none⟩ = some (.slice (some ⟨ib + 1, 0, none⟩) 1 1) := (blk_cell HP4.out.2.1 0).trans rfl
 have x0 : w4.cell? ⟨ib + 1, 0, none⟩ = some (.bool false) := (blk_cell HP4.out.2.2.1 0).trans rfl
 have zx0 := blk_frozen HP4.out.2.2.1 0
 go_wp2_with fail
 refine wp_loop_rounds 2 ?_
 rw [rounds_succ]
 go_upto_region 9 with (fail)
 clear k0 k1 k2 k3 k4 k5 k6 k7 k8 k9 k10 k11 f4 f5 f6 f7 f8 f9 f10 f11 hgb hgw hs0 hs1 hs2 hs3 hs5 hs6 hs10
 have hgb : ¬ g = ib + 1 := by omega
 have hC5 := PCa.IsS139.far (p := ⟨ib + 1, 0, none⟩) HC4.out hgb (.bool true)
 have hL5 := blk_far (p := ⟨ib + 1, 0, none⟩) HP4.out.1 (show lb ≠ ib + 1 by omega) (.bool true)
 have hI5 := blk_far (p := ⟨ib + 1, 0, none⟩) HP4.out.2.1 (show ib ≠ ib + 1 by omega) (.bool true)
 have hB5 := blk_set HP4.out.2.2.1 0 (.bool true)
 have hG5 := grown_new HP4.out.2.2.2 (show w.heap.size ≤ ib + 1 by omega) 0 (.bool true)
 generalize w4.setCell ⟨ib + 1, 0, none⟩ (.bool true) = w5 at hC5 hL5 hI5 hB5 hG5 ⊢
 have hbl : ib + 1 < w5.heap.size := blk_lt hB5
 have HC5 := Lib.hid hC5
 have HP5 := Lib.hid (And.intro hL5 (And.intro hI5 (And.intro hB5 hG5)))
 clear hC5 hL5 hI5 hB5 hG5 HC4 HP4 i0 x0 zx0
 go_wp2_with fail
 rw [rounds_succ]
 go_wp2_with fail
 have hb := below_alloc (Below.refl w5.heap.size w5) (.cells #[.int .i64 0] 3)
 have hws5 : w.heap.size ≤ w5.heap.size := HP5.out.2.2.2.size
 have hT := R_one (W := w5) (base := w.heap.size) (ok := fun k => ib + 1 < k) 0 hws5 hbl
 obtain ⟨tb, htb⟩ : ∃ tb, tb = w5.heap.size := ⟨_, rfl⟩
 have hC6 := HC5.out.below hb
 rw [← htb] at hT
 have hF : UnF w0 w (w5.alloc (.cells #[.int .i64 0] 3)) g bl al at_ lb ib (ib + 1) #[.slice (some ⟨ib + 1, 0, none⟩) 1 1, .slice none 0 0] true (.slice (some ⟨tb, 0, none⟩) 1 1) [0] :=
  ⟨hC6, HW.out.trans (below_grownC (HP5.out.2.2.2.trans hb.grownBy) hC6.ge HW.out.size), HP5.out.2.2.2.trans hb.grownBy, (hb.block _ (blk_lt HP5.out.1)).trans HP5.out.1, ((hb.block _ (blk_lt HP5.out.2.1)).trans HP5.out.2.1).trans rfl, ((hb.block _ (blk_lt HP5.out.2.2.1)).trans HP5.out.2.2.1).trans rfl, hT, hlb, hll, by omega, hgw, hww⟩
 rw [← htb]
 generalize w5.alloc (.cells #[.int .i64 0] 3) = w6 at hF ⊢
 have HF := Lib.hid hF
 clear hF hT hb htb hC6 HC5 HP5 hbl hm1 hm2 HW hws5
 refine wp_loop_rounds 3 ?_
 rw [rounds_succ]
 have l0 := (blk_cell HF.out.L 0).trans rfl
 have l1 := (blk_cell HF.out.L 1).trans rfl
 have l2 := (blk_cell HF.out.L 2).trans rfl
 have l3 := (blk_cell HF.out.L 3).trans rfl
 have l4 := (blk_cell HF.out.L 4).trans rfl
 have l5 := (blk_cell HF.out.L 5).trans rfl
 have i0 := (blk_cell HF.out.I 0).trans rfl
 have i1 := (blk_cell HF.out.I 1).trans rfl
 have x0 := (blk_cell HF.out.B 0).trans rfl
 have zi0 := blk_frozen HF.out.I 0
 have zi1 := blk_frozen HF.out.I 1
 have x0' : w6.cell? ⟨ib + 1, 0, none⟩ = some (.bool true) := x0
 obtain ⟨ct, _, hMt, hct, _⟩ := Kd.R_elem HF.out.T 0 0 (by decide) (by decide)
 have hMt' : ct = [.int .i64 0] := hMt
 subst hMt'
 have t0 : w6.cell? ⟨tb, 0, none⟩ = some (.int .i64 0) := hct 0 _ rfl
 clear hct hMt
 go_wp2_with fail
 refine (clone_bool true (ib + 1) 1 w6 x0').mono ?_
 rintro e1 w7 ⟨ob, oc, rfl, ho1, ho2, oz, ozf, oc1, hb⟩
 have HF7 := Lib.hid (HF.out.below hb)
 have HC7 := Lib.hid HF7.out.ck
 have HOB : Hid (ib + 1 < ob ∧ ob < w7.heap.size) := Lib.hid ⟨Nat.lt_of_lt_of_le (blk_lt HF.out.B) ho1, ho2⟩
 clear l0 l1 l2 l3 l4 l5 i0 i1 x0 zi0 zi1
 clear HF hb x0' ho1 ho2 t0
 have l0 := (blk_cell HF7.out.L 0).trans rfl
 have l1 := (blk_cell HF7.out.L 1).trans rfl
 have l2 := (blk_cell HF7.out.L 2).trans rfl
 have l3 := (blk_cell HF7.out.L 3).trans rfl
 have l4 := (blk_cell HF7.out.L 4).trans rfl
 have l5 := (blk_cell HF7.out.L 5).trans rfl
 have i0 := (blk_cell HF7.out.I 0).trans rfl
 have i1 := (blk_cell HF7.out.I 1).trans rfl
 have x0 := (blk_cell HF7.out.B 0).trans rfl
 have zi0 := blk_frozen HF7.out.I 0
 have zi1 := blk_frozen HF7.out.I 1
 obtain ⟨A0, c0, A1, c1, A2, c2, A3, c3, A5, c5, A6, c6, A10, c10, hgb, hgw, hs0, hs1, hs2, hs3, hs5, hs6, hs10⟩ := HC7.out
 have k0 := PCa.cellS139_0 hgb
 have k1 := PCa.cellS139_1 hgb
 have k2 := PCa.cellS139_2 hgb
 have k3 := PCa.cellS139_3 hgb
 have k4 := PCa.cellS139_4 hgb
 have k5 := PCa.cellS139_5 hgb
 have k6 := PCa.cellS139_6 hgb
 have k7 := PCa.cellS139_7 hgb
 have k8 := PCa.cellS139_8 hgb
 have k9 := PCa.cellS139_9 hgb
 have k10 := PCa.cellS139_10 hgb
 have k11 := PCa.cellS139_11 hgb
 have f4 := blk_frozen hgb 4
 have f5 := blk_frozen hgb 5
 have f6 := blk_frozen hgb 6
 have f7 := blk_frozen hgb 7
 have f8 := blk_frozen hgb 8
 have f9 := blk_frozen hgb 9
 have f10 := blk_frozen hgb 10
 have f11 := blk_frozen hgb 11
 have el : insL.length = 2 := rfl
 obtain ⟨ad, rfl, a0, a1, a2, a3, a4, a5⟩ := insL_at (Kd.C_below hs10 HF7.out.hw)
 rw [el] at k10
 clear el
 go_wp2_with fail
 refine (Hways0.out w7 HF7.out.ck HF7.out.hw).mono ?_
 rintro e1 w8 ⟨v, rfl, hR, hc, hb, hk⟩
 have hF8 := HF7.out.keep hk hb hc
 have hgo : ¬ ob = g := by have := HOB.out.1; have := hF8.n1; have := hF8.n2; have := hF8.n3; have := hF8.gn; omega
 have oz8 : w8.cell? ⟨ob, 0, none⟩ = some (.bool true) := cell_k hk hgo oz
 have HOB8 : Hid (ib + 1 < ob ∧ ob < w8.heap.size) := Lib.hid ⟨HOB.out.1, Nat.lt_of_lt_of_le HOB.out.2 hk.1⟩
 have HF8 := Lib.hid hF8
 obtain ⟨Aw, cw, rfl, _, hCw⟩ := Kd.R_reads hR
 obtain ⟨aw, rfl, q0, q1, q2, q3⟩ := PCa.at_T214 hCw 0 (by decide) (by decide)
 have ez : aw.add 0 = aw := by simp [Addr.add]
 simp only [Int.toNat_zero, Nat.zero_mul, ez] at q0 q1 q2 q3
 replace q0 : w8.cell? aw = some (.int .i64 1) := q0
 replace q1 : w8.cell? ⟨aw.block, aw.off + 1, none⟩ = some (.bool true) := q1
 replace q2 : w8.cell? ⟨aw.block, aw.off + 2, none⟩ = some (.int .i64 1) := q2
 replace q3 : w8.cell? ⟨aw.block, aw.off + 3, none⟩ = some (.int .i64 0) := q3
 have el : ([(⟨1, ⟨true, 1, 0⟩⟩ : PCa.S214)] : List PCa.S214).length = 1 := rfl
 rw [el]
 clear l0 l1 l2 l3 l4 l5 i0 i1 x0 zi0 zi1
 clear k0 k1 k2 k3 k4 k5 k6 k7 k8 k9 k10 k11 f4 f5 f6 f7 f8 f9 f10 f11 hgb hgw hs0 hs1 hs2 hs3 hs5 hs6 hs10
 clear el ez hR hCw hF8 hgo oz ozf HOB HF7 HC7 hc hb hk a0 a1 a2 a3 a4 a5
 go_wp2_with fail
 refine wp_loop_rounds 2 ?_
 rw [rounds_succ]
 go_upto_region 20 with (fail)
 have o0 : (w8.alloc (.cells #[.int .i64 1, .bool true, .int .i64 1, .int .i64 0] 214)).cell? ⟨w8.heap.size, 0, none⟩ = some (.int .i64 1) := by simp
 have hb := below_alloc (Below.refl w8.heap.size w8) (.cells #[.int .i64 1, .bool true, .int .i64 1, .int .i64 0] 214)
 have hs8 : w8.heap.size < (w8.alloc (.cells #[.int .i64 1, .bool true, .int .i64 1, .int .i64 0] 214)).heap.size := by simp
 generalize w8.alloc (.cells #[.int .i64 1, .bool true, .int .i64 1, .int .i64 0] 214) = w9 at o0 hb hs8 ⊢
 have HF9 := Lib.hid (HF8.out.below hb)
 have oz9 := cell_b hb oz8
 have hb8 : ib + 1 < w8.heap.size := blk_lt HF8.out.B
 have HO9 := Lib.hid (And.intro hb8 hs8)
 clear HF8 hb oz8 hs8 hb8 q0 q1 q2 q3
 have l0 := (blk_cell HF9.out.L 0).trans rfl
 have l1 := (blk_cell HF9.out.L 1).trans rfl
 have l2 := (blk_cell HF9.out.L 2).trans rfl
 have l3 := (blk_cell HF9.out.L 3).trans rfl
 have l4 := (blk_cell HF9.out.L 4).trans rfl
 have l5 := (blk_cell HF9.out.L 5).trans rfl
 have i0 := (blk_cell HF9.out.I 0).trans rfl
 have i1 := (blk_cell HF9.out.I 1).trans rfl
 have x0 := (blk_cell HF9.out.B 0).trans rfl
 have zi0 := blk_frozen HF9.out.I 0
 have zi1 := blk_frozen HF9.out.I 1
 go_upto_region 21 with (fail)
 go_cut [] from 112 to 117 (fun w' => UnIn w0 w w' g bl al at_ lb ib w8.heap.size (.slice (some ⟨tb, 0, none⟩) 1 1) [0])
 case first =>
  clear l0 l1 l2 l3 l4 l5 x0 zi0
  have HOZ := Lib.hid oz9
  clear oz9
  replace i1 : w9.cell? ⟨ib, 1, none⟩ = some (.slice none 0 0) := (blk_cell HF9.out.I 1).trans rfl
  have hib := blk_lt HF9.out.I
  go_region_with (go_at_call 140; refine (clone_bool true ob oc _ (by first | exact HOZ.out | exact cell_b (below_drew (Below.refl _ _)) HOZ.out)).mono ?_; rintro e1 w10 ⟨ob2, oc2, rfl, g1, g2, g3, g4, g5, hb10⟩; have hq : Below w9.heap.size w9 w10 := (by first | exact hb10 | exact trans_below (below_drew (Below.refl _ _)) hb10); have o0q := cell_b hq o0; have i1q := cell_b hq i1; have zi1q : w10.frozen? ⟨ib, 1, none⟩ = false := (hq.frozen (p := ⟨ib, 1, none⟩) hib).trans zi1; have HU := Lib.hid (And.intro g1 (And.intro g3 (And.intro g5 hq))); clear g1 g2 g3 g4 g5 hb10 hq)
  all_goals (
   have h1 : w9.heap.size ≤ ob2 := HU.out.1
   have h2 := HO9.out.1
   have h3 := HO9.out.2
   have h4 := HF9.out.n3
   have HE := Lib.hid (show UnIn w0 w (w10.setCell ⟨ib, 1, none⟩ (.slice (some ⟨ob2, 0, none⟩) 1 oc2)) g bl al at_ lb ib w8.heap.size (.slice (some ⟨tb, 0, none⟩) 1 1) [0] from ⟨ob2, oc2, (HF9.out.below HU.out.2.2.2).setI 1 (.slice (some ⟨ob2, 0, none⟩) 1 oc2), ⟨by omega, fun e => by have := Kd.R_lt HF9.out.T ob2 e; omega⟩, HU.out.2.2.1, cell_g (grownC_set _ _ _ _) (show ¬ ob2 = ib by omega) HU.out.2.1, cell_g (grownC_set _ _ _ _) (show ¬ w8.heap.size = ib by omega) o0q⟩)
   clear h1 h2 h3 h4 HU
   go_wp2_with fail
   go_meet
   first | exact HE.out | trace_state)
 case rest =>
  obtain ⟨ob2, oc2, hF, hob2, hoc2, oz2, o0'⟩ := hcut
  clear l0 l1 l2 l3 l4 l5 i0 i1 x0 zi0 zi1
  clear o0 oz9 HF9
  have hT0 : kI64.R 3 wc w.heap.size (fun k => ib + 1 < k) (.slice (some ⟨tb, 0, none⟩) 0 1) [] := Kd.R_take (m := 0) hF.T (by decide)
  have HT0 := Lib.hid hT0
  have HF10 := Lib.hid hF
  have HBC : Hid (ib + 1 < wc.heap.size ∧ w.heap.size ≤ wc.heap.size) := Lib.hid ⟨blk_lt hF.B, hF.gr.size⟩
  have HZ2 := Lib.hid (And.intro hob2 (And.intro hoc2 oz2))
  clear hF hT0 hob2 oz2 HOB8 HO9
  go_wp2_with (at_builtin; refine Kd.R_append kI64 (w0 := wc) w.heap.size rfl (.tmp 118) (.tmp 121) 125 3 (.int .i64 0) 8 rfl Tryz.underlying125 infoI rfl (by decide) (by decide) (.slice (some ⟨tb, 0, none⟩) 0 1) [] 1 [.int .i64 1] (fun k => ib + 1 < k) (fun _ => False) ?hs ?hx ?hp ?hok ?hfr ?hO ?hB ?hbs ?hl ?_; (case hs => rfl); (case hx => first | rfl | (simp [Act.eval]; done)); (case hp => exact rfl); (case hok => exact fun j hj => hj.elim); (case hfr => exact fun k hk => by have := HBC.out.1; omega); (case hO => exact HT0.out); (case hB => exact Below.refl _ _); (case hbs => exact HBC.out.2); (case hl => decide); intro v1 w11 ho hb hg hat; have HO1 := Lib.hid (And.intro ho hg); obtain ⟨tb2, cp2, rfl, _, _, _⟩ := Kd.R_form ho (by simp); clear ho hb hg hat)
  have hF11 := HF10.out.todo HO1.out.1 (by simpa [Value.ownBlock] using HO1.out.2)
  have oz11 : w11.cell? ⟨ob2, 0, none⟩ = some (.bool true) := by
   have h1 := HZ2.out.2.2
   have h2 := HO1.out.2.block ob2 (World.block_lt_of_cell? _ _ h1) (fun e => HZ2.out.1.2 (by simpa [Value.ownBlock] using e.symm))
   rw [← h1]
   simp only [World.cell?, h2]
  have HF11 := Lib.hid hF11
  obtain ⟨ct, _, hMt, hct, _⟩ := Kd.R_elem hF11.T 0 0 (by decide) (by decide)
  have hMt' : ct = [.int .i64 1] := hMt
  subst hMt'
  have t1 : w11.cell? ⟨tb2, 0, none⟩ = some (.int .i64 1) := hct 0 _ rfl
  clear hct hMt hF11 HO1 HF10 HT0 HBC HZ2 o0'
  rw [rounds_succ]
  go_wp2_with fail
  rw [rounds_succ]
  have l0 := (blk_cell HF11.out.L 0).trans rfl
  have l1 := (blk_cell HF11.out.L 1).trans rfl
  have l2 := (blk_cell HF11.out.L 2).trans rfl
  have l3 := (blk_cell HF11.out.L 3).trans rfl
  have l4 := (blk_cell HF11.out.L 4).trans rfl
  have l5 := (blk_cell HF11.out.L 5).trans rfl
  have i0 := (blk_cell HF11.out.I 0).trans rfl
  have i1 := (blk_cell HF11.out.I 1).trans rfl
  have x0 := (blk_cell HF11.out.B 0).trans rfl
  have zi0 := blk_frozen HF11.out.I 0
  have zi1 := blk_frozen HF11.out.I 1
  replace i1 : w11.cell? ⟨ib, 1, none⟩ = some (.slice (some ⟨ob2, 0, none⟩) 1 oc2) := i1
  go_wp2_with fail
  refine (clone_bool true ob2 oc2 w11 oz11).mono ?_
  rintro e1 w12 ⟨ob3, oc3, rfl, _, _, _, _, _, hb⟩
  have HF12 := Lib.hid (HF11.out.below hb)
  have HC12 := Lib.hid HF12.out.ck
  clear l0 l1 l2 l3 l4 l5 i0 i1 x0 zi0 zi1
  clear HF11 hb oz11 t1
  have l0 := (blk_cell HF12.out.L 0).trans rfl
  have l1 := (blk_cell HF12.out.L 1).trans rfl
  have l2 := (blk_cell HF12.out.L 2).trans rfl
  have l3 := (blk_cell HF12.out.L 3).trans rfl
  have l4 := (blk_cell HF12.out.L 4).trans rfl
  have l5 := (blk_cell HF12.out.L 5).trans rfl
  have i0 := (blk_cell HF12.out.I 0).trans rfl
  have i1 := (blk_cell HF12.out.I 1).trans rfl
  have x0 := (blk_cell HF12.out.B 0).trans rfl
  have zi0 := blk_frozen HF12.out.I 0
  have zi1 := blk_frozen HF12.out.I 1
  obtain ⟨A0, c0, A1, c1, A2, c2, A3, c3, A5, c5, A6, c6, A10, c10, hgb, hgw, hs0, hs1, hs2, hs3, hs5, hs6, hs10⟩ := HC12.out
  have k0 := PCa.cellS139_0 hgb
  have k1 := PCa.cellS139_1 hgb
  have k2 := PCa.cellS139_2 hgb
  have k3 := PCa.cellS139_3 hgb
  have k4 := PCa.cellS139_4 hgb
  have k5 := PCa.cellS139_5 hgb
  have k6 := PCa.cellS139_6 hgb
  have k7 := PCa.cellS139_7 hgb
  have k8 := PCa.cellS139_8 hgb
  have k9 := PCa.cellS139_9 hgb
  have k10 := PCa.cellS139_10 hgb
  have k11 := PCa.cellS139_11 hgb
  have f4 := blk_frozen hgb 4
  have f5 := blk_frozen hgb 5
  have f6 := blk_frozen hgb 6
  have f7 := blk_frozen hgb 7
  have f8 := blk_frozen hgb 8
  have f9 := blk_frozen hgb 9
  have f10 := blk_frozen hgb 10
  have f11 := blk_frozen hgb 11
  have el : insL.length = 2 := rfl
  obtain ⟨ad, rfl, a0, a1, a2, a3, a4, a5⟩ := insL_at (Kd.C_below hs10 HF12.out.hw)
  rw [el] at k10
  clear el
  go_wp2_with fail
  refine (Hways1.out w12 HF12.out.ck HF12.out.hw).mono ?_
  rintro e1 w13 ⟨v, rfl, hR, hc, hb, hk⟩
  have HF13 := Lib.hid (HF12.out.keep hk hb hc)
  obtain ⟨Aw2, cw2, rfl, _, _⟩ := Kd.R_reads hR
  rw [List.length_nil]
  clear l0 l1 l2 l3 l4 l5 i0 i1 x0 zi0 zi1
  clear k0 k1 k2 k3 k4 k5 k6 k7 k8 k9 k10 k11 f4 f5 f6 f7 f8 f9 f10 f11 hgb hgw hs0 hs1 hs2 hs3 hs5 hs6 hs10
  clear hR hc hb hk HF12 HC12 a0 a1 a2 a3 a4 a5
  go_wp2_with fail
  refine wp_loop_rounds 1 ?_
  rw [rounds_succ]
  go_wp2_with fail
  rw [rounds_succ]
  have HC13 := Lib.hid HF13.out.ck
  obtain ⟨A0, c0, A1, c1, A2, c2, A3, c3, A5, c5, A6, c6, A10, c10, hgb, hgw, hs0, hs1, hs2, hs3, hs5, hs6, hs10⟩ := HC13.out
  have k0 := PCa.cellS139_0 hgb
  have k1 := PCa.cellS139_1 hgb
  have k2 := PCa.cellS139_2 hgb
  have k3 := PCa.cellS139_3 hgb
  have k4 := PCa.cellS139_4 hgb
  have k5 := PCa.cellS139_5 hgb
  have k6 := PCa.cellS139_6 hgb
  have k7 := PCa.cellS139_7 hgb
  have k8 := PCa.cellS139_8 hgb
  have k9 := PCa.cellS139_9 hgb
  have k10 := PCa.cellS139_10 hgb
  have k11 := PCa.cellS139_11 hgb
  have f4 := blk_frozen hgb 4
  have f5 := blk_frozen hgb 5
  have f6 := blk_frozen hgb 6
  have f7 := blk_frozen hgb 7
  have f8 := blk_frozen hgb 8
  have f9 := blk_frozen hgb 9
  have f10 := blk_frozen hgb 10
  have f11 := blk_frozen hgb 11
  have el : insL.length = 2 := rfl
  obtain ⟨ad', hA', a0, a1, a2, a3, a4, a5⟩ := insL_at (Kd.C_below hs10 HF13.out.hw)
  subst hA'
  rw [el] at k10
  clear el
  go_wp2_with fail
  refine wp_loop_rounds 3 ?_
  rw [rounds_succ]
  go_upto_region 36 with (fail)
  have e0 : (w13.alloc (.cells #[.int .i64 2, .int .i64 0, .int .i64 0] 132)).cell? ⟨w13.heap.size, 0, none⟩ = some (.int .i64 2) := by simp
  have e1 : (w13.alloc (.cells #[.int .i64 2, .int .i64 0, .int .i64 0] 132)).cell? ⟨w13.heap.size, 1, none⟩ = some (.int .i64 0) := by simp
  have hb := below_alloc (Below.refl w13.heap.size w13) (.cells #[.int .i64 2, .int .i64 0, .int .i64 0] 132)
  generalize w13.alloc (.cells #[.int .i64 2, .int .i64 0, .int .i64 0] 132) = w14 at e0 e1 hb ⊢
  have HQ := Lib.hid (HF13.out.below hb)
  have i0 : w14.cell? ⟨ib, 0, none⟩ = some (.slice (some ⟨ib + 1, 0, none⟩) 1 1) := (blk_cell HQ.out.I 0).trans rfl
  have i1 : w14.cell? ⟨ib, 1, none⟩ = some (.slice (some ⟨ob2, 0, none⟩) 1 oc2) := (blk_cell HQ.out.I 1).trans rfl
  have x0 : w14.cell? ⟨ib + 1, 0, none⟩ = some (.bool true) := (blk_cell HQ.out.B 0).trans rfl
  have HA := Lib.hid (And.intro (cell_b hb a0) (And.intro (cell_b hb a1) (And.intro (cell_b hb a2) (And.intro (cell_b hb a3) (And.intro (cell_b hb a4) (cell_b hb a5))))))
  clear k0 k1 k2 k3 k4 k5 k6 k7 k8 k9 k10 k11 f4 f5 f6 f7 f8 f9 f10 f11 hgb hgw hs0 hs1 hs2 hs3 hs5 hs6 hs10
  clear hb a0 a1 a2 a3 a4 a5
  go_quiet (fail)
  have hq := pw_below_drewN (Below.refl w14.heap.size w14) nq
  have HF15 := Lib.hid (HQ.out.below hq)
  have a0 := cell_b hq HA.out.1
  have a1 := cell_b hq HA.out.2.1
  have a2 := cell_b hq HA.out.2.2.1
  have a3 := cell_b hq HA.out.2.2.2.1
  have a4 := cell_b hq HA.out.2.2.2.2.1
  have a5 := cell_b hq HA.out.2.2.2.2.2
  clear e0 e1 i0 i1 x0 HA HQ
  generalize w14.drewN nq = w15 at hq HF15 a0 a1 a2 a3 a4 a5 ⊢
  clear hq
  have HC := Lib.hid HF15.out.ck
  obtain ⟨A0, c0, A1, c1, A2, c2, A3, c3, A5, c5, A6, c6, A10, c10, hgb, hgw, hs0, hs1, hs2, hs3, hs5, hs6, hs10⟩ := HC.out
  have k0 := PCa.cellS139_0 hgb
  have k1 := PCa.cellS139_1 hgb
  have k2 := PCa.cellS139_2 hgb
  have k3 := PCa.cellS139_3 hgb
  have k4 := PCa.cellS139_4 hgb
  have k5 := PCa.cellS139_5 hgb
  have k6 := PCa.cellS139_6 hgb
  have k7 := PCa.cellS139_7 hgb
  have k8 := PCa.cellS139_8 hgb
  have k9 := PCa.cellS139_9 hgb
  have k10 := PCa.cellS139_10 hgb
  have k11 := PCa.cellS139_11 hgb
  have f4 := blk_frozen hgb 4
  have f5 := blk_frozen hgb 5
  have f6 := blk_frozen hgb 6
  have f7 := blk_frozen hgb 7
  have f8 := blk_frozen hgb 8
  have f9 := blk_frozen hgb 9
  have f10 := blk_frozen hgb 10
  have f11 := blk_frozen hgb 11
  go_wp2_with fail
  rw [rounds_succ]
  go_upto_region 36 with (fail)
  have e0 : (w15.alloc (.cells #[.int .i64 13, .int .i64 0, .int .i64 0] 132)).cell? ⟨w15.heap.size, 0, none⟩ = some (.int .i64 13) := by simp
  have e1 : (w15.alloc (.cells #[.int .i64 13, .int .i64 0, .int .i64 0] 132)).cell? ⟨w15.heap.size, 1, none⟩ = some (.int .i64 0) := by simp
  have hb := below_alloc (Below.refl w15.heap.size w15) (.cells #[.int .i64 13, .int .i64 0, .int .i64 0] 132)
  generalize w15.alloc (.cells #[.int .i64 13, .int .i64 0, .int .i64 0] 132) = w16 at e0 e1 hb ⊢
  have HQ := Lib.hid (HF15.out.below hb)
  have i0 : w16.cell? ⟨ib, 0, none⟩ = some (.slice (some ⟨ib + 1, 0, none⟩) 1 1) := (blk_cell HQ.out.I 0).trans rfl
  have i1 : w16.cell? ⟨ib, 1, none⟩ = some (.slice (some ⟨ob2, 0, none⟩) 1 oc2) := (blk_cell HQ.out.I 1).trans rfl
  have x0 : w16.cell? ⟨ib + 1, 0, none⟩ = some (.bool true) := (blk_cell HQ.out.B 0).trans rfl
  have HA := Lib.hid (And.intro (cell_b hb a0) (And.intro (cell_b hb a1) (And.intro (cell_b hb a2) (And.intro (cell_b hb a3) (And.intro (cell_b hb a4) (cell_b hb a5))))))
  clear k0 k1 k2 k3 k4 k5 k6 k7 k8 k9 k10 k11 f4 f5 f6 f7 f8 f9 f10 f11 hgb hgw hs0 hs1 hs2 hs3 hs5 hs6 hs10
  clear hb a0 a1 a2 a3 a4 a5
  go_quiet (fail)
  have hq := pw_below_drewN (Below.refl w16.heap.size w16) nq
  have HF17 := Lib.hid (HQ.out.below hq)
  have a0 := cell_b hq HA.out.1
  have a1 := cell_b hq HA.out.2.1
  have a2 := cell_b hq HA.out.2.2.1
  have a3 := cell_b hq HA.out.2.2.2.1
  have a4 := cell_b hq HA.out.2.2.2.2.1
  have a5 := cell_b hq HA.out.2.2.2.2.2
  clear e0 e1 i0 i1 x0 HA HQ
  generalize w16.drewN nq = w17 at hq HF17 a0 a1 a2 a3 a4 a5 ⊢
  clear hq
  have HC := Lib.hid HF17.out.ck
  obtain ⟨A0, c0, A1, c1, A2, c2, A3, c3, A5, c5, A6, c6, A10, c10, hgb, hgw, hs0, hs1, hs2, hs3, hs5, hs6, hs10⟩ := HC.out
  have k0 := PCa.cellS139_0 hgb
  have k1 := PCa.cellS139_1 hgb
  have k2 := PCa.cellS139_2 hgb
  have k3 := PCa.cellS139_3 hgb
  have k4 := PCa.cellS139_4 hgb
  have k5 := PCa.cellS139_5 hgb
  have k6 := PCa.cellS139_6 hgb
  have k7 := PCa.cellS139_7 hgb
  have k8 := PCa.cellS139_8 hgb
  have k9 := PCa.cellS139_9 hgb
  have k10 := PCa.cellS139_10 hgb
  have k11 := PCa.cellS139_11 hgb
  have f4 := blk_frozen hgb 4
  have f5 := blk_frozen hgb 5
  have f6 := blk_frozen hgb 6
  have f7 := blk_frozen hgb 7
  have f8 := blk_frozen hgb 8
  have f9 := blk_frozen hgb 9
  have f10 := blk_frozen hgb 10
  have f11 := blk_frozen hgb 11
  go_wp2_with fail
  rw [rounds_succ]
  go_wp2_with fail
  go_ret
  exact ⟨rfl, HF17.out.ck, HF17.out.gr⟩
end
end Go.Proofs.YtibbcfeaododhaaGreatDoor
set_option linter.unusedSimpArgs false
set_option linter.unusedVariables false
namespace Go.Proofs.YtibbcfeaododhaaGreatDoor
open Go.RowKit Go.Sort Go.Proofs.YtibbcfeaododhaaGreatDoorW.PrintWords Go.Proofs.YtibbcfeaododhaaGreatDoorW.PrintLast Go.Proofs.YtibbcfeaododhaaGreatDoorW.PrintMore
abbrev kTm1 : Kd Tm1 := PCa.k27
/-- The one program as a value. -/
structure OneAt (W : World) (A : Option Addr) (c : Nat) (B : Option Addr) (d : Nat) : Prop where
 cs : kTm1.C W A 0 []
 ms : kMod.C W B 1 [mod0]
theorem OneAt.below {W W' : World} {A B : Option Addr} {c d : Nat} (h : OneAt W A c B d) (hb : Below W.heap.size W W') : OneAt W' A c B d := ⟨Kd.C_below h.cs hb, Kd.C_below h.ms hb⟩
/-- A checker at its beginning, made since. -/
def CkMade (w W : World) (v : Value) : Prop := ∃ (g : Nat) (bl al : List Bf) (w0 : World), v = .pointer (some ⟨g, 0, none⟩) ∧ Ck w0 W g bl al ⟨#[]⟩ [] [] ⟨#[]⟩ 0 0 [] 0 ∧ Below w0.heap.size w0 W ∧ Below w.heap.size w W ∧ w.heap.size ≤ g
theorem ckMade_mk {w W : World} {A B Ab Aa : Option Addr} {c d cb ca : Nat} {bl al : List Bf} (hO : OneAt W A c B d) (hb : kBf.C W Ab bl.length bl) (ha : kBf.C W Aa al.length al) (hB : Below w.heap.size w W) :
  CkMade w (W.alloc (.cells #[.slice A 0 c, .slice B 1 d, .slice Ab bl.length cb, .slice Aa al.length ca, .string ⟨#[]⟩, .slice none 0 0, .slice none 0 0, .string ⟨#[]⟩, .int .i64 0, .int .i64 0, .slice none 0 0, .int .i64 0] 139)) (.pointer (some ⟨W.heap.size, 0, none⟩)) :=
 ⟨W.heap.size, bl, al, W, rfl, PCa.IsS139.new W W A c B d Ab cb Aa ca none 0 none 0 none 0 [] [mod0] bl al ⟨#[]⟩ [] [] ⟨#[]⟩ 0 0 [] 0 (Below.refl _ _) hO.cs hO.ms hb ha (Kd.C_nil _ _) (Kd.C_nil _ _) (Kd.C_nil _ _), below_alloc (Below.refl _ _) _, below_alloc hB _, hB.size⟩
set_option maxRecDepth 100000 in
set_option maxHeartbeats 4000000 in
theorem code_Check (w : World) (A B : Option Addr) (c d : Nat) (h : OneAt w A c B d) (hA : Asc w) :
  Calls Tryz.prog 50 #[.agg #[.slice A 0 c, .slice B 1 d]] w fun e w' => e = .returned .nilIface ∧ Below w.heap.size w w' := by
 have c0 : (w.alloc (.cells #[.slice A 0 c, .slice B 1 d] 82)).cell? ⟨w.heap.size, 0, none⟩ = some (.slice A 0 c) := by simp
 have c1 : (w.alloc (.cells #[.slice A 0 c, .slice B 1 d] 82)).cell? ⟨w.heap.size, 1, none⟩ = some (.slice B 1 d) := by simp
 have hb := below_alloc (Below.refl w.heap.size w) (.cells #[.slice A 0 c, .slice B 1 d] 82)
 have HO := Lib.hid (h.below hb)
 have HA := Lib.hid (hA.below hb)
 clear h hA
 go_enter Tryz.func50, Tryz.ntmps50
 go_upto_region 1 with (fail)
 generalize w.alloc (.cells #[.slice A 0 c, .slice B 1 d] 82) = w1 at c0 c1 hb HO HA ⊢
 have HB := Lib.hid hb
 clear hb
 go_wp2_with fail
 refine wp_loop_rounds 1 ?_
 rw [rounds_succ]
 go_wp2_with fail
 go_cut [7] from 46 to 50 (fun v7 w' => CkMade w w' v7)
 case first =>
  have hq0 : Below w1.heap.size w1 w1.drew := below_drew (Below.refl _ _)
  have HC0 := Lib.hid (And.intro c0 c1)
  go_region_with (first
   | (go_at_call 85; refine (bif_All _ (by first | exact HA.out.below hqa.out.2 | exact HA.out.below hq0)).mono ?_; rintro e1 w10 ⟨vb, bl, rfl, _, hRb, hbb⟩; obtain ⟨Ab, cb, rfl, _, hCb⟩ := Kd.R_reads hRb; have hqb := Lib.hid (And.intro hCb (show Below w1.heap.size w1 w10 from by first | exact trans_below hqa.out.2 hbb | exact trans_below hq0 hbb)); have hqr := Lib.hid hbb; have c0b := cell_b hqb.out.2 HC0.out.1; have c1b := cell_b hqb.out.2 HC0.out.2; clear hRb hCb hbb)
   | (go_at_call 16; refine (code_Acts _).mono ?_; rintro e1 w20 ⟨va, rfl, hRa, hba⟩; obtain ⟨Aa, ca, rfl, _, hCa⟩ := Kd.R_reads hRa; have hqa := Lib.hid (And.intro hCa (show Below w1.heap.size w1 w20 from by first | exact trans_below hqb.out.2 hba | exact trans_below hq0 hba)); have hqs := Lib.hid hba; have c0a := cell_b hqa.out.2 HC0.out.1; have c1a := cell_b hqa.out.2 HC0.out.2; clear hRa hCa hba))
  all_goals (
   go_wp2_with fail
   go_meet
   first
   | exact ckMade_mk (HO.out.below hqa.out.2) (Kd.C_below hqb.out.1 hqs.out) hqa.out.1 (trans_below HB.out hqa.out.2)
   | exact ckMade_mk (HO.out.below hqb.out.2) hqb.out.1 (Kd.C_below hqa.out.1 hqr.out) (trans_below HB.out hqb.out.2))
 case rest =>
  obtain ⟨g, bl, al, w0, rfl, hC, hW, hB, hg⟩ := hcut
  have HC := Lib.hid hC
  have HW := Lib.hid hW
  have HBB := Lib.hid hB
  have HGW := Lib.hid hg
  clear hC hW hB hg c0 c1 HO HA HB
  go_wp2_with fail
  refine (chk_forms wc HC.out HW.out).mono ?_
  rintro e1 w2 ⟨rfl, hC2, hG2⟩
  have HC2 := Lib.hid hC2
  have HW2 := Lib.hid (HW.out.trans (below_grownC hG2 hC2.ge HW.out.size))
  have HB2 := Lib.hid (HBB.out.trans (below_grownC hG2 HGW.out HBB.out.size))
  clear hC2 hG2 HC HW HBB
  go_wp2_with fail
  refine (chk_each 90 (enters_of Tryz.func90 (by kernel_rfl) rfl) (fun W h hw => chk_flows W h hw) w2 HC2.out HW2.out).mono ?_
  rintro e1 w3 ⟨rfl, hC3, hG3⟩
  have HC3 := Lib.hid hC3
  have HW3 := Lib.hid (HW2.out.trans (below_grownC hG3 hC3.ge HW2.out.size))
  have HB3 := Lib.hid (HB2.out.trans (below_grownC hG3 HGW.out HB2.out.size))
  clear hC3 hG3 HC2 HW2 HB2
  go_wp2_with fail
  refine (chk_each 91 (enters_of Tryz.func91 (by kernel_rfl) rfl) (fun W h hw => chk_unset W h hw) w3 HC3.out HW3.out).mono ?_
  rintro e1 w4 ⟨rfl, hC4, hG4⟩
  have HB4 := Lib.hid (HB3.out.trans (below_grownC hG4 HGW.out HB3.out.size))
  clear hC4 hG4 HC3 HW3 HB3
  go_wp2_with fail
  go_ret
  exact ⟨rfl, HB4.out⟩
end Go.Proofs.YtibbcfeaododhaaGreatDoor
set_option linter.unusedSimpArgs false
set_option linter.unusedVariables false
namespace Go.Proofs.YtibbcfeaododhaaGreatDoor
open Go.RowKit Go.Sort Go.Proofs.YtibbcfeaododhaaGreatDoorW.PrintWords Go.Proofs.YtibbcfeaododhaaGreatDoorW.PrintLast Go.Proofs.YtibbcfeaododhaaGreatDoorW.PrintMore
/-- A checker with all set, made since. -/
def CkFull (w W : World) (v : Value) : Prop := ∃ (g : Nat) (bl al : List Bf) (w0 : World), v = .pointer (some ⟨g, 0, none⟩) ∧ CkAll w0 W g bl al 0 ∧ Below w0.heap.size w0 W ∧ Below w.heap.size w W ∧ w.heap.size ≤ g
theorem ckFull_mk {w W : World} {A B Ab Aa E F I : Option Addr} {c d cb ca e f i : Nat} {bl al : List Bf} (hO : OneAt W A c B d) (hb : kBf.C W Ab bl.length bl) (ha : kBf.C W Aa al.length al) (hE : kI64.C W E 1 [0]) (hF : kFun.C W F 1 [fun0]) (hI : kIns.C W I 2 insL) (hB : Below w.heap.size w W) :
  CkFull w (W.alloc (.cells #[.slice A 0 c, .slice B 1 d, .slice Ab bl.length cb, .slice Aa al.length ca, .string sM, .slice E 1 e, .slice F 1 f, .string sF, .int .i64 1, .int .i64 1, .slice I 2 i, .int .i64 0] 139)) (.pointer (some ⟨W.heap.size, 0, none⟩)) :=
 ⟨W.heap.size, bl, al, W, rfl, PCa.IsS139.new W W A c B d Ab cb Aa ca E e F f I i [] [mod0] bl al sM [0] [fun0] sF 1 1 insL 0 (Below.refl _ _) hO.cs hO.ms hb ha hE hF hI, below_alloc (Below.refl _ _) _, below_alloc hB _, hB.size⟩
/-- Height's walk: the states. -/
structure HtF (w0 w W : World) (g : Nat) (bl al : List Bf) (lb : Nat) : Prop where
 ck : CkAll w0 W g bl al 0
 hw : Below w0.heap.size w0 W
 gr : w.grownBy W (some g)
 L : LBk W lb true 0 0 true 1 0
 ln : w.heap.size ≤ lb
 gn : g < w.heap.size
theorem HtF.below {w0 w W W' : World} {g : Nat} {bl al : List Bf} {lb : Nat} (h : HtF w0 w W g bl al lb) (hb : Below W.heap.size W W') : HtF w0 w W' g bl al lb :=
 ⟨h.ck.below hb, h.hw.trans (hb.mono h.hw.size), h.gr.trans hb.grownBy, (hb.block _ (blk_lt h.L)).trans h.L, h.ln, h.gn⟩
theorem HtF.keep {w0 w W W' : World} {g : Nat} {bl al : List Bf} {lb : Nat} (h : HtF w0 w W g bl al lb) (hk : KeepBut W W' g none) (h1 : Below w0.heap.size w0 W') (hc : CkAll w0 W' g bl al 0) : HtF w0 w W' g bl al lb := by
 have h2 := h.ln
 have h6 := h.gn
 exact ⟨hc, h1, grown_keep h.gr hk h.hw h1, (hk.2 lb (blk_lt h.L) (by omega) (by simp)).trans h.L, h.ln, h.gn⟩
theorem max_a (w : World) (ts : Array TypeId) (t : TypeId) : (Builtin.max_ ts t #[.int .i64 0, .int .i64 0, .int .i64 1]).run Tryz.prog w = .ok (.int .i64 1) w := by
 simp [Builtin.max_, Builtin.max2]
theorem max_b (w : World) (ts : Array TypeId) (t : TypeId) : (Builtin.max_ ts t #[.int .i64 1, .int .i64 1, .int .i64 0]).run Tryz.prog w = .ok (.int .i64 1) w := by
 simp [Builtin.max_, Builtin.max2]
set_option maxRecDepth 100000 in
set_option maxHeartbeats 16000000 in
theorem code_Height (w : World) (A B : Option Addr) (c d : Nat) (h : OneAt w A c B d) (hA : Asc w) :
  Calls Tryz.prog 49 #[.agg #[.slice A 0 c, .slice B 1 d], .int .i64 0, .int .i64 0] w fun e w' => e = .returned (.tuple #[.int .i64 1, .nilIface]) ∧ Below w.heap.size w w' := by
 have c0 : (w.alloc (.cells #[.slice A 0 c, .slice B 1 d] 82)).cell? ⟨w.heap.size, 0, none⟩ = some (.slice A 0 c) := by simp
 have c1 : (w.alloc (.cells #[.slice A 0 c, .slice B 1 d] 82)).cell? ⟨w.heap.size, 1, none⟩ = some (.slice B 1 d) := by simp
 have hb := below_alloc (Below.refl w.heap.size w) (.cells #[.slice A 0 c, .slice B 1 d] 82)
 have HO := Lib.hid (h.below hb)
 have HA := Lib.hid (hA.below hb)
 clear h hA
 obtain ⟨am, ae, af, e, f, i, I, rfl, hP⟩ := prg_at HO.out.ms
 go_enter Tryz.func49, Tryz.ntmps49
 go_upto_region 1 with (fail)
 generalize w.alloc (.cells #[.slice A 0 c, .slice (some am) 1 d] 82) = w1 at c0 c1 hb HO HA hP ⊢
 have HB := Lib.hid hb
 have HP := Lib.hid hP
 clear hb hP
 go_wp2_with fail
 refine (code_Check w1 _ _ _ _ HO.out HA.out).mono ?_
 rintro e1 w2 ⟨rfl, hb⟩
 replace c0 := cell_b hb c0
 replace c1 := cell_b hb c1
 have HO2 := Lib.hid (HO.out.below hb)
 have HA2 := Lib.hid (HA.out.below hb)
 have HP2 := Lib.hid (HP.out.below hb)
 have HB2 := Lib.hid (trans_below HB.out hb)
 clear hb HO HA HP HB
 have m0 := HP2.out.m0
 have m1 := HP2.out.m1
 have m2 := HP2.out.m2
 have x0 := HP2.out.x0
 have n0 := HP2.out.n0
 have n1 := HP2.out.n1
 have n2 := HP2.out.n2
 have n3 := HP2.out.n3
 have le := HP2.out.le
 have lf := HP2.out.lf
 have li := HP2.out.li
 go_wp2_with fail
 refine (below_01 _).mono ?_
 rintro e1 w3 ⟨rfl, rfl⟩
 go_wp2_with fail
 refine (below_01 _).mono ?_
 rintro e1 w3 ⟨rfl, rfl⟩
 go_upto_region 6 with (fail)
 go_cut [9] from 41 to 59 (fun v9 w' => CkFull w w' v9)
 case first =>
  have HS : Hid (∀ W, Below w2.heap.size w2 W → (Below w2.heap.size w2 W ∧ W.cell? ⟨w.heap.size, 0, none⟩ = some (.slice A 0 c) ∧ W.cell? ⟨w.heap.size, 1, none⟩ = some (.slice (some am) 1 d) ∧ W.cell? am = some (.string sM) ∧ W.cell? ⟨am.block, am.off + 1, none⟩ = some (.slice (some ae) 1 e) ∧ W.cell? ⟨am.block, am.off + 2, none⟩ = some (.slice (some af) 1 f) ∧ W.cell? af = some (.string sF) ∧ W.cell? ⟨af.block, af.off + 1, none⟩ = some (.int .i64 1) ∧ W.cell? ⟨af.block, af.off + 2, none⟩ = some (.int .i64 1) ∧ W.cell? ⟨af.block, af.off + 3, none⟩ = some (.slice I 2 i))) := Lib.hid fun W hW => ⟨hW, cell_b hW c0, cell_b hW c1, cell_b hW HP2.out.m0, cell_b hW HP2.out.m1, cell_b hW HP2.out.m2, cell_b hW HP2.out.n0, cell_b hW HP2.out.n1, cell_b hW HP2.out.n2, cell_b hW HP2.out.n3⟩
  go_region_held3 (fun W => Below w2.heap.size w2 W ∧ W.cell? ⟨w.heap.size, 0, none⟩ = some (.slice A 0 c) ∧ W.cell? ⟨w.heap.size, 1, none⟩ = some (.slice (some am) 1 d) ∧ W.cell? am = some (.string sM) ∧ W.cell? ⟨am.block, am.off + 1, none⟩ = some (.slice (some ae) 1 e) ∧ W.cell? ⟨am.block, am.off + 2, none⟩ = some (.slice (some af) 1 f) ∧ W.cell? af = some (.string sF) ∧ W.cell? ⟨af.block, af.off + 1, none⟩ = some (.int .i64 1) ∧ W.cell? ⟨af.block, af.off + 2, none⟩ = some (.int .i64 1) ∧ W.cell? ⟨af.block, af.off + 3, none⟩ = some (.slice I 2 i)) ((refine HS.out _ ?_; first | assumption | exact Below.refl _ _ | exact (Below.refl _ _).drew | exact below_alloc (by assumption) _ | exact below_alloc (Below.refl _ _).drew _))
   ((first
    | (go_at_call 85; refine (bif_All _ (by first | exact HA2.out.below hqa1 | exact HA2.out.below (Below.refl _ _).drew)).mono ?_; rintro e1 w10 ⟨vb, bl, rfl, _, hRb, hbb⟩; obtain ⟨Ab, cb, rfl, _, hCb⟩ := Kd.R_reads hRb; have hqb := Lib.hid hCb; have hqb1 : Below w2.heap.size w2 w10 := (by first | exact trans_below hqa1 hbb | exact trans_below (Below.refl _ _).drew hbb); have hqr := Lib.hid hbb; clear hRb hCb hbb)
    | (go_at_call 16; refine (code_Acts _).mono ?_; rintro e1 w20 ⟨va, rfl, hRa, hba⟩; obtain ⟨Aa, ca, rfl, _, hCa⟩ := Kd.R_reads hRa; have hqa := Lib.hid hCa; have hqa1 : Below w2.heap.size w2 w20 := (by first | exact trans_below hqb1 hba | exact trans_below (Below.refl _ _).drew hba); have hqs := Lib.hid hba; clear hRa hCa hba)))
  all_goals (
   go_wp2_with fail
   go_meet
   first
   | exact ckFull_mk (HO2.out.below hqa1) (Kd.C_below hqb.out hqs.out) hqa.out (Kd.C_below HP2.out.cx hqa1) (Kd.C_below HP2.out.cf hqa1) (Kd.C_below HP2.out.ci hqa1) (trans_below HB2.out hqa1)
   | exact ckFull_mk (HO2.out.below hqb1) hqb.out (Kd.C_below hqa.out hqr.out) (Kd.C_below HP2.out.cx hqb1) (Kd.C_below HP2.out.cf hqb1) (Kd.C_below HP2.out.ci hqb1) (trans_below HB2.out hqb1))
 case rest =>
  clear m0 m1 m2 x0 n0 n1 n2 n3 le lf li
  obtain ⟨g, bl, al, w0, rfl, hC, hW, hB, hg⟩ := hcut
  have Hm0 := Lib.hid fun (w : World) (h : CkAll w0 w g bl al 0) (hw : Below w0.heap.size w0 w) => PCa.code_checker_moves.calls 60 g [] [mod0] bl al sM [0] [fun0] sF 1 1 insL 0 2 0 0 0 1 sM sF 1 1 0 w0 w h hw (by kernel_rfl)
  have Hm1 := Lib.hid fun (w : World) (h : CkAll w0 w g bl al 0) (hw : Below w0.heap.size w0 w) => PCa.code_checker_moves.calls 60 g [] [mod0] bl al sM [0] [fun0] sF 1 1 insL 0 13 0 0 1 0 sM sF 1 1 0 w0 w h hw (by kernel_rfl)
  have HS := Lib.hid (chk_states wc hC hW)
  have HBB := Lib.hid (And.intro hB hg)
  have hgw : g < wc.heap.size := hC.lt
  have HW := Lib.hid hW
  clear hC hW hB hg c0 c1 HO2 HA2 HP2 HB2
  go_wp2_with fail
  refine HS.out.mono ?_
  rintro e1 w4 ⟨lb, rfl, hL, hlb, hc, hg⟩
  have HF : Hid (HtF w0 wc w4 g bl al lb) := Lib.hid ⟨hc, HW.out.trans (below_grownC hg hc.ge HW.out.size), hg, hL, hlb, hgw⟩
  clear HS hL hlb hc hg HW
  have l0 := (blk_cell HF.out.L 0).trans rfl
  have l1 := (blk_cell HF.out.L 1).trans rfl
  have l2 := (blk_cell HF.out.L 2).trans rfl
  have l3 := (blk_cell HF.out.L 3).trans rfl
  have l4 := (blk_cell HF.out.L 4).trans rfl
  have l5 := (blk_cell HF.out.L 5).trans rfl
  go_wp2_with fail
  have hma := max_a
  have hmb := max_b
  refine wp_loop_rounds 3 ?_
  rw [rounds_succ]
  go_upto_region 12 with (fail)
  have hb := below_alloc (Below.refl w4.heap.size w4) (.cells #[.bool true, .int .i64 0, .int .i64 0] 144)
  have o0 : (w4.alloc (.cells #[.bool true, .int .i64 0, .int .i64 0] 144)).cell? ⟨w4.heap.size, 0, none⟩ = some (.bool true) := by simp
  have o1 : (w4.alloc (.cells #[.bool true, .int .i64 0, .int .i64 0] 144)).cell? ⟨w4.heap.size, 1, none⟩ = some (.int .i64 0) := by simp
  have ob : ¬ w4.heap.size = g := by have := HF.out.gn; have := HF.out.gr.size; omega
  generalize w4.alloc (.cells #[.bool true, .int .i64 0, .int .i64 0] 144) = w5 at hb o0 o1 ⊢
  have HQ := Lib.hid (HF.out.below hb)
  have HC := Lib.hid HQ.out.ck
  clear hb l0 l1 l2 l3 l4 l5
  obtain ⟨A0, c0, A1, c1, A2, c2, A3, c3, A5, c5, A6, c6, A10, c10, hgb, hgw, hs0, hs1, hs2, hs3, hs5, hs6, hs10⟩ := HC.out
  have k0 := PCa.cellS139_0 hgb
  have k1 := PCa.cellS139_1 hgb
  have k2 := PCa.cellS139_2 hgb
  have k3 := PCa.cellS139_3 hgb
  have k4 := PCa.cellS139_4 hgb
  have k5 := PCa.cellS139_5 hgb
  have k6 := PCa.cellS139_6 hgb
  have k7 := PCa.cellS139_7 hgb
  have k8 := PCa.cellS139_8 hgb
  have k9 := PCa.cellS139_9 hgb
  have k10 := PCa.cellS139_10 hgb
  have k11 := PCa.cellS139_11 hgb
  have f4 := blk_frozen hgb 4
  have f5 := blk_frozen hgb 5
  have f6 := blk_frozen hgb 6
  have f7 := blk_frozen hgb 7
  have f8 := blk_frozen hgb 8
  have f9 := blk_frozen hgb 9
  have f10 := blk_frozen hgb 10
  have f11 := blk_frozen hgb 11
  have el : insL.length = 2 := rfl
  obtain ⟨ad, hA', a0, a1, a2, a3, a4, a5⟩ := insL_at (Kd.C_below hs10 HQ.out.hw)
  subst hA'
  rw [el] at k10
  clear el
  go_wp2_with fail
  refine (Hm0.out w5 HQ.out.ck HQ.out.hw).mono ?_
  rintro e1 w6 ⟨rfl, hc, hb, hk⟩
  have HF6 := Lib.hid (HQ.out.keep hk hb hc)
  replace o0 := cell_k hk ob o0
  replace o1 := cell_k hk ob o1
  clear k0 k1 k2 k3 k4 k5 k6 k7 k8 k9 k10 k11 f4 f5 f6 f7 f8 f9 f10 f11 hgb hgw hs0 hs1 hs2 hs3 hs5 hs6 hs10
  clear a0 a1 a2 a3 a4 a5 HC HQ hc hb hk ob HF
  have l0 := (blk_cell HF6.out.L 0).trans rfl
  have l1 := (blk_cell HF6.out.L 1).trans rfl
  have l2 := (blk_cell HF6.out.L 2).trans rfl
  have l3 := (blk_cell HF6.out.L 3).trans rfl
  have l4 := (blk_cell HF6.out.L 4).trans rfl
  have l5 := (blk_cell HF6.out.L 5).trans rfl
  go_wp2_with fail
  rw [rounds_succ]
  clear o0 o1
  go_upto_region 12 with (fail)
  have hb := below_alloc (Below.refl w6.heap.size w6) (.cells #[.bool true, .int .i64 1, .int .i64 0] 144)
  have o0 : (w6.alloc (.cells #[.bool true, .int .i64 1, .int .i64 0] 144)).cell? ⟨w6.heap.size, 0, none⟩ = some (.bool true) := by simp
  have o1 : (w6.alloc (.cells #[.bool true, .int .i64 1, .int .i64 0] 144)).cell? ⟨w6.heap.size, 1, none⟩ = some (.int .i64 1) := by simp
  have ob : ¬ w6.heap.size = g := by have := HF6.out.gn; have := HF6.out.gr.size; omega
  generalize w6.alloc (.cells #[.bool true, .int .i64 1, .int .i64 0] 144) = w7 at hb o0 o1 ⊢
  have HQ := Lib.hid (HF6.out.below hb)
  have HC := Lib.hid HQ.out.ck
  clear hb l0 l1 l2 l3 l4 l5
  obtain ⟨A0, c0, A1, c1, A2, c2, A3, c3, A5, c5, A6, c6, A10, c10, hgb, hgw, hs0, hs1, hs2, hs3, hs5, hs6, hs10⟩ := HC.out
  have k0 := PCa.cellS139_0 hgb
  have k1 := PCa.cellS139_1 hgb
  have k2 := PCa.cellS139_2 hgb
  have k3 := PCa.cellS139_3 hgb
  have k4 := PCa.cellS139_4 hgb
  have k5 := PCa.cellS139_5 hgb
  have k6 := PCa.cellS139_6 hgb
  have k7 := PCa.cellS139_7 hgb
  have k8 := PCa.cellS139_8 hgb
  have k9 := PCa.cellS139_9 hgb
  have k10 := PCa.cellS139_10 hgb
  have k11 := PCa.cellS139_11 hgb
  have f4 := blk_frozen hgb 4
  have f5 := blk_frozen hgb 5
  have f6 := blk_frozen hgb 6
  have f7 := blk_frozen hgb 7
  have f8 := blk_frozen hgb 8
  have f9 := blk_frozen hgb 9
  have f10 := blk_frozen hgb 10
  have f11 := blk_frozen hgb 11
  have el : insL.length = 2 := rfl
  obtain ⟨ad, hA', a0, a1, a2, a3, a4, a5⟩ := insL_at (Kd.C_below hs10 HQ.out.hw)
  subst hA'
  rw [el] at k10
  clear el
  go_wp2_with fail
  refine (Hm1.out w7 HQ.out.ck HQ.out.hw).mono ?_
  rintro e1 w8 ⟨rfl, hc, hb, hk⟩
  have HF8 := Lib.hid (HQ.out.keep hk hb hc)
  replace o0 := cell_k hk ob o0
  replace o1 := cell_k hk ob o1
  clear k0 k1 k2 k3 k4 k5 k6 k7 k8 k9 k10 k11 f4 f5 f6 f7 f8 f9 f10 f11 hgb hgw hs0 hs1 hs2 hs3 hs5 hs6 hs10
  clear a0 a1 a2 a3 a4 a5 HC HQ hc hb hk ob HF6
  have l0 := (blk_cell HF8.out.L 0).trans rfl
  have l1 := (blk_cell HF8.out.L 1).trans rfl
  have l2 := (blk_cell HF8.out.L 2).trans rfl
  have l3 := (blk_cell HF8.out.L 3).trans rfl
  have l4 := (blk_cell HF8.out.L 4).trans rfl
  have l5 := (blk_cell HF8.out.L 5).trans rfl
  go_wp2_with fail
  rw [rounds_succ]
  go_wp2_with fail
  go_ret2
  exact ⟨rfl, HBB.out.1.trans (below_grownC HF8.out.gr HBB.out.2 HBB.out.1.size)⟩
end Go.Proofs.YtibbcfeaododhaaGreatDoor
