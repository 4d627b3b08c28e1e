/-
  heddleref02: rest, lists, Order, Compare, Equal. heddleref02: rest. heddleref02: lists, Order. heddleref02: Order, Compare, Equal. The walk of TermCompares. A term handed in: its reading opened. heddleref02.Same: two terms are the same just where they are equal.
-/
import Derived.Test.YtgapeacflkfmdaaGreatDoorG7
import Derived.Test.YtgapeacflkfmdaaGreatDoorG4
import Derived.Test.YtgapeacflkfmdaaGreatDoorG8
import Derived.Test.YtgapeacflkfmdaaGreatDoorG1
import Derived.Test.YtgapeacflkfmdaaGreatDoorG6
import Derived.Lib.SmallJoins
import Derived.Deep.Slices
import Derived.Test.YtgapeacflkfmdaaGreatDoorG3
import Derived.Test.YtgapeacflkfmdaaGreatDoorKPSex1
set_option linter.unusedSimpArgs false
namespace Go.Proofs.YtgapeacflkfmdaaGreatDoor
open Go.RowKit Go.Sort Go.Proofs.YtgapeacflkfmdaaGreatDoorW.PrintWords

theorem ordP_drop {us vs : List Tm} {i : Nat} (h1 : i < us.length) (h2 : i < vs.length) : ordP (us.drop i) (vs.drop i) = orI (ordT us[i] vs[i]) (ordP (us.drop (i + 1)) (vs.drop (i + 1))) := by
  rw [List.drop_eq_getElem_cons h1, List.drop_eq_getElem_cons h2, ordP]
set_option maxRecDepth 100000 in
set_option maxHeartbeats 8000000 in
theorem orderR_five (a b : Tm) (A4 A5 B4 B5 : Option Addr) (c4 c5 d4 d5 : Nat) (w : World) (hk : a.kd = b.kd) (k1 : a.kd = 5) (hT : TmR w a A4 c4 A5 c5) (hU : TmR w b B4 d4 B5 d5) (hI : ∀ x ∈ a.args, OrdRSays x) (ha : okT a = true) (hb : okT b = true) (hia : inT a = true) (hib : inT b = true) :
    Calls Tryz.prog 57 #[tmV a (.slice A4 a.nums.length c4) (.slice A5 a.args.length c5), tmV b (.slice B4 b.nums.length d4) (.slice B5 b.args.length d5)] w (OrdPost w (ordT a b)) := by
  rw [ordT_eq, if_neg (by simp [hk]), if_neg (by omega), if_neg (by omega), if_neg (by omega), if_pos k1]
  have HTU := Lib.hid (And.intro hT hU)
  have HI := Lib.hid hI
  have HOA := Lib.hid (ok_args ha)
  have HOB := Lib.hid (ok_args hb)
  have HNA := Lib.hid ((inL_iff _).1 (in_args hia))
  have HNB := Lib.hid ((inL_iff _).1 (in_args hib))
  obtain ⟨R, hR⟩ : ∃ R, R = orI (cmpI a.args.length b.args.length) (ordP a.args b.args) := ⟨_, rfl⟩
  rw [← hR]
  have HR0 := Lib.hid hR
  clear hT hU hI ha hb hia hib hR
  have d0 : (a.kd != b.kd) = false := by simp [hk]
  have e1 : (a.kd == 1) = decide ((5 : Int) = 1) := by rw [k1]; rfl
  have e2 : (a.kd == 2) = decide ((5 : Int) = 2) := by rw [k1]; rfl
  have e3 : (a.kd == 3) = decide ((5 : Int) = 3) := by rw [k1]; rfl
  have e4 : (a.kd == 4) = decide ((5 : Int) = 4) := by rw [k1]; rfl
  have e5 : (a.kd == 5) = decide ((5 : Int) = 5) := by rw [k1]; rfl
  have e7 : (a.kd == 7) = decide ((5 : Int) = 7) := by rw [k1]; rfl
  simp only [Int.reduceEq, decide_true, decide_false] at e1 e2 e3 e4 e5 e7
  clear hk k1
  obtain ⟨w1, hw1, hTa, hTb, hB1⟩ := two_boxes w a b (.slice A4 a.nums.length c4) (.slice A5 a.args.length c5) (.slice B4 b.nums.length d4) (.slice B5 b.args.length d5)
  unfold tmV
  go_enter Tryz.func57, Tryz.ntmps57
  go_upto_region 1 with (fail)
  rw [← hw1]
  have hsz1 : w.heap.size + 1 < w1.heap.size := hTb.lt
  clear hw1
  have HTa := Lib.hid hTa
  have HTb := Lib.hid hTb
  have HB1 := Lib.hid hB1
  clear hTa hTb hB1
  have a0 := HTa.out.c0
  have b0 := HTb.out.c0
  have a5 := HTa.out.c5
  have b5 := HTb.out.c5
  go_wp2_with fail
  refine (ref_cmp _ _ _).mono ?_
  rintro e w2 ⟨rfl, rfl⟩
  clear a0 b0 a5 b5
  go_wp2_with fail
  go_loopg [7, 8] (a.args.length + 1) (fun gk v7 v8 wl => ∃ (i : Nat) (c : Int), v7 = .int .i64 c ∧ v8 = .int .i64 (i : Int) ∧ gk = a.args.length + 1 - i ∧ i ≤ a.args.length ∧ Hid (R = orI c (ordP (a.args.drop i) (b.args.drop i))) ∧ Hid (c = 0 → a.args.length = b.args.length) ∧ Hid (Below w1.heap.size w1 wl))
  case atStart => exact ⟨0, _, rfl, rfl, rfl, Nat.zero_le _, HR0, Lib.hid (fun h => by rw [cmpI_zero] at h; omega), Lib.hid (Below.refl _ _)⟩
  case round =>
    clear HR0
    obtain ⟨i, c, rfl, rfl, hgk, hi, HR, HL, HB⟩ := hrel
    have HK := Lib.hid hgk
    clear hgk
    have HTa3 := Lib.hid (HTa.out.below HB.out HTa.out.lt)
    have HTb3 := Lib.hid (HTb.out.below HB.out HTb.out.lt)
    have HBW := Lib.hid (trans_below HB1.out HB.out)
    have a5 := HTa3.out.c5
    have b5 := HTb3.out.c5
    by_cases hz : c = 0
    · have hll := HL.out hz
      subst hz
      by_cases hlt : i < a.args.length
      · have hlt2 : i < b.args.length := by omega
        have hRn := HR.out
        rw [ordP_drop hlt hlt2, ← (rdTm_mem hlt).1, ← (rdTm_mem hlt2).1] at hRn
        have hma := (rdTm_mem hlt).2
        have hmb := (rdTm_mem hlt2).2
        have HRN : Hid (R = orI (ordT (rdTm a.args (i : Int)) (rdTm b.args (i : Int))) (ordP (a.args.drop (i + 1)) (b.args.drop (i + 1)))) := Lib.hid (by rw [hRn]; rfl)
        obtain ⟨ad, E4, e4, E5, e5, rfl, x0, x1, x2, x3, x4, x5, hX⟩ := atTm (HTU.out.1.below HBW.out).g5 (i : Int) (by omega) (by omega)
        obtain ⟨bd, F4, f4, F5, f5, rfl, z0, z1, z2, z3, z4, z5, hZ⟩ := atTm (HTU.out.2.below HBW.out).g5 (i : Int) (by omega) (by omega)
        simp only [Int.toNat_natCast] at x0 x1 x2 x3 x4 x5 z0 z1 z2 z3 z4 z5
        have HX := Lib.hid (HI.out _ hma)
        have HXO := Lib.hid (And.intro (okL_mem HOA.out hma) (And.intro (okL_mem HOB.out hmb) (And.intro (HNA.out _ hma) (HNB.out _ hmb))))
        generalize rdTm a.args (i : Int) = x at x0 x1 x2 x3 x4 x5 hX HRN HX HXO
        generalize rdTm b.args (i : Int) = y at z0 z1 z2 z3 z4 z5 hZ HRN HXO
        have HCC := Lib.hid fun dd os => calls_grow (w := wr) (f := 57) (args := #[tmV x (.slice E4 x.nums.length e4) (.slice E5 x.args.length e5), tmV y (.slice F4 y.nums.length f4) (.slice F5 y.args.length f5)]) (r := ordT x y) (fun W hW => HX.out y E4 E5 F4 F5 e4 e5 f4 f5 W (hX.below hW) (hZ.below hW) HXO.out.1 HXO.out.2.1 HXO.out.2.2.1 HXO.out.2.2.2) dd os
        unfold tmV at HCC
        have y0 : (0 : Int) ≤ (i : Int) := by omega
        have y1 : (i : Int) < (a.args.length : Int) := by omega
        have y2 : (i : Int) < (b.args.length : Int) := by omega
        have hm : a.args.length ≤ 9223372036854775807 := HTU.out.1.g5.2.1
        have HLL := Lib.hid hll
        have g5 := cell_regrown a5
        have h5 := cell_regrown b5
        have k0 := cell_regrown x0
        have k1 := cell_regrown x1
        have k2 := cell_regrown x2
        have k3 := cell_regrown x3
        have k4 := cell_regrown x4
        have k5 := cell_regrown x5
        have q0 := cell_regrown z0
        have q1 := cell_regrown z1
        have q2 := cell_regrown z2
        have q3 := cell_regrown z3
        have q4 := cell_regrown z4
        have q5 := cell_regrown z5
        clear x0 x1 x2 x3 x4 x5 z0 z1 z2 z3 z4 z5 hX hZ hRn hma hmb hll HR HL
        go_wp2_with fail
        refine wp_region_quiet_below (by kernel_rfl) (by kernel_rfl) ?_
        repeat (go_big_quiet_step ((with_reducible exact HCC.out _ _)))
        refine wpQuiet_nil ?_
        intro _ hw'
        obtain ⟨⟨dq, osq⟩, hw''⟩ := hw'
        subst hw''
        have hwq := below_regrown wr dq osq
        generalize grow (redrawn wr dq) osq = wq at hwq ⊢
        have HB2 := Lib.hid (trans_below HB.out hwq)
        clear g5 h5 k0 k1 k2 k3 k4 k5 q0 q1 q2 q3 q4 q5 HCC HX HXO hwq a5 b5
        go_wp2_with fail
        go_roundg (a.args.length + 1 - (i + 1))
        case measure => rw [HK.out]; omega
        case rel => exact ⟨i + 1, _, rfl, by go_num, rfl, by omega, HRN, Lib.hid (fun _ => HLL.out), HB2⟩
      · have d9 : decide ((i : Int) < (a.args.length : Int)) = false := decide_eq_false (by omega)
        have HRN : Hid (R = 0) := Lib.hid (by
          rw [HR.out, List.drop_of_length_le (by omega), List.drop_of_length_le (by omega), ordP]
          rfl)
        clear hll
        go_wp2_with fail
        go_ret
        rw [HRN.out]
        exact ⟨rfl, HBW.out⟩
    · have dz : (c == 0) = false := beq_eq_false_iff_ne.2 hz
      have HRN : Hid (R = c) := Lib.hid (by rw [HR.out]; unfold orI; rw [if_neg hz])
      clear hz
      by_cases hlt : i < a.args.length
      · go_wp2_with fail
        go_ret
        rw [HRN.out]
        exact ⟨rfl, HBW.out⟩
      · have d9 : decide ((i : Int) < (a.args.length : Int)) = false := decide_eq_false (by omega)
        go_wp2_with fail
        go_ret
        rw [HRN.out]
        exact ⟨rfl, HBW.out⟩
end Go.Proofs.YtgapeacflkfmdaaGreatDoor
set_option linter.unusedSimpArgs false
namespace Go.Proofs.YtgapeacflkfmdaaGreatDoor
open Go.RowKit Go.Sort Go.Proofs.YtgapeacflkfmdaaGreatDoorW.PrintWords

theorem leftT_two {l : List Tm} (h : l.length = 2) : leftT (l.drop 1) = rdTm l 1 := by
  match l, h with
  | [a, b], _ => rfl
theorem leftT_more {l : List Tm} (h : 2 < l.length) : leftT (l.drop 1) = ⟨7, 0, ⟨#[]⟩, 0, [], l.drop 1⟩ := by
  unfold leftT
  rw [if_neg (by rw [List.length_drop]; omega)]
/-- What lists' end answers: the term reads in the earlier world. -/
def RestPost (w0 w : World) (z : Tm) (e : Ending) (w' : World) : Prop := ∃ A4 c4 A5 c5, e = .returned (tmV z (.slice A4 z.nums.length c4) (.slice A5 z.args.length c5)) ∧ TmR w0 z A4 c4 A5 c5 ∧ Below w.heap.size w w'
set_option maxRecDepth 100000 in
set_option maxHeartbeats 2000000 in
theorem ref_rest (w0 w : World) (t : Tm) (A4 A5 : Option Addr) (c4 c5 : Nat) (h0 : Below w0.heap.size w0 w) (hT : TmR w0 t A4 c4 A5 c5) (h2 : 2 ≤ t.args.length) :
    Calls Tryz.prog 164 #[tmV t (.slice A4 t.nums.length c4) (.slice A5 t.args.length c5)] w (RestPost w0 w (leftT (t.args.drop 1))) := by
  obtain ⟨z, hz⟩ : ∃ z, z = leftT (t.args.drop 1) := ⟨_, rfl⟩
  rw [← hz]
  have HZ := Lib.hid hz
  clear hz
  have ht1 := TmAt.new w t (.slice A4 t.nums.length c4) (.slice A5 t.args.length c5)
  have hb1 := below_alloc (Below.refl w.heap.size w) (.cells #[.int .i64 t.kd, .int .i64 t.it, .string t.tx, .int .u32 t.cr, .slice A4 t.nums.length c4, .slice A5 t.args.length c5] 27)
  have s1 : (w.alloc (.cells #[.int .i64 t.kd, .int .i64 t.it, .string t.tx, .int .u32 t.cr, .slice A4 t.nums.length c4, .slice A5 t.args.length c5] 27)).heap.size = w.heap.size + 1 := by simp
  obtain ⟨w1, hw1⟩ : ∃ W, W = w.alloc (.cells #[.int .i64 t.kd, .int .i64 t.it, .string t.tx, .int .u32 t.cr, .slice A4 t.nums.length c4, .slice A5 t.args.length c5] 27) := ⟨_, rfl⟩
  rw [← hw1] at ht1 hb1 s1
  have ht2 := TmAt.new w1 zTm vNone vNone
  have hb2 := below_alloc (Below.refl w1.heap.size w1) (.cells #[.int .i64 zTm.kd, .int .i64 zTm.it, .string zTm.tx, .int .u32 zTm.cr, vNone, vNone] 27)
  obtain ⟨w2, hw2⟩ : ∃ W, W = w1.alloc (.cells #[.int .i64 zTm.kd, .int .i64 zTm.it, .string zTm.tx, .int .u32 zTm.cr, vNone, vNone] 27) := ⟨_, rfl⟩
  rw [← hw2] at ht2 hb2
  have ht1' := ht1.below hb2 ht1.lt
  rw [s1] at ht2
  have HT1 := Lib.hid ht1'
  have HT2 := Lib.hid ht2
  have HB := Lib.hid (trans_below hb1 hb2)
  have HB0 := Lib.hid (trans_below h0 HB.out)
  have HT := Lib.hid hT
  have H2 := Lib.hid h2
  clear ht1 ht2 hb1 hb2 ht1' hT s1
  unfold tmV
  go_enter Tryz.func164, Tryz.ntmps164
  go_upto_region 1 with (fail)
  rw [← hw1]
  simp only [zTm, vNone] at hw2
  rw [← hw2]
  clear hw1 hw2
  have t5 := HT1.out.c5
  have hpb := fun (x : Tm) (v4 v5 : Value) => HB.out.trans (put6_below (n := w.heap.size) (W := w2) (b := w.heap.size + 1) (by omega) (.int .i64 x.kd) (.int .i64 x.it) (.string x.tx) (.int .u32 x.cr) v4 v5)
  have HPB := Lib.hid hpb
  clear hpb
  by_cases he : t.args.length = 2
  · have d1 : ((t.args.length : Int) == 2) = true := beq_iff_eq.2 (by omega)
    have HZ2 := Lib.hid (HZ.out.trans (leftT_two he))
    obtain ⟨ad, E4, e4, E5, e5, rfl, x0, x1, x2, x3, x4, x5, hX⟩ := atTm HT.out.g5 1 (by decide) (by omega)
    have e6 : ad.add 6 = ⟨ad.block, ad.off + 6, none⟩ := by simp [Addr.add]
    simp only [show (1 : Int).toNat = 1 from rfl, Nat.one_mul, e6] at x0 x1 x2 x3 x4 x5
    clear e6
    generalize rdTm t.args 1 = x at x0 x1 x2 x3 x4 x5 hX HZ2
    replace x0 := (HB0.out.cell (World.block_lt_of_cell? w0 _ x0)).trans x0
    replace x1 := (HB0.out.cell (World.block_lt_of_cell? w0 _ x1)).trans x1
    replace x2 := (HB0.out.cell (World.block_lt_of_cell? w0 _ x2)).trans x2
    replace x3 := (HB0.out.cell (World.block_lt_of_cell? w0 _ x3)).trans x3
    replace x4 := (HB0.out.cell (World.block_lt_of_cell? w0 _ x4)).trans x4
    replace x5 := (HB0.out.cell (World.block_lt_of_cell? w0 _ x5)).trans x5
    have HX := Lib.hid hX
    have y1 : (1 : Int) < (t.args.length : Int) := by omega
    clear hX he h2
    obtain ⟨_, _, _, _, _, _, f0, f1, f2, f3, f4, f5⟩ := HT2.out
    go_wp2_with fail
    refine bodyPost_ret (resTm rfl _ _ (w.heap.size + 1) x _ _ (by rfl) (HT2.out.put x _ _)) rfl ?_
    rw [HZ2.out]
    exact ⟨E4, e4, E5, e5, rfl, HX.out, HPB.out x _ _⟩
  · have d1 : ((t.args.length : Int) == 2) = false := beq_eq_false_iff_ne.2 (by omega)
    have HZ2 := Lib.hid (HZ.out.trans (leftT_more (by omega)))
    obtain ⟨ad, rfl⟩ : ∃ ad, A5 = some ad := by obtain ⟨ad, e, _⟩ := HT.out.g5.2.2 (by omega); exact ⟨ad, e⟩
    have y1 : (1 : Int) ≤ (t.args.length : Int) := by omega
    have y2 : (t.args.length : Int) ≤ (c5 : Int) := by have := HT.out.l5; omega
    have y3 : (1 : Int) ≤ (c5 : Int) := by omega
    obtain ⟨_, _, _, _, _, _, f0, f1, f2, f3, f4, f5⟩ := HT2.out
    have y5 : ¬ c5 = 1 := by have := HT.out.l5; omega
    have HT7 : Hid (TmR w0 ⟨7, 0, ⟨#[]⟩, 0, [], t.args.drop 1⟩ none 0 (some ⟨ad.block, ad.off + 6, none⟩) (c5 - 1)) := by
      have h := Kd.C_drop HT.out.g5 (show 1 ≤ t.args.length by omega) HT.out.l5
      rw [if_neg y5] at h
      have e6 : ad.add 6 = ⟨ad.block, ad.off + 6, none⟩ := by simp [Addr.add]
      refine Lib.hid ⟨Nat.le_refl _, ⟨rfl, by simp, fun h => absurd h (Nat.lt_irrefl 0)⟩, by simp only [List.length_drop]; have := HT.out.l5; omega, ?_⟩
      rw [← e6]
      exact h
    clear he h2
    go_wp2_with fail
    refine bodyPost_ret (resTm rfl _ _ (w.heap.size + 1) ⟨7, 0, ⟨#[]⟩, 0, [], t.args.drop 1⟩ _ _ (by rfl) (HT2.out.put ⟨7, 0, ⟨#[]⟩, 0, [], t.args.drop 1⟩ _ _)) rfl ?_
    rw [HZ2.out]
    exact ⟨none, 0, _, c5 - 1, by rw [List.length_drop]; rfl, HT7.out, HPB.out ⟨7, 0, ⟨#[]⟩, 0, [], t.args.drop 1⟩ _ _⟩
end Go.Proofs.YtgapeacflkfmdaaGreatDoor
set_option linter.unusedSimpArgs false
namespace Go.Proofs.YtgapeacflkfmdaaGreatDoor
open Go.RowKit Go.Sort Go.Proofs.YtgapeacflkfmdaaGreatDoorW.PrintWords

/-- The term stands for what is left of a list. -/
def LeftIs (p : Tm) (l : List Tm) : Prop := (2 ≤ l.length ∧ p.kd = 7 ∧ p.args = l) ∨ l = [p]
theorem LeftIs.long {p : Tm} {l : List Tm} (h : LeftIs p l) (ht : tailOk l) (hk : p.kd = 7) : 2 ≤ l.length ∧ p.args = l := by
  rcases h with ⟨h1, _, h3⟩ | rfl
  · exact ⟨h1, h3⟩
  · exact absurd hk ht.one
theorem LeftIs.short {p : Tm} {l : List Tm} (h : LeftIs p l) (hk : p.kd ≠ 7) : l = [p] := by
  rcases h with ⟨_, h2, _⟩ | h
  · exact absurd h2 hk
  · exact h
theorem LeftIs.drop (l : List Tm) (h : 2 ≤ l.length) : LeftIs (leftT (l.drop 1)) (l.drop 1) := by
  unfold leftT
  split
  · rename_i h1
    right
    match l, h, h1 with
    | [a, b], _, _ => rfl
  · rename_i h1
    left
    refine ⟨?_, rfl, rfl⟩
    rw [List.length_drop] at h1 ⊢
    omega
/-- A box beside one that is written anew. -/
theorem TmAt.putFar {W : World} {b g : Nat} {t : Tm} {v4 v5 : Value} (h : TmAt W b t v4 v5) (hne : b ≠ g) (u0 u1 u2 u3 u4 u5 : Value) :
    TmAt ((((((W.setCell ⟨g, 0, none⟩ u0).setCell ⟨g, 1, none⟩ u1).setCell ⟨g, 2, none⟩ u2).setCell ⟨g, 3, none⟩ u3).setCell ⟨g, 4, none⟩ u4).setCell ⟨g, 5, none⟩ u5) b t v4 v5 :=
  (((((h.far hne 0 u0).far hne 1 u1).far hne 2 u2).far hne 3 u3).far hne 4 u4).far hne 5 u5
theorem left_orderR (l m : List Tm) (p q : Tm) (hp : LeftIs p l) (hq : LeftIs q m) (hI : ∀ x ∈ l, OrdRSays x) (hlo : okL l = true) (hmo : okL m = true) (hli : ∀ x ∈ l, inT x = true) (hmi : ∀ x ∈ m, inT x = true) (htl : tailOk l) (htm : tailOk m) (h : ¬ (p.kd = 7 ∧ q.kd = 7))
    (A4 A5 B4 B5 : Option Addr) (c4 c5 d4 d5 : Nat) (W : World) (hT : TmR W p A4 c4 A5 c5) (hU : TmR W q B4 d4 B5 d5) :
    Calls Tryz.prog 57 #[tmV p (.slice A4 p.nums.length c4) (.slice A5 p.args.length c5), tmV q (.slice B4 q.nums.length d4) (.slice B5 q.args.length d5)] W (OrdPost W (ordL l m)) := by
  by_cases h1 : p.kd = 7
  · have h2 : q.kd ≠ 7 := fun e => h ⟨h1, e⟩
    obtain ⟨hl, _⟩ := hp.long htl h1
    obtain rfl := hq.short h2
    have e : ordL l [q] = ordT p q := by
      match l, hl with
      | a :: x :: xs, _ => rw [ordL, ordT_eq, if_pos (by rw [h1]; exact fun e => h2 e.symm), h1]
    rw [e]
    exact orderR_ne _ _ A4 A5 B4 B5 c4 c5 d4 d5 W (by rw [h1]; exact fun e => h2 e.symm)
  · obtain rfl := hp.short h1
    by_cases h2 : q.kd = 7
    · obtain ⟨hl, _⟩ := hq.long htm h2
      have e : ordL [p] m = ordT p q := by
        match m, hl with
        | a :: x :: xs, _ => rw [ordL, ordT_eq, if_pos (by rw [h2]; exact h1), h2]
      rw [e]
      exact orderR_ne _ _ A4 A5 B4 B5 c4 c5 d4 d5 W (by rw [h2]; exact h1)
    · obtain rfl := hq.short h2
      rw [ordL]
      exact hI p (by simp) q A4 A5 B4 B5 c4 c5 d4 d5 W hT hU (okL_mem hlo (by simp)) (okL_mem hmo (by simp)) (hli p (by simp)) (hmi q (by simp))
/-- Where the loop of lists stands. -/
structure LstAt (w W : World) (R : Int) (l m : List Tm) (p q : Tm) (A4 A5 B4 B5 : Option Addr) (c4 c5 d4 d5 : Nat) : Prop where
  ho : ordL l m = R
  hp : LeftIs p l
  hq : LeftIs q m
  hT : TmR w p A4 c4 A5 c5
  hU : TmR w q B4 d4 B5 d5
  hI : ∀ x ∈ l, OrdRSays x
  hlo : okL l = true
  hmo : okL m = true
  hli : ∀ x ∈ l, inT x = true
  hmi : ∀ x ∈ m, inT x = true
  htl : tailOk l
  htm : tailOk m
  hA : TmAt W w.heap.size p (.slice A4 p.nums.length c4) (.slice A5 p.args.length c5)
  hB : TmAt W (w.heap.size + 1) q (.slice B4 q.nums.length d4) (.slice B5 q.args.length d5)
  hW : Below w.heap.size w W
set_option maxRecDepth 100000 in
set_option maxHeartbeats 1000000 in
theorem ref_lists (a b : Tm) (A4 A5 B4 B5 : Option Addr) (c4 c5 d4 d5 : Nat) (w : World) (hT : TmR w a A4 c4 A5 c5) (hU : TmR w b B4 d4 B5 d5) (ka : a.kd = 7) (kb : b.kd = 7) (hI : ∀ x ∈ a.args, OrdRSays x) (ha : okT a = true) (hb : okT b = true) (hia : inT a = true) (hib : inT b = true) :
    Calls Tryz.prog 110 #[tmV a (.slice A4 a.nums.length c4) (.slice A5 a.args.length c5), tmV b (.slice B4 b.nums.length d4) (.slice B5 b.args.length d5)] w (OrdPost w (ordL a.args b.args)) := by
  obtain ⟨w1, hw1, hTa, hTb, hB1⟩ := two_boxes w a b (.slice A4 a.nums.length c4) (.slice A5 a.args.length c5) (.slice B4 b.nums.length d4) (.slice B5 b.args.length d5)
  obtain ⟨R, hR⟩ : ∃ R, R = ordL a.args b.args := ⟨_, rfl⟩
  rw [← hR]
  have HS : Hid (LstAt w w1 R a.args b.args a b A4 A5 B4 B5 c4 c5 d4 d5) := Lib.hid ⟨hR.symm, .inl ⟨(shape_list ha ka).1, ka, rfl⟩, .inl ⟨(shape_list hb kb).1, kb, rfl⟩, hT, hU, hI, ok_args ha, ok_args hb, (inL_iff _).1 (in_args hia), (inL_iff _).1 (in_args hib), tail_of ha ka, tail_of hb kb, hTa, hTb, hB1⟩
  clear hR hT hU ka kb hI ha hb hia hib hTa hTb hB1
  unfold tmV
  go_enter Tryz.func110, Tryz.ntmps110
  go_upto_region 1 with (fail)
  rw [← hw1]
  clear hw1
  go_loopg [4] a.args.length (fun gk v4 wl => ∃ (l m : List Tm) (p q : Tm) (A4 A5 B4 B5 : Option Addr) (c4 c5 d4 d5 : Nat), v4 = .int .i64 0 ∧ gk = l.length ∧ Hid (LstAt w wl R l m p q A4 A5 B4 B5 c4 c5 d4 d5))
  case atStart => exact ⟨a.args, b.args, a, b, A4, A5, B4, B5, c4, c5, d4, d5, rfl, rfl, HS⟩
  case round =>
    clear HS
    obtain ⟨l, m, p, q, A4, A5, B4, B5, c4, c5, d4, d5, rfl, hgk, S⟩ := hrel
    have HK := Lib.hid hgk
    clear hgk
    by_cases h1 : p.kd = 7
    · have e1 : (p.kd == 7) = true := beq_iff_eq.2 h1
      by_cases h2 : q.kd = 7
      · have e2 : (q.kd == 7) = true := beq_iff_eq.2 h2
        obtain ⟨hl, hpa⟩ := S.out.hp.long S.out.htl h1
        obtain ⟨hm, hqa⟩ := S.out.hq.long S.out.htm h2
        subst hpa hqa
        clear h1 h2
        have ho := S.out.ho
        rw [ordL_step (by omega) (by omega)] at ho
        obtain ⟨ad, E4, k4, E5, k5, rfl, x0, x1, x2, x3, x4, x5, hX⟩ := atTm (S.out.hT.below S.out.hW).g5 0 (by decide) (by omega)
        obtain ⟨bd, F4, m4, F5, m5, rfl, z0, z1, z2, z3, z4, z5, hZ⟩ := atTm (S.out.hU.below S.out.hW).g5 0 (by decide) (by omega)
        have ez : ad.add 0 = ad := by simp [Addr.add]
        have ey : bd.add 0 = bd := by simp [Addr.add]
        simp only [Int.toNat_zero, Nat.zero_mul, ez, ey] at x0 x1 x2 x3 x4 x5 z0 z1 z2 z3 z4 z5
        have hxm : rdTm p.args 0 ∈ p.args := (rdTm_mem (l := p.args) (k := 0) (by omega)).2
        have hym : rdTm q.args 0 ∈ q.args := (rdTm_mem (l := q.args) (k := 0) (by omega)).2
        have HX := Lib.hid (S.out.hI _ hxm)
        have HXO := Lib.hid (And.intro (okL_mem S.out.hlo hxm) (And.intro (okL_mem S.out.hmo hym) (And.intro (S.out.hli _ hxm) (S.out.hmi _ hym))))
        clear ez ey hxm hym
        generalize rdTm p.args 0 = x at x0 x1 x2 x3 x4 x5 hX HX HXO ho
        generalize rdTm q.args 0 = y at z0 z1 z2 z3 z4 z5 hZ HXO ho
        have HCC := Lib.hid fun dd os => calls_grow (w := wr) (f := 57) (args := #[tmV x (.slice E4 x.nums.length k4) (.slice E5 x.args.length k5), tmV y (.slice F4 y.nums.length m4) (.slice F5 y.args.length m5)]) (r := ordT x y) (fun W hW => HX.out y E4 E5 F4 F5 k4 k5 m4 m5 W (hX.below hW) (hZ.below hW) HXO.out.1 HXO.out.2.1 HXO.out.2.2.1 HXO.out.2.2.2) dd os
        unfold tmV at HCC
        have HO := Lib.hid ho
        have y0 : (0 : Int) < (p.args.length : Int) := by omega
        have y1 : (0 : Int) < (q.args.length : Int) := by omega
        have HN := Lib.hid (And.intro hl hm)
        have a0 := S.out.hA.c0
        have b0 := S.out.hB.c0
        have g5 := cell_regrown S.out.hA.c5
        have h5 := cell_regrown S.out.hB.c5
        have r0 := cell_regrown x0
        have r1 := cell_regrown x1
        have r2 := cell_regrown x2
        have r3 := cell_regrown x3
        have r4 := cell_regrown x4
        have r5 := cell_regrown x5
        have q0 := cell_regrown z0
        have q1 := cell_regrown z1
        have q2 := cell_regrown z2
        have q3 := cell_regrown z3
        have q4 := cell_regrown z4
        have q5 := cell_regrown z5
        clear x0 x1 x2 x3 x4 x5 z0 z1 z2 z3 z4 z5 hX hZ ho hl hm
        go_wp2_with fail
        refine wp_region_quiet_below (by kernel_rfl) (by kernel_rfl) ?_
        repeat (go_big_quiet_step ((with_reducible exact HCC.out _ _)))
        refine wpQuiet_nil ?_
        intro _ hw'
        obtain ⟨⟨dq, osq⟩, hw''⟩ := hw'
        subst hw''
        have hwq := below_regrown wr dq osq
        generalize grow (redrawn wr dq) osq = wq at hwq ⊢
        have HWQ : Hid (Below w.heap.size w wq) := Lib.hid (trans_below S.out.hW hwq)
        have HAQ := Lib.hid (S.out.hA.below hwq S.out.hA.lt)
        have HBQ := Lib.hid (S.out.hB.below hwq S.out.hB.lt)
        have ho := HO.out
        clear g5 h5 r0 r1 r2 r3 r4 r5 q0 q1 q2 q3 q4 q5 HO HCC HXO HX hwq a0 b0
        generalize ordT x y = z at ho ⊢
        unfold orI at ho
        by_cases hz : z = 0
        · have d3 : (z != 0) = false := by simp [hz]
          rw [if_pos hz] at ho
          have HR1 := Lib.hid (ref_rest w wq p A4 (some ad) c4 c5 HWQ.out S.out.hT HN.out.1)
          unfold tmV at HR1
          have HO := Lib.hid ho
          clear hz ho
          obtain ⟨a0, a1, a2, a3, a4, a5, _, _, _, _, _, _⟩ := HAQ.out
          go_wp2_with fail
          with_reducible refine (HR1.out).mono ?_
          have HL1 := Lib.hid (LeftIs.drop p.args HN.out.1)
          generalize leftT (p.args.drop 1) = t1 at HL1 ⊢
          rintro e W1 ⟨E4, k4, E5, k5, rfl, hT1, hb1⟩
          have HT1 := Lib.hid hT1
          have HA1 := Lib.hid ((HAQ.out.below hb1 HAQ.out.lt).put t1 (.slice E4 t1.nums.length k4) (.slice E5 t1.args.length k5))
          have HB1 := Lib.hid ((HBQ.out.below hb1 HBQ.out.lt).putFar (show w.heap.size + 1 ≠ w.heap.size by omega) (.int .i64 t1.kd) (.int .i64 t1.it) (.string t1.tx) (.int .u32 t1.cr) (.slice E4 t1.nums.length k4) (.slice E5 t1.args.length k5))
          have HW1 := Lib.hid ((trans_below HWQ.out hb1).trans (put6_below (n := w.heap.size) (W := W1) (b := w.heap.size) (Nat.le_refl _) (.int .i64 t1.kd) (.int .i64 t1.it) (.string t1.tx) (.int .u32 t1.cr) (.slice E4 t1.nums.length k4) (.slice E5 t1.args.length k5)))
          obtain ⟨_, _, _, _, _, _, f0, f1, f2, f3, f4, f5⟩ := HAQ.out.below hb1 HAQ.out.lt
          clear hT1 hb1 a0 a1 a2 a3 a4 a5 HAQ HBQ HWQ HR1
          obtain ⟨W2, hW2⟩ : ∃ W, W = ((((((W1.setCell ⟨w.heap.size, 0, none⟩ (.int .i64 t1.kd)).setCell ⟨w.heap.size, 1, none⟩ (.int .i64 t1.it)).setCell ⟨w.heap.size, 2, none⟩ (.string t1.tx)).setCell ⟨w.heap.size, 3, none⟩ (.int .u32 t1.cr)).setCell ⟨w.heap.size, 4, none⟩ (.slice E4 t1.nums.length k4)).setCell ⟨w.heap.size, 5, none⟩ (.slice E5 t1.args.length k5)) := ⟨_, rfl⟩
          rw [← hW2] at HA1 HB1 HW1
          unfold tmV
          go_upto_region 6 with (fail)
          rw [← hW2]
          clear hW2 f0 f1 f2 f3 f4 f5
          obtain ⟨b0, b1, b2, b3, b4, b5, _, _, _, _, _, _⟩ := HB1.out
          have HR2 := Lib.hid (ref_rest w W2 q B4 (some bd) d4 d5 HW1.out S.out.hU HN.out.2)
          unfold tmV at HR2
          have HL2 := Lib.hid (LeftIs.drop q.args HN.out.2)
          go_wp2_with fail
          with_reducible refine (HR2.out).mono ?_
          generalize leftT (q.args.drop 1) = t2 at HL2 ⊢
          rintro e W3 ⟨F4, m4, F5, m5, rfl, hT2, hb2⟩
          have HT2 := Lib.hid hT2
          have HB3 := Lib.hid ((HB1.out.below hb2 HB1.out.lt).put t2 (.slice F4 t2.nums.length m4) (.slice F5 t2.args.length m5))
          have HA3 := Lib.hid ((HA1.out.below hb2 HA1.out.lt).putFar (show w.heap.size ≠ w.heap.size + 1 by omega) (.int .i64 t2.kd) (.int .i64 t2.it) (.string t2.tx) (.int .u32 t2.cr) (.slice F4 t2.nums.length m4) (.slice F5 t2.args.length m5))
          have HW3 := Lib.hid ((trans_below HW1.out hb2).trans (put6_below (n := w.heap.size) (W := W3) (b := w.heap.size + 1) (by omega) (.int .i64 t2.kd) (.int .i64 t2.it) (.string t2.tx) (.int .u32 t2.cr) (.slice F4 t2.nums.length m4) (.slice F5 t2.args.length m5)))
          obtain ⟨_, _, _, _, _, _, f0, f1, f2, f3, f4, f5⟩ := HB1.out.below hb2 HB1.out.lt
          clear hT2 hb2 b0 b1 b2 b3 b4 b5 HA1 HB1 HW1 HR2
          unfold tmV
          go_wp2_with fail
          go_roundg (p.args.length - 1)
          case measure => rw [HK.out]; have := HN.out.1; omega
          case rel => exact ⟨p.args.drop 1, q.args.drop 1, t1, t2, E4, E5, F4, F5, k4, k5, m4, m5, rfl, by rw [List.length_drop], Lib.hid ⟨HO.out, HL1.out, HL2.out, HT1.out, HT2.out, fun x hx => S.out.hI x (List.mem_of_mem_drop hx), okL_drop S.out.hlo, okL_drop S.out.hmo, fun x hx => S.out.hli x (List.mem_of_mem_drop hx), fun x hx => S.out.hmi x (List.mem_of_mem_drop hx), S.out.htl.drop (by have := HN.out.1; omega), S.out.htm.drop (by have := HN.out.2; omega), HA3.out, HB3.out, HW3.out⟩⟩
        · have d3 : (z != 0) = true := bne_iff_ne.2 hz
          rw [if_neg hz] at ho
          subst ho
          go_wp2_with fail
          go_ret
          exact ⟨rfl, HWQ.out⟩
      · have e2 : (q.kd == 7) = false := beq_eq_false_iff_ne.2 h2
        have hkk : ¬ (p.kd = 7 ∧ q.kd = 7) := fun h => h2 h.2
        clear h1 h2
        have HT := Lib.hid (left_orderR l m p q S.out.hp S.out.hq S.out.hI S.out.hlo S.out.hmo S.out.hli S.out.hmi S.out.htl S.out.htm hkk A4 A5 B4 B5 c4 c5 d4 d5 wr (S.out.hT.below S.out.hW) (S.out.hU.below S.out.hW))
        rw [S.out.ho] at HT
        obtain ⟨a0, a1, a2, a3, a4, a5, _, _, _, _, _, _⟩ := S.out.hA
        obtain ⟨b0, b1, b2, b3, b4, b5, _, _, _, _, _, _⟩ := S.out.hB
        unfold tmV at HT
        clear hkk
        go_wp2_with fail
        with_reducible refine (HT.out).mono ?_
        rintro e W3 ⟨rfl, hb3⟩
        have HB3 : Hid (Below w.heap.size w W3) := Lib.hid (trans_below S.out.hW hb3)
        clear hb3 a0 a1 a2 a3 a4 a5 b0 b1 b2 b3 b4 b5
        go_wp2_with fail
        go_ret
        exact ⟨rfl, HB3.out⟩
    · have e1 : (p.kd == 7) = false := beq_eq_false_iff_ne.2 h1
      have hkk : ¬ (p.kd = 7 ∧ q.kd = 7) := fun h => h1 h.1
      clear h1
      have HT := Lib.hid (left_orderR l m p q S.out.hp S.out.hq S.out.hI S.out.hlo S.out.hmo S.out.hli S.out.hmi S.out.htl S.out.htm hkk A4 A5 B4 B5 c4 c5 d4 d5 wr (S.out.hT.below S.out.hW) (S.out.hU.below S.out.hW))
      rw [S.out.ho] at HT
      obtain ⟨a0, a1, a2, a3, a4, a5, _, _, _, _, _, _⟩ := S.out.hA
      obtain ⟨b0, b1, b2, b3, b4, b5, _, _, _, _, _, _⟩ := S.out.hB
      unfold tmV at HT
      clear hkk
      go_wp2_with fail
      with_reducible refine (HT.out).mono ?_
      rintro e W3 ⟨rfl, hb3⟩
      have HB3 : Hid (Below w.heap.size w W3) := Lib.hid (trans_below S.out.hW hb3)
      clear hb3 a0 a1 a2 a3 a4 a5 b0 b1 b2 b3 b4 b5
      go_wp2_with fail
      go_ret
      exact ⟨rfl, HB3.out⟩
set_option maxRecDepth 100000 in
theorem orderR_seven (a b : Tm) (A4 A5 B4 B5 : Option Addr) (c4 c5 d4 d5 : Nat) (w : World) (hk : a.kd = b.kd) (k1 : a.kd = 7) (hT : TmR w a A4 c4 A5 c5) (hU : TmR w b B4 d4 B5 d5) (hI : ∀ x ∈ a.args, OrdRSays x) (ha : okT a = true) (hb : okT b = true) (hia : inT a = true) (hib : inT b = true) :
    Calls Tryz.prog 57 #[tmV a (.slice A4 a.nums.length c4) (.slice A5 a.args.length c5), tmV b (.slice B4 b.nums.length d4) (.slice B5 b.args.length d5)] w (OrdPost w (ordT a b)) := by
  rw [ordT_eq, if_neg (by simp [hk]), if_neg (by omega), if_neg (by omega), if_neg (by omega), if_neg (by omega), if_pos k1]
  have HLS := Lib.hid fun W (hW : Below w.heap.size w W) => ref_lists a b A4 A5 B4 B5 c4 c5 d4 d5 W (hT.below hW) (hU.below hW) k1 (by omega) hI ha hb hia hib
  unfold tmV at HLS
  clear hT hU hI ha hb hia hib
  have d0 : (a.kd != b.kd) = false := by simp [hk]
  have e1 : (a.kd == 1) = decide ((7 : Int) = 1) := by rw [k1]; rfl
  have e2 : (a.kd == 2) = decide ((7 : Int) = 2) := by rw [k1]; rfl
  have e3 : (a.kd == 3) = decide ((7 : Int) = 3) := by rw [k1]; rfl
  have e4 : (a.kd == 4) = decide ((7 : Int) = 4) := by rw [k1]; rfl
  have e5 : (a.kd == 5) = decide ((7 : Int) = 5) := by rw [k1]; rfl
  have e7 : (a.kd == 7) = decide ((7 : Int) = 7) := by rw [k1]; rfl
  simp only [Int.reduceEq, decide_true, decide_false] at e1 e2 e3 e4 e5 e7
  clear hk k1
  obtain ⟨w1, hw1, hTa, hTb, hB1⟩ := two_boxes w a b (.slice A4 a.nums.length c4) (.slice A5 a.args.length c5) (.slice B4 b.nums.length d4) (.slice B5 b.args.length d5)
  unfold tmV
  go_enter Tryz.func57, Tryz.ntmps57
  go_upto_region 1 with (fail)
  rw [← hw1]
  have hsz1 : w.heap.size + 1 < w1.heap.size := hTb.lt
  clear hw1
  have HTa := Lib.hid hTa
  have HTb := Lib.hid hTb
  have HB1 := Lib.hid hB1
  clear hTa hTb hB1
  have a0 := HTa.out.c0
  have b0 := HTb.out.c0
  have HLT := Lib.hid (HLS.out w1 HB1.out)
  clear HLS
  obtain ⟨_, a1, a2, a3, a4, a5, _, _, _, _, _, _⟩ := HTa.out
  obtain ⟨_, b1, b2, b3, b4, b5, _, _, _, _, _, _⟩ := HTb.out
  go_wp2_with fail
  with_reducible refine (HLT.out).mono ?_
  rintro e W3 ⟨rfl, hb3⟩
  have HB3 : Hid (Below w.heap.size w W3) := Lib.hid (trans_below HB1.out hb3)
  clear hb3 a0 a1 a2 a3 a4 a5 b0 b1 b2 b3 b4 b5
  go_wp2_with fail
  go_ret
  exact ⟨rfl, HB3.out⟩
end Go.Proofs.YtgapeacflkfmdaaGreatDoor
set_option linter.unusedSimpArgs false
namespace Go.Proofs.YtgapeacflkfmdaaGreatDoor
open Go.RowKit Go.Sort Go.Proofs.YtgapeacflkfmdaaGreatDoorW.PrintWords

theorem orderR_all : ∀ a : Tm, OrdRSays a := by
  intro a
  induction a using Tm.ind with
  | h a ih =>
    intro b A4 A5 B4 B5 c4 c5 d4 d5 w hT hU ha hb hia hib
    by_cases hk : a.kd = b.kd
    · have h := shape_kd ha
      have hs := sm_tx (inT_sm hia)
      have : a.kd = 1 ∨ a.kd = 2 ∨ a.kd = 3 ∨ a.kd = 4 ∨ a.kd = 5 ∨ a.kd = 6 ∨ a.kd = 7 := by omega
      rcases this with k | k | k | k | k | k | k
      · exact orderR_one a b _ _ _ _ _ _ _ _ w hk k
      · exact orderR_two a b _ _ _ _ _ _ _ _ w hk k hs
      · exact orderR_three a b _ _ _ _ _ _ _ _ w hk k hs (by rw [shape_ref ha k, shape_ref hb (by omega)]) hT hU hia hib
      · exact orderR_four a b _ _ _ _ _ _ _ _ w hk k hs (by rw [shape_pid ha k, shape_pid hb (by omega)]) hT hU hia hib
      · exact orderR_five a b _ _ _ _ _ _ _ _ w hk k hT hU ih ha hb hia hib
      · exact orderR_six a b _ _ _ _ _ _ _ _ w hk k
      · exact orderR_seven a b _ _ _ _ _ _ _ _ w hk k hT hU ih ha hb hia hib
    · exact orderR_ne a b _ _ _ _ _ _ _ _ w hk
theorem inT_of {t : Tm} (h1 : smT t = true) (h2 : wfT t = true) : inT t = true := by
  unfold inT
  rw [h1, h2]
  rfl
set_option maxRecDepth 100000 in
set_option maxHeartbeats 2000000 in
theorem ref_Compare (a b : Tm) (A4 A5 B4 B5 : Option Addr) (c4 c5 d4 d5 : Nat) (w : World) (hT : TmR w a A4 c4 A5 c5) (hU : TmR w b B4 d4 B5 d5) (hsa : smT a = true) (hsb : smT b = true) (hwa : wfT a = true) (hwb : wfT b = true) :
    Calls Tryz.prog 26 #[tmV a (.slice A4 a.nums.length c4) (.slice A5 a.args.length c5), tmV b (.slice B4 b.nums.length d4) (.slice B5 b.args.length d5)] w (OrdPost w (compareT a b)) := by
  have hne := fun (w : World) (a : Option Addr) (n c : Nat) => run_neq_slice_nil_any (P := Tryz.prog) w 32 83 a n c 0 0 Tryz.underlying32
  have heq := fun (w : World) (a : Option Addr) (n c : Nat) => Lib.run_eql_slice_nil (P := Tryz.prog) w 32 83 a n c 0 0 Tryz.underlying32
  obtain ⟨w1, hw1, hTa, hTb, hB1⟩ := two_boxes w a b (.slice A4 a.nums.length c4) (.slice A5 a.args.length c5) (.slice B4 b.nums.length d4) (.slice B5 b.args.length d5)
  have HRa := Lib.hid fun W (hW : Below w.heap.size w W) => ref02_Check a A4 A5 c4 c5 W (hT.below hW) hsa
  have HRb := Lib.hid fun W (hW : Below w.heap.size w W) => ref02_Check b B4 B5 d4 d5 W (hU.below hW) hsb
  have HO := Lib.hid fun W (hW : Below w.heap.size w W) (ha : okT a = true) (hb : okT b = true) => orderR_all a b A4 A5 B4 B5 c4 c5 d4 d5 W (hT.below hW) (hU.below hW) ha hb (inT_of hsa hwa) (inT_of hsb hwb)
  obtain ⟨R, hR⟩ : ∃ R, R = compareT a b := ⟨_, rfl⟩
  rw [← hR]
  have HR := Lib.hid hR
  clear hT hU hsa hsb hwa hwb hR
  unfold tmV at HRa HRb HO ⊢
  go_enter Tryz.func26, Tryz.ntmps26
  go_upto_region 1 with (fail)
  rw [← hw1]
  clear hw1
  have HTa := Lib.hid hTa
  have HTb := Lib.hid hTb
  have HBW := Lib.hid hB1
  clear hTa hTb hB1
  have p0 := HTa.out.c0
  have p1 := HTa.out.c1
  have p2 := HTa.out.c2
  have p3 := HTa.out.c3
  have p4 := HTa.out.c4
  have p5 := HTa.out.c5
  have q0 := HTb.out.c0
  have q1 := HTb.out.c1
  have q2 := HTb.out.c2
  have q3 := HTb.out.c3
  have q4 := HTb.out.c4
  have q5 := HTb.out.c5
  go_wp2_with fail
  refine (HRa.out _ HBW.out).mono ?_
  rintro e w3 ⟨va, rfl, hL, hB⟩
  have hsh := hL.shape
  clear hL
  replace HTa := Lib.hid (HTa.out.below hB HTa.out.lt)
  replace HTb := Lib.hid (HTb.out.below hB HTb.out.lt)
  replace HBW := Lib.hid (trans_below HBW.out hB)
  clear hB
  clear p0 p1 p2 p3 p4 p5 q0 q1 q2 q3 q4 q5
  rcases hsh with ⟨ha, rfl⟩ | ⟨ha, g, n, c, rfl⟩
  · have HA := Lib.hid ha
    clear ha
    have p0 := HTa.out.c0
    have p1 := HTa.out.c1
    have p2 := HTa.out.c2
    have p3 := HTa.out.c3
    have p4 := HTa.out.c4
    have p5 := HTa.out.c5
    have q0 := HTb.out.c0
    have q1 := HTb.out.c1
    have q2 := HTb.out.c2
    have q3 := HTb.out.c3
    have q4 := HTb.out.c4
    have q5 := HTb.out.c5
    go_wp2_with fail
    refine (HRb.out _ HBW.out).mono ?_
    rintro e w4 ⟨vb, rfl, hL, hB⟩
    have hsh := hL.shape
    clear hL
    replace HTa := Lib.hid (HTa.out.below hB HTa.out.lt)
    replace HTb := Lib.hid (HTb.out.below hB HTb.out.lt)
    replace HBW := Lib.hid (trans_below HBW.out hB)
    clear hB
    clear p0 p1 p2 p3 p4 p5 q0 q1 q2 q3 q4 q5
    rcases hsh with ⟨hb, rfl⟩ | ⟨hb, g, n, c, rfl⟩
    · obtain rfl : R = _ := HR.out.trans (show compareT a b = ordT a b by unfold compareT; rw [if_neg (by rw [HA.out, hb]; simp)])
      have HOO := Lib.hid (HO.out _ HBW.out (chk_ok HA.out) (chk_ok hb))
      clear hb HR HO
      have p0 := HTa.out.c0
      have p1 := HTa.out.c1
      have p2 := HTa.out.c2
      have p3 := HTa.out.c3
      have p4 := HTa.out.c4
      have p5 := HTa.out.c5
      have q0 := HTb.out.c0
      have q1 := HTb.out.c1
      have q2 := HTb.out.c2
      have q3 := HTb.out.c3
      have q4 := HTb.out.c4
      have q5 := HTb.out.c5
      go_wp2_with fail
      with_reducible refine (HOO.out).mono ?_
      rintro e w5 ⟨rfl, hB⟩
      replace HTa := Lib.hid (HTa.out.below hB HTa.out.lt)
      replace HTb := Lib.hid (HTb.out.below hB HTb.out.lt)
      replace HBW := Lib.hid (trans_below HBW.out hB)
      clear hB
      clear p0 p1 p2 p3 p4 p5 q0 q1 q2 q3 q4 q5
      go_wp2_with fail
      go_ret
      exact ⟨rfl, HBW.out⟩
    · obtain rfl : R = _ := HR.out.trans (show compareT a b = 0 by unfold compareT; rw [if_pos (Or.inr hb)])
      clear hb HR HO
      go_wp2_with fail
      go_ret
      exact ⟨rfl, HBW.out⟩
  · obtain rfl : R = _ := HR.out.trans (show compareT a b = 0 by unfold compareT; rw [if_pos (Or.inl ha)])
    clear ha HR HO
    go_wp2_with fail
    go_ret
    exact ⟨rfl, HBW.out⟩
set_option maxRecDepth 100000 in
set_option maxHeartbeats 2000000 in
theorem ref_Equal (a b : Tm) (A4 A5 B4 B5 : Option Addr) (c4 c5 d4 d5 : Nat) (w : World) (hT : TmR w a A4 c4 A5 c5) (hU : TmR w b B4 d4 B5 d5) (hsa : smT a = true) (hsb : smT b = true) (hwa : wfT a = true) (hwb : wfT b = true) :
    Calls Tryz.prog 28 #[tmV a (.slice A4 a.nums.length c4) (.slice A5 a.args.length c5), tmV b (.slice B4 b.nums.length d4) (.slice B5 b.args.length d5)] w fun e w' => e = .returned (.bool (equalT a b)) ∧ Below w.heap.size w w' := by
  have hne := fun (w : World) (a : Option Addr) (n c : Nat) => run_neq_slice_nil_any (P := Tryz.prog) w 32 83 a n c 0 0 Tryz.underlying32
  have heq := fun (w : World) (a : Option Addr) (n c : Nat) => Lib.run_eql_slice_nil (P := Tryz.prog) w 32 83 a n c 0 0 Tryz.underlying32
  obtain ⟨w1, hw1, hTa, hTb, hB1⟩ := two_boxes w a b (.slice A4 a.nums.length c4) (.slice A5 a.args.length c5) (.slice B4 b.nums.length d4) (.slice B5 b.args.length d5)
  have HRa := Lib.hid fun W (hW : Below w.heap.size w W) => ref02_Check a A4 A5 c4 c5 W (hT.below hW) hsa
  have HRb := Lib.hid fun W (hW : Below w.heap.size w W) => ref02_Check b B4 B5 d4 d5 W (hU.below hW) hsb
  have HO := Lib.hid fun W (hW : Below w.heap.size w W) (ha : okT a = true) (hb : okT b = true) => orderR_all a b A4 A5 B4 B5 c4 c5 d4 d5 W (hT.below hW) (hU.below hW) ha hb (inT_of hsa hwa) (inT_of hsb hwb)
  obtain ⟨R, hR⟩ : ∃ R, R = equalT a b := ⟨_, rfl⟩
  rw [← hR]
  have HR := Lib.hid hR
  clear hT hU hsa hsb hwa hwb hR
  unfold tmV at HRa HRb HO ⊢
  go_enter Tryz.func28, Tryz.ntmps28
  go_upto_region 1 with (fail)
  rw [← hw1]
  clear hw1
  have HTa := Lib.hid hTa
  have HTb := Lib.hid hTb
  have HBW := Lib.hid hB1
  clear hTa hTb hB1
  have p0 := HTa.out.c0
  have p1 := HTa.out.c1
  have p2 := HTa.out.c2
  have p3 := HTa.out.c3
  have p4 := HTa.out.c4
  have p5 := HTa.out.c5
  have q0 := HTb.out.c0
  have q1 := HTb.out.c1
  have q2 := HTb.out.c2
  have q3 := HTb.out.c3
  have q4 := HTb.out.c4
  have q5 := HTb.out.c5
  go_wp2_with fail
  refine (HRa.out _ HBW.out).mono ?_
  rintro e w3 ⟨va, rfl, hL, hB⟩
  have hsh := hL.shape
  clear hL
  replace HTa := Lib.hid (HTa.out.below hB HTa.out.lt)
  replace HTb := Lib.hid (HTb.out.below hB HTb.out.lt)
  replace HBW := Lib.hid (trans_below HBW.out hB)
  clear hB
  clear p0 p1 p2 p3 p4 p5 q0 q1 q2 q3 q4 q5
  rcases hsh with ⟨ha, rfl⟩ | ⟨ha, g, n, c, rfl⟩
  · have HA := Lib.hid ha
    clear ha
    have p0 := HTa.out.c0
    have p1 := HTa.out.c1
    have p2 := HTa.out.c2
    have p3 := HTa.out.c3
    have p4 := HTa.out.c4
    have p5 := HTa.out.c5
    have q0 := HTb.out.c0
    have q1 := HTb.out.c1
    have q2 := HTb.out.c2
    have q3 := HTb.out.c3
    have q4 := HTb.out.c4
    have q5 := HTb.out.c5
    go_wp2_with fail
    refine (HRb.out _ HBW.out).mono ?_
    rintro e w4 ⟨vb, rfl, hL, hB⟩
    have hsh := hL.shape
    clear hL
    replace HTa := Lib.hid (HTa.out.below hB HTa.out.lt)
    replace HTb := Lib.hid (HTb.out.below hB HTb.out.lt)
    replace HBW := Lib.hid (trans_below HBW.out hB)
    clear hB
    clear p0 p1 p2 p3 p4 p5 q0 q1 q2 q3 q4 q5
    rcases hsh with ⟨hb, rfl⟩ | ⟨hb, g, n, c, rfl⟩
    · obtain rfl : R = _ := HR.out.trans (show equalT a b = (ordT a b == 0) by unfold equalT; rw [HA.out, hb]; cases h : ordT a b == 0 <;> simp_all)
      have HOO := Lib.hid (HO.out _ HBW.out (chk_ok HA.out) (chk_ok hb))
      clear hb HR HO
      have p0 := HTa.out.c0
      have p1 := HTa.out.c1
      have p2 := HTa.out.c2
      have p3 := HTa.out.c3
      have p4 := HTa.out.c4
      have p5 := HTa.out.c5
      have q0 := HTb.out.c0
      have q1 := HTb.out.c1
      have q2 := HTb.out.c2
      have q3 := HTb.out.c3
      have q4 := HTb.out.c4
      have q5 := HTb.out.c5
      go_wp2_with fail
      with_reducible refine (HOO.out).mono ?_
      rintro e w5 ⟨rfl, hB⟩
      replace HTa := Lib.hid (HTa.out.below hB HTa.out.lt)
      replace HTb := Lib.hid (HTb.out.below hB HTb.out.lt)
      replace HBW := Lib.hid (trans_below HBW.out hB)
      clear hB
      clear p0 p1 p2 p3 p4 p5 q0 q1 q2 q3 q4 q5
      go_wp2_with fail
      go_ret
      exact ⟨rfl, HBW.out⟩
    · obtain rfl : R = _ := HR.out.trans (show equalT a b = false by unfold equalT; simp [hb])
      clear hb HR HO
      go_wp2_with fail
      go_ret
      exact ⟨rfl, HBW.out⟩
  · obtain rfl : R = _ := HR.out.trans (show equalT a b = false by unfold equalT; simp [ha])
    clear ha HR HO
    go_wp2_with fail
    go_ret
    exact ⟨rfl, HBW.out⟩
end Go.Proofs.YtgapeacflkfmdaaGreatDoor
set_option linter.unusedSimpArgs false
namespace Go.Proofs.YtgapeacflkfmdaaGreatDoor
open Go.RowKit Go.Sort Go.Proofs.YtgapeacflkfmdaaGreatDoorW.PrintWords

theorem calls_growB {w : World} {f : FuncId} {args : Array Value} {r : Bool} (h : ∀ W, Below w.heap.size w W → Calls Tryz.prog f args W (fun e w' => e = .returned (.bool r) ∧ Below W.heap.size W w')) (d : Nat) (os : Array Obj) :
    Calls Tryz.prog f args (grow (redrawn w d) os) fun e w'' => e = .returned (.bool r) ∧ ∃ p : Regrown, w'' = grow (redrawn w p.d) p.os := Calls.regrown_of (h _ (below_regrown w d os))
set_option maxRecDepth 100000 in
set_option maxHeartbeats 4000000 in
theorem walk_TermCompares (a b : Tm) (v u : Value) (w : World) (hv : TmIs w a v) (hu : TmIs w b u) (hsa : smT a = true) (hsb : smT b = true) (hwa : wfT a = true) (hwb : wfT b = true) (hG : Glob w) :
    Calls Tryz.prog 8 #[v, u] w (TruePost w) := by
  obtain ⟨A4, c4, A5, c5, rfl, hT⟩ := hv
  obtain ⟨B4, d4, B5, d5, rfl, hU⟩ := hu
  obtain ⟨w1, hw1, hTa, hTb, hB1⟩ := two_boxes w a b (.slice A4 a.nums.length c4) (.slice A5 a.args.length c5) (.slice B4 b.nums.length d4) (.slice B5 b.args.length d5)
  have ia : ∀ W, Below w.heap.size w W → TmIs W a (tmV a (.slice A4 a.nums.length c4) (.slice A5 a.args.length c5)) := fun W hW => TmIs.below ⟨A4, c4, A5, c5, rfl, hT⟩ hW
  have ib : ∀ W, Below w.heap.size w W → TmIs W b (tmV b (.slice B4 b.nums.length d4) (.slice B5 b.args.length d5)) := fun W hW => TmIs.below ⟨B4, d4, B5, d5, rfl, hU⟩ hW
  have HG1 := Lib.hid fun dd os => calls_grow (w := w1) (fun W hW => term_Compare a b _ _ W (ia W (trans_below hB1 hW)) (ib W (trans_below hB1 hW)) hsa hsb (hG.below (trans_below hB1 hW))) dd os
  have HG2 := Lib.hid fun dd os => calls_grow (w := w1) (fun W hW => ref_Compare a b A4 A5 B4 B5 c4 c5 d4 d5 W (hT.below (trans_below hB1 hW)) (hU.below (trans_below hB1 hW)) hsa hsb hwa hwb) dd os
  have HG3 := Lib.hid fun dd os => calls_growB (w := w1) (fun W hW => term_Equal a b _ _ W (ia W (trans_below hB1 hW)) (ib W (trans_below hB1 hW)) hsa hsb (hG.below (trans_below hB1 hW))) dd os
  have HG4 := Lib.hid fun dd os => calls_growB (w := w1) (fun W hW => ref_Equal a b A4 A5 B4 B5 c4 c5 d4 d5 W (hT.below (trans_below hB1 hW)) (hU.below (trans_below hB1 hW)) hsa hsb hwa hwb) dd os
  have HG5 := Lib.hid fun dd os => calls_growB (w := w1) (fun W hW => awake_any W (hG.below (trans_below hB1 hW))) dd os
  clear hT hU hsa hsb hwa hwb hG ia ib
  generalize compareT a b = x at HG1 HG2
  generalize equalT a b = y at HG3 HG4
  have dx : (x == x) = true := beq_self_eq_true x
  have dy : (y == y) = true := beq_self_eq_true y
  unfold tmV at HG1 HG2 HG3 HG4 ⊢
  go_enter Tryz.func8, Tryz.ntmps8
  go_upto_region 1 with (fail)
  rw [← hw1]
  clear hw1
  have HTa := Lib.hid hTa
  have HTb := Lib.hid hTb
  have HBW := Lib.hid hB1
  clear hTa hTb hB1
  have p0 := cell_regrown HTa.out.c0
  have p1 := cell_regrown HTa.out.c1
  have p2 := cell_regrown HTa.out.c2
  have p3 := cell_regrown HTa.out.c3
  have p4 := cell_regrown HTa.out.c4
  have p5 := cell_regrown HTa.out.c5
  have q0 := cell_regrown HTb.out.c0
  have q1 := cell_regrown HTb.out.c1
  have q2 := cell_regrown HTb.out.c2
  have q3 := cell_regrown HTb.out.c3
  have q4 := cell_regrown HTb.out.c4
  have q5 := cell_regrown HTb.out.c5
  refine wp_region_quiet_below (by kernel_rfl) (by kernel_rfl) ?_
  repeat (go_big_quiet_step ((first | with_reducible exact HG1.out _ _ | with_reducible exact HG2.out _ _ | with_reducible exact HG3.out _ _ | with_reducible exact HG4.out _ _ | with_reducible exact HG5.out _ _)))
  refine wpQuiet_nil ?_
  intro _ hw'
  obtain ⟨⟨dq, osq⟩, hw''⟩ := hw'
  subst hw''
  have hwq := below_regrown w1 dq osq
  generalize grow (redrawn w1 dq) osq = wq at hwq ⊢
  clear p0 p1 p2 p3 p4 p5 q0 q1 q2 q3 q4 q5 HG1 HG2 HG3 HG4 HG5
  replace HTa := Lib.hid (HTa.out.below hwq HTa.out.lt)
  replace HTb := Lib.hid (HTb.out.below hwq HTb.out.lt)
  replace HBW := Lib.hid (trans_below HBW.out hwq)
  clear hwq
  go_wp2_with fail
  go_ret
  exact ⟨rfl, HBW.out⟩
end Go.Proofs.YtgapeacflkfmdaaGreatDoor
namespace Go.Proofs.YtgapeacflkfmdaaGreatDoor
open Go.Lib Go.ChangeShapes Go.WideShapes Go.ChangeAt Go.RowKit Go.Proofs.YtgapeacflkfmdaaGreatDoorW.PrintWords

theorem wfL_of {l : List Tm} (h : ∀ a ∈ l, wfT a = true) : wfL l = true := by
  induction l with
  | nil => rfl
  | cons a l ih =>
    rw [wfL, Bool.and_eq_true]
    exact ⟨h a (by simp), ih fun x hx => h x (by simp [hx])⟩
theorem smL_of {l : List Tm} (h : ∀ a ∈ l, smT a = true) : smL l = true := by
  induction l with
  | nil => rfl
  | cons a l ih =>
    rw [smL, Bool.and_eq_true]
    exact ⟨h a (by simp), ih fun x hx => h x (by simp [hx])⟩
section
variable {H : Type} {enc : TypeId × Value → H} {w : World} {base : Nat} {sp : Nat → Bool} {held : Bool}
theorem bulk1 (d : DataW H) : 1 ≤ Rows.uptoBulk d := by
  cases d with
  | lit x => cases x <;> simp [Rows.uptoBulk]
  | _ => simp [Rows.uptoBulk]
theorem bulkIn : ∀ {ds : List (DataW H)} {d : DataW H}, d ∈ ds → Rows.uptoBulk d ≤ Rows.uptoBulkAll ds
  | e :: ds, d, h => by
    rw [Rows.uptoBulkAll]
    rcases List.mem_cons.1 h with rfl | h
    · omega
    · have := bulkIn h
      omega
theorem weightIn {e : TypeId} : ∀ {ds : List (DataW H)} {d : DataW H} {k : Nat}, d ∈ ds → k ∈ d.weights Tryz.prog e → k ∈ DataW.weightsAll Tryz.prog e ds
  | c :: ds, d, k, h, hk => by
    rw [DataW.weightsAll, List.mem_append]
    rcases List.mem_cons.1 h with rfl | h
    · exact .inl hk
    · exact .inr (weightIn h hk)
/-- A row that is read, element by element. -/
theorem C_of_cells {α : Type} (d : Kd α) (z : α) (Q : Nat → α → Prop) {a : Addr} {len cap : Nat} (hl : len ≤ cap) (hc : cap ≤ maxLen)
    (h : ∀ i, i < len → ∃ cs', w.cells? base (a.add (i * d.sz)) d.sz = some cs' ∧ ∃ p, d.K w p cs' ∧ Q i p) :
    ∃ l : List α, l.length = len ∧ d.C w (some a) len l ∧ ∀ (i : Nat) (hi : i < l.length), Q i l[i] := by
  have key : ∃ T : Nat → α, ∀ i, i < len → ∃ cs', w.cells? base (a.add (i * d.sz)) d.sz = some cs' ∧ d.K w (T i) cs' ∧ Q i (T i) := by
    refine ⟨fun i => if hi : i < len then (h i hi).choose_spec.2.choose else z, fun i hi => ?_⟩
    simp only [dif_pos hi]
    exact ⟨(h i hi).choose, (h i hi).choose_spec.1, (h i hi).choose_spec.2.choose_spec⟩
  obtain ⟨T, hT⟩ := key
  have hll : ((List.range len).map T).length = len := by simp
  have hget : ∀ i, i < len → ((List.range len).map T)[i]? = some (T i) := by
    intro i hi
    rw [List.getElem?_map, List.getElem?_range hi]
    rfl
  refine ⟨(List.range len).map T, hll, ⟨hll, by have : maxLen = 9223372036854775807 := rfl; omega, fun _ => ⟨a, rfl, fun j p hj => ?_⟩⟩, fun i hi => ?_⟩
  · have hj' : j < len := by rw [← hll]; exact (List.getElem?_eq_some_iff.1 hj).1
    rw [hget j hj'] at hj
    obtain rfl := Option.some.inj hj
    obtain ⟨cs', hcs, hK, _⟩ := hT j hj'
    obtain ⟨_, hlen, hcell⟩ := World.cells?_some hcs
    refine ⟨cs', d.K_len hK, hK, fun i u hu => ?_⟩
    have hi : i < d.sz := by rw [← d.K_len hK]; exact (List.getElem?_eq_some_iff.1 hu).1
    have := hcell i hi
    rw [hu] at this
    rw [← this, Addr.add_add]
  · rw [hll] at hi
    have e : ((List.range len).map T)[i]'(by rw [hll]; exact hi) = T i := by simp
    rw [e]
    exact (hT i hi).choose_spec.2.2
theorem u32_wf {z : Int} (h : (Lit.int .u32 z).wf = true) : 0 ≤ z ∧ z ≤ 4294967295 := by
  have h1 := (of_decide_eq_true ((Bool.and_eq_true _ _).mp h).1 : IntKind.u32.min ≤ z)
  have h2 := (of_decide_eq_true ((Bool.and_eq_true _ _).mp h).2 : z ≤ IntKind.u32.max)
  exact ⟨h1, h2⟩
set_option maxRecDepth 100000 in
theorem nums_in {fuel : Nat} {v : Value} {x : DataW H × List MemPlace} (h : DataW.trod enc Tryz.prog w base sp held fuel 24 [v] = some x) :
    ∃ (l : List Int) (A : Option Addr) (c : Nat), v = .slice A l.length c ∧ l.length ≤ c ∧ kU.C w A l.length l ∧ ∀ n ∈ l, 0 ≤ n ∧ n ≤ 4294967295 := by
  rcases Go.Deep.open_slice Tryz.underlying24 h with ⟨hcs, hx⟩ | ⟨a, len, cap, m, n, D, Pl, hcs, _, hl, hcm, hm, hx, hall⟩
  · simp only [List.cons.injEq, and_true] at hcs
    subst hcs
    exact ⟨[], none, 0, rfl, Nat.le_refl _, ⟨rfl, by simp, fun h => absurd h (Nat.lt_irrefl 0)⟩, fun n hn => by cases hn⟩
  · simp only [List.cons.injEq, and_true] at hcs
    subst hcs
    rw [show Tryz.prog.cellsOf 23 = 1 by kernel_rfl] at hall
    have hlm : len ≤ m := by rw [hm]; split <;> omega
    obtain ⟨l, hll, hC, hQ⟩ := C_of_cells (d := kU) 0 (fun _ n => 0 ≤ n ∧ n ≤ 4294967295) hl hcm (fun i hi => by
      obtain ⟨cs', hc, ht⟩ := hall i (by omega)
      obtain ⟨z, e0, _, hz⟩ := DataW.trod_int Tryz.underlying23 ht
      exact ⟨cs', hc, z, e0, u32_wf hz⟩)
    subst hll
    refine ⟨l, some a, cap, rfl, hl, hC, fun n hn => ?_⟩
    obtain ⟨i, hi, rfl⟩ := List.mem_iff_getElem.1 hn
    exact hQ i hi
theorem trod_struct6 {t : TypeId} {f0 f1 f2 f3 f4 f5 : Field} {fuel : Nat} {cs : List Value} {x : DataW H × List MemPlace} (ht : Tryz.prog.underlying t = some (.struct #[f0, f1, f2, f3, f4, f5])) (h : DataW.trod enc Tryz.prog w base sp held fuel t cs = some x) :
    ∃ y0 y1 y2 y3 y4 y5 n, x.1 = .agg [y0.1, y1.1, y2.1, y3.1, y4.1, y5.1] ∧ cs.length = Tryz.prog.cellsOf t ∧ DataW.trod enc Tryz.prog w base sp held n f0.type ((cs.drop f0.offset).take (Tryz.prog.cellsOf f0.type)) = some y0 ∧
      DataW.trod enc Tryz.prog w base sp held n f1.type ((cs.drop f1.offset).take (Tryz.prog.cellsOf f1.type)) = some y1 ∧ DataW.trod enc Tryz.prog w base sp held n f2.type ((cs.drop f2.offset).take (Tryz.prog.cellsOf f2.type)) = some y2 ∧
      DataW.trod enc Tryz.prog w base sp held n f3.type ((cs.drop f3.offset).take (Tryz.prog.cellsOf f3.type)) = some y3 ∧ DataW.trod enc Tryz.prog w base sp held n f4.type ((cs.drop f4.offset).take (Tryz.prog.cellsOf f4.type)) = some y4 ∧
      DataW.trod enc Tryz.prog w base sp held n f5.type ((cs.drop f5.offset).take (Tryz.prog.cellsOf f5.type)) = some y5 := by
  obtain ⟨xs, n, _, rfl, hl, hlen, hf⟩ := DataW.trod_struct ht h
  match xs, hlen with
  | [y0, y1, y2, y3, y4, y5], _ => exact ⟨y0, y1, y2, y3, y4, y5, n, by simp, hl, by simpa using hf 0 f0 rfl, by simpa using hf 1 f1 rfl, by simpa using hf 2 f2 rfl, by simpa using hf 3 f3 rfl, by simpa using hf 4 f4 rfl, by simpa using hf 5 f5 rfl⟩
/-- The bound that the statements' rows give on each weight. -/
def Light (ks : List Nat) : Prop := ∀ k ∈ ks, k ≤ 140737488351232
set_option maxRecDepth 100000 in
theorem one_tm : ∀ (N : Nat) {fuel : Nat} {cs : List Value} {x : DataW H × List MemPlace}, Rows.uptoBulk x.1 ≤ N → DataW.trod enc Tryz.prog w base sp held fuel 27 cs = some x →
    ∃ t : Tm, kTm.K w t cs ∧ wfT t = true ∧ (Light (x.1.weights Tryz.prog 27) → smT t = true)
  | 0, _, _, x, hN, _ => absurd hN (by have := bulk1 x.1; omega)
  | N + 1, fuel, cs, x, hN, h => by
    obtain ⟨y0, y1, y2, y3, y4, y5, n, hx, hlen, h0, h1, h2, h3, h4, h5⟩ := trod_struct6 Tryz.underlying27 h
    rw [show Tryz.prog.cellsOf 27 = 6 by kernel_rfl] at hlen
    obtain ⟨c0, c1, c2, c3, c4, c5, rfl⟩ : ∃ c0 c1 c2 c3 c4 c5, cs = [c0, c1, c2, c3, c4, c5] := by
      match cs, hlen with
      | [c0, c1, c2, c3, c4, c5], _ => exact ⟨c0, c1, c2, c3, c4, c5, rfl⟩
    rw [show Tryz.prog.cellsOf 24 = 1 by kernel_rfl] at h4
    rw [show Tryz.prog.cellsOf 25 = 1 by kernel_rfl] at h5
    obtain ⟨kd, e0, d0, _⟩ := DataW.trod_int Tryz.underlying22 h0
    obtain ⟨it, e1, d1, _⟩ := DataW.trod_int Tryz.underlying2 h1
    obtain ⟨tx, e2, d2, _⟩ := DataW.trod_string Tryz.underlying9 h2
    obtain ⟨cr, e3, d3, hcr⟩ := DataW.trod_int Tryz.underlying23 h3
    rw [show Tryz.prog.cellsOf 22 = 1 by kernel_rfl] at e0
    rw [show Tryz.prog.cellsOf 2 = 1 by kernel_rfl] at e1
    rw [show Tryz.prog.cellsOf 9 = 1 by kernel_rfl] at e2
    rw [show Tryz.prog.cellsOf 23 = 1 by kernel_rfl] at e3
    simp only [List.drop, List.take, List.cons.injEq, and_true] at e0 e1 e2 e3 h4 h5
    subst e0 e1 e2 e3
    obtain ⟨ns, A4, k4, rfl, l4, g4, hns⟩ := nums_in h4
    have hB5 : Rows.uptoBulk y5.1 ≤ N := by
      rw [hx, Rows.uptoBulk] at hN
      have := bulkIn (ds := [y0.1, y1.1, y2.1, y3.1, y4.1, y5.1]) (d := y5.1) (by simp)
      omega
    have hL2 : Light (x.1.weights Tryz.prog 27) → tx.size ≤ 140737488351232 := by
      intro hl
      refine hl _ ?_
      rw [hx, DataW.weights, Tryz.underlying27]
      simp only [List.map, DataW.weightsEach, List.mem_append]
      refine .inr (.inr (.inl ?_))
      rw [d2, DataW.weights, List.mem_singleton]
      exact Lib.size_eq _
    have hL5 : Light (x.1.weights Tryz.prog 27) → Light (y5.1.weights Tryz.prog 25) := by
      intro hl k hk
      refine hl _ ?_
      rw [hx, DataW.weights, Tryz.underlying27]
      simp only [List.map, DataW.weightsEach, List.mem_append]
      exact .inr (.inr (.inr (.inr (.inr (.inl hk)))))
    rcases Go.Deep.open_slice Tryz.underlying25 h5 with ⟨hcs, _⟩ | ⟨a, len, cap, m, n', D, Pl, hcs, _, hl, hcm, hm, hy5, hall⟩
    · simp only [List.cons.injEq, and_true] at hcs
      subst hcs
      refine ⟨⟨kd, it, tx, cr, ns, []⟩, kTm_mk w ⟨kd, it, tx, cr, ns, []⟩ l4 g4 (Nat.le_refl _) ⟨rfl, by simp, fun h => absurd h (Nat.lt_irrefl 0)⟩, ?_, fun hL => ?_⟩
      · rw [wfT_eq, wfL]
        simp only [Bool.and_eq_true, decide_eq_true_eq, List.all_eq_true, and_true]
        exact ⟨u32_wf hcr, hns⟩
      · rw [smT_eq, smL]
        simp only [Bool.and_eq_true, decide_eq_true_eq, and_true]
        exact hL2 hL
    · simp only [List.cons.injEq, and_true] at hcs
      subst hcs
      rw [show Tryz.prog.cellsOf 27 = 6 by kernel_rfl] at hall
      have hlm : len ≤ m := by rw [hm]; split <;> omega
      have hmem : ∀ i, i < len → D i ∈ (List.range len).map D := fun i hi => List.mem_map.2 ⟨i, List.mem_range.2 hi, rfl⟩
      have hD : ∀ i, i < len → Rows.uptoBulk (D i) ≤ N := by
        intro i hi
        rw [hy5] at hB5
        simp only [Rows.uptoBulk] at hB5
        have := bulkIn (hmem i hi)
        omega
      have hDL : Light (y5.1.weights Tryz.prog 25) → ∀ i, i < len → Light ((D i).weights Tryz.prog 27) := by
        intro hl i hi k hk
        refine hl k ?_
        rw [hy5]
        simp only [DataW.weights, Tryz.underlying25, List.mem_cons, List.mem_append]
        exact .inr (.inl (weightIn (hmem i hi) hk))
      obtain ⟨l, hll, hC, hQ⟩ := C_of_cells (d := kTm) zTm (fun i t => wfT t = true ∧ (Light ((D i).weights Tryz.prog 27) → smT t = true)) hl hcm (fun i hi => by
        obtain ⟨cs', hc, ht⟩ := hall i (by omega)
        obtain ⟨t, hK, hw, hs⟩ := one_tm N (x := (D i, Pl i)) (hD i hi) ht
        exact ⟨cs', hc, t, hK, hw, hs⟩)
      subst hll
      refine ⟨⟨kd, it, tx, cr, ns, l⟩, kTm_mk w ⟨kd, it, tx, cr, ns, l⟩ l4 g4 hl hC, ?_, fun hL => ?_⟩
      · rw [wfT_eq]
        simp only [Bool.and_eq_true, decide_eq_true_eq, List.all_eq_true]
        refine ⟨⟨u32_wf hcr, hns⟩, wfL_of fun a ha => ?_⟩
        obtain ⟨i, hi, rfl⟩ := List.mem_iff_getElem.1 ha
        exact (hQ i hi).1
      · rw [smT_eq]
        simp only [Bool.and_eq_true, decide_eq_true_eq]
        refine ⟨hL2 hL, smL_of fun a ha => ?_⟩
        obtain ⟨i, hi, rfl⟩ := List.mem_iff_getElem.1 ha
        exact (hQ i hi).2 (hDL (hL5 hL) i hi)
set_option maxRecDepth 100000 in
/-- A term handed in. -/
theorem open_tm {r : Reach} {b0 : Nat} {v : Value} {d : DataW H} {ps : List MemPlace} (hv : Value.okWide Tryz.prog w r b0 27 v) (h : DataW.Trod enc Tryz.prog w base sp held 27 v d ps) :
    ∃ t : Tm, TmIs w t v ∧ wfT t = true ∧ (Light (d.weights Tryz.prog 27) → smT t = true) := by
  obtain ⟨cs, rfl, hsz⟩ := okWide_struct Tryz.underlying27 hv
  obtain ⟨fuel, hf⟩ := h
  obtain ⟨t, hK, hw, hs⟩ := one_tm (Rows.uptoBulk d) (x := (d, ps)) (Nat.le_refl _) hf
  refine ⟨t, ?_, hw, hs⟩
  have := TmIs.ofK hK
  simpa [Value.cells] using this
end
end Go.Proofs.YtgapeacflkfmdaaGreatDoor
namespace Go.Proofs.YtgapeacflkfmdaaGreatDoor
open Go.RowKit Go.Proofs.YtgapeacflkfmdaaGreatDoorW.PrintWords Go.Proofs.YtgapeacflkfmdaaGreatDoor.PSe

mutual
def toS : Tm → S27
  | ⟨kd, it, tx, cr, ns, us⟩ => ⟨kd, it, tx, cr, ns, toSL us⟩
def toSL : List Tm → List S27
  | [] => []
  | a :: us => toS a :: toSL us
end
theorem toSL_map : ∀ l : List Tm, toSL l = l.map toS
  | [] => by rw [toSL]; rfl
  | a :: l => by rw [toSL, toSL_map l]; rfl
theorem toS_eq (t : Tm) : toS t = ⟨t.kd, t.it, t.tx, t.cr, t.nums, t.args.map toS⟩ := by
  cases t
  rw [toS, toSL_map]
/-- Lists are of lengths that a machine can hold. -/
inductive LenOk : Tm → Prop
  | mk (t : Tm) (h4 : t.nums.length ≤ 9223372036854775807) (h5 : t.args.length ≤ 9223372036854775807) (h : ∀ a ∈ t.args, LenOk a) : LenOk t
theorem C_map {α β : Type} {d : Kd α} {d' : Kd β} {f : α → β} (hs : d.sz = d'.sz) {w : World} (h : ∀ x cs, d.K w x cs → d'.K w (f x) cs) {A : Option Addr} {n : Nat} {xs : List α} (hc : d.C w A n xs) : d'.C w A n (xs.map f) := by
  refine ⟨by rw [List.length_map]; exact hc.1, hc.2.1, fun hn => ?_⟩
  obtain ⟨ad, e, h2⟩ := hc.2.2 hn
  refine ⟨ad, e, fun j p hj => ?_⟩
  rw [List.getElem?_map, Option.map_eq_some_iff] at hj
  obtain ⟨x, hx, rfl⟩ := hj
  obtain ⟨cs, hl, hK, hcell⟩ := h2 j x hx
  refine ⟨cs, by rw [← hs]; exact hl, h _ _ hK, ?_⟩
  rw [← hs]
  exact hcell
theorem C_len {d : Kd Tm} {w : World} {A : Option Addr} {n : Nat} {xs : List Tm} (h : ∀ x cs, d.K w x cs → LenOk x) (hc : d.C w A n xs) : xs.length ≤ 9223372036854775807 ∧ ∀ a ∈ xs, LenOk a := by
  refine ⟨by rw [hc.1]; exact hc.2.1, fun a ha => ?_⟩
  obtain ⟨i, hi, rfl⟩ := List.mem_iff_getElem.1 ha
  obtain ⟨ad, e, h2⟩ := hc.2.2 (by have := hc.1; omega)
  obtain ⟨cs, _, hK, _⟩ := h2 i xs[i] (List.getElem?_eq_getElem hi)
  exact h _ _ hK
theorem K_toS (w : World) : ∀ n x cs, (Kd.upto kTmF 6 [tyU32, tyTm] n).K w x cs → (Kd.upto F27 6 [23, 27] n).K w (toS x) cs ∧ LenOk x
  | 0, _, _, h => h.elim
  | n + 1, x, cs, h => by
    obtain ⟨_, _, rfl, rfl, ⟨_, _, rfl, rfl, ⟨_, _, rfl, rfl, ⟨_, _, rfl, rfl, ⟨_, _, rfl, ⟨A4, c4, rfl, l4, g4⟩, ⟨A5, c5, rfl, l5, g5⟩⟩⟩⟩⟩⟩ := h
    have hl5 := C_len (d := Kd.upto kTmF 6 [tyU32, tyTm] n) (fun y cy hy => (K_toS w n y cy hy).2) g5
    refine ⟨?_, .mk x g4.2.1 hl5.1 hl5.2⟩
    rw [toS_eq]
    have g6 := C_map (d' := Kd.upto F27 6 [23, 27] n) (f := toS) (by rw [kTm_sz, sz27]) (fun y cy hy => (K_toS w n y cy hy).1) g5
    have hm : (x.args.map toS).length = x.args.length := List.length_map _
    refine ⟨[.int .i64 x.kd], [.int .i64 x.it, .string x.tx, .int .u32 x.cr, .slice A4 x.nums.length c4, .slice A5 x.args.length c5], rfl, rfl, ⟨[.int .i64 x.it], [.string x.tx, .int .u32 x.cr, .slice A4 x.nums.length c4, .slice A5 x.args.length c5], rfl, rfl, ⟨[.string x.tx], [.int .u32 x.cr, .slice A4 x.nums.length c4, .slice A5 x.args.length c5], rfl, rfl, ⟨[.int .u32 x.cr], [.slice A4 x.nums.length c4, .slice A5 x.args.length c5], rfl, rfl, ⟨[.slice A4 x.nums.length c4], [.slice A5 x.args.length c5], rfl, ⟨A4, c4, rfl, l4, g4⟩, ⟨A5, c5, by simp only [hm], by simp only [hm]; exact l5, by simp only [hm]; exact g6⟩⟩⟩⟩⟩⟩
theorem C_toS {w : World} {A : Option Addr} {n : Nat} {xs : List Tm} (h : kTm.C w A n xs) : k27.C w A n (xs.map toS) ∧ xs.length ≤ 9223372036854775807 ∧ ∀ a ∈ xs, LenOk a :=
  ⟨C_map (d := kTm) (d' := k27) rfl (fun x cs ⟨n, hn⟩ => ⟨n, (K_toS w n x cs hn).1⟩) h, C_len (d := kTm) (fun x cs ⟨n, hn⟩ => (K_toS w n x cs hn).2) h⟩
/-- Are these the same terms? -/
noncomputable def sameT (a b : Tm) : Bool := @decide (a = b) (Classical.propDecidable _)
theorem sameT_iff {a b : Tm} : sameT a b = true ↔ a = b := by unfold sameT; exact @decide_eq_true_iff (a = b) (Classical.propDecidable _)
theorem sameT_false {a b : Tm} (h : a ≠ b) : sameT a b = false := by rw [Bool.eq_false_iff]; exact fun e => h (sameT_iff.1 e)
theorem Tm.eq_iff {a b : Tm} : a = b ↔ a.kd = b.kd ∧ a.it = b.it ∧ a.tx = b.tx ∧ a.cr = b.cr ∧ a.nums = b.nums ∧ a.args = b.args := by
  cases a
  cases b
  simp only [Tm.mk.injEq]
theorem rd_at {l : List Int} {i : Nat} (h : i < l.length) : rd l (i : Int) = l[i] := by
  unfold rd
  rw [Int.toNat_natCast, List.getD_eq_getElem?_getD, List.getElem?_eq_getElem h]
  rfl
theorem rdS_at {l : List Tm} {i : Nat} (h : i < l.length) : rd_T27 (l.map toS) (i : Int) = toS l[i] := by
  unfold rd_T27
  rw [Int.toNat_natCast, List.getD_eq_getElem?_getD, List.getElem?_map, List.getElem?_eq_getElem h]
  rfl
section
variable {a b : Tm}
/-- The loop over two terms' parts. -/
theorem same_l1 (hl : a.args.length = b.args.length) (hm : a.args.length ≤ 9223372036854775807)
    (ih : ∀ (i : Nat) (h : i < a.args.length), Ev (fun k => heddleref02_Same.f k (toS a.args[i]).f0 (toS a.args[i]).f1 (toS a.args[i]).f2 (toS a.args[i]).f3 (toS a.args[i]).f4 (toS a.args[i]).f5 (toS (b.args[i]'(by omega))).f0 (toS (b.args[i]'(by omega))).f1 (toS (b.args[i]'(by omega))).f2 (toS (b.args[i]'(by omega))).f3 (toS (b.args[i]'(by omega))).f4 (toS (b.args[i]'(by omega))).f5) (sameT a.args[i] (b.args[i]'(by omega)))) :
    ∀ (d i : Nat), a.args.length - i = d → i ≤ a.args.length → ∃ r, (r = true ↔ a.args.drop i = b.args.drop i) ∧ Ev (fun k => heddleref02_Same.l1 k (i : Int) a.kd a.it a.tx a.cr a.nums (a.args.map toS) b.kd b.it b.tx b.cr b.nums (b.args.map toS)) r
  | 0, i, hd, hi => by
    refine ⟨true, ?_, Ev.step (f := fun _ => some true) (fun k => ?_) (Ev.now true)⟩
    · rw [List.drop_of_length_le (by omega), List.drop_of_length_le (by omega)]
      simp
    · simp only [heddleref02_Same.l1]
      rw [if_neg (by rw [List.length_map]; omega)]
  | d + 1, i, hd, hi => by
    have h1 : i < a.args.length := by omega
    have h2 : i < b.args.length := by omega
    obtain ⟨r, hr, he⟩ := same_l1 hl hm ih d (i + 1) (by omega) (by omega)
    have hw : wrap64 ((i : Int) + 1) = ((i + 1 : Nat) : Int) := by unfold wrap64; omega
    have hi1 := ih i h1
    by_cases heq : a.args[i] = b.args[i]
    · refine ⟨r, ?_, ?_⟩
      · rw [hr, List.drop_eq_getElem_cons h1, List.drop_eq_getElem_cons h2, heq]
        simp only [List.cons.injEq, true_and]
      · refine Ev.step (f := fun k => (heddleref02_Same.f k (toS a.args[i]).f0 (toS a.args[i]).f1 (toS a.args[i]).f2 (toS a.args[i]).f3 (toS a.args[i]).f4 (toS a.args[i]).f5 (toS b.args[i]).f0 (toS b.args[i]).f1 (toS b.args[i]).f2 (toS b.args[i]).f3 (toS b.args[i]).f4 (toS b.args[i]).f5).bind fun t => if t = true then heddleref02_Same.l1 k ((i + 1 : Nat) : Int) a.kd a.it a.tx a.cr a.nums (a.args.map toS) b.kd b.it b.tx b.cr b.nums (b.args.map toS) else some false) (fun k => ?_) ?_
        · simp only [heddleref02_Same.l1]
          rw [if_pos (by rw [List.length_map]; omega), if_pos (by omega), if_pos (by rw [List.length_map]; omega), rdS_at h1, rdS_at h2, hw]
        · refine Ev.bind (a := true) ?_ ?_
          · have := hi1
            rw [sameT_iff.2 heq] at this
            exact this
          · simp only [if_true]
            exact he
    · refine ⟨false, ?_, ?_⟩
      · rw [List.drop_eq_getElem_cons h1, List.drop_eq_getElem_cons h2]
        simp only [List.cons.injEq, heq, false_and]
        decide
      · refine Ev.step (f := fun k => (heddleref02_Same.f k (toS a.args[i]).f0 (toS a.args[i]).f1 (toS a.args[i]).f2 (toS a.args[i]).f3 (toS a.args[i]).f4 (toS a.args[i]).f5 (toS b.args[i]).f0 (toS b.args[i]).f1 (toS b.args[i]).f2 (toS b.args[i]).f3 (toS b.args[i]).f4 (toS b.args[i]).f5).bind fun t => if t = true then heddleref02_Same.l1 k ((i + 1 : Nat) : Int) a.kd a.it a.tx a.cr a.nums (a.args.map toS) b.kd b.it b.tx b.cr b.nums (b.args.map toS) else some false) (fun k => ?_) ?_
        · simp only [heddleref02_Same.l1]
          rw [if_pos (by rw [List.length_map]; omega), if_pos (by omega), if_pos (by rw [List.length_map]; omega), rdS_at h1, rdS_at h2, hw]
        · refine Ev.bind (a := false) ?_ ?_
          · have := hi1
            rw [sameT_false heq] at this
            exact this
          · exact Ev.congr (f := fun _ => some false) (fun k => by simp) (Ev.now false)
/-- The loop over two terms' numbers. -/
theorem same_l0 (hl : a.nums.length = b.nums.length) (hm : a.nums.length ≤ 9223372036854775807) {r : Bool}
    (h1 : Ev (fun k => heddleref02_Same.l1 k 0 a.kd a.it a.tx a.cr a.nums (a.args.map toS) b.kd b.it b.tx b.cr b.nums (b.args.map toS)) r) :
    ∀ (d i : Nat), a.nums.length - i = d → i ≤ a.nums.length → Ev (fun k => heddleref02_Same.l0 k (i : Int) a.kd a.it a.tx a.cr a.nums (a.args.map toS) b.kd b.it b.tx b.cr b.nums (b.args.map toS)) (decide (a.nums.drop i = b.nums.drop i) && r)
  | 0, i, hd, hi => by
    rw [List.drop_of_length_le (by omega), List.drop_of_length_le (by omega)]
    refine Ev.step (fun k => ?_) h1
    simp only [heddleref02_Same.l0]
    rw [if_neg (by omega)]
  | d + 1, i, hd, hi => by
    have h2 : i < a.nums.length := by omega
    have h3 : i < b.nums.length := by omega
    have he := same_l0 hl hm h1 d (i + 1) (by omega) (by omega)
    have hw : wrap64 ((i : Int) + 1) = ((i + 1 : Nat) : Int) := by unfold wrap64; omega
    rw [List.drop_eq_getElem_cons h2, List.drop_eq_getElem_cons h3]
    by_cases heq : a.nums[i] = b.nums[i]
    · rw [heq, show decide (b.nums[i] :: List.drop (i + 1) a.nums = b.nums[i] :: List.drop (i + 1) b.nums) = decide (List.drop (i + 1) a.nums = List.drop (i + 1) b.nums) by simp only [List.cons.injEq, true_and]]
      refine Ev.step (fun k => ?_) he
      simp only [heddleref02_Same.l0]
      rw [if_pos (by omega), if_pos (by omega), if_pos (by omega), rd_at h2, rd_at h3, if_pos heq, hw]
    · rw [show (decide (a.nums[i] :: List.drop (i + 1) a.nums = b.nums[i] :: List.drop (i + 1) b.nums) && r) = false by simp only [List.cons.injEq, heq, false_and, decide_false, Bool.false_and]]
      refine Ev.step (f := fun _ => some false) (fun k => ?_) (Ev.now false)
      simp only [heddleref02_Same.l0]
      rw [if_pos (by omega), if_pos (by omega), if_pos (by omega), rd_at h2, rd_at h3, if_neg heq]
theorem same_j0 (x : Bool) (hx : x = true) : Ev (fun k => heddleref02_Same.j0 k x a.kd a.it a.tx a.cr a.nums (a.args.map toS) b.kd b.it b.tx b.cr b.nums (b.args.map toS)) false := by
  refine Ev.step (f := fun _ => some false) (fun k => ?_) (Ev.now false)
  simp only [heddleref02_Same.j0]
  rw [if_pos hx]
end
theorem tl_eq {a b : ByteArray} : a.toList = b.toList ↔ a = b := by
  constructor
  · intro h
    rw [Lib.toList_data, Lib.toList_data] at h
    obtain ⟨⟨x⟩⟩ := a
    obtain ⟨⟨y⟩⟩ := b
    simp at h
    rw [h]
  · intro h
    rw [h]
theorem same_ev (a : Tm) : LenOk a → ∀ b, Ev (fun k => heddleref02_Same.f k a.kd a.it a.tx a.cr a.nums (a.args.map toS) b.kd b.it b.tx b.cr b.nums (b.args.map toS)) (sameT a b) := by
  induction a using Tm.ind with
  | h a ih =>
    intro hlen b
    obtain ⟨_, hn4, hn5, hna⟩ := hlen
    by_cases c0 : a.kd = b.kd
    · by_cases c1 : a.it = b.it
      · by_cases c2 : a.tx = b.tx
        · by_cases c3 : a.cr = b.cr
          · by_cases c4 : a.nums.length = b.nums.length
            · by_cases c5 : a.args.length = b.args.length
              · obtain ⟨r, hr, he⟩ := same_l1 (a := a) (b := b) c5 hn5 (fun i h => by
                  have h2 : i < b.args.length := by omega
                  have := ih a.args[i] (List.getElem_mem h) (hna _ (List.getElem_mem h)) b.args[i]
                  rw [toS_eq, toS_eq]
                  exact this) a.args.length 0 (by omega) (Nat.zero_le _)
                have h0 := same_l0 (a := a) (b := b) c4 hn4 he a.nums.length 0 (by omega) (Nat.zero_le _)
                rw [List.drop_zero, List.drop_zero] at h0 hr
                have hs : sameT a b = (decide (a.nums = b.nums) && r) := by
                  rw [Bool.eq_iff_iff, sameT_iff, Tm.eq_iff, Bool.and_eq_true, decide_eq_true_eq, hr]
                  simp [c0, c1, c2, c3]
                rw [hs]
                refine Ev.step (f := fun k => heddleref02_Same.j0 k false a.kd a.it a.tx a.cr a.nums (a.args.map toS) b.kd b.it b.tx b.cr b.nums (b.args.map toS)) (fun k => ?_) (Ev.step (fun k => ?_) h0)
                · simp only [heddleref02_Same.f]
                  rw [if_pos c0, if_pos c1, if_pos (tl_eq.2 c2), if_pos c3, if_pos (by omega)]
                  rw [show (((a.args.map toS).length : Int) != ((b.args.map toS).length : Int)) = false by simp [c5]]
                · simp only [heddleref02_Same.j0]
                  rw [if_neg (by simp)]
                  rfl
              · rw [sameT_false (fun e => c5 (by rw [e]))]
                refine Ev.step (fun k => ?_) (same_j0 (a := a) (b := b) (((a.args.map toS).length : Int) != ((b.args.map toS).length : Int)) (by simp; omega))
                simp only [heddleref02_Same.f]
                rw [if_pos c0, if_pos c1, if_pos (tl_eq.2 c2), if_pos c3, if_pos (by omega)]
            · rw [sameT_false (fun e => c4 (by rw [e]))]
              refine Ev.step (fun k => ?_) (same_j0 (a := a) (b := b) true rfl)
              simp only [heddleref02_Same.f]
              rw [if_pos c0, if_pos c1, if_pos (tl_eq.2 c2), if_pos c3, if_neg (by omega)]
          · rw [sameT_false (fun e => c3 (by rw [e]))]
            refine Ev.step (fun k => ?_) (same_j0 (a := a) (b := b) true rfl)
            simp only [heddleref02_Same.f]
            rw [if_pos c0, if_pos c1, if_pos (tl_eq.2 c2), if_neg c3]
        · rw [sameT_false (fun e => c2 (by rw [e]))]
          refine Ev.step (fun k => ?_) (same_j0 (a := a) (b := b) true rfl)
          simp only [heddleref02_Same.f]
          rw [if_pos c0, if_pos c1, if_neg (fun e => c2 (tl_eq.1 e))]
      · rw [sameT_false (fun e => c1 (by rw [e]))]
        refine Ev.step (fun k => ?_) (same_j0 (a := a) (b := b) true rfl)
        simp only [heddleref02_Same.f]
        rw [if_pos c0, if_neg c1]
    · rw [sameT_false (fun e => c0 (by rw [e]))]
      refine Ev.step (fun k => ?_) (same_j0 (a := a) (b := b) true rfl)
      simp only [heddleref02_Same.f]
      rw [if_neg c0]
/-- heddleref02.Same. -/
theorem ref02_Same {a b : Tm} {v u : Value} {w : World} (hv : TmIs w a v) (hu : TmIs w b u) :
    Calls Tryz.prog 24 #[v, u] w fun e w' => e = .returned (.bool (sameT a b)) ∧ Below w.heap.size w w' := by
  obtain ⟨A4, c4, A5, c5, rfl, hT⟩ := hv
  obtain ⟨B4, d4, B5, d5, rfl, hU⟩ := hu
  obtain ⟨g5, hm, hl⟩ := C_toS hT.g5
  obtain ⟨e5, _, _⟩ := C_toS hU.g5
  obtain ⟨k, hk⟩ := (same_ev a (.mk a hT.g4.2.1 hm hl) b).rounds
  have ha : (a.args.map toS).length = a.args.length := List.length_map _
  have hb : (b.args.map toS).length = b.args.length := List.length_map _
  have h := heddleref02_Same.calls k a.kd a.it a.tx a.cr A4 c4 a.nums A5 c5 (a.args.map toS) b.kd b.it b.tx b.cr B4 d4 b.nums B5 d5 (b.args.map toS) (sameT a b) w hT.g4 hT.l4 (by rw [ha]; exact g5) (by rw [ha]; exact hT.l5) hU.g4 hU.l4 (by rw [hb]; exact e5) (by rw [hb]; exact hU.l5) hk
  rw [ha, hb] at h
  exact h
end Go.Proofs.YtgapeacflkfmdaaGreatDoor
