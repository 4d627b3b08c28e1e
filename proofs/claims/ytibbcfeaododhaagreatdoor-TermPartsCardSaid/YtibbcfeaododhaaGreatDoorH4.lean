/-
 term: walk, Measure, Check. term: order, lists; slices.CompareFunc at order. term: lists, order. term: order, Compare, Equal. term: Compare, Equal. Plain Lean: a term's text is read as that term, with blanks behind its brackets, commas and bars or without. Plain Lean: a term's text is read as that term: the terms within terms; how long a text is. term's reader: its box, small steps. term's reader: text, take, digits. term's reader: number, whole.
-/
import Derived.Test.YtibbcfeaododhaaGreatDoorH3
import Derived.Lib.QuietBelow
import Derived.Orders
import Derived.OrdersHeld
import Derived.Test.YtibbcfeaododhaaGreatDoorH2
import Derived.Test.YtibbcfeaododhaaGreatDoorJShelf
import Derived.Test.YtibbcfeaododhaaGreatDoorH1
import Derived.Deep.RegionHeld3
import Derived.Deep.DrawnRows
import Derived.Laws.Runes
import Derived.WalkMore
namespace Go.Proofs.YtibbcfeaododhaaGreatDoor
open Go.RowKit Go.Proofs.YtibbcfeaododhaaGreatDoorW.PrintWords
mutual
/-- The texts within a term are of a size that a machine can hold. -/
def smT : Tm → Bool
 | ⟨_, _, tx, _, _, us⟩ => decide (tx.size ≤ 140737488351232) && smL us
def smL : List Tm → Bool
 | [] => true
 | a :: us => smT a && smL us
end
theorem smT_eq (t : Tm) : smT t = (decide (t.tx.size ≤ 140737488351232) && smL t.args) := by
 cases t
 rw [smT]
theorem sm_tx {t : Tm} (h : smT t = true) : t.tx.size ≤ 140737488351232 := by
 rw [smT_eq, Bool.and_eq_true, decide_eq_true_eq] at h
 exact h.1
theorem sm_args {t : Tm} (h : smT t = true) : smL t.args = true := by
 rw [smT_eq, Bool.and_eq_true] at h
 exact h.2
theorem smL_mem : ∀ {l : List Tm} {a : Tm}, smL l = true → a ∈ l → smT a = true
 | b :: l, a, h, hm => by
  rw [smL, Bool.and_eq_true] at h
  rcases List.mem_cons.1 hm with rfl | hm
  ·exact h.1
  ·exact smL_mem h.2 hm
theorem rdTm_mem {l : List Tm} {k : Nat} (h : k < l.length) : rdTm l (k : Int) = l[k] ∧ rdTm l (k : Int) ∈ l := by
 have e : rdTm l (k : Int) = l[k] := by
  unfold rdTm
  rw [Int.toNat_natCast, List.getD_eq_getElem?_getD, List.getElem?_eq_getElem h]
  rfl
 exact ⟨e, by rw [e]; exact List.getElem_mem _⟩
theorem meas_range (t : Tm) : ∀ d n m, 0 ≤ n → n ≤ 4096 → 0 ≤ m → m ≤ 256 → 0 ≤ d → (measT t d n m).1 = [] → 0 ≤ (measT t d n m).2.1 ∧ (measT t d n m).2.1 ≤ 4096 ∧ 0 ≤ (measT t d n m).2.2 ∧ (measT t d n m).2.2 ≤ 256 := by
 induction t using Tm.ind with
 | h t ih =>
  intro d n m hn0 hn1 hm0 hm1 hd h
  rw [measT_eq] at h ⊢
  by_cases h1 : n = 4096
  ·rw [if_pos h1] at h
   cases h
  rw [if_neg h1] at h ⊢
  by_cases h2 : 256 < d
  ·rw [if_pos h2] at h
   cases h
  rw [if_neg h2] at h ⊢
  cases hf : formBad t n with
  | cons x r => rw [hf] at h; cases h
  | nil =>
   rw [hf] at h
   simp only at h ⊢
   have hl : ∀ (l : List Tm), (∀ a ∈ l, a ∈ t.args) → ∀ n m, 0 ≤ n → n ≤ 4096 → 0 ≤ m → m ≤ 256 → (measL l (d + 1) n m).1 = [] → 0 ≤ (measL l (d + 1) n m).2.1 ∧ (measL l (d + 1) n m).2.1 ≤ 4096 ∧ 0 ≤ (measL l (d + 1) n m).2.2 ∧ (measL l (d + 1) n m).2.2 ≤ 256 := by
    intro l
    induction l with
    | nil => intro _ n m a1 a2 a3 a4 _; rw [measL]; exact ⟨a1, a2, a3, a4⟩
    | cons a l ihl =>
     intro hs n m a1 a2 a3 a4 h
     rw [measL] at h ⊢
     match he : measT a (d + 1) n m with
     | ([], n', m') =>
      rw [he] at h
      simp only at h ⊢
      have hb := ih a (hs a (by simp)) (d + 1) n m a1 a2 a3 a4 (by omega) (by rw [he])
      rw [he] at hb
      exact ihl (fun x hx => hs x (by simp [hx])) n' m' hb.1 hb.2.1 hb.2.2.1 hb.2.2.2 h
     | (x :: r, n', m') => rw [he] at h; cases h
   exact hl t.args (fun _ h => h) _ _ (by omega) (by omega) (by omega) (by omega) h
/-- The walker: how many parts, how deep. -/
structure WkAt (W : World) (b : Nat) (n m : Int) : Prop where
 c0 : W.cell? ⟨b, 0, none⟩ = some (.int .i64 n)
 c1 : W.cell? ⟨b, 1, none⟩ = some (.int .i64 m)
 f0 : W.frozen? ⟨b, 0, none⟩ = false
 f1 : W.frozen? ⟨b, 1, none⟩ = false
theorem WkAt.lt {W : World} {b : Nat} {n m : Int} (h : WkAt W b n m) : b < W.heap.size := World.block_lt_of_cell? W _ h.c0
theorem WkAt.below {W W' : World} {b k : Nat} {n m : Int} (h : WkAt W b n m) (hb : Below k W W') (hk : b < k) : WkAt W' b n m :=
 ⟨(hb.cell hk).trans h.c0, (hb.cell hk).trans h.c1, (hb.frozen hk).trans h.f0, (hb.frozen hk).trans h.f1⟩
theorem WkAt.put {W : World} {b : Nat} {n m : Int} (h : WkAt W b n m) (n' m' : Int) : WkAt ((W.setCell ⟨b, 0, none⟩ (.int .i64 n')).setCell ⟨b, 1, none⟩ (.int .i64 m')) b n' m' := by
 obtain ⟨c0, c1, f0, f1⟩ := h
 constructor <;> simp [World.cell?_setCell_other, World.cell?_setCell_same, World.frozen?_setCell, *]
/-- What a part's walk leaves. -/
def WalkPost (w : World) (b : Nat) (r : Meas) (e : Ending) (w' : World) : Prop := ∃ v, e = .returned v ∧ ErrIs w' r.1 v ∧ Below b w w' ∧ (r.1 = [] → WkAt w' b r.2.1 r.2.2)
set_option maxRecDepth 100000 in
set_option maxHeartbeats 8000000 in
theorem term_walk (w0 : World) (hG0 : Glob w0) (b : Nat) (hb0 : w0.heap.size ≤ b) (t : Tm) : ∀ (A4 A5 : Option Addr) (c4 c5 : Nat) (d n m : Int) (w : World), TmR w0 t A4 c4 A5 c5 → Below w0.heap.size w0 w → WkAt w b n m → smT t = true →
  0 ≤ n → n ≤ 4096 → 0 ≤ m → m ≤ 256 → 1 ≤ d → d ≤ 257 →
  Calls Tryz.prog 66 #[.pointer (some ⟨b, 0, none⟩), tmV t (.slice A4 t.nums.length c4) (.slice A5 t.args.length c5), .int .i64 d] w (WalkPost w b (measT t d n m)) := by
 induction t using Tm.ind with
 | h t ih =>
  intro A4 A5 c4 c5 d n m w hR hB hW hsm hn0 hn1 hm0 hm1 hd0 hd1
  have HIH := Lib.hid ih
  have HR := Lib.hid hR
  have HB := Lib.hid hB
  have HW := Lib.hid hW
  have HG0 := Lib.hid hG0
  have HSM := Lib.hid hsm
  have hr := measT_eq t d n m
  generalize measT t d n m = R at hr ⊢
  have hW1 : WkAt (w.alloc (.cells #[.int .i64 t.kd, .int .i64 t.it, .string t.tx, .int .u32 t.cr, .slice A4 t.nums.length c4, .slice A5 t.args.length c5] 27)) b n m := hW.below (below_alloc (Below.refl _ _) _) hW.lt
  have HT1 := Lib.hid (TmAt.new w t (.slice A4 t.nums.length c4) (.slice A5 t.args.length c5))
  have hbw : b ≤ w.heap.size := Nat.le_of_lt hW.lt
  have HB1 := Lib.hid (below_alloc (Below.refl w.heap.size w) (.cells #[.int .i64 t.kd, .int .i64 t.it, .string t.tx, .int .u32 t.cr, .slice A4 t.nums.length c4, .slice A5 t.args.length c5] 27))
  have hlt1 : b < w.heap.size := hW.lt
  clear ih hR hB hW hG0 hsm
  unfold tmV
  go_enter Tryz.func66, Tryz.ntmps66
  go_upto_region 1 with (fail)
  obtain ⟨w1, hw1⟩ : ∃ W, W = w.alloc (.cells #[.int .i64 t.kd, .int .i64 t.it, .string t.tx, .int .u32 t.cr, .slice A4 t.nums.length c4, .slice A5 t.args.length c5] 27) := ⟨_, rfl⟩
  rw [← hw1] at hW1 HT1 HB1
  rw [← hw1]
  clear hw1
  have hlt2 : w.heap.size < w1.heap.size := HT1.out.lt
  have HBA : Hid (Below b w w1) := Lib.hid (HB1.out.mono hbw)
  have r0 := hW1.c0
  have r1 := hW1.c1
  have g0 := hW1.f0
  have g1 := hW1.f1
  have HW1 := Lib.hid hW1
  clear hW1
  by_cases h1 : n = 4096
  ·have d1 : (n == 4096) = true := beq_iff_eq.2 h1
   rw [if_pos h1] at hr
   have HQ := Lib.hid hr
   clear hr h1
   go_wp2_with fail
   refine (term_fault _ _ _ _ [] rfl).mono ?_
   rintro e w2 ⟨ve, rfl, hE, hB2⟩
   have HE2 := Lib.hid hE
   have HB2 : Hid (Below b w w2) := Lib.hid (HBA.out.trans (hB2.mono (by omega)))
   clear hE hB2
   go_wp2_with fail
   go_ret
   exact ⟨_, rfl, by rw [HQ.out]; exact HE2.out, HB2.out, fun h => by rw [HQ.out] at h; cases h⟩
  ·have d1 : (n == 4096) = false := beq_eq_false_iff_ne.2 h1
   rw [if_neg h1] at hr
   by_cases h2 : 256 < d
   ·have d2 : decide (d > 256) = true := decide_eq_true h2
    rw [if_pos h2] at hr
    have HQ := Lib.hid hr
    clear hr h1
    go_wp2_with fail
    refine (term_fault _ _ _ _ [] rfl).mono ?_
    rintro e w2 ⟨ve, rfl, hE, hB2⟩
    have HE2 := Lib.hid hE
    have HB2 : Hid (Below b w w2) := Lib.hid (HBA.out.trans (hB2.mono (by omega)))
    clear hE hB2
    go_wp2_with fail
    go_ret
    exact ⟨_, rfl, by rw [HQ.out]; exact HE2.out, HB2.out, fun h => by rw [HQ.out] at h; cases h⟩
   ·have d2 : decide (d > 256) = false := decide_eq_false h2
    rw [if_neg h2] at hr
    have t0 := HT1.out.c0
    have t1 := HT1.out.c1
    have t2 := HT1.out.c2
    have t3 := HT1.out.c3
    have t4 := HT1.out.c4
    have t5 := HT1.out.c5
    have HBW : Hid (Below w0.heap.size w0 w1) := Lib.hid (trans_below HB.out HB1.out)
    have HR0 := Lib.hid hr
    clear hr
    go_wp2_with fail
    refine (term_form t A4 A5 c4 c5 n w1 (HR.out.below HBW.out) (sm_tx HSM.out) (HG0.out.below HBW.out)).mono ?_
    rintro e w2 ⟨ve, rfl, hE, hB2⟩
    clear t0 t1 t2 t3 t4 t5
    have hr := HR0.out
    clear HR0
    cases hf : formBad t n with
    | cons x r =>
     rw [hf] at hr hE
     have HQ := Lib.hid hr
     have HE := Lib.hid hE
     obtain ⟨eb, u, rfl, _⟩ := hE
     have HB2 : Hid (Below b w w2) := Lib.hid (HBA.out.trans (hB2.mono (by omega)))
     clear hr hf hB2
     go_wp2_with fail
     go_ret
     exact ⟨_, rfl, by rw [HQ.out]; exact HE.out, HB2.out, fun h => by rw [HQ.out] at h; cases h⟩
    | nil =>
     rw [hf] at hr hE
     obtain rfl : ve = .nilIface := hE
     simp only at hr
     have HB2 := Lib.hid hB2
     have HW2 := Lib.hid (HW1.out.below HB2.out (by omega))
     have HT2 := Lib.hid (HT1.out.below HB2.out hlt2)
     have HBB : Hid (Below b w w2) := Lib.hid (HBA.out.trans (HB2.out.mono (by omega)))
     have hsz2 : w1.heap.size ≤ w2.heap.size := HB2.out.size
     have r0 := HW2.out.c0
     have r1 := HW2.out.c1
     have g0 := HW2.out.f0
     have g1 := HW2.out.f1
     have t5 := HT2.out.c5
     have HQ := Lib.hid hr
     clear hr hf hB2
     go_wp2_with fail
     have hW3 : WkAt ((w2.setCell ⟨b, 0, none⟩ (.int .i64 (n + 1))).setCell ⟨b, 1, none⟩ (.int .i64 (max m d))) b (n + 1) (max m d) := HW2.out.put _ _
     have HB3 : Hid (Below b w ((w2.setCell ⟨b, 0, none⟩ (.int .i64 (n + 1))).setCell ⟨b, 1, none⟩ (.int .i64 (max m d)))) := Lib.hid ((HBB.out.setCell (Nat.le_refl _) _).setCell (Nat.le_refl _) _)
     have hsz3 : ((w2.setCell ⟨b, 0, none⟩ (.int .i64 (n + 1))).setCell ⟨b, 1, none⟩ (.int .i64 (max m d))).heap.size = w2.heap.size := by simp
     obtain ⟨w3, hw3⟩ : ∃ W, W = (w2.setCell ⟨b, 0, none⟩ (.int .i64 (n + 1))).setCell ⟨b, 1, none⟩ (.int .i64 (max m d)) := ⟨_, rfl⟩
     rw [← hw3] at hW3 HB3 hsz3
     rw [← hw3]
     clear hw3
     have HW3 := Lib.hid hW3
     have hk0 := HR.out.g5.2.1
     clear hW3 r0 r1 g0 g1 t5
     have HS : Hid (measL (t.args.drop 0) (d + 1) (n + 1) (max m d) = R) := Lib.hid HQ.out.symm
     have hb1 : 0 ≤ max m d ∧ max m d ≤ 256 := by omega
     clear HQ
     go_loopg [51] t.args.length (fun gk vi wl => ∃ (k : Nat) (n' m' : Int), vi = .int .i64 (k : Int) ∧ gk = t.args.length - k ∧ k ≤ t.args.length ∧ 0 ≤ n' ∧ n' ≤ 4096 ∧ 0 ≤ m' ∧ m' ≤ 256 ∧ Hid (measL (t.args.drop k) (d + 1) n' m' = R) ∧ Hid (WkAt wl b n' m') ∧ Hid (Below b w wl) ∧ b < wl.heap.size)
     case atStart => exact ⟨0, _, _, rfl, rfl, Nat.zero_le _, by omega, by omega, hb1.1, hb1.2, HS, HW3, HB3, by omega⟩
     case round =>
      clear HS HW3 HB3 hb1 HW2 HT2 HBB
      obtain ⟨k, n', m', rfl, hgk, hk, a0, a1, a2, a3, HS, HWl, HBl, hbl⟩ := hrel
      have HK := Lib.hid hgk
      clear hgk
      by_cases hlt : k < t.args.length
      ·have HBWl : Hid (Below w0.heap.size w0 wr) := Lib.hid (HB.out.trans (HBl.out.mono hb0))
       obtain ⟨ad, A4', c4', A5', c5', hA, q0, q1, q2, q3, q4, q5, hTR⟩ := atTm HR.out.g5 (k : Int) (by omega) (by omega)
       subst hA
       simp only [Int.toNat_natCast] at q0 q1 q2 q3 q4 q5
       replace q0 := (HBWl.out.cell (World.block_lt_of_cell? w0 _ q0)).trans q0
       replace q1 := (HBWl.out.cell (World.block_lt_of_cell? w0 _ q1)).trans q1
       replace q2 := (HBWl.out.cell (World.block_lt_of_cell? w0 _ q2)).trans q2
       replace q3 := (HBWl.out.cell (World.block_lt_of_cell? w0 _ q3)).trans q3
       replace q4 := (HBWl.out.cell (World.block_lt_of_cell? w0 _ q4)).trans q4
       replace q5 := (HBWl.out.cell (World.block_lt_of_cell? w0 _ q5)).trans q5
       obtain ⟨hge, hmem⟩ := rdTm_mem hlt
       have hs := HS.out
       rw [List.drop_eq_getElem_cons hlt, measL, ← hge] at hs
       generalize rdTm t.args (k : Int) = a at q0 q1 q2 q3 q4 q5 hTR hs hmem
       have HTR := Lib.hid hTR
       have HSS := Lib.hid hs
       have HMEM := Lib.hid hmem
       have y0 : (0 : Int) ≤ (k : Int) := by omega
       have y1 : (k : Int) < (t.args.length : Int) := by omega
       clear hTR hs hmem hge HS
       go_wp2_with fail
       have hB4 := below_alloc (Below.refl wr.heap.size wr) (.cells #[.int .i64 a.kd, .int .i64 a.it, .string a.tx, .int .u32 a.cr, .slice A4' a.nums.length c4', .slice A5' a.args.length c5'] 27)
       refine (HIH.out a HMEM.out A4' A5' c4' c5' (d + 1) n' m' _ HTR.out (HBWl.out.trans (hB4.mono HBWl.out.size)) (HWl.out.below hB4 hbl) (smL_mem (sm_args HSM.out) HMEM.out) a0 a1 a2 a3 (by omega) (by omega)).mono ?_
       rintro e w5 ⟨ve, rfl, hE, hB5, hW5⟩
       have HB5 : Hid (Below b w w5) := Lib.hid ((HBl.out.trans (hB4.mono (by omega))).trans hB5)
       have hs := HSS.out
       clear hB4 hB5 q0 q1 q2 q3 q4 q5
       have hrg := meas_range a (d + 1) n' m' a0 a1 a2 a3 (by omega)
       generalize measT a (d + 1) n' m' = ra at hE hW5 hs hrg
       obtain ⟨la, na, ma⟩ := ra
       cases la with
       | cons x r =>
        have HQ := Lib.hid hs.symm
        have HE := Lib.hid hE
        obtain ⟨eb, u, rfl, _⟩ := hE
        clear hs hW5 hrg
        go_wp2_with fail
        go_ret
        exact ⟨_, rfl, by rw [HQ.out]; exact HE.out, HB5.out, fun h => by rw [HQ.out] at h; cases h⟩
       | nil =>
        obtain rfl : ve = .nilIface := hE
        have HW5 := Lib.hid (hW5 rfl)
        have hg9 := hrg rfl
        clear hrg
        have HSN : Hid (measL (t.args.drop (k + 1)) (d + 1) na ma = R) := Lib.hid hs
        simp only at hg9
        have hl5 := HW5.out.lt
        clear hs hW5
        go_wp2_with fail
        go_roundg (t.args.length - (k + 1))
        case measure => rw [HK.out]; omega
        case rel => exact ⟨k + 1, na, ma, by go_num, rfl, by omega, hg9.1, hg9.2.1, hg9.2.2.1, hg9.2.2.2, HSN, HW5, HB5, hl5⟩
      ·have hs := HS.out
       rw [List.drop_eq_nil_of_le (by omega), measL] at hs
       have HQ := Lib.hid hs.symm
       have d0 : decide (k < t.args.length) = false := decide_eq_false hlt
       clear hs HS
       go_wp2_with fail
       go_ret
       exact ⟨_, rfl, by rw [HQ.out]; rfl, HBl.out, fun _ => by rw [HQ.out]; exact HWl.out⟩
/-! ### Measure, Check -/
theorem WkAt.new (w : World) : WkAt (w.alloc (.cells #[.int .i64 0, .int .i64 0] 107)) w.heap.size 0 0 := by
 constructor <;> simp
def MeasPost (w : World) (r : Meas) (e : Ending) (w' : World) : Prop := ∃ v, e = .returned (.tuple #[.int .i64 (if r.1 = [] then r.2.1 else 0), .int .i64 (if r.1 = [] then r.2.2 else 0), v]) ∧ ErrIs w' r.1 v ∧ Below w.heap.size w w'
set_option maxRecDepth 100000 in
set_option maxHeartbeats 2000000 in
theorem term_Measure (t : Tm) (A4 A5 : Option Addr) (c4 c5 : Nat) (w : World) (hR : TmR w t A4 c4 A5 c5) (hsm : smT t = true) (hG : Glob w) :
  Calls Tryz.prog 38 #[tmV t (.slice A4 t.nums.length c4) (.slice A5 t.args.length c5)] w (MeasPost w (measure t)) := by
 have HT1 := Lib.hid (TmAt.new w t (.slice A4 t.nums.length c4) (.slice A5 t.args.length c5))
 have hB1 := below_alloc (Below.refl w.heap.size w) (.cells #[.int .i64 t.kd, .int .i64 t.it, .string t.tx, .int .u32 t.cr, .slice A4 t.nums.length c4, .slice A5 t.args.length c5] 27)
 obtain ⟨R, hr⟩ : ∃ R, R = measure t := ⟨_, rfl⟩
 rw [← hr]
 have HQ := Lib.hid hr
 clear hr
 unfold tmV
 go_enter Tryz.func38, Tryz.ntmps38
 go_upto_region 1 with (fail)
 obtain ⟨w1, hw1⟩ : ∃ W, W = w.alloc (.cells #[.int .i64 t.kd, .int .i64 t.it, .string t.tx, .int .u32 t.cr, .slice A4 t.nums.length c4, .slice A5 t.args.length c5] 27) := ⟨_, rfl⟩
 rw [← hw1] at HT1 hB1
 rw [← hw1]
 clear hw1
 have hB2 := below_alloc (Below.refl w1.heap.size w1) (.cells #[.int .i64 0, .int .i64 0] 107)
 have hW2 := WkAt.new w1
 have hT2 := HT1.out.below hB2 HT1.out.lt
 have hsz2 : w.heap.size < w1.heap.size := HT1.out.lt
 go_upto_region 2 with (fail)
 obtain ⟨w2, hw2⟩ : ∃ W, W = w1.alloc (.cells #[.int .i64 0, .int .i64 0] 107) := ⟨_, rfl⟩
 rw [← hw2] at hB2 hW2 hT2
 rw [← hw2]
 clear hw2
 have HB2 : Hid (Below w.heap.size w w2) := Lib.hid (trans_below hB1 hB2)
 have HW := Lib.hid (term_walk w hG w1.heap.size (Nat.le_of_lt hsz2) t A4 A5 c4 c5 1 0 0 w2 hR HB2.out hW2 hsm (by decide) (by decide) (by decide) (by decide) (by decide) (by decide))
 have t0 := hT2.c0
 have t1 := hT2.c1
 have t2 := hT2.c2
 have t3 := hT2.c3
 have t4 := hT2.c4
 have t5 := hT2.c5
 have hBA : Below w.heap.size w w1 := hB1
 have HBA := Lib.hid hBA
 clear hR hsm hG HT1 hB1 hB2 hW2 hT2 hBA
 go_wp2_with fail
 refine HW.out.mono ?_
 rintro e w3 ⟨ve, rfl, hE, hB3, hW3⟩
 have HB3 : Hid (Below w.heap.size w w3) := Lib.hid (HB2.out.trans (hB3.mono (by omega)))
 rw [show measT t 1 0 0 = R from HQ.out.symm] at hE hW3
 clear HQ hB3 t0 t1 t2 t3 t4 t5 HW
 obtain ⟨l, n, m⟩ := R
 cases l with
 | cons x r =>
  have HE := Lib.hid hE
  obtain ⟨eb, u, rfl, _⟩ := hE
  clear hW3
  go_wp2_with fail
  go_ret3
  exact ⟨_, rfl, HE.out, HB3.out⟩
 | nil =>
  obtain rfl : ve = .nilIface := hE
  have r0 := (hW3 rfl).c0
  have r1 := (hW3 rfl).c1
  simp only at r0 r1
  clear hW3
  go_wp2_with fail
  go_quiet (fail)
  go_wp2_with fail
  go_ret3
  exact ⟨_, rfl, rfl, trans_below HB3.out (by repeat (first | exact Below.refl _ _ | apply pw_below_drewN))⟩
set_option maxRecDepth 100000 in
theorem term_Check (t : Tm) (A4 A5 : Option Addr) (c4 c5 : Nat) (w : World) (hR : TmR w t A4 c4 A5 c5) (hsm : smT t = true) (hG : Glob w) :
  Calls Tryz.prog 30 #[tmV t (.slice A4 t.nums.length c4) (.slice A5 t.args.length c5)] w (ErrPost w (chk t)) := by
 have HT1 := TmAt.new w t (.slice A4 t.nums.length c4) (.slice A5 t.args.length c5)
 have hB1 := below_alloc (Below.refl w.heap.size w) (.cells #[.int .i64 t.kd, .int .i64 t.it, .string t.tx, .int .u32 t.cr, .slice A4 t.nums.length c4, .slice A5 t.args.length c5] 27)
 have HW := Lib.hid (term_Measure t A4 A5 c4 c5 _ (hR.below hB1) hsm (hG.below hB1))
 have HB1 := Lib.hid hB1
 clear hR hsm hG hB1 HT1
 unfold tmV
 unfold tmV at HW
 go_enter Tryz.func30, Tryz.ntmps30
 go_wp2_with fail
 refine HW.out.mono ?_
 rintro e w3 ⟨ve, rfl, hE, hB3⟩
 have HE := Lib.hid hE
 have HB3 := Lib.hid (trans_below HB1.out hB3)
 clear hE hB3 HW HB1
 generalize (if (measure t).1 = [] then (measure t).2.1 else 0) = i1
 generalize (if (measure t).1 = [] then (measure t).2.2 else 0) = i2
 go_wp2_with fail
 go_ret
 exact ⟨_, rfl, HE.out, HB3.out⟩
end Go.Proofs.YtibbcfeaododhaaGreatDoor
namespace Go.Proofs.YtibbcfeaododhaaGreatDoor
open Go.RowKit Go.Proofs.YtibbcfeaododhaaGreatDoorW.PrintWords
def OrdPost (w : World) (r : Int) (e : Ending) (w' : World) : Prop := e = .returned (.int .i64 r) ∧ Below w.heap.size w w'
/-- The two terms in blocks of their own. -/
theorem two_boxes (w : World) (a b : Tm) (v4 v5 u4 u5 : Value) :
  ∃ w1, w1 = (w.alloc (.cells #[.int .i64 a.kd, .int .i64 a.it, .string a.tx, .int .u32 a.cr, v4, v5] 27)).alloc (.cells #[.int .i64 b.kd, .int .i64 b.it, .string b.tx, .int .u32 b.cr, u4, u5] 27) ∧
   TmAt w1 w.heap.size a v4 v5 ∧ TmAt w1 (w.heap.size + 1) b u4 u5 ∧ Below w.heap.size w w1 := by
 refine ⟨_, rfl, ?_, ?_, below_alloc (below_alloc (Below.refl _ _) _) _⟩
 ·exact (TmAt.new w a v4 v5).below (below_alloc (Below.refl _ _) _) (by simp)
 ·have h := TmAt.new (w.alloc (.cells #[.int .i64 a.kd, .int .i64 a.it, .string a.tx, .int .u32 a.cr, v4, v5] 27)) b u4 u5
  simpa using h
/-- Terms of different kinds. -/
theorem order_ne (a b : Tm) (A4 A5 B4 B5 : Option Addr) (c4 c5 d4 d5 : Nat) (w : World) (h : a.kd ≠ b.kd) :
  Calls Tryz.prog 40 #[tmV a (.slice A4 a.nums.length c4) (.slice A5 a.args.length c5), tmV b (.slice B4 b.nums.length d4) (.slice B5 b.args.length d5)] w (OrdPost w (ordT a b)) := by
 have e : ordT a b = cmpI a.kd b.kd := by rw [ordT_eq, if_pos h]
 rw [e]
 have HC := Lib.hid (cmp_kind a.kd b.kd)
 generalize cmpI a.kd b.kd = C at HC ⊢
 have dn : (a.kd != b.kd) = true := bne_iff_ne.2 h
 clear e
 obtain ⟨w1, hw1, hTa, hTb, hB1⟩ := two_boxes w a b (.slice A4 a.nums.length c4) (.slice A5 a.args.length c5) (.slice B4 b.nums.length d4) (.slice B5 b.args.length d5)
 unfold tmV
 go_enter Tryz.func40, Tryz.ntmps40
 go_upto_region 1 with (fail)
 rw [← hw1]
 have hsz1 : w.heap.size + 1 < w1.heap.size := hTb.lt
 clear hw1
 have HTa := Lib.hid hTa
 have HTb := Lib.hid hTb
 have HB1 := Lib.hid hB1
 clear hTa hTb hB1
 have a0 := HTa.out.c0
 have b0 := HTb.out.c0
 go_wp2_with fail
 refine (HC.out _).mono ?_
 rintro e w' ⟨rfl, rfl⟩
 go_wp2_with fail
 go_ret
 exact ⟨rfl, HB1.out⟩
/-- What order says of a term held against any other. -/
def OrdSays (a : Tm) : Prop := ∀ (b : Tm) (A4 A5 B4 B5 : Option Addr) (c4 c5 d4 d5 : Nat) (w : World), TmR w a A4 c4 A5 c5 → TmR w b B4 d4 B5 d5 → okT a = true → okT b = true →
 Calls Tryz.prog 40 #[tmV a (.slice A4 a.nums.length c4) (.slice A5 a.args.length c5), tmV b (.slice B4 b.nums.length d4) (.slice B5 b.args.length d5)] w (OrdPost w (ordT a b))
/-- An element's cells, in a later world. -/
theorem elem_at {w W : World} (hB : Below w.heap.size w W) {A : Option Addr} {l : List Tm} (h : kTm.C w A l.length l) (k : Nat) (hk : k < l.length) :
  ∃ ad A4 c4 A5 c5, A = some ad ∧ W.cell? (ad.add (k * 6)) = some (.int .i64 l[k].kd) ∧ W.cell? ⟨(ad.add (k * 6)).block, (ad.add (k * 6)).off + 1, none⟩ = some (.int .i64 l[k].it) ∧
  W.cell? ⟨(ad.add (k * 6)).block, (ad.add (k * 6)).off + 2, none⟩ = some (.string l[k].tx) ∧ W.cell? ⟨(ad.add (k * 6)).block, (ad.add (k * 6)).off + 3, none⟩ = some (.int .u32 l[k].cr) ∧ W.cell? ⟨(ad.add (k * 6)).block, (ad.add (k * 6)).off + 4, none⟩ = some (.slice A4 l[k].nums.length c4) ∧
  W.cell? ⟨(ad.add (k * 6)).block, (ad.add (k * 6)).off + 5, none⟩ = some (.slice A5 l[k].args.length c5) ∧ TmR W l[k] A4 c4 A5 c5 := by
 obtain ⟨ad, A4, c4, A5, c5, hA, q0, q1, q2, q3, q4, q5, hTR⟩ := atTm (Kd.C_below h hB) (k : Int) (by omega) (by omega)
 rw [(rdTm_mem hk).1] at q0 q1 q2 q3 q4 q5 hTR
 simp only [Int.toNat_natCast] at q0 q1 q2 q3 q4 q5
 exact ⟨ad, A4, c4, A5, c5, hA, q0, q1, q2, q3, q4, q5, hTR⟩
set_option maxRecDepth 100000 in
set_option maxHeartbeats 4000000 in
theorem compareFunc (l m : List Tm) (A B : Option Addr) (c d : Nat) (w : World) (hA : kTm.C w A l.length l) (hB : kTm.C w B m.length m) (hIH : ∀ x ∈ l, OrdSays x) (hl : okL l = true) (hm : okL m = true) :
  Calls Tryz.prog 74 #[.slice A l.length c, .slice B m.length d, .func (.func 40) #[] #[]] w (OrdPost w (ordP l m)) := by
 have hE := callFunc_in Tryz.func40 (by kernel_rfl) rfl
 obtain ⟨R, hR⟩ : ∃ R, R = ordP l m := ⟨_, rfl⟩
 rw [← hR]
 have H0 : Hid (ordP (l.drop 0) (m.drop 0) = R) := Lib.hid hR.symm
 have HA := Lib.hid hA
 have HB := Lib.hid hB
 have HI := Lib.hid hIH
 have HL := Lib.hid hl
 have HM := Lib.hid hm
 have hla := hA.2.1
 have hlb := hB.2.1
 clear hR hA hB hIH hl hm
 go_enter Tryz.func74, Tryz.ntmps74
 go_wp2_with fail
 go_loopg [13] l.length (fun gk vi wl => ∃ k : Nat, vi = .int .i64 (k : Int) ∧ gk = l.length - k ∧ k ≤ l.length ∧ k ≤ m.length ∧ Hid (ordP (l.drop k) (m.drop k) = R) ∧ Hid (Below w.heap.size w wl))
 case atStart => exact ⟨0, rfl, rfl, Nat.zero_le _, Nat.zero_le _, H0, Lib.hid (Below.refl _ _)⟩
 case round =>
  clear H0
  obtain ⟨k, rfl, hgk, hk, hkb, HR, HW⟩ := hrel
  have HK := Lib.hid hgk
  clear hgk
  by_cases hlt : k < l.length
  ·have y0 : (0 : Int) ≤ (k : Int) := by omega
   have y1 : (k : Int) < (l.length : Int) := by omega
   have hr := HR.out
   rw [List.drop_eq_getElem_cons hlt] at hr
   obtain ⟨ad, A4, c4, A5, c5, rfl, a0, a1, a2, a3, a4, a5, hTa⟩ := elem_at HW.out HA.out k hlt
   have HXM := Lib.hid (HI.out l[k] (List.getElem_mem _))
   have HXO := Lib.hid (okL_mem HL.out (List.getElem_mem hlt))
   obtain ⟨w5, hw5⟩ : ∃ W, W = wr.alloc (.cells #[.int .i64 l[k].kd, .int .i64 l[k].it, .string l[k].tx, .int .u32 l[k].cr, .slice A4 l[k].nums.length c4, .slice A5 l[k].args.length c5] 27) := ⟨_, rfl⟩
   have hB5 : Below wr.heap.size wr w5 := by rw [hw5]; exact below_alloc (Below.refl _ _) _
   have HW5 : Hid (Below w.heap.size w w5) := Lib.hid (trans_below HW.out hB5)
   have hX5 : TmAt w5 wr.heap.size l[k] (.slice A4 l[k].nums.length c4) (.slice A5 l[k].args.length c5) := by rw [hw5]; exact TmAt.new _ _ _ _
   have HX5 := Lib.hid hX5
   have hT5 := hTa.below hB5
   have HE5 := Lib.hid hw5
   clear hX5 hTa hw5
   by_cases hlt2 : k < m.length
   ·obtain ⟨bd, B4, d4, B5, d5, rfl, b0, b1, b2, b3, b4, b5, hTb⟩ := elem_at HW5.out HB.out k hlt2
    have HYO := Lib.hid (okL_mem HM.out (List.getElem_mem hlt2))
    have y2 : (k : Int) < (m.length : Int) := by omega
    have d1 : decide (k ≥ m.length) = false := decide_eq_false (by omega)
    rw [List.drop_eq_getElem_cons hlt2, ordP] at hr
    generalize l[k] = x at hr a0 a1 a2 a3 a4 a5 hT5 HXM HXO HX5 HE5
    generalize m[k] = y at hr b0 b1 b2 b3 b4 b5 hTb HYO
    have HRR := Lib.hid hr
    obtain ⟨w6, hw6⟩ : ∃ W, W = w5.alloc (.cells #[.int .i64 y.kd, .int .i64 y.it, .string y.tx, .int .u32 y.cr, .slice B4 y.nums.length d4, .slice B5 y.args.length d5] 27) := ⟨_, rfl⟩
    have hB6 : Below w5.heap.size w5 w6 := by rw [hw6]; exact below_alloc (Below.refl _ _) _
    have hX6 := HX5.out.below hB6 HX5.out.lt
    have hY6 : TmAt w6 w5.heap.size y (.slice B4 y.nums.length d4) (.slice B5 y.args.length d5) := by rw [hw6]; exact TmAt.new _ _ _ _
    have HT6 := Lib.hid (hT5.below hB6)
    have HU6 := Lib.hid (hTb.below hB6)
    have HW6 : Hid (Below w.heap.size w w6) := Lib.hid (trans_below HW5.out hB6)
    have HE6 := Lib.hid hw6
    clear hT5 hTb hr HR hB5 hB6 hw6
    go_upto_region 6 with (fail)
    rw [← HE5.out]
    clear a0 a1 a2 a3 a4 a5
    go_upto_region 7 with (fail)
    rw [← HE6.out]
    clear b0 b1 b2 b3 b4 b5
    have p0 := hX6.c0
    have p1 := hX6.c1
    have p2 := hX6.c2
    have p3 := hX6.c3
    have p4 := hX6.c4
    have p5 := hX6.c5
    have q0 := hY6.c0
    have q1 := hY6.c1
    have q2 := hY6.c2
    have q3 := hY6.c3
    have q4 := hY6.c4
    have q5 := hY6.c5
    clear hX6 hY6 HX5
    go_wp2_with fail
    refine (HXM.out y A4 A5 B4 B5 c4 c5 d4 d5 _ HT6.out HU6.out HXO.out HYO.out).mono ?_
    rintro e w7 ⟨rfl, hB7⟩
    have HW7 : Hid (Below w.heap.size w w7) := Lib.hid (trans_below HW6.out hB7)
    have hr := HRR.out
    clear hB7 p0 p1 p2 p3 p4 p5 q0 q1 q2 q3 q4 q5 HRR
    generalize ordT x y = z at hr ⊢
    unfold orI at hr
    by_cases hz : z = 0
    ·have d2 : (z != 0) = false := by simp [hz]
     rw [if_pos hz] at hr
     have HR := Lib.hid hr
     clear hr hz
     go_wp2_with fail
     go_roundg (l.length - (k + 1))
     case measure => rw [HK.out]; omega
     case rel => exact ⟨k + 1, by go_num, rfl, by omega, by omega, Lib.hid HR.out, HW7⟩
    ·have d2 : (z != 0) = true := by simp [hz]
     rw [if_neg hz] at hr
     have HR := Lib.hid hr
     clear hr hz
     go_wp2_with fail
     go_ret
     exact ⟨ei HR.out, HW7.out⟩
   ·have d1 : decide (k ≥ m.length) = true := decide_eq_true (by omega)
    rw [List.drop_eq_nil_of_le (show m.length ≤ k by omega), ordP] at hr
    have HQ := Lib.hid hr
    clear hr HR
    go_upto_region 4 with (fail)
    rw [← HE5.out]
    clear a0 a1 a2 a3 a4 a5
    go_wp2_with fail
    go_ret
    exact ⟨ei HQ.out, HW5.out⟩
  ·have d0 : decide (k < l.length) = false := decide_eq_false hlt
   have hr := HR.out
   rw [List.drop_eq_nil_of_le (show l.length ≤ k by omega)] at hr
   by_cases hlt2 : k < m.length
   ·rw [List.drop_eq_getElem_cons hlt2, ordP] at hr
    have d1 : decide (l.length < m.length) = true := decide_eq_true (by omega)
    have HQ := Lib.hid hr
    clear hr HR
    go_wp2_with fail
    go_ret
    exact ⟨ei HQ.out, HW.out⟩
   ·rw [List.drop_eq_nil_of_le (show m.length ≤ k by omega), ordP] at hr
    have d1 : decide (l.length < m.length) = false := decide_eq_false (by omega)
    have HQ := Lib.hid hr
    clear hr HR
    go_wp2_with fail
    go_ret
    exact ⟨ei HQ.out, HW.out⟩
end Go.Proofs.YtibbcfeaododhaaGreatDoor
namespace Go.Proofs.YtibbcfeaododhaaGreatDoor
open Go.RowKit Go.Sort Go.Proofs.YtibbcfeaododhaaGreatDoorW.PrintWords
/-- What is left of a list: its only element, or a list. -/
def leftT (l : List Tm) : Tm := if l.length = 1 then rdTm l 0 else ⟨7, 0, ⟨#[]⟩, 0, [], l⟩
def LeftPost (w : World) (t : Tm) (e : Ending) (w' : World) : Prop := ∃ v, e = .returned v ∧ TmIs w' t v ∧ Below w.heap.size w w'
theorem resTm {f : Func} {p : Tmp} (hr : f.results = #[.cell p 27]) (tmps : Array Value) (W : World) (rb : Nat) (t : Tm) (v4 v5 : Value) (hp : tmps.getD p undef = .pointer (some ⟨rb, 0, none⟩)) (h : TmAt W rb t v4 v5) :
  (results f tmps).run Tryz.prog W = .ok (tmV t v4 v5) W := by
 have hp' : tmps[p]?.getD undef = .pointer (some ⟨rb, 0, none⟩) := by simpa using hp
 obtain ⟨c0, c1, c2, c3, c4, c5, _, _, _, _, _, _⟩ := h
 simp [results, hr, hp', asAddr, go_sem, c0, c1, c2, c3, c4, c5, tmV]
theorem TmAt.put {W : World} {b : Nat} {t : Tm} {v4 v5 : Value} (h : TmAt W b t v4 v5) (x : Tm) (u4 u5 : Value) :
  TmAt ((((((W.setCell ⟨b, 0, none⟩ (.int .i64 x.kd)).setCell ⟨b, 1, none⟩ (.int .i64 x.it)).setCell ⟨b, 2, none⟩ (.string x.tx)).setCell ⟨b, 3, none⟩ (.int .u32 x.cr)).setCell ⟨b, 4, none⟩ u4).setCell ⟨b, 5, none⟩ u5) b x u4 u5 := by
 obtain ⟨c0, c1, c2, c3, c4, c5, f0, f1, f2, f3, f4, f5⟩ := h
 constructor <;> simp [World.cell?_setCell_other, World.cell?_setCell_same, World.frozen?_setCell, *]
set_option maxRecDepth 100000 in
theorem left_any (l : List Tm) (A : Option Addr) (c : Nat) (w : World) (hA : kTm.C w A l.length l) (hc : l.length ≤ c) :
  Calls Tryz.prog 126 #[.slice A l.length c] w (LeftPost w (leftT l)) := by
 have hB0 := below_alloc (Below.refl w.heap.size w) (.cells #[.int .i64 0, .int .i64 0, .string ⟨#[]⟩, .int .u32 0, .slice none 0 0, .slice none 0 0] 27)
 have HA := Lib.hid hA
 have HC := Lib.hid hc
 by_cases h1 : l.length = 1
 ·have e : leftT l = rdTm l 0 := by unfold leftT; rw [if_pos h1]
  rw [e]
  have d1 : ((l.length : Int) == 1) = true := beq_iff_eq.2 (by omega)
  obtain ⟨ad, A4, c4, A5, c5, rfl, q0, q1, q2, q3, q4, q5, hT⟩ := atTm hA 0 (by decide) (by omega)
  have ez : ad.add 0 = ad := by simp [Addr.add]
  simp only [Int.toNat_zero, Nat.zero_mul, ez] at q0 q1 q2 q3 q4 q5
  replace q0 := (hB0.cell (World.block_lt_of_cell? w _ q0)).trans q0
  replace q1 := (hB0.cell (World.block_lt_of_cell? w _ q1)).trans q1
  replace q2 := (hB0.cell (World.block_lt_of_cell? w _ q2)).trans q2
  replace q3 := (hB0.cell (World.block_lt_of_cell? w _ q3)).trans q3
  replace q4 := (hB0.cell (World.block_lt_of_cell? w _ q4)).trans q4
  replace q5 := (hB0.cell (World.block_lt_of_cell? w _ q5)).trans q5
  generalize rdTm l 0 = x at q0 q1 q2 q3 q4 q5 hT
  have y0 : (0 : Int) < (l.length : Int) := by omega
  have HT := Lib.hid hT
  clear e ez hT hA hc hB0
  go_enter Tryz.func126, Tryz.ntmps126
  go_wp2_with fail
  refine bodyPost_ret (resTm rfl _ _ w.heap.size x _ _ (by rfl) (TmAt.new w x _ _)) rfl ?_
  exact ⟨_, rfl, ⟨A4, c4, A5, c5, rfl, HT.out.below (below_alloc (Below.refl _ _) _)⟩, below_alloc (Below.refl _ _) _⟩
 ·have e : leftT l = ⟨7, 0, ⟨#[]⟩, 0, [], l⟩ := by unfold leftT; rw [if_neg h1]
  rw [e]
  have d1 : ((l.length : Int) == 1) = false := beq_eq_false_iff_ne.2 (by omega)
  have HT : Hid (TmR w ⟨7, 0, ⟨#[]⟩, 0, [], l⟩ none 0 A c) := Lib.hid ⟨Nat.le_refl _, ⟨rfl, by simp, fun h => absurd h (Nat.lt_irrefl 0)⟩, hc, hA⟩
  clear e hA hc hB0
  go_enter Tryz.func126, Tryz.ntmps126
  go_wp2_with fail
  refine bodyPost_ret (resTm rfl _ _ w.heap.size ⟨7, 0, ⟨#[]⟩, 0, [], l⟩ _ _ (by rfl) (TmAt.new w ⟨7, 0, ⟨#[]⟩, 0, [], l⟩ _ _)) rfl ?_
  exact ⟨_, rfl, ⟨none, 0, A, c, rfl, HT.out.below (below_alloc (Below.refl _ _) _)⟩, below_alloc (Below.refl _ _) _⟩
/-! ### lists -/
theorem ordL_step {l m : List Tm} (h1 : 1 < l.length) (h2 : 1 < m.length) : ordL l m = orI (ordT (rdTm l 0) (rdTm m 0)) (ordL (l.drop 1) (m.drop 1)) := by
 match l, m, h1, h2 with
 | a :: x :: xs, b :: y :: ys, _, _ => rw [ordL]; rfl
theorem ordL_left {l m : List Tm} (hl : tailOk l) (hm : tailOk m) (h : ¬ (1 < l.length ∧ 1 < m.length)) : ordL l m = ordT (leftT l) (leftT m) := by
 match l, m with
 | [], _ => exact absurd rfl hl.1
 | _ :: _, [] => exact absurd rfl hm.1
 | [a], [b] => rw [ordL]; rfl
 | [a], b :: y :: ys =>
  have e1 : leftT [a] = a := rfl
  have e2 : leftT (b :: y :: ys) = ⟨7, 0, ⟨#[]⟩, 0, [], b :: y :: ys⟩ := by unfold leftT; rw [if_neg (by simp)]
  rw [ordL, e1, e2, ordT_eq, if_pos (show a.kd ≠ 7 from hl.one)]
 | a :: x :: xs, [b] =>
  have e1 : leftT [b] = b := rfl
  have e2 : leftT (a :: x :: xs) = ⟨7, 0, ⟨#[]⟩, 0, [], a :: x :: xs⟩ := by unfold leftT; rw [if_neg (by simp)]
  rw [ordL, e1, e2, ordT_eq, if_pos (show (7 : Int) ≠ b.kd from fun e => hm.one e.symm)]
 | a :: x :: xs, b :: y :: ys => exact absurd ⟨by simp, by simp⟩ h
theorem tailOk.drop {l : List Tm} (h : tailOk l) (h1 : 1 < l.length) : tailOk (l.drop 1) := by
 match l, h1 with
 | a :: x :: xs, _ => exact h.rest
theorem okL_drop {l : List Tm} (h : okL l = true) : okL (l.drop 1) = true := by
 cases l with
 | nil => exact h
 | cons a l => rw [okL, Bool.and_eq_true] at h; exact h.2
theorem calls_grow {w : World} {f : FuncId} {args : Array Value} {r : Int} (h : ∀ W, Below w.heap.size w W → Calls Tryz.prog f args W (OrdPost W r)) (d : Nat) (os : Array Obj) :
  Calls Tryz.prog f args (grow (redrawn w d) os) fun e w'' => e = .returned (.int .i64 r) ∧ ∃ p : Regrown, w'' = grow (redrawn w p.d) p.os := Calls.regrown_of (h _ (below_regrown w d os))
theorem left_order (l m : List Tm) (hI : ∀ x ∈ l, OrdSays x) (hlo : okL l = true) (hmo : okL m = true) (htl : tailOk l) (htm : tailOk m) (h : ¬ (1 < l.length ∧ 1 < m.length)) (v u : Value) (W : World) (hv : TmIs W (leftT l) v) (hu : TmIs W (leftT m) u) :
  Calls Tryz.prog 40 #[v, u] W (OrdPost W (ordL l m)) := by
 obtain ⟨A4, c4, A5, c5, rfl, hT⟩ := hv
 obtain ⟨B4, d4, B5, d5, rfl, hU⟩ := hu
 rw [ordL_left htl htm h]
 match l, m with
 | [], _ => exact absurd rfl htl.1
 | _ :: _, [] => exact absurd rfl htm.1
 | [a], [b] => exact hI a (by simp) b A4 A5 B4 B5 c4 c5 d4 d5 W hT hU (okL_mem hlo (by simp)) (okL_mem hmo (by simp))
 | [a], b :: y :: ys =>
  have e2 : leftT (b :: y :: ys) = ⟨7, 0, ⟨#[]⟩, 0, [], b :: y :: ys⟩ := by unfold leftT; rw [if_neg (by simp)]
  exact order_ne _ _ A4 A5 B4 B5 c4 c5 d4 d5 W (by rw [e2]; exact htl.one)
 | a :: x :: xs, [b] =>
  have e2 : leftT (a :: x :: xs) = ⟨7, 0, ⟨#[]⟩, 0, [], a :: x :: xs⟩ := by unfold leftT; rw [if_neg (by simp)]
  exact order_ne _ _ A4 A5 B4 B5 c4 c5 d4 d5 W (by rw [e2]; exact fun e => htm.one e.symm)
 | a :: x :: xs, b :: y :: ys => exact absurd ⟨by simp, by simp⟩ h
set_option maxRecDepth 100000 in
set_option maxHeartbeats 8000000 in
theorem lists_any (l0 m0 : List Tm) (A0 B0 : Option Addr) (c0 d0 : Nat) (w : World) (hA : kTm.C w A0 l0.length l0) (hc : l0.length ≤ c0) (hB : kTm.C w B0 m0.length m0) (hd : m0.length ≤ d0) (hIH : ∀ x ∈ l0, OrdSays x) (hl : okL l0 = true) (hm : okL m0 = true) (htl : tailOk l0) (htm : tailOk m0) :
  Calls Tryz.prog 75 #[.slice A0 l0.length c0, .slice B0 m0.length d0] w (OrdPost w (ordL l0 m0)) := by
 obtain ⟨R, hR⟩ : ∃ R, R = ordL l0 m0 := ⟨_, rfl⟩
 rw [← hR]
 have H0 : Hid (ordL l0 m0 = R ∧ kTm.C w A0 l0.length l0 ∧ kTm.C w B0 m0.length m0 ∧ (∀ x ∈ l0, OrdSays x) ∧ okL l0 = true ∧ okL m0 = true ∧ tailOk l0 ∧ tailOk m0) := Lib.hid ⟨hR.symm, hA, hB, hIH, hl, hm, htl, htm⟩
 clear hR hA hB hIH hl hm htl htm
 go_enter Tryz.func75, Tryz.ntmps75
 go_wp2_with fail
 go_loopg [0, 1] l0.length (fun gk va vb wl => ∃ (l m : List Tm) (A B : Option Addr) (c d : Nat), va = .slice A l.length c ∧ vb = .slice B m.length d ∧ gk = l.length ∧ l.length ≤ c ∧ m.length ≤ d ∧ Hid (ordL l m = R ∧ kTm.C w A l.length l ∧ kTm.C w B m.length m ∧ (∀ x ∈ l, OrdSays x) ∧ okL l = true ∧ okL m = true ∧ tailOk l ∧ tailOk m) ∧ Hid (Below w.heap.size w wl))
 case atStart => exact ⟨l0, m0, A0, B0, c0, d0, rfl, rfl, rfl, hc, hd, H0, Lib.hid (Below.refl _ _)⟩
 case round =>
  clear H0 hc hd
  obtain ⟨l, m, A, B, c, d, rfl, rfl, hgk, hc, hd, HI, HW⟩ := hrel
  have HK := Lib.hid hgk
  clear hgk
  by_cases h1 : (l.length : Int) > 1
  ·have d1 : decide ((l.length : Int) > 1) = true := decide_eq_true h1
   by_cases h2 : (m.length : Int) > 1
   ·have d2 : decide ((m.length : Int) > 1) = true := decide_eq_true h2
    obtain ⟨ho, hA, hB, hI, hlo, hmo, htl, htm⟩ := HI.out
    rw [ordL_step (by omega) (by omega)] at ho
    have hA' := Kd.C_below hA HW.out
    have hB' := Kd.C_below hB HW.out
    obtain ⟨ad, A4, c4, A5, c5, rfl, a0, a1, a2, a3, a4, a5, hTa⟩ := atTm hA' 0 (by decide) (by omega)
    obtain ⟨bd, B4, d4, B5, d5, rfl, b0, b1, b2, b3, b4, b5, hTb⟩ := atTm hB' 0 (by decide) (by omega)
    have ez : ad.add 0 = ad := by simp [Addr.add]
    have ey : bd.add 0 = bd := by simp [Addr.add]
    simp only [Int.toNat_zero, Nat.zero_mul, ez, ey] at a0 a1 a2 a3 a4 a5 b0 b1 b2 b3 b4 b5
    have hxm : rdTm l 0 ∈ l := (rdTm_mem (l := l) (k := 0) (by omega)).2
    have hym : rdTm m 0 ∈ m := (rdTm_mem (l := m) (k := 0) (by omega)).2
    have HX := Lib.hid (hI _ hxm)
    have HXO := Lib.hid (okL_mem hlo hxm)
    have HYO := Lib.hid (okL_mem hmo hym)
    clear ez ey hxm hym
    generalize rdTm l 0 = x at a0 a1 a2 a3 a4 a5 hTa HX HXO ho
    generalize rdTm m 0 = y at b0 b1 b2 b3 b4 b5 hTb HYO ho
    have HCC := Lib.hid fun dd os => calls_grow (w := wr) (f := 40) (args := #[tmV x (.slice A4 x.nums.length c4) (.slice A5 x.args.length c5), tmV y (.slice B4 y.nums.length d4) (.slice B5 y.args.length d5)]) (r := ordT x y) (fun W hW => HX.out y A4 A5 B4 B5 c4 c5 d4 d5 W (hTa.below hW) (hTb.below hW) HXO.out HYO.out) dd os
    have HO := Lib.hid ho
    have y0 : (0 : Int) < (l.length : Int) := by omega
    have y1 : (0 : Int) < (m.length : Int) := by omega
    have k0 := cell_regrown a0
    have k1 := cell_regrown a1
    have k2 := cell_regrown a2
    have k3 := cell_regrown a3
    have k4 := cell_regrown a4
    have k5 := cell_regrown a5
    have q0 := cell_regrown b0
    have q1 := cell_regrown b1
    have q2 := cell_regrown b2
    have q3 := cell_regrown b3
    have q4 := cell_regrown b4
    have q5 := cell_regrown b5
    clear a0 a1 a2 a3 a4 a5 b0 b1 b2 b3 b4 b5 hTa hTb ho hA hB hA' hB' hI hlo hmo htl htm
    go_wp2_with fail
    refine wp_region_quiet_below (by kernel_rfl) (by kernel_rfl) ?_
    repeat (go_big_quiet_step (exact HCC.out _ _))
    refine wpQuiet_nil ?_
    intro _ hw'
    obtain ⟨⟨dq, osq⟩, hw''⟩ := hw'
    subst hw''
    have hwq := below_regrown wr dq osq
    generalize grow (redrawn wr dq) osq = wq at hwq ⊢
    have HWQ : Hid (Below w.heap.size w wq) := Lib.hid (trans_below HW.out hwq)
    have ho := HO.out
    clear k0 k1 k2 k3 k4 k5 q0 q1 q2 q3 q4 q5 HO HCC HXO HYO HX hwq
    generalize ordT x y = z at ho ⊢
    unfold orI at ho
    by_cases hz : z = 0
    ·have d3 : (z != 0) = false := by simp [hz]
     rw [if_pos hz] at ho
     obtain ⟨_, hA, hB, hI, hlo, hmo, htl, htm⟩ := HI.out
     have HN : Hid (ordL (l.drop 1) (m.drop 1) = R ∧ kTm.C w (if c = 1 then some ad else (some ad).map (·.add (1 * kTm.sz))) (l.drop 1).length (l.drop 1) ∧ kTm.C w (if d = 1 then some bd else (some bd).map (·.add (1 * kTm.sz))) (m.drop 1).length (m.drop 1) ∧ (∀ x ∈ l.drop 1, OrdSays x) ∧ okL (l.drop 1) = true ∧ okL (m.drop 1) = true ∧ tailOk (l.drop 1) ∧ tailOk (m.drop 1)) := Lib.hid ⟨ho, Kd.C_drop hA (by omega) hc, Kd.C_drop hB (by omega) hd, fun x hx => hI x (List.mem_of_mem_drop hx), okL_drop hlo, okL_drop hmo, htl.drop (by omega), htm.drop (by omega)⟩
     clear hA hB hI hlo hmo htl htm HI ho hz
     go_wp2_with fail
     go_quiet (fail)
     rw [if_neg (show ¬ c = 1 by omega), if_neg (show ¬ d = 1 by omega)] at HN
     go_wp2_with fail
     go_roundg (l.length - 1)
     case measure => rw [HK.out]; omega
     case rel => exact ⟨l.drop 1, m.drop 1, _, _, c - 1, d - 1, by rw [List.length_drop]; rfl, by rw [List.length_drop]; rfl, by rw [List.length_drop], by rw [List.length_drop]; omega, by rw [List.length_drop]; omega, HN, Lib.hid (pw_below_drewN HWQ.out _)⟩
    ·have d3 : (z != 0) = true := bne_iff_ne.2 hz
     rw [if_neg hz] at ho
     subst ho
     go_wp2_with fail
     go_ret
     exact ⟨rfl, HWQ.out⟩
   ·have d2 : decide ((m.length : Int) > 1) = false := decide_eq_false h2
    obtain ⟨ho, hA, hB, hI, hlo, hmo, htl, htm⟩ := HI.out
    have HLA := Lib.hid (left_any l A c _ (Kd.C_below hA HW.out) hc)
    have HLB := Lib.hid fun W (hW : Below wr.heap.size wr W) => left_any m B d W (Kd.C_below (Kd.C_below hB HW.out) hW) hd
    have HOR := Lib.hid (left_order l m hI hlo hmo htl htm (by omega))
    rw [ho] at HOR
    clear ho hA hB hI hlo hmo htl htm HI
    go_wp2_with fail
    refine (HLA.out).mono ?_
    rintro e W1 ⟨v1, rfl, hv1, hb1⟩
    have HV1 := Lib.hid hv1
    have HB1 := Lib.hid hb1
    clear hv1 hb1
    go_wp2_with fail
    refine (HLB.out W1 HB1.out).mono ?_
    rintro e W2 ⟨v2, rfl, hv2, hb2⟩
    have HV2 := Lib.hid hv2
    have HB2 := Lib.hid hb2
    clear hv2 hb2
    go_wp2_with fail
    refine (HOR.out v1 v2 W2 (HV1.out.below HB2.out) HV2.out).mono ?_
    rintro e W3 ⟨rfl, hb3⟩
    have HB3 : Hid (Below w.heap.size w W3) := Lib.hid (trans_below (trans_below (trans_below HW.out HB1.out) HB2.out) hb3)
    clear hb3
    go_wp2_with fail
    go_ret
    exact ⟨rfl, HB3.out⟩
  ·have d1 : decide ((l.length : Int) > 1) = false := decide_eq_false h1
   obtain ⟨ho, hA, hB, hI, hlo, hmo, htl, htm⟩ := HI.out
   have HLA := Lib.hid (left_any l A c _ (Kd.C_below hA HW.out) hc)
   have HLB := Lib.hid fun W (hW : Below wr.heap.size wr W) => left_any m B d W (Kd.C_below (Kd.C_below hB HW.out) hW) hd
   have HOR := Lib.hid (left_order l m hI hlo hmo htl htm (by omega))
   rw [ho] at HOR
   clear ho hA hB hI hlo hmo htl htm HI
   go_wp2_with fail
   refine (HLA.out).mono ?_
   rintro e W1 ⟨v1, rfl, hv1, hb1⟩
   have HV1 := Lib.hid hv1
   have HB1 := Lib.hid hb1
   clear hv1 hb1
   go_wp2_with fail
   refine (HLB.out W1 HB1.out).mono ?_
   rintro e W2 ⟨v2, rfl, hv2, hb2⟩
   have HV2 := Lib.hid hv2
   have HB2 := Lib.hid hb2
   clear hv2 hb2
   go_wp2_with fail
   refine (HOR.out v1 v2 W2 (HV1.out.below HB2.out) HV2.out).mono ?_
   rintro e W3 ⟨rfl, hb3⟩
   have HB3 : Hid (Below w.heap.size w W3) := Lib.hid (trans_below (trans_below (trans_below HW.out HB1.out) HB2.out) hb3)
   clear hb3
   go_wp2_with fail
   go_ret
   exact ⟨rfl, HB3.out⟩
end Go.Proofs.YtibbcfeaododhaaGreatDoor
set_option linter.unusedSimpArgs false
namespace Go.Proofs.YtibbcfeaododhaaGreatDoor
open Go.RowKit Go.Sort Go.Proofs.YtibbcfeaododhaaGreatDoorW.PrintWords
theorem orI_right (x : Int) : orI x 0 = x := by unfold orI; split <;> simp_all
theorem cmp_Or2 (x y : Int) (W : World) (c : Nat) :
  Calls Tryz.prog 70 #[.slice (some ⟨W.heap.size, 0, none⟩) 2 c] (W.alloc (.cells #[.int .i64 x, .int .i64 y] 3)) fun e w' => e = .returned (.int .i64 (orI x y)) ∧ W.alloc (.cells #[.int .i64 x, .int .i64 y] 3) = w' := by
 have h := cmp_Or [x, y] W.heap.size 2 c (W.alloc (.cells #[.int .i64 x, .int .i64 y] 3)) rfl (by decide) (by
  intro j hj
  match j, hj with
  | 0, _ => simp
  | 1, _ => simp)
 rw [show [x, y].foldr orI 0 = orI x y by simp [orI_right]] at h
 exact h
theorem cmp_Or3 (x y z : Int) (W : World) (c : Nat) :
  Calls Tryz.prog 70 #[.slice (some ⟨W.heap.size, 0, none⟩) 3 c] (W.alloc (.cells #[.int .i64 x, .int .i64 y, .int .i64 z] 3)) fun e w' => e = .returned (.int .i64 (orI x (orI y z))) ∧ W.alloc (.cells #[.int .i64 x, .int .i64 y, .int .i64 z] 3) = w' := by
 have h := cmp_Or [x, y, z] W.heap.size 3 c (W.alloc (.cells #[.int .i64 x, .int .i64 y, .int .i64 z] 3)) rfl (by decide) (by
  intro j hj
  match j, hj with
  | 0, _ => simp
  | 1, _ => simp
  | 2, _ => simp)
 rw [show [x, y, z].foldr orI 0 = orI x (orI y z) by simp [orI_right]] at h
 exact h
set_option maxRecDepth 100000 in
theorem order_one (a b : Tm) (A4 A5 B4 B5 : Option Addr) (c4 c5 d4 d5 : Nat) (w : World) (hk : a.kd = b.kd) (k1 : a.kd = 1) :
  Calls Tryz.prog 40 #[tmV a (.slice A4 a.nums.length c4) (.slice A5 a.args.length c5), tmV b (.slice B4 b.nums.length d4) (.slice B5 b.args.length d5)] w (OrdPost w (ordT a b)) := by
 have e : ordT a b = ordK a b := by rw [ordT_orI, cmpI_zero.2 hk]; rfl
 have k2 : b.kd = 1 := by omega
 rw [e]
 unfold ordK
 simp only [k1, Int.reduceEq, if_true, if_false, true_or, or_true, or_false, false_or, reduceIte]
 have K1 := Lib.hid k1
 have K2 := Lib.hid k2
 clear e hk k1 k2
 obtain ⟨w1, hw1, hTa, hTb, hB1⟩ := two_boxes w a b (.slice A4 a.nums.length c4) (.slice A5 a.args.length c5) (.slice B4 b.nums.length d4) (.slice B5 b.args.length d5)
 unfold tmV
 go_enter Tryz.func40, Tryz.ntmps40
 go_upto_region 1 with (fail)
 rw [← hw1]
 have hsz1 : w.heap.size + 1 < w1.heap.size := hTb.lt
 clear hw1
 have HTa := Lib.hid hTa
 have HTb := Lib.hid hTb
 have HB1 := Lib.hid hB1
 clear hTa hTb hB1
 have a0 := HTa.out.c0
 have b0 := HTb.out.c0
 rw [K1.out] at a0
 rw [K2.out] at b0
 clear K1 K2
 have a1 := HTa.out.c1
 have b1 := HTb.out.c1
 go_wp2_with fail
 refine (cmp_i64 _ _ _).mono ?_
 rintro e w' ⟨rfl, rfl⟩
 go_wp2_with fail
 go_ret
 exact ⟨rfl, HB1.out⟩
set_option maxRecDepth 100000 in
theorem order_two (a b : Tm) (A4 A5 B4 B5 : Option Addr) (c4 c5 d4 d5 : Nat) (w : World) (hk : a.kd = b.kd) (k1 : a.kd = 2) :
  Calls Tryz.prog 40 #[tmV a (.slice A4 a.nums.length c4) (.slice A5 a.args.length c5), tmV b (.slice B4 b.nums.length d4) (.slice B5 b.args.length d5)] w (OrdPost w (ordT a b)) := by
 have e : ordT a b = ordK a b := by rw [ordT_orI, cmpI_zero.2 hk]; rfl
 have k2 : b.kd = 2 := by omega
 rw [e]
 unfold ordK
 simp only [k1, Int.reduceEq, if_true, if_false, true_or, or_true, or_false, false_or, reduceIte]
 have K1 := Lib.hid k1
 have K2 := Lib.hid k2
 clear e hk k1 k2
 obtain ⟨w1, hw1, hTa, hTb, hB1⟩ := two_boxes w a b (.slice A4 a.nums.length c4) (.slice A5 a.args.length c5) (.slice B4 b.nums.length d4) (.slice B5 b.args.length d5)
 unfold tmV
 go_enter Tryz.func40, Tryz.ntmps40
 go_upto_region 1 with (fail)
 rw [← hw1]
 have hsz1 : w.heap.size + 1 < w1.heap.size := hTb.lt
 clear hw1
 have HTa := Lib.hid hTa
 have HTb := Lib.hid hTb
 have HB1 := Lib.hid hB1
 clear hTa hTb hB1
 have a0 := HTa.out.c0
 have b0 := HTb.out.c0
 rw [K1.out] at a0
 rw [K2.out] at b0
 clear K1 K2
 have a2 := HTa.out.c2
 have b2 := HTb.out.c2
 go_wp2_with fail
 refine (cmp_string _ _ _).mono ?_
 rintro e w' ⟨rfl, rfl⟩
 go_wp2_with fail
 go_ret
 exact ⟨rfl, HB1.out⟩
set_option maxRecDepth 100000 in
theorem order_six (a b : Tm) (A4 A5 B4 B5 : Option Addr) (c4 c5 d4 d5 : Nat) (w : World) (hk : a.kd = b.kd) (k1 : a.kd = 6) :
  Calls Tryz.prog 40 #[tmV a (.slice A4 a.nums.length c4) (.slice A5 a.args.length c5), tmV b (.slice B4 b.nums.length d4) (.slice B5 b.args.length d5)] w (OrdPost w (ordT a b)) := by
 have e : ordT a b = ordK a b := by rw [ordT_orI, cmpI_zero.2 hk]; rfl
 have k2 : b.kd = 6 := by omega
 rw [e]
 unfold ordK
 simp only [k1, Int.reduceEq, if_true, if_false, true_or, or_true, or_false, false_or, reduceIte]
 have K1 := Lib.hid k1
 have K2 := Lib.hid k2
 clear e hk k1 k2
 obtain ⟨w1, hw1, hTa, hTb, hB1⟩ := two_boxes w a b (.slice A4 a.nums.length c4) (.slice A5 a.args.length c5) (.slice B4 b.nums.length d4) (.slice B5 b.args.length d5)
 unfold tmV
 go_enter Tryz.func40, Tryz.ntmps40
 go_upto_region 1 with (fail)
 rw [← hw1]
 have hsz1 : w.heap.size + 1 < w1.heap.size := hTb.lt
 clear hw1
 have HTa := Lib.hid hTa
 have HTb := Lib.hid hTb
 have HB1 := Lib.hid hB1
 clear hTa hTb hB1
 have a0 := HTa.out.c0
 have b0 := HTb.out.c0
 rw [K1.out] at a0
 rw [K2.out] at b0
 clear K1 K2
 go_wp2_with fail
 go_ret
 exact ⟨rfl, HB1.out⟩
set_option maxRecDepth 100000 in
theorem order_seven (a b : Tm) (A4 A5 B4 B5 : Option Addr) (c4 c5 d4 d5 : Nat) (w : World) (hk : a.kd = b.kd) (k1 : a.kd = 7) (hT : TmR w a A4 c4 A5 c5) (hU : TmR w b B4 d4 B5 d5) (hI : ∀ x ∈ a.args, OrdSays x) (ha : okT a = true) (hb : okT b = true) :
  Calls Tryz.prog 40 #[tmV a (.slice A4 a.nums.length c4) (.slice A5 a.args.length c5), tmV b (.slice B4 b.nums.length d4) (.slice B5 b.args.length d5)] w (OrdPost w (ordT a b)) := by
 have HL := Lib.hid fun W (hW : Below w.heap.size w W) => lists_any a.args b.args A5 B5 c5 d5 W (hT.below hW).g5 hT.l5 (hU.below hW).g5 hU.l5 hI (ok_args ha) (ok_args hb) (tail_of ha k1) (tail_of hb (by omega))
 clear hT hU hI ha hb
 have e : ordT a b = ordK a b := by rw [ordT_orI, cmpI_zero.2 hk]; rfl
 have k2 : b.kd = 7 := by omega
 rw [e]
 unfold ordK
 simp only [k1, Int.reduceEq, if_true, if_false, true_or, or_true, or_false, false_or, reduceIte]
 have K1 := Lib.hid k1
 have K2 := Lib.hid k2
 clear e hk k1 k2
 obtain ⟨w1, hw1, hTa, hTb, hB1⟩ := two_boxes w a b (.slice A4 a.nums.length c4) (.slice A5 a.args.length c5) (.slice B4 b.nums.length d4) (.slice B5 b.args.length d5)
 unfold tmV
 go_enter Tryz.func40, Tryz.ntmps40
 go_upto_region 1 with (fail)
 rw [← hw1]
 have hsz1 : w.heap.size + 1 < w1.heap.size := hTb.lt
 clear hw1
 have HTa := Lib.hid hTa
 have HTb := Lib.hid hTb
 have HB1 := Lib.hid hB1
 clear hTa hTb hB1
 have a0 := HTa.out.c0
 have b0 := HTb.out.c0
 rw [K1.out] at a0
 rw [K2.out] at b0
 clear K1 K2
 have a5 := HTa.out.c5
 have b5 := HTb.out.c5
 go_wp2_with fail
 refine (HL.out _ HB1.out).mono ?_
 rintro e w' ⟨rfl, hB⟩
 have HB := Lib.hid hB
 clear hB
 go_wp2_with fail
 go_ret
 exact ⟨rfl, trans_below HB1.out HB.out⟩
set_option maxRecDepth 100000 in
set_option maxHeartbeats 4000000 in
theorem order_five (a b : Tm) (A4 A5 B4 B5 : Option Addr) (c4 c5 d4 d5 : Nat) (w : World) (hk : a.kd = b.kd) (k1 : a.kd = 5) (hT : TmR w a A4 c4 A5 c5) (hU : TmR w b B4 d4 B5 d5) (hI : ∀ x ∈ a.args, OrdSays x) (ha : okT a = true) (hb : okT b = true) :
  Calls Tryz.prog 40 #[tmV a (.slice A4 a.nums.length c4) (.slice A5 a.args.length c5), tmV b (.slice B4 b.nums.length d4) (.slice B5 b.args.length d5)] w (OrdPost w (ordT a b)) := by
 have HP := Lib.hid fun W (hW : Below w.heap.size w W) => compareFunc a.args b.args A5 B5 c5 d5 W (hT.below hW).g5 (hU.below hW).g5 hI (ok_args ha) (ok_args hb)
 clear hT hU hI ha hb
 have e : ordT a b = ordK a b := by rw [ordT_orI, cmpI_zero.2 hk]; rfl
 have k2 : b.kd = 5 := by omega
 rw [e]
 unfold ordK
 simp only [k1, Int.reduceEq, if_true, if_false, true_or, or_true, or_false, false_or, reduceIte]
 have K1 := Lib.hid k1
 have K2 := Lib.hid k2
 clear e hk k1 k2
 obtain ⟨w1, hw1, hTa, hTb, hB1⟩ := two_boxes w a b (.slice A4 a.nums.length c4) (.slice A5 a.args.length c5) (.slice B4 b.nums.length d4) (.slice B5 b.args.length d5)
 unfold tmV
 go_enter Tryz.func40, Tryz.ntmps40
 go_upto_region 1 with (fail)
 rw [← hw1]
 have hsz1 : w.heap.size + 1 < w1.heap.size := hTb.lt
 clear hw1
 have HTa := Lib.hid hTa
 have HTb := Lib.hid hTb
 have HB1 := Lib.hid hB1
 clear hTa hTb hB1
 have a0 := HTa.out.c0
 have b0 := HTb.out.c0
 rw [K1.out] at a0
 rw [K2.out] at b0
 clear K1 K2
 have a5 := HTa.out.c5
 have b5 := HTb.out.c5
 go_wp2_with fail
 have HS : Hid (∀ W, Below w1.heap.size w1 W → (Below w1.heap.size w1 W ∧ W.cell? ⟨w.heap.size, 5, none⟩ = some (.slice A5 a.args.length c5) ∧ W.cell? ⟨w.heap.size + 1, 5, none⟩ = some (.slice B5 b.args.length d5))) := Lib.hid fun W hW => ⟨hW, (hW.cell HTa.out.lt).trans HTa.out.c5, (hW.cell HTb.out.lt).trans HTb.out.c5⟩
 go_region_held3 (fun W => Below w1.heap.size w1 W ∧ W.cell? ⟨w.heap.size, 5, none⟩ = some (.slice A5 a.args.length c5) ∧ W.cell? ⟨w.heap.size + 1, 5, none⟩ = some (.slice B5 b.args.length d5)) ((refine HS.out _ ?_; first | assumption | exact Below.refl _ _ | exact (Below.refl _ _).drew | exact below_alloc (by assumption) _ | exact below_alloc (Below.refl _ _).drew _))
  ((first
   | (go_at_call 73; refine (cmp_int _ _ _).mono ?_; rintro e w9 ⟨rfl, rfl⟩)
   | (go_at_call 74; refine (HP.out w1.drew (trans_below HB1.out (Below.refl _ _).drew)).mono ?_; rintro e w9 ⟨rfl, hB9⟩; have hB8 : Below w1.heap.size w1 w9 := trans_below (Below.refl _ _).drew hB9)
   | (go_at_call 70; refine (cmp_Or2 _ _ _ _).mono ?_; rintro e w9 ⟨rfl, rfl⟩)))
 go_wp2_with fail
 go_ret
 exact ⟨rfl, trans_below HB1.out (below_alloc (by assumption) _)⟩
set_option maxRecDepth 100000 in
set_option maxHeartbeats 4000000 in
theorem order_three (a b : Tm) (A4 A5 B4 B5 : Option Addr) (c4 c5 d4 d5 : Nat) (w : World) (hk : a.kd = b.kd) (k1 : a.kd = 3) (hT : TmR w a A4 c4 A5 c5) (hU : TmR w b B4 d4 B5 d5) :
  Calls Tryz.prog 40 #[tmV a (.slice A4 a.nums.length c4) (.slice A5 a.args.length c5), tmV b (.slice B4 b.nums.length d4) (.slice B5 b.args.length d5)] w (OrdPost w (ordT a b)) := by
 have HP := Lib.hid fun W (hW : Below w.heap.size w W) => slices_Compare a.nums b.nums A4 B4 c4 d4 W (hT.below hW).g4 (hU.below hW).g4
 clear hT hU
 have e : ordT a b = ordK a b := by rw [ordT_orI, cmpI_zero.2 hk]; rfl
 have k2 : b.kd = 3 := by omega
 rw [e]
 unfold ordK
 simp only [k1, Int.reduceEq, if_true, if_false, true_or, or_true, or_false, false_or, reduceIte]
 have K1 := Lib.hid k1
 have K2 := Lib.hid k2
 clear e hk k1 k2
 obtain ⟨w1, hw1, hTa, hTb, hB1⟩ := two_boxes w a b (.slice A4 a.nums.length c4) (.slice A5 a.args.length c5) (.slice B4 b.nums.length d4) (.slice B5 b.args.length d5)
 unfold tmV
 go_enter Tryz.func40, Tryz.ntmps40
 go_upto_region 1 with (fail)
 rw [← hw1]
 have hsz1 : w.heap.size + 1 < w1.heap.size := hTb.lt
 clear hw1
 have HTa := Lib.hid hTa
 have HTb := Lib.hid hTb
 have HB1 := Lib.hid hB1
 clear hTa hTb hB1
 have a0 := HTa.out.c0
 have b0 := HTb.out.c0
 rw [K1.out] at a0
 rw [K2.out] at b0
 clear K1 K2
 have a2 := HTa.out.c2
 have b2 := HTb.out.c2
 have a3 := HTa.out.c3
 have b3 := HTb.out.c3
 have a4 := HTa.out.c4
 have b4 := HTb.out.c4
 go_wp2_with fail
 have HS : Hid (∀ W, Below w1.heap.size w1 W → (Below w1.heap.size w1 W ∧ W.cell? ⟨w.heap.size, 2, none⟩ = some (.string a.tx) ∧ W.cell? ⟨w.heap.size + 1, 2, none⟩ = some (.string b.tx) ∧ W.cell? ⟨w.heap.size, 3, none⟩ = some (.int .u32 a.cr) ∧ W.cell? ⟨w.heap.size + 1, 3, none⟩ = some (.int .u32 b.cr) ∧ W.cell? ⟨w.heap.size, 4, none⟩ = some (.slice A4 a.nums.length c4) ∧ W.cell? ⟨w.heap.size + 1, 4, none⟩ = some (.slice B4 b.nums.length d4))) := Lib.hid fun W hW => ⟨hW, (hW.cell HTa.out.lt).trans HTa.out.c2, (hW.cell HTb.out.lt).trans HTb.out.c2, (hW.cell HTa.out.lt).trans HTa.out.c3, (hW.cell HTb.out.lt).trans HTb.out.c3, (hW.cell HTa.out.lt).trans HTa.out.c4, (hW.cell HTb.out.lt).trans HTb.out.c4⟩
 go_region_held3 (fun W => Below w1.heap.size w1 W ∧ W.cell? ⟨w.heap.size, 2, none⟩ = some (.string a.tx) ∧ W.cell? ⟨w.heap.size + 1, 2, none⟩ = some (.string b.tx) ∧ W.cell? ⟨w.heap.size, 3, none⟩ = some (.int .u32 a.cr) ∧ W.cell? ⟨w.heap.size + 1, 3, none⟩ = some (.int .u32 b.cr) ∧ W.cell? ⟨w.heap.size, 4, none⟩ = some (.slice A4 a.nums.length c4) ∧ W.cell? ⟨w.heap.size + 1, 4, none⟩ = some (.slice B4 b.nums.length d4)) ((refine HS.out _ ?_; first | assumption | exact Below.refl _ _ | exact (Below.refl _ _).drew | exact below_alloc (by assumption) _ | exact below_alloc (Below.refl _ _).drew _))
  ((first
   | (go_at_call 69; refine (cmp_string _ _ _).mono ?_; rintro e w9 ⟨rfl, rfl⟩)
   | (go_at_call 71; refine (cmp_u32 _ _ _).mono ?_; rintro e w9 ⟨rfl, rfl⟩)
   | (go_at_call 72; refine (HP.out w1.drew (trans_below HB1.out (Below.refl _ _).drew)).mono ?_; rintro e w9 ⟨rfl, rfl⟩)
   | (go_at_call 70; refine (cmp_Or3 _ _ _ w1.drew _).mono ?_; rintro e w9 ⟨rfl, rfl⟩)))
 go_wp2_with fail
 go_ret
 exact ⟨rfl, trans_below HB1.out (below_alloc (Below.refl _ _).drew _)⟩
set_option maxRecDepth 100000 in
set_option maxHeartbeats 4000000 in
theorem order_four (a b : Tm) (A4 A5 B4 B5 : Option Addr) (c4 c5 d4 d5 : Nat) (w : World) (hk : a.kd = b.kd) (k1 : a.kd = 4) (hT : TmR w a A4 c4 A5 c5) (hU : TmR w b B4 d4 B5 d5) :
  Calls Tryz.prog 40 #[tmV a (.slice A4 a.nums.length c4) (.slice A5 a.args.length c5), tmV b (.slice B4 b.nums.length d4) (.slice B5 b.args.length d5)] w (OrdPost w (ordT a b)) := by
 have HP := Lib.hid fun W (hW : Below w.heap.size w W) => slices_Compare a.nums b.nums A4 B4 c4 d4 W (hT.below hW).g4 (hU.below hW).g4
 clear hT hU
 have e : ordT a b = ordK a b := by rw [ordT_orI, cmpI_zero.2 hk]; rfl
 have k2 : b.kd = 4 := by omega
 rw [e]
 unfold ordK
 simp only [k1, Int.reduceEq, if_true, if_false, true_or, or_true, or_false, false_or, reduceIte]
 have K1 := Lib.hid k1
 have K2 := Lib.hid k2
 clear e hk k1 k2
 obtain ⟨w1, hw1, hTa, hTb, hB1⟩ := two_boxes w a b (.slice A4 a.nums.length c4) (.slice A5 a.args.length c5) (.slice B4 b.nums.length d4) (.slice B5 b.args.length d5)
 unfold tmV
 go_enter Tryz.func40, Tryz.ntmps40
 go_upto_region 1 with (fail)
 rw [← hw1]
 have hsz1 : w.heap.size + 1 < w1.heap.size := hTb.lt
 clear hw1
 have HTa := Lib.hid hTa
 have HTb := Lib.hid hTb
 have HB1 := Lib.hid hB1
 clear hTa hTb hB1
 have a0 := HTa.out.c0
 have b0 := HTb.out.c0
 rw [K1.out] at a0
 rw [K2.out] at b0
 clear K1 K2
 have a2 := HTa.out.c2
 have b2 := HTb.out.c2
 have a3 := HTa.out.c3
 have b3 := HTb.out.c3
 have a4 := HTa.out.c4
 have b4 := HTb.out.c4
 go_wp2_with fail
 have HS : Hid (∀ W, Below w1.heap.size w1 W → (Below w1.heap.size w1 W ∧ W.cell? ⟨w.heap.size, 2, none⟩ = some (.string a.tx) ∧ W.cell? ⟨w.heap.size + 1, 2, none⟩ = some (.string b.tx) ∧ W.cell? ⟨w.heap.size, 3, none⟩ = some (.int .u32 a.cr) ∧ W.cell? ⟨w.heap.size + 1, 3, none⟩ = some (.int .u32 b.cr) ∧ W.cell? ⟨w.heap.size, 4, none⟩ = some (.slice A4 a.nums.length c4) ∧ W.cell? ⟨w.heap.size + 1, 4, none⟩ = some (.slice B4 b.nums.length d4))) := Lib.hid fun W hW => ⟨hW, (hW.cell HTa.out.lt).trans HTa.out.c2, (hW.cell HTb.out.lt).trans HTb.out.c2, (hW.cell HTa.out.lt).trans HTa.out.c3, (hW.cell HTb.out.lt).trans HTb.out.c3, (hW.cell HTa.out.lt).trans HTa.out.c4, (hW.cell HTb.out.lt).trans HTb.out.c4⟩
 go_region_held3 (fun W => Below w1.heap.size w1 W ∧ W.cell? ⟨w.heap.size, 2, none⟩ = some (.string a.tx) ∧ W.cell? ⟨w.heap.size + 1, 2, none⟩ = some (.string b.tx) ∧ W.cell? ⟨w.heap.size, 3, none⟩ = some (.int .u32 a.cr) ∧ W.cell? ⟨w.heap.size + 1, 3, none⟩ = some (.int .u32 b.cr) ∧ W.cell? ⟨w.heap.size, 4, none⟩ = some (.slice A4 a.nums.length c4) ∧ W.cell? ⟨w.heap.size + 1, 4, none⟩ = some (.slice B4 b.nums.length d4)) ((refine HS.out _ ?_; first | assumption | exact Below.refl _ _ | exact (Below.refl _ _).drew | exact below_alloc (by assumption) _ | exact below_alloc (Below.refl _ _).drew _))
  ((first
   | (go_at_call 69; refine (cmp_string _ _ _).mono ?_; rintro e w9 ⟨rfl, rfl⟩)
   | (go_at_call 71; refine (cmp_u32 _ _ _).mono ?_; rintro e w9 ⟨rfl, rfl⟩)
   | (go_at_call 72; refine (HP.out w1.drew (trans_below HB1.out (Below.refl _ _).drew)).mono ?_; rintro e w9 ⟨rfl, rfl⟩)
   | (go_at_call 70; refine (cmp_Or3 _ _ _ w1.drew _).mono ?_; rintro e w9 ⟨rfl, rfl⟩)))
 go_wp2_with fail
 go_ret
 exact ⟨rfl, trans_below HB1.out (below_alloc (Below.refl _ _).drew _)⟩
theorem order_any : ∀ a : Tm, OrdSays a := by
 intro a
 induction a using Tm.ind with
 | h a ih =>
  intro b A4 A5 B4 B5 c4 c5 d4 d5 w hT hU ha hb
  by_cases hk : a.kd = b.kd
  ·have h := shape_kd ha
   have : a.kd = 1 ∨ a.kd = 2 ∨ a.kd = 3 ∨ a.kd = 4 ∨ a.kd = 5 ∨ a.kd = 6 ∨ a.kd = 7 := by omega
   rcases this with k | k | k | k | k | k | k
   ·exact order_one a b _ _ _ _ _ _ _ _ w hk k
   ·exact order_two a b _ _ _ _ _ _ _ _ w hk k
   ·exact order_three a b _ _ _ _ _ _ _ _ w hk k hT hU
   ·exact order_four a b _ _ _ _ _ _ _ _ w hk k hT hU
   ·exact order_five a b _ _ _ _ _ _ _ _ w hk k hT hU ih ha hb
   ·exact order_six a b _ _ _ _ _ _ _ _ w hk k
   ·exact order_seven a b _ _ _ _ _ _ _ _ w hk k hT hU ih ha hb
  ·exact order_ne a b _ _ _ _ _ _ _ _ w hk
theorem term_order {a b : Tm} {v u : Value} {w : World} (hv : TmIs w a v) (hu : TmIs w b u) (ha : okT a = true) (hb : okT b = true) : Calls Tryz.prog 40 #[v, u] w (OrdPost w (ordT a b)) := by
 obtain ⟨A4, c4, A5, c5, rfl, hT⟩ := hv
 obtain ⟨B4, d4, B5, d5, rfl, hU⟩ := hu
 exact order_any a b _ _ _ _ _ _ _ _ w hT hU ha hb
end Go.Proofs.YtibbcfeaododhaaGreatDoor
set_option linter.unusedSimpArgs false
namespace Go.Proofs.YtibbcfeaododhaaGreatDoor
open Go.RowKit Go.Sort Go.Proofs.YtibbcfeaododhaaGreatDoorW.PrintWords
set_option maxRecDepth 100000 in
set_option maxHeartbeats 2000000 in
theorem term_Compare (a b : Tm) (v u : Value) (w : World) (hv : TmIs w a v) (hu : TmIs w b u) (hsa : smT a = true) (hsb : smT b = true) (hG : Glob w) :
  Calls Tryz.prog 12 #[v, u] w (OrdPost w (compareT a b)) := by
 obtain ⟨R, hR⟩ : ∃ R, R = compareT a b := ⟨_, rfl⟩
 rw [← hR]
 have HR := Lib.hid hR
 clear hR
 obtain ⟨A4, c4, A5, c5, rfl, hT⟩ := hv
 obtain ⟨B4, d4, B5, d5, rfl, hU⟩ := hu
 obtain ⟨w1, hw1, hTa, hTb, hB1⟩ := two_boxes w a b (.slice A4 a.nums.length c4) (.slice A5 a.args.length c5) (.slice B4 b.nums.length d4) (.slice B5 b.args.length d5)
 have HCa := Lib.hid fun W (hW : Below w.heap.size w W) => term_Check a A4 A5 c4 c5 W (hT.below hW) hsa (hG.below hW)
 have HCb := Lib.hid fun W (hW : Below w.heap.size w W) => term_Check b B4 B5 d4 d5 W (hU.below hW) hsb (hG.below hW)
 have HO := Lib.hid fun W (hW : Below w.heap.size w W) => term_order (a := a) (b := b) (TmIs.below ⟨A4, c4, A5, c5, rfl, hT⟩ hW) (TmIs.below ⟨B4, d4, B5, d5, rfl, hU⟩ hW)
 clear hT hU hsa hsb hG
 unfold tmV at HCa HCb HO ⊢
 go_enter Tryz.func12, Tryz.ntmps12
 go_upto_region 1 with (fail)
 rw [← hw1]
 clear hw1
 have HTa := Lib.hid hTa
 have HTb := Lib.hid hTb
 have HB1 := Lib.hid hB1
 clear hTa hTb hB1
 have p0 := HTa.out.c0
 have p1 := HTa.out.c1
 have p2 := HTa.out.c2
 have p3 := HTa.out.c3
 have p4 := HTa.out.c4
 have p5 := HTa.out.c5
 have q0 := HTb.out.c0
 have q1 := HTb.out.c1
 have q2 := HTb.out.c2
 have q3 := HTb.out.c3
 have q4 := HTb.out.c4
 have q5 := HTb.out.c5
 go_wp2_with fail
 refine (HCa.out _ HB1.out).mono ?_
 rintro e w2 ⟨ve, rfl, hE, hB2⟩
 replace HTa := Lib.hid (HTa.out.below hB2 HTa.out.lt)
 replace HTb := Lib.hid (HTb.out.below hB2 HTb.out.lt)
 have HB2 : Hid (Below w.heap.size w w2) := Lib.hid (trans_below HB1.out hB2)
 clear p0 p1 p2 p3 p4 p5 q0 q1 q2 q3 q4 q5
 clear HB1 hB2
 cases ha : chk a with
 | cons x r =>
  rw [ha] at hE
  obtain rfl : R = _ := HR.out.trans (show compareT a b = 0 by unfold compareT; rw [if_pos (Or.inl (by rw [ha]; simp))])
  clear HR
  obtain ⟨eb, u, rfl, _⟩ := hE
  clear ha
  go_wp2_with fail
  go_ret
  exact ⟨rfl, HB2.out⟩
 | nil =>
  rw [ha] at hE
  obtain rfl : ve = .nilIface := hE
  have p0 := HTa.out.c0
  have p1 := HTa.out.c1
  have p2 := HTa.out.c2
  have p3 := HTa.out.c3
  have p4 := HTa.out.c4
  have p5 := HTa.out.c5
  have q0 := HTb.out.c0
  have q1 := HTb.out.c1
  have q2 := HTb.out.c2
  have q3 := HTb.out.c3
  have q4 := HTb.out.c4
  have q5 := HTb.out.c5
  have HA := Lib.hid ha
  clear ha
  go_wp2_with fail
  refine (HCb.out _ HB2.out).mono ?_
  rintro e w3 ⟨vf, rfl, hF, hB3⟩
  replace HTa := Lib.hid (HTa.out.below hB3 HTa.out.lt)
  replace HTb := Lib.hid (HTb.out.below hB3 HTb.out.lt)
  have HB3 : Hid (Below w.heap.size w w3) := Lib.hid (trans_below HB2.out hB3)
  clear p0 p1 p2 p3 p4 p5 q0 q1 q2 q3 q4 q5
  clear HB2 hB3
  cases hb : chk b with
  | cons x r =>
   rw [hb] at hF
   obtain rfl : R = _ := HR.out.trans (show compareT a b = 0 by unfold compareT; rw [if_pos (Or.inr (by rw [hb]; simp))])
   clear HR
   obtain ⟨eb, u, rfl, _⟩ := hF
   clear hb
   go_wp2_with fail
   go_ret
   exact ⟨rfl, HB3.out⟩
  | nil =>
   rw [hb] at hF
   obtain rfl : vf = .nilIface := hF
   obtain rfl : R = _ := HR.out.trans (show compareT a b = ordT a b by unfold compareT; rw [if_neg (by rw [HA.out, hb]; simp)])
   clear HR
   have HBb := Lib.hid hb
   have p0 := HTa.out.c0
   have p1 := HTa.out.c1
   have p2 := HTa.out.c2
   have p3 := HTa.out.c3
   have p4 := HTa.out.c4
   have p5 := HTa.out.c5
   have q0 := HTb.out.c0
   have q1 := HTb.out.c1
   have q2 := HTb.out.c2
   have q3 := HTb.out.c3
   have q4 := HTb.out.c4
   have q5 := HTb.out.c5
   clear hb
   go_wp2_with fail
   refine (HO.out _ HB3.out (chk_ok HA.out) (chk_ok HBb.out)).mono ?_
   rintro e w4 ⟨rfl, hB4⟩
   have HB4 : Hid (Below w.heap.size w w4) := Lib.hid (trans_below HB3.out hB4)
   clear p0 p1 p2 p3 p4 p5 q0 q1 q2 q3 q4 q5
   clear hB4
   go_wp2_with fail
   go_ret
   exact ⟨rfl, HB4.out⟩
end Go.Proofs.YtibbcfeaododhaaGreatDoor
namespace Go.Proofs.YtibbcfeaododhaaGreatDoor
open Go.RowKit Go.Proofs.YtibbcfeaododhaaGreatDoorW.PrintWords
namespace Tb
theorem tw_all {p : Int → Bool} : ∀ {l : List Int} {i : Nat} (_ : i < tw p l), ∃ c, l[i]? = some c ∧ p c = true := by
 intro l
 induction l with
 | nil => intro i h; simp [tw] at h
 | cons c r ih =>
  intro i h
  by_cases hp : p c = true
  ·rw [tw_yes hp] at h
   cases i with
   | zero => exact ⟨c, rfl, hp⟩
   | succ i => simpa using ih (i := i) (by omega)
  ·rw [tw_no (by simpa using hp)] at h
   omega
theorem runEnd_in {P : Int → Bool} {s : ByteArray} {k i : Nat} (hk : k ≤ i) (h : i < runEnd P s k) : P (bt s (i : Int)) = true ∧ i < s.size := by
 have h1 : i - k < tw P ((bs s).drop k) := by unfold runEnd at h; omega
 obtain ⟨c, hc, hp⟩ := tw_all h1
 rw [List.getElem?_drop, show k + (i - k) = i by omega] at hc
 obtain ⟨hl, hc'⟩ := List.getElem?_eq_some_iff.1 hc
 have hl2 : i < s.size := by rw [← bs_len]; exact hl
 rw [bs_get s i hl2] at hc'
 exact ⟨by rw [hc']; exact hp, hl2⟩
def decL (u : Nat) : List Int := (Lib.decDigits u).map fun c => (c.toNat : Int)
/-- The first byte and the code point. -/
theorem dec_asc {s : ByteArray} {i : Nat} (h : (s.get! i).toNat < 128) : Utf8.decode s i = ((s.get! i).toNat, 1) := by
 rw [Lib.decode_at]
 simp only [Lib.decodeN, if_pos h]
end Tb
open Tb
/-! ### pieces of a text -/
/-! ### numbers -/
theorem itoa_nat (u : Nat) : itoaI (u : Int) = decL u := by
 unfold itoaI
 rw [Lib.itoa_nonneg]
 rfl
def isU32 (n : Int) : Prop := 0 ≤ n ∧ n ≤ 4294967295
def numsTxt (ns : List Int) : List Int := ns.flatMap fun n => 46 :: itoaI n
/-! ### atoms -/
end Go.Proofs.YtibbcfeaododhaaGreatDoor
namespace Go.Proofs.YtibbcfeaododhaaGreatDoor
open Go.RowKit Go.Proofs.YtibbcfeaododhaaGreatDoorW.PrintWords
open Tb
/-! ### numbers of 32 bits -/
mutual
/-- The numbers within a term are of 32 bits. -/
def wfT : Tm → Bool
 | ⟨_, _, _, cr, ns, us⟩ => decide (0 ≤ cr) && decide (cr ≤ 4294967295) && ns.all (fun n => decide (0 ≤ n) && decide (n ≤ 4294967295)) && wfL us
def wfL : List Tm → Bool
 | [] => true
 | a :: us => wfT a && wfL us
end
theorem wfT_eq (t : Tm) : wfT t = (decide (0 ≤ t.cr) && decide (t.cr ≤ 4294967295) && t.nums.all (fun n => decide (0 ≤ n) && decide (n ≤ 4294967295)) && wfL t.args) := by
 cases t
 rw [wfT]
theorem wfL_mem : ∀ {l : List Tm} {a : Tm}, wfL l = true → a ∈ l → wfT a = true
 | b :: l, a, h, hm => by
  rw [wfL, Bool.and_eq_true] at h
  rcases List.mem_cons.1 hm with rfl | hm
  ·exact h.1
  ·exact wfL_mem h.2 hm
theorem wf_args {t : Tm} (h : wfT t = true) : wfL t.args = true := by
 rw [wfT_eq, Bool.and_eq_true] at h
 exact h.2
theorem wf_nums {t : Tm} (h : wfT t = true) : ∀ n ∈ t.cr :: t.nums, isU32 n := by
 rw [wfT_eq] at h
 simp only [Bool.and_eq_true, decide_eq_true_eq, List.all_eq_true] at h
 intro n hn
 rcases List.mem_cons.1 hn with rfl | hn
 ·exact ⟨h.1.1.1, h.1.1.2⟩
 ·exact h.1.2 n hn
/-! ### what Measure says of the parts -/
theorem meas_parts {t : Tm} {d n m : Int} (h : (measT t d n m).1 = []) : d ≤ 256 ∧ formBad t n = [] ∧ (measL t.args (d + 1) (n + 1) (max m d)).1 = [] ∧ measT t d n m = measL t.args (d + 1) (n + 1) (max m d) ∧ n ≠ 4096 := by
 have e := measT_eq t d n m
 rw [e] at h
 by_cases h1 : n = 4096
 ·rw [if_pos h1] at h
  cases h
 ·rw [if_neg h1] at h e
  by_cases h2 : 256 < d
  ·rw [if_pos h2] at h
   cases h
  ·rw [if_neg h2] at h e
   cases hf : formBad t n with
   | nil =>
    rw [hf] at h e
    exact ⟨by omega, rfl, h, e, h1⟩
   | cons x r =>
    rw [hf] at h
    cases h
theorem measL_mem : ∀ {l : List Tm} {d n m : Int}, (measL l d n m).1 = [] → ∀ a ∈ l, ∃ n' m', (measT a d n' m').1 = []
 | [], _, _, _, _, a, ha => by cases ha
 | b :: l, d, n, m, h, a, ha => by
  rw [measL] at h
  match he : measT b d n m with
  | ([], n', m') =>
   rw [he] at h
   rcases List.mem_cons.1 ha with rfl | ha
   ·exact ⟨n, m, by rw [he]⟩
   ·exact measL_mem h a ha
  | (x :: r, n', m') =>
   rw [he] at h
   cases h
theorem form_shape {t : Tm} {n : Int} (h : formBad t n = []) : shapeOk t = true := by
 unfold formBad at h
 cases hs : shapeOk t with
 | true => rfl
 | false => rw [hs, if_pos rfl] at h; cases h
theorem over_none {n : Int} {l : List Lk} (h : overTm n l = []) : l = [] := by
 cases l with
 | nil => rfl
 | cons x r => cases h
theorem form_int {t : Tm} {n : Int} (h : formBad t n = []) (hk : t.kd = 1) : -576460752303423488 ≤ t.it ∧ t.it ≤ 576460752303423487 := by
 have hs := form_shape h
 unfold formBad at h
 rw [hs, if_neg (by simp), if_pos hk] at h
 split at h
 ·cases h
 ·omega
theorem form_node {t : Tm} {n : Int} (h : formBad t n = []) (hk : t.kd = 3 ∨ t.kd = 4) : nodeOk t.tx = true := by
 have hs := form_shape h
 unfold formBad at h
 rw [hs, if_neg (by simp), if_neg (by omega), if_neg (by omega), if_pos hk] at h
 have := over_none h
 unfold nodeBad at this
 split at this
 ·assumption
 ·cases this
/-! ### how a text begins -/
/-! ### several terms -/
theorem dropLast_snoc {α : Type} {l : List α} (h : l ≠ []) : ∃ i x, l = i ++ [x] := ⟨l.dropLast, l.getLast h, (List.dropLast_concat_getLast h).symm⟩
/-! ### one term -/
end Go.Proofs.YtibbcfeaododhaaGreatDoor
set_option linter.unusedSimpArgs false
namespace Go.Proofs.YtibbcfeaododhaaGreatDoor
open Go.RowKit Go.Sort Go.Proofs.YtibbcfeaododhaaGreatDoorW.PrintWords
abbrev tyRd : Nat := 56
/-- A reader in block b: its text, its place, how many terms are begun. -/
structure RdAt (W : World) (b : Nat) (s : ByteArray) (k d : Nat) : Prop where
 h : W.heap[b]? = some (.cells #[.string s, .int .i64 (k : Int), .int .i64 (d : Int)] tyRd (0, 0))
theorem RdAt.c0 {W : World} {b : Nat} {s : ByteArray} {k d : Nat} (h : RdAt W b s k d) : W.cell? ⟨b, 0, none⟩ = some (.string s) := by simp [World.cell?, h.h]
theorem RdAt.c1 {W : World} {b : Nat} {s : ByteArray} {k d : Nat} (h : RdAt W b s k d) : W.cell? ⟨b, 1, none⟩ = some (.int .i64 (k : Int)) := by simp [World.cell?, h.h]
theorem RdAt.c2 {W : World} {b : Nat} {s : ByteArray} {k d : Nat} (h : RdAt W b s k d) : W.cell? ⟨b, 2, none⟩ = some (.int .i64 (d : Int)) := by simp [World.cell?, h.h]
theorem RdAt.f1 {W : World} {b : Nat} {s : ByteArray} {k d : Nat} (h : RdAt W b s k d) : W.frozen? ⟨b, 1, none⟩ = false := by simp [World.frozen?, h.h]
theorem RdAt.f2 {W : World} {b : Nat} {s : ByteArray} {k d : Nat} (h : RdAt W b s k d) : W.frozen? ⟨b, 2, none⟩ = false := by simp [World.frozen?, h.h]
theorem RdAt.lt {W : World} {b : Nat} {s : ByteArray} {k d : Nat} (h : RdAt W b s k d) : b < W.heap.size := World.block_lt_of_cell? W _ h.c0
theorem RdAt.below {W W' : World} {b : Nat} {s : ByteArray} {k d : Nat} (h : RdAt W b s k d) (hb : Below W.heap.size W W') : RdAt W' b s k d := ⟨(hb.block b h.lt).trans h.h⟩
theorem RdAt.drewN {W : World} {b : Nat} {s : ByteArray} {k d : Nat} (h : RdAt W b s k d) (n : Nat) : RdAt (W.drewN n) b s k d := ⟨h.h⟩
theorem RdAt.set1 {W : World} {b : Nat} {s : ByteArray} {k d : Nat} (h : RdAt W b s k d) (j : Int) (n : Nat) (hj : j = (n : Int)) : RdAt (W.setCell ⟨b, 1, none⟩ (.int .i64 j)) b s n d := by
 subst hj
 refine ⟨?_⟩
 have hl := h.lt
 have e := h.h
 simp only [World.setCell]
 rw [Array.getElem?_modify]
 simp [e]
theorem RdAt.set2 {W : World} {b : Nat} {s : ByteArray} {k d : Nat} (h : RdAt W b s k d) (j : Int) (n : Nat) (hj : j = (n : Int)) : RdAt (W.setCell ⟨b, 2, none⟩ (.int .i64 j)) b s k n := by
 subst hj
 refine ⟨?_⟩
 have hl := h.lt
 have e := h.h
 simp only [World.setCell]
 rw [Array.getElem?_modify]
 simp [e]
/-- The reader in block b stands at k now; besides, only new blocks. -/
def RdTo (W : World) (b : Nat) (s : ByteArray) (k d : Nat) (W' : World) : Prop := W.grownBy W' (some b) ∧ RdAt W' b s k d
theorem RdTo.refl {W : World} {b : Nat} {s : ByteArray} {k d : Nat} (h : RdAt W b s k d) : RdTo W b s k d W := ⟨World.grownBy.refl _ _, h⟩
theorem RdTo.trans {W W1 W2 : World} {b : Nat} {s : ByteArray} {k d k2 d2 : Nat} (h : RdTo W b s k d W1) (h2 : RdTo W1 b s k2 d2 W2) : RdTo W b s k2 d2 W2 := ⟨h.1.trans h2.1, h2.2⟩
theorem RdTo.below {W W1 W2 : World} {b : Nat} {s : ByteArray} {k d : Nat} (h : RdTo W b s k d W1) (h2 : Below W1.heap.size W1 W2) : RdTo W b s k d W2 := ⟨h.1.trans (grown_of_below h2 _), h.2.below h2⟩
theorem RdTo.drewN {W W1 : World} {b : Nat} {s : ByteArray} {k d : Nat} (h : RdTo W b s k d W1) (n : Nat) : RdTo W b s k d (W1.drewN n) := ⟨h.1.trans (grown_drewN _ _ _), h.2.drewN n⟩
theorem RdTo.set1 {W W1 : World} {b : Nat} {s : ByteArray} {k d : Nat} (h : RdTo W b s k d W1) (j : Int) (n : Nat) (hj : j = (n : Int)) : RdTo W b s n d (W1.setCell ⟨b, 1, none⟩ (.int .i64 j)) := ⟨h.1.trans (grown_set _ _ _ _), h.2.set1 j n hj⟩
theorem RdTo.set2 {W W1 : World} {b : Nat} {s : ByteArray} {k d : Nat} (h : RdTo W b s k d W1) (j : Int) (n : Nat) (hj : j = (n : Int)) : RdTo W b s k n (W1.setCell ⟨b, 2, none⟩ (.int .i64 j)) := ⟨h.1.trans (grown_set _ _ _ _), h.2.set2 j n hj⟩
theorem below_of_grown {W W' : World} {b n : Nat} (h : W.grownBy W' (some b)) (hn : n ≤ b) (hs : n ≤ W.heap.size) : Below n W W' := ⟨h.os, h.tape, h.output, h.size, fun i hi => h.block i (by omega) (by simp; omega)⟩
/-- What was made is still there when the reader has gone on. -/
theorem TmMade.grown {W W' : World} {base b : Nat} {t : Tm} {v : Value} {s : ByteArray} {k d : Nat} (h : TmMade W base t v) (hr : RdAt W b s k d) (hg : W.grownBy W' (some b)) : TmMade W' base t v := by
 obtain ⟨v4, v5, e, h4, h5⟩ := h
 exact ⟨v4, v5, e, Kd.R_mono (Kd.R_grown (Kd.R_types h4 hr.h (by decide)) hg (fun k hk => by simpa using hk.2)) (fun _ _ => trivial), Kd.R_mono (Kd.R_grown (Kd.R_types h5 hr.h (by decide)) hg (fun k hk => by simpa using hk.2)) (fun _ _ => trivial)⟩
theorem term_blank (c : Int) (w : World) : Calls Tryz.prog 53 #[.int .u8 c] w fun e w' => e = .returned (.bool (isBlank c)) ∧ w = w' := by
 unfold isBlank
 go_enter Tryz.func53, Tryz.ntmps53
 go_wp2
 all_goals go_ret
 all_goals refine ⟨eb ?_, rfl⟩
 all_goals first | (simp_all; done) | (simp_all; omega) | (rw [Bool.eq_iff_iff]; simp; omega)
theorem term_digit (c : Int) (w : World) : Calls Tryz.prog 54 #[.int .u8 c] w fun e w' => e = .returned (.bool (isDigit c)) ∧ w = w' := by
 unfold isDigit
 go_enter Tryz.func54, Tryz.ntmps54
 go_wp2
 all_goals go_ret
 all_goals refine ⟨eb ?_, rfl⟩
 all_goals first | (simp_all; done) | (simp_all; omega) | (rw [Bool.eq_iff_iff]; simp; omega)
/-- A call that moves the reader, and hands back nothing. -/
def MovePost (W : World) (b : Nat) (s : ByteArray) (k d : Nat) (e : Ending) (w' : World) : Prop := e = .returned (.tuple #[]) ∧ RdTo W b s k d w'
set_option maxRecDepth 100000 in
set_option maxHeartbeats 1000000 in
theorem rd_skip (b : Nat) (s : ByteArray) (k0 d : Nat) (h0 : k0 ≤ s.size) (hm : s.size ≤ 4194304) (w : World) (hS : RdAt w b s k0 d) :
  Calls Tryz.prog 26 #[.pointer (some ⟨b, 0, none⟩)] w (MovePost w b s (blk s k0) d) := by
 go_enter Tryz.func26, Tryz.ntmps26
 go_wp2_with fail
 go_loopg [] (s.size - k0) (fun gk wl => ∃ k : Nat, k ≤ s.size ∧ gk = s.size - k ∧ Hid (blk s k = blk s k0) ∧ Hid (RdTo w b s k d wl))
 case atStart => exact ⟨k0, h0, rfl, rfl, Lib.hid (.refl hS)⟩
 case round =>
  clear hS
  obtain ⟨k, hk, hgk, HR, HS⟩ := hrel
  have HK := Lib.hid hgk
  clear hgk
  have hs := HS.out.2.c0
  have ha := HS.out.2.c1
  have hf := HS.out.2.f1
  have e1 : (0 : Int) ≤ (k : Int) := by omega
  by_cases hlt : k < s.size
  ·have e2 : (k : Int) < (s.size : Int) := by omega
   have hb := btk s k
   have hr := bt_range s (k : Int)
   by_cases hbl : isBlank (bt s (k : Int)) = true
   ·have HN : Hid (blk s (k + 1) = blk s k0) := Lib.hid ((runEnd_yes hlt hbl).trans HR.out)
    go_wp2_with fail
    go_quiet ((go_at_call 53; exact Calls.quiet_of_same ((term_blank _ _).mono fun e w' h => ⟨h.1, h.2.symm⟩)))
    go_wp2_with fail
    go_roundg (s.size - (k + 1))
    case measure => rw [HK.out]; omega
    case rel => exact ⟨k + 1, by omega, rfl, HN, Lib.hid ((HS.out.drewN _).set1 _ (k + 1) (by omega))⟩
   ·have hbl' : isBlank (bt s (k : Int)) = false := by simpa using hbl
    have HN : Hid (blk s k0 = k) := Lib.hid (HR.out.symm.trans (runEnd_no hlt hbl'))
    clear hbl
    go_wp2_with fail
    go_quiet ((go_at_call 53; exact Calls.quiet_of_same ((term_blank _ _).mono fun e w' h => ⟨h.1, h.2.symm⟩)))
    go_wp2_with fail
    go_end0
    rw [HN.out]
    exact ⟨rfl, HS.out.drewN _⟩
  ·have HN : Hid (blk s k0 = k) := Lib.hid (HR.out.symm.trans (runEnd_out (by omega)))
   have e2 : decide ((k : Int) < (s.size : Int)) = false := decide_eq_false (by omega)
   go_wp2_with fail
   go_quiet (fail)
   go_wp2_with fail
   go_end0
   rw [HN.out]
   exact ⟨rfl, HS.out.drewN _⟩
end Go.Proofs.YtibbcfeaododhaaGreatDoor
set_option linter.unusedSimpArgs false
namespace Go.Proofs.YtibbcfeaododhaaGreatDoor
open Go.RowKit Go.Sort Go.Proofs.YtibbcfeaododhaaGreatDoorW.PrintWords
theorem rd_text (b : Nat) (s : ByteArray) (k d : Nat) (w : World) (hS : RdAt w b s k d) :
  Calls Tryz.prog 29 #[.pointer (some ⟨b, 0, none⟩)] w (ErrPost w [⟨nTerm, k, 41⟩]) := by
 have h1 := hS.c1
 clear hS
 go_enter Tryz.func29, Tryz.ntmps29
 go_wp2_with fail
 refine (term_fault _ _ _ _ [] rfl).mono ?_
 rintro e w' ⟨v, rfl, hE, hB⟩
 have HE := Lib.hid hE
 have HB := Lib.hid hB
 clear hE hB
 go_wp2_with fail
 go_ret
 exact ⟨_, rfl, HE.out, HB.out⟩
def hitAt (s : ByteArray) (k : Nat) (p : ByteArray) : Bool := Lib.hasPrefix (s.extract k s.size).data.toList p.data.toList
def TakePost (w : World) (b : Nat) (s : ByteArray) (k d : Nat) (p : ByteArray) (e : Ending) (w' : World) : Prop :=
 e = .returned (.bool (hitAt s k p)) ∧ RdTo w b s (if hitAt s k p then k + p.size else k) d w'
theorem hasPrefix_len {l p : List UInt8} (h : Lib.hasPrefix l p = true) : p.length ≤ l.length := (List.isPrefixOf_iff_prefix.1 h).length_le
/-- A sign of one byte. -/
theorem hit_one (s : ByteArray) (k : Nat) (c : UInt8) : hitAt s k ⟨#[c]⟩ = isAt s k (c.toNat : Int) := by
 unfold hitAt isAt Lib.hasPrefix
 have hx : bs (s.extract k s.size) = (bs s).drop k := by rw [bs_cut', List.take_of_length_le (by rw [List.length_drop, bs_len]; omega)]
 rw [bs_data'] at hx
 by_cases h : k < s.size
 ·rw [bs_drop s k h] at hx
  generalize (s.extract k s.size).data.toList = L at hx
  cases L with
  | nil => simp at hx
  | cons a l =>
   simp only [List.map_cons, List.cons.injEq] at hx
   rw [← hx.1]
   have : ([c] : List UInt8).isPrefixOf (a :: l) = (c == a) := by simp [List.isPrefixOf]
   change ([c] : List UInt8).isPrefixOf (a :: l) = _
   rw [this, Bool.eq_iff_iff]
   simp only [beq_iff_eq, Bool.and_eq_true, decide_eq_true_eq]
   refine ⟨fun e => ⟨h, by rw [e]⟩, fun e => ?_⟩
   have := e.2
   exact UInt8.toNat_inj.1 (by omega)
 ·rw [List.drop_of_length_le (by rw [bs_len]; omega)] at hx
  have hx := List.map_eq_nil_iff.1 hx
  rw [hx]
  simp [h, List.isPrefixOf]
set_option maxRecDepth 100000 in
set_option maxHeartbeats 1000000 in
theorem rd_take (b : Nat) (s : ByteArray) (k0 d : Nat) (p : ByteArray) (h0 : k0 ≤ s.size) (hm : s.size ≤ 4194304) (w : World) (hS : RdAt w b s k0 d) :
  Calls Tryz.prog 56 #[.pointer (some ⟨b, 0, none⟩), .string p] w (TakePost w b s (blk s k0) d p) := by
 have HS := Lib.hid (rd_skip b s k0 d h0 hm w hS)
 have hk := runEnd_le isBlank s k0 h0
 change blk s k0 ≤ s.size at hk
 generalize blk s k0 = k at hk HS ⊢
 clear hS h0
 go_enter Tryz.func56, Tryz.ntmps56
 go_wp2_with fail
 refine HS.out.mono ?_
 rintro e w1 ⟨rfl, hR⟩
 have HR := Lib.hid hR
 have a0 := hR.2.c0
 have a1 := hR.2.c1
 have hf := hR.2.f1
 have e1 : (0 : Int) ≤ (k : Int) := by omega
 have e2 : (k : Int) ≤ (s.size : Int) := by omega
 have HP := Lib.hid fun W => Tryz.strings_HasPrefix (s.extract k s.size) p W
 have hps : hitAt s k p = true → k + p.size ≤ s.size := by
  intro h
  have := hasPrefix_len h
  rw [← Lib.size_eq, ← Lib.size_eq] at this
  simp at this
  omega
 clear hR HS
 unfold TakePost
 change (Hid (∀ W, Calls Tryz.prog 99 #[.string (s.extract k s.size), .string p] W fun e w' => e = .returned (.bool (hitAt s k p)) ∧ w' = W)) at HP
 cases hh : hitAt s k p with
 | false =>
  rw [hh] at HP
  clear hps
  go_wp2_with fail
  go_quiet ((go_at_call 99; exact (HP.out _).mono fun e w' h => ⟨h.1, _, h.2⟩))
  go_wp2_with fail
  go_ret
  unfold TakePost
  rw [hh]
  exact ⟨rfl, HR.out.drewN _⟩
 | true =>
  rw [hh] at HP
  have hps := hps hh
  go_wp2_with fail
  go_quiet ((go_at_call 99; exact (HP.out _).mono fun e w' h => ⟨h.1, _, h.2⟩))
  go_wp2_with fail
  go_ret
  unfold TakePost
  rw [hh]
  exact ⟨rfl, (HR.out.drewN _).set1 _ (k + p.size) (by omega)⟩
theorem rd_take1 (b : Nat) (s : ByteArray) (k0 d : Nat) (c : UInt8) (h0 : k0 ≤ s.size) (hm : s.size ≤ 4194304) (w : World) (hS : RdAt w b s k0 d) :
  Calls Tryz.prog 56 #[.pointer (some ⟨b, 0, none⟩), .string ⟨#[c]⟩] w fun e w' => e = .returned (.bool (isAt s (blk s k0) (c.toNat : Int))) ∧ RdTo w b s (if isAt s (blk s k0) (c.toNat : Int) then blk s k0 + 1 else blk s k0) d w' := by
 refine (rd_take b s k0 d ⟨#[c]⟩ h0 hm w hS).mono ?_
 rintro e w' ⟨h1, h2⟩
 rw [hit_one] at h1 h2
 exact ⟨h1, h2⟩
/-! ### digits -/
/-- A text and an error. -/
def StrE (w : World) (b : Nat) (s : ByteArray) (k d : Nat) (r : ByteArray × Nat × List Lk) (e : Ending) (w' : World) : Prop :=
 ∃ ev, e = .returned (.tuple #[.string r.1, ev]) ∧ ErrIs w' r.2.2 ev ∧ ∃ k', RdTo w b s k' d w' ∧ k ≤ k' ∧ k' ≤ s.size ∧ (r.2.2 = [] → k' = r.2.1)
def digsAt (s : ByteArray) (k : Nat) : ByteArray × Nat × List Lk :=
 if isDig s k = false then (⟨#[]⟩, 0, [⟨nTerm, k, 41⟩]) else (s.extract k (digEnd s k), digEnd s k, [])
theorem zero_txt {s : ByteArray} {k : Nat} (h : k < s.size) (hb : bt s (k : Int) = 48) : s.extract k (k + 1) = ⟨#[48]⟩ := by
 refine ByteArray.ext (Array.toList_inj.1 ?_)
 have hx : bs (s.extract k (k + 1)) = [48] := by
  rw [bs_cut', bs_drop s k h, hb, show k + 1 - k = 1 by omega]
  rfl
 rw [bs_data'] at hx
 generalize (s.extract k (k + 1)).data.toList = L at hx ⊢
 match L, hx with
 | [c], hx =>
  have h1 : ((c.toNat : Nat) : Int) = 48 := (List.cons.inj hx).1
  have : c = 48 := UInt8.toNat_inj.1 (by change c.toNat = 48; omega)
  rw [this]
 | [], hx => simp at hx
 | _ :: _ :: _, hx => simp at hx
set_option maxRecDepth 100000 in
set_option maxHeartbeats 2000000 in
theorem rd_digits (b : Nat) (s : ByteArray) (k0 d : Nat) (h0 : k0 ≤ s.size) (hm : s.size ≤ 4194304) (w : World) (hS : RdAt w b s k0 d) :
  Calls Tryz.prog 97 #[.pointer (some ⟨b, 0, none⟩)] w (StrE w b s k0 d (digsAt s k0)) := by
 have HS := Lib.hid hS
 have a0 := hS.c0
 have a1 := hS.c1
 have f1 := hS.f1
 have e1 : (0 : Int) ≤ (k0 : Int) := by omega
 obtain ⟨R, hR⟩ : ∃ R, R = digsAt s k0 := ⟨_, rfl⟩
 rw [← hR]
 by_cases hlt : k0 < s.size
 ·have d0 : decide (s.size ≤ k0) = false := decide_eq_false (by omega)
  have e2 : (k0 : Int) < (s.size : Int) := by omega
  have hb := btk s k0
  have hr := bt_range s (k0 : Int)
  cases hd : isDigit (bt s (k0 : Int)) with
  | false =>
   have HR : Hid (R = (⟨#[]⟩, 0, [⟨nTerm, k0, 41⟩])) := Lib.hid (hR.trans (by unfold digsAt isDig; rw [if_pos (by simp [hd])]))
   clear hR hS
   go_enter Tryz.func97, Tryz.ntmps97
   go_wp2_with fail
   refine (term_digit _ _).mono ?_
   rintro e w' ⟨rfl, rfl⟩
   rw [hd]
   go_wp2_with fail
   refine (rd_text b s k0 d _ HS.out).mono ?_
   rintro e w1 ⟨v, rfl, hE, hB⟩
   have HE := Lib.hid hE
   have HB := Lib.hid hB
   clear hE hB a0 a1 f1
   go_wp2_with fail
   go_ret2
   rw [HR.out]
   exact ⟨_, rfl, HE.out, k0, (RdTo.refl HS.out).below HB.out, Nat.le_refl _, h0, fun h => by simp at h⟩
  | true =>
   have HR : Hid (R = (s.extract k0 (digEnd s k0), digEnd s k0, [])) := Lib.hid (hR.trans (by unfold digsAt isDig; rw [if_neg (by simp [hd, hlt])]))
   have HD := Lib.hid hd
   clear hR hS
   by_cases hz : bt s (k0 : Int) = 48
   ·have HZ : Hid (R = (⟨#[48]⟩, k0 + 1, [])) := Lib.hid (by rw [HR.out]; unfold digEnd; rw [if_pos hz, zero_txt hlt hz])
    have dz : (bt s (k0 : Int) == 48) = true := beq_iff_eq.2 hz
    clear hz
    go_enter Tryz.func97, Tryz.ntmps97
    go_wp2_with fail
    refine (term_digit _ _).mono ?_
    rintro e w' ⟨rfl, rfl⟩
    rw [hd]
    go_wp2_with fail
    go_ret2
    rw [HZ.out]
    exact ⟨_, rfl, rfl, k0 + 1, (RdTo.refl HS.out).set1 _ _ (by omega), by omega, by omega, fun _ => rfl⟩
   ·have HZ : Hid (digEnd s k0 = runEnd isDigit s k0) := Lib.hid (by unfold digEnd; rw [if_neg hz])
    have dz : (bt s (k0 : Int) == 48) = false := beq_eq_false_iff_ne.2 hz
    clear hz
    go_enter Tryz.func97, Tryz.ntmps97
    go_wp2_with fail
    refine (term_digit _ _).mono ?_
    rintro e w' ⟨rfl, rfl⟩
    rw [hd]
    clear hd
    go_wp2_with fail
    go_loopg [] (s.size - (k0 + 1)) (fun gk wl => ∃ k : Nat, k0 < k ∧ k ≤ s.size ∧ gk = s.size - k ∧ Hid (runEnd isDigit s k = digEnd s k0) ∧ Hid (RdTo w b s k d wl))
    case atStart => exact ⟨k0 + 1, by omega, by omega, rfl, Lib.hid ((runEnd_yes hlt HD.out).trans HZ.out.symm), Lib.hid ((RdTo.refl HS.out).set1 _ _ (by omega))⟩
    case round =>
     clear a0 a1 f1 hb hr
     obtain ⟨k, hk0, hk, hgk, HQ, HW⟩ := hrel
     have HK := Lib.hid hgk
     clear hgk
     have a0 := HW.out.2.c0
     have a1 := HW.out.2.c1
     have f1 := HW.out.2.f1
     have e1 : (0 : Int) ≤ (k : Int) := by omega
     have e3 : (0 : Int) ≤ (k0 : Int) := by omega
     have e4 : (k0 : Int) ≤ (k : Int) := by omega
     have e5 : (k : Int) ≤ (s.size : Int) := by omega
     by_cases hl : k < s.size
     ·have e2 : (k : Int) < (s.size : Int) := by omega
      have hb := btk s k
      have hr := bt_range s (k : Int)
      cases hdd : isDigit (bt s (k : Int)) with
      | true =>
       have HN : Hid (runEnd isDigit s (k + 1) = digEnd s k0) := Lib.hid ((runEnd_yes hl hdd).trans HQ.out)
       go_wp2_with fail
       go_quiet ((go_at_call 54; exact Calls.quiet_of_same ((term_digit _ _).mono fun e w' h => ⟨h.1, h.2.symm⟩)))
       go_wp2_with fail
       go_roundg (s.size - (k + 1))
       case measure => rw [HK.out]; omega
       case rel => exact ⟨k + 1, by omega, by omega, rfl, HN, Lib.hid ((HW.out.drewN _).set1 _ (k + 1) (by omega))⟩
      | false =>
       have HN : Hid (digEnd s k0 = k) := Lib.hid (HQ.out.symm.trans (runEnd_no hl hdd))
       go_wp2_with fail
       go_quiet ((go_at_call 54; exact Calls.quiet_of_same ((term_digit _ _).mono fun e w' h => ⟨h.1, h.2.symm⟩)))
       go_wp2_with fail
       go_quiet (fail)
       go_wp2_with fail
       go_ret2
       rw [HR.out, HN.out]
       exact ⟨_, rfl, rfl, k, (HW.out.drewN _).drewN _, by omega, by omega, fun _ => rfl⟩
     ·have HN : Hid (digEnd s k0 = k) := Lib.hid (HQ.out.symm.trans (runEnd_out (by omega)))
      have e2 : decide ((k : Int) < (s.size : Int)) = false := decide_eq_false (by omega)
      go_wp2_with fail
      go_quiet (fail)
      go_wp2_with fail
      go_quiet (fail)
      go_wp2_with fail
      go_ret2
      rw [HR.out, HN.out]
      exact ⟨_, rfl, rfl, k, (HW.out.drewN _).drewN _, by omega, by omega, fun _ => rfl⟩
 ·have d0 : decide (s.size ≤ k0) = true := decide_eq_true (by omega)
  have HR : Hid (R = (⟨#[]⟩, 0, [⟨nTerm, k0, 41⟩])) := Lib.hid (hR.trans (by unfold digsAt isDig; rw [if_pos (by simp [hlt])]))
  clear hR hS
  go_enter Tryz.func97, Tryz.ntmps97
  go_wp2_with fail
  refine (rd_text b s k0 d _ HS.out).mono ?_
  rintro e w1 ⟨v, rfl, hE, hB⟩
  have HE := Lib.hid hE
  have HB := Lib.hid hB
  clear hE hB a0 a1 f1
  go_wp2_with fail
  go_ret2
  rw [HR.out]
  exact ⟨_, rfl, HE.out, k0, (RdTo.refl HS.out).below HB.out, Nat.le_refl _, h0, fun h => by simp at h⟩
end Go.Proofs.YtibbcfeaododhaaGreatDoor
set_option linter.unusedSimpArgs false
namespace Go.Proofs.YtibbcfeaododhaaGreatDoor
open Go.RowKit Go.Sort Go.Proofs.YtibbcfeaododhaaGreatDoorW.PrintWords
def foldD (acc : Nat) (l : List UInt8) : Nat := l.foldl (fun a c => a * 10 + (c.toNat - 48)) acc
def digL (l : List UInt8) : Prop := ∀ c ∈ l, 48 ≤ c.toNat ∧ c.toNat ≤ 57
theorem foldD_ge : ∀ (l : List UInt8) (acc : Nat), acc ≤ foldD acc l
 | [], acc => Nat.le_refl _
 | c :: l, acc => Nat.le_trans (by omega) (foldD_ge l (acc * 10 + (c.toNat - 48)))
theorem parseM_digits {M : Nat} (hM : M < 18446744073709551616) : ∀ (l : List UInt8) (acc : Nat), digL l → acc ≤ M → Lib.parseUintM M acc l = if foldD acc l ≤ M then .ok (foldD acc l) else .range
 | [], acc, _, h => by rw [Lib.parseUintM, foldD, List.foldl_nil, if_pos h]
 | c :: l, acc, hd, h => by
  have hc := hd c (by simp)
  have e : foldD acc (c :: l) = foldD (acc * 10 + (c.toNat - 48)) l := rfl
  have hge := foldD_ge l (acc * 10 + (c.toNat - 48))
  rw [Lib.parseUintM, if_pos hc, e]
  by_cases h1 : 1844674407370955162 ≤ acc
  ·rw [if_pos h1, if_neg (by omega)]
  ·rw [if_neg h1]
   by_cases h2 : M < acc * 10 + (c.toNat - 48)
   ·rw [if_pos h2, if_neg (by omega)]
   ·rw [if_neg h2]
    exact parseM_digits hM l _ (fun x hx => hd x (by simp [hx])) (by omega)
theorem decV_fold : ∀ (l : List UInt8) (acc : Nat), digL l → (l.map fun c => (c.toNat : Int)).foldl (fun a c => a * 10 + (c - 48)) (acc : Int) = (foldD acc l : Nat)
 | [], acc, _ => rfl
 | c :: l, acc, hd => by
  have hc := hd c (by simp)
  have h := decV_fold l (acc * 10 + (c.toNat - 48)) (fun x hx => hd x (by simp [hx]))
  rw [List.map_cons, List.foldl_cons]
  rw [show ((acc : Int) * 10 + ((c.toNat : Int) - 48)) = ((acc * 10 + (c.toNat - 48) : Nat) : Int) by omega]
  exact h
/-- A text of digits: what it says. -/
theorem decAt_txt {s : ByteArray} {k e : Nat} (h : digL (s.extract k e).data.toList) : decAt s k e = (foldD 0 (s.extract k e).data.toList : Nat) := by
 unfold decAt decV
 rw [← bs_cut', bs_data']
 exact decV_fold _ 0 h
theorem run_every (P : Int → Bool) (s : ByteArray) (k : Nat) : ∀ c ∈ bs (s.extract k (runEnd P s k)), P c = true := by
 intro c hc
 obtain ⟨j, hj, rfl⟩ := List.mem_iff_getElem.1 hc
 rw [bs_len] at hj
 have hj' : j < runEnd P s k - k := by
  have : (s.extract k (runEnd P s k)).size ≤ runEnd P s k - k := by simp; omega
  omega
 have hin := Tb.runEnd_in (P := P) (s := s) (k := k) (i := k + j) (by omega) (by omega)
 have e := btk (s.extract k (runEnd P s k)) j hj
 have e2 := btk s (k + j) hin.2
 rw [ByteArray.getElem_extract] at e
 rw [bs_get _ j hj, ← e, e2]
 exact hin.1
theorem digs_all {s : ByteArray} {k : Nat} (h : isDig s k = true) : digL (s.extract k (digEnd s k)).data.toList ∧ (s.extract k (digEnd s k)).data.toList ≠ [] ∧ k < digEnd s k ∧ digEnd s k ≤ s.size := by
 unfold isDig at h
 rw [Bool.and_eq_true, decide_eq_true_eq] at h
 have hlt : k < digEnd s k ∧ digEnd s k ≤ s.size ∧ ∀ c ∈ bs (s.extract k (digEnd s k)), isDigit c = true := by
  unfold digEnd
  split
  ·rename_i h0
   refine ⟨by omega, by omega, ?_⟩
   rw [zero_txt h.1 h0]
   decide
  ·have h1 := runEnd_yes h.1 h.2
   have h2 := runEnd_ge isDigit s (k + 1)
   exact ⟨by omega, runEnd_le _ _ _ (by omega), run_every _ _ _⟩
 refine ⟨?_, ?_, hlt.1, hlt.2.1⟩
 ·intro c hc
  have := hlt.2.2 (c.toNat : Int) (by rw [bs_data']; exact List.mem_map.2 ⟨c, hc, rfl⟩)
  unfold isDigit at this
  simp at this
  omega
 ·intro e
  have : (s.extract k (digEnd s k)).size = 0 := by rw [Lib.size_eq, e]; rfl
  simp at this
  omega
theorem parseU_digits {B : Nat} (hB : 2 ^ B - 1 < 18446744073709551616) {l : List UInt8} (hd : digL l) (hn : l ≠ []) : Lib.parseUintB B l = if foldD 0 l ≤ 2 ^ B - 1 then .ok (foldD 0 l) else .range := by
 unfold Lib.parseUintB
 rw [if_neg hn, parseM_digits hB l 0 hd (Nat.zero_le _)]
/-- strconv.ParseUint of digits, at 32 bits. -/
theorem pu32 (D : ByteArray) (hd : digL D.data.toList) (hn : D.data.toList ≠ []) (hm : D.size ≤ 4194304) (w : World) (hG : Glob w) :
  Calls Tryz.prog 154 #[.string D, .int .i64 10, .int .i64 32] w fun e w' => ∃ (n : Int) (ev : Value), e = .returned (.tuple #[.int .u64 n, ev]) ∧ Below w.heap.size w w' ∧
   (foldD 0 D.data.toList ≤ 4294967295 → n = (foldD 0 D.data.toList : Nat) ∧ ev = .nilIface) ∧ (4294967295 < foldD 0 D.data.toList → ∃ t N, ev = .iface t (.pointer (some ⟨N, 0, none⟩))) := by
 have h := parseU_digits (B := 32) (by decide) hd hn
 by_cases hle : foldD 0 D.data.toList ≤ 4294967295
 ·rw [if_pos (by simpa using hle)] at h
  refine (Tryz.strconv_ParseUint_10_at32_ok D (by omega) _ h w).mono ?_
  rintro e w' ⟨rfl, hw⟩
  refine ⟨_, _, rfl, ?_, fun _ => ⟨rfl, rfl⟩, fun h => absurd h (by omega)⟩
  rcases hw with rfl | rfl
  ·exact Below.refl _ _
  ·exact bytesWorld_below _ _ _
 ·rw [if_neg (by simpa using hle)] at h
  obtain ⟨t, p, hc⟩ := hG.rg
  refine (Tryz.strconv_ParseUint_10_at32_range D (by omega) h _ w hc (.inr ⟨t, p, rfl⟩)).mono ?_
  rintro e w' ⟨N, rfl, _, _, hb⟩
  exact ⟨_, _, rfl, hb, fun h => absurd h hle, fun _ => ⟨_, N, rfl⟩⟩
/-- A sign and digits, as strconv.ParseInt has it. -/
def sgn (neg : Bool) : Int := if neg then -1 else 1
def signTxt (neg : Bool) : ByteArray := if neg then ⟨#[45]⟩ else ⟨#[]⟩
theorem pi64 (neg : Bool) (D : ByteArray) (hd : digL D.data.toList) (hn : D.data.toList ≠ []) (hm : D.size ≤ 4194304) (T : ByteArray) (hT : T.data.toList = (if neg then [45] else []) ++ D.data.toList) (w : World) (hG : Glob w) :
  Calls Tryz.prog 98 #[.string T, .int .i64 10, .int .i64 64] w fun e w' => ∃ (n : Int) (ev : Value), e = .returned (.tuple #[.int .i64 n, ev]) ∧ Below w.heap.size w w' ∧
   ((ev = .nilIface ∧ n = sgn neg * (foldD 0 D.data.toList : Nat)) ∨ ((∃ t N, ev = .iface t (.pointer (some ⟨N, 0, none⟩))) ∧ (sgn neg * (foldD 0 D.data.toList : Nat) < -9223372036854775808 ∨ 9223372036854775807 < sgn neg * (foldD 0 D.data.toList : Nat)))) := by
 have hsz : T.size ≤ 4194305 := by
  rw [Lib.size_eq, hT, List.length_append]
  split <;> simp <;> omega
 have h := parseU_digits (B := 64) (by decide) hd hn
 have hpi : Lib.parseIntB 64 T.data.toList = (match Lib.parseUintB 64 D.data.toList with
  | Lib.NumEnd.syntax => Lib.NumEnd.syntax
  | .range => .range
  | .ok u => if ¬ neg = true ∧ 2 ^ 63 ≤ u then .range else if neg = true ∧ 2 ^ 63 < u then .range else .ok (if neg then -(u : Int) else u)) := by
  rw [hT]
  cases neg with
  | true => simp [Lib.parseIntB]; cases Lib.parseUintB 64 D.data.toList <;> rfl
  | false =>
   cases hD : D.data.toList with
   | nil => exact absurd hD hn
   | cons c r =>
    have hc := hd c (by rw [hD]; simp)
    have h1 : ¬ c.toNat = 45 := by omega
    have h2 : ¬ c.toNat = 43 := by omega
    simp [Lib.parseIntB, h1, h2]; cases Lib.parseUintB 64 (c :: r) <;> rfl
 rw [h] at hpi
 generalize foldD 0 D.data.toList = u at hpi
 have hpi : Lib.parseIntB 64 T.data.toList = if -9223372036854775808 ≤ sgn neg * (u : Int) ∧ sgn neg * (u : Int) ≤ 9223372036854775807 then .ok (sgn neg * (u : Int)) else .range := by
  rw [hpi]
  unfold sgn
  by_cases h1 : u ≤ 2 ^ 64 - 1
  ·rw [if_pos h1]
   cases neg with
   | true =>
    by_cases h2 : 2 ^ 63 < u
    ·simp [h2]; omega
    ·have e : ((-1 : Int) * (u : Int)) = -(u : Int) := by omega
     simp [h2, e]; omega
   | false =>
    by_cases h2 : 2 ^ 63 ≤ u
    ·simp [h2]; omega
    ·simp [h2]; omega
  ·rw [if_neg h1]
   cases neg <;> simp <;> omega
 by_cases hr : -9223372036854775808 ≤ sgn neg * (u : Int) ∧ sgn neg * (u : Int) ≤ 9223372036854775807
 ·rw [if_pos hr] at hpi
  refine (Tryz.strconv_ParseInt_10_at64_ok T (by omega) _ hpi w).mono ?_
  rintro e w' ⟨rfl, hw⟩
  refine ⟨_, _, rfl, ?_, .inl ⟨rfl, rfl⟩⟩
  rcases hw with rfl | ⟨t, rfl⟩
  ·exact Below.refl _ _
  ·exact bytesWorld_below _ _ _
 ·rw [if_neg hr] at hpi
  obtain ⟨t, p, hc⟩ := hG.rg
  refine (Tryz.strconv_ParseInt_10_at64_range T (by omega) hpi _ w hc (.inr ⟨t, p, rfl⟩)).mono ?_
  rintro e w' ⟨N, rfl, _, _, hb⟩
  exact ⟨_, _, rfl, hb, .inr ⟨⟨_, N, rfl⟩, by omega⟩⟩
end Go.Proofs.YtibbcfeaododhaaGreatDoor
