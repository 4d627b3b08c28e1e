-- Printed by the kit's print.py over several roots at once (printall.sh)
import Derived.Test.YtibbcfeaododhaaGreatDoorKPCax0
import Derived.Test.YtibbcfeaododhaaGreatDoorKPCax2
namespace Go.Proofs.YtibbcfeaododhaaGreatDoor.PCa
open Go.RowKit Go.Proofs.YtibbcfeaododhaaGreatDoorW.PrintWords Go.Proofs.YtibbcfeaododhaaGreatDoorW.PrintLast Go.Proofs.YtibbcfeaododhaaGreatDoorW.PrintMore
attribute [local go_sem] max2_int min2_int max_two min_two max_three min_three max_four min_four   -- for this text's walks alone
set_option linter.unusedVariables false
set_option linter.unusedSimpArgs false
/-! ### code_checker_wrong: function 134 -/
mutual
def code_checker_wrong.j0 : Nat → Int → Bool → List (S27) → List (S128) → List (S44) → List (S44) → ByteArray → List Int → List (S135) → ByteArray → Int → Int → List (S132) → Int → Bool → Int → Int → Int → Int → Int → Option (Bool × ByteArray × ByteArray × Int × Int × Int)
 | 0, _, _, _, _, _, _, _, _, _, _, _, _, _, _, _, _, _, _, _, _ => none
 | k + 1, x1, x47, x1000, x1001, x1002, x1003, x1004, x1005, x1006, x1007, x1008, x1009, x1010, x1011, x140000, x140001, x140002, x142000, x142001, x142002 => if x47 = true then (some (true, x1004, x1007, x1008, x1009, x1011)) else (if x142000 = 13 then (if x140001 = 1 then (some (decide (x140002 > 0), x1004, x1007, x1008, x1009, x1011)) else (some (true, x1004, x1007, x1008, x1009, x1011))) else (if x142000 = 10 then (code_checker_wrong.j1 k x1 x142000 (x142000 == 10) x1000 x1001 x1002 x1003 x1004 x1005 x1006 x1007 x1008 x1009 x1010 x1011 x140000 x140001 x140002) else (code_checker_wrong.j1 k x1 x142000 (x142000 == 12) x1000 x1001 x1002 x1003 x1004 x1005 x1006 x1007 x1008 x1009 x1010 x1011 x140000 x140001 x140002)))
def code_checker_wrong.j1 : Nat → Int → Int → Bool → List (S27) → List (S128) → List (S44) → List (S44) → ByteArray → List Int → List (S135) → ByteArray → Int → Int → List (S132) → Int → Bool → Int → Int → Option (Bool × ByteArray × ByteArray × Int × Int × Int)
 | 0, _, _, _, _, _, _, _, _, _, _, _, _, _, _, _, _, _, _ => none
 | k + 1, x1, x49, x52, x1000, x1001, x1002, x1003, x1004, x1005, x1006, x1007, x1008, x1009, x1010, x1011, x140000, x140001, x140002 => if x52 = true then (some (decide (x140002 > 0), x1004, x1007, x1008, x1009, x1011)) else (if x49 = 20 then (code_checker_wrong.j2 k x1 x49 (x49 == 20) x1000 x1001 x1002 x1003 x1004 x1005 x1006 x1007 x1008 x1009 x1010 x1011 x140000 x140001 x140002) else (if x49 = 14 then (code_checker_wrong.j2 k x1 x49 (x49 == 14) x1000 x1001 x1002 x1003 x1004 x1005 x1006 x1007 x1008 x1009 x1010 x1011 x140000 x140001 x140002) else (code_checker_wrong.j2 k x1 x49 (x49 == 27) x1000 x1001 x1002 x1003 x1004 x1005 x1006 x1007 x1008 x1009 x1010 x1011 x140000 x140001 x140002)))
def code_checker_wrong.j2 : Nat → Int → Int → Bool → List (S27) → List (S128) → List (S44) → List (S44) → ByteArray → List Int → List (S135) → ByteArray → Int → Int → List (S132) → Int → Bool → Int → Int → Option (Bool × ByteArray × ByteArray × Int × Int × Int)
 | 0, _, _, _, _, _, _, _, _, _, _, _, _, _, _, _, _, _, _ => none
 | k + 1, x1, x49, x55, x1000, x1001, x1002, x1003, x1004, x1005, x1006, x1007, x1008, x1009, x1010, x1011, x140000, x140001, x140002 => if x55 = true then (some (false, x1004, x1007, x1008, x1009, x1011)) else (if x49 = 23 then (if x140002 = 0 then (some (true, x1004, x1007, x1008, x1009, x1011)) else (some (((wrap64 (x1 + 1)) == (x1010.length : Int)), x1004, x1007, x1008, x1009, x1011))) else (some (((wrap64 (x1 + 1)) == (x1010.length : Int)), x1004, x1007, x1008, x1009, x1011)))
end
def code_checker_wrong.f (k : Nat) (s0_0 : List (S27)) (s0_1 : List (S128)) (s0_2 : List (S44)) (s0_3 : List (S44)) (s0_4 : ByteArray) (s0_5 : List Int) (s0_6 : List (S135)) (s0_7 : ByteArray) (s0_8 : Int) (s0_9 : Int) (s0_10 : List (S132)) (s0_11 : Int) (a1 : Int) (a2_0 : Bool) (a2_1 : Int) (a2_2 : Int) : Option (Bool × ByteArray × ByteArray × Int × Int × Int) := if 0 ≤ a1 then (if a1 < (s0_10.length : Int) then ((code_checker_moves.f k s0_0 s0_1 s0_2 s0_3 s0_4 s0_5 s0_6 s0_7 s0_8 s0_9 s0_10 s0_11 ((rd_T132 s0_10 a1).f0) ((rd_T132 s0_10 a1).f1) ((rd_T132 s0_10 a1).f2)).bind fun bt142 => (if a2_1 < bt142.1 then (code_checker_wrong.j0 k a1 true s0_0 s0_1 s0_2 s0_3 bt142.2.2.1 s0_5 s0_6 bt142.2.2.2.1 bt142.2.2.2.2.1 bt142.2.2.2.2.2.1 s0_10 bt142.2.2.2.2.2.2 a2_0 a2_1 a2_2 ((rd_T132 s0_10 a1).f0) ((rd_T132 s0_10 a1).f1) ((rd_T132 s0_10 a1).f2)) else (if (wrap64 ((wrap64 (a2_1 - bt142.1)) + bt142.2.1)) > 8192 then (code_checker_wrong.j0 k a1 true s0_0 s0_1 s0_2 s0_3 bt142.2.2.1 s0_5 s0_6 bt142.2.2.2.1 bt142.2.2.2.2.1 bt142.2.2.2.2.2.1 s0_10 bt142.2.2.2.2.2.2 a2_0 a2_1 a2_2 ((rd_T132 s0_10 a1).f0) ((rd_T132 s0_10 a1).f1) ((rd_T132 s0_10 a1).f2)) else (if ((rd_T132 s0_10 a1).f0) = 21 then (code_checker_wrong.j0 k a1 (decide ((wrap64 (a2_1 + 2)) > 8192)) s0_0 s0_1 s0_2 s0_3 bt142.2.2.1 s0_5 s0_6 bt142.2.2.2.1 bt142.2.2.2.2.1 bt142.2.2.2.2.2.1 s0_10 bt142.2.2.2.2.2.2 a2_0 a2_1 a2_2 ((rd_T132 s0_10 a1).f0) ((rd_T132 s0_10 a1).f1) ((rd_T132 s0_10 a1).f2)) else (code_checker_wrong.j0 k a1 false s0_0 s0_1 s0_2 s0_3 bt142.2.2.1 s0_5 s0_6 bt142.2.2.2.1 bt142.2.2.2.2.1 bt142.2.2.2.2.2.1 s0_10 bt142.2.2.2.2.2.2 a2_0 a2_1 a2_2 ((rd_T132 s0_10 a1).f0) ((rd_T132 s0_10 a1).f1) ((rd_T132 s0_10 a1).f2)))))) else (none)) else (none)
set_option maxHeartbeats 8000000 in
set_option maxRecDepth 100000 in
theorem code_checker_wrong.calls (k : Nat) (g : Nat) (s0_0 : List (S27)) (s0_1 : List (S128)) (s0_2 : List (S44)) (s0_3 : List (S44)) (s0_4 : ByteArray) (s0_5 : List Int) (s0_6 : List (S135)) (s0_7 : ByteArray) (s0_8 : Int) (s0_9 : Int) (s0_10 : List (S132)) (s0_11 : Int) (a1 : Int) (a2_0 : Bool) (a2_1 : Int) (a2_2 : Int) (r1 : Bool) (r2 : ByteArray) (r3 : ByteArray) (r4 : Int) (r5 : Int) (r6 : Int) (w0 w : World) (hI : IsS139 w0 w g s0_0 s0_1 s0_2 s0_3 s0_4 s0_5 s0_6 s0_7 s0_8 s0_9 s0_10 s0_11) (hB : Below w0.heap.size w0 w) (h : code_checker_wrong.f k s0_0 s0_1 s0_2 s0_3 s0_4 s0_5 s0_6 s0_7 s0_8 s0_9 s0_10 s0_11 a1 a2_0 a2_1 a2_2 = some (r1, r2, r3, r4, r5, r6)) :
  Calls Tryz.prog 134 #[.pointer (some ⟨g, 0, none⟩), .int .i64 a1, .agg #[.bool a2_0, .int .i64 a2_1, .int .i64 a2_2]] w fun e w' => e = .returned (.bool r1) ∧ IsS139 w0 w' g s0_0 s0_1 s0_2 s0_3 r2 s0_5 s0_6 r3 r4 r5 s0_10 r6 ∧ Below w0.heap.size w0 w' ∧ KeepBut w w' g none := by
 have hu144 := Tryz.underlying144
 have hu132 := Tryz.underlying132
 have HI0 := Aside0.mk hI
 have HK := Aside0.mk (KeepBut.refl w g none)
 have HL := Aside0.mk hB.size
 clear hI
 have HW0 := Aside0.mk hB.size
 have HB := Aside0.mk hB
 clear hB
 have H : (if 0 ≤ a1 then (if a1 < (s0_10.length : Int) then ((code_checker_moves.f k s0_0 s0_1 s0_2 s0_3 s0_4 s0_5 s0_6 s0_7 s0_8 s0_9 s0_10 s0_11 ((rd_T132 s0_10 a1).f0) ((rd_T132 s0_10 a1).f1) ((rd_T132 s0_10 a1).f2)).bind fun bt142 => (if a2_1 < bt142.1 then (code_checker_wrong.j0 k a1 true s0_0 s0_1 s0_2 s0_3 bt142.2.2.1 s0_5 s0_6 bt142.2.2.2.1 bt142.2.2.2.2.1 bt142.2.2.2.2.2.1 s0_10 bt142.2.2.2.2.2.2 a2_0 a2_1 a2_2 ((rd_T132 s0_10 a1).f0) ((rd_T132 s0_10 a1).f1) ((rd_T132 s0_10 a1).f2)) else (if (wrap64 ((wrap64 (a2_1 - bt142.1)) + bt142.2.1)) > 8192 then (code_checker_wrong.j0 k a1 true s0_0 s0_1 s0_2 s0_3 bt142.2.2.1 s0_5 s0_6 bt142.2.2.2.1 bt142.2.2.2.2.1 bt142.2.2.2.2.2.1 s0_10 bt142.2.2.2.2.2.2 a2_0 a2_1 a2_2 ((rd_T132 s0_10 a1).f0) ((rd_T132 s0_10 a1).f1) ((rd_T132 s0_10 a1).f2)) else (if ((rd_T132 s0_10 a1).f0) = 21 then (code_checker_wrong.j0 k a1 (decide ((wrap64 (a2_1 + 2)) > 8192)) s0_0 s0_1 s0_2 s0_3 bt142.2.2.1 s0_5 s0_6 bt142.2.2.2.1 bt142.2.2.2.2.1 bt142.2.2.2.2.2.1 s0_10 bt142.2.2.2.2.2.2 a2_0 a2_1 a2_2 ((rd_T132 s0_10 a1).f0) ((rd_T132 s0_10 a1).f1) ((rd_T132 s0_10 a1).f2)) else (code_checker_wrong.j0 k a1 false s0_0 s0_1 s0_2 s0_3 bt142.2.2.1 s0_5 s0_6 bt142.2.2.2.1 bt142.2.2.2.2.1 bt142.2.2.2.2.2.1 s0_10 bt142.2.2.2.2.2.2 a2_0 a2_1 a2_2 ((rd_T132 s0_10 a1).f0) ((rd_T132 s0_10 a1).f1) ((rd_T132 s0_10 a1).f2)))))) else (none)) else (none)) = some (r1, r2, r3, r4, r5, r6) := h
 clear h
 by_cases c4 : 0 ≤ a1
 ·rw [if_pos c4] at H
  have c4b0 : decide (0 ≤ a1) = true := decide_eq_true c4
  clear c4
  by_cases c5 : a1 < (s0_10.length : Int)
  ·rw [if_pos c5] at H
   have c5b0 : decide (a1 < (s0_10.length : Int)) = true := decide_eq_true c5
   clear c5
   replace H := Option.bind_eq_some_iff.mp H
   obtain ⟨⟨t142, t143, t144, t145, t146, t147, t148⟩, A60, H⟩ := H
   replace H : (if a2_1 < t142 then (code_checker_wrong.j0 k a1 true s0_0 s0_1 s0_2 s0_3 t144 s0_5 s0_6 t145 t146 t147 s0_10 t148 a2_0 a2_1 a2_2 ((rd_T132 s0_10 a1).f0) ((rd_T132 s0_10 a1).f1) ((rd_T132 s0_10 a1).f2)) else (if (wrap64 ((wrap64 (a2_1 - t142)) + t143)) > 8192 then (code_checker_wrong.j0 k a1 true s0_0 s0_1 s0_2 s0_3 t144 s0_5 s0_6 t145 t146 t147 s0_10 t148 a2_0 a2_1 a2_2 ((rd_T132 s0_10 a1).f0) ((rd_T132 s0_10 a1).f1) ((rd_T132 s0_10 a1).f2)) else (if ((rd_T132 s0_10 a1).f0) = 21 then (code_checker_wrong.j0 k a1 (decide ((wrap64 (a2_1 + 2)) > 8192)) s0_0 s0_1 s0_2 s0_3 t144 s0_5 s0_6 t145 t146 t147 s0_10 t148 a2_0 a2_1 a2_2 ((rd_T132 s0_10 a1).f0) ((rd_T132 s0_10 a1).f1) ((rd_T132 s0_10 a1).f2)) else (code_checker_wrong.j0 k a1 false s0_0 s0_1 s0_2 s0_3 t144 s0_5 s0_6 t145 t146 t147 s0_10 t148 a2_0 a2_1 a2_2 ((rd_T132 s0_10 a1).f0) ((rd_T132 s0_10 a1).f1) ((rd_T132 s0_10 a1).f2))))) = some (r1, r2, r3, r4, r5, r6) := H
   have A6 := Aside0.mk A60
   clear A60
   have HC7 := Aside0.mk H
   clear H
   go_enter Tryz.func134, Tryz.ntmps134
   go_upto_region 3 with (first | ((with_reducible refine gate_dst (N := 5) rfl ?_); refine box_event ?hg (N := 5) ?hd (cs := #[.bool a2_0, .int .i64 a2_1, .int .i64 a2_2]) (t := 144) ?hr ?_; (case hd => rfl); (case hg => rfl); (case hr => first | (go_simp; done) | (go_simp; rfl)); intro gb139 hg w8 hbox hb; have n0_ := Aside0.mk (IsS139.below (by repeat (first | (with_reducible first | exact HI0.out | apply IsS139.alloc | apply IsS139.drewN | apply IsS139.drew | apply IsS139.set_4 | apply IsS139.set_7 | apply IsS139.set_8 | apply IsS139.set_9 | apply IsS139.set_11) | exact HI0.out)) hb); have n1_ := Aside0.mk (KeepBut.trans (by repeat (first | (with_reducible first | exact HK.out | apply KeepBut.set_ | apply keep_drewN | apply keep_drew | apply keep_alloc) | exact HK.out)) (KeepBut.of_below hb g none) (.inl rfl)); have n2_ := Aside0.mk (below_step (by repeat (first | (with_reducible first | exact HB.out | apply below_alloc | apply pw_below_drewN | apply below_drew1 | refine below_set ?_ (IsS139.ge HI0.out)) | exact HB.out)) hb); have n3_ := Aside0.mk (hbox); have n4_ := Aside0.mk ((by rw [hg]; exact (keep_size (w := w) (g := g) (row := none) (by repeat (first | (with_reducible first | exact HK.out | apply KeepBut.set_ | apply keep_drewN | apply keep_drew | apply keep_alloc) | exact HK.out))) : w.heap.size ≤ gb139)); have n5_ := Aside0.mk ((Nat.le_trans HW0.out (by rw [hg]; exact (keep_size (w := w) (g := g) (row := none) (by repeat (first | (with_reducible first | exact HK.out | apply KeepBut.set_ | apply keep_drewN | apply keep_drew | apply keep_alloc) | exact HK.out))) : w.heap.size ≤ gb139) : w0.heap.size ≤ gb139)); have n6_ := Aside0.mk ((by rw [hg]; exact Nat.ne_of_lt (IsS139.lt (show IsS139 w0 _ g s0_0 s0_1 s0_2 s0_3 s0_4 s0_5 s0_6 s0_7 s0_8 s0_9 s0_10 s0_11 from by repeat (first | (with_reducible first | exact HI0.out | apply IsS139.alloc | apply IsS139.drewN | apply IsS139.drew | apply IsS139.set_4 | apply IsS139.set_7 | apply IsS139.set_8 | apply IsS139.set_9 | apply IsS139.set_11) | exact HI0.out))) : g ≠ gb139)); have n7_ := Aside0.mk ((by rw [hg]; exact Nat.ne_of_gt (IsS139.lt (show IsS139 w0 _ g s0_0 s0_1 s0_2 s0_3 s0_4 s0_5 s0_6 s0_7 s0_8 s0_9 s0_10 s0_11 from by repeat (first | (with_reducible first | exact HI0.out | apply IsS139.alloc | apply IsS139.drewN | apply IsS139.drew | apply IsS139.set_4 | apply IsS139.set_7 | apply IsS139.set_8 | apply IsS139.set_9 | apply IsS139.set_11) | exact HI0.out))) : gb139 ≠ g)); clear HI0; clear HK; clear HB; have HI0 := n0_; have HK := n1_; have HB := n2_; have BK139 := n3_; have GW139 := n4_; have GE139 := n5_; have NB0_139 := n6_; have NB139_0 := n7_; clear n0_ n1_ n2_ n3_ n4_ n5_ n6_ n7_; clear hb hbox hg; obtain ⟨ASz9_0, cSz9_0, ASz9_1, cSz9_1, ASz9_2, cSz9_2, ASz9_3, cSz9_3, ASz9_5, cSz9_5, ASz9_6, cSz9_6, ASz9_10, cSz9_10, HGz9, hgz9, HSz9_0, HSz9_1, HSz9_2, HSz9_3, HSz9_5, HSz9_6, HSz9_10⟩ := HI0.out; have hcz9_0 := cellS139_0 HGz9; have hcz9_1 := cellS139_1 HGz9; have hcz9_2 := cellS139_2 HGz9; have hcz9_3 := cellS139_3 HGz9; have hcz9_4 := cellS139_4 HGz9; have hcz9_5 := cellS139_5 HGz9; have hcz9_6 := cellS139_6 HGz9; have hcz9_7 := cellS139_7 HGz9; have hcz9_8 := cellS139_8 HGz9; have hcz9_9 := cellS139_9 HGz9; have hcz9_10 := cellS139_10 HGz9; have hcz9_11 := cellS139_11 HGz9; have hfz9_4 := blk_frozen HGz9 4; have hfz9_7 := blk_frozen HGz9 7; have hfz9_8 := blk_frozen HGz9 8; have hfz9_9 := blk_frozen HGz9 9; have hfz9_11 := blk_frozen HGz9 11; clear HGz9 hgz9; have p140 : 0 ≤ (a1 : Int) := of_decide_eq_true (by first | (with_reducible assumption) | assumption); have q140 : a1 < (s0_10.length : Int) := of_decide_eq_true (by first | (with_reducible assumption) | assumption); obtain ⟨ad140, e140, hx140_0, hx140_1, hx140_2⟩ := at_T132 HSz9_10 a1 p140 q140; cases e140; replace hx140_0 := pw_cell_below HB.out hx140_0; replace hx140_1 := pw_cell_below HB.out hx140_1; replace hx140_2 := pw_cell_below HB.out hx140_2; replace p140 := eq_true p140; replace q140 := eq_true q140) | ((with_reducible refine gate_dst (N := 7) rfl ?_); refine box_event ?hg (N := 7) ?hd (cs := #[.int .i64 0, .int .i64 0, .int .i64 0]) (t := 132) ?hr ?_; (case hd => rfl); (case hg => rfl); (case hr => first | (go_simp; done) | (go_simp; rfl)); intro gb141 hg w10 hbox hb; have n0_ := Aside0.mk (IsS139.below (by repeat (first | (with_reducible first | exact HI0.out | apply IsS139.alloc | apply IsS139.drewN | apply IsS139.drew | apply IsS139.set_4 | apply IsS139.set_7 | apply IsS139.set_8 | apply IsS139.set_9 | apply IsS139.set_11 | refine IsS139.far ?_ NB0_139.out _) | exact HI0.out)) hb); have n1_ := Aside0.mk (blk_below (g := gb139) (o := .cells #[.bool a2_0, .int .i64 a2_1, .int .i64 a2_2] 144 (0, 0)) (by (with_reducible repeat (first | refine blk_drewN ?_ _ | refine blk_drew ?_ | refine blk_alloc ?_ _)); exact BK139.out) hb); have n2_ := Aside0.mk (KeepBut.trans (by repeat (first | (with_reducible first | exact HK.out | apply KeepBut.set_ | apply keep_drewN | apply keep_drew | apply keep_alloc | refine keep_far ?_ GW139.out _) | exact HK.out)) (KeepBut.of_below hb g none) (.inl rfl)); have n3_ := Aside0.mk (below_step (by repeat (first | (with_reducible first | exact HB.out | apply below_alloc | apply pw_below_drewN | apply below_drew1 | refine below_set ?_ (IsS139.ge HI0.out) | refine below_set ?_ GE139.out) | exact HB.out)) hb); have n4_ := Aside0.mk (hbox); have n5_ := Aside0.mk ((by rw [hg]; exact (keep_size (w := w) (g := g) (row := none) (by repeat (first | (with_reducible first | exact HK.out | apply KeepBut.set_ | apply keep_drewN | apply keep_drew | apply keep_alloc | refine keep_far ?_ GW139.out _) | exact HK.out))) : w.heap.size ≤ gb141)); have n6_ := Aside0.mk ((Nat.le_trans HW0.out (by rw [hg]; exact (keep_size (w := w) (g := g) (row := none) (by repeat (first | (with_reducible first | exact HK.out | apply KeepBut.set_ | apply keep_drewN | apply keep_drew | apply keep_alloc | refine keep_far ?_ GW139.out _) | exact HK.out))) : w.heap.size ≤ gb141) : w0.heap.size ≤ gb141)); have n7_ := Aside0.mk ((by rw [hg]; exact Nat.ne_of_lt (blk_lt (g := gb139) (o := .cells #[.bool a2_0, .int .i64 a2_1, .int .i64 a2_2] 144 (0, 0)) (by (with_reducible repeat (first | refine blk_drewN ?_ _ | refine blk_drew ?_ | refine blk_alloc ?_ _)); exact BK139.out)) : gb139 ≠ gb141)); have n8_ := Aside0.mk ((by rw [hg]; exact Nat.ne_of_gt (blk_lt (g := gb139) (o := .cells #[.bool a2_0, .int .i64 a2_1, .int .i64 a2_2] 144 (0, 0)) (by (with_reducible repeat (first | refine blk_drewN ?_ _ | refine blk_drew ?_ | refine blk_alloc ?_ _)); exact BK139.out)) : gb141 ≠ gb139)); have n9_ := Aside0.mk ((by rw [hg]; exact Nat.ne_of_lt (IsS139.lt (show IsS139 w0 _ g s0_0 s0_1 s0_2 s0_3 s0_4 s0_5 s0_6 s0_7 s0_8 s0_9 s0_10 s0_11 from by repeat (first | (with_reducible first | exact HI0.out | apply IsS139.alloc | apply IsS139.drewN | apply IsS139.drew | apply IsS139.set_4 | apply IsS139.set_7 | apply IsS139.set_8 | apply IsS139.set_9 | apply IsS139.set_11 | refine IsS139.far ?_ NB0_139.out _) | exact HI0.out))) : g ≠ gb141)); have n10_ := Aside0.mk ((by rw [hg]; exact Nat.ne_of_gt (IsS139.lt (show IsS139 w0 _ g s0_0 s0_1 s0_2 s0_3 s0_4 s0_5 s0_6 s0_7 s0_8 s0_9 s0_10 s0_11 from by repeat (first | (with_reducible first | exact HI0.out | apply IsS139.alloc | apply IsS139.drewN | apply IsS139.drew | apply IsS139.set_4 | apply IsS139.set_7 | apply IsS139.set_8 | apply IsS139.set_9 | apply IsS139.set_11 | refine IsS139.far ?_ NB0_139.out _) | exact HI0.out))) : gb141 ≠ g)); clear HI0; clear BK139; clear HK; clear HB; have HI0 := n0_; have BK139 := n1_; have HK := n2_; have HB := n3_; have BK141 := n4_; have GW141 := n5_; have GE141 := n6_; have NB139_141 := n7_; have NB141_139 := n8_; have NB0_141 := n9_; have NB141_0 := n10_; clear n0_ n1_ n2_ n3_ n4_ n5_ n6_ n7_ n8_ n9_ n10_; clear hb hbox hg; have hnb11 := NB141_139.out; have hnc11 := NB139_141.out; have hnb12 := NB141_0.out; have hnc12 := NB0_141.out; have hcz13_0 : w10.cell? ⟨gb141, 0, none⟩ = some (.int .i64 0) := (blk_cell BK141.out 0).trans rfl; have hcz13_1 : w10.cell? ⟨gb141, 1, none⟩ = some (.int .i64 0) := (blk_cell BK141.out 1).trans rfl; have hcz13_2 : w10.cell? ⟨gb141, 2, none⟩ = some (.int .i64 0) := (blk_cell BK141.out 2).trans rfl; have hfz13_0 := blk_frozen BK141.out 0; have hfz13_1 := blk_frozen BK141.out 1; have hfz13_2 := blk_frozen BK141.out 2) | ((with_reducible refine gate_callee (f := 87) rfl ?_); refine goesL_ (some 21) rfl rfl Tryz.func87 (by kernel_rfl) rfl #[.pointer (some ⟨g, 0, none⟩), .agg #[.int .i64 ((rd_T132 s0_10 a1).f0), .int .i64 ((rd_T132 s0_10 a1).f1), .int .i64 ((rd_T132 s0_10 a1).f2)]] rfl (by (try simp only [List.map_toArray, List.map_cons, List.map_nil]); first | done | rfl | (simp only [List.length_drop, List.length_take]; rfl)) ?_; (with_reducible refine (code_checker_moves.calls k g s0_0 s0_1 s0_2 s0_3 s0_4 s0_5 s0_6 s0_7 s0_8 s0_9 s0_10 s0_11 ((rd_T132 s0_10 a1).f0) ((rd_T132 s0_10 a1).f1) ((rd_T132 s0_10 a1).f2) t142 t143 t144 t145 t146 t147 t148 w0 _ ?side1 ?side2 A6.out).mono ?_); (case side1 => repeat (first | (with_reducible first | exact HI0.out | apply IsS139.alloc | apply IsS139.drewN | apply IsS139.drew | apply IsS139.set_4 | apply IsS139.set_7 | apply IsS139.set_8 | apply IsS139.set_9 | apply IsS139.set_11 | refine IsS139.far ?_ NB0_139.out _ | refine IsS139.far ?_ NB0_141.out _) | exact HI0.out)); (case side2 => repeat (first | (with_reducible first | exact HB.out | apply below_alloc | apply pw_below_drewN | apply below_drew1 | refine below_set ?_ (IsS139.ge HI0.out) | refine below_set ?_ GE139.out | refine below_set ?_ GE141.out) | exact HB.out)); rintro e w14 ⟨rfl, hi, hb, hk⟩; refine ⟨_, rfl, ?_⟩; have n0_ := Aside0.mk (KeepBut.blk hk (g' := gb139) (o := .cells #[.bool a2_0, .int .i64 a2_1, .int .i64 a2_2] 144 (0, 0)) (by (with_reducible repeat (first | refine blk_drewN ?_ _ | refine blk_drew ?_ | refine blk_alloc ?_ _)); refine blk_far ?_ NB139_141.out _; (with_reducible repeat (first | refine blk_drewN ?_ _ | refine blk_drew ?_ | refine blk_alloc ?_ _)); refine blk_far ?_ NB139_141.out _; (with_reducible repeat (first | refine blk_drewN ?_ _ | refine blk_drew ?_ | refine blk_alloc ?_ _)); refine blk_far ?_ NB139_141.out _; (with_reducible repeat (first | refine blk_drewN ?_ _ | refine blk_drew ?_ | refine blk_alloc ?_ _)); exact BK139.out) NB139_0.out (by simp)); have n1_ := Aside0.mk (KeepBut.blk hk (g' := gb141) (o := .cells #[.int .i64 ((rd_T132 s0_10 a1).f0), .int .i64 ((rd_T132 s0_10 a1).f1), .int .i64 ((rd_T132 s0_10 a1).f2)] 132 (0, 0)) (by (with_reducible repeat (first | refine blk_drewN ?_ _ | refine blk_drew ?_ | refine blk_alloc ?_ _)); refine blk_put (cs := #[.int .i64 ((rd_T132 s0_10 a1).f0), .int .i64 ((rd_T132 s0_10 a1).f1), .int .i64 0]) ?_ 2 _ rfl; (with_reducible repeat (first | refine blk_drewN ?_ _ | refine blk_drew ?_ | refine blk_alloc ?_ _)); refine blk_put (cs := #[.int .i64 ((rd_T132 s0_10 a1).f0), .int .i64 0, .int .i64 0]) ?_ 1 _ rfl; (with_reducible repeat (first | refine blk_drewN ?_ _ | refine blk_drew ?_ | refine blk_alloc ?_ _)); refine blk_put (cs := #[.int .i64 0, .int .i64 0, .int .i64 0]) ?_ 0 _ rfl; (with_reducible repeat (first | refine blk_drewN ?_ _ | refine blk_drew ?_ | refine blk_alloc ?_ _)); exact BK141.out) NB141_0.out (by simp)); have n2_ := Aside0.mk (KeepBut.trans (by repeat (first | (with_reducible first | exact HK.out | apply KeepBut.set_ | apply keep_drewN | apply keep_drew | apply keep_alloc | refine keep_far ?_ GW139.out _ | refine keep_far ?_ GW141.out _) | exact HK.out)) hk (.inl rfl)); have n3_ := Aside0.mk (hb); have n4_ := Aside0.mk (hi); clear BK139; clear BK141; clear HK; clear HB; clear HI0; have BK139 := n0_; have BK141 := n1_; have HK := n2_; have HB := n3_; have HI0 := n4_; clear n0_ n1_ n2_ n3_ n4_; (try clear hb); (try clear hb2); (try clear hk); (try clear hi)))
   (try simp only [Act.put, List.setIfInBounds_toArray, List.set_cons_zero, List.set_cons_succ])
   go_cut [47] (fun v47 wc => ∃ (kq : Nat) (x47_6 : Bool), v47 = .bool x47_6 ∧ Aside0 (code_checker_wrong.j0 kq a1 x47_6 s0_0 s0_1 s0_2 s0_3 t144 s0_5 s0_6 t145 t146 t147 s0_10 t148 a2_0 a2_1 a2_2 ((rd_T132 s0_10 a1).f0) ((rd_T132 s0_10 a1).f1) ((rd_T132 s0_10 a1).f2) = some (r1, r2, r3, r4, r5, r6)) ∧ Aside0 (kq ≤ k) ∧ Aside0 (wc.heap[gb139]? = some (.cells #[.bool a2_0, .int .i64 a2_1, .int .i64 a2_2] 144 (0, 0))) ∧ Aside0 (wc.heap[gb141]? = some (.cells #[.int .i64 ((rd_T132 s0_10 a1).f0), .int .i64 ((rd_T132 s0_10 a1).f1), .int .i64 ((rd_T132 s0_10 a1).f2)] 132 (0, 0))) ∧ Aside0 (IsS139 w0 wc g s0_0 s0_1 s0_2 s0_3 t144 s0_5 s0_6 t145 t146 t147 s0_10 t148) ∧ Aside0 (KeepBut w wc g none) ∧ Aside0 (Below w0.heap.size w0 wc))
   case first =>
    have H := HC7.out
    clear HC7
    by_cases c15 : a2_1 < t142
    ·rw [if_pos c15] at H
     have c15b0 : decide (a2_1 < t142) = true := decide_eq_true c15
     clear c15
     (first | rw [c15b0] | (simp only [i64_w, i32_w]; rw [c15b0]) | skip)
     have H' := Aside0.mk H
     clear H
     have hnb16 := NB139_141.out
     have hnc16 := NB141_139.out
     have hnb17 := NB139_0.out
     have hnc17 := NB0_139.out
     have hcz18_0 : w14.cell? ⟨gb139, 0, none⟩ = some (.bool a2_0) := (blk_cell BK139.out 0).trans rfl
     have hcz18_1 : w14.cell? ⟨gb139, 1, none⟩ = some (.int .i64 a2_1) := (blk_cell BK139.out 1).trans rfl
     have hcz18_2 : w14.cell? ⟨gb139, 2, none⟩ = some (.int .i64 a2_2) := (blk_cell BK139.out 2).trans rfl
     have hfz18_0 := blk_frozen BK139.out 0
     have hfz18_1 := blk_frozen BK139.out 1
     have hfz18_2 := blk_frozen BK139.out 2
     go_wp2
     go_meet
     case rel => exact ⟨_, (true), (by first | rfl | (simp; done) | (simp [*]; done)), H', ⟨by first | omega | exact Nat.le_refl _⟩, ⟨by (with_reducible repeat (first | refine blk_drewN ?_ _ | refine blk_drew ?_ | refine blk_alloc ?_ _)); exact BK139.out⟩, ⟨by (with_reducible repeat (first | refine blk_drewN ?_ _ | refine blk_drew ?_ | refine blk_alloc ?_ _)); exact BK141.out⟩, ⟨by repeat (first | (with_reducible first | exact HI0.out | apply IsS139.alloc | apply IsS139.drewN | apply IsS139.drew | apply IsS139.set_4 | apply IsS139.set_7 | apply IsS139.set_8 | apply IsS139.set_9 | apply IsS139.set_11 | refine IsS139.far ?_ NB0_139.out _ | refine IsS139.far ?_ NB0_141.out _) | exact HI0.out)⟩, ⟨by repeat (first | (with_reducible first | exact HK.out | apply KeepBut.set_ | apply keep_drewN | apply keep_drew | apply keep_alloc | refine keep_far ?_ GW139.out _ | refine keep_far ?_ GW141.out _) | exact HK.out)⟩, ⟨by repeat (first | (with_reducible first | exact HB.out | apply below_alloc | apply pw_below_drewN | apply below_drew1 | refine below_set ?_ (IsS139.ge HI0.out) | refine below_set ?_ GE139.out | refine below_set ?_ GE141.out) | exact HB.out)⟩⟩
    ·rw [if_neg c15] at H
     have c15b0 : decide (a2_1 < t142) = false := decide_eq_false c15
     clear c15
     (first | rw [c15b0] | (simp only [i64_w, i32_w]; rw [c15b0]) | skip)
     by_cases c19 : (wrap64 ((wrap64 (a2_1 - t142)) + t143)) > 8192
     ·rw [if_pos c19] at H
      have c19b0 : decide (8192 < (wrap64 ((wrap64 (a2_1 - t142)) + t143))) = true := decide_eq_true c19
      clear c19
      have H' := Aside0.mk H
      clear H
      have hnb20 := NB139_141.out
      have hnc20 := NB141_139.out
      have hnb21 := NB139_0.out
      have hnc21 := NB0_139.out
      have hcz22_0 : w14.cell? ⟨gb139, 0, none⟩ = some (.bool a2_0) := (blk_cell BK139.out 0).trans rfl
      have hcz22_1 : w14.cell? ⟨gb139, 1, none⟩ = some (.int .i64 a2_1) := (blk_cell BK139.out 1).trans rfl
      have hcz22_2 : w14.cell? ⟨gb139, 2, none⟩ = some (.int .i64 a2_2) := (blk_cell BK139.out 2).trans rfl
      have hfz22_0 := blk_frozen BK139.out 0
      have hfz22_1 := blk_frozen BK139.out 1
      have hfz22_2 := blk_frozen BK139.out 2
      go_wp2
      go_meet
      case rel => exact ⟨_, (true), (by first | rfl | (simp; done) | (simp [*]; done)), H', ⟨by first | omega | exact Nat.le_refl _⟩, ⟨by (with_reducible repeat (first | refine blk_drewN ?_ _ | refine blk_drew ?_ | refine blk_alloc ?_ _)); exact BK139.out⟩, ⟨by (with_reducible repeat (first | refine blk_drewN ?_ _ | refine blk_drew ?_ | refine blk_alloc ?_ _)); exact BK141.out⟩, ⟨by repeat (first | (with_reducible first | exact HI0.out | apply IsS139.alloc | apply IsS139.drewN | apply IsS139.drew | apply IsS139.set_4 | apply IsS139.set_7 | apply IsS139.set_8 | apply IsS139.set_9 | apply IsS139.set_11 | refine IsS139.far ?_ NB0_139.out _ | refine IsS139.far ?_ NB0_141.out _) | exact HI0.out)⟩, ⟨by repeat (first | (with_reducible first | exact HK.out | apply KeepBut.set_ | apply keep_drewN | apply keep_drew | apply keep_alloc | refine keep_far ?_ GW139.out _ | refine keep_far ?_ GW141.out _) | exact HK.out)⟩, ⟨by repeat (first | (with_reducible first | exact HB.out | apply below_alloc | apply pw_below_drewN | apply below_drew1 | refine below_set ?_ (IsS139.ge HI0.out) | refine below_set ?_ GE139.out | refine below_set ?_ GE141.out) | exact HB.out)⟩⟩
     ·rw [if_neg c19] at H
      have c19b0 : decide (8192 < (wrap64 ((wrap64 (a2_1 - t142)) + t143))) = false := decide_eq_false c19
      clear c19
      by_cases c23 : ((rd_T132 s0_10 a1).f0) = 21
      ·rw [if_pos c23] at H
       have c23b0 : (((rd_T132 s0_10 a1).f0) == 21) = true := beq_iff_eq.mpr c23
       have c23b1 : (((rd_T132 s0_10 a1).f0) != 21) = false := bne_eq_false_iff_eq.mpr c23
       clear c23
       have H' := Aside0.mk H
       clear H
       have hnb24 := NB139_141.out
       have hnc24 := NB141_139.out
       have hnb25 := NB139_0.out
       have hnc25 := NB0_139.out
       have hcz26_0 : w14.cell? ⟨gb139, 0, none⟩ = some (.bool a2_0) := (blk_cell BK139.out 0).trans rfl
       have hcz26_1 : w14.cell? ⟨gb139, 1, none⟩ = some (.int .i64 a2_1) := (blk_cell BK139.out 1).trans rfl
       have hcz26_2 : w14.cell? ⟨gb139, 2, none⟩ = some (.int .i64 a2_2) := (blk_cell BK139.out 2).trans rfl
       have hfz26_0 := blk_frozen BK139.out 0
       have hfz26_1 := blk_frozen BK139.out 1
       have hfz26_2 := blk_frozen BK139.out 2
       have hnb27 := NB141_0.out
       have hnc27 := NB0_141.out
       have hcz28_0 : w14.cell? ⟨gb141, 0, none⟩ = some (.int .i64 ((rd_T132 s0_10 a1).f0)) := (blk_cell BK141.out 0).trans rfl
       have hcz28_1 : w14.cell? ⟨gb141, 1, none⟩ = some (.int .i64 ((rd_T132 s0_10 a1).f1)) := (blk_cell BK141.out 1).trans rfl
       have hcz28_2 : w14.cell? ⟨gb141, 2, none⟩ = some (.int .i64 ((rd_T132 s0_10 a1).f2)) := (blk_cell BK141.out 2).trans rfl
       have hfz28_0 := blk_frozen BK141.out 0
       have hfz28_1 := blk_frozen BK141.out 1
       have hfz28_2 := blk_frozen BK141.out 2
       go_wp2
       go_meet
       case rel => exact ⟨_, (decide ((wrap64 (a2_1 + 2)) > 8192)), (by first | rfl | (simp; done) | (simp [*]; done)), H', ⟨by first | omega | exact Nat.le_refl _⟩, ⟨by (with_reducible repeat (first | refine blk_drewN ?_ _ | refine blk_drew ?_ | refine blk_alloc ?_ _)); exact BK139.out⟩, ⟨by (with_reducible repeat (first | refine blk_drewN ?_ _ | refine blk_drew ?_ | refine blk_alloc ?_ _)); exact BK141.out⟩, ⟨by repeat (first | (with_reducible first | exact HI0.out | apply IsS139.alloc | apply IsS139.drewN | apply IsS139.drew | apply IsS139.set_4 | apply IsS139.set_7 | apply IsS139.set_8 | apply IsS139.set_9 | apply IsS139.set_11 | refine IsS139.far ?_ NB0_139.out _ | refine IsS139.far ?_ NB0_141.out _) | exact HI0.out)⟩, ⟨by repeat (first | (with_reducible first | exact HK.out | apply KeepBut.set_ | apply keep_drewN | apply keep_drew | apply keep_alloc | refine keep_far ?_ GW139.out _ | refine keep_far ?_ GW141.out _) | exact HK.out)⟩, ⟨by repeat (first | (with_reducible first | exact HB.out | apply below_alloc | apply pw_below_drewN | apply below_drew1 | refine below_set ?_ (IsS139.ge HI0.out) | refine below_set ?_ GE139.out | refine below_set ?_ GE141.out) | exact HB.out)⟩⟩
      ·rw [if_neg c23] at H
       have c23b0 : (((rd_T132 s0_10 a1).f0) == 21) = false := beq_eq_false_iff_ne.mpr c23
       have c23b1 : (((rd_T132 s0_10 a1).f0) != 21) = true := bne_iff_ne.mpr c23
       have H' := Aside0.mk H
       clear H
       have hnb29 := NB139_141.out
       have hnc29 := NB141_139.out
       have hnb30 := NB139_0.out
       have hnc30 := NB0_139.out
       have hcz31_0 : w14.cell? ⟨gb139, 0, none⟩ = some (.bool a2_0) := (blk_cell BK139.out 0).trans rfl
       have hcz31_1 : w14.cell? ⟨gb139, 1, none⟩ = some (.int .i64 a2_1) := (blk_cell BK139.out 1).trans rfl
       have hcz31_2 : w14.cell? ⟨gb139, 2, none⟩ = some (.int .i64 a2_2) := (blk_cell BK139.out 2).trans rfl
       have hfz31_0 := blk_frozen BK139.out 0
       have hfz31_1 := blk_frozen BK139.out 1
       have hfz31_2 := blk_frozen BK139.out 2
       have hnb32 := NB141_0.out
       have hnc32 := NB0_141.out
       have hcz33_0 : w14.cell? ⟨gb141, 0, none⟩ = some (.int .i64 ((rd_T132 s0_10 a1).f0)) := (blk_cell BK141.out 0).trans rfl
       have hcz33_1 : w14.cell? ⟨gb141, 1, none⟩ = some (.int .i64 ((rd_T132 s0_10 a1).f1)) := (blk_cell BK141.out 1).trans rfl
       have hcz33_2 : w14.cell? ⟨gb141, 2, none⟩ = some (.int .i64 ((rd_T132 s0_10 a1).f2)) := (blk_cell BK141.out 2).trans rfl
       have hfz33_0 := blk_frozen BK141.out 0
       have hfz33_1 := blk_frozen BK141.out 1
       have hfz33_2 := blk_frozen BK141.out 2
       go_wp2
       go_meet
       case rel => exact ⟨_, (false), (by first | rfl | (simp; done) | (simp [*]; done)), H', ⟨by first | omega | exact Nat.le_refl _⟩, ⟨by (with_reducible repeat (first | refine blk_drewN ?_ _ | refine blk_drew ?_ | refine blk_alloc ?_ _)); exact BK139.out⟩, ⟨by (with_reducible repeat (first | refine blk_drewN ?_ _ | refine blk_drew ?_ | refine blk_alloc ?_ _)); exact BK141.out⟩, ⟨by repeat (first | (with_reducible first | exact HI0.out | apply IsS139.alloc | apply IsS139.drewN | apply IsS139.drew | apply IsS139.set_4 | apply IsS139.set_7 | apply IsS139.set_8 | apply IsS139.set_9 | apply IsS139.set_11 | refine IsS139.far ?_ NB0_139.out _ | refine IsS139.far ?_ NB0_141.out _) | exact HI0.out)⟩, ⟨by repeat (first | (with_reducible first | exact HK.out | apply KeepBut.set_ | apply keep_drewN | apply keep_drew | apply keep_alloc | refine keep_far ?_ GW139.out _ | refine keep_far ?_ GW141.out _) | exact HK.out)⟩, ⟨by repeat (first | (with_reducible first | exact HB.out | apply below_alloc | apply pw_below_drewN | apply below_drew1 | refine below_set ?_ (IsS139.ge HI0.out) | refine below_set ?_ GE139.out | refine below_set ?_ GE141.out) | exact HB.out)⟩⟩
   case rest =>
    clear HC7
    try clear c1
    try clear p1
    try clear q1
    try clear hx1
    try clear c2
    try clear p2
    try clear c3
    try clear c4
    try clear c4b0
    try clear c5
    try clear c5b0
    try clear p6
    try clear c8
    try clear c11
    try clear c12
    try clear c13
    try clear p14
    try clear q14
    try clear hx14
    try clear c15
    try clear c15b0
    try clear c16
    try clear c17
    try clear c19
    try clear c19b0
    try clear c20
    try clear c21
    try clear c23
    try clear c23b0
    try clear c23b1
    try clear c24
    try clear c25
    try clear c27
    try clear c29
    try clear c30
    try clear c32
    try clear hcz13_0
    try clear hcz13_1
    try clear hcz13_2
    try clear hcz18_0
    try clear hcz18_1
    try clear hcz18_2
    try clear hcz22_0
    try clear hcz22_1
    try clear hcz22_2
    try clear hcz26_0
    try clear hcz26_1
    try clear hcz26_2
    try clear hcz28_0
    try clear hcz28_1
    try clear hcz28_2
    try clear hcz31_0
    try clear hcz31_1
    try clear hcz31_2
    try clear hcz33_0
    try clear hcz33_1
    try clear hcz33_2
    try clear hcz9_0
    try clear hcz9_1
    try clear hcz9_10
    try clear hcz9_11
    try clear hcz9_2
    try clear hcz9_3
    try clear hcz9_4
    try clear hcz9_5
    try clear hcz9_6
    try clear hcz9_7
    try clear hcz9_8
    try clear hcz9_9
    try clear hfz13_0
    try clear hfz13_1
    try clear hfz13_2
    try clear hfz18_0
    try clear hfz18_1
    try clear hfz18_2
    try clear hfz22_0
    try clear hfz22_1
    try clear hfz22_2
    try clear hfz26_0
    try clear hfz26_1
    try clear hfz26_2
    try clear hfz28_0
    try clear hfz28_1
    try clear hfz28_2
    try clear hfz31_0
    try clear hfz31_1
    try clear hfz31_2
    try clear hfz33_0
    try clear hfz33_1
    try clear hfz33_2
    try clear hfz9_11
    try clear hfz9_4
    try clear hfz9_7
    try clear hfz9_8
    try clear hfz9_9
    try clear hx140_0
    try clear hx140_1
    try clear hx140_2
    try clear p140
    try clear q140
    obtain ⟨kq, x47_6, rfl, HA, HJ6, BK139, BK141, HI0, HK, HB⟩ := hcut
    cases kq with
    | zero => exact absurd HA.out (by simp [code_checker_wrong.j0])
    | succ kj6 =>
     have H := HA.out
     clear HA
     simp only [code_checker_wrong.j0] at H
     by_cases c34 : x47_6 = true
     ·subst c34
      have H1 : (some (true, t144, t145, t146, t147, t148)) = some (r1, r2, r3, r4, r5, r6) := by rw [if_pos rfl] at H; exact H
      clear H
      have H := H1
      clear H1
      simp only [Option.some.injEq, Prod.mk.injEq] at H
      obtain ⟨rfl, rfl, rfl, rfl, rfl, rfl⟩ := H
      go_wp2
      go_ret
      exact ⟨by first | rfl | (simp [errW_none, errW_some] <;> rfl) | (simp [*, errW_none, errW_some] <;> rfl), by repeat (first | (with_reducible first | exact HI0.out | apply IsS139.alloc | apply IsS139.drewN | apply IsS139.drew | apply IsS139.set_4 | apply IsS139.set_7 | apply IsS139.set_8 | apply IsS139.set_9 | apply IsS139.set_11 | refine IsS139.far ?_ NB0_139.out _ | refine IsS139.far ?_ NB0_141.out _) | exact HI0.out), by repeat (first | (with_reducible first | exact HB.out | apply below_alloc | apply pw_below_drewN | apply below_drew1 | refine below_set ?_ (IsS139.ge HI0.out) | refine below_set ?_ GE139.out | refine below_set ?_ GE141.out) | exact HB.out), by repeat (first | (with_reducible first | exact HK.out | apply KeepBut.set_ | apply keep_drewN | apply keep_drew | apply keep_alloc | refine keep_far ?_ GW139.out _ | refine keep_far ?_ GW141.out _) | exact HK.out)⟩
     ·replace c34 := Bool.eq_false_iff.mpr c34
      subst c34
      have H1 : (if ((rd_T132 s0_10 a1).f0) = 13 then (if a2_1 = 1 then (some (decide (a2_2 > 0), t144, t145, t146, t147, t148)) else (some (true, t144, t145, t146, t147, t148))) else (if ((rd_T132 s0_10 a1).f0) = 10 then (code_checker_wrong.j1 kj6 a1 ((rd_T132 s0_10 a1).f0) (((rd_T132 s0_10 a1).f0) == 10) s0_0 s0_1 s0_2 s0_3 t144 s0_5 s0_6 t145 t146 t147 s0_10 t148 a2_0 a2_1 a2_2) else (code_checker_wrong.j1 kj6 a1 ((rd_T132 s0_10 a1).f0) (((rd_T132 s0_10 a1).f0) == 12) s0_0 s0_1 s0_2 s0_3 t144 s0_5 s0_6 t145 t146 t147 s0_10 t148 a2_0 a2_1 a2_2))) = some (r1, r2, r3, r4, r5, r6) := by rw [if_neg (show ¬ (false = true) by decide)] at H; exact H
      clear H
      have H := H1
      clear H1
      by_cases c35 : ((rd_T132 s0_10 a1).f0) = 13
      ·rw [if_pos c35] at H
       have c35b0 : (((rd_T132 s0_10 a1).f0) == 13) = true := beq_iff_eq.mpr c35
       have c35b1 : (((rd_T132 s0_10 a1).f0) != 13) = false := bne_eq_false_iff_eq.mpr c35
       clear c35
       by_cases c36 : a2_1 = 1
       ·rw [if_pos c36] at H
        have c36b0 : (a2_1 == 1) = true := beq_iff_eq.mpr c36
        have c36b1 : (a2_1 != 1) = false := bne_eq_false_iff_eq.mpr c36
        clear c36
        simp only [Option.some.injEq, Prod.mk.injEq] at H
        obtain ⟨rfl, rfl, rfl, rfl, rfl, rfl⟩ := H
        have hnb37 := NB141_139.out
        have hnc37 := NB139_141.out
        have hnb38 := NB141_0.out
        have hnc38 := NB0_141.out
        have hcz39_0 : wc.cell? ⟨gb141, 0, none⟩ = some (.int .i64 ((rd_T132 s0_10 a1).f0)) := (blk_cell BK141.out 0).trans rfl
        have hcz39_1 : wc.cell? ⟨gb141, 1, none⟩ = some (.int .i64 ((rd_T132 s0_10 a1).f1)) := (blk_cell BK141.out 1).trans rfl
        have hcz39_2 : wc.cell? ⟨gb141, 2, none⟩ = some (.int .i64 ((rd_T132 s0_10 a1).f2)) := (blk_cell BK141.out 2).trans rfl
        have hfz39_0 := blk_frozen BK141.out 0
        have hfz39_1 := blk_frozen BK141.out 1
        have hfz39_2 := blk_frozen BK141.out 2
        have hnb40 := NB139_0.out
        have hnc40 := NB0_139.out
        have hcz41_0 : wc.cell? ⟨gb139, 0, none⟩ = some (.bool a2_0) := (blk_cell BK139.out 0).trans rfl
        have hcz41_1 : wc.cell? ⟨gb139, 1, none⟩ = some (.int .i64 a2_1) := (blk_cell BK139.out 1).trans rfl
        have hcz41_2 : wc.cell? ⟨gb139, 2, none⟩ = some (.int .i64 a2_2) := (blk_cell BK139.out 2).trans rfl
        have hfz41_0 := blk_frozen BK139.out 0
        have hfz41_1 := blk_frozen BK139.out 1
        have hfz41_2 := blk_frozen BK139.out 2
        go_wp2
        go_ret
        exact ⟨by first | rfl | (simp [errW_none, errW_some] <;> rfl) | (simp [*, errW_none, errW_some] <;> rfl), by repeat (first | (with_reducible first | exact HI0.out | apply IsS139.alloc | apply IsS139.drewN | apply IsS139.drew | apply IsS139.set_4 | apply IsS139.set_7 | apply IsS139.set_8 | apply IsS139.set_9 | apply IsS139.set_11 | refine IsS139.far ?_ NB0_139.out _ | refine IsS139.far ?_ NB0_141.out _) | exact HI0.out), by repeat (first | (with_reducible first | exact HB.out | apply below_alloc | apply pw_below_drewN | apply below_drew1 | refine below_set ?_ (IsS139.ge HI0.out) | refine below_set ?_ GE139.out | refine below_set ?_ GE141.out) | exact HB.out), by repeat (first | (with_reducible first | exact HK.out | apply KeepBut.set_ | apply keep_drewN | apply keep_drew | apply keep_alloc | refine keep_far ?_ GW139.out _ | refine keep_far ?_ GW141.out _) | exact HK.out)⟩
       ·rw [if_neg c36] at H
        have c36b0 : (a2_1 == 1) = false := beq_eq_false_iff_ne.mpr c36
        have c36b1 : (a2_1 != 1) = true := bne_iff_ne.mpr c36
        simp only [Option.some.injEq, Prod.mk.injEq] at H
        obtain ⟨rfl, rfl, rfl, rfl, rfl, rfl⟩ := H
        have hnb42 := NB141_139.out
        have hnc42 := NB139_141.out
        have hnb43 := NB141_0.out
        have hnc43 := NB0_141.out
        have hcz44_0 : wc.cell? ⟨gb141, 0, none⟩ = some (.int .i64 ((rd_T132 s0_10 a1).f0)) := (blk_cell BK141.out 0).trans rfl
        have hcz44_1 : wc.cell? ⟨gb141, 1, none⟩ = some (.int .i64 ((rd_T132 s0_10 a1).f1)) := (blk_cell BK141.out 1).trans rfl
        have hcz44_2 : wc.cell? ⟨gb141, 2, none⟩ = some (.int .i64 ((rd_T132 s0_10 a1).f2)) := (blk_cell BK141.out 2).trans rfl
        have hfz44_0 := blk_frozen BK141.out 0
        have hfz44_1 := blk_frozen BK141.out 1
        have hfz44_2 := blk_frozen BK141.out 2
        have hnb45 := NB139_0.out
        have hnc45 := NB0_139.out
        have hcz46_0 : wc.cell? ⟨gb139, 0, none⟩ = some (.bool a2_0) := (blk_cell BK139.out 0).trans rfl
        have hcz46_1 : wc.cell? ⟨gb139, 1, none⟩ = some (.int .i64 a2_1) := (blk_cell BK139.out 1).trans rfl
        have hcz46_2 : wc.cell? ⟨gb139, 2, none⟩ = some (.int .i64 a2_2) := (blk_cell BK139.out 2).trans rfl
        have hfz46_0 := blk_frozen BK139.out 0
        have hfz46_1 := blk_frozen BK139.out 1
        have hfz46_2 := blk_frozen BK139.out 2
        go_wp2
        go_ret
        exact ⟨by first | rfl | (simp [errW_none, errW_some] <;> rfl) | (simp [*, errW_none, errW_some] <;> rfl), by repeat (first | (with_reducible first | exact HI0.out | apply IsS139.alloc | apply IsS139.drewN | apply IsS139.drew | apply IsS139.set_4 | apply IsS139.set_7 | apply IsS139.set_8 | apply IsS139.set_9 | apply IsS139.set_11 | refine IsS139.far ?_ NB0_139.out _ | refine IsS139.far ?_ NB0_141.out _) | exact HI0.out), by repeat (first | (with_reducible first | exact HB.out | apply below_alloc | apply pw_below_drewN | apply below_drew1 | refine below_set ?_ (IsS139.ge HI0.out) | refine below_set ?_ GE139.out | refine below_set ?_ GE141.out) | exact HB.out), by repeat (first | (with_reducible first | exact HK.out | apply KeepBut.set_ | apply keep_drewN | apply keep_drew | apply keep_alloc | refine keep_far ?_ GW139.out _ | refine keep_far ?_ GW141.out _) | exact HK.out)⟩
      ·rw [if_neg c35] at H
       have c35b0 : (((rd_T132 s0_10 a1).f0) == 13) = false := beq_eq_false_iff_ne.mpr c35
       have c35b1 : (((rd_T132 s0_10 a1).f0) != 13) = true := bne_iff_ne.mpr c35
       have HC47 := Aside0.mk H
       clear H
       have hnb48 := NB141_139.out
       have hnc48 := NB139_141.out
       have hnb49 := NB141_0.out
       have hnc49 := NB0_141.out
       have hcz50_0 : wc.cell? ⟨gb141, 0, none⟩ = some (.int .i64 ((rd_T132 s0_10 a1).f0)) := (blk_cell BK141.out 0).trans rfl
       have hcz50_1 : wc.cell? ⟨gb141, 1, none⟩ = some (.int .i64 ((rd_T132 s0_10 a1).f1)) := (blk_cell BK141.out 1).trans rfl
       have hcz50_2 : wc.cell? ⟨gb141, 2, none⟩ = some (.int .i64 ((rd_T132 s0_10 a1).f2)) := (blk_cell BK141.out 2).trans rfl
       have hfz50_0 := blk_frozen BK141.out 0
       have hfz50_1 := blk_frozen BK141.out 1
       have hfz50_2 := blk_frozen BK141.out 2
       go_upto_if 52 with (fail)
       go_cut [52] (fun v52 wc => ∃ (kq : Nat) (x52_46 : Bool), v52 = .bool x52_46 ∧ Aside0 (code_checker_wrong.j1 kq a1 ((rd_T132 s0_10 a1).f0) x52_46 s0_0 s0_1 s0_2 s0_3 t144 s0_5 s0_6 t145 t146 t147 s0_10 t148 a2_0 a2_1 a2_2 = some (r1, r2, r3, r4, r5, r6)) ∧ Aside0 (kq ≤ kj6) ∧ Aside0 (wc.heap[gb139]? = some (.cells #[.bool a2_0, .int .i64 a2_1, .int .i64 a2_2] 144 (0, 0))) ∧ Aside0 (wc.heap[gb141]? = some (.cells #[.int .i64 ((rd_T132 s0_10 a1).f0), .int .i64 ((rd_T132 s0_10 a1).f1), .int .i64 ((rd_T132 s0_10 a1).f2)] 132 (0, 0))) ∧ Aside0 (IsS139 w0 wc g s0_0 s0_1 s0_2 s0_3 t144 s0_5 s0_6 t145 t146 t147 s0_10 t148) ∧ Aside0 (KeepBut w wc g none) ∧ Aside0 (Below w0.heap.size w0 wc))
       case first =>
        have H := HC47.out
        clear HC47
        by_cases c51 : ((rd_T132 s0_10 a1).f0) = 10
        ·rw [if_pos c51] at H
         have c51b0 : (((rd_T132 s0_10 a1).f0) == 10) = true := beq_iff_eq.mpr c51
         have c51b1 : (((rd_T132 s0_10 a1).f0) != 10) = false := bne_eq_false_iff_eq.mpr c51
         clear c51
         (first | rw [c51b0] | (simp only [i64_w, i32_w]; rw [c51b0]) | skip)
         have H' := Aside0.mk H
         clear H
         go_wp2
         go_meet
         case rel => exact ⟨_, ((((rd_T132 s0_10 a1).f0) == 10)), (by first | rfl | (simp; done) | (simp [*]; done)), H', ⟨by have := HJ6.out; first | omega | exact Nat.le_refl _⟩, ⟨by (with_reducible repeat (first | refine blk_drewN ?_ _ | refine blk_drew ?_ | refine blk_alloc ?_ _)); exact BK139.out⟩, ⟨by (with_reducible repeat (first | refine blk_drewN ?_ _ | refine blk_drew ?_ | refine blk_alloc ?_ _)); exact BK141.out⟩, ⟨by repeat (first | (with_reducible first | exact HI0.out | apply IsS139.alloc | apply IsS139.drewN | apply IsS139.drew | apply IsS139.set_4 | apply IsS139.set_7 | apply IsS139.set_8 | apply IsS139.set_9 | apply IsS139.set_11 | refine IsS139.far ?_ NB0_139.out _ | refine IsS139.far ?_ NB0_141.out _) | exact HI0.out)⟩, ⟨by repeat (first | (with_reducible first | exact HK.out | apply KeepBut.set_ | apply keep_drewN | apply keep_drew | apply keep_alloc | refine keep_far ?_ GW139.out _ | refine keep_far ?_ GW141.out _) | exact HK.out)⟩, ⟨by repeat (first | (with_reducible first | exact HB.out | apply below_alloc | apply pw_below_drewN | apply below_drew1 | refine below_set ?_ (IsS139.ge HI0.out) | refine below_set ?_ GE139.out | refine below_set ?_ GE141.out) | exact HB.out)⟩⟩
        ·rw [if_neg c51] at H
         have c51b0 : (((rd_T132 s0_10 a1).f0) == 10) = false := beq_eq_false_iff_ne.mpr c51
         have c51b1 : (((rd_T132 s0_10 a1).f0) != 10) = true := bne_iff_ne.mpr c51
         (first | rw [c51b0] | (simp only [i64_w, i32_w]; rw [c51b0]) | skip)
         have H' := Aside0.mk H
         clear H
         go_wp2
         go_meet
         case rel => exact ⟨_, ((((rd_T132 s0_10 a1).f0) == 12)), (by first | rfl | (simp; done) | (simp [*]; done)), H', ⟨by have := HJ6.out; first | omega | exact Nat.le_refl _⟩, ⟨by (with_reducible repeat (first | refine blk_drewN ?_ _ | refine blk_drew ?_ | refine blk_alloc ?_ _)); exact BK139.out⟩, ⟨by (with_reducible repeat (first | refine blk_drewN ?_ _ | refine blk_drew ?_ | refine blk_alloc ?_ _)); exact BK141.out⟩, ⟨by repeat (first | (with_reducible first | exact HI0.out | apply IsS139.alloc | apply IsS139.drewN | apply IsS139.drew | apply IsS139.set_4 | apply IsS139.set_7 | apply IsS139.set_8 | apply IsS139.set_9 | apply IsS139.set_11 | refine IsS139.far ?_ NB0_139.out _ | refine IsS139.far ?_ NB0_141.out _) | exact HI0.out)⟩, ⟨by repeat (first | (with_reducible first | exact HK.out | apply KeepBut.set_ | apply keep_drewN | apply keep_drew | apply keep_alloc | refine keep_far ?_ GW139.out _ | refine keep_far ?_ GW141.out _) | exact HK.out)⟩, ⟨by repeat (first | (with_reducible first | exact HB.out | apply below_alloc | apply pw_below_drewN | apply below_drew1 | refine below_set ?_ (IsS139.ge HI0.out) | refine below_set ?_ GE139.out | refine below_set ?_ GE141.out) | exact HB.out)⟩⟩
       case rest =>
        clear HC47
        try clear c1
        try clear p1
        try clear q1
        try clear hx1
        try clear c2
        try clear p2
        try clear c3
        try clear c4
        try clear c4b0
        try clear c5
        try clear c5b0
        try clear p6
        try clear c8
        try clear c11
        try clear c12
        try clear c13
        try clear p14
        try clear q14
        try clear hx14
        try clear c15
        try clear c15b0
        try clear c16
        try clear c17
        try clear c19
        try clear c19b0
        try clear c20
        try clear c21
        try clear c23
        try clear c23b0
        try clear c23b1
        try clear c24
        try clear c25
        try clear c27
        try clear c29
        try clear c30
        try clear c32
        try clear c34
        try clear c35
        try clear c35b0
        try clear c35b1
        try clear c36
        try clear c36b0
        try clear c36b1
        try clear c37
        try clear c38
        try clear c40
        try clear c42
        try clear c43
        try clear c45
        try clear c48
        try clear c49
        try clear c51
        try clear c51b0
        try clear c51b1
        try clear hcz13_0
        try clear hcz13_1
        try clear hcz13_2
        try clear hcz18_0
        try clear hcz18_1
        try clear hcz18_2
        try clear hcz22_0
        try clear hcz22_1
        try clear hcz22_2
        try clear hcz26_0
        try clear hcz26_1
        try clear hcz26_2
        try clear hcz28_0
        try clear hcz28_1
        try clear hcz28_2
        try clear hcz31_0
        try clear hcz31_1
        try clear hcz31_2
        try clear hcz33_0
        try clear hcz33_1
        try clear hcz33_2
        try clear hcz39_0
        try clear hcz39_1
        try clear hcz39_2
        try clear hcz41_0
        try clear hcz41_1
        try clear hcz41_2
        try clear hcz44_0
        try clear hcz44_1
        try clear hcz44_2
        try clear hcz46_0
        try clear hcz46_1
        try clear hcz46_2
        try clear hcz50_0
        try clear hcz50_1
        try clear hcz50_2
        try clear hcz9_0
        try clear hcz9_1
        try clear hcz9_10
        try clear hcz9_11
        try clear hcz9_2
        try clear hcz9_3
        try clear hcz9_4
        try clear hcz9_5
        try clear hcz9_6
        try clear hcz9_7
        try clear hcz9_8
        try clear hcz9_9
        try clear hfz13_0
        try clear hfz13_1
        try clear hfz13_2
        try clear hfz18_0
        try clear hfz18_1
        try clear hfz18_2
        try clear hfz22_0
        try clear hfz22_1
        try clear hfz22_2
        try clear hfz26_0
        try clear hfz26_1
        try clear hfz26_2
        try clear hfz28_0
        try clear hfz28_1
        try clear hfz28_2
        try clear hfz31_0
        try clear hfz31_1
        try clear hfz31_2
        try clear hfz33_0
        try clear hfz33_1
        try clear hfz33_2
        try clear hfz39_0
        try clear hfz39_1
        try clear hfz39_2
        try clear hfz41_0
        try clear hfz41_1
        try clear hfz41_2
        try clear hfz44_0
        try clear hfz44_1
        try clear hfz44_2
        try clear hfz46_0
        try clear hfz46_1
        try clear hfz46_2
        try clear hfz50_0
        try clear hfz50_1
        try clear hfz50_2
        try clear hfz9_11
        try clear hfz9_4
        try clear hfz9_7
        try clear hfz9_8
        try clear hfz9_9
        try clear hx140_0
        try clear hx140_1
        try clear hx140_2
        try clear p1
        try clear p14
        try clear p140
        try clear p2
        try clear p6
        try clear q1
        try clear q14
        try clear q140
        obtain ⟨kq, x52_46, rfl, HA, HJ46, BK139, BK141, HI0, HK, HB⟩ := hcut
        cases kq with
        | zero => exact absurd HA.out (by simp [code_checker_wrong.j1])
        | succ kj46 =>
         have H := HA.out
         clear HA
         simp only [code_checker_wrong.j1] at H
         by_cases c52 : x52_46 = true
         ·subst c52
          have H1 : (some (decide (a2_2 > 0), t144, t145, t146, t147, t148)) = some (r1, r2, r3, r4, r5, r6) := by rw [if_pos rfl] at H; exact H
          clear H
          have H := H1
          clear H1
          simp only [Option.some.injEq, Prod.mk.injEq] at H
          obtain ⟨rfl, rfl, rfl, rfl, rfl, rfl⟩ := H
          have hnb53 := NB139_141.out
          have hnc53 := NB141_139.out
          have hnb54 := NB139_0.out
          have hnc54 := NB0_139.out
          have hcz55_0 : wc.cell? ⟨gb139, 0, none⟩ = some (.bool a2_0) := (blk_cell BK139.out 0).trans rfl
          have hcz55_1 : wc.cell? ⟨gb139, 1, none⟩ = some (.int .i64 a2_1) := (blk_cell BK139.out 1).trans rfl
          have hcz55_2 : wc.cell? ⟨gb139, 2, none⟩ = some (.int .i64 a2_2) := (blk_cell BK139.out 2).trans rfl
          have hfz55_0 := blk_frozen BK139.out 0
          have hfz55_1 := blk_frozen BK139.out 1
          have hfz55_2 := blk_frozen BK139.out 2
          go_wp2
          go_ret
          exact ⟨by first | rfl | (simp [errW_none, errW_some] <;> rfl) | (simp [*, errW_none, errW_some] <;> rfl), by repeat (first | (with_reducible first | exact HI0.out | apply IsS139.alloc | apply IsS139.drewN | apply IsS139.drew | apply IsS139.set_4 | apply IsS139.set_7 | apply IsS139.set_8 | apply IsS139.set_9 | apply IsS139.set_11 | refine IsS139.far ?_ NB0_139.out _ | refine IsS139.far ?_ NB0_141.out _) | exact HI0.out), by repeat (first | (with_reducible first | exact HB.out | apply below_alloc | apply pw_below_drewN | apply below_drew1 | refine below_set ?_ (IsS139.ge HI0.out) | refine below_set ?_ GE139.out | refine below_set ?_ GE141.out) | exact HB.out), by repeat (first | (with_reducible first | exact HK.out | apply KeepBut.set_ | apply keep_drewN | apply keep_drew | apply keep_alloc | refine keep_far ?_ GW139.out _ | refine keep_far ?_ GW141.out _) | exact HK.out)⟩
         ·replace c52 := Bool.eq_false_iff.mpr c52
          subst c52
          have H1 : (if ((rd_T132 s0_10 a1).f0) = 20 then (code_checker_wrong.j2 kj46 a1 ((rd_T132 s0_10 a1).f0) (((rd_T132 s0_10 a1).f0) == 20) s0_0 s0_1 s0_2 s0_3 t144 s0_5 s0_6 t145 t146 t147 s0_10 t148 a2_0 a2_1 a2_2) else (if ((rd_T132 s0_10 a1).f0) = 14 then (code_checker_wrong.j2 kj46 a1 ((rd_T132 s0_10 a1).f0) (((rd_T132 s0_10 a1).f0) == 14) s0_0 s0_1 s0_2 s0_3 t144 s0_5 s0_6 t145 t146 t147 s0_10 t148 a2_0 a2_1 a2_2) else (code_checker_wrong.j2 kj46 a1 ((rd_T132 s0_10 a1).f0) (((rd_T132 s0_10 a1).f0) == 27) s0_0 s0_1 s0_2 s0_3 t144 s0_5 s0_6 t145 t146 t147 s0_10 t148 a2_0 a2_1 a2_2))) = some (r1, r2, r3, r4, r5, r6) := by rw [if_neg (show ¬ (false = true) by decide)] at H; exact H
          clear H
          have H := H1
          clear H1
          have HC56 := Aside0.mk H
          clear H
          go_upto_if 55 with (fail)
          go_cut [55] (fun v55 wc => ∃ (kq : Nat) (x55_55 : Bool), v55 = .bool x55_55 ∧ Aside0 (code_checker_wrong.j2 kq a1 ((rd_T132 s0_10 a1).f0) x55_55 s0_0 s0_1 s0_2 s0_3 t144 s0_5 s0_6 t145 t146 t147 s0_10 t148 a2_0 a2_1 a2_2 = some (r1, r2, r3, r4, r5, r6)) ∧ Aside0 (kq ≤ kj46) ∧ Aside0 (wc.heap[gb139]? = some (.cells #[.bool a2_0, .int .i64 a2_1, .int .i64 a2_2] 144 (0, 0))) ∧ Aside0 (wc.heap[gb141]? = some (.cells #[.int .i64 ((rd_T132 s0_10 a1).f0), .int .i64 ((rd_T132 s0_10 a1).f1), .int .i64 ((rd_T132 s0_10 a1).f2)] 132 (0, 0))) ∧ Aside0 (IsS139 w0 wc g s0_0 s0_1 s0_2 s0_3 t144 s0_5 s0_6 t145 t146 t147 s0_10 t148) ∧ Aside0 (KeepBut w wc g none) ∧ Aside0 (Below w0.heap.size w0 wc))
          case first =>
           have H := HC56.out
           clear HC56
           by_cases c57 : ((rd_T132 s0_10 a1).f0) = 20
           ·rw [if_pos c57] at H
            have c57b0 : (((rd_T132 s0_10 a1).f0) == 20) = true := beq_iff_eq.mpr c57
            have c57b1 : (((rd_T132 s0_10 a1).f0) != 20) = false := bne_eq_false_iff_eq.mpr c57
            clear c57
            (first | rw [c57b0] | (simp only [i64_w, i32_w]; rw [c57b0]) | skip)
            have H' := Aside0.mk H
            clear H
            go_wp2
            go_meet
            case rel => exact ⟨_, ((((rd_T132 s0_10 a1).f0) == 20)), (by first | rfl | (simp; done) | (simp [*]; done)), H', ⟨by have := HJ6.out; have := HJ46.out; first | omega | exact Nat.le_refl _⟩, ⟨by (with_reducible repeat (first | refine blk_drewN ?_ _ | refine blk_drew ?_ | refine blk_alloc ?_ _)); exact BK139.out⟩, ⟨by (with_reducible repeat (first | refine blk_drewN ?_ _ | refine blk_drew ?_ | refine blk_alloc ?_ _)); exact BK141.out⟩, ⟨by repeat (first | (with_reducible first | exact HI0.out | apply IsS139.alloc | apply IsS139.drewN | apply IsS139.drew | apply IsS139.set_4 | apply IsS139.set_7 | apply IsS139.set_8 | apply IsS139.set_9 | apply IsS139.set_11 | refine IsS139.far ?_ NB0_139.out _ | refine IsS139.far ?_ NB0_141.out _) | exact HI0.out)⟩, ⟨by repeat (first | (with_reducible first | exact HK.out | apply KeepBut.set_ | apply keep_drewN | apply keep_drew | apply keep_alloc | refine keep_far ?_ GW139.out _ | refine keep_far ?_ GW141.out _) | exact HK.out)⟩, ⟨by repeat (first | (with_reducible first | exact HB.out | apply below_alloc | apply pw_below_drewN | apply below_drew1 | refine below_set ?_ (IsS139.ge HI0.out) | refine below_set ?_ GE139.out | refine below_set ?_ GE141.out) | exact HB.out)⟩⟩
           ·rw [if_neg c57] at H
            have c57b0 : (((rd_T132 s0_10 a1).f0) == 20) = false := beq_eq_false_iff_ne.mpr c57
            have c57b1 : (((rd_T132 s0_10 a1).f0) != 20) = true := bne_iff_ne.mpr c57
            (first | rw [c57b0] | (simp only [i64_w, i32_w]; rw [c57b0]) | skip)
            by_cases c58 : ((rd_T132 s0_10 a1).f0) = 14
            ·rw [if_pos c58] at H
             have c58b0 : (((rd_T132 s0_10 a1).f0) == 14) = true := beq_iff_eq.mpr c58
             have c58b1 : (((rd_T132 s0_10 a1).f0) != 14) = false := bne_eq_false_iff_eq.mpr c58
             clear c58
             have H' := Aside0.mk H
             clear H
             go_wp2
             go_meet
             case rel => exact ⟨_, ((((rd_T132 s0_10 a1).f0) == 14)), (by first | rfl | (simp; done) | (simp [*]; done)), H', ⟨by have := HJ6.out; have := HJ46.out; first | omega | exact Nat.le_refl _⟩, ⟨by (with_reducible repeat (first | refine blk_drewN ?_ _ | refine blk_drew ?_ | refine blk_alloc ?_ _)); exact BK139.out⟩, ⟨by (with_reducible repeat (first | refine blk_drewN ?_ _ | refine blk_drew ?_ | refine blk_alloc ?_ _)); exact BK141.out⟩, ⟨by repeat (first | (with_reducible first | exact HI0.out | apply IsS139.alloc | apply IsS139.drewN | apply IsS139.drew | apply IsS139.set_4 | apply IsS139.set_7 | apply IsS139.set_8 | apply IsS139.set_9 | apply IsS139.set_11 | refine IsS139.far ?_ NB0_139.out _ | refine IsS139.far ?_ NB0_141.out _) | exact HI0.out)⟩, ⟨by repeat (first | (with_reducible first | exact HK.out | apply KeepBut.set_ | apply keep_drewN | apply keep_drew | apply keep_alloc | refine keep_far ?_ GW139.out _ | refine keep_far ?_ GW141.out _) | exact HK.out)⟩, ⟨by repeat (first | (with_reducible first | exact HB.out | apply below_alloc | apply pw_below_drewN | apply below_drew1 | refine below_set ?_ (IsS139.ge HI0.out) | refine below_set ?_ GE139.out | refine below_set ?_ GE141.out) | exact HB.out)⟩⟩
            ·rw [if_neg c58] at H
             have c58b0 : (((rd_T132 s0_10 a1).f0) == 14) = false := beq_eq_false_iff_ne.mpr c58
             have c58b1 : (((rd_T132 s0_10 a1).f0) != 14) = true := bne_iff_ne.mpr c58
             have H' := Aside0.mk H
             clear H
             go_wp2
             go_meet
             case rel => exact ⟨_, ((((rd_T132 s0_10 a1).f0) == 27)), (by first | rfl | (simp; done) | (simp [*]; done)), H', ⟨by have := HJ6.out; have := HJ46.out; first | omega | exact Nat.le_refl _⟩, ⟨by (with_reducible repeat (first | refine blk_drewN ?_ _ | refine blk_drew ?_ | refine blk_alloc ?_ _)); exact BK139.out⟩, ⟨by (with_reducible repeat (first | refine blk_drewN ?_ _ | refine blk_drew ?_ | refine blk_alloc ?_ _)); exact BK141.out⟩, ⟨by repeat (first | (with_reducible first | exact HI0.out | apply IsS139.alloc | apply IsS139.drewN | apply IsS139.drew | apply IsS139.set_4 | apply IsS139.set_7 | apply IsS139.set_8 | apply IsS139.set_9 | apply IsS139.set_11 | refine IsS139.far ?_ NB0_139.out _ | refine IsS139.far ?_ NB0_141.out _) | exact HI0.out)⟩, ⟨by repeat (first | (with_reducible first | exact HK.out | apply KeepBut.set_ | apply keep_drewN | apply keep_drew | apply keep_alloc | refine keep_far ?_ GW139.out _ | refine keep_far ?_ GW141.out _) | exact HK.out)⟩, ⟨by repeat (first | (with_reducible first | exact HB.out | apply below_alloc | apply pw_below_drewN | apply below_drew1 | refine below_set ?_ (IsS139.ge HI0.out) | refine below_set ?_ GE139.out | refine below_set ?_ GE141.out) | exact HB.out)⟩⟩
          case rest =>
           clear HC56
           try clear c1
           try clear p1
           try clear q1
           try clear hx1
           try clear c2
           try clear p2
           try clear c3
           try clear c4
           try clear c4b0
           try clear c5
           try clear c5b0
           try clear p6
           try clear c8
           try clear c11
           try clear c12
           try clear c13
           try clear p14
           try clear q14
           try clear hx14
           try clear c15
           try clear c15b0
           try clear c16
           try clear c17
           try clear c19
           try clear c19b0
           try clear c20
           try clear c21
           try clear c23
           try clear c23b0
           try clear c23b1
           try clear c24
           try clear c25
           try clear c27
           try clear c29
           try clear c30
           try clear c32
           try clear c34
           try clear c35
           try clear c35b0
           try clear c35b1
           try clear c36
           try clear c36b0
           try clear c36b1
           try clear c37
           try clear c38
           try clear c40
           try clear c42
           try clear c43
           try clear c45
           try clear c48
           try clear c49
           try clear c51
           try clear c51b0
           try clear c51b1
           try clear c52
           try clear c53
           try clear c54
           try clear c57
           try clear c57b0
           try clear c57b1
           try clear c58
           try clear c58b0
           try clear c58b1
           try clear hcz13_0
           try clear hcz13_1
           try clear hcz13_2
           try clear hcz18_0
           try clear hcz18_1
           try clear hcz18_2
           try clear hcz22_0
           try clear hcz22_1
           try clear hcz22_2
           try clear hcz26_0
           try clear hcz26_1
           try clear hcz26_2
           try clear hcz28_0
           try clear hcz28_1
           try clear hcz28_2
           try clear hcz31_0
           try clear hcz31_1
           try clear hcz31_2
           try clear hcz33_0
           try clear hcz33_1
           try clear hcz33_2
           try clear hcz39_0
           try clear hcz39_1
           try clear hcz39_2
           try clear hcz41_0
           try clear hcz41_1
           try clear hcz41_2
           try clear hcz44_0
           try clear hcz44_1
           try clear hcz44_2
           try clear hcz46_0
           try clear hcz46_1
           try clear hcz46_2
           try clear hcz50_0
           try clear hcz50_1
           try clear hcz50_2
           try clear hcz55_0
           try clear hcz55_1
           try clear hcz55_2
           try clear hcz9_0
           try clear hcz9_1
           try clear hcz9_10
           try clear hcz9_11
           try clear hcz9_2
           try clear hcz9_3
           try clear hcz9_4
           try clear hcz9_5
           try clear hcz9_6
           try clear hcz9_7
           try clear hcz9_8
           try clear hcz9_9
           try clear hfz13_0
           try clear hfz13_1
           try clear hfz13_2
           try clear hfz18_0
           try clear hfz18_1
           try clear hfz18_2
           try clear hfz22_0
           try clear hfz22_1
           try clear hfz22_2
           try clear hfz26_0
           try clear hfz26_1
           try clear hfz26_2
           try clear hfz28_0
           try clear hfz28_1
           try clear hfz28_2
           try clear hfz31_0
           try clear hfz31_1
           try clear hfz31_2
           try clear hfz33_0
           try clear hfz33_1
           try clear hfz33_2
           try clear hfz39_0
           try clear hfz39_1
           try clear hfz39_2
           try clear hfz41_0
           try clear hfz41_1
           try clear hfz41_2
           try clear hfz44_0
           try clear hfz44_1
           try clear hfz44_2
           try clear hfz46_0
           try clear hfz46_1
           try clear hfz46_2
           try clear hfz50_0
           try clear hfz50_1
           try clear hfz50_2
           try clear hfz55_0
           try clear hfz55_1
           try clear hfz55_2
           try clear hfz9_11
           try clear hfz9_4
           try clear hfz9_7
           try clear hfz9_8
           try clear hfz9_9
           try clear hx140_0
           try clear hx140_1
           try clear hx140_2
           try clear p1
           try clear p14
           try clear p140
           try clear p2
           try clear p6
           try clear q1
           try clear q14
           try clear q140
           obtain ⟨kq, x55_55, rfl, HA, HJ55, BK139, BK141, HI0, HK, HB⟩ := hcut
           cases kq with
           | zero => exact absurd HA.out (by simp [code_checker_wrong.j2])
           | succ kj55 =>
            have H := HA.out
            clear HA
            simp only [code_checker_wrong.j2] at H
            by_cases c59 : x55_55 = true
            ·subst c59
             have H1 : (some (false, t144, t145, t146, t147, t148)) = some (r1, r2, r3, r4, r5, r6) := by rw [if_pos rfl] at H; exact H
             clear H
             have H := H1
             clear H1
             simp only [Option.some.injEq, Prod.mk.injEq] at H
             obtain ⟨rfl, rfl, rfl, rfl, rfl, rfl⟩ := H
             go_wp2
             go_ret
             exact ⟨by first | rfl | (simp [errW_none, errW_some] <;> rfl) | (simp [*, errW_none, errW_some] <;> rfl), by repeat (first | (with_reducible first | exact HI0.out | apply IsS139.alloc | apply IsS139.drewN | apply IsS139.drew | apply IsS139.set_4 | apply IsS139.set_7 | apply IsS139.set_8 | apply IsS139.set_9 | apply IsS139.set_11 | refine IsS139.far ?_ NB0_139.out _ | refine IsS139.far ?_ NB0_141.out _) | exact HI0.out), by repeat (first | (with_reducible first | exact HB.out | apply below_alloc | apply pw_below_drewN | apply below_drew1 | refine below_set ?_ (IsS139.ge HI0.out) | refine below_set ?_ GE139.out | refine below_set ?_ GE141.out) | exact HB.out), by repeat (first | (with_reducible first | exact HK.out | apply KeepBut.set_ | apply keep_drewN | apply keep_drew | apply keep_alloc | refine keep_far ?_ GW139.out _ | refine keep_far ?_ GW141.out _) | exact HK.out)⟩
            ·replace c59 := Bool.eq_false_iff.mpr c59
             subst c59
             have H1 : (if ((rd_T132 s0_10 a1).f0) = 23 then (if a2_2 = 0 then (some (true, t144, t145, t146, t147, t148)) else (some (((wrap64 (a1 + 1)) == (s0_10.length : Int)), t144, t145, t146, t147, t148))) else (some (((wrap64 (a1 + 1)) == (s0_10.length : Int)), t144, t145, t146, t147, t148))) = some (r1, r2, r3, r4, r5, r6) := by rw [if_neg (show ¬ (false = true) by decide)] at H; exact H
             clear H
             have H := H1
             clear H1
             by_cases c60 : ((rd_T132 s0_10 a1).f0) = 23
             ·rw [if_pos c60] at H
              have c60b0 : (((rd_T132 s0_10 a1).f0) == 23) = true := beq_iff_eq.mpr c60
              have c60b1 : (((rd_T132 s0_10 a1).f0) != 23) = false := bne_eq_false_iff_eq.mpr c60
              clear c60
              by_cases c61 : a2_2 = 0
              ·rw [if_pos c61] at H
               have c61b0 : (a2_2 == 0) = true := beq_iff_eq.mpr c61
               have c61b1 : (a2_2 != 0) = false := bne_eq_false_iff_eq.mpr c61
               clear c61
               simp only [Option.some.injEq, Prod.mk.injEq] at H
               obtain ⟨rfl, rfl, rfl, rfl, rfl, rfl⟩ := H
               have hnb62 := NB139_141.out
               have hnc62 := NB141_139.out
               have hnb63 := NB139_0.out
               have hnc63 := NB0_139.out
               have hcz64_0 : wc.cell? ⟨gb139, 0, none⟩ = some (.bool a2_0) := (blk_cell BK139.out 0).trans rfl
               have hcz64_1 : wc.cell? ⟨gb139, 1, none⟩ = some (.int .i64 a2_1) := (blk_cell BK139.out 1).trans rfl
               have hcz64_2 : wc.cell? ⟨gb139, 2, none⟩ = some (.int .i64 a2_2) := (blk_cell BK139.out 2).trans rfl
               have hfz64_0 := blk_frozen BK139.out 0
               have hfz64_1 := blk_frozen BK139.out 1
               have hfz64_2 := blk_frozen BK139.out 2
               go_wp2
               go_ret
               exact ⟨by first | rfl | (simp [errW_none, errW_some] <;> rfl) | (simp [*, errW_none, errW_some] <;> rfl), by repeat (first | (with_reducible first | exact HI0.out | apply IsS139.alloc | apply IsS139.drewN | apply IsS139.drew | apply IsS139.set_4 | apply IsS139.set_7 | apply IsS139.set_8 | apply IsS139.set_9 | apply IsS139.set_11 | refine IsS139.far ?_ NB0_139.out _ | refine IsS139.far ?_ NB0_141.out _) | exact HI0.out), by repeat (first | (with_reducible first | exact HB.out | apply below_alloc | apply pw_below_drewN | apply below_drew1 | refine below_set ?_ (IsS139.ge HI0.out) | refine below_set ?_ GE139.out | refine below_set ?_ GE141.out) | exact HB.out), by repeat (first | (with_reducible first | exact HK.out | apply KeepBut.set_ | apply keep_drewN | apply keep_drew | apply keep_alloc | refine keep_far ?_ GW139.out _ | refine keep_far ?_ GW141.out _) | exact HK.out)⟩
              ·rw [if_neg c61] at H
               have c61b0 : (a2_2 == 0) = false := beq_eq_false_iff_ne.mpr c61
               have c61b1 : (a2_2 != 0) = true := bne_iff_ne.mpr c61
               simp only [Option.some.injEq, Prod.mk.injEq] at H
               obtain ⟨rfl, rfl, rfl, rfl, rfl, rfl⟩ := H
               have hnb65 := NB139_141.out
               have hnc65 := NB141_139.out
               have hnb66 := NB139_0.out
               have hnc66 := NB0_139.out
               have hcz67_0 : wc.cell? ⟨gb139, 0, none⟩ = some (.bool a2_0) := (blk_cell BK139.out 0).trans rfl
               have hcz67_1 : wc.cell? ⟨gb139, 1, none⟩ = some (.int .i64 a2_1) := (blk_cell BK139.out 1).trans rfl
               have hcz67_2 : wc.cell? ⟨gb139, 2, none⟩ = some (.int .i64 a2_2) := (blk_cell BK139.out 2).trans rfl
               have hfz67_0 := blk_frozen BK139.out 0
               have hfz67_1 := blk_frozen BK139.out 1
               have hfz67_2 := blk_frozen BK139.out 2
               obtain ⟨ASz68_0, cSz68_0, ASz68_1, cSz68_1, ASz68_2, cSz68_2, ASz68_3, cSz68_3, ASz68_5, cSz68_5, ASz68_6, cSz68_6, ASz68_10, cSz68_10, HGz68, hgz68, HSz68_0, HSz68_1, HSz68_2, HSz68_3, HSz68_5, HSz68_6, HSz68_10⟩ := HI0.out
               have hcz68_0 := cellS139_0 HGz68
               have hcz68_1 := cellS139_1 HGz68
               have hcz68_2 := cellS139_2 HGz68
               have hcz68_3 := cellS139_3 HGz68
               have hcz68_4 := cellS139_4 HGz68
               have hcz68_5 := cellS139_5 HGz68
               have hcz68_6 := cellS139_6 HGz68
               have hcz68_7 := cellS139_7 HGz68
               have hcz68_8 := cellS139_8 HGz68
               have hcz68_9 := cellS139_9 HGz68
               have hcz68_10 := cellS139_10 HGz68
               have hcz68_11 := cellS139_11 HGz68
               have hfz68_4 := blk_frozen HGz68 4
               have hfz68_7 := blk_frozen HGz68 7
               have hfz68_8 := blk_frozen HGz68 8
               have hfz68_9 := blk_frozen HGz68 9
               have hfz68_11 := blk_frozen HGz68 11
               clear HGz68 hgz68
               go_wp2
               go_ret
               exact ⟨by first | rfl | (simp [errW_none, errW_some] <;> rfl) | (simp [*, errW_none, errW_some] <;> rfl), by repeat (first | (with_reducible first | exact HI0.out | apply IsS139.alloc | apply IsS139.drewN | apply IsS139.drew | apply IsS139.set_4 | apply IsS139.set_7 | apply IsS139.set_8 | apply IsS139.set_9 | apply IsS139.set_11 | refine IsS139.far ?_ NB0_139.out _ | refine IsS139.far ?_ NB0_141.out _) | exact HI0.out), by repeat (first | (with_reducible first | exact HB.out | apply below_alloc | apply pw_below_drewN | apply below_drew1 | refine below_set ?_ (IsS139.ge HI0.out) | refine below_set ?_ GE139.out | refine below_set ?_ GE141.out) | exact HB.out), by repeat (first | (with_reducible first | exact HK.out | apply KeepBut.set_ | apply keep_drewN | apply keep_drew | apply keep_alloc | refine keep_far ?_ GW139.out _ | refine keep_far ?_ GW141.out _) | exact HK.out)⟩
             ·rw [if_neg c60] at H
              have c60b0 : (((rd_T132 s0_10 a1).f0) == 23) = false := beq_eq_false_iff_ne.mpr c60
              have c60b1 : (((rd_T132 s0_10 a1).f0) != 23) = true := bne_iff_ne.mpr c60
              simp only [Option.some.injEq, Prod.mk.injEq] at H
              obtain ⟨rfl, rfl, rfl, rfl, rfl, rfl⟩ := H
              obtain ⟨ASz69_0, cSz69_0, ASz69_1, cSz69_1, ASz69_2, cSz69_2, ASz69_3, cSz69_3, ASz69_5, cSz69_5, ASz69_6, cSz69_6, ASz69_10, cSz69_10, HGz69, hgz69, HSz69_0, HSz69_1, HSz69_2, HSz69_3, HSz69_5, HSz69_6, HSz69_10⟩ := HI0.out
              have hcz69_0 := cellS139_0 HGz69
              have hcz69_1 := cellS139_1 HGz69
              have hcz69_2 := cellS139_2 HGz69
              have hcz69_3 := cellS139_3 HGz69
              have hcz69_4 := cellS139_4 HGz69
              have hcz69_5 := cellS139_5 HGz69
              have hcz69_6 := cellS139_6 HGz69
              have hcz69_7 := cellS139_7 HGz69
              have hcz69_8 := cellS139_8 HGz69
              have hcz69_9 := cellS139_9 HGz69
              have hcz69_10 := cellS139_10 HGz69
              have hcz69_11 := cellS139_11 HGz69
              have hfz69_4 := blk_frozen HGz69 4
              have hfz69_7 := blk_frozen HGz69 7
              have hfz69_8 := blk_frozen HGz69 8
              have hfz69_9 := blk_frozen HGz69 9
              have hfz69_11 := blk_frozen HGz69 11
              clear HGz69 hgz69
              go_wp2
              go_ret
              exact ⟨by first | rfl | (simp [errW_none, errW_some] <;> rfl) | (simp [*, errW_none, errW_some] <;> rfl), by repeat (first | (with_reducible first | exact HI0.out | apply IsS139.alloc | apply IsS139.drewN | apply IsS139.drew | apply IsS139.set_4 | apply IsS139.set_7 | apply IsS139.set_8 | apply IsS139.set_9 | apply IsS139.set_11 | refine IsS139.far ?_ NB0_139.out _ | refine IsS139.far ?_ NB0_141.out _) | exact HI0.out), by repeat (first | (with_reducible first | exact HB.out | apply below_alloc | apply pw_below_drewN | apply below_drew1 | refine below_set ?_ (IsS139.ge HI0.out) | refine below_set ?_ GE139.out | refine below_set ?_ GE141.out) | exact HB.out), by repeat (first | (with_reducible first | exact HK.out | apply KeepBut.set_ | apply keep_drewN | apply keep_drew | apply keep_alloc | refine keep_far ?_ GW139.out _ | refine keep_far ?_ GW141.out _) | exact HK.out)⟩
  ·rw [if_neg c5] at H
   exact absurd H (by simp)
 ·rw [if_neg c4] at H
  exact absurd H (by simp)
end Go.Proofs.YtibbcfeaododhaaGreatDoor.PCa
