-- Printed by the kit's print.py over several roots at once (printall.sh)
import Derived.Test.YtibbcfeaododhaaGreatDoorKPCax0
import Derived.Test.YtibbcfeaododhaaGreatDoorKPCax2
namespace Go.Proofs.YtibbcfeaododhaaGreatDoor.PCa
open Go.RowKit Go.Proofs.YtibbcfeaododhaaGreatDoorW.PrintWords Go.Proofs.YtibbcfeaododhaaGreatDoorW.PrintLast Go.Proofs.YtibbcfeaododhaaGreatDoorW.PrintMore
attribute [local go_sem] max2_int min2_int max_two min_two max_three min_three max_four min_four   -- for this text's walks alone
set_option linter.unusedVariables false
set_option linter.unusedSimpArgs false
/-! ### code_checker_ways: function 135 -/
mutual
def code_checker_ways.j0 : Nat → Int → Int → Bool → List (S27) → List (S128) → List (S44) → List (S44) → ByteArray → List Int → List (S135) → ByteArray → Int → Int → List (S132) → Int → Int → Int → Int → Bool → Int → Int → Bool → Int → Int → Option ((List (S214)) × ByteArray × ByteArray × Int × Int × Int)
 | 0, _, _, _, _, _, _, _, _, _, _, _, _, _, _, _, _, _, _, _, _, _, _, _, _ => none
 | k + 1, x1, x41, x42, x1000, x1001, x1002, x1003, x1004, x1005, x1006, x1007, x1008, x1009, x1010, x1011, x152000, x152001, x152002, x160000, x160001, x160002, x161000, x161001, x161002 => if x42 = true then (some (([] : List (S214)), x1004, x1007, x1008, x1009, x1011)) else (if x41 = 14 then (code_checker_ways.j1 k x1 x41 (x41 == 14) x1000 x1001 x1002 x1003 x1004 x1005 x1006 x1007 x1008 x1009 x1010 x1011 x152000 x152001 x152002 x160000 x160001 x160002 x161000 x161001 x161002) else (code_checker_ways.j1 k x1 x41 (x41 == 27) x1000 x1001 x1002 x1003 x1004 x1005 x1006 x1007 x1008 x1009 x1010 x1011 x152000 x152001 x152002 x160000 x160001 x160002 x161000 x161001 x161002))
def code_checker_ways.j1 : Nat → Int → Int → Bool → List (S27) → List (S128) → List (S44) → List (S44) → ByteArray → List Int → List (S135) → ByteArray → Int → Int → List (S132) → Int → Int → Int → Int → Bool → Int → Int → Bool → Int → Int → Option ((List (S214)) × ByteArray × ByteArray × Int × Int × Int)
 | 0, _, _, _, _, _, _, _, _, _, _, _, _, _, _, _, _, _, _, _, _, _, _, _, _ => none
 | k + 1, x1, x41, x47, x1000, x1001, x1002, x1003, x1004, x1005, x1006, x1007, x1008, x1009, x1010, x1011, x152000, x152001, x152002, x160000, x160001, x160002, x161000, x161001, x161002 => if x47 = true then (some ((([(⟨x152001, (⟨x161000, x161001, x161002⟩ : S144)⟩ : S214)] : List (S214))), x1004, x1007, x1008, x1009, x1011)) else (if x41 = 15 then (code_checker_ways.j2 k x1 x41 (x41 == 15) x1000 x1001 x1002 x1003 x1004 x1005 x1006 x1007 x1008 x1009 x1010 x1011 x152000 x152001 x152002 x160000 x160001 x160002 x161000 x161001 x161002) else (if x41 = 18 then (code_checker_ways.j2 k x1 x41 (x41 == 18) x1000 x1001 x1002 x1003 x1004 x1005 x1006 x1007 x1008 x1009 x1010 x1011 x152000 x152001 x152002 x160000 x160001 x160002 x161000 x161001 x161002) else (if x41 = 19 then (code_checker_ways.j2 k x1 x41 (x41 == 19) x1000 x1001 x1002 x1003 x1004 x1005 x1006 x1007 x1008 x1009 x1010 x1011 x152000 x152001 x152002 x160000 x160001 x160002 x161000 x161001 x161002) else (if x41 = 26 then (code_checker_ways.j2 k x1 x41 (x41 == 26) x1000 x1001 x1002 x1003 x1004 x1005 x1006 x1007 x1008 x1009 x1010 x1011 x152000 x152001 x152002 x160000 x160001 x160002 x161000 x161001 x161002) else (code_checker_ways.j2 k x1 x41 (x41 == 29) x1000 x1001 x1002 x1003 x1004 x1005 x1006 x1007 x1008 x1009 x1010 x1011 x152000 x152001 x152002 x160000 x160001 x160002 x161000 x161001 x161002)))))
def code_checker_ways.j2 : Nat → Int → Int → Bool → List (S27) → List (S128) → List (S44) → List (S44) → ByteArray → List Int → List (S135) → ByteArray → Int → Int → List (S132) → Int → Int → Int → Int → Bool → Int → Int → Bool → Int → Int → Option ((List (S214)) × ByteArray × ByteArray × Int × Int × Int)
 | 0, _, _, _, _, _, _, _, _, _, _, _, _, _, _, _, _, _, _, _, _, _, _, _, _ => none
 | k + 1, x1, x41, x50, x1000, x1001, x1002, x1003, x1004, x1005, x1006, x1007, x1008, x1009, x1010, x1011, x152000, x152001, x152002, x160000, x160001, x160002, x161000, x161001, x161002 => if x50 = true then (some ((([(⟨wrap64 (x1 + 1), (⟨x161000, x161001, x161002⟩ : S144)⟩ : S214), (⟨x152001, (⟨x160000, x160001, x160002⟩ : S144)⟩ : S214)] : List (S214))), x1004, x1007, x1008, x1009, x1011)) else (if x41 = 16 then (code_checker_ways.j3 k x1 x41 (x41 == 16) x1000 x1001 x1002 x1003 x1004 x1005 x1006 x1007 x1008 x1009 x1010 x1011 x152000 x152001 x152002 x160000 x160001 x160002 x161000 x161001 x161002) else (code_checker_ways.j3 k x1 x41 (x41 == 17) x1000 x1001 x1002 x1003 x1004 x1005 x1006 x1007 x1008 x1009 x1010 x1011 x152000 x152001 x152002 x160000 x160001 x160002 x161000 x161001 x161002))
def code_checker_ways.j3 : Nat → Int → Int → Bool → List (S27) → List (S128) → List (S44) → List (S44) → ByteArray → List Int → List (S135) → ByteArray → Int → Int → List (S132) → Int → Int → Int → Int → Bool → Int → Int → Bool → Int → Int → Option ((List (S214)) × ByteArray × ByteArray × Int × Int × Int)
 | 0, _, _, _, _, _, _, _, _, _, _, _, _, _, _, _, _, _, _, _, _, _, _, _, _ => none
 | k + 1, x1, x41, x56, x1000, x1001, x1002, x1003, x1004, x1005, x1006, x1007, x1008, x1009, x1010, x1011, x152000, x152001, x152002, x160000, x160001, x160002, x161000, x161001, x161002 => if x56 = true then (some ((([(⟨wrap64 (x1 + 1), (⟨x161000, x161001, x161002⟩ : S144)⟩ : S214), (⟨x152002, (⟨x160000, x160001, x160002⟩ : S144)⟩ : S214)] : List (S214))), x1004, x1007, x1008, x1009, x1011)) else (if x41 = 21 then (some ((([(⟨wrap64 (x1 + 1), (⟨x161000, x161001, wrap64 (x161002 + 1)⟩ : S144)⟩ : S214), (⟨x152001, (⟨x160000, wrap64 (x160001 + 2), x160002⟩ : S144)⟩ : S214)] : List (S214))), x1004, x1007, x1008, x1009, x1011)) else (if x41 = 22 then (some ((([(⟨wrap64 (x1 + 1), (⟨x161000, x161001, wrap64 (x161002 + 1)⟩ : S144)⟩ : S214), (⟨x152001, (⟨x160000, x160001, x160002⟩ : S144)⟩ : S214)] : List (S214))), x1004, x1007, x1008, x1009, x1011)) else (if x41 = 23 then (some ((([(⟨wrap64 (x1 + 1), (⟨x161000, x161001, wrap64 (x161002 - 1)⟩ : S144)⟩ : S214)] : List (S214))), x1004, x1007, x1008, x1009, x1011)) else (some ((([(⟨wrap64 (x1 + 1), (⟨x161000, x161001, x161002⟩ : S144)⟩ : S214)] : List (S214))), x1004, x1007, x1008, x1009, x1011)))))
end
def code_checker_ways.f (k : Nat) (s0_0 : List (S27)) (s0_1 : List (S128)) (s0_2 : List (S44)) (s0_3 : List (S44)) (s0_4 : ByteArray) (s0_5 : List Int) (s0_6 : List (S135)) (s0_7 : ByteArray) (s0_8 : Int) (s0_9 : Int) (s0_10 : List (S132)) (s0_11 : Int) (a1 : Int) (a2_0 : Bool) (a2_1 : Int) (a2_2 : Int) : Option ((List (S214)) × ByteArray × ByteArray × Int × Int × Int) := if 0 ≤ a1 then (if a1 < (s0_10.length : Int) then ((code_checker_moves.f k s0_0 s0_1 s0_2 s0_3 s0_4 s0_5 s0_6 s0_7 s0_8 s0_9 s0_10 s0_11 ((rd_T132 s0_10 a1).f0) ((rd_T132 s0_10 a1).f1) ((rd_T132 s0_10 a1).f2)).bind fun bt152 => (if ((rd_T132 s0_10 a1).f0) = 13 then (code_checker_ways.j0 k a1 ((rd_T132 s0_10 a1).f0) (((rd_T132 s0_10 a1).f0) == 13) s0_0 s0_1 s0_2 s0_3 bt152.2.2.1 s0_5 s0_6 bt152.2.2.2.1 bt152.2.2.2.2.1 bt152.2.2.2.2.2.1 s0_10 bt152.2.2.2.2.2.2 ((rd_T132 s0_10 a1).f0) ((rd_T132 s0_10 a1).f1) ((rd_T132 s0_10 a1).f2) true (wrap64 (a2_1 - bt152.1)) a2_2 true (wrap64 ((wrap64 (a2_1 - bt152.1)) + bt152.2.1)) a2_2) else (if ((rd_T132 s0_10 a1).f0) = 10 then (code_checker_ways.j0 k a1 ((rd_T132 s0_10 a1).f0) (((rd_T132 s0_10 a1).f0) == 10) s0_0 s0_1 s0_2 s0_3 bt152.2.2.1 s0_5 s0_6 bt152.2.2.2.1 bt152.2.2.2.2.1 bt152.2.2.2.2.2.1 s0_10 bt152.2.2.2.2.2.2 ((rd_T132 s0_10 a1).f0) ((rd_T132 s0_10 a1).f1) ((rd_T132 s0_10 a1).f2) true (wrap64 (a2_1 - bt152.1)) a2_2 true (wrap64 ((wrap64 (a2_1 - bt152.1)) + bt152.2.1)) a2_2) else (if ((rd_T132 s0_10 a1).f0) = 12 then (code_checker_ways.j0 k a1 ((rd_T132 s0_10 a1).f0) (((rd_T132 s0_10 a1).f0) == 12) s0_0 s0_1 s0_2 s0_3 bt152.2.2.1 s0_5 s0_6 bt152.2.2.2.1 bt152.2.2.2.2.1 bt152.2.2.2.2.2.1 s0_10 bt152.2.2.2.2.2.2 ((rd_T132 s0_10 a1).f0) ((rd_T132 s0_10 a1).f1) ((rd_T132 s0_10 a1).f2) true (wrap64 (a2_1 - bt152.1)) a2_2 true (wrap64 ((wrap64 (a2_1 - bt152.1)) + bt152.2.1)) a2_2) else (code_checker_ways.j0 k a1 ((rd_T132 s0_10 a1).f0) (((rd_T132 s0_10 a1).f0) == 20) s0_0 s0_1 s0_2 s0_3 bt152.2.2.1 s0_5 s0_6 bt152.2.2.2.1 bt152.2.2.2.2.1 bt152.2.2.2.2.2.1 s0_10 bt152.2.2.2.2.2.2 ((rd_T132 s0_10 a1).f0) ((rd_T132 s0_10 a1).f1) ((rd_T132 s0_10 a1).f2) true (wrap64 (a2_1 - bt152.1)) a2_2 true (wrap64 ((wrap64 (a2_1 - bt152.1)) + bt152.2.1)) a2_2))))) else (none)) else (none)
set_option maxHeartbeats 8000000 in
set_option maxRecDepth 100000 in
theorem code_checker_ways.calls (k : Nat) (g : Nat) (s0_0 : List (S27)) (s0_1 : List (S128)) (s0_2 : List (S44)) (s0_3 : List (S44)) (s0_4 : ByteArray) (s0_5 : List Int) (s0_6 : List (S135)) (s0_7 : ByteArray) (s0_8 : Int) (s0_9 : Int) (s0_10 : List (S132)) (s0_11 : Int) (a1 : Int) (a2_0 : Bool) (a2_1 : Int) (a2_2 : Int) (r1 : List (S214)) (r2 : ByteArray) (r3 : ByteArray) (r4 : Int) (r5 : Int) (r6 : Int) (w0 w : World) (hI : IsS139 w0 w g s0_0 s0_1 s0_2 s0_3 s0_4 s0_5 s0_6 s0_7 s0_8 s0_9 s0_10 s0_11) (hB : Below w0.heap.size w0 w) (h : code_checker_ways.f k s0_0 s0_1 s0_2 s0_3 s0_4 s0_5 s0_6 s0_7 s0_8 s0_9 s0_10 s0_11 a1 a2_0 a2_1 a2_2 = some (r1, r2, r3, r4, r5, r6)) :
  Calls Tryz.prog 135 #[.pointer (some ⟨g, 0, none⟩), .int .i64 a1, .agg #[.bool a2_0, .int .i64 a2_1, .int .i64 a2_2]] w fun e w' => ∃ v0_ : Value, e = .returned (v0_) ∧ Kd.R k214 214 w' w.heap.size (fun _ => True) v0_ r1 ∧ IsS139 w0 w' g s0_0 s0_1 s0_2 s0_3 r2 s0_5 s0_6 r3 r4 r5 s0_10 r6 ∧ Below w0.heap.size w0 w' ∧ KeepBut w w' g none := by
 have hu144 := Tryz.underlying144
 have hu132 := Tryz.underlying132
 have hu214 := Tryz.underlying214
 have HI0 := Aside0.mk hI
 have HK := Aside0.mk (KeepBut.refl w g none)
 have HL := Aside0.mk hB.size
 clear hI
 have HW0 := Aside0.mk hB.size
 have HB := Aside0.mk hB
 clear hB
 have H : (if 0 ≤ a1 then (if a1 < (s0_10.length : Int) then ((code_checker_moves.f k s0_0 s0_1 s0_2 s0_3 s0_4 s0_5 s0_6 s0_7 s0_8 s0_9 s0_10 s0_11 ((rd_T132 s0_10 a1).f0) ((rd_T132 s0_10 a1).f1) ((rd_T132 s0_10 a1).f2)).bind fun bt152 => (if ((rd_T132 s0_10 a1).f0) = 13 then (code_checker_ways.j0 k a1 ((rd_T132 s0_10 a1).f0) (((rd_T132 s0_10 a1).f0) == 13) s0_0 s0_1 s0_2 s0_3 bt152.2.2.1 s0_5 s0_6 bt152.2.2.2.1 bt152.2.2.2.2.1 bt152.2.2.2.2.2.1 s0_10 bt152.2.2.2.2.2.2 ((rd_T132 s0_10 a1).f0) ((rd_T132 s0_10 a1).f1) ((rd_T132 s0_10 a1).f2) true (wrap64 (a2_1 - bt152.1)) a2_2 true (wrap64 ((wrap64 (a2_1 - bt152.1)) + bt152.2.1)) a2_2) else (if ((rd_T132 s0_10 a1).f0) = 10 then (code_checker_ways.j0 k a1 ((rd_T132 s0_10 a1).f0) (((rd_T132 s0_10 a1).f0) == 10) s0_0 s0_1 s0_2 s0_3 bt152.2.2.1 s0_5 s0_6 bt152.2.2.2.1 bt152.2.2.2.2.1 bt152.2.2.2.2.2.1 s0_10 bt152.2.2.2.2.2.2 ((rd_T132 s0_10 a1).f0) ((rd_T132 s0_10 a1).f1) ((rd_T132 s0_10 a1).f2) true (wrap64 (a2_1 - bt152.1)) a2_2 true (wrap64 ((wrap64 (a2_1 - bt152.1)) + bt152.2.1)) a2_2) else (if ((rd_T132 s0_10 a1).f0) = 12 then (code_checker_ways.j0 k a1 ((rd_T132 s0_10 a1).f0) (((rd_T132 s0_10 a1).f0) == 12) s0_0 s0_1 s0_2 s0_3 bt152.2.2.1 s0_5 s0_6 bt152.2.2.2.1 bt152.2.2.2.2.1 bt152.2.2.2.2.2.1 s0_10 bt152.2.2.2.2.2.2 ((rd_T132 s0_10 a1).f0) ((rd_T132 s0_10 a1).f1) ((rd_T132 s0_10 a1).f2) true (wrap64 (a2_1 - bt152.1)) a2_2 true (wrap64 ((wrap64 (a2_1 - bt152.1)) + bt152.2.1)) a2_2) else (code_checker_ways.j0 k a1 ((rd_T132 s0_10 a1).f0) (((rd_T132 s0_10 a1).f0) == 20) s0_0 s0_1 s0_2 s0_3 bt152.2.2.1 s0_5 s0_6 bt152.2.2.2.1 bt152.2.2.2.2.1 bt152.2.2.2.2.2.1 s0_10 bt152.2.2.2.2.2.2 ((rd_T132 s0_10 a1).f0) ((rd_T132 s0_10 a1).f1) ((rd_T132 s0_10 a1).f2) true (wrap64 (a2_1 - bt152.1)) a2_2 true (wrap64 ((wrap64 (a2_1 - bt152.1)) + bt152.2.1)) a2_2))))) else (none)) else (none)) = some (r1, r2, r3, r4, r5, r6) := h
 clear h
 by_cases c4 : 0 ≤ a1
 ·rw [if_pos c4] at H
  have c4b0 : decide (0 ≤ a1) = true := decide_eq_true c4
  clear c4
  by_cases c5 : a1 < (s0_10.length : Int)
  ·rw [if_pos c5] at H
   have c5b0 : decide (a1 < (s0_10.length : Int)) = true := decide_eq_true c5
   clear c5
   replace H := Option.bind_eq_some_iff.mp H
   obtain ⟨⟨t152, t153, t154, t155, t156, t157, t158⟩, A60, H⟩ := H
   replace H : (if ((rd_T132 s0_10 a1).f0) = 13 then (code_checker_ways.j0 k a1 ((rd_T132 s0_10 a1).f0) (((rd_T132 s0_10 a1).f0) == 13) s0_0 s0_1 s0_2 s0_3 t154 s0_5 s0_6 t155 t156 t157 s0_10 t158 ((rd_T132 s0_10 a1).f0) ((rd_T132 s0_10 a1).f1) ((rd_T132 s0_10 a1).f2) true (wrap64 (a2_1 - t152)) a2_2 true (wrap64 ((wrap64 (a2_1 - t152)) + t153)) a2_2) else (if ((rd_T132 s0_10 a1).f0) = 10 then (code_checker_ways.j0 k a1 ((rd_T132 s0_10 a1).f0) (((rd_T132 s0_10 a1).f0) == 10) s0_0 s0_1 s0_2 s0_3 t154 s0_5 s0_6 t155 t156 t157 s0_10 t158 ((rd_T132 s0_10 a1).f0) ((rd_T132 s0_10 a1).f1) ((rd_T132 s0_10 a1).f2) true (wrap64 (a2_1 - t152)) a2_2 true (wrap64 ((wrap64 (a2_1 - t152)) + t153)) a2_2) else (if ((rd_T132 s0_10 a1).f0) = 12 then (code_checker_ways.j0 k a1 ((rd_T132 s0_10 a1).f0) (((rd_T132 s0_10 a1).f0) == 12) s0_0 s0_1 s0_2 s0_3 t154 s0_5 s0_6 t155 t156 t157 s0_10 t158 ((rd_T132 s0_10 a1).f0) ((rd_T132 s0_10 a1).f1) ((rd_T132 s0_10 a1).f2) true (wrap64 (a2_1 - t152)) a2_2 true (wrap64 ((wrap64 (a2_1 - t152)) + t153)) a2_2) else (code_checker_ways.j0 k a1 ((rd_T132 s0_10 a1).f0) (((rd_T132 s0_10 a1).f0) == 20) s0_0 s0_1 s0_2 s0_3 t154 s0_5 s0_6 t155 t156 t157 s0_10 t158 ((rd_T132 s0_10 a1).f0) ((rd_T132 s0_10 a1).f1) ((rd_T132 s0_10 a1).f2) true (wrap64 (a2_1 - t152)) a2_2 true (wrap64 ((wrap64 (a2_1 - t152)) + t153)) a2_2)))) = some (r1, r2, r3, r4, r5, r6) := H
   have A6 := Aside0.mk A60
   clear A60
   have HC7 := Aside0.mk H
   clear H
   go_enter Tryz.func135, Tryz.ntmps135
   go_upto_if 42 with (first | ((with_reducible refine gate_dst (N := 5) rfl ?_); refine box_event ?hg (N := 5) ?hd (cs := #[.bool a2_0, .int .i64 a2_1, .int .i64 a2_2]) (t := 144) ?hr ?_; (case hd => rfl); (case hg => rfl); (case hr => first | (go_simp; done) | (go_simp; rfl)); intro gb149 hg w8 hbox hb; have n0_ := Aside0.mk (IsS139.below (by repeat (first | (with_reducible first | exact HI0.out | apply IsS139.alloc | apply IsS139.drewN | apply IsS139.drew | apply IsS139.set_4 | apply IsS139.set_7 | apply IsS139.set_8 | apply IsS139.set_9 | apply IsS139.set_11) | exact HI0.out)) hb); have n1_ := Aside0.mk (KeepBut.trans (by repeat (first | (with_reducible first | exact HK.out | apply KeepBut.set_ | apply keep_drewN | apply keep_drew | apply keep_alloc) | exact HK.out)) (KeepBut.of_below hb g none) (.inl rfl)); have n2_ := Aside0.mk (below_step (by repeat (first | (with_reducible first | exact HB.out | apply below_alloc | apply pw_below_drewN | apply below_drew1 | refine below_set ?_ (IsS139.ge HI0.out)) | exact HB.out)) hb); have n3_ := Aside0.mk (hbox); have n4_ := Aside0.mk ((by rw [hg]; exact (keep_size (w := w) (g := g) (row := none) (by repeat (first | (with_reducible first | exact HK.out | apply KeepBut.set_ | apply keep_drewN | apply keep_drew | apply keep_alloc) | exact HK.out))) : w.heap.size ≤ gb149)); have n5_ := Aside0.mk ((Nat.le_trans HW0.out (by rw [hg]; exact (keep_size (w := w) (g := g) (row := none) (by repeat (first | (with_reducible first | exact HK.out | apply KeepBut.set_ | apply keep_drewN | apply keep_drew | apply keep_alloc) | exact HK.out))) : w.heap.size ≤ gb149) : w0.heap.size ≤ gb149)); have n6_ := Aside0.mk ((by rw [hg]; exact Nat.ne_of_lt (IsS139.lt (show IsS139 w0 _ g s0_0 s0_1 s0_2 s0_3 s0_4 s0_5 s0_6 s0_7 s0_8 s0_9 s0_10 s0_11 from by repeat (first | (with_reducible first | exact HI0.out | apply IsS139.alloc | apply IsS139.drewN | apply IsS139.drew | apply IsS139.set_4 | apply IsS139.set_7 | apply IsS139.set_8 | apply IsS139.set_9 | apply IsS139.set_11) | exact HI0.out))) : g ≠ gb149)); have n7_ := Aside0.mk ((by rw [hg]; exact Nat.ne_of_gt (IsS139.lt (show IsS139 w0 _ g s0_0 s0_1 s0_2 s0_3 s0_4 s0_5 s0_6 s0_7 s0_8 s0_9 s0_10 s0_11 from by repeat (first | (with_reducible first | exact HI0.out | apply IsS139.alloc | apply IsS139.drewN | apply IsS139.drew | apply IsS139.set_4 | apply IsS139.set_7 | apply IsS139.set_8 | apply IsS139.set_9 | apply IsS139.set_11) | exact HI0.out))) : gb149 ≠ g)); clear HI0; clear HK; clear HB; have HI0 := n0_; have HK := n1_; have HB := n2_; have BK149 := n3_; have GW149 := n4_; have GE149 := n5_; have NB0_149 := n6_; have NB149_0 := n7_; clear n0_ n1_ n2_ n3_ n4_ n5_ n6_ n7_; clear hb hbox hg; obtain ⟨ASz9_0, cSz9_0, ASz9_1, cSz9_1, ASz9_2, cSz9_2, ASz9_3, cSz9_3, ASz9_5, cSz9_5, ASz9_6, cSz9_6, ASz9_10, cSz9_10, HGz9, hgz9, HSz9_0, HSz9_1, HSz9_2, HSz9_3, HSz9_5, HSz9_6, HSz9_10⟩ := HI0.out; have hcz9_0 := cellS139_0 HGz9; have hcz9_1 := cellS139_1 HGz9; have hcz9_2 := cellS139_2 HGz9; have hcz9_3 := cellS139_3 HGz9; have hcz9_4 := cellS139_4 HGz9; have hcz9_5 := cellS139_5 HGz9; have hcz9_6 := cellS139_6 HGz9; have hcz9_7 := cellS139_7 HGz9; have hcz9_8 := cellS139_8 HGz9; have hcz9_9 := cellS139_9 HGz9; have hcz9_10 := cellS139_10 HGz9; have hcz9_11 := cellS139_11 HGz9; have hfz9_4 := blk_frozen HGz9 4; have hfz9_7 := blk_frozen HGz9 7; have hfz9_8 := blk_frozen HGz9 8; have hfz9_9 := blk_frozen HGz9 9; have hfz9_11 := blk_frozen HGz9 11; clear HGz9 hgz9; have p150 : 0 ≤ (a1 : Int) := of_decide_eq_true (by first | (with_reducible assumption) | assumption); have q150 : a1 < (s0_10.length : Int) := of_decide_eq_true (by first | (with_reducible assumption) | assumption); obtain ⟨ad150, e150, hx150_0, hx150_1, hx150_2⟩ := at_T132 HSz9_10 a1 p150 q150; cases e150; replace hx150_0 := pw_cell_below HB.out hx150_0; replace hx150_1 := pw_cell_below HB.out hx150_1; replace hx150_2 := pw_cell_below HB.out hx150_2; replace p150 := eq_true p150; replace q150 := eq_true q150) | ((with_reducible refine gate_dst (N := 7) rfl ?_); refine box_event ?hg (N := 7) ?hd (cs := #[.int .i64 0, .int .i64 0, .int .i64 0]) (t := 132) ?hr ?_; (case hd => rfl); (case hg => rfl); (case hr => first | (go_simp; done) | (go_simp; rfl)); intro gb151 hg w10 hbox hb; have n0_ := Aside0.mk (IsS139.below (by repeat (first | (with_reducible first | exact HI0.out | apply IsS139.alloc | apply IsS139.drewN | apply IsS139.drew | apply IsS139.set_4 | apply IsS139.set_7 | apply IsS139.set_8 | apply IsS139.set_9 | apply IsS139.set_11 | refine IsS139.far ?_ NB0_149.out _) | exact HI0.out)) hb); have n1_ := Aside0.mk (blk_below (g := gb149) (o := .cells #[.bool a2_0, .int .i64 a2_1, .int .i64 a2_2] 144 (0, 0)) (by (with_reducible repeat (first | refine blk_drewN ?_ _ | refine blk_drew ?_ | refine blk_alloc ?_ _)); exact BK149.out) hb); have n2_ := Aside0.mk (KeepBut.trans (by repeat (first | (with_reducible first | exact HK.out | apply KeepBut.set_ | apply keep_drewN | apply keep_drew | apply keep_alloc | refine keep_far ?_ GW149.out _) | exact HK.out)) (KeepBut.of_below hb g none) (.inl rfl)); have n3_ := Aside0.mk (below_step (by repeat (first | (with_reducible first | exact HB.out | apply below_alloc | apply pw_below_drewN | apply below_drew1 | refine below_set ?_ (IsS139.ge HI0.out) | refine below_set ?_ GE149.out) | exact HB.out)) hb); have n4_ := Aside0.mk (hbox); have n5_ := Aside0.mk ((by rw [hg]; exact (keep_size (w := w) (g := g) (row := none) (by repeat (first | (with_reducible first | exact HK.out | apply KeepBut.set_ | apply keep_drewN | apply keep_drew | apply keep_alloc | refine keep_far ?_ GW149.out _) | exact HK.out))) : w.heap.size ≤ gb151)); have n6_ := Aside0.mk ((Nat.le_trans HW0.out (by rw [hg]; exact (keep_size (w := w) (g := g) (row := none) (by repeat (first | (with_reducible first | exact HK.out | apply KeepBut.set_ | apply keep_drewN | apply keep_drew | apply keep_alloc | refine keep_far ?_ GW149.out _) | exact HK.out))) : w.heap.size ≤ gb151) : w0.heap.size ≤ gb151)); have n7_ := Aside0.mk ((by rw [hg]; exact Nat.ne_of_lt (blk_lt (g := gb149) (o := .cells #[.bool a2_0, .int .i64 a2_1, .int .i64 a2_2] 144 (0, 0)) (by (with_reducible repeat (first | refine blk_drewN ?_ _ | refine blk_drew ?_ | refine blk_alloc ?_ _)); exact BK149.out)) : gb149 ≠ gb151)); have n8_ := Aside0.mk ((by rw [hg]; exact Nat.ne_of_gt (blk_lt (g := gb149) (o := .cells #[.bool a2_0, .int .i64 a2_1, .int .i64 a2_2] 144 (0, 0)) (by (with_reducible repeat (first | refine blk_drewN ?_ _ | refine blk_drew ?_ | refine blk_alloc ?_ _)); exact BK149.out)) : gb151 ≠ gb149)); have n9_ := Aside0.mk ((by rw [hg]; exact Nat.ne_of_lt (IsS139.lt (show IsS139 w0 _ g s0_0 s0_1 s0_2 s0_3 s0_4 s0_5 s0_6 s0_7 s0_8 s0_9 s0_10 s0_11 from by repeat (first | (with_reducible first | exact HI0.out | apply IsS139.alloc | apply IsS139.drewN | apply IsS139.drew | apply IsS139.set_4 | apply IsS139.set_7 | apply IsS139.set_8 | apply IsS139.set_9 | apply IsS139.set_11 | refine IsS139.far ?_ NB0_149.out _) | exact HI0.out))) : g ≠ gb151)); have n10_ := Aside0.mk ((by rw [hg]; exact Nat.ne_of_gt (IsS139.lt (show IsS139 w0 _ g s0_0 s0_1 s0_2 s0_3 s0_4 s0_5 s0_6 s0_7 s0_8 s0_9 s0_10 s0_11 from by repeat (first | (with_reducible first | exact HI0.out | apply IsS139.alloc | apply IsS139.drewN | apply IsS139.drew | apply IsS139.set_4 | apply IsS139.set_7 | apply IsS139.set_8 | apply IsS139.set_9 | apply IsS139.set_11 | refine IsS139.far ?_ NB0_149.out _) | exact HI0.out))) : gb151 ≠ g)); clear HI0; clear BK149; clear HK; clear HB; have HI0 := n0_; have BK149 := n1_; have HK := n2_; have HB := n3_; have BK151 := n4_; have GW151 := n5_; have GE151 := n6_; have NB149_151 := n7_; have NB151_149 := n8_; have NB0_151 := n9_; have NB151_0 := n10_; clear n0_ n1_ n2_ n3_ n4_ n5_ n6_ n7_ n8_ n9_ n10_; clear hb hbox hg; have hnb11 := NB151_149.out; have hnc11 := NB149_151.out; have hnb12 := NB151_0.out; have hnc12 := NB0_151.out; have hcz13_0 : w10.cell? ⟨gb151, 0, none⟩ = some (.int .i64 0) := (blk_cell BK151.out 0).trans rfl; have hcz13_1 : w10.cell? ⟨gb151, 1, none⟩ = some (.int .i64 0) := (blk_cell BK151.out 1).trans rfl; have hcz13_2 : w10.cell? ⟨gb151, 2, none⟩ = some (.int .i64 0) := (blk_cell BK151.out 2).trans rfl; have hfz13_0 := blk_frozen BK151.out 0; have hfz13_1 := blk_frozen BK151.out 1; have hfz13_2 := blk_frozen BK151.out 2) | ((with_reducible refine gate_callee (f := 87) rfl ?_); refine goesL_ (some 23) rfl rfl Tryz.func87 (by kernel_rfl) rfl #[.pointer (some ⟨g, 0, none⟩), .agg #[.int .i64 ((rd_T132 s0_10 a1).f0), .int .i64 ((rd_T132 s0_10 a1).f1), .int .i64 ((rd_T132 s0_10 a1).f2)]] rfl (by (try simp only [List.map_toArray, List.map_cons, List.map_nil]); first | done | rfl | (simp only [List.length_drop, List.length_take]; rfl)) ?_; (with_reducible refine (code_checker_moves.calls k g s0_0 s0_1 s0_2 s0_3 s0_4 s0_5 s0_6 s0_7 s0_8 s0_9 s0_10 s0_11 ((rd_T132 s0_10 a1).f0) ((rd_T132 s0_10 a1).f1) ((rd_T132 s0_10 a1).f2) t152 t153 t154 t155 t156 t157 t158 w0 _ ?side1 ?side2 A6.out).mono ?_); (case side1 => repeat (first | (with_reducible first | exact HI0.out | apply IsS139.alloc | apply IsS139.drewN | apply IsS139.drew | apply IsS139.set_4 | apply IsS139.set_7 | apply IsS139.set_8 | apply IsS139.set_9 | apply IsS139.set_11 | refine IsS139.far ?_ NB0_149.out _ | refine IsS139.far ?_ NB0_151.out _) | exact HI0.out)); (case side2 => repeat (first | (with_reducible first | exact HB.out | apply below_alloc | apply pw_below_drewN | apply below_drew1 | refine below_set ?_ (IsS139.ge HI0.out) | refine below_set ?_ GE149.out | refine below_set ?_ GE151.out) | exact HB.out)); rintro e w14 ⟨rfl, hi, hb, hk⟩; refine ⟨_, rfl, ?_⟩; have n0_ := Aside0.mk (KeepBut.blk hk (g' := gb149) (o := .cells #[.bool a2_0, .int .i64 a2_1, .int .i64 a2_2] 144 (0, 0)) (by (with_reducible repeat (first | refine blk_drewN ?_ _ | refine blk_drew ?_ | refine blk_alloc ?_ _)); refine blk_far ?_ NB149_151.out _; (with_reducible repeat (first | refine blk_drewN ?_ _ | refine blk_drew ?_ | refine blk_alloc ?_ _)); refine blk_far ?_ NB149_151.out _; (with_reducible repeat (first | refine blk_drewN ?_ _ | refine blk_drew ?_ | refine blk_alloc ?_ _)); refine blk_far ?_ NB149_151.out _; (with_reducible repeat (first | refine blk_drewN ?_ _ | refine blk_drew ?_ | refine blk_alloc ?_ _)); exact BK149.out) NB149_0.out (by simp)); have n1_ := Aside0.mk (KeepBut.blk hk (g' := gb151) (o := .cells #[.int .i64 ((rd_T132 s0_10 a1).f0), .int .i64 ((rd_T132 s0_10 a1).f1), .int .i64 ((rd_T132 s0_10 a1).f2)] 132 (0, 0)) (by (with_reducible repeat (first | refine blk_drewN ?_ _ | refine blk_drew ?_ | refine blk_alloc ?_ _)); refine blk_put (cs := #[.int .i64 ((rd_T132 s0_10 a1).f0), .int .i64 ((rd_T132 s0_10 a1).f1), .int .i64 0]) ?_ 2 _ rfl; (with_reducible repeat (first | refine blk_drewN ?_ _ | refine blk_drew ?_ | refine blk_alloc ?_ _)); refine blk_put (cs := #[.int .i64 ((rd_T132 s0_10 a1).f0), .int .i64 0, .int .i64 0]) ?_ 1 _ rfl; (with_reducible repeat (first | refine blk_drewN ?_ _ | refine blk_drew ?_ | refine blk_alloc ?_ _)); refine blk_put (cs := #[.int .i64 0, .int .i64 0, .int .i64 0]) ?_ 0 _ rfl; (with_reducible repeat (first | refine blk_drewN ?_ _ | refine blk_drew ?_ | refine blk_alloc ?_ _)); exact BK151.out) NB151_0.out (by simp)); have n2_ := Aside0.mk (KeepBut.trans (by repeat (first | (with_reducible first | exact HK.out | apply KeepBut.set_ | apply keep_drewN | apply keep_drew | apply keep_alloc | refine keep_far ?_ GW149.out _ | refine keep_far ?_ GW151.out _) | exact HK.out)) hk (.inl rfl)); have n3_ := Aside0.mk (hb); have n4_ := Aside0.mk (hi); clear BK149; clear BK151; clear HK; clear HB; clear HI0; have BK149 := n0_; have BK151 := n1_; have HK := n2_; have HB := n3_; have HI0 := n4_; clear n0_ n1_ n2_ n3_ n4_; (try clear hb); (try clear hb2); (try clear hk); (try clear hi); have hnb15 := NB149_0.out; have hnc15 := NB0_149.out; have hcz16_0 : w14.cell? ⟨gb149, 0, none⟩ = some (.bool a2_0) := (blk_cell BK149.out 0).trans rfl; have hcz16_1 : w14.cell? ⟨gb149, 1, none⟩ = some (.int .i64 a2_1) := (blk_cell BK149.out 1).trans rfl; have hcz16_2 : w14.cell? ⟨gb149, 2, none⟩ = some (.int .i64 a2_2) := (blk_cell BK149.out 2).trans rfl; have hfz16_0 := blk_frozen BK149.out 0; have hfz16_1 := blk_frozen BK149.out 1; have hfz16_2 := blk_frozen BK149.out 2) | ((with_reducible refine gate_dst (N := 10) rfl ?_); refine box_event ?hg (N := 10) ?hd (cs := #[.bool false, .int .i64 0, .int .i64 0]) (t := 144) ?hr ?_; (case hd => rfl); (case hg => rfl); (case hr => first | (go_simp; done) | (go_simp; rfl)); intro gb159 hg w17 hbox hb; have n0_ := Aside0.mk (IsS139.below (by repeat (first | (with_reducible first | exact HI0.out | apply IsS139.alloc | apply IsS139.drewN | apply IsS139.drew | apply IsS139.set_4 | apply IsS139.set_7 | apply IsS139.set_8 | apply IsS139.set_9 | apply IsS139.set_11 | refine IsS139.far ?_ NB0_149.out _ | refine IsS139.far ?_ NB0_151.out _) | exact HI0.out)) hb); have n1_ := Aside0.mk (blk_below (g := gb149) (o := .cells #[.bool a2_0, .int .i64 a2_1, .int .i64 a2_2] 144 (0, 0)) (by (with_reducible repeat (first | refine blk_drewN ?_ _ | refine blk_drew ?_ | refine blk_alloc ?_ _)); exact BK149.out) hb); have n2_ := Aside0.mk (blk_below (g := gb151) (o := .cells #[.int .i64 ((rd_T132 s0_10 a1).f0), .int .i64 ((rd_T132 s0_10 a1).f1), .int .i64 ((rd_T132 s0_10 a1).f2)] 132 (0, 0)) (by (with_reducible repeat (first | refine blk_drewN ?_ _ | refine blk_drew ?_ | refine blk_alloc ?_ _)); exact BK151.out) hb); have n3_ := Aside0.mk (KeepBut.trans (by repeat (first | (with_reducible first | exact HK.out | apply KeepBut.set_ | apply keep_drewN | apply keep_drew | apply keep_alloc | refine keep_far ?_ GW149.out _ | refine keep_far ?_ GW151.out _) | exact HK.out)) (KeepBut.of_below hb g none) (.inl rfl)); have n4_ := Aside0.mk (below_step (by repeat (first | (with_reducible first | exact HB.out | apply below_alloc | apply pw_below_drewN | apply below_drew1 | refine below_set ?_ (IsS139.ge HI0.out) | refine below_set ?_ GE149.out | refine below_set ?_ GE151.out) | exact HB.out)) hb); have n5_ := Aside0.mk (hbox); have n6_ := Aside0.mk ((by rw [hg]; exact (keep_size (w := w) (g := g) (row := none) (by repeat (first | (with_reducible first | exact HK.out | apply KeepBut.set_ | apply keep_drewN | apply keep_drew | apply keep_alloc | refine keep_far ?_ GW149.out _ | refine keep_far ?_ GW151.out _) | exact HK.out))) : w.heap.size ≤ gb159)); have n7_ := Aside0.mk ((Nat.le_trans HW0.out (by rw [hg]; exact (keep_size (w := w) (g := g) (row := none) (by repeat (first | (with_reducible first | exact HK.out | apply KeepBut.set_ | apply keep_drewN | apply keep_drew | apply keep_alloc | refine keep_far ?_ GW149.out _ | refine keep_far ?_ GW151.out _) | exact HK.out))) : w.heap.size ≤ gb159) : w0.heap.size ≤ gb159)); have n8_ := Aside0.mk ((by rw [hg]; exact Nat.ne_of_lt (blk_lt (g := gb149) (o := .cells #[.bool a2_0, .int .i64 a2_1, .int .i64 a2_2] 144 (0, 0)) (by (with_reducible repeat (first | refine blk_drewN ?_ _ | refine blk_drew ?_ | refine blk_alloc ?_ _)); exact BK149.out)) : gb149 ≠ gb159)); have n9_ := Aside0.mk ((by rw [hg]; exact Nat.ne_of_gt (blk_lt (g := gb149) (o := .cells #[.bool a2_0, .int .i64 a2_1, .int .i64 a2_2] 144 (0, 0)) (by (with_reducible repeat (first | refine blk_drewN ?_ _ | refine blk_drew ?_ | refine blk_alloc ?_ _)); exact BK149.out)) : gb159 ≠ gb149)); have n10_ := Aside0.mk ((by rw [hg]; exact Nat.ne_of_lt (blk_lt (g := gb151) (o := .cells #[.int .i64 ((rd_T132 s0_10 a1).f0), .int .i64 ((rd_T132 s0_10 a1).f1), .int .i64 ((rd_T132 s0_10 a1).f2)] 132 (0, 0)) (by (with_reducible repeat (first | refine blk_drewN ?_ _ | refine blk_drew ?_ | refine blk_alloc ?_ _)); exact BK151.out)) : gb151 ≠ gb159)); have n11_ := Aside0.mk ((by rw [hg]; exact Nat.ne_of_gt (blk_lt (g := gb151) (o := .cells #[.int .i64 ((rd_T132 s0_10 a1).f0), .int .i64 ((rd_T132 s0_10 a1).f1), .int .i64 ((rd_T132 s0_10 a1).f2)] 132 (0, 0)) (by (with_reducible repeat (first | refine blk_drewN ?_ _ | refine blk_drew ?_ | refine blk_alloc ?_ _)); exact BK151.out)) : gb159 ≠ gb151)); have n12_ := Aside0.mk ((by rw [hg]; exact Nat.ne_of_lt (IsS139.lt (show IsS139 w0 _ g s0_0 s0_1 s0_2 s0_3 t154 s0_5 s0_6 t155 t156 t157 s0_10 t158 from by repeat (first | (with_reducible first | exact HI0.out | apply IsS139.alloc | apply IsS139.drewN | apply IsS139.drew | apply IsS139.set_4 | apply IsS139.set_7 | apply IsS139.set_8 | apply IsS139.set_9 | apply IsS139.set_11 | refine IsS139.far ?_ NB0_149.out _ | refine IsS139.far ?_ NB0_151.out _) | exact HI0.out))) : g ≠ gb159)); have n13_ := Aside0.mk ((by rw [hg]; exact Nat.ne_of_gt (IsS139.lt (show IsS139 w0 _ g s0_0 s0_1 s0_2 s0_3 t154 s0_5 s0_6 t155 t156 t157 s0_10 t158 from by repeat (first | (with_reducible first | exact HI0.out | apply IsS139.alloc | apply IsS139.drewN | apply IsS139.drew | apply IsS139.set_4 | apply IsS139.set_7 | apply IsS139.set_8 | apply IsS139.set_9 | apply IsS139.set_11 | refine IsS139.far ?_ NB0_149.out _ | refine IsS139.far ?_ NB0_151.out _) | exact HI0.out))) : gb159 ≠ g)); clear HI0; clear BK149; clear BK151; clear HK; clear HB; have HI0 := n0_; have BK149 := n1_; have BK151 := n2_; have HK := n3_; have HB := n4_; have BK159 := n5_; have GW159 := n6_; have GE159 := n7_; have NB149_159 := n8_; have NB159_149 := n9_; have NB151_159 := n10_; have NB159_151 := n11_; have NB0_159 := n12_; have NB159_0 := n13_; clear n0_ n1_ n2_ n3_ n4_ n5_ n6_ n7_ n8_ n9_ n10_ n11_ n12_ n13_; clear hb hbox hg; have hnb18 := NB159_149.out; have hnc18 := NB149_159.out; have hnb19 := NB159_151.out; have hnc19 := NB151_159.out; have hnb20 := NB159_0.out; have hnc20 := NB0_159.out; have hcz21_0 : w17.cell? ⟨gb159, 0, none⟩ = some (.bool false) := (blk_cell BK159.out 0).trans rfl; have hcz21_1 : w17.cell? ⟨gb159, 1, none⟩ = some (.int .i64 0) := (blk_cell BK159.out 1).trans rfl; have hcz21_2 : w17.cell? ⟨gb159, 2, none⟩ = some (.int .i64 0) := (blk_cell BK159.out 2).trans rfl; have hfz21_0 := blk_frozen BK159.out 0; have hfz21_1 := blk_frozen BK159.out 1; have hfz21_2 := blk_frozen BK159.out 2; have hcz22_0 : w17.cell? ⟨gb149, 0, none⟩ = some (.bool a2_0) := (blk_cell BK149.out 0).trans rfl; have hcz22_1 : w17.cell? ⟨gb149, 1, none⟩ = some (.int .i64 a2_1) := (blk_cell BK149.out 1).trans rfl; have hcz22_2 : w17.cell? ⟨gb149, 2, none⟩ = some (.int .i64 a2_2) := (blk_cell BK149.out 2).trans rfl; have hfz22_0 := blk_frozen BK149.out 0; have hfz22_1 := blk_frozen BK149.out 1; have hfz22_2 := blk_frozen BK149.out 2) | ((with_reducible refine gate_dst (N := 11) rfl ?_); refine box_event ?hg (N := 11) ?hd (cs := #[.bool false, .int .i64 0, .int .i64 0]) (t := 144) ?hr ?_; (case hd => rfl); (case hg => rfl); (case hr => first | (go_simp; done) | (go_simp; rfl)); intro gb160 hg w23 hbox hb; have n0_ := Aside0.mk (IsS139.below (show IsS139 w0 (((w17.setCell ⟨gb159, 0, none⟩ (.bool true)).setCell ⟨gb159, 1, none⟩ (.int .i64 (wrap64 (a2_1 - t152)))).setCell ⟨gb159, 2, none⟩ (.int .i64 a2_2)) g s0_0 s0_1 s0_2 s0_3 t154 s0_5 s0_6 t155 t156 t157 s0_10 t158 from by repeat (first | (with_reducible first | exact HI0.out | apply IsS139.alloc | apply IsS139.drewN | apply IsS139.drew | apply IsS139.set_4 | apply IsS139.set_7 | apply IsS139.set_8 | apply IsS139.set_9 | apply IsS139.set_11 | refine IsS139.far ?_ NB0_149.out _ | refine IsS139.far ?_ NB0_151.out _ | refine IsS139.far ?_ NB0_159.out _) | exact HI0.out)) hb); have n1_ := Aside0.mk (blk_below (g := gb149) (o := .cells #[.bool a2_0, .int .i64 a2_1, .int .i64 a2_2] 144 (0, 0)) (by (with_reducible repeat (first | refine blk_drewN ?_ _ | refine blk_drew ?_ | refine blk_alloc ?_ _)); refine blk_far ?_ NB149_159.out _; (with_reducible repeat (first | refine blk_drewN ?_ _ | refine blk_drew ?_ | refine blk_alloc ?_ _)); refine blk_far ?_ NB149_159.out _; (with_reducible repeat (first | refine blk_drewN ?_ _ | refine blk_drew ?_ | refine blk_alloc ?_ _)); refine blk_far ?_ NB149_159.out _; (with_reducible repeat (first | refine blk_drewN ?_ _ | refine blk_drew ?_ | refine blk_alloc ?_ _)); exact BK149.out) hb); have n2_ := Aside0.mk (blk_below (g := gb151) (o := .cells #[.int .i64 ((rd_T132 s0_10 a1).f0), .int .i64 ((rd_T132 s0_10 a1).f1), .int .i64 ((rd_T132 s0_10 a1).f2)] 132 (0, 0)) (by (with_reducible repeat (first | refine blk_drewN ?_ _ | refine blk_drew ?_ | refine blk_alloc ?_ _)); refine blk_far ?_ NB151_159.out _; (with_reducible repeat (first | refine blk_drewN ?_ _ | refine blk_drew ?_ | refine blk_alloc ?_ _)); refine blk_far ?_ NB151_159.out _; (with_reducible repeat (first | refine blk_drewN ?_ _ | refine blk_drew ?_ | refine blk_alloc ?_ _)); refine blk_far ?_ NB151_159.out _; (with_reducible repeat (first | refine blk_drewN ?_ _ | refine blk_drew ?_ | refine blk_alloc ?_ _)); exact BK151.out) hb); have n3_ := Aside0.mk (blk_below (g := gb159) (o := .cells #[.bool true, .int .i64 (wrap64 (a2_1 - t152)), .int .i64 a2_2] 144 (0, 0)) (by (with_reducible repeat (first | refine blk_drewN ?_ _ | refine blk_drew ?_ | refine blk_alloc ?_ _)); refine blk_put (cs := #[.bool true, .int .i64 (wrap64 (a2_1 - t152)), .int .i64 0]) ?_ 2 _ rfl; (with_reducible repeat (first | refine blk_drewN ?_ _ | refine blk_drew ?_ | refine blk_alloc ?_ _)); refine blk_put (cs := #[.bool true, .int .i64 0, .int .i64 0]) ?_ 1 _ rfl; (with_reducible repeat (first | refine blk_drewN ?_ _ | refine blk_drew ?_ | refine blk_alloc ?_ _)); refine blk_put (cs := #[.bool false, .int .i64 0, .int .i64 0]) ?_ 0 _ rfl; (with_reducible repeat (first | refine blk_drewN ?_ _ | refine blk_drew ?_ | refine blk_alloc ?_ _)); exact BK159.out) hb); have n4_ := Aside0.mk (KeepBut.trans (by repeat (first | (with_reducible first | exact HK.out | apply KeepBut.set_ | apply keep_drewN | apply keep_drew | apply keep_alloc | refine keep_far ?_ GW149.out _ | refine keep_far ?_ GW151.out _ | refine keep_far ?_ GW159.out _) | exact HK.out)) (KeepBut.of_below hb g none) (.inl rfl)); have n5_ := Aside0.mk (below_step (by repeat (first | (with_reducible first | exact HB.out | apply below_alloc | apply pw_below_drewN | apply below_drew1 | refine below_set ?_ (IsS139.ge HI0.out) | refine below_set ?_ GE149.out | refine below_set ?_ GE151.out | refine below_set ?_ GE159.out) | exact HB.out)) hb); have n6_ := Aside0.mk (hbox); have n7_ := Aside0.mk ((by rw [hg]; exact (keep_size (w := w) (g := g) (row := none) (by repeat (first | (with_reducible first | exact HK.out | apply KeepBut.set_ | apply keep_drewN | apply keep_drew | apply keep_alloc | refine keep_far ?_ GW149.out _ | refine keep_far ?_ GW151.out _ | refine keep_far ?_ GW159.out _) | exact HK.out))) : w.heap.size ≤ gb160)); have n8_ := Aside0.mk ((Nat.le_trans HW0.out (by rw [hg]; exact (keep_size (w := w) (g := g) (row := none) (by repeat (first | (with_reducible first | exact HK.out | apply KeepBut.set_ | apply keep_drewN | apply keep_drew | apply keep_alloc | refine keep_far ?_ GW149.out _ | refine keep_far ?_ GW151.out _ | refine keep_far ?_ GW159.out _) | exact HK.out))) : w.heap.size ≤ gb160) : w0.heap.size ≤ gb160)); have n9_ := Aside0.mk ((by rw [hg]; exact Nat.ne_of_lt (blk_lt (g := gb149) (o := .cells #[.bool a2_0, .int .i64 a2_1, .int .i64 a2_2] 144 (0, 0)) (by (with_reducible repeat (first | refine blk_drewN ?_ _ | refine blk_drew ?_ | refine blk_alloc ?_ _)); refine blk_far ?_ NB149_159.out _; (with_reducible repeat (first | refine blk_drewN ?_ _ | refine blk_drew ?_ | refine blk_alloc ?_ _)); refine blk_far ?_ NB149_159.out _; (with_reducible repeat (first | refine blk_drewN ?_ _ | refine blk_drew ?_ | refine blk_alloc ?_ _)); refine blk_far ?_ NB149_159.out _; (with_reducible repeat (first | refine blk_drewN ?_ _ | refine blk_drew ?_ | refine blk_alloc ?_ _)); exact BK149.out)) : gb149 ≠ gb160)); have n10_ := Aside0.mk ((by rw [hg]; exact Nat.ne_of_gt (blk_lt (g := gb149) (o := .cells #[.bool a2_0, .int .i64 a2_1, .int .i64 a2_2] 144 (0, 0)) (by (with_reducible repeat (first | refine blk_drewN ?_ _ | refine blk_drew ?_ | refine blk_alloc ?_ _)); refine blk_far ?_ NB149_159.out _; (with_reducible repeat (first | refine blk_drewN ?_ _ | refine blk_drew ?_ | refine blk_alloc ?_ _)); refine blk_far ?_ NB149_159.out _; (with_reducible repeat (first | refine blk_drewN ?_ _ | refine blk_drew ?_ | refine blk_alloc ?_ _)); refine blk_far ?_ NB149_159.out _; (with_reducible repeat (first | refine blk_drewN ?_ _ | refine blk_drew ?_ | refine blk_alloc ?_ _)); exact BK149.out)) : gb160 ≠ gb149)); have n11_ := Aside0.mk ((by rw [hg]; exact Nat.ne_of_lt (blk_lt (g := gb151) (o := .cells #[.int .i64 ((rd_T132 s0_10 a1).f0), .int .i64 ((rd_T132 s0_10 a1).f1), .int .i64 ((rd_T132 s0_10 a1).f2)] 132 (0, 0)) (by (with_reducible repeat (first | refine blk_drewN ?_ _ | refine blk_drew ?_ | refine blk_alloc ?_ _)); refine blk_far ?_ NB151_159.out _; (with_reducible repeat (first | refine blk_drewN ?_ _ | refine blk_drew ?_ | refine blk_alloc ?_ _)); refine blk_far ?_ NB151_159.out _; (with_reducible repeat (first | refine blk_drewN ?_ _ | refine blk_drew ?_ | refine blk_alloc ?_ _)); refine blk_far ?_ NB151_159.out _; (with_reducible repeat (first | refine blk_drewN ?_ _ | refine blk_drew ?_ | refine blk_alloc ?_ _)); exact BK151.out)) : gb151 ≠ gb160)); have n12_ := Aside0.mk ((by rw [hg]; exact Nat.ne_of_gt (blk_lt (g := gb151) (o := .cells #[.int .i64 ((rd_T132 s0_10 a1).f0), .int .i64 ((rd_T132 s0_10 a1).f1), .int .i64 ((rd_T132 s0_10 a1).f2)] 132 (0, 0)) (by (with_reducible repeat (first | refine blk_drewN ?_ _ | refine blk_drew ?_ | refine blk_alloc ?_ _)); refine blk_far ?_ NB151_159.out _; (with_reducible repeat (first | refine blk_drewN ?_ _ | refine blk_drew ?_ | refine blk_alloc ?_ _)); refine blk_far ?_ NB151_159.out _; (with_reducible repeat (first | refine blk_drewN ?_ _ | refine blk_drew ?_ | refine blk_alloc ?_ _)); refine blk_far ?_ NB151_159.out _; (with_reducible repeat (first | refine blk_drewN ?_ _ | refine blk_drew ?_ | refine blk_alloc ?_ _)); exact BK151.out)) : gb160 ≠ gb151)); have n13_ := Aside0.mk ((by rw [hg]; exact Nat.ne_of_lt (blk_lt (g := gb159) (o := .cells #[.bool true, .int .i64 (wrap64 (a2_1 - t152)), .int .i64 a2_2] 144 (0, 0)) (by (with_reducible repeat (first | refine blk_drewN ?_ _ | refine blk_drew ?_ | refine blk_alloc ?_ _)); refine blk_put (cs := #[.bool true, .int .i64 (wrap64 (a2_1 - t152)), .int .i64 0]) ?_ 2 _ rfl; (with_reducible repeat (first | refine blk_drewN ?_ _ | refine blk_drew ?_ | refine blk_alloc ?_ _)); refine blk_put (cs := #[.bool true, .int .i64 0, .int .i64 0]) ?_ 1 _ rfl; (with_reducible repeat (first | refine blk_drewN ?_ _ | refine blk_drew ?_ | refine blk_alloc ?_ _)); refine blk_put (cs := #[.bool false, .int .i64 0, .int .i64 0]) ?_ 0 _ rfl; (with_reducible repeat (first | refine blk_drewN ?_ _ | refine blk_drew ?_ | refine blk_alloc ?_ _)); exact BK159.out)) : gb159 ≠ gb160)); have n14_ := Aside0.mk ((by rw [hg]; exact Nat.ne_of_gt (blk_lt (g := gb159) (o := .cells #[.bool true, .int .i64 (wrap64 (a2_1 - t152)), .int .i64 a2_2] 144 (0, 0)) (by (with_reducible repeat (first | refine blk_drewN ?_ _ | refine blk_drew ?_ | refine blk_alloc ?_ _)); refine blk_put (cs := #[.bool true, .int .i64 (wrap64 (a2_1 - t152)), .int .i64 0]) ?_ 2 _ rfl; (with_reducible repeat (first | refine blk_drewN ?_ _ | refine blk_drew ?_ | refine blk_alloc ?_ _)); refine blk_put (cs := #[.bool true, .int .i64 0, .int .i64 0]) ?_ 1 _ rfl; (with_reducible repeat (first | refine blk_drewN ?_ _ | refine blk_drew ?_ | refine blk_alloc ?_ _)); refine blk_put (cs := #[.bool false, .int .i64 0, .int .i64 0]) ?_ 0 _ rfl; (with_reducible repeat (first | refine blk_drewN ?_ _ | refine blk_drew ?_ | refine blk_alloc ?_ _)); exact BK159.out)) : gb160 ≠ gb159)); have n15_ := Aside0.mk ((by rw [hg]; exact Nat.ne_of_lt (IsS139.lt (show IsS139 w0 _ g s0_0 s0_1 s0_2 s0_3 t154 s0_5 s0_6 t155 t156 t157 s0_10 t158 from by repeat (first | (with_reducible first | exact HI0.out | apply IsS139.alloc | apply IsS139.drewN | apply IsS139.drew | apply IsS139.set_4 | apply IsS139.set_7 | apply IsS139.set_8 | apply IsS139.set_9 | apply IsS139.set_11 | refine IsS139.far ?_ NB0_149.out _ | refine IsS139.far ?_ NB0_151.out _ | refine IsS139.far ?_ NB0_159.out _) | exact HI0.out))) : g ≠ gb160)); have n16_ := Aside0.mk ((by rw [hg]; exact Nat.ne_of_gt (IsS139.lt (show IsS139 w0 _ g s0_0 s0_1 s0_2 s0_3 t154 s0_5 s0_6 t155 t156 t157 s0_10 t158 from by repeat (first | (with_reducible first | exact HI0.out | apply IsS139.alloc | apply IsS139.drewN | apply IsS139.drew | apply IsS139.set_4 | apply IsS139.set_7 | apply IsS139.set_8 | apply IsS139.set_9 | apply IsS139.set_11 | refine IsS139.far ?_ NB0_149.out _ | refine IsS139.far ?_ NB0_151.out _ | refine IsS139.far ?_ NB0_159.out _) | exact HI0.out))) : gb160 ≠ g)); clear HI0; clear BK149; clear BK151; clear BK159; clear HK; clear HB; have HI0 := n0_; have BK149 := n1_; have BK151 := n2_; have BK159 := n3_; have HK := n4_; have HB := n5_; have BK160 := n6_; have GW160 := n7_; have GE160 := n8_; have NB149_160 := n9_; have NB160_149 := n10_; have NB151_160 := n11_; have NB160_151 := n12_; have NB159_160 := n13_; have NB160_159 := n14_; have NB0_160 := n15_; have NB160_0 := n16_; clear n0_ n1_ n2_ n3_ n4_ n5_ n6_ n7_ n8_ n9_ n10_ n11_ n12_ n13_ n14_ n15_ n16_; clear hb hbox hg; have hnb24 := NB160_149.out; have hnc24 := NB149_160.out; have hnb25 := NB160_151.out; have hnc25 := NB151_160.out; have hnb26 := NB160_159.out; have hnc26 := NB159_160.out; have hnb27 := NB160_0.out; have hnc27 := NB0_160.out; have hcz28_0 : w23.cell? ⟨gb160, 0, none⟩ = some (.bool false) := (blk_cell BK160.out 0).trans rfl; have hcz28_1 : w23.cell? ⟨gb160, 1, none⟩ = some (.int .i64 0) := (blk_cell BK160.out 1).trans rfl; have hcz28_2 : w23.cell? ⟨gb160, 2, none⟩ = some (.int .i64 0) := (blk_cell BK160.out 2).trans rfl; have hfz28_0 := blk_frozen BK160.out 0; have hfz28_1 := blk_frozen BK160.out 1; have hfz28_2 := blk_frozen BK160.out 2; have hcz29_0 : w23.cell? ⟨gb151, 0, none⟩ = some (.int .i64 ((rd_T132 s0_10 a1).f0)) := (blk_cell BK151.out 0).trans rfl; have hcz29_1 : w23.cell? ⟨gb151, 1, none⟩ = some (.int .i64 ((rd_T132 s0_10 a1).f1)) := (blk_cell BK151.out 1).trans rfl; have hcz29_2 : w23.cell? ⟨gb151, 2, none⟩ = some (.int .i64 ((rd_T132 s0_10 a1).f2)) := (blk_cell BK151.out 2).trans rfl; have hfz29_0 := blk_frozen BK151.out 0; have hfz29_1 := blk_frozen BK151.out 1; have hfz29_2 := blk_frozen BK151.out 2))
   (try simp only [Act.put, List.setIfInBounds_toArray, List.set_cons_zero, List.set_cons_succ])
   go_cut [42] (fun v42 wc => ∃ (kq : Nat) (x42_6 : Bool), v42 = .bool x42_6 ∧ Aside0 (code_checker_ways.j0 kq a1 ((rd_T132 s0_10 a1).f0) x42_6 s0_0 s0_1 s0_2 s0_3 t154 s0_5 s0_6 t155 t156 t157 s0_10 t158 ((rd_T132 s0_10 a1).f0) ((rd_T132 s0_10 a1).f1) ((rd_T132 s0_10 a1).f2) true (wrap64 (a2_1 - t152)) a2_2 true (wrap64 ((wrap64 (a2_1 - t152)) + t153)) a2_2 = some (r1, r2, r3, r4, r5, r6)) ∧ Aside0 (kq ≤ k) ∧ Aside0 (wc.heap[gb149]? = some (.cells #[.bool a2_0, .int .i64 a2_1, .int .i64 a2_2] 144 (0, 0))) ∧ Aside0 (wc.heap[gb151]? = some (.cells #[.int .i64 ((rd_T132 s0_10 a1).f0), .int .i64 ((rd_T132 s0_10 a1).f1), .int .i64 ((rd_T132 s0_10 a1).f2)] 132 (0, 0))) ∧ Aside0 (wc.heap[gb159]? = some (.cells #[.bool true, .int .i64 (wrap64 (a2_1 - t152)), .int .i64 a2_2] 144 (0, 0))) ∧ Aside0 (wc.heap[gb160]? = some (.cells #[.bool true, .int .i64 (wrap64 ((wrap64 (a2_1 - t152)) + t153)), .int .i64 a2_2] 144 (0, 0))) ∧ Aside0 (IsS139 w0 wc g s0_0 s0_1 s0_2 s0_3 t154 s0_5 s0_6 t155 t156 t157 s0_10 t158) ∧ Aside0 (KeepBut w wc g none) ∧ Aside0 (Below w0.heap.size w0 wc))
   case first =>
    have H := HC7.out
    clear HC7
    by_cases c30 : ((rd_T132 s0_10 a1).f0) = 13
    ·rw [if_pos c30] at H
     have c30b0 : (((rd_T132 s0_10 a1).f0) == 13) = true := beq_iff_eq.mpr c30
     have c30b1 : (((rd_T132 s0_10 a1).f0) != 13) = false := bne_eq_false_iff_eq.mpr c30
     clear c30
     (first | rw [c30b0] | (simp only [i64_w, i32_w]; rw [c30b0]) | skip)
     have H' := Aside0.mk H
     clear H
     go_wp2
     go_meet
     case rel => exact ⟨_, ((((rd_T132 s0_10 a1).f0) == 13)), (by first | rfl | (simp; done) | (simp [*]; done)), H', ⟨by first | omega | exact Nat.le_refl _⟩, ⟨by (with_reducible repeat (first | refine blk_drewN ?_ _ | refine blk_drew ?_ | refine blk_alloc ?_ _)); refine blk_far ?_ NB149_160.out _; (with_reducible repeat (first | refine blk_drewN ?_ _ | refine blk_drew ?_ | refine blk_alloc ?_ _)); refine blk_far ?_ NB149_160.out _; (with_reducible repeat (first | refine blk_drewN ?_ _ | refine blk_drew ?_ | refine blk_alloc ?_ _)); refine blk_far ?_ NB149_160.out _; (with_reducible repeat (first | refine blk_drewN ?_ _ | refine blk_drew ?_ | refine blk_alloc ?_ _)); exact BK149.out⟩, ⟨by (with_reducible repeat (first | refine blk_drewN ?_ _ | refine blk_drew ?_ | refine blk_alloc ?_ _)); refine blk_far ?_ NB151_160.out _; (with_reducible repeat (first | refine blk_drewN ?_ _ | refine blk_drew ?_ | refine blk_alloc ?_ _)); refine blk_far ?_ NB151_160.out _; (with_reducible repeat (first | refine blk_drewN ?_ _ | refine blk_drew ?_ | refine blk_alloc ?_ _)); refine blk_far ?_ NB151_160.out _; (with_reducible repeat (first | refine blk_drewN ?_ _ | refine blk_drew ?_ | refine blk_alloc ?_ _)); exact BK151.out⟩, ⟨by (with_reducible repeat (first | refine blk_drewN ?_ _ | refine blk_drew ?_ | refine blk_alloc ?_ _)); refine blk_far ?_ NB159_160.out _; (with_reducible repeat (first | refine blk_drewN ?_ _ | refine blk_drew ?_ | refine blk_alloc ?_ _)); refine blk_far ?_ NB159_160.out _; (with_reducible repeat (first | refine blk_drewN ?_ _ | refine blk_drew ?_ | refine blk_alloc ?_ _)); refine blk_far ?_ NB159_160.out _; (with_reducible repeat (first | refine blk_drewN ?_ _ | refine blk_drew ?_ | refine blk_alloc ?_ _)); exact BK159.out⟩, ⟨by (with_reducible repeat (first | refine blk_drewN ?_ _ | refine blk_drew ?_ | refine blk_alloc ?_ _)); refine blk_put (cs := #[.bool true, .int .i64 (wrap64 ((wrap64 (a2_1 - t152)) + t153)), .int .i64 0]) ?_ 2 _ rfl; (with_reducible repeat (first | refine blk_drewN ?_ _ | refine blk_drew ?_ | refine blk_alloc ?_ _)); refine blk_put (cs := #[.bool true, .int .i64 0, .int .i64 0]) ?_ 1 _ rfl; (with_reducible repeat (first | refine blk_drewN ?_ _ | refine blk_drew ?_ | refine blk_alloc ?_ _)); refine blk_put (cs := #[.bool false, .int .i64 0, .int .i64 0]) ?_ 0 _ rfl; (with_reducible repeat (first | refine blk_drewN ?_ _ | refine blk_drew ?_ | refine blk_alloc ?_ _)); exact BK160.out⟩, ⟨by repeat (first | (with_reducible first | exact HI0.out | apply IsS139.alloc | apply IsS139.drewN | apply IsS139.drew | apply IsS139.set_4 | apply IsS139.set_7 | apply IsS139.set_8 | apply IsS139.set_9 | apply IsS139.set_11 | refine IsS139.far ?_ NB0_149.out _ | refine IsS139.far ?_ NB0_151.out _ | refine IsS139.far ?_ NB0_159.out _ | refine IsS139.far ?_ NB0_160.out _) | exact HI0.out)⟩, ⟨by repeat (first | (with_reducible first | exact HK.out | apply KeepBut.set_ | apply keep_drewN | apply keep_drew | apply keep_alloc | refine keep_far ?_ GW149.out _ | refine keep_far ?_ GW151.out _ | refine keep_far ?_ GW159.out _ | refine keep_far ?_ GW160.out _) | exact HK.out)⟩, ⟨by repeat (first | (with_reducible first | exact HB.out | apply below_alloc | apply pw_below_drewN | apply below_drew1 | refine below_set ?_ (IsS139.ge HI0.out) | refine below_set ?_ GE149.out | refine below_set ?_ GE151.out | refine below_set ?_ GE159.out | refine below_set ?_ GE160.out) | exact HB.out)⟩⟩
    ·rw [if_neg c30] at H
     have c30b0 : (((rd_T132 s0_10 a1).f0) == 13) = false := beq_eq_false_iff_ne.mpr c30
     have c30b1 : (((rd_T132 s0_10 a1).f0) != 13) = true := bne_iff_ne.mpr c30
     (first | rw [c30b0] | (simp only [i64_w, i32_w]; rw [c30b0]) | skip)
     by_cases c31 : ((rd_T132 s0_10 a1).f0) = 10
     ·rw [if_pos c31] at H
      have c31b0 : (((rd_T132 s0_10 a1).f0) == 10) = true := beq_iff_eq.mpr c31
      have c31b1 : (((rd_T132 s0_10 a1).f0) != 10) = false := bne_eq_false_iff_eq.mpr c31
      clear c31
      have H' := Aside0.mk H
      clear H
      go_wp2
      go_meet
      case rel => exact ⟨_, ((((rd_T132 s0_10 a1).f0) == 10)), (by first | rfl | (simp; done) | (simp [*]; done)), H', ⟨by first | omega | exact Nat.le_refl _⟩, ⟨by (with_reducible repeat (first | refine blk_drewN ?_ _ | refine blk_drew ?_ | refine blk_alloc ?_ _)); refine blk_far ?_ NB149_160.out _; (with_reducible repeat (first | refine blk_drewN ?_ _ | refine blk_drew ?_ | refine blk_alloc ?_ _)); refine blk_far ?_ NB149_160.out _; (with_reducible repeat (first | refine blk_drewN ?_ _ | refine blk_drew ?_ | refine blk_alloc ?_ _)); refine blk_far ?_ NB149_160.out _; (with_reducible repeat (first | refine blk_drewN ?_ _ | refine blk_drew ?_ | refine blk_alloc ?_ _)); exact BK149.out⟩, ⟨by (with_reducible repeat (first | refine blk_drewN ?_ _ | refine blk_drew ?_ | refine blk_alloc ?_ _)); refine blk_far ?_ NB151_160.out _; (with_reducible repeat (first | refine blk_drewN ?_ _ | refine blk_drew ?_ | refine blk_alloc ?_ _)); refine blk_far ?_ NB151_160.out _; (with_reducible repeat (first | refine blk_drewN ?_ _ | refine blk_drew ?_ | refine blk_alloc ?_ _)); refine blk_far ?_ NB151_160.out _; (with_reducible repeat (first | refine blk_drewN ?_ _ | refine blk_drew ?_ | refine blk_alloc ?_ _)); exact BK151.out⟩, ⟨by (with_reducible repeat (first | refine blk_drewN ?_ _ | refine blk_drew ?_ | refine blk_alloc ?_ _)); refine blk_far ?_ NB159_160.out _; (with_reducible repeat (first | refine blk_drewN ?_ _ | refine blk_drew ?_ | refine blk_alloc ?_ _)); refine blk_far ?_ NB159_160.out _; (with_reducible repeat (first | refine blk_drewN ?_ _ | refine blk_drew ?_ | refine blk_alloc ?_ _)); refine blk_far ?_ NB159_160.out _; (with_reducible repeat (first | refine blk_drewN ?_ _ | refine blk_drew ?_ | refine blk_alloc ?_ _)); exact BK159.out⟩, ⟨by (with_reducible repeat (first | refine blk_drewN ?_ _ | refine blk_drew ?_ | refine blk_alloc ?_ _)); refine blk_put (cs := #[.bool true, .int .i64 (wrap64 ((wrap64 (a2_1 - t152)) + t153)), .int .i64 0]) ?_ 2 _ rfl; (with_reducible repeat (first | refine blk_drewN ?_ _ | refine blk_drew ?_ | refine blk_alloc ?_ _)); refine blk_put (cs := #[.bool true, .int .i64 0, .int .i64 0]) ?_ 1 _ rfl; (with_reducible repeat (first | refine blk_drewN ?_ _ | refine blk_drew ?_ | refine blk_alloc ?_ _)); refine blk_put (cs := #[.bool false, .int .i64 0, .int .i64 0]) ?_ 0 _ rfl; (with_reducible repeat (first | refine blk_drewN ?_ _ | refine blk_drew ?_ | refine blk_alloc ?_ _)); exact BK160.out⟩, ⟨by repeat (first | (with_reducible first | exact HI0.out | apply IsS139.alloc | apply IsS139.drewN | apply IsS139.drew | apply IsS139.set_4 | apply IsS139.set_7 | apply IsS139.set_8 | apply IsS139.set_9 | apply IsS139.set_11 | refine IsS139.far ?_ NB0_149.out _ | refine IsS139.far ?_ NB0_151.out _ | refine IsS139.far ?_ NB0_159.out _ | refine IsS139.far ?_ NB0_160.out _) | exact HI0.out)⟩, ⟨by repeat (first | (with_reducible first | exact HK.out | apply KeepBut.set_ | apply keep_drewN | apply keep_drew | apply keep_alloc | refine keep_far ?_ GW149.out _ | refine keep_far ?_ GW151.out _ | refine keep_far ?_ GW159.out _ | refine keep_far ?_ GW160.out _) | exact HK.out)⟩, ⟨by repeat (first | (with_reducible first | exact HB.out | apply below_alloc | apply pw_below_drewN | apply below_drew1 | refine below_set ?_ (IsS139.ge HI0.out) | refine below_set ?_ GE149.out | refine below_set ?_ GE151.out | refine below_set ?_ GE159.out | refine below_set ?_ GE160.out) | exact HB.out)⟩⟩
     ·rw [if_neg c31] at H
      have c31b0 : (((rd_T132 s0_10 a1).f0) == 10) = false := beq_eq_false_iff_ne.mpr c31
      have c31b1 : (((rd_T132 s0_10 a1).f0) != 10) = true := bne_iff_ne.mpr c31
      by_cases c32 : ((rd_T132 s0_10 a1).f0) = 12
      ·rw [if_pos c32] at H
       have c32b0 : (((rd_T132 s0_10 a1).f0) == 12) = true := beq_iff_eq.mpr c32
       have c32b1 : (((rd_T132 s0_10 a1).f0) != 12) = false := bne_eq_false_iff_eq.mpr c32
       clear c32
       have H' := Aside0.mk H
       clear H
       go_wp2
       go_meet
       case rel => exact ⟨_, ((((rd_T132 s0_10 a1).f0) == 12)), (by first | rfl | (simp; done) | (simp [*]; done)), H', ⟨by first | omega | exact Nat.le_refl _⟩, ⟨by (with_reducible repeat (first | refine blk_drewN ?_ _ | refine blk_drew ?_ | refine blk_alloc ?_ _)); refine blk_far ?_ NB149_160.out _; (with_reducible repeat (first | refine blk_drewN ?_ _ | refine blk_drew ?_ | refine blk_alloc ?_ _)); refine blk_far ?_ NB149_160.out _; (with_reducible repeat (first | refine blk_drewN ?_ _ | refine blk_drew ?_ | refine blk_alloc ?_ _)); refine blk_far ?_ NB149_160.out _; (with_reducible repeat (first | refine blk_drewN ?_ _ | refine blk_drew ?_ | refine blk_alloc ?_ _)); exact BK149.out⟩, ⟨by (with_reducible repeat (first | refine blk_drewN ?_ _ | refine blk_drew ?_ | refine blk_alloc ?_ _)); refine blk_far ?_ NB151_160.out _; (with_reducible repeat (first | refine blk_drewN ?_ _ | refine blk_drew ?_ | refine blk_alloc ?_ _)); refine blk_far ?_ NB151_160.out _; (with_reducible repeat (first | refine blk_drewN ?_ _ | refine blk_drew ?_ | refine blk_alloc ?_ _)); refine blk_far ?_ NB151_160.out _; (with_reducible repeat (first | refine blk_drewN ?_ _ | refine blk_drew ?_ | refine blk_alloc ?_ _)); exact BK151.out⟩, ⟨by (with_reducible repeat (first | refine blk_drewN ?_ _ | refine blk_drew ?_ | refine blk_alloc ?_ _)); refine blk_far ?_ NB159_160.out _; (with_reducible repeat (first | refine blk_drewN ?_ _ | refine blk_drew ?_ | refine blk_alloc ?_ _)); refine blk_far ?_ NB159_160.out _; (with_reducible repeat (first | refine blk_drewN ?_ _ | refine blk_drew ?_ | refine blk_alloc ?_ _)); refine blk_far ?_ NB159_160.out _; (with_reducible repeat (first | refine blk_drewN ?_ _ | refine blk_drew ?_ | refine blk_alloc ?_ _)); exact BK159.out⟩, ⟨by (with_reducible repeat (first | refine blk_drewN ?_ _ | refine blk_drew ?_ | refine blk_alloc ?_ _)); refine blk_put (cs := #[.bool true, .int .i64 (wrap64 ((wrap64 (a2_1 - t152)) + t153)), .int .i64 0]) ?_ 2 _ rfl; (with_reducible repeat (first | refine blk_drewN ?_ _ | refine blk_drew ?_ | refine blk_alloc ?_ _)); refine blk_put (cs := #[.bool true, .int .i64 0, .int .i64 0]) ?_ 1 _ rfl; (with_reducible repeat (first | refine blk_drewN ?_ _ | refine blk_drew ?_ | refine blk_alloc ?_ _)); refine blk_put (cs := #[.bool false, .int .i64 0, .int .i64 0]) ?_ 0 _ rfl; (with_reducible repeat (first | refine blk_drewN ?_ _ | refine blk_drew ?_ | refine blk_alloc ?_ _)); exact BK160.out⟩, ⟨by repeat (first | (with_reducible first | exact HI0.out | apply IsS139.alloc | apply IsS139.drewN | apply IsS139.drew | apply IsS139.set_4 | apply IsS139.set_7 | apply IsS139.set_8 | apply IsS139.set_9 | apply IsS139.set_11 | refine IsS139.far ?_ NB0_149.out _ | refine IsS139.far ?_ NB0_151.out _ | refine IsS139.far ?_ NB0_159.out _ | refine IsS139.far ?_ NB0_160.out _) | exact HI0.out)⟩, ⟨by repeat (first | (with_reducible first | exact HK.out | apply KeepBut.set_ | apply keep_drewN | apply keep_drew | apply keep_alloc | refine keep_far ?_ GW149.out _ | refine keep_far ?_ GW151.out _ | refine keep_far ?_ GW159.out _ | refine keep_far ?_ GW160.out _) | exact HK.out)⟩, ⟨by repeat (first | (with_reducible first | exact HB.out | apply below_alloc | apply pw_below_drewN | apply below_drew1 | refine below_set ?_ (IsS139.ge HI0.out) | refine below_set ?_ GE149.out | refine below_set ?_ GE151.out | refine below_set ?_ GE159.out | refine below_set ?_ GE160.out) | exact HB.out)⟩⟩
      ·rw [if_neg c32] at H
       have c32b0 : (((rd_T132 s0_10 a1).f0) == 12) = false := beq_eq_false_iff_ne.mpr c32
       have c32b1 : (((rd_T132 s0_10 a1).f0) != 12) = true := bne_iff_ne.mpr c32
       have H' := Aside0.mk H
       clear H
       go_wp2
       go_meet
       case rel => exact ⟨_, ((((rd_T132 s0_10 a1).f0) == 20)), (by first | rfl | (simp; done) | (simp [*]; done)), H', ⟨by first | omega | exact Nat.le_refl _⟩, ⟨by (with_reducible repeat (first | refine blk_drewN ?_ _ | refine blk_drew ?_ | refine blk_alloc ?_ _)); refine blk_far ?_ NB149_160.out _; (with_reducible repeat (first | refine blk_drewN ?_ _ | refine blk_drew ?_ | refine blk_alloc ?_ _)); refine blk_far ?_ NB149_160.out _; (with_reducible repeat (first | refine blk_drewN ?_ _ | refine blk_drew ?_ | refine blk_alloc ?_ _)); refine blk_far ?_ NB149_160.out _; (with_reducible repeat (first | refine blk_drewN ?_ _ | refine blk_drew ?_ | refine blk_alloc ?_ _)); exact BK149.out⟩, ⟨by (with_reducible repeat (first | refine blk_drewN ?_ _ | refine blk_drew ?_ | refine blk_alloc ?_ _)); refine blk_far ?_ NB151_160.out _; (with_reducible repeat (first | refine blk_drewN ?_ _ | refine blk_drew ?_ | refine blk_alloc ?_ _)); refine blk_far ?_ NB151_160.out _; (with_reducible repeat (first | refine blk_drewN ?_ _ | refine blk_drew ?_ | refine blk_alloc ?_ _)); refine blk_far ?_ NB151_160.out _; (with_reducible repeat (first | refine blk_drewN ?_ _ | refine blk_drew ?_ | refine blk_alloc ?_ _)); exact BK151.out⟩, ⟨by (with_reducible repeat (first | refine blk_drewN ?_ _ | refine blk_drew ?_ | refine blk_alloc ?_ _)); refine blk_far ?_ NB159_160.out _; (with_reducible repeat (first | refine blk_drewN ?_ _ | refine blk_drew ?_ | refine blk_alloc ?_ _)); refine blk_far ?_ NB159_160.out _; (with_reducible repeat (first | refine blk_drewN ?_ _ | refine blk_drew ?_ | refine blk_alloc ?_ _)); refine blk_far ?_ NB159_160.out _; (with_reducible repeat (first | refine blk_drewN ?_ _ | refine blk_drew ?_ | refine blk_alloc ?_ _)); exact BK159.out⟩, ⟨by (with_reducible repeat (first | refine blk_drewN ?_ _ | refine blk_drew ?_ | refine blk_alloc ?_ _)); refine blk_put (cs := #[.bool true, .int .i64 (wrap64 ((wrap64 (a2_1 - t152)) + t153)), .int .i64 0]) ?_ 2 _ rfl; (with_reducible repeat (first | refine blk_drewN ?_ _ | refine blk_drew ?_ | refine blk_alloc ?_ _)); refine blk_put (cs := #[.bool true, .int .i64 0, .int .i64 0]) ?_ 1 _ rfl; (with_reducible repeat (first | refine blk_drewN ?_ _ | refine blk_drew ?_ | refine blk_alloc ?_ _)); refine blk_put (cs := #[.bool false, .int .i64 0, .int .i64 0]) ?_ 0 _ rfl; (with_reducible repeat (first | refine blk_drewN ?_ _ | refine blk_drew ?_ | refine blk_alloc ?_ _)); exact BK160.out⟩, ⟨by repeat (first | (with_reducible first | exact HI0.out | apply IsS139.alloc | apply IsS139.drewN | apply IsS139.drew | apply IsS139.set_4 | apply IsS139.set_7 | apply IsS139.set_8 | apply IsS139.set_9 | apply IsS139.set_11 | refine IsS139.far ?_ NB0_149.out _ | refine IsS139.far ?_ NB0_151.out _ | refine IsS139.far ?_ NB0_159.out _ | refine IsS139.far ?_ NB0_160.out _) | exact HI0.out)⟩, ⟨by repeat (first | (with_reducible first | exact HK.out | apply KeepBut.set_ | apply keep_drewN | apply keep_drew | apply keep_alloc | refine keep_far ?_ GW149.out _ | refine keep_far ?_ GW151.out _ | refine keep_far ?_ GW159.out _ | refine keep_far ?_ GW160.out _) | exact HK.out)⟩, ⟨by repeat (first | (with_reducible first | exact HB.out | apply below_alloc | apply pw_below_drewN | apply below_drew1 | refine below_set ?_ (IsS139.ge HI0.out) | refine below_set ?_ GE149.out | refine below_set ?_ GE151.out | refine below_set ?_ GE159.out | refine below_set ?_ GE160.out) | exact HB.out)⟩⟩
   case rest =>
    clear HC7
    try clear c1
    try clear p1
    try clear q1
    try clear hx1
    try clear c2
    try clear p2
    try clear c3
    try clear c4
    try clear c4b0
    try clear c5
    try clear c5b0
    try clear p6
    try clear c8
    try clear c11
    try clear c12
    try clear c13
    try clear c15
    try clear p15
    try clear q15
    try clear hx15
    try clear c18
    try clear c19
    try clear c20
    try clear c24
    try clear c25
    try clear c26
    try clear c27
    try clear c30
    try clear c30b0
    try clear c30b1
    try clear c31
    try clear c31b0
    try clear c31b1
    try clear c32
    try clear c32b0
    try clear c32b1
    try clear hcz13_0
    try clear hcz13_1
    try clear hcz13_2
    try clear hcz16_0
    try clear hcz16_1
    try clear hcz16_2
    try clear hcz21_0
    try clear hcz21_1
    try clear hcz21_2
    try clear hcz22_0
    try clear hcz22_1
    try clear hcz22_2
    try clear hcz28_0
    try clear hcz28_1
    try clear hcz28_2
    try clear hcz29_0
    try clear hcz29_1
    try clear hcz29_2
    try clear hcz9_0
    try clear hcz9_1
    try clear hcz9_10
    try clear hcz9_11
    try clear hcz9_2
    try clear hcz9_3
    try clear hcz9_4
    try clear hcz9_5
    try clear hcz9_6
    try clear hcz9_7
    try clear hcz9_8
    try clear hcz9_9
    try clear hfz13_0
    try clear hfz13_1
    try clear hfz13_2
    try clear hfz16_0
    try clear hfz16_1
    try clear hfz16_2
    try clear hfz21_0
    try clear hfz21_1
    try clear hfz21_2
    try clear hfz22_0
    try clear hfz22_1
    try clear hfz22_2
    try clear hfz28_0
    try clear hfz28_1
    try clear hfz28_2
    try clear hfz29_0
    try clear hfz29_1
    try clear hfz29_2
    try clear hfz9_11
    try clear hfz9_4
    try clear hfz9_7
    try clear hfz9_8
    try clear hfz9_9
    try clear hx150_0
    try clear hx150_1
    try clear hx150_2
    try clear p150
    try clear q150
    obtain ⟨kq, x42_6, rfl, HA, HJ6, BK149, BK151, BK159, BK160, HI0, HK, HB⟩ := hcut
    cases kq with
    | zero => exact absurd HA.out (by simp [code_checker_ways.j0])
    | succ kj6 =>
     have H := HA.out
     clear HA
     simp only [code_checker_ways.j0] at H
     by_cases c33 : x42_6 = true
     ·subst c33
      have H1 : (some (([] : List (S214)), t154, t155, t156, t157, t158)) = some (r1, r2, r3, r4, r5, r6) := by rw [if_pos rfl] at H; exact H
      clear H
      have H := H1
      clear H1
      simp only [Option.some.injEq, Prod.mk.injEq] at H
      obtain ⟨rfl, rfl, rfl, rfl, rfl, rfl⟩ := H
      go_wp2
      go_ret
      exact ⟨_, by first | rfl | (simp [errW_none, errW_some] <;> rfl) | (simp [*, errW_none, errW_some] <;> rfl), by first | exact Kd.R_nil _ _ _ _ _ | exact Kd.N_nil _ _ _ _ _ | exact Kd.V_nil _ _ _ _ _ | exact Kd.Q_nil _ _ _ _ _ | exact Kd.S_nil _ _ _ _ _, by repeat (first | (with_reducible first | exact HI0.out | apply IsS139.alloc | apply IsS139.drewN | apply IsS139.drew | apply IsS139.set_4 | apply IsS139.set_7 | apply IsS139.set_8 | apply IsS139.set_9 | apply IsS139.set_11 | refine IsS139.far ?_ NB0_149.out _ | refine IsS139.far ?_ NB0_151.out _ | refine IsS139.far ?_ NB0_159.out _ | refine IsS139.far ?_ NB0_160.out _) | exact HI0.out), by repeat (first | (with_reducible first | exact HB.out | apply below_alloc | apply pw_below_drewN | apply below_drew1 | refine below_set ?_ (IsS139.ge HI0.out) | refine below_set ?_ GE149.out | refine below_set ?_ GE151.out | refine below_set ?_ GE159.out | refine below_set ?_ GE160.out) | exact HB.out), by repeat (first | (with_reducible first | exact HK.out | apply KeepBut.set_ | apply keep_drewN | apply keep_drew | apply keep_alloc | refine keep_far ?_ GW149.out _ | refine keep_far ?_ GW151.out _ | refine keep_far ?_ GW159.out _ | refine keep_far ?_ GW160.out _) | exact HK.out)⟩
     ·replace c33 := Bool.eq_false_iff.mpr c33
      subst c33
      have H1 : (if ((rd_T132 s0_10 a1).f0) = 14 then (code_checker_ways.j1 kj6 a1 ((rd_T132 s0_10 a1).f0) (((rd_T132 s0_10 a1).f0) == 14) s0_0 s0_1 s0_2 s0_3 t154 s0_5 s0_6 t155 t156 t157 s0_10 t158 ((rd_T132 s0_10 a1).f0) ((rd_T132 s0_10 a1).f1) ((rd_T132 s0_10 a1).f2) true (wrap64 (a2_1 - t152)) a2_2 true (wrap64 ((wrap64 (a2_1 - t152)) + t153)) a2_2) else (code_checker_ways.j1 kj6 a1 ((rd_T132 s0_10 a1).f0) (((rd_T132 s0_10 a1).f0) == 27) s0_0 s0_1 s0_2 s0_3 t154 s0_5 s0_6 t155 t156 t157 s0_10 t158 ((rd_T132 s0_10 a1).f0) ((rd_T132 s0_10 a1).f1) ((rd_T132 s0_10 a1).f2) true (wrap64 (a2_1 - t152)) a2_2 true (wrap64 ((wrap64 (a2_1 - t152)) + t153)) a2_2)) = some (r1, r2, r3, r4, r5, r6) := by rw [if_neg (show ¬ (false = true) by decide)] at H; exact H
      clear H
      have H := H1
      clear H1
      have HC34 := Aside0.mk H
      clear H
      go_upto_if 47 with (fail)
      go_cut [47] (fun v47 wc => ∃ (kq : Nat) (x47_33 : Bool), v47 = .bool x47_33 ∧ Aside0 (code_checker_ways.j1 kq a1 ((rd_T132 s0_10 a1).f0) x47_33 s0_0 s0_1 s0_2 s0_3 t154 s0_5 s0_6 t155 t156 t157 s0_10 t158 ((rd_T132 s0_10 a1).f0) ((rd_T132 s0_10 a1).f1) ((rd_T132 s0_10 a1).f2) true (wrap64 (a2_1 - t152)) a2_2 true (wrap64 ((wrap64 (a2_1 - t152)) + t153)) a2_2 = some (r1, r2, r3, r4, r5, r6)) ∧ Aside0 (kq ≤ kj6) ∧ Aside0 (wc.heap[gb149]? = some (.cells #[.bool a2_0, .int .i64 a2_1, .int .i64 a2_2] 144 (0, 0))) ∧ Aside0 (wc.heap[gb151]? = some (.cells #[.int .i64 ((rd_T132 s0_10 a1).f0), .int .i64 ((rd_T132 s0_10 a1).f1), .int .i64 ((rd_T132 s0_10 a1).f2)] 132 (0, 0))) ∧ Aside0 (wc.heap[gb159]? = some (.cells #[.bool true, .int .i64 (wrap64 (a2_1 - t152)), .int .i64 a2_2] 144 (0, 0))) ∧ Aside0 (wc.heap[gb160]? = some (.cells #[.bool true, .int .i64 (wrap64 ((wrap64 (a2_1 - t152)) + t153)), .int .i64 a2_2] 144 (0, 0))) ∧ Aside0 (IsS139 w0 wc g s0_0 s0_1 s0_2 s0_3 t154 s0_5 s0_6 t155 t156 t157 s0_10 t158) ∧ Aside0 (KeepBut w wc g none) ∧ Aside0 (Below w0.heap.size w0 wc))
      case first =>
       have H := HC34.out
       clear HC34
       by_cases c35 : ((rd_T132 s0_10 a1).f0) = 14
       ·rw [if_pos c35] at H
        have c35b0 : (((rd_T132 s0_10 a1).f0) == 14) = true := beq_iff_eq.mpr c35
        have c35b1 : (((rd_T132 s0_10 a1).f0) != 14) = false := bne_eq_false_iff_eq.mpr c35
        clear c35
        (first | rw [c35b0] | (simp only [i64_w, i32_w]; rw [c35b0]) | skip)
        have H' := Aside0.mk H
        clear H
        go_wp2
        go_meet
        case rel => exact ⟨_, ((((rd_T132 s0_10 a1).f0) == 14)), (by first | rfl | (simp; done) | (simp [*]; done)), H', ⟨by have := HJ6.out; first | omega | exact Nat.le_refl _⟩, ⟨by (with_reducible repeat (first | refine blk_drewN ?_ _ | refine blk_drew ?_ | refine blk_alloc ?_ _)); exact BK149.out⟩, ⟨by (with_reducible repeat (first | refine blk_drewN ?_ _ | refine blk_drew ?_ | refine blk_alloc ?_ _)); exact BK151.out⟩, ⟨by (with_reducible repeat (first | refine blk_drewN ?_ _ | refine blk_drew ?_ | refine blk_alloc ?_ _)); exact BK159.out⟩, ⟨by (with_reducible repeat (first | refine blk_drewN ?_ _ | refine blk_drew ?_ | refine blk_alloc ?_ _)); exact BK160.out⟩, ⟨by repeat (first | (with_reducible first | exact HI0.out | apply IsS139.alloc | apply IsS139.drewN | apply IsS139.drew | apply IsS139.set_4 | apply IsS139.set_7 | apply IsS139.set_8 | apply IsS139.set_9 | apply IsS139.set_11 | refine IsS139.far ?_ NB0_149.out _ | refine IsS139.far ?_ NB0_151.out _ | refine IsS139.far ?_ NB0_159.out _ | refine IsS139.far ?_ NB0_160.out _) | exact HI0.out)⟩, ⟨by repeat (first | (with_reducible first | exact HK.out | apply KeepBut.set_ | apply keep_drewN | apply keep_drew | apply keep_alloc | refine keep_far ?_ GW149.out _ | refine keep_far ?_ GW151.out _ | refine keep_far ?_ GW159.out _ | refine keep_far ?_ GW160.out _) | exact HK.out)⟩, ⟨by repeat (first | (with_reducible first | exact HB.out | apply below_alloc | apply pw_below_drewN | apply below_drew1 | refine below_set ?_ (IsS139.ge HI0.out) | refine below_set ?_ GE149.out | refine below_set ?_ GE151.out | refine below_set ?_ GE159.out | refine below_set ?_ GE160.out) | exact HB.out)⟩⟩
       ·rw [if_neg c35] at H
        have c35b0 : (((rd_T132 s0_10 a1).f0) == 14) = false := beq_eq_false_iff_ne.mpr c35
        have c35b1 : (((rd_T132 s0_10 a1).f0) != 14) = true := bne_iff_ne.mpr c35
        (first | rw [c35b0] | (simp only [i64_w, i32_w]; rw [c35b0]) | skip)
        have H' := Aside0.mk H
        clear H
        go_wp2
        go_meet
        case rel => exact ⟨_, ((((rd_T132 s0_10 a1).f0) == 27)), (by first | rfl | (simp; done) | (simp [*]; done)), H', ⟨by have := HJ6.out; first | omega | exact Nat.le_refl _⟩, ⟨by (with_reducible repeat (first | refine blk_drewN ?_ _ | refine blk_drew ?_ | refine blk_alloc ?_ _)); exact BK149.out⟩, ⟨by (with_reducible repeat (first | refine blk_drewN ?_ _ | refine blk_drew ?_ | refine blk_alloc ?_ _)); exact BK151.out⟩, ⟨by (with_reducible repeat (first | refine blk_drewN ?_ _ | refine blk_drew ?_ | refine blk_alloc ?_ _)); exact BK159.out⟩, ⟨by (with_reducible repeat (first | refine blk_drewN ?_ _ | refine blk_drew ?_ | refine blk_alloc ?_ _)); exact BK160.out⟩, ⟨by repeat (first | (with_reducible first | exact HI0.out | apply IsS139.alloc | apply IsS139.drewN | apply IsS139.drew | apply IsS139.set_4 | apply IsS139.set_7 | apply IsS139.set_8 | apply IsS139.set_9 | apply IsS139.set_11 | refine IsS139.far ?_ NB0_149.out _ | refine IsS139.far ?_ NB0_151.out _ | refine IsS139.far ?_ NB0_159.out _ | refine IsS139.far ?_ NB0_160.out _) | exact HI0.out)⟩, ⟨by repeat (first | (with_reducible first | exact HK.out | apply KeepBut.set_ | apply keep_drewN | apply keep_drew | apply keep_alloc | refine keep_far ?_ GW149.out _ | refine keep_far ?_ GW151.out _ | refine keep_far ?_ GW159.out _ | refine keep_far ?_ GW160.out _) | exact HK.out)⟩, ⟨by repeat (first | (with_reducible first | exact HB.out | apply below_alloc | apply pw_below_drewN | apply below_drew1 | refine below_set ?_ (IsS139.ge HI0.out) | refine below_set ?_ GE149.out | refine below_set ?_ GE151.out | refine below_set ?_ GE159.out | refine below_set ?_ GE160.out) | exact HB.out)⟩⟩
      case rest =>
       clear HC34
       try clear c1
       try clear p1
       try clear q1
       try clear hx1
       try clear c2
       try clear p2
       try clear c3
       try clear c4
       try clear c4b0
       try clear c5
       try clear c5b0
       try clear p6
       try clear c8
       try clear c11
       try clear c12
       try clear c13
       try clear c15
       try clear p15
       try clear q15
       try clear hx15
       try clear c18
       try clear c19
       try clear c20
       try clear c24
       try clear c25
       try clear c26
       try clear c27
       try clear c30
       try clear c30b0
       try clear c30b1
       try clear c31
       try clear c31b0
       try clear c31b1
       try clear c32
       try clear c32b0
       try clear c32b1
       try clear c33
       try clear c35
       try clear c35b0
       try clear c35b1
       try clear hcz13_0
       try clear hcz13_1
       try clear hcz13_2
       try clear hcz16_0
       try clear hcz16_1
       try clear hcz16_2
       try clear hcz21_0
       try clear hcz21_1
       try clear hcz21_2
       try clear hcz22_0
       try clear hcz22_1
       try clear hcz22_2
       try clear hcz28_0
       try clear hcz28_1
       try clear hcz28_2
       try clear hcz29_0
       try clear hcz29_1
       try clear hcz29_2
       try clear hcz9_0
       try clear hcz9_1
       try clear hcz9_10
       try clear hcz9_11
       try clear hcz9_2
       try clear hcz9_3
       try clear hcz9_4
       try clear hcz9_5
       try clear hcz9_6
       try clear hcz9_7
       try clear hcz9_8
       try clear hcz9_9
       try clear hfz13_0
       try clear hfz13_1
       try clear hfz13_2
       try clear hfz16_0
       try clear hfz16_1
       try clear hfz16_2
       try clear hfz21_0
       try clear hfz21_1
       try clear hfz21_2
       try clear hfz22_0
       try clear hfz22_1
       try clear hfz22_2
       try clear hfz28_0
       try clear hfz28_1
       try clear hfz28_2
       try clear hfz29_0
       try clear hfz29_1
       try clear hfz29_2
       try clear hfz9_11
       try clear hfz9_4
       try clear hfz9_7
       try clear hfz9_8
       try clear hfz9_9
       try clear hx150_0
       try clear hx150_1
       try clear hx150_2
       try clear p1
       try clear p15
       try clear p150
       try clear p2
       try clear p6
       try clear q1
       try clear q15
       try clear q150
       obtain ⟨kq, x47_33, rfl, HA, HJ33, BK149, BK151, BK159, BK160, HI0, HK, HB⟩ := hcut
       cases kq with
       | zero => exact absurd HA.out (by simp [code_checker_ways.j1])
       | succ kj33 =>
        have H := HA.out
        clear HA
        simp only [code_checker_ways.j1] at H
        by_cases c36 : x47_33 = true
        ·subst c36
         have H1 : (some ((([(⟨((rd_T132 s0_10 a1).f1), (⟨true, (wrap64 ((wrap64 (a2_1 - t152)) + t153)), a2_2⟩ : S144)⟩ : S214)] : List (S214))), t154, t155, t156, t157, t158)) = some (r1, r2, r3, r4, r5, r6) := by rw [if_pos rfl] at H; exact H
         clear H
         have H := H1
         clear H1
         obtain ⟨y161, hy161⟩ : ∃ y_ : List (S214), y_ = (([(⟨((rd_T132 s0_10 a1).f1), (⟨true, (wrap64 ((wrap64 (a2_1 - t152)) + t153)), a2_2⟩ : S144)⟩ : S214)] : List (S214))) := ⟨_, rfl⟩
         replace H : (some (y161, t154, t155, t156, t157, t158)) = some (r1, r2, r3, r4, r5, r6) := by first | (rw [hy161]; with_reducible exact H) | (have H2_ := (Option.bind_some _ _).symm.trans H; rw [hy161]; with_reducible exact H2_) | (have H2_ := (Option.bind_some _ _).symm.trans H; with_reducible exact H2_) | with_reducible exact H | (rw [hy161]; exact H) | exact H
         have Ny161 := Aside0.mk hy161
         clear hy161
         simp only [Option.some.injEq, Prod.mk.injEq] at H
         obtain ⟨rfl, rfl, rfl, rfl, rfl, rfl⟩ := H
         have hnb37 := NB151_149.out
         have hnc37 := NB149_151.out
         have hnb38 := NB151_159.out
         have hnc38 := NB159_151.out
         have hnb39 := NB151_160.out
         have hnc39 := NB160_151.out
         have hnb40 := NB151_0.out
         have hnc40 := NB0_151.out
         have hcz41_0 : wc.cell? ⟨gb151, 0, none⟩ = some (.int .i64 ((rd_T132 s0_10 a1).f0)) := (blk_cell BK151.out 0).trans rfl
         have hcz41_1 : wc.cell? ⟨gb151, 1, none⟩ = some (.int .i64 ((rd_T132 s0_10 a1).f1)) := (blk_cell BK151.out 1).trans rfl
         have hcz41_2 : wc.cell? ⟨gb151, 2, none⟩ = some (.int .i64 ((rd_T132 s0_10 a1).f2)) := (blk_cell BK151.out 2).trans rfl
         have hfz41_0 := blk_frozen BK151.out 0
         have hfz41_1 := blk_frozen BK151.out 1
         have hfz41_2 := blk_frozen BK151.out 2
         have hnb42 := NB160_149.out
         have hnc42 := NB149_160.out
         have hnb43 := NB160_159.out
         have hnc43 := NB159_160.out
         have hnb44 := NB160_0.out
         have hnc44 := NB0_160.out
         have hcz45_0 : wc.cell? ⟨gb160, 0, none⟩ = some (.bool true) := (blk_cell BK160.out 0).trans rfl
         have hcz45_1 : wc.cell? ⟨gb160, 1, none⟩ = some (.int .i64 (wrap64 ((wrap64 (a2_1 - t152)) + t153))) := (blk_cell BK160.out 1).trans rfl
         have hcz45_2 : wc.cell? ⟨gb160, 2, none⟩ = some (.int .i64 a2_2) := (blk_cell BK160.out 2).trans rfl
         have hfz45_0 := blk_frozen BK160.out 0
         have hfz45_1 := blk_frozen BK160.out 1
         have hfz45_2 := blk_frozen BK160.out 2
         go_wp2_with (first | ((with_reducible refine gate_dst (N := 69) rfl ?_); refine Kd.R_lit k214 _ 214 ?hg (N := 69) ?hd (xs := ([(⟨((rd_T132 s0_10 a1).f1), (⟨true, (wrap64 ((wrap64 (a2_1 - t152)) + t153)), a2_2⟩ : S144)⟩ : S214)] : List (S214))) (inner := [.int .i64 ((rd_T132 s0_10 a1).f1), .bool true, .int .i64 (wrap64 ((wrap64 (a2_1 - t152)) + t153)), .int .i64 a2_2]) (ok := fun _ => True) (okp := fun _ => True) ?hr ?hp (fun _ hk => hk) trivial (Below.refl _ _) (Nat.le_refl _) (by simp) ?_; (case hd => rfl); (case hg => rfl); (case hr => first | (go_simp; done) | (go_simp; rfl)); (case hp => exact (Reps.c4 (show Kd.M k214 _ _ _ (⟨((rd_T132 s0_10 a1).f1), (⟨true, (wrap64 ((wrap64 (a2_1 - t152)) + t153)), a2_2⟩ : S144)⟩ : S214) [.int .i64 ((rd_T132 s0_10 a1).f1), .bool true, .int .i64 (wrap64 ((wrap64 (a2_1 - t152)) + t153)), .int .i64 a2_2] from (k214_mkM _ _ _ (⟨((rd_T132 s0_10 a1).f1), (⟨true, (wrap64 ((wrap64 (a2_1 - t152)) + t153)), a2_2⟩ : S144)⟩ : S214) )) (Reps.none _ _))); intro v162 w46 ho47 hb hg_ hnew_; clear hg_ hnew_; (first | rw [← Ny161.out] at ho47 | (simp only [Int.reduceToNat] at ho47; rw [← Ny161.out] at ho47)); have n0_ := Aside0.mk (Kd.R_lower ho47 (keep_size (w := w) (g := g) (row := none) (by repeat (first | (with_reducible first | exact HK.out | apply KeepBut.set_ | apply keep_drewN | apply keep_drew | apply keep_alloc | refine keep_far ?_ GW149.out _ | refine keep_far ?_ GW151.out _ | refine keep_far ?_ GW159.out _ | refine keep_far ?_ GW160.out _) | exact HK.out)))); have n1_ := Aside0.mk (blk_below (g := gb149) (o := .cells #[.bool a2_0, .int .i64 a2_1, .int .i64 a2_2] 144 (0, 0)) (by (with_reducible repeat (first | refine blk_drewN ?_ _ | refine blk_drew ?_ | refine blk_alloc ?_ _)); exact BK149.out) hb); have n2_ := Aside0.mk (blk_below (g := gb151) (o := .cells #[.int .i64 ((rd_T132 s0_10 a1).f0), .int .i64 ((rd_T132 s0_10 a1).f1), .int .i64 ((rd_T132 s0_10 a1).f2)] 132 (0, 0)) (by (with_reducible repeat (first | refine blk_drewN ?_ _ | refine blk_drew ?_ | refine blk_alloc ?_ _)); exact BK151.out) hb); have n3_ := Aside0.mk (blk_below (g := gb159) (o := .cells #[.bool true, .int .i64 (wrap64 (a2_1 - t152)), .int .i64 a2_2] 144 (0, 0)) (by (with_reducible repeat (first | refine blk_drewN ?_ _ | refine blk_drew ?_ | refine blk_alloc ?_ _)); exact BK159.out) hb); have n4_ := Aside0.mk (blk_below (g := gb160) (o := .cells #[.bool true, .int .i64 (wrap64 ((wrap64 (a2_1 - t152)) + t153)), .int .i64 a2_2] 144 (0, 0)) (by (with_reducible repeat (first | refine blk_drewN ?_ _ | refine blk_drew ?_ | refine blk_alloc ?_ _)); exact BK160.out) hb); have n5_ := Aside0.mk (IsS139.below (by repeat (first | (with_reducible first | exact HI0.out | apply IsS139.alloc | apply IsS139.drewN | apply IsS139.drew | apply IsS139.set_4 | apply IsS139.set_7 | apply IsS139.set_8 | apply IsS139.set_9 | apply IsS139.set_11 | refine IsS139.far ?_ NB0_149.out _ | refine IsS139.far ?_ NB0_151.out _ | refine IsS139.far ?_ NB0_159.out _ | refine IsS139.far ?_ NB0_160.out _) | exact HI0.out)) hb); have n6_ := Aside0.mk (KeepBut.trans (by repeat (first | (with_reducible first | exact HK.out | apply KeepBut.set_ | apply keep_drewN | apply keep_drew | apply keep_alloc | refine keep_far ?_ GW149.out _ | refine keep_far ?_ GW151.out _ | refine keep_far ?_ GW159.out _ | refine keep_far ?_ GW160.out _) | exact HK.out)) (KeepBut.of_below hb g none) (.inl rfl)); have n7_ := Aside0.mk (below_step (by repeat (first | (with_reducible first | exact HB.out | apply below_alloc | apply pw_below_drewN | apply below_drew1 | refine below_set ?_ (IsS139.ge HI0.out) | refine below_set ?_ GE149.out | refine below_set ?_ GE151.out | refine below_set ?_ GE159.out | refine below_set ?_ GE160.out) | exact HB.out)) hb); clear BK149; clear BK151; clear BK159; clear BK160; clear HI0; clear HK; clear HB; have HO163 := n0_; have BK149 := n1_; have BK151 := n2_; have BK159 := n3_; have BK160 := n4_; have HI0 := n5_; have HK := n6_; have HB := n7_; clear n0_ n1_ n2_ n3_ n4_ n5_ n6_ n7_; clear hb ho47))
         go_ret
         exact ⟨_, by first | rfl | (simp [errW_none, errW_some] <;> rfl) | (simp [*, errW_none, errW_some] <;> rfl), by (with_reducible repeat (first | apply Kd.R_alloc | apply Kd.R_drewN | apply Kd.R_drew)); exact HO163.out, by repeat (first | (with_reducible first | exact HI0.out | apply IsS139.alloc | apply IsS139.drewN | apply IsS139.drew | apply IsS139.set_4 | apply IsS139.set_7 | apply IsS139.set_8 | apply IsS139.set_9 | apply IsS139.set_11 | refine IsS139.far ?_ NB0_149.out _ | refine IsS139.far ?_ NB0_151.out _ | refine IsS139.far ?_ NB0_159.out _ | refine IsS139.far ?_ NB0_160.out _) | exact HI0.out), by repeat (first | (with_reducible first | exact HB.out | apply below_alloc | apply pw_below_drewN | apply below_drew1 | refine below_set ?_ (IsS139.ge HI0.out) | refine below_set ?_ GE149.out | refine below_set ?_ GE151.out | refine below_set ?_ GE159.out | refine below_set ?_ GE160.out) | exact HB.out), by repeat (first | (with_reducible first | exact HK.out | apply KeepBut.set_ | apply keep_drewN | apply keep_drew | apply keep_alloc | refine keep_far ?_ GW149.out _ | refine keep_far ?_ GW151.out _ | refine keep_far ?_ GW159.out _ | refine keep_far ?_ GW160.out _) | exact HK.out)⟩
        ·replace c36 := Bool.eq_false_iff.mpr c36
         subst c36
         have H1 : (if ((rd_T132 s0_10 a1).f0) = 15 then (code_checker_ways.j2 kj33 a1 ((rd_T132 s0_10 a1).f0) (((rd_T132 s0_10 a1).f0) == 15) s0_0 s0_1 s0_2 s0_3 t154 s0_5 s0_6 t155 t156 t157 s0_10 t158 ((rd_T132 s0_10 a1).f0) ((rd_T132 s0_10 a1).f1) ((rd_T132 s0_10 a1).f2) true (wrap64 (a2_1 - t152)) a2_2 true (wrap64 ((wrap64 (a2_1 - t152)) + t153)) a2_2) else (if ((rd_T132 s0_10 a1).f0) = 18 then (code_checker_ways.j2 kj33 a1 ((rd_T132 s0_10 a1).f0) (((rd_T132 s0_10 a1).f0) == 18) s0_0 s0_1 s0_2 s0_3 t154 s0_5 s0_6 t155 t156 t157 s0_10 t158 ((rd_T132 s0_10 a1).f0) ((rd_T132 s0_10 a1).f1) ((rd_T132 s0_10 a1).f2) true (wrap64 (a2_1 - t152)) a2_2 true (wrap64 ((wrap64 (a2_1 - t152)) + t153)) a2_2) else (if ((rd_T132 s0_10 a1).f0) = 19 then (code_checker_ways.j2 kj33 a1 ((rd_T132 s0_10 a1).f0) (((rd_T132 s0_10 a1).f0) == 19) s0_0 s0_1 s0_2 s0_3 t154 s0_5 s0_6 t155 t156 t157 s0_10 t158 ((rd_T132 s0_10 a1).f0) ((rd_T132 s0_10 a1).f1) ((rd_T132 s0_10 a1).f2) true (wrap64 (a2_1 - t152)) a2_2 true (wrap64 ((wrap64 (a2_1 - t152)) + t153)) a2_2) else (if ((rd_T132 s0_10 a1).f0) = 26 then (code_checker_ways.j2 kj33 a1 ((rd_T132 s0_10 a1).f0) (((rd_T132 s0_10 a1).f0) == 26) s0_0 s0_1 s0_2 s0_3 t154 s0_5 s0_6 t155 t156 t157 s0_10 t158 ((rd_T132 s0_10 a1).f0) ((rd_T132 s0_10 a1).f1) ((rd_T132 s0_10 a1).f2) true (wrap64 (a2_1 - t152)) a2_2 true (wrap64 ((wrap64 (a2_1 - t152)) + t153)) a2_2) else (code_checker_ways.j2 kj33 a1 ((rd_T132 s0_10 a1).f0) (((rd_T132 s0_10 a1).f0) == 29) s0_0 s0_1 s0_2 s0_3 t154 s0_5 s0_6 t155 t156 t157 s0_10 t158 ((rd_T132 s0_10 a1).f0) ((rd_T132 s0_10 a1).f1) ((rd_T132 s0_10 a1).f2) true (wrap64 (a2_1 - t152)) a2_2 true (wrap64 ((wrap64 (a2_1 - t152)) + t153)) a2_2))))) = some (r1, r2, r3, r4, r5, r6) := by rw [if_neg (show ¬ (false = true) by decide)] at H; exact H
         clear H
         have H := H1
         clear H1
         have HC48 := Aside0.mk H
         clear H
         go_upto_if 50 with (fail)
         go_cut [50] (fun v50 wc => ∃ (kq : Nat) (x50_47 : Bool), v50 = .bool x50_47 ∧ Aside0 (code_checker_ways.j2 kq a1 ((rd_T132 s0_10 a1).f0) x50_47 s0_0 s0_1 s0_2 s0_3 t154 s0_5 s0_6 t155 t156 t157 s0_10 t158 ((rd_T132 s0_10 a1).f0) ((rd_T132 s0_10 a1).f1) ((rd_T132 s0_10 a1).f2) true (wrap64 (a2_1 - t152)) a2_2 true (wrap64 ((wrap64 (a2_1 - t152)) + t153)) a2_2 = some (r1, r2, r3, r4, r5, r6)) ∧ Aside0 (kq ≤ kj33) ∧ Aside0 (wc.heap[gb149]? = some (.cells #[.bool a2_0, .int .i64 a2_1, .int .i64 a2_2] 144 (0, 0))) ∧ Aside0 (wc.heap[gb151]? = some (.cells #[.int .i64 ((rd_T132 s0_10 a1).f0), .int .i64 ((rd_T132 s0_10 a1).f1), .int .i64 ((rd_T132 s0_10 a1).f2)] 132 (0, 0))) ∧ Aside0 (wc.heap[gb159]? = some (.cells #[.bool true, .int .i64 (wrap64 (a2_1 - t152)), .int .i64 a2_2] 144 (0, 0))) ∧ Aside0 (wc.heap[gb160]? = some (.cells #[.bool true, .int .i64 (wrap64 ((wrap64 (a2_1 - t152)) + t153)), .int .i64 a2_2] 144 (0, 0))) ∧ Aside0 (IsS139 w0 wc g s0_0 s0_1 s0_2 s0_3 t154 s0_5 s0_6 t155 t156 t157 s0_10 t158) ∧ Aside0 (KeepBut w wc g none) ∧ Aside0 (Below w0.heap.size w0 wc))
         case first =>
          have H := HC48.out
          clear HC48
          by_cases c49 : ((rd_T132 s0_10 a1).f0) = 15
          ·rw [if_pos c49] at H
           have c49b0 : (((rd_T132 s0_10 a1).f0) == 15) = true := beq_iff_eq.mpr c49
           have c49b1 : (((rd_T132 s0_10 a1).f0) != 15) = false := bne_eq_false_iff_eq.mpr c49
           clear c49
           (first | rw [c49b0] | (simp only [i64_w, i32_w]; rw [c49b0]) | skip)
           have H' := Aside0.mk H
           clear H
           go_wp2
           go_meet
           case rel => exact ⟨_, ((((rd_T132 s0_10 a1).f0) == 15)), (by first | rfl | (simp; done) | (simp [*]; done)), H', ⟨by have := HJ6.out; have := HJ33.out; first | omega | exact Nat.le_refl _⟩, ⟨by (with_reducible repeat (first | refine blk_drewN ?_ _ | refine blk_drew ?_ | refine blk_alloc ?_ _)); exact BK149.out⟩, ⟨by (with_reducible repeat (first | refine blk_drewN ?_ _ | refine blk_drew ?_ | refine blk_alloc ?_ _)); exact BK151.out⟩, ⟨by (with_reducible repeat (first | refine blk_drewN ?_ _ | refine blk_drew ?_ | refine blk_alloc ?_ _)); exact BK159.out⟩, ⟨by (with_reducible repeat (first | refine blk_drewN ?_ _ | refine blk_drew ?_ | refine blk_alloc ?_ _)); exact BK160.out⟩, ⟨by repeat (first | (with_reducible first | exact HI0.out | apply IsS139.alloc | apply IsS139.drewN | apply IsS139.drew | apply IsS139.set_4 | apply IsS139.set_7 | apply IsS139.set_8 | apply IsS139.set_9 | apply IsS139.set_11 | refine IsS139.far ?_ NB0_149.out _ | refine IsS139.far ?_ NB0_151.out _ | refine IsS139.far ?_ NB0_159.out _ | refine IsS139.far ?_ NB0_160.out _) | exact HI0.out)⟩, ⟨by repeat (first | (with_reducible first | exact HK.out | apply KeepBut.set_ | apply keep_drewN | apply keep_drew | apply keep_alloc | refine keep_far ?_ GW149.out _ | refine keep_far ?_ GW151.out _ | refine keep_far ?_ GW159.out _ | refine keep_far ?_ GW160.out _) | exact HK.out)⟩, ⟨by repeat (first | (with_reducible first | exact HB.out | apply below_alloc | apply pw_below_drewN | apply below_drew1 | refine below_set ?_ (IsS139.ge HI0.out) | refine below_set ?_ GE149.out | refine below_set ?_ GE151.out | refine below_set ?_ GE159.out | refine below_set ?_ GE160.out) | exact HB.out)⟩⟩
          ·rw [if_neg c49] at H
           have c49b0 : (((rd_T132 s0_10 a1).f0) == 15) = false := beq_eq_false_iff_ne.mpr c49
           have c49b1 : (((rd_T132 s0_10 a1).f0) != 15) = true := bne_iff_ne.mpr c49
           (first | rw [c49b0] | (simp only [i64_w, i32_w]; rw [c49b0]) | skip)
           by_cases c50 : ((rd_T132 s0_10 a1).f0) = 18
           ·rw [if_pos c50] at H
            have c50b0 : (((rd_T132 s0_10 a1).f0) == 18) = true := beq_iff_eq.mpr c50
            have c50b1 : (((rd_T132 s0_10 a1).f0) != 18) = false := bne_eq_false_iff_eq.mpr c50
            clear c50
            have H' := Aside0.mk H
            clear H
            go_wp2
            go_meet
            case rel => exact ⟨_, ((((rd_T132 s0_10 a1).f0) == 18)), (by first | rfl | (simp; done) | (simp [*]; done)), H', ⟨by have := HJ6.out; have := HJ33.out; first | omega | exact Nat.le_refl _⟩, ⟨by (with_reducible repeat (first | refine blk_drewN ?_ _ | refine blk_drew ?_ | refine blk_alloc ?_ _)); exact BK149.out⟩, ⟨by (with_reducible repeat (first | refine blk_drewN ?_ _ | refine blk_drew ?_ | refine blk_alloc ?_ _)); exact BK151.out⟩, ⟨by (with_reducible repeat (first | refine blk_drewN ?_ _ | refine blk_drew ?_ | refine blk_alloc ?_ _)); exact BK159.out⟩, ⟨by (with_reducible repeat (first | refine blk_drewN ?_ _ | refine blk_drew ?_ | refine blk_alloc ?_ _)); exact BK160.out⟩, ⟨by repeat (first | (with_reducible first | exact HI0.out | apply IsS139.alloc | apply IsS139.drewN | apply IsS139.drew | apply IsS139.set_4 | apply IsS139.set_7 | apply IsS139.set_8 | apply IsS139.set_9 | apply IsS139.set_11 | refine IsS139.far ?_ NB0_149.out _ | refine IsS139.far ?_ NB0_151.out _ | refine IsS139.far ?_ NB0_159.out _ | refine IsS139.far ?_ NB0_160.out _) | exact HI0.out)⟩, ⟨by repeat (first | (with_reducible first | exact HK.out | apply KeepBut.set_ | apply keep_drewN | apply keep_drew | apply keep_alloc | refine keep_far ?_ GW149.out _ | refine keep_far ?_ GW151.out _ | refine keep_far ?_ GW159.out _ | refine keep_far ?_ GW160.out _) | exact HK.out)⟩, ⟨by repeat (first | (with_reducible first | exact HB.out | apply below_alloc | apply pw_below_drewN | apply below_drew1 | refine below_set ?_ (IsS139.ge HI0.out) | refine below_set ?_ GE149.out | refine below_set ?_ GE151.out | refine below_set ?_ GE159.out | refine below_set ?_ GE160.out) | exact HB.out)⟩⟩
           ·rw [if_neg c50] at H
            have c50b0 : (((rd_T132 s0_10 a1).f0) == 18) = false := beq_eq_false_iff_ne.mpr c50
            have c50b1 : (((rd_T132 s0_10 a1).f0) != 18) = true := bne_iff_ne.mpr c50
            by_cases c51 : ((rd_T132 s0_10 a1).f0) = 19
            ·rw [if_pos c51] at H
             have c51b0 : (((rd_T132 s0_10 a1).f0) == 19) = true := beq_iff_eq.mpr c51
             have c51b1 : (((rd_T132 s0_10 a1).f0) != 19) = false := bne_eq_false_iff_eq.mpr c51
             clear c51
             have H' := Aside0.mk H
             clear H
             go_wp2
             go_meet
             case rel => exact ⟨_, ((((rd_T132 s0_10 a1).f0) == 19)), (by first | rfl | (simp; done) | (simp [*]; done)), H', ⟨by have := HJ6.out; have := HJ33.out; first | omega | exact Nat.le_refl _⟩, ⟨by (with_reducible repeat (first | refine blk_drewN ?_ _ | refine blk_drew ?_ | refine blk_alloc ?_ _)); exact BK149.out⟩, ⟨by (with_reducible repeat (first | refine blk_drewN ?_ _ | refine blk_drew ?_ | refine blk_alloc ?_ _)); exact BK151.out⟩, ⟨by (with_reducible repeat (first | refine blk_drewN ?_ _ | refine blk_drew ?_ | refine blk_alloc ?_ _)); exact BK159.out⟩, ⟨by (with_reducible repeat (first | refine blk_drewN ?_ _ | refine blk_drew ?_ | refine blk_alloc ?_ _)); exact BK160.out⟩, ⟨by repeat (first | (with_reducible first | exact HI0.out | apply IsS139.alloc | apply IsS139.drewN | apply IsS139.drew | apply IsS139.set_4 | apply IsS139.set_7 | apply IsS139.set_8 | apply IsS139.set_9 | apply IsS139.set_11 | refine IsS139.far ?_ NB0_149.out _ | refine IsS139.far ?_ NB0_151.out _ | refine IsS139.far ?_ NB0_159.out _ | refine IsS139.far ?_ NB0_160.out _) | exact HI0.out)⟩, ⟨by repeat (first | (with_reducible first | exact HK.out | apply KeepBut.set_ | apply keep_drewN | apply keep_drew | apply keep_alloc | refine keep_far ?_ GW149.out _ | refine keep_far ?_ GW151.out _ | refine keep_far ?_ GW159.out _ | refine keep_far ?_ GW160.out _) | exact HK.out)⟩, ⟨by repeat (first | (with_reducible first | exact HB.out | apply below_alloc | apply pw_below_drewN | apply below_drew1 | refine below_set ?_ (IsS139.ge HI0.out) | refine below_set ?_ GE149.out | refine below_set ?_ GE151.out | refine below_set ?_ GE159.out | refine below_set ?_ GE160.out) | exact HB.out)⟩⟩
            ·rw [if_neg c51] at H
             have c51b0 : (((rd_T132 s0_10 a1).f0) == 19) = false := beq_eq_false_iff_ne.mpr c51
             have c51b1 : (((rd_T132 s0_10 a1).f0) != 19) = true := bne_iff_ne.mpr c51
             by_cases c52 : ((rd_T132 s0_10 a1).f0) = 26
             ·rw [if_pos c52] at H
              have c52b0 : (((rd_T132 s0_10 a1).f0) == 26) = true := beq_iff_eq.mpr c52
              have c52b1 : (((rd_T132 s0_10 a1).f0) != 26) = false := bne_eq_false_iff_eq.mpr c52
              clear c52
              have H' := Aside0.mk H
              clear H
              go_wp2
              go_meet
              case rel => exact ⟨_, ((((rd_T132 s0_10 a1).f0) == 26)), (by first | rfl | (simp; done) | (simp [*]; done)), H', ⟨by have := HJ6.out; have := HJ33.out; first | omega | exact Nat.le_refl _⟩, ⟨by (with_reducible repeat (first | refine blk_drewN ?_ _ | refine blk_drew ?_ | refine blk_alloc ?_ _)); exact BK149.out⟩, ⟨by (with_reducible repeat (first | refine blk_drewN ?_ _ | refine blk_drew ?_ | refine blk_alloc ?_ _)); exact BK151.out⟩, ⟨by (with_reducible repeat (first | refine blk_drewN ?_ _ | refine blk_drew ?_ | refine blk_alloc ?_ _)); exact BK159.out⟩, ⟨by (with_reducible repeat (first | refine blk_drewN ?_ _ | refine blk_drew ?_ | refine blk_alloc ?_ _)); exact BK160.out⟩, ⟨by repeat (first | (with_reducible first | exact HI0.out | apply IsS139.alloc | apply IsS139.drewN | apply IsS139.drew | apply IsS139.set_4 | apply IsS139.set_7 | apply IsS139.set_8 | apply IsS139.set_9 | apply IsS139.set_11 | refine IsS139.far ?_ NB0_149.out _ | refine IsS139.far ?_ NB0_151.out _ | refine IsS139.far ?_ NB0_159.out _ | refine IsS139.far ?_ NB0_160.out _) | exact HI0.out)⟩, ⟨by repeat (first | (with_reducible first | exact HK.out | apply KeepBut.set_ | apply keep_drewN | apply keep_drew | apply keep_alloc | refine keep_far ?_ GW149.out _ | refine keep_far ?_ GW151.out _ | refine keep_far ?_ GW159.out _ | refine keep_far ?_ GW160.out _) | exact HK.out)⟩, ⟨by repeat (first | (with_reducible first | exact HB.out | apply below_alloc | apply pw_below_drewN | apply below_drew1 | refine below_set ?_ (IsS139.ge HI0.out) | refine below_set ?_ GE149.out | refine below_set ?_ GE151.out | refine below_set ?_ GE159.out | refine below_set ?_ GE160.out) | exact HB.out)⟩⟩
             ·rw [if_neg c52] at H
              have c52b0 : (((rd_T132 s0_10 a1).f0) == 26) = false := beq_eq_false_iff_ne.mpr c52
              have c52b1 : (((rd_T132 s0_10 a1).f0) != 26) = true := bne_iff_ne.mpr c52
              have H' := Aside0.mk H
              clear H
              go_wp2
              go_meet
              case rel => exact ⟨_, ((((rd_T132 s0_10 a1).f0) == 29)), (by first | rfl | (simp; done) | (simp [*]; done)), H', ⟨by have := HJ6.out; have := HJ33.out; first | omega | exact Nat.le_refl _⟩, ⟨by (with_reducible repeat (first | refine blk_drewN ?_ _ | refine blk_drew ?_ | refine blk_alloc ?_ _)); exact BK149.out⟩, ⟨by (with_reducible repeat (first | refine blk_drewN ?_ _ | refine blk_drew ?_ | refine blk_alloc ?_ _)); exact BK151.out⟩, ⟨by (with_reducible repeat (first | refine blk_drewN ?_ _ | refine blk_drew ?_ | refine blk_alloc ?_ _)); exact BK159.out⟩, ⟨by (with_reducible repeat (first | refine blk_drewN ?_ _ | refine blk_drew ?_ | refine blk_alloc ?_ _)); exact BK160.out⟩, ⟨by repeat (first | (with_reducible first | exact HI0.out | apply IsS139.alloc | apply IsS139.drewN | apply IsS139.drew | apply IsS139.set_4 | apply IsS139.set_7 | apply IsS139.set_8 | apply IsS139.set_9 | apply IsS139.set_11 | refine IsS139.far ?_ NB0_149.out _ | refine IsS139.far ?_ NB0_151.out _ | refine IsS139.far ?_ NB0_159.out _ | refine IsS139.far ?_ NB0_160.out _) | exact HI0.out)⟩, ⟨by repeat (first | (with_reducible first | exact HK.out | apply KeepBut.set_ | apply keep_drewN | apply keep_drew | apply keep_alloc | refine keep_far ?_ GW149.out _ | refine keep_far ?_ GW151.out _ | refine keep_far ?_ GW159.out _ | refine keep_far ?_ GW160.out _) | exact HK.out)⟩, ⟨by repeat (first | (with_reducible first | exact HB.out | apply below_alloc | apply pw_below_drewN | apply below_drew1 | refine below_set ?_ (IsS139.ge HI0.out) | refine below_set ?_ GE149.out | refine below_set ?_ GE151.out | refine below_set ?_ GE159.out | refine below_set ?_ GE160.out) | exact HB.out)⟩⟩
         case rest =>
          clear HC48
          try clear c1
          try clear p1
          try clear q1
          try clear hx1
          try clear c2
          try clear p2
          try clear c3
          try clear c4
          try clear c4b0
          try clear c5
          try clear c5b0
          try clear p6
          try clear c8
          try clear c11
          try clear c12
          try clear c13
          try clear c15
          try clear p15
          try clear q15
          try clear hx15
          try clear c18
          try clear c19
          try clear c20
          try clear c24
          try clear c25
          try clear c26
          try clear c27
          try clear c30
          try clear c30b0
          try clear c30b1
          try clear c31
          try clear c31b0
          try clear c31b1
          try clear c32
          try clear c32b0
          try clear c32b1
          try clear c33
          try clear c35
          try clear c35b0
          try clear c35b1
          try clear c36
          try clear c37
          try clear c38
          try clear c39
          try clear c40
          try clear c42
          try clear c43
          try clear c44
          try clear c49
          try clear c49b0
          try clear c49b1
          try clear c50
          try clear c50b0
          try clear c50b1
          try clear c51
          try clear c51b0
          try clear c51b1
          try clear c52
          try clear c52b0
          try clear c52b1
          try clear hcz13_0
          try clear hcz13_1
          try clear hcz13_2
          try clear hcz16_0
          try clear hcz16_1
          try clear hcz16_2
          try clear hcz21_0
          try clear hcz21_1
          try clear hcz21_2
          try clear hcz22_0
          try clear hcz22_1
          try clear hcz22_2
          try clear hcz28_0
          try clear hcz28_1
          try clear hcz28_2
          try clear hcz29_0
          try clear hcz29_1
          try clear hcz29_2
          try clear hcz41_0
          try clear hcz41_1
          try clear hcz41_2
          try clear hcz45_0
          try clear hcz45_1
          try clear hcz45_2
          try clear hcz9_0
          try clear hcz9_1
          try clear hcz9_10
          try clear hcz9_11
          try clear hcz9_2
          try clear hcz9_3
          try clear hcz9_4
          try clear hcz9_5
          try clear hcz9_6
          try clear hcz9_7
          try clear hcz9_8
          try clear hcz9_9
          try clear hfz13_0
          try clear hfz13_1
          try clear hfz13_2
          try clear hfz16_0
          try clear hfz16_1
          try clear hfz16_2
          try clear hfz21_0
          try clear hfz21_1
          try clear hfz21_2
          try clear hfz22_0
          try clear hfz22_1
          try clear hfz22_2
          try clear hfz28_0
          try clear hfz28_1
          try clear hfz28_2
          try clear hfz29_0
          try clear hfz29_1
          try clear hfz29_2
          try clear hfz41_0
          try clear hfz41_1
          try clear hfz41_2
          try clear hfz45_0
          try clear hfz45_1
          try clear hfz45_2
          try clear hfz9_11
          try clear hfz9_4
          try clear hfz9_7
          try clear hfz9_8
          try clear hfz9_9
          try clear hx150_0
          try clear hx150_1
          try clear hx150_2
          try clear p1
          try clear p15
          try clear p150
          try clear p2
          try clear p6
          try clear q1
          try clear q15
          try clear q150
          obtain ⟨kq, x50_47, rfl, HA, HJ47, BK149, BK151, BK159, BK160, HI0, HK, HB⟩ := hcut
          cases kq with
          | zero => exact absurd HA.out (by simp [code_checker_ways.j2])
          | succ kj47 =>
           have H := HA.out
           clear HA
           simp only [code_checker_ways.j2] at H
           by_cases c53 : x50_47 = true
           ·subst c53
            have H1 : (some ((([(⟨wrap64 (a1 + 1), (⟨true, (wrap64 ((wrap64 (a2_1 - t152)) + t153)), a2_2⟩ : S144)⟩ : S214), (⟨((rd_T132 s0_10 a1).f1), (⟨true, (wrap64 (a2_1 - t152)), a2_2⟩ : S144)⟩ : S214)] : List (S214))), t154, t155, t156, t157, t158)) = some (r1, r2, r3, r4, r5, r6) := by rw [if_pos rfl] at H; exact H
            clear H
            have H := H1
            clear H1
            obtain ⟨y164, hy164⟩ : ∃ y_ : List (S214), y_ = (([(⟨wrap64 (a1 + 1), (⟨true, (wrap64 ((wrap64 (a2_1 - t152)) + t153)), a2_2⟩ : S144)⟩ : S214), (⟨((rd_T132 s0_10 a1).f1), (⟨true, (wrap64 (a2_1 - t152)), a2_2⟩ : S144)⟩ : S214)] : List (S214))) := ⟨_, rfl⟩
            replace H : (some (y164, t154, t155, t156, t157, t158)) = some (r1, r2, r3, r4, r5, r6) := by first | (rw [hy164]; with_reducible exact H) | (have H2_ := (Option.bind_some _ _).symm.trans H; rw [hy164]; with_reducible exact H2_) | (have H2_ := (Option.bind_some _ _).symm.trans H; with_reducible exact H2_) | with_reducible exact H | (rw [hy164]; exact H) | exact H
            have Ny164 := Aside0.mk hy164
            clear hy164
            simp only [Option.some.injEq, Prod.mk.injEq] at H
            obtain ⟨rfl, rfl, rfl, rfl, rfl, rfl⟩ := H
            have hnb54 := NB160_149.out
            have hnc54 := NB149_160.out
            have hnb55 := NB160_151.out
            have hnc55 := NB151_160.out
            have hnb56 := NB160_159.out
            have hnc56 := NB159_160.out
            have hnb57 := NB160_0.out
            have hnc57 := NB0_160.out
            have hcz58_0 : wc.cell? ⟨gb160, 0, none⟩ = some (.bool true) := (blk_cell BK160.out 0).trans rfl
            have hcz58_1 : wc.cell? ⟨gb160, 1, none⟩ = some (.int .i64 (wrap64 ((wrap64 (a2_1 - t152)) + t153))) := (blk_cell BK160.out 1).trans rfl
            have hcz58_2 : wc.cell? ⟨gb160, 2, none⟩ = some (.int .i64 a2_2) := (blk_cell BK160.out 2).trans rfl
            have hfz58_0 := blk_frozen BK160.out 0
            have hfz58_1 := blk_frozen BK160.out 1
            have hfz58_2 := blk_frozen BK160.out 2
            have hnb59 := NB151_149.out
            have hnc59 := NB149_151.out
            have hnb60 := NB151_159.out
            have hnc60 := NB159_151.out
            have hnb61 := NB151_0.out
            have hnc61 := NB0_151.out
            have hcz62_0 : wc.cell? ⟨gb151, 0, none⟩ = some (.int .i64 ((rd_T132 s0_10 a1).f0)) := (blk_cell BK151.out 0).trans rfl
            have hcz62_1 : wc.cell? ⟨gb151, 1, none⟩ = some (.int .i64 ((rd_T132 s0_10 a1).f1)) := (blk_cell BK151.out 1).trans rfl
            have hcz62_2 : wc.cell? ⟨gb151, 2, none⟩ = some (.int .i64 ((rd_T132 s0_10 a1).f2)) := (blk_cell BK151.out 2).trans rfl
            have hfz62_0 := blk_frozen BK151.out 0
            have hfz62_1 := blk_frozen BK151.out 1
            have hfz62_2 := blk_frozen BK151.out 2
            have hnb63 := NB159_149.out
            have hnc63 := NB149_159.out
            have hnb64 := NB159_0.out
            have hnc64 := NB0_159.out
            have hcz65_0 : wc.cell? ⟨gb159, 0, none⟩ = some (.bool true) := (blk_cell BK159.out 0).trans rfl
            have hcz65_1 : wc.cell? ⟨gb159, 1, none⟩ = some (.int .i64 (wrap64 (a2_1 - t152))) := (blk_cell BK159.out 1).trans rfl
            have hcz65_2 : wc.cell? ⟨gb159, 2, none⟩ = some (.int .i64 a2_2) := (blk_cell BK159.out 2).trans rfl
            have hfz65_0 := blk_frozen BK159.out 0
            have hfz65_1 := blk_frozen BK159.out 1
            have hfz65_2 := blk_frozen BK159.out 2
            go_wp2_with (first | ((with_reducible refine gate_dst (N := 78) rfl ?_); refine Kd.R_lit k214 _ 214 ?hg (N := 78) ?hd (xs := ([(⟨wrap64 (a1 + 1), (⟨true, (wrap64 ((wrap64 (a2_1 - t152)) + t153)), a2_2⟩ : S144)⟩ : S214), (⟨((rd_T132 s0_10 a1).f1), (⟨true, (wrap64 (a2_1 - t152)), a2_2⟩ : S144)⟩ : S214)] : List (S214))) (inner := [.int .i64 (wrap64 (a1 + 1)), .bool true, .int .i64 (wrap64 ((wrap64 (a2_1 - t152)) + t153)), .int .i64 a2_2, .int .i64 ((rd_T132 s0_10 a1).f1), .bool true, .int .i64 (wrap64 (a2_1 - t152)), .int .i64 a2_2]) (ok := fun _ => True) (okp := fun _ => True) ?hr ?hp (fun _ hk => hk) trivial (Below.refl _ _) (Nat.le_refl _) (by simp) ?_; (case hd => rfl); (case hg => rfl); (case hr => first | (go_simp; done) | (go_simp; rfl)); (case hp => exact (Reps.c4 (show Kd.M k214 _ _ _ (⟨wrap64 (a1 + 1), (⟨true, (wrap64 ((wrap64 (a2_1 - t152)) + t153)), a2_2⟩ : S144)⟩ : S214) [.int .i64 (wrap64 (a1 + 1)), .bool true, .int .i64 (wrap64 ((wrap64 (a2_1 - t152)) + t153)), .int .i64 a2_2] from (k214_mkM _ _ _ (⟨wrap64 (a1 + 1), (⟨true, (wrap64 ((wrap64 (a2_1 - t152)) + t153)), a2_2⟩ : S144)⟩ : S214) )) (Reps.c4 (show Kd.M k214 _ _ _ (⟨((rd_T132 s0_10 a1).f1), (⟨true, (wrap64 (a2_1 - t152)), a2_2⟩ : S144)⟩ : S214) [.int .i64 ((rd_T132 s0_10 a1).f1), .bool true, .int .i64 (wrap64 (a2_1 - t152)), .int .i64 a2_2] from (k214_mkM _ _ _ (⟨((rd_T132 s0_10 a1).f1), (⟨true, (wrap64 (a2_1 - t152)), a2_2⟩ : S144)⟩ : S214) )) (Reps.none _ _)))); intro v165 w66 ho67 hb hg_ hnew_; clear hg_ hnew_; (first | rw [← Ny164.out] at ho67 | (simp only [Int.reduceToNat] at ho67; rw [← Ny164.out] at ho67)); have n0_ := Aside0.mk (Kd.R_lower ho67 (keep_size (w := w) (g := g) (row := none) (by repeat (first | (with_reducible first | exact HK.out | apply KeepBut.set_ | apply keep_drewN | apply keep_drew | apply keep_alloc | refine keep_far ?_ GW149.out _ | refine keep_far ?_ GW151.out _ | refine keep_far ?_ GW159.out _ | refine keep_far ?_ GW160.out _) | exact HK.out)))); have n1_ := Aside0.mk (blk_below (g := gb149) (o := .cells #[.bool a2_0, .int .i64 a2_1, .int .i64 a2_2] 144 (0, 0)) (by (with_reducible repeat (first | refine blk_drewN ?_ _ | refine blk_drew ?_ | refine blk_alloc ?_ _)); exact BK149.out) hb); have n2_ := Aside0.mk (blk_below (g := gb151) (o := .cells #[.int .i64 ((rd_T132 s0_10 a1).f0), .int .i64 ((rd_T132 s0_10 a1).f1), .int .i64 ((rd_T132 s0_10 a1).f2)] 132 (0, 0)) (by (with_reducible repeat (first | refine blk_drewN ?_ _ | refine blk_drew ?_ | refine blk_alloc ?_ _)); exact BK151.out) hb); have n3_ := Aside0.mk (blk_below (g := gb159) (o := .cells #[.bool true, .int .i64 (wrap64 (a2_1 - t152)), .int .i64 a2_2] 144 (0, 0)) (by (with_reducible repeat (first | refine blk_drewN ?_ _ | refine blk_drew ?_ | refine blk_alloc ?_ _)); exact BK159.out) hb); have n4_ := Aside0.mk (blk_below (g := gb160) (o := .cells #[.bool true, .int .i64 (wrap64 ((wrap64 (a2_1 - t152)) + t153)), .int .i64 a2_2] 144 (0, 0)) (by (with_reducible repeat (first | refine blk_drewN ?_ _ | refine blk_drew ?_ | refine blk_alloc ?_ _)); exact BK160.out) hb); have n5_ := Aside0.mk (IsS139.below (by repeat (first | (with_reducible first | exact HI0.out | apply IsS139.alloc | apply IsS139.drewN | apply IsS139.drew | apply IsS139.set_4 | apply IsS139.set_7 | apply IsS139.set_8 | apply IsS139.set_9 | apply IsS139.set_11 | refine IsS139.far ?_ NB0_149.out _ | refine IsS139.far ?_ NB0_151.out _ | refine IsS139.far ?_ NB0_159.out _ | refine IsS139.far ?_ NB0_160.out _) | exact HI0.out)) hb); have n6_ := Aside0.mk (KeepBut.trans (by repeat (first | (with_reducible first | exact HK.out | apply KeepBut.set_ | apply keep_drewN | apply keep_drew | apply keep_alloc | refine keep_far ?_ GW149.out _ | refine keep_far ?_ GW151.out _ | refine keep_far ?_ GW159.out _ | refine keep_far ?_ GW160.out _) | exact HK.out)) (KeepBut.of_below hb g none) (.inl rfl)); have n7_ := Aside0.mk (below_step (by repeat (first | (with_reducible first | exact HB.out | apply below_alloc | apply pw_below_drewN | apply below_drew1 | refine below_set ?_ (IsS139.ge HI0.out) | refine below_set ?_ GE149.out | refine below_set ?_ GE151.out | refine below_set ?_ GE159.out | refine below_set ?_ GE160.out) | exact HB.out)) hb); clear BK149; clear BK151; clear BK159; clear BK160; clear HI0; clear HK; clear HB; have HO166 := n0_; have BK149 := n1_; have BK151 := n2_; have BK159 := n3_; have BK160 := n4_; have HI0 := n5_; have HK := n6_; have HB := n7_; clear n0_ n1_ n2_ n3_ n4_ n5_ n6_ n7_; clear hb ho67))
            go_ret
            exact ⟨_, by first | rfl | (simp [errW_none, errW_some] <;> rfl) | (simp [*, errW_none, errW_some] <;> rfl), by (with_reducible repeat (first | apply Kd.R_alloc | apply Kd.R_drewN | apply Kd.R_drew)); exact HO166.out, by repeat (first | (with_reducible first | exact HI0.out | apply IsS139.alloc | apply IsS139.drewN | apply IsS139.drew | apply IsS139.set_4 | apply IsS139.set_7 | apply IsS139.set_8 | apply IsS139.set_9 | apply IsS139.set_11 | refine IsS139.far ?_ NB0_149.out _ | refine IsS139.far ?_ NB0_151.out _ | refine IsS139.far ?_ NB0_159.out _ | refine IsS139.far ?_ NB0_160.out _) | exact HI0.out), by repeat (first | (with_reducible first | exact HB.out | apply below_alloc | apply pw_below_drewN | apply below_drew1 | refine below_set ?_ (IsS139.ge HI0.out) | refine below_set ?_ GE149.out | refine below_set ?_ GE151.out | refine below_set ?_ GE159.out | refine below_set ?_ GE160.out) | exact HB.out), by repeat (first | (with_reducible first | exact HK.out | apply KeepBut.set_ | apply keep_drewN | apply keep_drew | apply keep_alloc | refine keep_far ?_ GW149.out _ | refine keep_far ?_ GW151.out _ | refine keep_far ?_ GW159.out _ | refine keep_far ?_ GW160.out _) | exact HK.out)⟩
           ·replace c53 := Bool.eq_false_iff.mpr c53
            subst c53
            have H1 : (if ((rd_T132 s0_10 a1).f0) = 16 then (code_checker_ways.j3 kj47 a1 ((rd_T132 s0_10 a1).f0) (((rd_T132 s0_10 a1).f0) == 16) s0_0 s0_1 s0_2 s0_3 t154 s0_5 s0_6 t155 t156 t157 s0_10 t158 ((rd_T132 s0_10 a1).f0) ((rd_T132 s0_10 a1).f1) ((rd_T132 s0_10 a1).f2) true (wrap64 (a2_1 - t152)) a2_2 true (wrap64 ((wrap64 (a2_1 - t152)) + t153)) a2_2) else (code_checker_ways.j3 kj47 a1 ((rd_T132 s0_10 a1).f0) (((rd_T132 s0_10 a1).f0) == 17) s0_0 s0_1 s0_2 s0_3 t154 s0_5 s0_6 t155 t156 t157 s0_10 t158 ((rd_T132 s0_10 a1).f0) ((rd_T132 s0_10 a1).f1) ((rd_T132 s0_10 a1).f2) true (wrap64 (a2_1 - t152)) a2_2 true (wrap64 ((wrap64 (a2_1 - t152)) + t153)) a2_2)) = some (r1, r2, r3, r4, r5, r6) := by rw [if_neg (show ¬ (false = true) by decide)] at H; exact H
            clear H
            have H := H1
            clear H1
            have HC68 := Aside0.mk H
            clear H
            go_upto_if 56 with (fail)
            go_cut [56] (fun v56 wc => ∃ (kq : Nat) (x56_67 : Bool), v56 = .bool x56_67 ∧ Aside0 (code_checker_ways.j3 kq a1 ((rd_T132 s0_10 a1).f0) x56_67 s0_0 s0_1 s0_2 s0_3 t154 s0_5 s0_6 t155 t156 t157 s0_10 t158 ((rd_T132 s0_10 a1).f0) ((rd_T132 s0_10 a1).f1) ((rd_T132 s0_10 a1).f2) true (wrap64 (a2_1 - t152)) a2_2 true (wrap64 ((wrap64 (a2_1 - t152)) + t153)) a2_2 = some (r1, r2, r3, r4, r5, r6)) ∧ Aside0 (kq ≤ kj47) ∧ Aside0 (wc.heap[gb149]? = some (.cells #[.bool a2_0, .int .i64 a2_1, .int .i64 a2_2] 144 (0, 0))) ∧ Aside0 (wc.heap[gb151]? = some (.cells #[.int .i64 ((rd_T132 s0_10 a1).f0), .int .i64 ((rd_T132 s0_10 a1).f1), .int .i64 ((rd_T132 s0_10 a1).f2)] 132 (0, 0))) ∧ Aside0 (wc.heap[gb159]? = some (.cells #[.bool true, .int .i64 (wrap64 (a2_1 - t152)), .int .i64 a2_2] 144 (0, 0))) ∧ Aside0 (wc.heap[gb160]? = some (.cells #[.bool true, .int .i64 (wrap64 ((wrap64 (a2_1 - t152)) + t153)), .int .i64 a2_2] 144 (0, 0))) ∧ Aside0 (IsS139 w0 wc g s0_0 s0_1 s0_2 s0_3 t154 s0_5 s0_6 t155 t156 t157 s0_10 t158) ∧ Aside0 (KeepBut w wc g none) ∧ Aside0 (Below w0.heap.size w0 wc))
            case first =>
             have H := HC68.out
             clear HC68
             by_cases c69 : ((rd_T132 s0_10 a1).f0) = 16
             ·rw [if_pos c69] at H
              have c69b0 : (((rd_T132 s0_10 a1).f0) == 16) = true := beq_iff_eq.mpr c69
              have c69b1 : (((rd_T132 s0_10 a1).f0) != 16) = false := bne_eq_false_iff_eq.mpr c69
              clear c69
              (first | rw [c69b0] | (simp only [i64_w, i32_w]; rw [c69b0]) | skip)
              have H' := Aside0.mk H
              clear H
              go_wp2
              go_meet
              case rel => exact ⟨_, ((((rd_T132 s0_10 a1).f0) == 16)), (by first | rfl | (simp; done) | (simp [*]; done)), H', ⟨by have := HJ6.out; have := HJ33.out; have := HJ47.out; first | omega | exact Nat.le_refl _⟩, ⟨by (with_reducible repeat (first | refine blk_drewN ?_ _ | refine blk_drew ?_ | refine blk_alloc ?_ _)); exact BK149.out⟩, ⟨by (with_reducible repeat (first | refine blk_drewN ?_ _ | refine blk_drew ?_ | refine blk_alloc ?_ _)); exact BK151.out⟩, ⟨by (with_reducible repeat (first | refine blk_drewN ?_ _ | refine blk_drew ?_ | refine blk_alloc ?_ _)); exact BK159.out⟩, ⟨by (with_reducible repeat (first | refine blk_drewN ?_ _ | refine blk_drew ?_ | refine blk_alloc ?_ _)); exact BK160.out⟩, ⟨by repeat (first | (with_reducible first | exact HI0.out | apply IsS139.alloc | apply IsS139.drewN | apply IsS139.drew | apply IsS139.set_4 | apply IsS139.set_7 | apply IsS139.set_8 | apply IsS139.set_9 | apply IsS139.set_11 | refine IsS139.far ?_ NB0_149.out _ | refine IsS139.far ?_ NB0_151.out _ | refine IsS139.far ?_ NB0_159.out _ | refine IsS139.far ?_ NB0_160.out _) | exact HI0.out)⟩, ⟨by repeat (first | (with_reducible first | exact HK.out | apply KeepBut.set_ | apply keep_drewN | apply keep_drew | apply keep_alloc | refine keep_far ?_ GW149.out _ | refine keep_far ?_ GW151.out _ | refine keep_far ?_ GW159.out _ | refine keep_far ?_ GW160.out _) | exact HK.out)⟩, ⟨by repeat (first | (with_reducible first | exact HB.out | apply below_alloc | apply pw_below_drewN | apply below_drew1 | refine below_set ?_ (IsS139.ge HI0.out) | refine below_set ?_ GE149.out | refine below_set ?_ GE151.out | refine below_set ?_ GE159.out | refine below_set ?_ GE160.out) | exact HB.out)⟩⟩
             ·rw [if_neg c69] at H
              have c69b0 : (((rd_T132 s0_10 a1).f0) == 16) = false := beq_eq_false_iff_ne.mpr c69
              have c69b1 : (((rd_T132 s0_10 a1).f0) != 16) = true := bne_iff_ne.mpr c69
              (first | rw [c69b0] | (simp only [i64_w, i32_w]; rw [c69b0]) | skip)
              have H' := Aside0.mk H
              clear H
              go_wp2
              go_meet
              case rel => exact ⟨_, ((((rd_T132 s0_10 a1).f0) == 17)), (by first | rfl | (simp; done) | (simp [*]; done)), H', ⟨by have := HJ6.out; have := HJ33.out; have := HJ47.out; first | omega | exact Nat.le_refl _⟩, ⟨by (with_reducible repeat (first | refine blk_drewN ?_ _ | refine blk_drew ?_ | refine blk_alloc ?_ _)); exact BK149.out⟩, ⟨by (with_reducible repeat (first | refine blk_drewN ?_ _ | refine blk_drew ?_ | refine blk_alloc ?_ _)); exact BK151.out⟩, ⟨by (with_reducible repeat (first | refine blk_drewN ?_ _ | refine blk_drew ?_ | refine blk_alloc ?_ _)); exact BK159.out⟩, ⟨by (with_reducible repeat (first | refine blk_drewN ?_ _ | refine blk_drew ?_ | refine blk_alloc ?_ _)); exact BK160.out⟩, ⟨by repeat (first | (with_reducible first | exact HI0.out | apply IsS139.alloc | apply IsS139.drewN | apply IsS139.drew | apply IsS139.set_4 | apply IsS139.set_7 | apply IsS139.set_8 | apply IsS139.set_9 | apply IsS139.set_11 | refine IsS139.far ?_ NB0_149.out _ | refine IsS139.far ?_ NB0_151.out _ | refine IsS139.far ?_ NB0_159.out _ | refine IsS139.far ?_ NB0_160.out _) | exact HI0.out)⟩, ⟨by repeat (first | (with_reducible first | exact HK.out | apply KeepBut.set_ | apply keep_drewN | apply keep_drew | apply keep_alloc | refine keep_far ?_ GW149.out _ | refine keep_far ?_ GW151.out _ | refine keep_far ?_ GW159.out _ | refine keep_far ?_ GW160.out _) | exact HK.out)⟩, ⟨by repeat (first | (with_reducible first | exact HB.out | apply below_alloc | apply pw_below_drewN | apply below_drew1 | refine below_set ?_ (IsS139.ge HI0.out) | refine below_set ?_ GE149.out | refine below_set ?_ GE151.out | refine below_set ?_ GE159.out | refine below_set ?_ GE160.out) | exact HB.out)⟩⟩
            case rest =>
             clear HC68
             try clear c1
             try clear p1
             try clear q1
             try clear hx1
             try clear c2
             try clear p2
             try clear c3
             try clear c4
             try clear c4b0
             try clear c5
             try clear c5b0
             try clear c6
             try clear p6
             try clear c8
             try clear c11
             try clear c12
             try clear c13
             try clear c15
             try clear p15
             try clear q15
             try clear hx15
             try clear c18
             try clear c19
             try clear c20
             try clear c24
             try clear c25
             try clear c26
             try clear c27
             try clear c30
             try clear c30b0
             try clear c30b1
             try clear c31
             try clear c31b0
             try clear c31b1
             try clear c32
             try clear c32b0
             try clear c32b1
             try clear c33
             try clear c35
             try clear c35b0
             try clear c35b1
             try clear c36
             try clear c37
             try clear c38
             try clear c39
             try clear c40
             try clear c42
             try clear c43
             try clear c44
             try clear c49
             try clear c49b0
             try clear c49b1
             try clear c50
             try clear c50b0
             try clear c50b1
             try clear c51
             try clear c51b0
             try clear c51b1
             try clear c52
             try clear c52b0
             try clear c52b1
             try clear c53
             try clear c54
             try clear c55
             try clear c56
             try clear c57
             try clear c59
             try clear c60
             try clear c61
             try clear c63
             try clear c64
             try clear p64
             try clear c69
             try clear c69b0
             try clear c69b1
             try clear hcz13_0
             try clear hcz13_1
             try clear hcz13_2
             try clear hcz16_0
             try clear hcz16_1
             try clear hcz16_2
             try clear hcz21_0
             try clear hcz21_1
             try clear hcz21_2
             try clear hcz22_0
             try clear hcz22_1
             try clear hcz22_2
             try clear hcz28_0
             try clear hcz28_1
             try clear hcz28_2
             try clear hcz29_0
             try clear hcz29_1
             try clear hcz29_2
             try clear hcz41_0
             try clear hcz41_1
             try clear hcz41_2
             try clear hcz45_0
             try clear hcz45_1
             try clear hcz45_2
             try clear hcz58_0
             try clear hcz58_1
             try clear hcz58_2
             try clear hcz62_0
             try clear hcz62_1
             try clear hcz62_2
             try clear hcz65_0
             try clear hcz65_1
             try clear hcz65_2
             try clear hcz9_0
             try clear hcz9_1
             try clear hcz9_10
             try clear hcz9_11
             try clear hcz9_2
             try clear hcz9_3
             try clear hcz9_4
             try clear hcz9_5
             try clear hcz9_6
             try clear hcz9_7
             try clear hcz9_8
             try clear hcz9_9
             try clear hfz13_0
             try clear hfz13_1
             try clear hfz13_2
             try clear hfz16_0
             try clear hfz16_1
             try clear hfz16_2
             try clear hfz21_0
             try clear hfz21_1
             try clear hfz21_2
             try clear hfz22_0
             try clear hfz22_1
             try clear hfz22_2
             try clear hfz28_0
             try clear hfz28_1
             try clear hfz28_2
             try clear hfz29_0
             try clear hfz29_1
             try clear hfz29_2
             try clear hfz41_0
             try clear hfz41_1
             try clear hfz41_2
             try clear hfz45_0
             try clear hfz45_1
             try clear hfz45_2
             try clear hfz58_0
             try clear hfz58_1
             try clear hfz58_2
             try clear hfz62_0
             try clear hfz62_1
             try clear hfz62_2
             try clear hfz65_0
             try clear hfz65_1
             try clear hfz65_2
             try clear hfz9_11
             try clear hfz9_4
             try clear hfz9_7
             try clear hfz9_8
             try clear hfz9_9
             try clear hx150_0
             try clear hx150_1
             try clear hx150_2
             try clear p1
             try clear p15
             try clear p150
             try clear p2
             try clear p6
             try clear q1
             try clear q15
             try clear q150
             obtain ⟨kq, x56_67, rfl, HA, HJ67, BK149, BK151, BK159, BK160, HI0, HK, HB⟩ := hcut
             cases kq with
             | zero => exact absurd HA.out (by simp [code_checker_ways.j3])
             | succ kj67 =>
              have H := HA.out
              clear HA
              simp only [code_checker_ways.j3] at H
              by_cases c70 : x56_67 = true
              ·subst c70
               have H1 : (some ((([(⟨wrap64 (a1 + 1), (⟨true, (wrap64 ((wrap64 (a2_1 - t152)) + t153)), a2_2⟩ : S144)⟩ : S214), (⟨((rd_T132 s0_10 a1).f2), (⟨true, (wrap64 (a2_1 - t152)), a2_2⟩ : S144)⟩ : S214)] : List (S214))), t154, t155, t156, t157, t158)) = some (r1, r2, r3, r4, r5, r6) := by rw [if_pos rfl] at H; exact H
               clear H
               have H := H1
               clear H1
               obtain ⟨y167, hy167⟩ : ∃ y_ : List (S214), y_ = (([(⟨wrap64 (a1 + 1), (⟨true, (wrap64 ((wrap64 (a2_1 - t152)) + t153)), a2_2⟩ : S144)⟩ : S214), (⟨((rd_T132 s0_10 a1).f2), (⟨true, (wrap64 (a2_1 - t152)), a2_2⟩ : S144)⟩ : S214)] : List (S214))) := ⟨_, rfl⟩
               replace H : (some (y167, t154, t155, t156, t157, t158)) = some (r1, r2, r3, r4, r5, r6) := by first | (rw [hy167]; with_reducible exact H) | (have H2_ := (Option.bind_some _ _).symm.trans H; rw [hy167]; with_reducible exact H2_) | (have H2_ := (Option.bind_some _ _).symm.trans H; with_reducible exact H2_) | with_reducible exact H | (rw [hy167]; exact H) | exact H
               have Ny167 := Aside0.mk hy167
               clear hy167
               simp only [Option.some.injEq, Prod.mk.injEq] at H
               obtain ⟨rfl, rfl, rfl, rfl, rfl, rfl⟩ := H
               have hnb71 := NB160_149.out
               have hnc71 := NB149_160.out
               have hnb72 := NB160_151.out
               have hnc72 := NB151_160.out
               have hnb73 := NB160_159.out
               have hnc73 := NB159_160.out
               have hnb74 := NB160_0.out
               have hnc74 := NB0_160.out
               have hcz75_0 : wc.cell? ⟨gb160, 0, none⟩ = some (.bool true) := (blk_cell BK160.out 0).trans rfl
               have hcz75_1 : wc.cell? ⟨gb160, 1, none⟩ = some (.int .i64 (wrap64 ((wrap64 (a2_1 - t152)) + t153))) := (blk_cell BK160.out 1).trans rfl
               have hcz75_2 : wc.cell? ⟨gb160, 2, none⟩ = some (.int .i64 a2_2) := (blk_cell BK160.out 2).trans rfl
               have hfz75_0 := blk_frozen BK160.out 0
               have hfz75_1 := blk_frozen BK160.out 1
               have hfz75_2 := blk_frozen BK160.out 2
               have hnb76 := NB151_149.out
               have hnc76 := NB149_151.out
               have hnb77 := NB151_159.out
               have hnc77 := NB159_151.out
               have hnb78 := NB151_0.out
               have hnc78 := NB0_151.out
               have hcz79_0 : wc.cell? ⟨gb151, 0, none⟩ = some (.int .i64 ((rd_T132 s0_10 a1).f0)) := (blk_cell BK151.out 0).trans rfl
               have hcz79_1 : wc.cell? ⟨gb151, 1, none⟩ = some (.int .i64 ((rd_T132 s0_10 a1).f1)) := (blk_cell BK151.out 1).trans rfl
               have hcz79_2 : wc.cell? ⟨gb151, 2, none⟩ = some (.int .i64 ((rd_T132 s0_10 a1).f2)) := (blk_cell BK151.out 2).trans rfl
               have hfz79_0 := blk_frozen BK151.out 0
               have hfz79_1 := blk_frozen BK151.out 1
               have hfz79_2 := blk_frozen BK151.out 2
               have hnb80 := NB159_149.out
               have hnc80 := NB149_159.out
               have hnb81 := NB159_0.out
               have hnc81 := NB0_159.out
               have hcz82_0 : wc.cell? ⟨gb159, 0, none⟩ = some (.bool true) := (blk_cell BK159.out 0).trans rfl
               have hcz82_1 : wc.cell? ⟨gb159, 1, none⟩ = some (.int .i64 (wrap64 (a2_1 - t152))) := (blk_cell BK159.out 1).trans rfl
               have hcz82_2 : wc.cell? ⟨gb159, 2, none⟩ = some (.int .i64 a2_2) := (blk_cell BK159.out 2).trans rfl
               have hfz82_0 := blk_frozen BK159.out 0
               have hfz82_1 := blk_frozen BK159.out 1
               have hfz82_2 := blk_frozen BK159.out 2
               go_wp2_with (first | ((with_reducible refine gate_dst (N := 87) rfl ?_); refine Kd.R_lit k214 _ 214 ?hg (N := 87) ?hd (xs := ([(⟨wrap64 (a1 + 1), (⟨true, (wrap64 ((wrap64 (a2_1 - t152)) + t153)), a2_2⟩ : S144)⟩ : S214), (⟨((rd_T132 s0_10 a1).f2), (⟨true, (wrap64 (a2_1 - t152)), a2_2⟩ : S144)⟩ : S214)] : List (S214))) (inner := [.int .i64 (wrap64 (a1 + 1)), .bool true, .int .i64 (wrap64 ((wrap64 (a2_1 - t152)) + t153)), .int .i64 a2_2, .int .i64 ((rd_T132 s0_10 a1).f2), .bool true, .int .i64 (wrap64 (a2_1 - t152)), .int .i64 a2_2]) (ok := fun _ => True) (okp := fun _ => True) ?hr ?hp (fun _ hk => hk) trivial (Below.refl _ _) (Nat.le_refl _) (by simp) ?_; (case hd => rfl); (case hg => rfl); (case hr => first | (go_simp; done) | (go_simp; rfl)); (case hp => exact (Reps.c4 (show Kd.M k214 _ _ _ (⟨wrap64 (a1 + 1), (⟨true, (wrap64 ((wrap64 (a2_1 - t152)) + t153)), a2_2⟩ : S144)⟩ : S214) [.int .i64 (wrap64 (a1 + 1)), .bool true, .int .i64 (wrap64 ((wrap64 (a2_1 - t152)) + t153)), .int .i64 a2_2] from (k214_mkM _ _ _ (⟨wrap64 (a1 + 1), (⟨true, (wrap64 ((wrap64 (a2_1 - t152)) + t153)), a2_2⟩ : S144)⟩ : S214) )) (Reps.c4 (show Kd.M k214 _ _ _ (⟨((rd_T132 s0_10 a1).f2), (⟨true, (wrap64 (a2_1 - t152)), a2_2⟩ : S144)⟩ : S214) [.int .i64 ((rd_T132 s0_10 a1).f2), .bool true, .int .i64 (wrap64 (a2_1 - t152)), .int .i64 a2_2] from (k214_mkM _ _ _ (⟨((rd_T132 s0_10 a1).f2), (⟨true, (wrap64 (a2_1 - t152)), a2_2⟩ : S144)⟩ : S214) )) (Reps.none _ _)))); intro v168 w83 ho84 hb hg_ hnew_; clear hg_ hnew_; (first | rw [← Ny167.out] at ho84 | (simp only [Int.reduceToNat] at ho84; rw [← Ny167.out] at ho84)); have n0_ := Aside0.mk (Kd.R_lower ho84 (keep_size (w := w) (g := g) (row := none) (by repeat (first | (with_reducible first | exact HK.out | apply KeepBut.set_ | apply keep_drewN | apply keep_drew | apply keep_alloc | refine keep_far ?_ GW149.out _ | refine keep_far ?_ GW151.out _ | refine keep_far ?_ GW159.out _ | refine keep_far ?_ GW160.out _) | exact HK.out)))); have n1_ := Aside0.mk (blk_below (g := gb149) (o := .cells #[.bool a2_0, .int .i64 a2_1, .int .i64 a2_2] 144 (0, 0)) (by (with_reducible repeat (first | refine blk_drewN ?_ _ | refine blk_drew ?_ | refine blk_alloc ?_ _)); exact BK149.out) hb); have n2_ := Aside0.mk (blk_below (g := gb151) (o := .cells #[.int .i64 ((rd_T132 s0_10 a1).f0), .int .i64 ((rd_T132 s0_10 a1).f1), .int .i64 ((rd_T132 s0_10 a1).f2)] 132 (0, 0)) (by (with_reducible repeat (first | refine blk_drewN ?_ _ | refine blk_drew ?_ | refine blk_alloc ?_ _)); exact BK151.out) hb); have n3_ := Aside0.mk (blk_below (g := gb159) (o := .cells #[.bool true, .int .i64 (wrap64 (a2_1 - t152)), .int .i64 a2_2] 144 (0, 0)) (by (with_reducible repeat (first | refine blk_drewN ?_ _ | refine blk_drew ?_ | refine blk_alloc ?_ _)); exact BK159.out) hb); have n4_ := Aside0.mk (blk_below (g := gb160) (o := .cells #[.bool true, .int .i64 (wrap64 ((wrap64 (a2_1 - t152)) + t153)), .int .i64 a2_2] 144 (0, 0)) (by (with_reducible repeat (first | refine blk_drewN ?_ _ | refine blk_drew ?_ | refine blk_alloc ?_ _)); exact BK160.out) hb); have n5_ := Aside0.mk (IsS139.below (by repeat (first | (with_reducible first | exact HI0.out | apply IsS139.alloc | apply IsS139.drewN | apply IsS139.drew | apply IsS139.set_4 | apply IsS139.set_7 | apply IsS139.set_8 | apply IsS139.set_9 | apply IsS139.set_11 | refine IsS139.far ?_ NB0_149.out _ | refine IsS139.far ?_ NB0_151.out _ | refine IsS139.far ?_ NB0_159.out _ | refine IsS139.far ?_ NB0_160.out _) | exact HI0.out)) hb); have n6_ := Aside0.mk (KeepBut.trans (by repeat (first | (with_reducible first | exact HK.out | apply KeepBut.set_ | apply keep_drewN | apply keep_drew | apply keep_alloc | refine keep_far ?_ GW149.out _ | refine keep_far ?_ GW151.out _ | refine keep_far ?_ GW159.out _ | refine keep_far ?_ GW160.out _) | exact HK.out)) (KeepBut.of_below hb g none) (.inl rfl)); have n7_ := Aside0.mk (below_step (by repeat (first | (with_reducible first | exact HB.out | apply below_alloc | apply pw_below_drewN | apply below_drew1 | refine below_set ?_ (IsS139.ge HI0.out) | refine below_set ?_ GE149.out | refine below_set ?_ GE151.out | refine below_set ?_ GE159.out | refine below_set ?_ GE160.out) | exact HB.out)) hb); clear BK149; clear BK151; clear BK159; clear BK160; clear HI0; clear HK; clear HB; have HO169 := n0_; have BK149 := n1_; have BK151 := n2_; have BK159 := n3_; have BK160 := n4_; have HI0 := n5_; have HK := n6_; have HB := n7_; clear n0_ n1_ n2_ n3_ n4_ n5_ n6_ n7_; clear hb ho84))
               go_ret
               exact ⟨_, by first | rfl | (simp [errW_none, errW_some] <;> rfl) | (simp [*, errW_none, errW_some] <;> rfl), by (with_reducible repeat (first | apply Kd.R_alloc | apply Kd.R_drewN | apply Kd.R_drew)); exact HO169.out, by repeat (first | (with_reducible first | exact HI0.out | apply IsS139.alloc | apply IsS139.drewN | apply IsS139.drew | apply IsS139.set_4 | apply IsS139.set_7 | apply IsS139.set_8 | apply IsS139.set_9 | apply IsS139.set_11 | refine IsS139.far ?_ NB0_149.out _ | refine IsS139.far ?_ NB0_151.out _ | refine IsS139.far ?_ NB0_159.out _ | refine IsS139.far ?_ NB0_160.out _) | exact HI0.out), by repeat (first | (with_reducible first | exact HB.out | apply below_alloc | apply pw_below_drewN | apply below_drew1 | refine below_set ?_ (IsS139.ge HI0.out) | refine below_set ?_ GE149.out | refine below_set ?_ GE151.out | refine below_set ?_ GE159.out | refine below_set ?_ GE160.out) | exact HB.out), by repeat (first | (with_reducible first | exact HK.out | apply KeepBut.set_ | apply keep_drewN | apply keep_drew | apply keep_alloc | refine keep_far ?_ GW149.out _ | refine keep_far ?_ GW151.out _ | refine keep_far ?_ GW159.out _ | refine keep_far ?_ GW160.out _) | exact HK.out)⟩
              ·replace c70 := Bool.eq_false_iff.mpr c70
               subst c70
               have H1 : (if ((rd_T132 s0_10 a1).f0) = 21 then (some ((([(⟨wrap64 (a1 + 1), (⟨true, (wrap64 ((wrap64 (a2_1 - t152)) + t153)), wrap64 (a2_2 + 1)⟩ : S144)⟩ : S214), (⟨((rd_T132 s0_10 a1).f1), (⟨true, wrap64 ((wrap64 (a2_1 - t152)) + 2), a2_2⟩ : S144)⟩ : S214)] : List (S214))), t154, t155, t156, t157, t158)) else (if ((rd_T132 s0_10 a1).f0) = 22 then (some ((([(⟨wrap64 (a1 + 1), (⟨true, (wrap64 ((wrap64 (a2_1 - t152)) + t153)), wrap64 (a2_2 + 1)⟩ : S144)⟩ : S214), (⟨((rd_T132 s0_10 a1).f1), (⟨true, (wrap64 (a2_1 - t152)), a2_2⟩ : S144)⟩ : S214)] : List (S214))), t154, t155, t156, t157, t158)) else (if ((rd_T132 s0_10 a1).f0) = 23 then (some ((([(⟨wrap64 (a1 + 1), (⟨true, (wrap64 ((wrap64 (a2_1 - t152)) + t153)), wrap64 (a2_2 - 1)⟩ : S144)⟩ : S214)] : List (S214))), t154, t155, t156, t157, t158)) else (some ((([(⟨wrap64 (a1 + 1), (⟨true, (wrap64 ((wrap64 (a2_1 - t152)) + t153)), a2_2⟩ : S144)⟩ : S214)] : List (S214))), t154, t155, t156, t157, t158))))) = some (r1, r2, r3, r4, r5, r6) := by rw [if_neg (show ¬ (false = true) by decide)] at H; exact H
               clear H
               have H := H1
               clear H1
               by_cases c85 : ((rd_T132 s0_10 a1).f0) = 21
               ·rw [if_pos c85] at H
                have c85b0 : (((rd_T132 s0_10 a1).f0) == 21) = true := beq_iff_eq.mpr c85
                have c85b1 : (((rd_T132 s0_10 a1).f0) != 21) = false := bne_eq_false_iff_eq.mpr c85
                clear c85
                obtain ⟨y170, hy170⟩ : ∃ y_ : List (S214), y_ = (([(⟨wrap64 (a1 + 1), (⟨true, (wrap64 ((wrap64 (a2_1 - t152)) + t153)), wrap64 (a2_2 + 1)⟩ : S144)⟩ : S214), (⟨((rd_T132 s0_10 a1).f1), (⟨true, wrap64 ((wrap64 (a2_1 - t152)) + 2), a2_2⟩ : S144)⟩ : S214)] : List (S214))) := ⟨_, rfl⟩
                replace H : (some (y170, t154, t155, t156, t157, t158)) = some (r1, r2, r3, r4, r5, r6) := by first | (rw [hy170]; with_reducible exact H) | (have H2_ := (Option.bind_some _ _).symm.trans H; rw [hy170]; with_reducible exact H2_) | (have H2_ := (Option.bind_some _ _).symm.trans H; with_reducible exact H2_) | with_reducible exact H | (rw [hy170]; exact H) | exact H
                have Ny170 := Aside0.mk hy170
                clear hy170
                simp only [Option.some.injEq, Prod.mk.injEq] at H
                obtain ⟨rfl, rfl, rfl, rfl, rfl, rfl⟩ := H
                have hnb86 := NB159_149.out
                have hnc86 := NB149_159.out
                have hnb87 := NB159_151.out
                have hnc87 := NB151_159.out
                have hnb88 := NB159_160.out
                have hnc88 := NB160_159.out
                have hnb89 := NB159_0.out
                have hnc89 := NB0_159.out
                have hcz90_0 : wc.cell? ⟨gb159, 0, none⟩ = some (.bool true) := (blk_cell BK159.out 0).trans rfl
                have hcz90_1 : wc.cell? ⟨gb159, 1, none⟩ = some (.int .i64 (wrap64 (a2_1 - t152))) := (blk_cell BK159.out 1).trans rfl
                have hcz90_2 : wc.cell? ⟨gb159, 2, none⟩ = some (.int .i64 a2_2) := (blk_cell BK159.out 2).trans rfl
                have hfz90_0 := blk_frozen BK159.out 0
                have hfz90_1 := blk_frozen BK159.out 1
                have hfz90_2 := blk_frozen BK159.out 2
                have hnb91 := NB160_149.out
                have hnc91 := NB149_160.out
                have hnb92 := NB160_151.out
                have hnc92 := NB151_160.out
                have hnb93 := NB160_0.out
                have hnc93 := NB0_160.out
                have hcz94_0 : wc.cell? ⟨gb160, 0, none⟩ = some (.bool true) := (blk_cell BK160.out 0).trans rfl
                have hcz94_1 : wc.cell? ⟨gb160, 1, none⟩ = some (.int .i64 (wrap64 ((wrap64 (a2_1 - t152)) + t153))) := (blk_cell BK160.out 1).trans rfl
                have hcz94_2 : wc.cell? ⟨gb160, 2, none⟩ = some (.int .i64 a2_2) := (blk_cell BK160.out 2).trans rfl
                have hfz94_0 := blk_frozen BK160.out 0
                have hfz94_1 := blk_frozen BK160.out 1
                have hfz94_2 := blk_frozen BK160.out 2
                have hnb95 := NB151_149.out
                have hnc95 := NB149_151.out
                have hnb96 := NB151_0.out
                have hnc96 := NB0_151.out
                have hcz97_0 : wc.cell? ⟨gb151, 0, none⟩ = some (.int .i64 ((rd_T132 s0_10 a1).f0)) := (blk_cell BK151.out 0).trans rfl
                have hcz97_1 : wc.cell? ⟨gb151, 1, none⟩ = some (.int .i64 ((rd_T132 s0_10 a1).f1)) := (blk_cell BK151.out 1).trans rfl
                have hcz97_2 : wc.cell? ⟨gb151, 2, none⟩ = some (.int .i64 ((rd_T132 s0_10 a1).f2)) := (blk_cell BK151.out 2).trans rfl
                have hfz97_0 := blk_frozen BK151.out 0
                have hfz97_1 := blk_frozen BK151.out 1
                have hfz97_2 := blk_frozen BK151.out 2
                go_wp2_with (first | ((with_reducible refine gate_dst (N := 104) rfl ?_); refine Kd.R_lit k214 _ 214 ?hg (N := 104) ?hd (xs := ([(⟨wrap64 (a1 + 1), (⟨true, (wrap64 ((wrap64 (a2_1 - t152)) + t153)), wrap64 (a2_2 + 1)⟩ : S144)⟩ : S214), (⟨((rd_T132 s0_10 a1).f1), (⟨true, wrap64 ((wrap64 (a2_1 - t152)) + 2), a2_2⟩ : S144)⟩ : S214)] : List (S214))) (inner := [.int .i64 (wrap64 (a1 + 1)), .bool true, .int .i64 (wrap64 ((wrap64 (a2_1 - t152)) + t153)), .int .i64 (wrap64 (a2_2 + 1)), .int .i64 ((rd_T132 s0_10 a1).f1), .bool true, .int .i64 (wrap64 ((wrap64 (a2_1 - t152)) + 2)), .int .i64 a2_2]) (ok := fun _ => True) (okp := fun _ => True) ?hr ?hp (fun _ hk => hk) trivial (Below.refl _ _) (Nat.le_refl _) (by simp) ?_; (case hd => rfl); (case hg => rfl); (case hr => first | (go_simp; done) | (go_simp; rfl)); (case hp => exact (Reps.c4 (show Kd.M k214 _ _ _ (⟨wrap64 (a1 + 1), (⟨true, (wrap64 ((wrap64 (a2_1 - t152)) + t153)), wrap64 (a2_2 + 1)⟩ : S144)⟩ : S214) [.int .i64 (wrap64 (a1 + 1)), .bool true, .int .i64 (wrap64 ((wrap64 (a2_1 - t152)) + t153)), .int .i64 (wrap64 (a2_2 + 1))] from (k214_mkM _ _ _ (⟨wrap64 (a1 + 1), (⟨true, (wrap64 ((wrap64 (a2_1 - t152)) + t153)), wrap64 (a2_2 + 1)⟩ : S144)⟩ : S214) )) (Reps.c4 (show Kd.M k214 _ _ _ (⟨((rd_T132 s0_10 a1).f1), (⟨true, wrap64 ((wrap64 (a2_1 - t152)) + 2), a2_2⟩ : S144)⟩ : S214) [.int .i64 ((rd_T132 s0_10 a1).f1), .bool true, .int .i64 (wrap64 ((wrap64 (a2_1 - t152)) + 2)), .int .i64 a2_2] from (k214_mkM _ _ _ (⟨((rd_T132 s0_10 a1).f1), (⟨true, wrap64 ((wrap64 (a2_1 - t152)) + 2), a2_2⟩ : S144)⟩ : S214) )) (Reps.none _ _)))); intro v171 w98 ho99 hb hg_ hnew_; clear hg_ hnew_; (first | rw [← Ny170.out] at ho99 | (simp only [Int.reduceToNat] at ho99; rw [← Ny170.out] at ho99)); have n0_ := Aside0.mk (Kd.R_lower ho99 (keep_size (w := w) (g := g) (row := none) (by repeat (first | (with_reducible first | exact HK.out | apply KeepBut.set_ | apply keep_drewN | apply keep_drew | apply keep_alloc | refine keep_far ?_ GW149.out _ | refine keep_far ?_ GW151.out _ | refine keep_far ?_ GW159.out _ | refine keep_far ?_ GW160.out _) | exact HK.out)))); have n1_ := Aside0.mk (blk_below (g := gb149) (o := .cells #[.bool a2_0, .int .i64 a2_1, .int .i64 a2_2] 144 (0, 0)) (by (with_reducible repeat (first | refine blk_drewN ?_ _ | refine blk_drew ?_ | refine blk_alloc ?_ _)); refine blk_far ?_ NB149_160.out _; (with_reducible repeat (first | refine blk_drewN ?_ _ | refine blk_drew ?_ | refine blk_alloc ?_ _)); refine blk_far ?_ NB149_159.out _; (with_reducible repeat (first | refine blk_drewN ?_ _ | refine blk_drew ?_ | refine blk_alloc ?_ _)); exact BK149.out) hb); have n2_ := Aside0.mk (blk_below (g := gb151) (o := .cells #[.int .i64 ((rd_T132 s0_10 a1).f0), .int .i64 ((rd_T132 s0_10 a1).f1), .int .i64 ((rd_T132 s0_10 a1).f2)] 132 (0, 0)) (by (with_reducible repeat (first | refine blk_drewN ?_ _ | refine blk_drew ?_ | refine blk_alloc ?_ _)); refine blk_far ?_ NB151_160.out _; (with_reducible repeat (first | refine blk_drewN ?_ _ | refine blk_drew ?_ | refine blk_alloc ?_ _)); refine blk_far ?_ NB151_159.out _; (with_reducible repeat (first | refine blk_drewN ?_ _ | refine blk_drew ?_ | refine blk_alloc ?_ _)); exact BK151.out) hb); have n3_ := Aside0.mk (blk_below (g := gb159) (o := .cells #[.bool true, .int .i64 (wrap64 ((wrap64 (a2_1 - t152)) + 2)), .int .i64 a2_2] 144 (0, 0)) (by (with_reducible repeat (first | refine blk_drewN ?_ _ | refine blk_drew ?_ | refine blk_alloc ?_ _)); refine blk_far ?_ NB159_160.out _; (with_reducible repeat (first | refine blk_drewN ?_ _ | refine blk_drew ?_ | refine blk_alloc ?_ _)); refine blk_put (cs := #[.bool true, .int .i64 (wrap64 (a2_1 - t152)), .int .i64 a2_2]) ?_ 1 _ rfl; (with_reducible repeat (first | refine blk_drewN ?_ _ | refine blk_drew ?_ | refine blk_alloc ?_ _)); exact BK159.out) hb); have n4_ := Aside0.mk (blk_below (g := gb160) (o := .cells #[.bool true, .int .i64 (wrap64 ((wrap64 (a2_1 - t152)) + t153)), .int .i64 (wrap64 (a2_2 + 1))] 144 (0, 0)) (by (with_reducible repeat (first | refine blk_drewN ?_ _ | refine blk_drew ?_ | refine blk_alloc ?_ _)); refine blk_put (cs := #[.bool true, .int .i64 (wrap64 ((wrap64 (a2_1 - t152)) + t153)), .int .i64 a2_2]) ?_ 2 _ rfl; (with_reducible repeat (first | refine blk_drewN ?_ _ | refine blk_drew ?_ | refine blk_alloc ?_ _)); refine blk_far ?_ NB160_159.out _; (with_reducible repeat (first | refine blk_drewN ?_ _ | refine blk_drew ?_ | refine blk_alloc ?_ _)); exact BK160.out) hb); have n5_ := Aside0.mk (IsS139.below (show IsS139 w0 ((wc.setCell ⟨gb159, 1, none⟩ (.int .i64 (wrap64 ((wrap64 (a2_1 - t152)) + 2)))).setCell ⟨gb160, 2, none⟩ (.int .i64 (wrap64 (a2_2 + 1)))) g s0_0 s0_1 s0_2 s0_3 t154 s0_5 s0_6 t155 t156 t157 s0_10 t158 from by repeat (first | (with_reducible first | exact HI0.out | apply IsS139.alloc | apply IsS139.drewN | apply IsS139.drew | apply IsS139.set_4 | apply IsS139.set_7 | apply IsS139.set_8 | apply IsS139.set_9 | apply IsS139.set_11 | refine IsS139.far ?_ NB0_149.out _ | refine IsS139.far ?_ NB0_151.out _ | refine IsS139.far ?_ NB0_159.out _ | refine IsS139.far ?_ NB0_160.out _) | exact HI0.out)) hb); have n6_ := Aside0.mk (KeepBut.trans (by repeat (first | (with_reducible first | exact HK.out | apply KeepBut.set_ | apply keep_drewN | apply keep_drew | apply keep_alloc | refine keep_far ?_ GW149.out _ | refine keep_far ?_ GW151.out _ | refine keep_far ?_ GW159.out _ | refine keep_far ?_ GW160.out _) | exact HK.out)) (KeepBut.of_below hb g none) (.inl rfl)); have n7_ := Aside0.mk (below_step (by repeat (first | (with_reducible first | exact HB.out | apply below_alloc | apply pw_below_drewN | apply below_drew1 | refine below_set ?_ (IsS139.ge HI0.out) | refine below_set ?_ GE149.out | refine below_set ?_ GE151.out | refine below_set ?_ GE159.out | refine below_set ?_ GE160.out) | exact HB.out)) hb); clear BK149; clear BK151; clear BK159; clear BK160; clear HI0; clear HK; clear HB; have HO172 := n0_; have BK149 := n1_; have BK151 := n2_; have BK159 := n3_; have BK160 := n4_; have HI0 := n5_; have HK := n6_; have HB := n7_; clear n0_ n1_ n2_ n3_ n4_ n5_ n6_ n7_; clear hb ho99))
                go_ret
                exact ⟨_, by first | rfl | (simp [errW_none, errW_some] <;> rfl) | (simp [*, errW_none, errW_some] <;> rfl), by (with_reducible repeat (first | apply Kd.R_alloc | apply Kd.R_drewN | apply Kd.R_drew)); exact HO172.out, by repeat (first | (with_reducible first | exact HI0.out | apply IsS139.alloc | apply IsS139.drewN | apply IsS139.drew | apply IsS139.set_4 | apply IsS139.set_7 | apply IsS139.set_8 | apply IsS139.set_9 | apply IsS139.set_11 | refine IsS139.far ?_ NB0_149.out _ | refine IsS139.far ?_ NB0_151.out _ | refine IsS139.far ?_ NB0_159.out _ | refine IsS139.far ?_ NB0_160.out _) | exact HI0.out), by repeat (first | (with_reducible first | exact HB.out | apply below_alloc | apply pw_below_drewN | apply below_drew1 | refine below_set ?_ (IsS139.ge HI0.out) | refine below_set ?_ GE149.out | refine below_set ?_ GE151.out | refine below_set ?_ GE159.out | refine below_set ?_ GE160.out) | exact HB.out), by repeat (first | (with_reducible first | exact HK.out | apply KeepBut.set_ | apply keep_drewN | apply keep_drew | apply keep_alloc | refine keep_far ?_ GW149.out _ | refine keep_far ?_ GW151.out _ | refine keep_far ?_ GW159.out _ | refine keep_far ?_ GW160.out _) | exact HK.out)⟩
               ·rw [if_neg c85] at H
                have c85b0 : (((rd_T132 s0_10 a1).f0) == 21) = false := beq_eq_false_iff_ne.mpr c85
                have c85b1 : (((rd_T132 s0_10 a1).f0) != 21) = true := bne_iff_ne.mpr c85
                by_cases c100 : ((rd_T132 s0_10 a1).f0) = 22
                ·rw [if_pos c100] at H
                 have c100b0 : (((rd_T132 s0_10 a1).f0) == 22) = true := beq_iff_eq.mpr c100
                 have c100b1 : (((rd_T132 s0_10 a1).f0) != 22) = false := bne_eq_false_iff_eq.mpr c100
                 clear c100
                 obtain ⟨y173, hy173⟩ : ∃ y_ : List (S214), y_ = (([(⟨wrap64 (a1 + 1), (⟨true, (wrap64 ((wrap64 (a2_1 - t152)) + t153)), wrap64 (a2_2 + 1)⟩ : S144)⟩ : S214), (⟨((rd_T132 s0_10 a1).f1), (⟨true, (wrap64 (a2_1 - t152)), a2_2⟩ : S144)⟩ : S214)] : List (S214))) := ⟨_, rfl⟩
                 replace H : (some (y173, t154, t155, t156, t157, t158)) = some (r1, r2, r3, r4, r5, r6) := by first | (rw [hy173]; with_reducible exact H) | (have H2_ := (Option.bind_some _ _).symm.trans H; rw [hy173]; with_reducible exact H2_) | (have H2_ := (Option.bind_some _ _).symm.trans H; with_reducible exact H2_) | with_reducible exact H | (rw [hy173]; exact H) | exact H
                 have Ny173 := Aside0.mk hy173
                 clear hy173
                 simp only [Option.some.injEq, Prod.mk.injEq] at H
                 obtain ⟨rfl, rfl, rfl, rfl, rfl, rfl⟩ := H
                 have hnb101 := NB160_149.out
                 have hnc101 := NB149_160.out
                 have hnb102 := NB160_151.out
                 have hnc102 := NB151_160.out
                 have hnb103 := NB160_159.out
                 have hnc103 := NB159_160.out
                 have hnb104 := NB160_0.out
                 have hnc104 := NB0_160.out
                 have hcz105_0 : wc.cell? ⟨gb160, 0, none⟩ = some (.bool true) := (blk_cell BK160.out 0).trans rfl
                 have hcz105_1 : wc.cell? ⟨gb160, 1, none⟩ = some (.int .i64 (wrap64 ((wrap64 (a2_1 - t152)) + t153))) := (blk_cell BK160.out 1).trans rfl
                 have hcz105_2 : wc.cell? ⟨gb160, 2, none⟩ = some (.int .i64 a2_2) := (blk_cell BK160.out 2).trans rfl
                 have hfz105_0 := blk_frozen BK160.out 0
                 have hfz105_1 := blk_frozen BK160.out 1
                 have hfz105_2 := blk_frozen BK160.out 2
                 have hnb106 := NB151_149.out
                 have hnc106 := NB149_151.out
                 have hnb107 := NB151_159.out
                 have hnc107 := NB159_151.out
                 have hnb108 := NB151_0.out
                 have hnc108 := NB0_151.out
                 have hcz109_0 : wc.cell? ⟨gb151, 0, none⟩ = some (.int .i64 ((rd_T132 s0_10 a1).f0)) := (blk_cell BK151.out 0).trans rfl
                 have hcz109_1 : wc.cell? ⟨gb151, 1, none⟩ = some (.int .i64 ((rd_T132 s0_10 a1).f1)) := (blk_cell BK151.out 1).trans rfl
                 have hcz109_2 : wc.cell? ⟨gb151, 2, none⟩ = some (.int .i64 ((rd_T132 s0_10 a1).f2)) := (blk_cell BK151.out 2).trans rfl
                 have hfz109_0 := blk_frozen BK151.out 0
                 have hfz109_1 := blk_frozen BK151.out 1
                 have hfz109_2 := blk_frozen BK151.out 2
                 have hnb110 := NB159_149.out
                 have hnc110 := NB149_159.out
                 have hnb111 := NB159_0.out
                 have hnc111 := NB0_159.out
                 have hcz112_0 : wc.cell? ⟨gb159, 0, none⟩ = some (.bool true) := (blk_cell BK159.out 0).trans rfl
                 have hcz112_1 : wc.cell? ⟨gb159, 1, none⟩ = some (.int .i64 (wrap64 (a2_1 - t152))) := (blk_cell BK159.out 1).trans rfl
                 have hcz112_2 : wc.cell? ⟨gb159, 2, none⟩ = some (.int .i64 a2_2) := (blk_cell BK159.out 2).trans rfl
                 have hfz112_0 := blk_frozen BK159.out 0
                 have hfz112_1 := blk_frozen BK159.out 1
                 have hfz112_2 := blk_frozen BK159.out 2
                 go_wp2_with (first | ((with_reducible refine gate_dst (N := 104) rfl ?_); refine Kd.R_lit k214 _ 214 ?hg (N := 104) ?hd (xs := ([(⟨wrap64 (a1 + 1), (⟨true, (wrap64 ((wrap64 (a2_1 - t152)) + t153)), wrap64 (a2_2 + 1)⟩ : S144)⟩ : S214), (⟨((rd_T132 s0_10 a1).f1), (⟨true, (wrap64 (a2_1 - t152)), a2_2⟩ : S144)⟩ : S214)] : List (S214))) (inner := [.int .i64 (wrap64 (a1 + 1)), .bool true, .int .i64 (wrap64 ((wrap64 (a2_1 - t152)) + t153)), .int .i64 (wrap64 (a2_2 + 1)), .int .i64 ((rd_T132 s0_10 a1).f1), .bool true, .int .i64 (wrap64 (a2_1 - t152)), .int .i64 a2_2]) (ok := fun _ => True) (okp := fun _ => True) ?hr ?hp (fun _ hk => hk) trivial (Below.refl _ _) (Nat.le_refl _) (by simp) ?_; (case hd => rfl); (case hg => rfl); (case hr => first | (go_simp; done) | (go_simp; rfl)); (case hp => exact (Reps.c4 (show Kd.M k214 _ _ _ (⟨wrap64 (a1 + 1), (⟨true, (wrap64 ((wrap64 (a2_1 - t152)) + t153)), wrap64 (a2_2 + 1)⟩ : S144)⟩ : S214) [.int .i64 (wrap64 (a1 + 1)), .bool true, .int .i64 (wrap64 ((wrap64 (a2_1 - t152)) + t153)), .int .i64 (wrap64 (a2_2 + 1))] from (k214_mkM _ _ _ (⟨wrap64 (a1 + 1), (⟨true, (wrap64 ((wrap64 (a2_1 - t152)) + t153)), wrap64 (a2_2 + 1)⟩ : S144)⟩ : S214) )) (Reps.c4 (show Kd.M k214 _ _ _ (⟨((rd_T132 s0_10 a1).f1), (⟨true, (wrap64 (a2_1 - t152)), a2_2⟩ : S144)⟩ : S214) [.int .i64 ((rd_T132 s0_10 a1).f1), .bool true, .int .i64 (wrap64 (a2_1 - t152)), .int .i64 a2_2] from (k214_mkM _ _ _ (⟨((rd_T132 s0_10 a1).f1), (⟨true, (wrap64 (a2_1 - t152)), a2_2⟩ : S144)⟩ : S214) )) (Reps.none _ _)))); intro v174 w113 ho114 hb hg_ hnew_; clear hg_ hnew_; (first | rw [← Ny173.out] at ho114 | (simp only [Int.reduceToNat] at ho114; rw [← Ny173.out] at ho114)); have n0_ := Aside0.mk (Kd.R_lower ho114 (keep_size (w := w) (g := g) (row := none) (by repeat (first | (with_reducible first | exact HK.out | apply KeepBut.set_ | apply keep_drewN | apply keep_drew | apply keep_alloc | refine keep_far ?_ GW149.out _ | refine keep_far ?_ GW151.out _ | refine keep_far ?_ GW159.out _ | refine keep_far ?_ GW160.out _) | exact HK.out)))); have n1_ := Aside0.mk (blk_below (g := gb149) (o := .cells #[.bool a2_0, .int .i64 a2_1, .int .i64 a2_2] 144 (0, 0)) (by (with_reducible repeat (first | refine blk_drewN ?_ _ | refine blk_drew ?_ | refine blk_alloc ?_ _)); refine blk_far ?_ NB149_160.out _; (with_reducible repeat (first | refine blk_drewN ?_ _ | refine blk_drew ?_ | refine blk_alloc ?_ _)); exact BK149.out) hb); have n2_ := Aside0.mk (blk_below (g := gb151) (o := .cells #[.int .i64 ((rd_T132 s0_10 a1).f0), .int .i64 ((rd_T132 s0_10 a1).f1), .int .i64 ((rd_T132 s0_10 a1).f2)] 132 (0, 0)) (by (with_reducible repeat (first | refine blk_drewN ?_ _ | refine blk_drew ?_ | refine blk_alloc ?_ _)); refine blk_far ?_ NB151_160.out _; (with_reducible repeat (first | refine blk_drewN ?_ _ | refine blk_drew ?_ | refine blk_alloc ?_ _)); exact BK151.out) hb); have n3_ := Aside0.mk (blk_below (g := gb159) (o := .cells #[.bool true, .int .i64 (wrap64 (a2_1 - t152)), .int .i64 a2_2] 144 (0, 0)) (by (with_reducible repeat (first | refine blk_drewN ?_ _ | refine blk_drew ?_ | refine blk_alloc ?_ _)); refine blk_far ?_ NB159_160.out _; (with_reducible repeat (first | refine blk_drewN ?_ _ | refine blk_drew ?_ | refine blk_alloc ?_ _)); exact BK159.out) hb); have n4_ := Aside0.mk (blk_below (g := gb160) (o := .cells #[.bool true, .int .i64 (wrap64 ((wrap64 (a2_1 - t152)) + t153)), .int .i64 (wrap64 (a2_2 + 1))] 144 (0, 0)) (by (with_reducible repeat (first | refine blk_drewN ?_ _ | refine blk_drew ?_ | refine blk_alloc ?_ _)); refine blk_put (cs := #[.bool true, .int .i64 (wrap64 ((wrap64 (a2_1 - t152)) + t153)), .int .i64 a2_2]) ?_ 2 _ rfl; (with_reducible repeat (first | refine blk_drewN ?_ _ | refine blk_drew ?_ | refine blk_alloc ?_ _)); exact BK160.out) hb); have n5_ := Aside0.mk (IsS139.below (show IsS139 w0 (wc.setCell ⟨gb160, 2, none⟩ (.int .i64 (wrap64 (a2_2 + 1)))) g s0_0 s0_1 s0_2 s0_3 t154 s0_5 s0_6 t155 t156 t157 s0_10 t158 from by repeat (first | (with_reducible first | exact HI0.out | apply IsS139.alloc | apply IsS139.drewN | apply IsS139.drew | apply IsS139.set_4 | apply IsS139.set_7 | apply IsS139.set_8 | apply IsS139.set_9 | apply IsS139.set_11 | refine IsS139.far ?_ NB0_149.out _ | refine IsS139.far ?_ NB0_151.out _ | refine IsS139.far ?_ NB0_159.out _ | refine IsS139.far ?_ NB0_160.out _) | exact HI0.out)) hb); have n6_ := Aside0.mk (KeepBut.trans (by repeat (first | (with_reducible first | exact HK.out | apply KeepBut.set_ | apply keep_drewN | apply keep_drew | apply keep_alloc | refine keep_far ?_ GW149.out _ | refine keep_far ?_ GW151.out _ | refine keep_far ?_ GW159.out _ | refine keep_far ?_ GW160.out _) | exact HK.out)) (KeepBut.of_below hb g none) (.inl rfl)); have n7_ := Aside0.mk (below_step (by repeat (first | (with_reducible first | exact HB.out | apply below_alloc | apply pw_below_drewN | apply below_drew1 | refine below_set ?_ (IsS139.ge HI0.out) | refine below_set ?_ GE149.out | refine below_set ?_ GE151.out | refine below_set ?_ GE159.out | refine below_set ?_ GE160.out) | exact HB.out)) hb); clear BK149; clear BK151; clear BK159; clear BK160; clear HI0; clear HK; clear HB; have HO175 := n0_; have BK149 := n1_; have BK151 := n2_; have BK159 := n3_; have BK160 := n4_; have HI0 := n5_; have HK := n6_; have HB := n7_; clear n0_ n1_ n2_ n3_ n4_ n5_ n6_ n7_; clear hb ho114))
                 go_ret
                 exact ⟨_, by first | rfl | (simp [errW_none, errW_some] <;> rfl) | (simp [*, errW_none, errW_some] <;> rfl), by (with_reducible repeat (first | apply Kd.R_alloc | apply Kd.R_drewN | apply Kd.R_drew)); exact HO175.out, by repeat (first | (with_reducible first | exact HI0.out | apply IsS139.alloc | apply IsS139.drewN | apply IsS139.drew | apply IsS139.set_4 | apply IsS139.set_7 | apply IsS139.set_8 | apply IsS139.set_9 | apply IsS139.set_11 | refine IsS139.far ?_ NB0_149.out _ | refine IsS139.far ?_ NB0_151.out _ | refine IsS139.far ?_ NB0_159.out _ | refine IsS139.far ?_ NB0_160.out _) | exact HI0.out), by repeat (first | (with_reducible first | exact HB.out | apply below_alloc | apply pw_below_drewN | apply below_drew1 | refine below_set ?_ (IsS139.ge HI0.out) | refine below_set ?_ GE149.out | refine below_set ?_ GE151.out | refine below_set ?_ GE159.out | refine below_set ?_ GE160.out) | exact HB.out), by repeat (first | (with_reducible first | exact HK.out | apply KeepBut.set_ | apply keep_drewN | apply keep_drew | apply keep_alloc | refine keep_far ?_ GW149.out _ | refine keep_far ?_ GW151.out _ | refine keep_far ?_ GW159.out _ | refine keep_far ?_ GW160.out _) | exact HK.out)⟩
                ·rw [if_neg c100] at H
                 have c100b0 : (((rd_T132 s0_10 a1).f0) == 22) = false := beq_eq_false_iff_ne.mpr c100
                 have c100b1 : (((rd_T132 s0_10 a1).f0) != 22) = true := bne_iff_ne.mpr c100
                 by_cases c115 : ((rd_T132 s0_10 a1).f0) = 23
                 ·rw [if_pos c115] at H
                  have c115b0 : (((rd_T132 s0_10 a1).f0) == 23) = true := beq_iff_eq.mpr c115
                  have c115b1 : (((rd_T132 s0_10 a1).f0) != 23) = false := bne_eq_false_iff_eq.mpr c115
                  clear c115
                  obtain ⟨y176, hy176⟩ : ∃ y_ : List (S214), y_ = (([(⟨wrap64 (a1 + 1), (⟨true, (wrap64 ((wrap64 (a2_1 - t152)) + t153)), wrap64 (a2_2 - 1)⟩ : S144)⟩ : S214)] : List (S214))) := ⟨_, rfl⟩
                  replace H : (some (y176, t154, t155, t156, t157, t158)) = some (r1, r2, r3, r4, r5, r6) := by first | (rw [hy176]; with_reducible exact H) | (have H2_ := (Option.bind_some _ _).symm.trans H; rw [hy176]; with_reducible exact H2_) | (have H2_ := (Option.bind_some _ _).symm.trans H; with_reducible exact H2_) | with_reducible exact H | (rw [hy176]; exact H) | exact H
                  have Ny176 := Aside0.mk hy176
                  clear hy176
                  simp only [Option.some.injEq, Prod.mk.injEq] at H
                  obtain ⟨rfl, rfl, rfl, rfl, rfl, rfl⟩ := H
                  have hnb116 := NB160_149.out
                  have hnc116 := NB149_160.out
                  have hnb117 := NB160_151.out
                  have hnc117 := NB151_160.out
                  have hnb118 := NB160_159.out
                  have hnc118 := NB159_160.out
                  have hnb119 := NB160_0.out
                  have hnc119 := NB0_160.out
                  have hcz120_0 : wc.cell? ⟨gb160, 0, none⟩ = some (.bool true) := (blk_cell BK160.out 0).trans rfl
                  have hcz120_1 : wc.cell? ⟨gb160, 1, none⟩ = some (.int .i64 (wrap64 ((wrap64 (a2_1 - t152)) + t153))) := (blk_cell BK160.out 1).trans rfl
                  have hcz120_2 : wc.cell? ⟨gb160, 2, none⟩ = some (.int .i64 a2_2) := (blk_cell BK160.out 2).trans rfl
                  have hfz120_0 := blk_frozen BK160.out 0
                  have hfz120_1 := blk_frozen BK160.out 1
                  have hfz120_2 := blk_frozen BK160.out 2
                  go_wp2_with (first | ((with_reducible refine gate_dst (N := 113) rfl ?_); refine Kd.R_lit k214 _ 214 ?hg (N := 113) ?hd (xs := ([(⟨wrap64 (a1 + 1), (⟨true, (wrap64 ((wrap64 (a2_1 - t152)) + t153)), wrap64 (a2_2 - 1)⟩ : S144)⟩ : S214)] : List (S214))) (inner := [.int .i64 (wrap64 (a1 + 1)), .bool true, .int .i64 (wrap64 ((wrap64 (a2_1 - t152)) + t153)), .int .i64 (wrap64 (a2_2 - 1))]) (ok := fun _ => True) (okp := fun _ => True) ?hr ?hp (fun _ hk => hk) trivial (Below.refl _ _) (Nat.le_refl _) (by simp) ?_; (case hd => rfl); (case hg => rfl); (case hr => first | (go_simp; done) | (go_simp; rfl)); (case hp => exact (Reps.c4 (show Kd.M k214 _ _ _ (⟨wrap64 (a1 + 1), (⟨true, (wrap64 ((wrap64 (a2_1 - t152)) + t153)), wrap64 (a2_2 - 1)⟩ : S144)⟩ : S214) [.int .i64 (wrap64 (a1 + 1)), .bool true, .int .i64 (wrap64 ((wrap64 (a2_1 - t152)) + t153)), .int .i64 (wrap64 (a2_2 - 1))] from (k214_mkM _ _ _ (⟨wrap64 (a1 + 1), (⟨true, (wrap64 ((wrap64 (a2_1 - t152)) + t153)), wrap64 (a2_2 - 1)⟩ : S144)⟩ : S214) )) (Reps.none _ _))); intro v177 w121 ho122 hb hg_ hnew_; clear hg_ hnew_; (first | rw [← Ny176.out] at ho122 | (simp only [Int.reduceToNat] at ho122; rw [← Ny176.out] at ho122)); have n0_ := Aside0.mk (Kd.R_lower ho122 (keep_size (w := w) (g := g) (row := none) (by repeat (first | (with_reducible first | exact HK.out | apply KeepBut.set_ | apply keep_drewN | apply keep_drew | apply keep_alloc | refine keep_far ?_ GW149.out _ | refine keep_far ?_ GW151.out _ | refine keep_far ?_ GW159.out _ | refine keep_far ?_ GW160.out _) | exact HK.out)))); have n1_ := Aside0.mk (blk_below (g := gb149) (o := .cells #[.bool a2_0, .int .i64 a2_1, .int .i64 a2_2] 144 (0, 0)) (by (with_reducible repeat (first | refine blk_drewN ?_ _ | refine blk_drew ?_ | refine blk_alloc ?_ _)); refine blk_far ?_ NB149_160.out _; (with_reducible repeat (first | refine blk_drewN ?_ _ | refine blk_drew ?_ | refine blk_alloc ?_ _)); exact BK149.out) hb); have n2_ := Aside0.mk (blk_below (g := gb151) (o := .cells #[.int .i64 ((rd_T132 s0_10 a1).f0), .int .i64 ((rd_T132 s0_10 a1).f1), .int .i64 ((rd_T132 s0_10 a1).f2)] 132 (0, 0)) (by (with_reducible repeat (first | refine blk_drewN ?_ _ | refine blk_drew ?_ | refine blk_alloc ?_ _)); refine blk_far ?_ NB151_160.out _; (with_reducible repeat (first | refine blk_drewN ?_ _ | refine blk_drew ?_ | refine blk_alloc ?_ _)); exact BK151.out) hb); have n3_ := Aside0.mk (blk_below (g := gb159) (o := .cells #[.bool true, .int .i64 (wrap64 (a2_1 - t152)), .int .i64 a2_2] 144 (0, 0)) (by (with_reducible repeat (first | refine blk_drewN ?_ _ | refine blk_drew ?_ | refine blk_alloc ?_ _)); refine blk_far ?_ NB159_160.out _; (with_reducible repeat (first | refine blk_drewN ?_ _ | refine blk_drew ?_ | refine blk_alloc ?_ _)); exact BK159.out) hb); have n4_ := Aside0.mk (blk_below (g := gb160) (o := .cells #[.bool true, .int .i64 (wrap64 ((wrap64 (a2_1 - t152)) + t153)), .int .i64 (wrap64 (a2_2 - 1))] 144 (0, 0)) (by (with_reducible repeat (first | refine blk_drewN ?_ _ | refine blk_drew ?_ | refine blk_alloc ?_ _)); refine blk_put (cs := #[.bool true, .int .i64 (wrap64 ((wrap64 (a2_1 - t152)) + t153)), .int .i64 a2_2]) ?_ 2 _ rfl; (with_reducible repeat (first | refine blk_drewN ?_ _ | refine blk_drew ?_ | refine blk_alloc ?_ _)); exact BK160.out) hb); have n5_ := Aside0.mk (IsS139.below (show IsS139 w0 (wc.setCell ⟨gb160, 2, none⟩ (.int .i64 (wrap64 (a2_2 - 1)))) g s0_0 s0_1 s0_2 s0_3 t154 s0_5 s0_6 t155 t156 t157 s0_10 t158 from by repeat (first | (with_reducible first | exact HI0.out | apply IsS139.alloc | apply IsS139.drewN | apply IsS139.drew | apply IsS139.set_4 | apply IsS139.set_7 | apply IsS139.set_8 | apply IsS139.set_9 | apply IsS139.set_11 | refine IsS139.far ?_ NB0_149.out _ | refine IsS139.far ?_ NB0_151.out _ | refine IsS139.far ?_ NB0_159.out _ | refine IsS139.far ?_ NB0_160.out _) | exact HI0.out)) hb); have n6_ := Aside0.mk (KeepBut.trans (by repeat (first | (with_reducible first | exact HK.out | apply KeepBut.set_ | apply keep_drewN | apply keep_drew | apply keep_alloc | refine keep_far ?_ GW149.out _ | refine keep_far ?_ GW151.out _ | refine keep_far ?_ GW159.out _ | refine keep_far ?_ GW160.out _) | exact HK.out)) (KeepBut.of_below hb g none) (.inl rfl)); have n7_ := Aside0.mk (below_step (by repeat (first | (with_reducible first | exact HB.out | apply below_alloc | apply pw_below_drewN | apply below_drew1 | refine below_set ?_ (IsS139.ge HI0.out) | refine below_set ?_ GE149.out | refine below_set ?_ GE151.out | refine below_set ?_ GE159.out | refine below_set ?_ GE160.out) | exact HB.out)) hb); clear BK149; clear BK151; clear BK159; clear BK160; clear HI0; clear HK; clear HB; have HO178 := n0_; have BK149 := n1_; have BK151 := n2_; have BK159 := n3_; have BK160 := n4_; have HI0 := n5_; have HK := n6_; have HB := n7_; clear n0_ n1_ n2_ n3_ n4_ n5_ n6_ n7_; clear hb ho122))
                  go_ret
                  exact ⟨_, by first | rfl | (simp [errW_none, errW_some] <;> rfl) | (simp [*, errW_none, errW_some] <;> rfl), by (with_reducible repeat (first | apply Kd.R_alloc | apply Kd.R_drewN | apply Kd.R_drew)); exact HO178.out, by repeat (first | (with_reducible first | exact HI0.out | apply IsS139.alloc | apply IsS139.drewN | apply IsS139.drew | apply IsS139.set_4 | apply IsS139.set_7 | apply IsS139.set_8 | apply IsS139.set_9 | apply IsS139.set_11 | refine IsS139.far ?_ NB0_149.out _ | refine IsS139.far ?_ NB0_151.out _ | refine IsS139.far ?_ NB0_159.out _ | refine IsS139.far ?_ NB0_160.out _) | exact HI0.out), by repeat (first | (with_reducible first | exact HB.out | apply below_alloc | apply pw_below_drewN | apply below_drew1 | refine below_set ?_ (IsS139.ge HI0.out) | refine below_set ?_ GE149.out | refine below_set ?_ GE151.out | refine below_set ?_ GE159.out | refine below_set ?_ GE160.out) | exact HB.out), by repeat (first | (with_reducible first | exact HK.out | apply KeepBut.set_ | apply keep_drewN | apply keep_drew | apply keep_alloc | refine keep_far ?_ GW149.out _ | refine keep_far ?_ GW151.out _ | refine keep_far ?_ GW159.out _ | refine keep_far ?_ GW160.out _) | exact HK.out)⟩
                 ·rw [if_neg c115] at H
                  have c115b0 : (((rd_T132 s0_10 a1).f0) == 23) = false := beq_eq_false_iff_ne.mpr c115
                  have c115b1 : (((rd_T132 s0_10 a1).f0) != 23) = true := bne_iff_ne.mpr c115
                  obtain ⟨y179, hy179⟩ : ∃ y_ : List (S214), y_ = (([(⟨wrap64 (a1 + 1), (⟨true, (wrap64 ((wrap64 (a2_1 - t152)) + t153)), a2_2⟩ : S144)⟩ : S214)] : List (S214))) := ⟨_, rfl⟩
                  replace H : (some (y179, t154, t155, t156, t157, t158)) = some (r1, r2, r3, r4, r5, r6) := by first | (rw [hy179]; with_reducible exact H) | (have H2_ := (Option.bind_some _ _).symm.trans H; rw [hy179]; with_reducible exact H2_) | (have H2_ := (Option.bind_some _ _).symm.trans H; with_reducible exact H2_) | with_reducible exact H | (rw [hy179]; exact H) | exact H
                  have Ny179 := Aside0.mk hy179
                  clear hy179
                  simp only [Option.some.injEq, Prod.mk.injEq] at H
                  obtain ⟨rfl, rfl, rfl, rfl, rfl, rfl⟩ := H
                  have hnb123 := NB160_149.out
                  have hnc123 := NB149_160.out
                  have hnb124 := NB160_151.out
                  have hnc124 := NB151_160.out
                  have hnb125 := NB160_159.out
                  have hnc125 := NB159_160.out
                  have hnb126 := NB160_0.out
                  have hnc126 := NB0_160.out
                  have hcz127_0 : wc.cell? ⟨gb160, 0, none⟩ = some (.bool true) := (blk_cell BK160.out 0).trans rfl
                  have hcz127_1 : wc.cell? ⟨gb160, 1, none⟩ = some (.int .i64 (wrap64 ((wrap64 (a2_1 - t152)) + t153))) := (blk_cell BK160.out 1).trans rfl
                  have hcz127_2 : wc.cell? ⟨gb160, 2, none⟩ = some (.int .i64 a2_2) := (blk_cell BK160.out 2).trans rfl
                  have hfz127_0 := blk_frozen BK160.out 0
                  have hfz127_1 := blk_frozen BK160.out 1
                  have hfz127_2 := blk_frozen BK160.out 2
                  go_wp2_with (first | ((with_reducible refine gate_dst (N := 113) rfl ?_); refine Kd.R_lit k214 _ 214 ?hg (N := 113) ?hd (xs := ([(⟨wrap64 (a1 + 1), (⟨true, (wrap64 ((wrap64 (a2_1 - t152)) + t153)), a2_2⟩ : S144)⟩ : S214)] : List (S214))) (inner := [.int .i64 (wrap64 (a1 + 1)), .bool true, .int .i64 (wrap64 ((wrap64 (a2_1 - t152)) + t153)), .int .i64 a2_2]) (ok := fun _ => True) (okp := fun _ => True) ?hr ?hp (fun _ hk => hk) trivial (Below.refl _ _) (Nat.le_refl _) (by simp) ?_; (case hd => rfl); (case hg => rfl); (case hr => first | (go_simp; done) | (go_simp; rfl)); (case hp => exact (Reps.c4 (show Kd.M k214 _ _ _ (⟨wrap64 (a1 + 1), (⟨true, (wrap64 ((wrap64 (a2_1 - t152)) + t153)), a2_2⟩ : S144)⟩ : S214) [.int .i64 (wrap64 (a1 + 1)), .bool true, .int .i64 (wrap64 ((wrap64 (a2_1 - t152)) + t153)), .int .i64 a2_2] from (k214_mkM _ _ _ (⟨wrap64 (a1 + 1), (⟨true, (wrap64 ((wrap64 (a2_1 - t152)) + t153)), a2_2⟩ : S144)⟩ : S214) )) (Reps.none _ _))); intro v180 w128 ho129 hb hg_ hnew_; clear hg_ hnew_; (first | rw [← Ny179.out] at ho129 | (simp only [Int.reduceToNat] at ho129; rw [← Ny179.out] at ho129)); have n0_ := Aside0.mk (Kd.R_lower ho129 (keep_size (w := w) (g := g) (row := none) (by repeat (first | (with_reducible first | exact HK.out | apply KeepBut.set_ | apply keep_drewN | apply keep_drew | apply keep_alloc | refine keep_far ?_ GW149.out _ | refine keep_far ?_ GW151.out _ | refine keep_far ?_ GW159.out _ | refine keep_far ?_ GW160.out _) | exact HK.out)))); have n1_ := Aside0.mk (blk_below (g := gb149) (o := .cells #[.bool a2_0, .int .i64 a2_1, .int .i64 a2_2] 144 (0, 0)) (by (with_reducible repeat (first | refine blk_drewN ?_ _ | refine blk_drew ?_ | refine blk_alloc ?_ _)); exact BK149.out) hb); have n2_ := Aside0.mk (blk_below (g := gb151) (o := .cells #[.int .i64 ((rd_T132 s0_10 a1).f0), .int .i64 ((rd_T132 s0_10 a1).f1), .int .i64 ((rd_T132 s0_10 a1).f2)] 132 (0, 0)) (by (with_reducible repeat (first | refine blk_drewN ?_ _ | refine blk_drew ?_ | refine blk_alloc ?_ _)); exact BK151.out) hb); have n3_ := Aside0.mk (blk_below (g := gb159) (o := .cells #[.bool true, .int .i64 (wrap64 (a2_1 - t152)), .int .i64 a2_2] 144 (0, 0)) (by (with_reducible repeat (first | refine blk_drewN ?_ _ | refine blk_drew ?_ | refine blk_alloc ?_ _)); exact BK159.out) hb); have n4_ := Aside0.mk (blk_below (g := gb160) (o := .cells #[.bool true, .int .i64 (wrap64 ((wrap64 (a2_1 - t152)) + t153)), .int .i64 a2_2] 144 (0, 0)) (by (with_reducible repeat (first | refine blk_drewN ?_ _ | refine blk_drew ?_ | refine blk_alloc ?_ _)); exact BK160.out) hb); have n5_ := Aside0.mk (IsS139.below (by repeat (first | (with_reducible first | exact HI0.out | apply IsS139.alloc | apply IsS139.drewN | apply IsS139.drew | apply IsS139.set_4 | apply IsS139.set_7 | apply IsS139.set_8 | apply IsS139.set_9 | apply IsS139.set_11 | refine IsS139.far ?_ NB0_149.out _ | refine IsS139.far ?_ NB0_151.out _ | refine IsS139.far ?_ NB0_159.out _ | refine IsS139.far ?_ NB0_160.out _) | exact HI0.out)) hb); have n6_ := Aside0.mk (KeepBut.trans (by repeat (first | (with_reducible first | exact HK.out | apply KeepBut.set_ | apply keep_drewN | apply keep_drew | apply keep_alloc | refine keep_far ?_ GW149.out _ | refine keep_far ?_ GW151.out _ | refine keep_far ?_ GW159.out _ | refine keep_far ?_ GW160.out _) | exact HK.out)) (KeepBut.of_below hb g none) (.inl rfl)); have n7_ := Aside0.mk (below_step (by repeat (first | (with_reducible first | exact HB.out | apply below_alloc | apply pw_below_drewN | apply below_drew1 | refine below_set ?_ (IsS139.ge HI0.out) | refine below_set ?_ GE149.out | refine below_set ?_ GE151.out | refine below_set ?_ GE159.out | refine below_set ?_ GE160.out) | exact HB.out)) hb); clear BK149; clear BK151; clear BK159; clear BK160; clear HI0; clear HK; clear HB; have HO181 := n0_; have BK149 := n1_; have BK151 := n2_; have BK159 := n3_; have BK160 := n4_; have HI0 := n5_; have HK := n6_; have HB := n7_; clear n0_ n1_ n2_ n3_ n4_ n5_ n6_ n7_; clear hb ho129))
                  go_ret
                  exact ⟨_, by first | rfl | (simp [errW_none, errW_some] <;> rfl) | (simp [*, errW_none, errW_some] <;> rfl), by (with_reducible repeat (first | apply Kd.R_alloc | apply Kd.R_drewN | apply Kd.R_drew)); exact HO181.out, by repeat (first | (with_reducible first | exact HI0.out | apply IsS139.alloc | apply IsS139.drewN | apply IsS139.drew | apply IsS139.set_4 | apply IsS139.set_7 | apply IsS139.set_8 | apply IsS139.set_9 | apply IsS139.set_11 | refine IsS139.far ?_ NB0_149.out _ | refine IsS139.far ?_ NB0_151.out _ | refine IsS139.far ?_ NB0_159.out _ | refine IsS139.far ?_ NB0_160.out _) | exact HI0.out), by repeat (first | (with_reducible first | exact HB.out | apply below_alloc | apply pw_below_drewN | apply below_drew1 | refine below_set ?_ (IsS139.ge HI0.out) | refine below_set ?_ GE149.out | refine below_set ?_ GE151.out | refine below_set ?_ GE159.out | refine below_set ?_ GE160.out) | exact HB.out), by repeat (first | (with_reducible first | exact HK.out | apply KeepBut.set_ | apply keep_drewN | apply keep_drew | apply keep_alloc | refine keep_far ?_ GW149.out _ | refine keep_far ?_ GW151.out _ | refine keep_far ?_ GW159.out _ | refine keep_far ?_ GW160.out _) | exact HK.out)⟩
  ·rw [if_neg c5] at H
   exact absurd H (by simp)
 ·rw [if_neg c4] at H
  exact absurd H (by simp)
end Go.Proofs.YtibbcfeaododhaaGreatDoor.PCa
