-- Printed by the kit's print.py over several roots at once (printall.sh)
import Derived.Test.YtibbcfeaododhaaGreatDoorKPCax0
namespace Go.Proofs.YtibbcfeaododhaaGreatDoor.PCa
open Go.RowKit Go.Proofs.YtibbcfeaododhaaGreatDoorW.PrintWords Go.Proofs.YtibbcfeaododhaaGreatDoorW.PrintLast Go.Proofs.YtibbcfeaododhaaGreatDoorW.PrintMore
attribute [local go_sem] max2_int min2_int max_two min_two max_three min_three max_four min_four   -- for this text's walks alone
set_option linter.unusedVariables false
set_option linter.unusedSimpArgs false
/-- A state of type 139 at block g of W; what its slices lead to came in by w0. -/
def IsS139 (w0 W : World) (g : Nat) (f0 : List (S27)) (f1 : List (S128)) (f2 : List (S44)) (f3 : List (S44)) (f4 : ByteArray) (f5 : List Int) (f6 : List (S135)) (f7 : ByteArray) (f8 : Int) (f9 : Int) (f10 : List (S132)) (f11 : Int) : Prop := ∃ A0 c0, ∃ A1 c1, ∃ A2 c2, ∃ A3 c3, ∃ A5 c5, ∃ A6 c6, ∃ A10 c10, W.heap[g]? = some (.cells #[.slice A0 f0.length c0, .slice A1 f1.length c1, .slice A2 f2.length c2, .slice A3 f3.length c3, .string f4, .slice A5 f5.length c5, .slice A6 f6.length c6, .string f7, .int .i64 f8, .int .i64 f9, .slice A10 f10.length c10, .int .i64 f11] 139 (0, 0)) ∧ w0.heap.size ≤ g ∧ Kd.C k27 w0 A0 f0.length f0 ∧ Kd.C k128 w0 A1 f1.length f1 ∧ Kd.C k44 w0 A2 f2.length f2 ∧ Kd.C k44 w0 A3 f3.length f3 ∧ Kd.C (Kd.int .i64) w0 A5 f5.length f5 ∧ Kd.C k135 w0 A6 f6.length f6 ∧ Kd.C k132 w0 A10 f10.length f10
theorem IsS139.grown {w0 W : World} {g : Nat} {f0 : List (S27)} {f1 : List (S128)} {f2 : List (S44)} {f3 : List (S44)} {f4 : ByteArray} {f5 : List Int} {f6 : List (S135)} {f7 : ByteArray} {f8 : Int} {f9 : Int} {f10 : List (S132)} {f11 : Int} {W1 : World} {row : Option Nat} (h : IsS139 w0 W g f0 f1 f2 f3 f4 f5 f6 f7 f8 f9 f10 f11) (hw : W.grownBy W1 row) (hne : some g ≠ row) : IsS139 w0 W1 g f0 f1 f2 f3 f4 f5 f6 f7 f8 f9 f10 f11 := by
 obtain ⟨A0, c0, A1, c1, A2, c2, A3, c3, A5, c5, A6, c6, A10, c10, hb, hg, hr0, hr1, hr2, hr3, hr5, hr6, hr10⟩ := h
 exact ⟨A0, c0, A1, c1, A2, c2, A3, c3, A5, c5, A6, c6, A10, c10, blk_grown hb hw hne, hg, hr0, hr1, hr2, hr3, hr5, hr6, hr10⟩
theorem IsS139.below {w0 W : World} {g : Nat} {f0 : List (S27)} {f1 : List (S128)} {f2 : List (S44)} {f3 : List (S44)} {f4 : ByteArray} {f5 : List Int} {f6 : List (S135)} {f7 : ByteArray} {f8 : Int} {f9 : Int} {f10 : List (S132)} {f11 : Int} {W1 : World} (h : IsS139 w0 W g f0 f1 f2 f3 f4 f5 f6 f7 f8 f9 f10 f11) (hw : Below W.heap.size W W1) : IsS139 w0 W1 g f0 f1 f2 f3 f4 f5 f6 f7 f8 f9 f10 f11 := h.grown (grown_of_below hw none) (by simp)
theorem IsS139.drewN {w0 W : World} {g : Nat} {f0 : List (S27)} {f1 : List (S128)} {f2 : List (S44)} {f3 : List (S44)} {f4 : ByteArray} {f5 : List Int} {f6 : List (S135)} {f7 : ByteArray} {f8 : Int} {f9 : Int} {f10 : List (S132)} {f11 : Int} (h : IsS139 w0 W g f0 f1 f2 f3 f4 f5 f6 f7 f8 f9 f10 f11) (m : Nat) : IsS139 w0 (W.drewN m) g f0 f1 f2 f3 f4 f5 f6 f7 f8 f9 f10 f11 := h
theorem IsS139.drew {w0 W : World} {g : Nat} {f0 : List (S27)} {f1 : List (S128)} {f2 : List (S44)} {f3 : List (S44)} {f4 : ByteArray} {f5 : List Int} {f6 : List (S135)} {f7 : ByteArray} {f8 : Int} {f9 : Int} {f10 : List (S132)} {f11 : Int} (h : IsS139 w0 W g f0 f1 f2 f3 f4 f5 f6 f7 f8 f9 f10 f11) : IsS139 w0 W.drew g f0 f1 f2 f3 f4 f5 f6 f7 f8 f9 f10 f11 := h
theorem IsS139.lt {w0 W : World} {g : Nat} {f0 : List (S27)} {f1 : List (S128)} {f2 : List (S44)} {f3 : List (S44)} {f4 : ByteArray} {f5 : List Int} {f6 : List (S135)} {f7 : ByteArray} {f8 : Int} {f9 : Int} {f10 : List (S132)} {f11 : Int} (h : IsS139 w0 W g f0 f1 f2 f3 f4 f5 f6 f7 f8 f9 f10 f11) : g < W.heap.size := by
 obtain ⟨A0, c0, A1, c1, A2, c2, A3, c3, A5, c5, A6, c6, A10, c10, hb, hg, hr0, hr1, hr2, hr3, hr5, hr6, hr10⟩ := h
 exact blk_lt hb
theorem IsS139.ge {w0 W : World} {g : Nat} {f0 : List (S27)} {f1 : List (S128)} {f2 : List (S44)} {f3 : List (S44)} {f4 : ByteArray} {f5 : List Int} {f6 : List (S135)} {f7 : ByteArray} {f8 : Int} {f9 : Int} {f10 : List (S132)} {f11 : Int} (h : IsS139 w0 W g f0 f1 f2 f3 f4 f5 f6 f7 f8 f9 f10 f11) : w0.heap.size ≤ g := by
 obtain ⟨A0, c0, A1, c1, A2, c2, A3, c3, A5, c5, A6, c6, A10, c10, hb, hg, hr0, hr1, hr2, hr3, hr5, hr6, hr10⟩ := h
 exact hg
theorem IsS139.far {w0 W : World} {g : Nat} {f0 : List (S27)} {f1 : List (S128)} {f2 : List (S44)} {f3 : List (S44)} {f4 : ByteArray} {f5 : List Int} {f6 : List (S135)} {f7 : ByteArray} {f8 : Int} {f9 : Int} {f10 : List (S132)} {f11 : Int} {p : Addr} (h : IsS139 w0 W g f0 f1 f2 f3 f4 f5 f6 f7 f8 f9 f10 f11) (hne : g ≠ p.block) (u : Value) : IsS139 w0 (W.setCell p u) g f0 f1 f2 f3 f4 f5 f6 f7 f8 f9 f10 f11 := by
 obtain ⟨A0, c0, A1, c1, A2, c2, A3, c3, A5, c5, A6, c6, A10, c10, hb, hg, hr0, hr1, hr2, hr3, hr5, hr6, hr10⟩ := h
 exact ⟨A0, c0, A1, c1, A2, c2, A3, c3, A5, c5, A6, c6, A10, c10, blk_far hb hne u, hg, hr0, hr1, hr2, hr3, hr5, hr6, hr10⟩
theorem cellS139_0 {W : World} {g : Nat} {A0 : Option Addr} {c0 : Nat} {A1 : Option Addr} {c1 : Nat} {A2 : Option Addr} {c2 : Nat} {A3 : Option Addr} {c3 : Nat} {A5 : Option Addr} {c5 : Nat} {A6 : Option Addr} {c6 : Nat} {A10 : Option Addr} {c10 : Nat} {f0 : List (S27)} {f1 : List (S128)} {f2 : List (S44)} {f3 : List (S44)} {f4 : ByteArray} {f5 : List Int} {f6 : List (S135)} {f7 : ByteArray} {f8 : Int} {f9 : Int} {f10 : List (S132)} {f11 : Int} (h : W.heap[g]? = some (.cells #[.slice A0 f0.length c0, .slice A1 f1.length c1, .slice A2 f2.length c2, .slice A3 f3.length c3, .string f4, .slice A5 f5.length c5, .slice A6 f6.length c6, .string f7, .int .i64 f8, .int .i64 f9, .slice A10 f10.length c10, .int .i64 f11] 139 (0, 0))) : W.cell? ⟨g, 0, none⟩ = some (.slice A0 f0.length c0) := (blk_cell h 0).trans rfl
theorem cellS139_1 {W : World} {g : Nat} {A0 : Option Addr} {c0 : Nat} {A1 : Option Addr} {c1 : Nat} {A2 : Option Addr} {c2 : Nat} {A3 : Option Addr} {c3 : Nat} {A5 : Option Addr} {c5 : Nat} {A6 : Option Addr} {c6 : Nat} {A10 : Option Addr} {c10 : Nat} {f0 : List (S27)} {f1 : List (S128)} {f2 : List (S44)} {f3 : List (S44)} {f4 : ByteArray} {f5 : List Int} {f6 : List (S135)} {f7 : ByteArray} {f8 : Int} {f9 : Int} {f10 : List (S132)} {f11 : Int} (h : W.heap[g]? = some (.cells #[.slice A0 f0.length c0, .slice A1 f1.length c1, .slice A2 f2.length c2, .slice A3 f3.length c3, .string f4, .slice A5 f5.length c5, .slice A6 f6.length c6, .string f7, .int .i64 f8, .int .i64 f9, .slice A10 f10.length c10, .int .i64 f11] 139 (0, 0))) : W.cell? ⟨g, 1, none⟩ = some (.slice A1 f1.length c1) := (blk_cell h 1).trans rfl
theorem cellS139_2 {W : World} {g : Nat} {A0 : Option Addr} {c0 : Nat} {A1 : Option Addr} {c1 : Nat} {A2 : Option Addr} {c2 : Nat} {A3 : Option Addr} {c3 : Nat} {A5 : Option Addr} {c5 : Nat} {A6 : Option Addr} {c6 : Nat} {A10 : Option Addr} {c10 : Nat} {f0 : List (S27)} {f1 : List (S128)} {f2 : List (S44)} {f3 : List (S44)} {f4 : ByteArray} {f5 : List Int} {f6 : List (S135)} {f7 : ByteArray} {f8 : Int} {f9 : Int} {f10 : List (S132)} {f11 : Int} (h : W.heap[g]? = some (.cells #[.slice A0 f0.length c0, .slice A1 f1.length c1, .slice A2 f2.length c2, .slice A3 f3.length c3, .string f4, .slice A5 f5.length c5, .slice A6 f6.length c6, .string f7, .int .i64 f8, .int .i64 f9, .slice A10 f10.length c10, .int .i64 f11] 139 (0, 0))) : W.cell? ⟨g, 2, none⟩ = some (.slice A2 f2.length c2) := (blk_cell h 2).trans rfl
theorem cellS139_3 {W : World} {g : Nat} {A0 : Option Addr} {c0 : Nat} {A1 : Option Addr} {c1 : Nat} {A2 : Option Addr} {c2 : Nat} {A3 : Option Addr} {c3 : Nat} {A5 : Option Addr} {c5 : Nat} {A6 : Option Addr} {c6 : Nat} {A10 : Option Addr} {c10 : Nat} {f0 : List (S27)} {f1 : List (S128)} {f2 : List (S44)} {f3 : List (S44)} {f4 : ByteArray} {f5 : List Int} {f6 : List (S135)} {f7 : ByteArray} {f8 : Int} {f9 : Int} {f10 : List (S132)} {f11 : Int} (h : W.heap[g]? = some (.cells #[.slice A0 f0.length c0, .slice A1 f1.length c1, .slice A2 f2.length c2, .slice A3 f3.length c3, .string f4, .slice A5 f5.length c5, .slice A6 f6.length c6, .string f7, .int .i64 f8, .int .i64 f9, .slice A10 f10.length c10, .int .i64 f11] 139 (0, 0))) : W.cell? ⟨g, 3, none⟩ = some (.slice A3 f3.length c3) := (blk_cell h 3).trans rfl
theorem cellS139_4 {W : World} {g : Nat} {A0 : Option Addr} {c0 : Nat} {A1 : Option Addr} {c1 : Nat} {A2 : Option Addr} {c2 : Nat} {A3 : Option Addr} {c3 : Nat} {A5 : Option Addr} {c5 : Nat} {A6 : Option Addr} {c6 : Nat} {A10 : Option Addr} {c10 : Nat} {f0 : List (S27)} {f1 : List (S128)} {f2 : List (S44)} {f3 : List (S44)} {f4 : ByteArray} {f5 : List Int} {f6 : List (S135)} {f7 : ByteArray} {f8 : Int} {f9 : Int} {f10 : List (S132)} {f11 : Int} (h : W.heap[g]? = some (.cells #[.slice A0 f0.length c0, .slice A1 f1.length c1, .slice A2 f2.length c2, .slice A3 f3.length c3, .string f4, .slice A5 f5.length c5, .slice A6 f6.length c6, .string f7, .int .i64 f8, .int .i64 f9, .slice A10 f10.length c10, .int .i64 f11] 139 (0, 0))) : W.cell? ⟨g, 4, none⟩ = some (.string f4) := (blk_cell h 4).trans rfl
theorem IsS139.set_4 {w0 W : World} {g : Nat} {f0 : List (S27)} {f1 : List (S128)} {f2 : List (S44)} {f3 : List (S44)} {f4 : ByteArray} {f5 : List Int} {f6 : List (S135)} {f7 : ByteArray} {f8 : Int} {f9 : Int} {f10 : List (S132)} {f11 : Int} (h : IsS139 w0 W g f0 f1 f2 f3 f4 f5 f6 f7 f8 f9 f10 f11) (x : ByteArray) : IsS139 w0 (W.setCell ⟨g, 4, none⟩ (.string x)) g f0 f1 f2 f3 x f5 f6 f7 f8 f9 f10 f11 := by
 obtain ⟨A0, c0, A1, c1, A2, c2, A3, c3, A5, c5, A6, c6, A10, c10, hb, hg, hr0, hr1, hr2, hr3, hr5, hr6, hr10⟩ := h
 exact ⟨A0, c0, A1, c1, A2, c2, A3, c3, A5, c5, A6, c6, A10, c10, by simpa using blk_set hb 4 (.string x), hg, hr0, hr1, hr2, hr3, hr5, hr6, hr10⟩
theorem cellS139_5 {W : World} {g : Nat} {A0 : Option Addr} {c0 : Nat} {A1 : Option Addr} {c1 : Nat} {A2 : Option Addr} {c2 : Nat} {A3 : Option Addr} {c3 : Nat} {A5 : Option Addr} {c5 : Nat} {A6 : Option Addr} {c6 : Nat} {A10 : Option Addr} {c10 : Nat} {f0 : List (S27)} {f1 : List (S128)} {f2 : List (S44)} {f3 : List (S44)} {f4 : ByteArray} {f5 : List Int} {f6 : List (S135)} {f7 : ByteArray} {f8 : Int} {f9 : Int} {f10 : List (S132)} {f11 : Int} (h : W.heap[g]? = some (.cells #[.slice A0 f0.length c0, .slice A1 f1.length c1, .slice A2 f2.length c2, .slice A3 f3.length c3, .string f4, .slice A5 f5.length c5, .slice A6 f6.length c6, .string f7, .int .i64 f8, .int .i64 f9, .slice A10 f10.length c10, .int .i64 f11] 139 (0, 0))) : W.cell? ⟨g, 5, none⟩ = some (.slice A5 f5.length c5) := (blk_cell h 5).trans rfl
theorem cellS139_6 {W : World} {g : Nat} {A0 : Option Addr} {c0 : Nat} {A1 : Option Addr} {c1 : Nat} {A2 : Option Addr} {c2 : Nat} {A3 : Option Addr} {c3 : Nat} {A5 : Option Addr} {c5 : Nat} {A6 : Option Addr} {c6 : Nat} {A10 : Option Addr} {c10 : Nat} {f0 : List (S27)} {f1 : List (S128)} {f2 : List (S44)} {f3 : List (S44)} {f4 : ByteArray} {f5 : List Int} {f6 : List (S135)} {f7 : ByteArray} {f8 : Int} {f9 : Int} {f10 : List (S132)} {f11 : Int} (h : W.heap[g]? = some (.cells #[.slice A0 f0.length c0, .slice A1 f1.length c1, .slice A2 f2.length c2, .slice A3 f3.length c3, .string f4, .slice A5 f5.length c5, .slice A6 f6.length c6, .string f7, .int .i64 f8, .int .i64 f9, .slice A10 f10.length c10, .int .i64 f11] 139 (0, 0))) : W.cell? ⟨g, 6, none⟩ = some (.slice A6 f6.length c6) := (blk_cell h 6).trans rfl
theorem cellS139_7 {W : World} {g : Nat} {A0 : Option Addr} {c0 : Nat} {A1 : Option Addr} {c1 : Nat} {A2 : Option Addr} {c2 : Nat} {A3 : Option Addr} {c3 : Nat} {A5 : Option Addr} {c5 : Nat} {A6 : Option Addr} {c6 : Nat} {A10 : Option Addr} {c10 : Nat} {f0 : List (S27)} {f1 : List (S128)} {f2 : List (S44)} {f3 : List (S44)} {f4 : ByteArray} {f5 : List Int} {f6 : List (S135)} {f7 : ByteArray} {f8 : Int} {f9 : Int} {f10 : List (S132)} {f11 : Int} (h : W.heap[g]? = some (.cells #[.slice A0 f0.length c0, .slice A1 f1.length c1, .slice A2 f2.length c2, .slice A3 f3.length c3, .string f4, .slice A5 f5.length c5, .slice A6 f6.length c6, .string f7, .int .i64 f8, .int .i64 f9, .slice A10 f10.length c10, .int .i64 f11] 139 (0, 0))) : W.cell? ⟨g, 7, none⟩ = some (.string f7) := (blk_cell h 7).trans rfl
theorem IsS139.set_7 {w0 W : World} {g : Nat} {f0 : List (S27)} {f1 : List (S128)} {f2 : List (S44)} {f3 : List (S44)} {f4 : ByteArray} {f5 : List Int} {f6 : List (S135)} {f7 : ByteArray} {f8 : Int} {f9 : Int} {f10 : List (S132)} {f11 : Int} (h : IsS139 w0 W g f0 f1 f2 f3 f4 f5 f6 f7 f8 f9 f10 f11) (x : ByteArray) : IsS139 w0 (W.setCell ⟨g, 7, none⟩ (.string x)) g f0 f1 f2 f3 f4 f5 f6 x f8 f9 f10 f11 := by
 obtain ⟨A0, c0, A1, c1, A2, c2, A3, c3, A5, c5, A6, c6, A10, c10, hb, hg, hr0, hr1, hr2, hr3, hr5, hr6, hr10⟩ := h
 exact ⟨A0, c0, A1, c1, A2, c2, A3, c3, A5, c5, A6, c6, A10, c10, by simpa using blk_set hb 7 (.string x), hg, hr0, hr1, hr2, hr3, hr5, hr6, hr10⟩
theorem cellS139_8 {W : World} {g : Nat} {A0 : Option Addr} {c0 : Nat} {A1 : Option Addr} {c1 : Nat} {A2 : Option Addr} {c2 : Nat} {A3 : Option Addr} {c3 : Nat} {A5 : Option Addr} {c5 : Nat} {A6 : Option Addr} {c6 : Nat} {A10 : Option Addr} {c10 : Nat} {f0 : List (S27)} {f1 : List (S128)} {f2 : List (S44)} {f3 : List (S44)} {f4 : ByteArray} {f5 : List Int} {f6 : List (S135)} {f7 : ByteArray} {f8 : Int} {f9 : Int} {f10 : List (S132)} {f11 : Int} (h : W.heap[g]? = some (.cells #[.slice A0 f0.length c0, .slice A1 f1.length c1, .slice A2 f2.length c2, .slice A3 f3.length c3, .string f4, .slice A5 f5.length c5, .slice A6 f6.length c6, .string f7, .int .i64 f8, .int .i64 f9, .slice A10 f10.length c10, .int .i64 f11] 139 (0, 0))) : W.cell? ⟨g, 8, none⟩ = some (.int .i64 f8) := (blk_cell h 8).trans rfl
theorem IsS139.set_8 {w0 W : World} {g : Nat} {f0 : List (S27)} {f1 : List (S128)} {f2 : List (S44)} {f3 : List (S44)} {f4 : ByteArray} {f5 : List Int} {f6 : List (S135)} {f7 : ByteArray} {f8 : Int} {f9 : Int} {f10 : List (S132)} {f11 : Int} (h : IsS139 w0 W g f0 f1 f2 f3 f4 f5 f6 f7 f8 f9 f10 f11) (x : Int) : IsS139 w0 (W.setCell ⟨g, 8, none⟩ (.int .i64 x)) g f0 f1 f2 f3 f4 f5 f6 f7 x f9 f10 f11 := by
 obtain ⟨A0, c0, A1, c1, A2, c2, A3, c3, A5, c5, A6, c6, A10, c10, hb, hg, hr0, hr1, hr2, hr3, hr5, hr6, hr10⟩ := h
 exact ⟨A0, c0, A1, c1, A2, c2, A3, c3, A5, c5, A6, c6, A10, c10, by simpa using blk_set hb 8 (.int .i64 x), hg, hr0, hr1, hr2, hr3, hr5, hr6, hr10⟩
theorem cellS139_9 {W : World} {g : Nat} {A0 : Option Addr} {c0 : Nat} {A1 : Option Addr} {c1 : Nat} {A2 : Option Addr} {c2 : Nat} {A3 : Option Addr} {c3 : Nat} {A5 : Option Addr} {c5 : Nat} {A6 : Option Addr} {c6 : Nat} {A10 : Option Addr} {c10 : Nat} {f0 : List (S27)} {f1 : List (S128)} {f2 : List (S44)} {f3 : List (S44)} {f4 : ByteArray} {f5 : List Int} {f6 : List (S135)} {f7 : ByteArray} {f8 : Int} {f9 : Int} {f10 : List (S132)} {f11 : Int} (h : W.heap[g]? = some (.cells #[.slice A0 f0.length c0, .slice A1 f1.length c1, .slice A2 f2.length c2, .slice A3 f3.length c3, .string f4, .slice A5 f5.length c5, .slice A6 f6.length c6, .string f7, .int .i64 f8, .int .i64 f9, .slice A10 f10.length c10, .int .i64 f11] 139 (0, 0))) : W.cell? ⟨g, 9, none⟩ = some (.int .i64 f9) := (blk_cell h 9).trans rfl
theorem IsS139.set_9 {w0 W : World} {g : Nat} {f0 : List (S27)} {f1 : List (S128)} {f2 : List (S44)} {f3 : List (S44)} {f4 : ByteArray} {f5 : List Int} {f6 : List (S135)} {f7 : ByteArray} {f8 : Int} {f9 : Int} {f10 : List (S132)} {f11 : Int} (h : IsS139 w0 W g f0 f1 f2 f3 f4 f5 f6 f7 f8 f9 f10 f11) (x : Int) : IsS139 w0 (W.setCell ⟨g, 9, none⟩ (.int .i64 x)) g f0 f1 f2 f3 f4 f5 f6 f7 f8 x f10 f11 := by
 obtain ⟨A0, c0, A1, c1, A2, c2, A3, c3, A5, c5, A6, c6, A10, c10, hb, hg, hr0, hr1, hr2, hr3, hr5, hr6, hr10⟩ := h
 exact ⟨A0, c0, A1, c1, A2, c2, A3, c3, A5, c5, A6, c6, A10, c10, by simpa using blk_set hb 9 (.int .i64 x), hg, hr0, hr1, hr2, hr3, hr5, hr6, hr10⟩
theorem cellS139_10 {W : World} {g : Nat} {A0 : Option Addr} {c0 : Nat} {A1 : Option Addr} {c1 : Nat} {A2 : Option Addr} {c2 : Nat} {A3 : Option Addr} {c3 : Nat} {A5 : Option Addr} {c5 : Nat} {A6 : Option Addr} {c6 : Nat} {A10 : Option Addr} {c10 : Nat} {f0 : List (S27)} {f1 : List (S128)} {f2 : List (S44)} {f3 : List (S44)} {f4 : ByteArray} {f5 : List Int} {f6 : List (S135)} {f7 : ByteArray} {f8 : Int} {f9 : Int} {f10 : List (S132)} {f11 : Int} (h : W.heap[g]? = some (.cells #[.slice A0 f0.length c0, .slice A1 f1.length c1, .slice A2 f2.length c2, .slice A3 f3.length c3, .string f4, .slice A5 f5.length c5, .slice A6 f6.length c6, .string f7, .int .i64 f8, .int .i64 f9, .slice A10 f10.length c10, .int .i64 f11] 139 (0, 0))) : W.cell? ⟨g, 10, none⟩ = some (.slice A10 f10.length c10) := (blk_cell h 10).trans rfl
theorem cellS139_11 {W : World} {g : Nat} {A0 : Option Addr} {c0 : Nat} {A1 : Option Addr} {c1 : Nat} {A2 : Option Addr} {c2 : Nat} {A3 : Option Addr} {c3 : Nat} {A5 : Option Addr} {c5 : Nat} {A6 : Option Addr} {c6 : Nat} {A10 : Option Addr} {c10 : Nat} {f0 : List (S27)} {f1 : List (S128)} {f2 : List (S44)} {f3 : List (S44)} {f4 : ByteArray} {f5 : List Int} {f6 : List (S135)} {f7 : ByteArray} {f8 : Int} {f9 : Int} {f10 : List (S132)} {f11 : Int} (h : W.heap[g]? = some (.cells #[.slice A0 f0.length c0, .slice A1 f1.length c1, .slice A2 f2.length c2, .slice A3 f3.length c3, .string f4, .slice A5 f5.length c5, .slice A6 f6.length c6, .string f7, .int .i64 f8, .int .i64 f9, .slice A10 f10.length c10, .int .i64 f11] 139 (0, 0))) : W.cell? ⟨g, 11, none⟩ = some (.int .i64 f11) := (blk_cell h 11).trans rfl
theorem IsS139.set_11 {w0 W : World} {g : Nat} {f0 : List (S27)} {f1 : List (S128)} {f2 : List (S44)} {f3 : List (S44)} {f4 : ByteArray} {f5 : List Int} {f6 : List (S135)} {f7 : ByteArray} {f8 : Int} {f9 : Int} {f10 : List (S132)} {f11 : Int} (h : IsS139 w0 W g f0 f1 f2 f3 f4 f5 f6 f7 f8 f9 f10 f11) (x : Int) : IsS139 w0 (W.setCell ⟨g, 11, none⟩ (.int .i64 x)) g f0 f1 f2 f3 f4 f5 f6 f7 f8 f9 f10 x := by
 obtain ⟨A0, c0, A1, c1, A2, c2, A3, c3, A5, c5, A6, c6, A10, c10, hb, hg, hr0, hr1, hr2, hr3, hr5, hr6, hr10⟩ := h
 exact ⟨A0, c0, A1, c1, A2, c2, A3, c3, A5, c5, A6, c6, A10, c10, by simpa using blk_set hb 11 (.int .i64 x), hg, hr0, hr1, hr2, hr3, hr5, hr6, hr10⟩
theorem IsS139.new (w0 W : World) (A0 : Option Addr) (c0 : Nat) (A1 : Option Addr) (c1 : Nat) (A2 : Option Addr) (c2 : Nat) (A3 : Option Addr) (c3 : Nat) (A5 : Option Addr) (c5 : Nat) (A6 : Option Addr) (c6 : Nat) (A10 : Option Addr) (c10 : Nat) (f0 : List (S27)) (f1 : List (S128)) (f2 : List (S44)) (f3 : List (S44)) (f4 : ByteArray) (f5 : List Int) (f6 : List (S135)) (f7 : ByteArray) (f8 : Int) (f9 : Int) (f10 : List (S132)) (f11 : Int) (hB : Below w0.heap.size w0 W) (hr0 : Kd.C k27 w0 A0 f0.length f0) (hr1 : Kd.C k128 w0 A1 f1.length f1) (hr2 : Kd.C k44 w0 A2 f2.length f2) (hr3 : Kd.C k44 w0 A3 f3.length f3) (hr5 : Kd.C (Kd.int .i64) w0 A5 f5.length f5) (hr6 : Kd.C k135 w0 A6 f6.length f6) (hr10 : Kd.C k132 w0 A10 f10.length f10) : IsS139 w0 (W.alloc (.cells #[.slice A0 f0.length c0, .slice A1 f1.length c1, .slice A2 f2.length c2, .slice A3 f3.length c3, .string f4, .slice A5 f5.length c5, .slice A6 f6.length c6, .string f7, .int .i64 f8, .int .i64 f9, .slice A10 f10.length c10, .int .i64 f11] 139)) W.heap.size f0 f1 f2 f3 f4 f5 f6 f7 f8 f9 f10 f11 := ⟨A0, c0, A1, c1, A2, c2, A3, c3, A5, c5, A6, c6, A10, c10, by simpa using heap_alloc_new W _, hB.size, hr0, hr1, hr2, hr3, hr5, hr6, hr10⟩
/-! ### code_checker_moves: function 87 -/
mutual
def code_checker_moves.j0 : Nat → Int → Bool → List (S27) → List (S128) → List (S44) → List (S44) → ByteArray → List Int → List (S135) → ByteArray → Int → Int → List (S132) → Int → Int → Int → Int → Option (Int × Int × ByteArray × ByteArray × Int × Int × Int)
 | 0, _, _, _, _, _, _, _, _, _, _, _, _, _, _, _, _, _ => none
 | k + 1, x7, x8, x1000, x1001, x1002, x1003, x1004, x1005, x1006, x1007, x1008, x1009, x1010, x1011, x136000, x136001, x136002 => if x8 = true then (some (0, 1, x1004, x1007, x1008, x1009, x1011)) else (if x7 = 3 then (code_checker_moves.j1 k x7 (x7 == 3) x1000 x1001 x1002 x1003 x1004 x1005 x1006 x1007 x1008 x1009 x1010 x1011 x136000 x136001 x136002) else (if x7 = 4 then (code_checker_moves.j1 k x7 (x7 == 4) x1000 x1001 x1002 x1003 x1004 x1005 x1006 x1007 x1008 x1009 x1010 x1011 x136000 x136001 x136002) else (if x7 = 13 then (code_checker_moves.j1 k x7 (x7 == 13) x1000 x1001 x1002 x1003 x1004 x1005 x1006 x1007 x1008 x1009 x1010 x1011 x136000 x136001 x136002) else (if x7 = 15 then (code_checker_moves.j1 k x7 (x7 == 15) x1000 x1001 x1002 x1003 x1004 x1005 x1006 x1007 x1008 x1009 x1010 x1011 x136000 x136001 x136002) else (if x7 = 16 then (code_checker_moves.j1 k x7 (x7 == 16) x1000 x1001 x1002 x1003 x1004 x1005 x1006 x1007 x1008 x1009 x1010 x1011 x136000 x136001 x136002) else (if x7 = 20 then (code_checker_moves.j1 k x7 (x7 == 20) x1000 x1001 x1002 x1003 x1004 x1005 x1006 x1007 x1008 x1009 x1010 x1011 x136000 x136001 x136002) else (code_checker_moves.j1 k x7 (x7 == 29) x1000 x1001 x1002 x1003 x1004 x1005 x1006 x1007 x1008 x1009 x1010 x1011 x136000 x136001 x136002)))))))
def code_checker_moves.j1 : Nat → Int → Bool → List (S27) → List (S128) → List (S44) → List (S44) → ByteArray → List Int → List (S135) → ByteArray → Int → Int → List (S132) → Int → Int → Int → Int → Option (Int × Int × ByteArray × ByteArray × Int × Int × Int)
 | 0, _, _, _, _, _, _, _, _, _, _, _, _, _, _, _, _, _ => none
 | k + 1, x7, x12, x1000, x1001, x1002, x1003, x1004, x1005, x1006, x1007, x1008, x1009, x1010, x1011, x136000, x136001, x136002 => if x12 = true then (some (1, 0, x1004, x1007, x1008, x1009, x1011)) else (if x7 = 5 then (code_checker_moves.j2 k x7 (x7 == 5) x1000 x1001 x1002 x1003 x1004 x1005 x1006 x1007 x1008 x1009 x1010 x1011 x136000 x136001 x136002) else (code_checker_moves.j2 k x7 (x7 == 18) x1000 x1001 x1002 x1003 x1004 x1005 x1006 x1007 x1008 x1009 x1010 x1011 x136000 x136001 x136002))
def code_checker_moves.j2 : Nat → Int → Bool → List (S27) → List (S128) → List (S44) → List (S44) → ByteArray → List Int → List (S135) → ByteArray → Int → Int → List (S132) → Int → Int → Int → Int → Option (Int × Int × ByteArray × ByteArray × Int × Int × Int)
 | 0, _, _, _, _, _, _, _, _, _, _, _, _, _, _, _, _, _ => none
 | k + 1, x7, x20, x1000, x1001, x1002, x1003, x1004, x1005, x1006, x1007, x1008, x1009, x1010, x1011, x136000, x136001, x136002 => if x20 = true then (some (1, 2, x1004, x1007, x1008, x1009, x1011)) else (if x7 = 19 then (some (2, 0, x1004, x1007, x1008, x1009, x1011)) else (if x7 = 24 then (some (2, 1, x1004, x1007, x1008, x1009, x1011)) else (if x7 = 6 then (some (x136001, 1, x1004, x1007, x1008, x1009, x1011)) else (if x7 = 7 then (some (wrap64 (x136001 + 1), 1, x1004, x1007, x1008, x1009, x1011)) else (if x7 = 17 then (some (1, x136001, x1004, x1007, x1008, x1009, x1011)) else (if x7 = 8 then (if 0 ≤ x136001 then (if x136001 < (x1002.length : Int) then (some ((rd_T44 x1002 x136001).f1, 1, x1004, x1007, x1008, x1009, x1011)) else (none)) else (none)) else (if x7 = 25 then (if 0 ≤ x136001 then (if x136001 < (x1003.length : Int) then (some ((rd_T44 x1003 x136001).f1, 1, x1004, x1007, x1008, x1009, x1011)) else (none)) else (none)) else (if x7 = 9 then (code_checker_moves.j3 k x7 (x7 == 9) x1000 x1001 x1002 x1003 x1004 x1005 x1006 x1007 x1008 x1009 x1010 x1011 x136000 x136001 x136002) else (code_checker_moves.j3 k x7 (x7 == 10) x1000 x1001 x1002 x1003 x1004 x1005 x1006 x1007 x1008 x1009 x1010 x1011 x136000 x136001 x136002)))))))))
def code_checker_moves.j3 : Nat → Int → Bool → List (S27) → List (S128) → List (S44) → List (S44) → ByteArray → List Int → List (S135) → ByteArray → Int → Int → List (S132) → Int → Int → Int → Int → Option (Int × Int × ByteArray × ByteArray × Int × Int × Int)
 | 0, _, _, _, _, _, _, _, _, _, _, _, _, _, _, _, _, _ => none
 | k + 1, x7, x62, x1000, x1001, x1002, x1003, x1004, x1005, x1006, x1007, x1008, x1009, x1010, x1011, x136000, x136001, x136002 => if x62 = true then (if 0 ≤ x136001 then (if x136001 < (x1006.length : Int) then (some ((rd_T135 x1006 x136001).f1, 1, x1004, x1007, x1008, x1009, x1011)) else (none)) else (none)) else (if x7 = 11 then (some (x136002, 1, x1004, x1007, x1008, x1009, x1011)) else (if x7 = 12 then (some (x136002, 1, x1004, x1007, x1008, x1009, x1011)) else (some (0, 0, x1004, x1007, x1008, x1009, x1011))))
end
def code_checker_moves.f (k : Nat) (s0_0 : List (S27)) (s0_1 : List (S128)) (s0_2 : List (S44)) (s0_3 : List (S44)) (s0_4 : ByteArray) (s0_5 : List Int) (s0_6 : List (S135)) (s0_7 : ByteArray) (s0_8 : Int) (s0_9 : Int) (s0_10 : List (S132)) (s0_11 : Int) (a1_0 : Int) (a1_1 : Int) (a1_2 : Int) : Option (Int × Int × ByteArray × ByteArray × Int × Int × Int) := if a1_0 = 1 then (code_checker_moves.j0 k a1_0 (a1_0 == 1) s0_0 s0_1 s0_2 s0_3 s0_4 s0_5 s0_6 s0_7 s0_8 s0_9 s0_10 s0_11 a1_0 a1_1 a1_2) else (if a1_0 = 2 then (code_checker_moves.j0 k a1_0 (a1_0 == 2) s0_0 s0_1 s0_2 s0_3 s0_4 s0_5 s0_6 s0_7 s0_8 s0_9 s0_10 s0_11 a1_0 a1_1 a1_2) else (code_checker_moves.j0 k a1_0 (a1_0 == 26) s0_0 s0_1 s0_2 s0_3 s0_4 s0_5 s0_6 s0_7 s0_8 s0_9 s0_10 s0_11 a1_0 a1_1 a1_2))
set_option maxHeartbeats 8000000 in
set_option maxRecDepth 100000 in
theorem code_checker_moves.calls (k : Nat) (g : Nat) (s0_0 : List (S27)) (s0_1 : List (S128)) (s0_2 : List (S44)) (s0_3 : List (S44)) (s0_4 : ByteArray) (s0_5 : List Int) (s0_6 : List (S135)) (s0_7 : ByteArray) (s0_8 : Int) (s0_9 : Int) (s0_10 : List (S132)) (s0_11 : Int) (a1_0 : Int) (a1_1 : Int) (a1_2 : Int) (r1 : Int) (r2 : Int) (r3 : ByteArray) (r4 : ByteArray) (r5 : Int) (r6 : Int) (r7 : Int) (w0 w : World) (hI : IsS139 w0 w g s0_0 s0_1 s0_2 s0_3 s0_4 s0_5 s0_6 s0_7 s0_8 s0_9 s0_10 s0_11) (hB : Below w0.heap.size w0 w) (h : code_checker_moves.f k s0_0 s0_1 s0_2 s0_3 s0_4 s0_5 s0_6 s0_7 s0_8 s0_9 s0_10 s0_11 a1_0 a1_1 a1_2 = some (r1, r2, r3, r4, r5, r6, r7)) :
  Calls Tryz.prog 87 #[.pointer (some ⟨g, 0, none⟩), .agg #[.int .i64 a1_0, .int .i64 a1_1, .int .i64 a1_2]] w fun e w' => e = .returned (.tuple #[.int .i64 r1, .int .i64 r2]) ∧ IsS139 w0 w' g s0_0 s0_1 s0_2 s0_3 r3 s0_5 s0_6 r4 r5 r6 s0_10 r7 ∧ Below w0.heap.size w0 w' ∧ KeepBut w w' g none := by
 have hu132 := Tryz.underlying132
 have HI0 := Aside0.mk hI
 have HK := Aside0.mk (KeepBut.refl w g none)
 have HL := Aside0.mk hB.size
 clear hI
 have HW0 := Aside0.mk hB.size
 have HB := Aside0.mk hB
 clear hB
 have H : (if a1_0 = 1 then (code_checker_moves.j0 k a1_0 (a1_0 == 1) s0_0 s0_1 s0_2 s0_3 s0_4 s0_5 s0_6 s0_7 s0_8 s0_9 s0_10 s0_11 a1_0 a1_1 a1_2) else (if a1_0 = 2 then (code_checker_moves.j0 k a1_0 (a1_0 == 2) s0_0 s0_1 s0_2 s0_3 s0_4 s0_5 s0_6 s0_7 s0_8 s0_9 s0_10 s0_11 a1_0 a1_1 a1_2) else (code_checker_moves.j0 k a1_0 (a1_0 == 26) s0_0 s0_1 s0_2 s0_3 s0_4 s0_5 s0_6 s0_7 s0_8 s0_9 s0_10 s0_11 a1_0 a1_1 a1_2))) = some (r1, r2, r3, r4, r5, r6, r7) := h
 clear h
 have HC3 := Aside0.mk H
 clear H
 go_enter Tryz.func87, Tryz.ntmps87
 go_upto_if 8 with (first | ((with_reducible refine gate_dst (N := 3) rfl ?_); refine box_event ?hg (N := 3) ?hd (cs := #[.int .i64 a1_0, .int .i64 a1_1, .int .i64 a1_2]) (t := 132) ?hr ?_; (case hd => rfl); (case hg => rfl); (case hr => first | (go_simp; done) | (go_simp; rfl)); intro gb135 hg w4 hbox hb; have n0_ := Aside0.mk (IsS139.below (by repeat (first | (with_reducible first | exact HI0.out | apply IsS139.alloc | apply IsS139.drewN | apply IsS139.drew | apply IsS139.set_4 | apply IsS139.set_7 | apply IsS139.set_8 | apply IsS139.set_9 | apply IsS139.set_11) | exact HI0.out)) hb); have n1_ := Aside0.mk (KeepBut.trans (by repeat (first | (with_reducible first | exact HK.out | apply KeepBut.set_ | apply keep_drewN | apply keep_drew | apply keep_alloc) | exact HK.out)) (KeepBut.of_below hb g none) (.inl rfl)); have n2_ := Aside0.mk (below_step (by repeat (first | (with_reducible first | exact HB.out | apply below_alloc | apply pw_below_drewN | apply below_drew1 | refine below_set ?_ (IsS139.ge HI0.out)) | exact HB.out)) hb); have n3_ := Aside0.mk (hbox); have n4_ := Aside0.mk ((by rw [hg]; exact (keep_size (w := w) (g := g) (row := none) (by repeat (first | (with_reducible first | exact HK.out | apply KeepBut.set_ | apply keep_drewN | apply keep_drew | apply keep_alloc) | exact HK.out))) : w.heap.size ≤ gb135)); have n5_ := Aside0.mk ((Nat.le_trans HW0.out (by rw [hg]; exact (keep_size (w := w) (g := g) (row := none) (by repeat (first | (with_reducible first | exact HK.out | apply KeepBut.set_ | apply keep_drewN | apply keep_drew | apply keep_alloc) | exact HK.out))) : w.heap.size ≤ gb135) : w0.heap.size ≤ gb135)); have n6_ := Aside0.mk ((by rw [hg]; exact Nat.ne_of_lt (IsS139.lt (show IsS139 w0 _ g s0_0 s0_1 s0_2 s0_3 s0_4 s0_5 s0_6 s0_7 s0_8 s0_9 s0_10 s0_11 from by repeat (first | (with_reducible first | exact HI0.out | apply IsS139.alloc | apply IsS139.drewN | apply IsS139.drew | apply IsS139.set_4 | apply IsS139.set_7 | apply IsS139.set_8 | apply IsS139.set_9 | apply IsS139.set_11) | exact HI0.out))) : g ≠ gb135)); have n7_ := Aside0.mk ((by rw [hg]; exact Nat.ne_of_gt (IsS139.lt (show IsS139 w0 _ g s0_0 s0_1 s0_2 s0_3 s0_4 s0_5 s0_6 s0_7 s0_8 s0_9 s0_10 s0_11 from by repeat (first | (with_reducible first | exact HI0.out | apply IsS139.alloc | apply IsS139.drewN | apply IsS139.drew | apply IsS139.set_4 | apply IsS139.set_7 | apply IsS139.set_8 | apply IsS139.set_9 | apply IsS139.set_11) | exact HI0.out))) : gb135 ≠ g)); clear HI0; clear HK; clear HB; have HI0 := n0_; have HK := n1_; have HB := n2_; have BK135 := n3_; have GW135 := n4_; have GE135 := n5_; have NB0_135 := n6_; have NB135_0 := n7_; clear n0_ n1_ n2_ n3_ n4_ n5_ n6_ n7_; clear hb hbox hg; have hnb5 := NB135_0.out; have hnc5 := NB0_135.out; have hcz6_0 : w4.cell? ⟨gb135, 0, none⟩ = some (.int .i64 a1_0) := (blk_cell BK135.out 0).trans rfl; have hcz6_1 : w4.cell? ⟨gb135, 1, none⟩ = some (.int .i64 a1_1) := (blk_cell BK135.out 1).trans rfl; have hcz6_2 : w4.cell? ⟨gb135, 2, none⟩ = some (.int .i64 a1_2) := (blk_cell BK135.out 2).trans rfl; have hfz6_0 := blk_frozen BK135.out 0; have hfz6_1 := blk_frozen BK135.out 1; have hfz6_2 := blk_frozen BK135.out 2))
 repeat (go_quiet (first | ((with_reducible refine gate_dst (N := 3) rfl ?_); refine box_event ?hg (N := 3) ?hd (cs := #[.int .i64 a1_0, .int .i64 a1_1, .int .i64 a1_2]) (t := 132) ?hr ?_; (case hd => rfl); (case hg => rfl); (case hr => first | (go_simp; done) | (go_simp; rfl)); intro gb135 hg w4 hbox hb; have n0_ := Aside0.mk (IsS139.below (by repeat (first | (with_reducible first | exact HI0.out | apply IsS139.alloc | apply IsS139.drewN | apply IsS139.drew | apply IsS139.set_4 | apply IsS139.set_7 | apply IsS139.set_8 | apply IsS139.set_9 | apply IsS139.set_11) | exact HI0.out)) hb); have n1_ := Aside0.mk (KeepBut.trans (by repeat (first | (with_reducible first | exact HK.out | apply KeepBut.set_ | apply keep_drewN | apply keep_drew | apply keep_alloc) | exact HK.out)) (KeepBut.of_below hb g none) (.inl rfl)); have n2_ := Aside0.mk (below_step (by repeat (first | (with_reducible first | exact HB.out | apply below_alloc | apply pw_below_drewN | apply below_drew1 | refine below_set ?_ (IsS139.ge HI0.out)) | exact HB.out)) hb); have n3_ := Aside0.mk (hbox); have n4_ := Aside0.mk ((by rw [hg]; exact (keep_size (w := w) (g := g) (row := none) (by repeat (first | (with_reducible first | exact HK.out | apply KeepBut.set_ | apply keep_drewN | apply keep_drew | apply keep_alloc) | exact HK.out))) : w.heap.size ≤ gb135)); have n5_ := Aside0.mk ((Nat.le_trans HW0.out (by rw [hg]; exact (keep_size (w := w) (g := g) (row := none) (by repeat (first | (with_reducible first | exact HK.out | apply KeepBut.set_ | apply keep_drewN | apply keep_drew | apply keep_alloc) | exact HK.out))) : w.heap.size ≤ gb135) : w0.heap.size ≤ gb135)); have n6_ := Aside0.mk ((by rw [hg]; exact Nat.ne_of_lt (IsS139.lt (show IsS139 w0 _ g s0_0 s0_1 s0_2 s0_3 s0_4 s0_5 s0_6 s0_7 s0_8 s0_9 s0_10 s0_11 from by repeat (first | (with_reducible first | exact HI0.out | apply IsS139.alloc | apply IsS139.drewN | apply IsS139.drew | apply IsS139.set_4 | apply IsS139.set_7 | apply IsS139.set_8 | apply IsS139.set_9 | apply IsS139.set_11) | exact HI0.out))) : g ≠ gb135)); have n7_ := Aside0.mk ((by rw [hg]; exact Nat.ne_of_gt (IsS139.lt (show IsS139 w0 _ g s0_0 s0_1 s0_2 s0_3 s0_4 s0_5 s0_6 s0_7 s0_8 s0_9 s0_10 s0_11 from by repeat (first | (with_reducible first | exact HI0.out | apply IsS139.alloc | apply IsS139.drewN | apply IsS139.drew | apply IsS139.set_4 | apply IsS139.set_7 | apply IsS139.set_8 | apply IsS139.set_9 | apply IsS139.set_11) | exact HI0.out))) : gb135 ≠ g)); clear HI0; clear HK; clear HB; have HI0 := n0_; have HK := n1_; have HB := n2_; have BK135 := n3_; have GW135 := n4_; have GE135 := n5_; have NB0_135 := n6_; have NB135_0 := n7_; clear n0_ n1_ n2_ n3_ n4_ n5_ n6_ n7_; clear hb hbox hg; have hnb5 := NB135_0.out; have hnc5 := NB0_135.out; have hcz6_0 : w4.cell? ⟨gb135, 0, none⟩ = some (.int .i64 a1_0) := (blk_cell BK135.out 0).trans rfl; have hcz6_1 : w4.cell? ⟨gb135, 1, none⟩ = some (.int .i64 a1_1) := (blk_cell BK135.out 1).trans rfl; have hcz6_2 : w4.cell? ⟨gb135, 2, none⟩ = some (.int .i64 a1_2) := (blk_cell BK135.out 2).trans rfl; have hfz6_0 := blk_frozen BK135.out 0; have hfz6_1 := blk_frozen BK135.out 1; have hfz6_2 := blk_frozen BK135.out 2)); go_upto_if 8 with (first | ((with_reducible refine gate_dst (N := 3) rfl ?_); refine box_event ?hg (N := 3) ?hd (cs := #[.int .i64 a1_0, .int .i64 a1_1, .int .i64 a1_2]) (t := 132) ?hr ?_; (case hd => rfl); (case hg => rfl); (case hr => first | (go_simp; done) | (go_simp; rfl)); intro gb135 hg w4 hbox hb; have n0_ := Aside0.mk (IsS139.below (by repeat (first | (with_reducible first | exact HI0.out | apply IsS139.alloc | apply IsS139.drewN | apply IsS139.drew | apply IsS139.set_4 | apply IsS139.set_7 | apply IsS139.set_8 | apply IsS139.set_9 | apply IsS139.set_11) | exact HI0.out)) hb); have n1_ := Aside0.mk (KeepBut.trans (by repeat (first | (with_reducible first | exact HK.out | apply KeepBut.set_ | apply keep_drewN | apply keep_drew | apply keep_alloc) | exact HK.out)) (KeepBut.of_below hb g none) (.inl rfl)); have n2_ := Aside0.mk (below_step (by repeat (first | (with_reducible first | exact HB.out | apply below_alloc | apply pw_below_drewN | apply below_drew1 | refine below_set ?_ (IsS139.ge HI0.out)) | exact HB.out)) hb); have n3_ := Aside0.mk (hbox); have n4_ := Aside0.mk ((by rw [hg]; exact (keep_size (w := w) (g := g) (row := none) (by repeat (first | (with_reducible first | exact HK.out | apply KeepBut.set_ | apply keep_drewN | apply keep_drew | apply keep_alloc) | exact HK.out))) : w.heap.size ≤ gb135)); have n5_ := Aside0.mk ((Nat.le_trans HW0.out (by rw [hg]; exact (keep_size (w := w) (g := g) (row := none) (by repeat (first | (with_reducible first | exact HK.out | apply KeepBut.set_ | apply keep_drewN | apply keep_drew | apply keep_alloc) | exact HK.out))) : w.heap.size ≤ gb135) : w0.heap.size ≤ gb135)); have n6_ := Aside0.mk ((by rw [hg]; exact Nat.ne_of_lt (IsS139.lt (show IsS139 w0 _ g s0_0 s0_1 s0_2 s0_3 s0_4 s0_5 s0_6 s0_7 s0_8 s0_9 s0_10 s0_11 from by repeat (first | (with_reducible first | exact HI0.out | apply IsS139.alloc | apply IsS139.drewN | apply IsS139.drew | apply IsS139.set_4 | apply IsS139.set_7 | apply IsS139.set_8 | apply IsS139.set_9 | apply IsS139.set_11) | exact HI0.out))) : g ≠ gb135)); have n7_ := Aside0.mk ((by rw [hg]; exact Nat.ne_of_gt (IsS139.lt (show IsS139 w0 _ g s0_0 s0_1 s0_2 s0_3 s0_4 s0_5 s0_6 s0_7 s0_8 s0_9 s0_10 s0_11 from by repeat (first | (with_reducible first | exact HI0.out | apply IsS139.alloc | apply IsS139.drewN | apply IsS139.drew | apply IsS139.set_4 | apply IsS139.set_7 | apply IsS139.set_8 | apply IsS139.set_9 | apply IsS139.set_11) | exact HI0.out))) : gb135 ≠ g)); clear HI0; clear HK; clear HB; have HI0 := n0_; have HK := n1_; have HB := n2_; have BK135 := n3_; have GW135 := n4_; have GE135 := n5_; have NB0_135 := n6_; have NB135_0 := n7_; clear n0_ n1_ n2_ n3_ n4_ n5_ n6_ n7_; clear hb hbox hg; have hnb5 := NB135_0.out; have hnc5 := NB0_135.out; have hcz6_0 : w4.cell? ⟨gb135, 0, none⟩ = some (.int .i64 a1_0) := (blk_cell BK135.out 0).trans rfl; have hcz6_1 : w4.cell? ⟨gb135, 1, none⟩ = some (.int .i64 a1_1) := (blk_cell BK135.out 1).trans rfl; have hcz6_2 : w4.cell? ⟨gb135, 2, none⟩ = some (.int .i64 a1_2) := (blk_cell BK135.out 2).trans rfl; have hfz6_0 := blk_frozen BK135.out 0; have hfz6_1 := blk_frozen BK135.out 1; have hfz6_2 := blk_frozen BK135.out 2)))
 (try simp only [Act.put, List.setIfInBounds_toArray, List.set_cons_zero, List.set_cons_succ])
 go_cut [8] (fun v8 wc => ∃ (kq : Nat) (x8_2 : Bool), v8 = .bool x8_2 ∧ Aside0 (code_checker_moves.j0 kq a1_0 x8_2 s0_0 s0_1 s0_2 s0_3 s0_4 s0_5 s0_6 s0_7 s0_8 s0_9 s0_10 s0_11 a1_0 a1_1 a1_2 = some (r1, r2, r3, r4, r5, r6, r7)) ∧ Aside0 (kq ≤ k) ∧ Aside0 (wc.heap[gb135]? = some (.cells #[.int .i64 a1_0, .int .i64 a1_1, .int .i64 a1_2] 132 (0, 0))) ∧ Aside0 (IsS139 w0 wc g s0_0 s0_1 s0_2 s0_3 s0_4 s0_5 s0_6 s0_7 s0_8 s0_9 s0_10 s0_11) ∧ Aside0 (KeepBut w wc g none) ∧ Aside0 (Below w0.heap.size w0 wc))
 case first =>
  have H := HC3.out
  clear HC3
  by_cases c7 : a1_0 = 1
  ·rw [if_pos c7] at H
   have c7b0 : (a1_0 == 1) = true := beq_iff_eq.mpr c7
   have c7b1 : (a1_0 != 1) = false := bne_eq_false_iff_eq.mpr c7
   clear c7
   (first | rw [c7b0] | (simp only [i64_w, i32_w]; rw [c7b0]) | skip)
   have H' := Aside0.mk H
   clear H
   go_wp2
   repeat (go_quiet (fail); try go_wp2)
   go_meet
   case rel => exact ⟨_, ((a1_0 == 1)), (by first | rfl | (simp; done) | (simp [*]; done)), H', ⟨by first | omega | exact Nat.le_refl _⟩, ⟨by (with_reducible repeat (first | refine blk_drewN ?_ _ | refine blk_drew ?_ | refine blk_alloc ?_ _)); exact BK135.out⟩, ⟨by repeat (first | (with_reducible first | exact HI0.out | apply IsS139.alloc | apply IsS139.drewN | apply IsS139.drew | apply IsS139.set_4 | apply IsS139.set_7 | apply IsS139.set_8 | apply IsS139.set_9 | apply IsS139.set_11 | refine IsS139.far ?_ NB0_135.out _) | exact HI0.out)⟩, ⟨by repeat (first | (with_reducible first | exact HK.out | apply KeepBut.set_ | apply keep_drewN | apply keep_drew | apply keep_alloc | refine keep_far ?_ GW135.out _) | exact HK.out)⟩, ⟨by repeat (first | (with_reducible first | exact HB.out | apply below_alloc | apply pw_below_drewN | apply below_drew1 | refine below_set ?_ (IsS139.ge HI0.out) | refine below_set ?_ GE135.out) | exact HB.out)⟩⟩
  ·rw [if_neg c7] at H
   have c7b0 : (a1_0 == 1) = false := beq_eq_false_iff_ne.mpr c7
   have c7b1 : (a1_0 != 1) = true := bne_iff_ne.mpr c7
   (first | rw [c7b0] | (simp only [i64_w, i32_w]; rw [c7b0]) | skip)
   by_cases c8 : a1_0 = 2
   ·rw [if_pos c8] at H
    have c8b0 : (a1_0 == 2) = true := beq_iff_eq.mpr c8
    have c8b1 : (a1_0 != 2) = false := bne_eq_false_iff_eq.mpr c8
    clear c8
    have H' := Aside0.mk H
    clear H
    go_wp2
    repeat (go_quiet (fail); try go_wp2)
    go_meet
    case rel => exact ⟨_, ((a1_0 == 2)), (by first | rfl | (simp; done) | (simp [*]; done)), H', ⟨by first | omega | exact Nat.le_refl _⟩, ⟨by (with_reducible repeat (first | refine blk_drewN ?_ _ | refine blk_drew ?_ | refine blk_alloc ?_ _)); exact BK135.out⟩, ⟨by repeat (first | (with_reducible first | exact HI0.out | apply IsS139.alloc | apply IsS139.drewN | apply IsS139.drew | apply IsS139.set_4 | apply IsS139.set_7 | apply IsS139.set_8 | apply IsS139.set_9 | apply IsS139.set_11 | refine IsS139.far ?_ NB0_135.out _) | exact HI0.out)⟩, ⟨by repeat (first | (with_reducible first | exact HK.out | apply KeepBut.set_ | apply keep_drewN | apply keep_drew | apply keep_alloc | refine keep_far ?_ GW135.out _) | exact HK.out)⟩, ⟨by repeat (first | (with_reducible first | exact HB.out | apply below_alloc | apply pw_below_drewN | apply below_drew1 | refine below_set ?_ (IsS139.ge HI0.out) | refine below_set ?_ GE135.out) | exact HB.out)⟩⟩
   ·rw [if_neg c8] at H
    have c8b0 : (a1_0 == 2) = false := beq_eq_false_iff_ne.mpr c8
    have c8b1 : (a1_0 != 2) = true := bne_iff_ne.mpr c8
    have H' := Aside0.mk H
    clear H
    go_wp2
    repeat (go_quiet (fail); try go_wp2)
    go_meet
    case rel => exact ⟨_, ((a1_0 == 26)), (by first | rfl | (simp; done) | (simp [*]; done)), H', ⟨by first | omega | exact Nat.le_refl _⟩, ⟨by (with_reducible repeat (first | refine blk_drewN ?_ _ | refine blk_drew ?_ | refine blk_alloc ?_ _)); exact BK135.out⟩, ⟨by repeat (first | (with_reducible first | exact HI0.out | apply IsS139.alloc | apply IsS139.drewN | apply IsS139.drew | apply IsS139.set_4 | apply IsS139.set_7 | apply IsS139.set_8 | apply IsS139.set_9 | apply IsS139.set_11 | refine IsS139.far ?_ NB0_135.out _) | exact HI0.out)⟩, ⟨by repeat (first | (with_reducible first | exact HK.out | apply KeepBut.set_ | apply keep_drewN | apply keep_drew | apply keep_alloc | refine keep_far ?_ GW135.out _) | exact HK.out)⟩, ⟨by repeat (first | (with_reducible first | exact HB.out | apply below_alloc | apply pw_below_drewN | apply below_drew1 | refine below_set ?_ (IsS139.ge HI0.out) | refine below_set ?_ GE135.out) | exact HB.out)⟩⟩
 case rest =>
  clear HC3
  try clear p2
  try clear c5
  try clear c7
  try clear c7b0
  try clear c7b1
  try clear c8
  try clear c8b0
  try clear c8b1
  try clear hcz6_0
  try clear hcz6_1
  try clear hcz6_2
  try clear hfz6_0
  try clear hfz6_1
  try clear hfz6_2
  obtain ⟨kq, x8_2, rfl, HA, HJ2, BK135, HI0, HK, HB⟩ := hcut
  cases kq with
  | zero => exact absurd HA.out (by simp [code_checker_moves.j0])
  | succ kj2 =>
   have H := HA.out
   clear HA
   simp only [code_checker_moves.j0] at H
   by_cases c9 : x8_2 = true
   ·subst c9
    have H1 : (some (0, 1, s0_4, s0_7, s0_8, s0_9, s0_11)) = some (r1, r2, r3, r4, r5, r6, r7) := by rw [if_pos rfl] at H; exact H
    clear H
    have H := H1
    clear H1
    simp only [Option.some.injEq, Prod.mk.injEq] at H
    obtain ⟨rfl, rfl, rfl, rfl, rfl, rfl, rfl⟩ := H
    go_wp2
    repeat (go_quiet (fail); try go_wp2)
    go_ret2
    exact ⟨by first | rfl | (simp [errW_none, errW_some] <;> rfl) | (simp [*, errW_none, errW_some] <;> rfl), by repeat (first | (with_reducible first | exact HI0.out | apply IsS139.alloc | apply IsS139.drewN | apply IsS139.drew | apply IsS139.set_4 | apply IsS139.set_7 | apply IsS139.set_8 | apply IsS139.set_9 | apply IsS139.set_11 | refine IsS139.far ?_ NB0_135.out _) | exact HI0.out), by repeat (first | (with_reducible first | exact HB.out | apply below_alloc | apply pw_below_drewN | apply below_drew1 | refine below_set ?_ (IsS139.ge HI0.out) | refine below_set ?_ GE135.out) | exact HB.out), by repeat (first | (with_reducible first | exact HK.out | apply KeepBut.set_ | apply keep_drewN | apply keep_drew | apply keep_alloc | refine keep_far ?_ GW135.out _) | exact HK.out)⟩
   ·replace c9 := Bool.eq_false_iff.mpr c9
    subst c9
    have H1 : (if a1_0 = 3 then (code_checker_moves.j1 kj2 a1_0 (a1_0 == 3) s0_0 s0_1 s0_2 s0_3 s0_4 s0_5 s0_6 s0_7 s0_8 s0_9 s0_10 s0_11 a1_0 a1_1 a1_2) else (if a1_0 = 4 then (code_checker_moves.j1 kj2 a1_0 (a1_0 == 4) s0_0 s0_1 s0_2 s0_3 s0_4 s0_5 s0_6 s0_7 s0_8 s0_9 s0_10 s0_11 a1_0 a1_1 a1_2) else (if a1_0 = 13 then (code_checker_moves.j1 kj2 a1_0 (a1_0 == 13) s0_0 s0_1 s0_2 s0_3 s0_4 s0_5 s0_6 s0_7 s0_8 s0_9 s0_10 s0_11 a1_0 a1_1 a1_2) else (if a1_0 = 15 then (code_checker_moves.j1 kj2 a1_0 (a1_0 == 15) s0_0 s0_1 s0_2 s0_3 s0_4 s0_5 s0_6 s0_7 s0_8 s0_9 s0_10 s0_11 a1_0 a1_1 a1_2) else (if a1_0 = 16 then (code_checker_moves.j1 kj2 a1_0 (a1_0 == 16) s0_0 s0_1 s0_2 s0_3 s0_4 s0_5 s0_6 s0_7 s0_8 s0_9 s0_10 s0_11 a1_0 a1_1 a1_2) else (if a1_0 = 20 then (code_checker_moves.j1 kj2 a1_0 (a1_0 == 20) s0_0 s0_1 s0_2 s0_3 s0_4 s0_5 s0_6 s0_7 s0_8 s0_9 s0_10 s0_11 a1_0 a1_1 a1_2) else (code_checker_moves.j1 kj2 a1_0 (a1_0 == 29) s0_0 s0_1 s0_2 s0_3 s0_4 s0_5 s0_6 s0_7 s0_8 s0_9 s0_10 s0_11 a1_0 a1_1 a1_2))))))) = some (r1, r2, r3, r4, r5, r6, r7) := by rw [if_neg (show ¬ (false = true) by decide)] at H; exact H
    clear H
    have H := H1
    clear H1
    have HC10 := Aside0.mk H
    clear H
    go_upto_if 12 with (fail)
    repeat (go_quiet (fail); go_upto_if 12 with (fail))
    go_cut [12] (fun v12 wc => ∃ (kq : Nat) (x12_9 : Bool), v12 = .bool x12_9 ∧ Aside0 (code_checker_moves.j1 kq a1_0 x12_9 s0_0 s0_1 s0_2 s0_3 s0_4 s0_5 s0_6 s0_7 s0_8 s0_9 s0_10 s0_11 a1_0 a1_1 a1_2 = some (r1, r2, r3, r4, r5, r6, r7)) ∧ Aside0 (kq ≤ kj2) ∧ Aside0 (wc.heap[gb135]? = some (.cells #[.int .i64 a1_0, .int .i64 a1_1, .int .i64 a1_2] 132 (0, 0))) ∧ Aside0 (IsS139 w0 wc g s0_0 s0_1 s0_2 s0_3 s0_4 s0_5 s0_6 s0_7 s0_8 s0_9 s0_10 s0_11) ∧ Aside0 (KeepBut w wc g none) ∧ Aside0 (Below w0.heap.size w0 wc))
    case first =>
     have H := HC10.out
     clear HC10
     by_cases c11 : a1_0 = 3
     ·rw [if_pos c11] at H
      have c11b0 : (a1_0 == 3) = true := beq_iff_eq.mpr c11
      have c11b1 : (a1_0 != 3) = false := bne_eq_false_iff_eq.mpr c11
      clear c11
      (first | rw [c11b0] | (simp only [i64_w, i32_w]; rw [c11b0]) | skip)
      have H' := Aside0.mk H
      clear H
      go_wp2
      repeat (go_quiet (fail); try go_wp2)
      go_meet
      case rel => exact ⟨_, ((a1_0 == 3)), (by first | rfl | (simp; done) | (simp [*]; done)), H', ⟨by have := HJ2.out; first | omega | exact Nat.le_refl _⟩, ⟨by (with_reducible repeat (first | refine blk_drewN ?_ _ | refine blk_drew ?_ | refine blk_alloc ?_ _)); exact BK135.out⟩, ⟨by repeat (first | (with_reducible first | exact HI0.out | apply IsS139.alloc | apply IsS139.drewN | apply IsS139.drew | apply IsS139.set_4 | apply IsS139.set_7 | apply IsS139.set_8 | apply IsS139.set_9 | apply IsS139.set_11 | refine IsS139.far ?_ NB0_135.out _) | exact HI0.out)⟩, ⟨by repeat (first | (with_reducible first | exact HK.out | apply KeepBut.set_ | apply keep_drewN | apply keep_drew | apply keep_alloc | refine keep_far ?_ GW135.out _) | exact HK.out)⟩, ⟨by repeat (first | (with_reducible first | exact HB.out | apply below_alloc | apply pw_below_drewN | apply below_drew1 | refine below_set ?_ (IsS139.ge HI0.out) | refine below_set ?_ GE135.out) | exact HB.out)⟩⟩
     ·rw [if_neg c11] at H
      have c11b0 : (a1_0 == 3) = false := beq_eq_false_iff_ne.mpr c11
      have c11b1 : (a1_0 != 3) = true := bne_iff_ne.mpr c11
      (first | rw [c11b0] | (simp only [i64_w, i32_w]; rw [c11b0]) | skip)
      by_cases c12 : a1_0 = 4
      ·rw [if_pos c12] at H
       have c12b0 : (a1_0 == 4) = true := beq_iff_eq.mpr c12
       have c12b1 : (a1_0 != 4) = false := bne_eq_false_iff_eq.mpr c12
       clear c12
       have H' := Aside0.mk H
       clear H
       go_wp2
       repeat (go_quiet (fail); try go_wp2)
       go_meet
       case rel => exact ⟨_, ((a1_0 == 4)), (by first | rfl | (simp; done) | (simp [*]; done)), H', ⟨by have := HJ2.out; first | omega | exact Nat.le_refl _⟩, ⟨by (with_reducible repeat (first | refine blk_drewN ?_ _ | refine blk_drew ?_ | refine blk_alloc ?_ _)); exact BK135.out⟩, ⟨by repeat (first | (with_reducible first | exact HI0.out | apply IsS139.alloc | apply IsS139.drewN | apply IsS139.drew | apply IsS139.set_4 | apply IsS139.set_7 | apply IsS139.set_8 | apply IsS139.set_9 | apply IsS139.set_11 | refine IsS139.far ?_ NB0_135.out _) | exact HI0.out)⟩, ⟨by repeat (first | (with_reducible first | exact HK.out | apply KeepBut.set_ | apply keep_drewN | apply keep_drew | apply keep_alloc | refine keep_far ?_ GW135.out _) | exact HK.out)⟩, ⟨by repeat (first | (with_reducible first | exact HB.out | apply below_alloc | apply pw_below_drewN | apply below_drew1 | refine below_set ?_ (IsS139.ge HI0.out) | refine below_set ?_ GE135.out) | exact HB.out)⟩⟩
      ·rw [if_neg c12] at H
       have c12b0 : (a1_0 == 4) = false := beq_eq_false_iff_ne.mpr c12
       have c12b1 : (a1_0 != 4) = true := bne_iff_ne.mpr c12
       by_cases c13 : a1_0 = 13
       ·rw [if_pos c13] at H
        have c13b0 : (a1_0 == 13) = true := beq_iff_eq.mpr c13
        have c13b1 : (a1_0 != 13) = false := bne_eq_false_iff_eq.mpr c13
        clear c13
        have H' := Aside0.mk H
        clear H
        go_wp2
        repeat (go_quiet (fail); try go_wp2)
        go_meet
        case rel => exact ⟨_, ((a1_0 == 13)), (by first | rfl | (simp; done) | (simp [*]; done)), H', ⟨by have := HJ2.out; first | omega | exact Nat.le_refl _⟩, ⟨by (with_reducible repeat (first | refine blk_drewN ?_ _ | refine blk_drew ?_ | refine blk_alloc ?_ _)); exact BK135.out⟩, ⟨by repeat (first | (with_reducible first | exact HI0.out | apply IsS139.alloc | apply IsS139.drewN | apply IsS139.drew | apply IsS139.set_4 | apply IsS139.set_7 | apply IsS139.set_8 | apply IsS139.set_9 | apply IsS139.set_11 | refine IsS139.far ?_ NB0_135.out _) | exact HI0.out)⟩, ⟨by repeat (first | (with_reducible first | exact HK.out | apply KeepBut.set_ | apply keep_drewN | apply keep_drew | apply keep_alloc | refine keep_far ?_ GW135.out _) | exact HK.out)⟩, ⟨by repeat (first | (with_reducible first | exact HB.out | apply below_alloc | apply pw_below_drewN | apply below_drew1 | refine below_set ?_ (IsS139.ge HI0.out) | refine below_set ?_ GE135.out) | exact HB.out)⟩⟩
       ·rw [if_neg c13] at H
        have c13b0 : (a1_0 == 13) = false := beq_eq_false_iff_ne.mpr c13
        have c13b1 : (a1_0 != 13) = true := bne_iff_ne.mpr c13
        by_cases c14 : a1_0 = 15
        ·rw [if_pos c14] at H
         have c14b0 : (a1_0 == 15) = true := beq_iff_eq.mpr c14
         have c14b1 : (a1_0 != 15) = false := bne_eq_false_iff_eq.mpr c14
         clear c14
         have H' := Aside0.mk H
         clear H
         go_wp2
         repeat (go_quiet (fail); try go_wp2)
         go_meet
         case rel => exact ⟨_, ((a1_0 == 15)), (by first | rfl | (simp; done) | (simp [*]; done)), H', ⟨by have := HJ2.out; first | omega | exact Nat.le_refl _⟩, ⟨by (with_reducible repeat (first | refine blk_drewN ?_ _ | refine blk_drew ?_ | refine blk_alloc ?_ _)); exact BK135.out⟩, ⟨by repeat (first | (with_reducible first | exact HI0.out | apply IsS139.alloc | apply IsS139.drewN | apply IsS139.drew | apply IsS139.set_4 | apply IsS139.set_7 | apply IsS139.set_8 | apply IsS139.set_9 | apply IsS139.set_11 | refine IsS139.far ?_ NB0_135.out _) | exact HI0.out)⟩, ⟨by repeat (first | (with_reducible first | exact HK.out | apply KeepBut.set_ | apply keep_drewN | apply keep_drew | apply keep_alloc | refine keep_far ?_ GW135.out _) | exact HK.out)⟩, ⟨by repeat (first | (with_reducible first | exact HB.out | apply below_alloc | apply pw_below_drewN | apply below_drew1 | refine below_set ?_ (IsS139.ge HI0.out) | refine below_set ?_ GE135.out) | exact HB.out)⟩⟩
        ·rw [if_neg c14] at H
         have c14b0 : (a1_0 == 15) = false := beq_eq_false_iff_ne.mpr c14
         have c14b1 : (a1_0 != 15) = true := bne_iff_ne.mpr c14
         by_cases c15 : a1_0 = 16
         ·rw [if_pos c15] at H
          have c15b0 : (a1_0 == 16) = true := beq_iff_eq.mpr c15
          have c15b1 : (a1_0 != 16) = false := bne_eq_false_iff_eq.mpr c15
          clear c15
          have H' := Aside0.mk H
          clear H
          go_wp2
          repeat (go_quiet (fail); try go_wp2)
          go_meet
          case rel => exact ⟨_, ((a1_0 == 16)), (by first | rfl | (simp; done) | (simp [*]; done)), H', ⟨by have := HJ2.out; first | omega | exact Nat.le_refl _⟩, ⟨by (with_reducible repeat (first | refine blk_drewN ?_ _ | refine blk_drew ?_ | refine blk_alloc ?_ _)); exact BK135.out⟩, ⟨by repeat (first | (with_reducible first | exact HI0.out | apply IsS139.alloc | apply IsS139.drewN | apply IsS139.drew | apply IsS139.set_4 | apply IsS139.set_7 | apply IsS139.set_8 | apply IsS139.set_9 | apply IsS139.set_11 | refine IsS139.far ?_ NB0_135.out _) | exact HI0.out)⟩, ⟨by repeat (first | (with_reducible first | exact HK.out | apply KeepBut.set_ | apply keep_drewN | apply keep_drew | apply keep_alloc | refine keep_far ?_ GW135.out _) | exact HK.out)⟩, ⟨by repeat (first | (with_reducible first | exact HB.out | apply below_alloc | apply pw_below_drewN | apply below_drew1 | refine below_set ?_ (IsS139.ge HI0.out) | refine below_set ?_ GE135.out) | exact HB.out)⟩⟩
         ·rw [if_neg c15] at H
          have c15b0 : (a1_0 == 16) = false := beq_eq_false_iff_ne.mpr c15
          have c15b1 : (a1_0 != 16) = true := bne_iff_ne.mpr c15
          by_cases c16 : a1_0 = 20
          ·rw [if_pos c16] at H
           have c16b0 : (a1_0 == 20) = true := beq_iff_eq.mpr c16
           have c16b1 : (a1_0 != 20) = false := bne_eq_false_iff_eq.mpr c16
           clear c16
           have H' := Aside0.mk H
           clear H
           go_wp2
           repeat (go_quiet (fail); try go_wp2)
           go_meet
           case rel => exact ⟨_, ((a1_0 == 20)), (by first | rfl | (simp; done) | (simp [*]; done)), H', ⟨by have := HJ2.out; first | omega | exact Nat.le_refl _⟩, ⟨by (with_reducible repeat (first | refine blk_drewN ?_ _ | refine blk_drew ?_ | refine blk_alloc ?_ _)); exact BK135.out⟩, ⟨by repeat (first | (with_reducible first | exact HI0.out | apply IsS139.alloc | apply IsS139.drewN | apply IsS139.drew | apply IsS139.set_4 | apply IsS139.set_7 | apply IsS139.set_8 | apply IsS139.set_9 | apply IsS139.set_11 | refine IsS139.far ?_ NB0_135.out _) | exact HI0.out)⟩, ⟨by repeat (first | (with_reducible first | exact HK.out | apply KeepBut.set_ | apply keep_drewN | apply keep_drew | apply keep_alloc | refine keep_far ?_ GW135.out _) | exact HK.out)⟩, ⟨by repeat (first | (with_reducible first | exact HB.out | apply below_alloc | apply pw_below_drewN | apply below_drew1 | refine below_set ?_ (IsS139.ge HI0.out) | refine below_set ?_ GE135.out) | exact HB.out)⟩⟩
          ·rw [if_neg c16] at H
           have c16b0 : (a1_0 == 20) = false := beq_eq_false_iff_ne.mpr c16
           have c16b1 : (a1_0 != 20) = true := bne_iff_ne.mpr c16
           have H' := Aside0.mk H
           clear H
           go_wp2
           repeat (go_quiet (fail); try go_wp2)
           go_meet
           case rel => exact ⟨_, ((a1_0 == 29)), (by first | rfl | (simp; done) | (simp [*]; done)), H', ⟨by have := HJ2.out; first | omega | exact Nat.le_refl _⟩, ⟨by (with_reducible repeat (first | refine blk_drewN ?_ _ | refine blk_drew ?_ | refine blk_alloc ?_ _)); exact BK135.out⟩, ⟨by repeat (first | (with_reducible first | exact HI0.out | apply IsS139.alloc | apply IsS139.drewN | apply IsS139.drew | apply IsS139.set_4 | apply IsS139.set_7 | apply IsS139.set_8 | apply IsS139.set_9 | apply IsS139.set_11 | refine IsS139.far ?_ NB0_135.out _) | exact HI0.out)⟩, ⟨by repeat (first | (with_reducible first | exact HK.out | apply KeepBut.set_ | apply keep_drewN | apply keep_drew | apply keep_alloc | refine keep_far ?_ GW135.out _) | exact HK.out)⟩, ⟨by repeat (first | (with_reducible first | exact HB.out | apply below_alloc | apply pw_below_drewN | apply below_drew1 | refine below_set ?_ (IsS139.ge HI0.out) | refine below_set ?_ GE135.out) | exact HB.out)⟩⟩
    case rest =>
     clear HC10
     try clear c1
     try clear p2
     try clear c5
     try clear c7
     try clear c7b0
     try clear c7b1
     try clear c8
     try clear c8b0
     try clear c8b1
     try clear c9
     try clear c11
     try clear c11b0
     try clear c11b1
     try clear c12
     try clear c12b0
     try clear c12b1
     try clear c13
     try clear c13b0
     try clear c13b1
     try clear c14
     try clear c14b0
     try clear c14b1
     try clear c15
     try clear c15b0
     try clear c15b1
     try clear c16
     try clear c16b0
     try clear c16b1
     try clear hcz6_0
     try clear hcz6_1
     try clear hcz6_2
     try clear hfz6_0
     try clear hfz6_1
     try clear hfz6_2
     try clear p2
     obtain ⟨kq, x12_9, rfl, HA, HJ9, BK135, HI0, HK, HB⟩ := hcut
     cases kq with
     | zero => exact absurd HA.out (by simp [code_checker_moves.j1])
     | succ kj9 =>
      have H := HA.out
      clear HA
      simp only [code_checker_moves.j1] at H
      by_cases c17 : x12_9 = true
      ·subst c17
       have H1 : (some (1, 0, s0_4, s0_7, s0_8, s0_9, s0_11)) = some (r1, r2, r3, r4, r5, r6, r7) := by rw [if_pos rfl] at H; exact H
       clear H
       have H := H1
       clear H1
       simp only [Option.some.injEq, Prod.mk.injEq] at H
       obtain ⟨rfl, rfl, rfl, rfl, rfl, rfl, rfl⟩ := H
       go_wp2
       repeat (go_quiet (fail); try go_wp2)
       go_ret2
       exact ⟨by first | rfl | (simp [errW_none, errW_some] <;> rfl) | (simp [*, errW_none, errW_some] <;> rfl), by repeat (first | (with_reducible first | exact HI0.out | apply IsS139.alloc | apply IsS139.drewN | apply IsS139.drew | apply IsS139.set_4 | apply IsS139.set_7 | apply IsS139.set_8 | apply IsS139.set_9 | apply IsS139.set_11 | refine IsS139.far ?_ NB0_135.out _) | exact HI0.out), by repeat (first | (with_reducible first | exact HB.out | apply below_alloc | apply pw_below_drewN | apply below_drew1 | refine below_set ?_ (IsS139.ge HI0.out) | refine below_set ?_ GE135.out) | exact HB.out), by repeat (first | (with_reducible first | exact HK.out | apply KeepBut.set_ | apply keep_drewN | apply keep_drew | apply keep_alloc | refine keep_far ?_ GW135.out _) | exact HK.out)⟩
      ·replace c17 := Bool.eq_false_iff.mpr c17
       subst c17
       have H1 : (if a1_0 = 5 then (code_checker_moves.j2 kj9 a1_0 (a1_0 == 5) s0_0 s0_1 s0_2 s0_3 s0_4 s0_5 s0_6 s0_7 s0_8 s0_9 s0_10 s0_11 a1_0 a1_1 a1_2) else (code_checker_moves.j2 kj9 a1_0 (a1_0 == 18) s0_0 s0_1 s0_2 s0_3 s0_4 s0_5 s0_6 s0_7 s0_8 s0_9 s0_10 s0_11 a1_0 a1_1 a1_2)) = some (r1, r2, r3, r4, r5, r6, r7) := by rw [if_neg (show ¬ (false = true) by decide)] at H; exact H
       clear H
       have H := H1
       clear H1
       have HC18 := Aside0.mk H
       clear H
       go_upto_if 20 with (fail)
       repeat (go_quiet (fail); go_upto_if 20 with (fail))
       go_cut [20] (fun v20 wc => ∃ (kq : Nat) (x20_17 : Bool), v20 = .bool x20_17 ∧ Aside0 (code_checker_moves.j2 kq a1_0 x20_17 s0_0 s0_1 s0_2 s0_3 s0_4 s0_5 s0_6 s0_7 s0_8 s0_9 s0_10 s0_11 a1_0 a1_1 a1_2 = some (r1, r2, r3, r4, r5, r6, r7)) ∧ Aside0 (kq ≤ kj9) ∧ Aside0 (wc.heap[gb135]? = some (.cells #[.int .i64 a1_0, .int .i64 a1_1, .int .i64 a1_2] 132 (0, 0))) ∧ Aside0 (IsS139 w0 wc g s0_0 s0_1 s0_2 s0_3 s0_4 s0_5 s0_6 s0_7 s0_8 s0_9 s0_10 s0_11) ∧ Aside0 (KeepBut w wc g none) ∧ Aside0 (Below w0.heap.size w0 wc))
       case first =>
        have H := HC18.out
        clear HC18
        by_cases c19 : a1_0 = 5
        ·rw [if_pos c19] at H
         have c19b0 : (a1_0 == 5) = true := beq_iff_eq.mpr c19
         have c19b1 : (a1_0 != 5) = false := bne_eq_false_iff_eq.mpr c19
         clear c19
         (first | rw [c19b0] | (simp only [i64_w, i32_w]; rw [c19b0]) | skip)
         have H' := Aside0.mk H
         clear H
         go_wp2
         repeat (go_quiet (fail); try go_wp2)
         go_meet
         case rel => exact ⟨_, ((a1_0 == 5)), (by first | rfl | (simp; done) | (simp [*]; done)), H', ⟨by have := HJ2.out; have := HJ9.out; first | omega | exact Nat.le_refl _⟩, ⟨by (with_reducible repeat (first | refine blk_drewN ?_ _ | refine blk_drew ?_ | refine blk_alloc ?_ _)); exact BK135.out⟩, ⟨by repeat (first | (with_reducible first | exact HI0.out | apply IsS139.alloc | apply IsS139.drewN | apply IsS139.drew | apply IsS139.set_4 | apply IsS139.set_7 | apply IsS139.set_8 | apply IsS139.set_9 | apply IsS139.set_11 | refine IsS139.far ?_ NB0_135.out _) | exact HI0.out)⟩, ⟨by repeat (first | (with_reducible first | exact HK.out | apply KeepBut.set_ | apply keep_drewN | apply keep_drew | apply keep_alloc | refine keep_far ?_ GW135.out _) | exact HK.out)⟩, ⟨by repeat (first | (with_reducible first | exact HB.out | apply below_alloc | apply pw_below_drewN | apply below_drew1 | refine below_set ?_ (IsS139.ge HI0.out) | refine below_set ?_ GE135.out) | exact HB.out)⟩⟩
        ·rw [if_neg c19] at H
         have c19b0 : (a1_0 == 5) = false := beq_eq_false_iff_ne.mpr c19
         have c19b1 : (a1_0 != 5) = true := bne_iff_ne.mpr c19
         (first | rw [c19b0] | (simp only [i64_w, i32_w]; rw [c19b0]) | skip)
         have H' := Aside0.mk H
         clear H
         go_wp2
         repeat (go_quiet (fail); try go_wp2)
         go_meet
         case rel => exact ⟨_, ((a1_0 == 18)), (by first | rfl | (simp; done) | (simp [*]; done)), H', ⟨by have := HJ2.out; have := HJ9.out; first | omega | exact Nat.le_refl _⟩, ⟨by (with_reducible repeat (first | refine blk_drewN ?_ _ | refine blk_drew ?_ | refine blk_alloc ?_ _)); exact BK135.out⟩, ⟨by repeat (first | (with_reducible first | exact HI0.out | apply IsS139.alloc | apply IsS139.drewN | apply IsS139.drew | apply IsS139.set_4 | apply IsS139.set_7 | apply IsS139.set_8 | apply IsS139.set_9 | apply IsS139.set_11 | refine IsS139.far ?_ NB0_135.out _) | exact HI0.out)⟩, ⟨by repeat (first | (with_reducible first | exact HK.out | apply KeepBut.set_ | apply keep_drewN | apply keep_drew | apply keep_alloc | refine keep_far ?_ GW135.out _) | exact HK.out)⟩, ⟨by repeat (first | (with_reducible first | exact HB.out | apply below_alloc | apply pw_below_drewN | apply below_drew1 | refine below_set ?_ (IsS139.ge HI0.out) | refine below_set ?_ GE135.out) | exact HB.out)⟩⟩
       case rest =>
        clear HC18
        try clear c1
        try clear p2
        try clear c5
        try clear c7
        try clear c7b0
        try clear c7b1
        try clear c8
        try clear c8b0
        try clear c8b1
        try clear c9
        try clear c11
        try clear c11b0
        try clear c11b1
        try clear c12
        try clear c12b0
        try clear c12b1
        try clear c13
        try clear c13b0
        try clear c13b1
        try clear c14
        try clear c14b0
        try clear c14b1
        try clear c15
        try clear c15b0
        try clear c15b1
        try clear c16
        try clear c16b0
        try clear c16b1
        try clear c17
        try clear c19
        try clear c19b0
        try clear c19b1
        try clear hcz6_0
        try clear hcz6_1
        try clear hcz6_2
        try clear hfz6_0
        try clear hfz6_1
        try clear hfz6_2
        try clear p2
        obtain ⟨kq, x20_17, rfl, HA, HJ17, BK135, HI0, HK, HB⟩ := hcut
        cases kq with
        | zero => exact absurd HA.out (by simp [code_checker_moves.j2])
        | succ kj17 =>
         have H := HA.out
         clear HA
         simp only [code_checker_moves.j2] at H
         by_cases c20 : x20_17 = true
         ·subst c20
          have H1 : (some (1, 2, s0_4, s0_7, s0_8, s0_9, s0_11)) = some (r1, r2, r3, r4, r5, r6, r7) := by rw [if_pos rfl] at H; exact H
          clear H
          have H := H1
          clear H1
          simp only [Option.some.injEq, Prod.mk.injEq] at H
          obtain ⟨rfl, rfl, rfl, rfl, rfl, rfl, rfl⟩ := H
          go_wp2
          repeat (go_quiet (fail); try go_wp2)
          go_ret2
          exact ⟨by first | rfl | (simp [errW_none, errW_some] <;> rfl) | (simp [*, errW_none, errW_some] <;> rfl), by repeat (first | (with_reducible first | exact HI0.out | apply IsS139.alloc | apply IsS139.drewN | apply IsS139.drew | apply IsS139.set_4 | apply IsS139.set_7 | apply IsS139.set_8 | apply IsS139.set_9 | apply IsS139.set_11 | refine IsS139.far ?_ NB0_135.out _) | exact HI0.out), by repeat (first | (with_reducible first | exact HB.out | apply below_alloc | apply pw_below_drewN | apply below_drew1 | refine below_set ?_ (IsS139.ge HI0.out) | refine below_set ?_ GE135.out) | exact HB.out), by repeat (first | (with_reducible first | exact HK.out | apply KeepBut.set_ | apply keep_drewN | apply keep_drew | apply keep_alloc | refine keep_far ?_ GW135.out _) | exact HK.out)⟩
         ·replace c20 := Bool.eq_false_iff.mpr c20
          subst c20
          have H1 : (if a1_0 = 19 then (some (2, 0, s0_4, s0_7, s0_8, s0_9, s0_11)) else (if a1_0 = 24 then (some (2, 1, s0_4, s0_7, s0_8, s0_9, s0_11)) else (if a1_0 = 6 then (some (a1_1, 1, s0_4, s0_7, s0_8, s0_9, s0_11)) else (if a1_0 = 7 then (some (wrap64 (a1_1 + 1), 1, s0_4, s0_7, s0_8, s0_9, s0_11)) else (if a1_0 = 17 then (some (1, a1_1, s0_4, s0_7, s0_8, s0_9, s0_11)) else (if a1_0 = 8 then (if 0 ≤ a1_1 then (if a1_1 < (s0_2.length : Int) then (some ((rd_T44 s0_2 a1_1).f1, 1, s0_4, s0_7, s0_8, s0_9, s0_11)) else (none)) else (none)) else (if a1_0 = 25 then (if 0 ≤ a1_1 then (if a1_1 < (s0_3.length : Int) then (some ((rd_T44 s0_3 a1_1).f1, 1, s0_4, s0_7, s0_8, s0_9, s0_11)) else (none)) else (none)) else (if a1_0 = 9 then (code_checker_moves.j3 kj17 a1_0 (a1_0 == 9) s0_0 s0_1 s0_2 s0_3 s0_4 s0_5 s0_6 s0_7 s0_8 s0_9 s0_10 s0_11 a1_0 a1_1 a1_2) else (code_checker_moves.j3 kj17 a1_0 (a1_0 == 10) s0_0 s0_1 s0_2 s0_3 s0_4 s0_5 s0_6 s0_7 s0_8 s0_9 s0_10 s0_11 a1_0 a1_1 a1_2))))))))) = some (r1, r2, r3, r4, r5, r6, r7) := by rw [if_neg (show ¬ (false = true) by decide)] at H; exact H
          clear H
          have H := H1
          clear H1
          by_cases c21 : a1_0 = 19
          ·rw [if_pos c21] at H
           have c21b0 : (a1_0 == 19) = true := beq_iff_eq.mpr c21
           have c21b1 : (a1_0 != 19) = false := bne_eq_false_iff_eq.mpr c21
           clear c21
           simp only [Option.some.injEq, Prod.mk.injEq] at H
           obtain ⟨rfl, rfl, rfl, rfl, rfl, rfl, rfl⟩ := H
           go_wp2
           repeat (go_quiet (fail); try go_wp2)
           go_ret2
           exact ⟨by first | rfl | (simp [errW_none, errW_some] <;> rfl) | (simp [*, errW_none, errW_some] <;> rfl), by repeat (first | (with_reducible first | exact HI0.out | apply IsS139.alloc | apply IsS139.drewN | apply IsS139.drew | apply IsS139.set_4 | apply IsS139.set_7 | apply IsS139.set_8 | apply IsS139.set_9 | apply IsS139.set_11 | refine IsS139.far ?_ NB0_135.out _) | exact HI0.out), by repeat (first | (with_reducible first | exact HB.out | apply below_alloc | apply pw_below_drewN | apply below_drew1 | refine below_set ?_ (IsS139.ge HI0.out) | refine below_set ?_ GE135.out) | exact HB.out), by repeat (first | (with_reducible first | exact HK.out | apply KeepBut.set_ | apply keep_drewN | apply keep_drew | apply keep_alloc | refine keep_far ?_ GW135.out _) | exact HK.out)⟩
          ·rw [if_neg c21] at H
           have c21b0 : (a1_0 == 19) = false := beq_eq_false_iff_ne.mpr c21
           have c21b1 : (a1_0 != 19) = true := bne_iff_ne.mpr c21
           by_cases c22 : a1_0 = 24
           ·rw [if_pos c22] at H
            have c22b0 : (a1_0 == 24) = true := beq_iff_eq.mpr c22
            have c22b1 : (a1_0 != 24) = false := bne_eq_false_iff_eq.mpr c22
            clear c22
            simp only [Option.some.injEq, Prod.mk.injEq] at H
            obtain ⟨rfl, rfl, rfl, rfl, rfl, rfl, rfl⟩ := H
            go_wp2
            repeat (go_quiet (fail); try go_wp2)
            go_ret2
            exact ⟨by first | rfl | (simp [errW_none, errW_some] <;> rfl) | (simp [*, errW_none, errW_some] <;> rfl), by repeat (first | (with_reducible first | exact HI0.out | apply IsS139.alloc | apply IsS139.drewN | apply IsS139.drew | apply IsS139.set_4 | apply IsS139.set_7 | apply IsS139.set_8 | apply IsS139.set_9 | apply IsS139.set_11 | refine IsS139.far ?_ NB0_135.out _) | exact HI0.out), by repeat (first | (with_reducible first | exact HB.out | apply below_alloc | apply pw_below_drewN | apply below_drew1 | refine below_set ?_ (IsS139.ge HI0.out) | refine below_set ?_ GE135.out) | exact HB.out), by repeat (first | (with_reducible first | exact HK.out | apply KeepBut.set_ | apply keep_drewN | apply keep_drew | apply keep_alloc | refine keep_far ?_ GW135.out _) | exact HK.out)⟩
           ·rw [if_neg c22] at H
            have c22b0 : (a1_0 == 24) = false := beq_eq_false_iff_ne.mpr c22
            have c22b1 : (a1_0 != 24) = true := bne_iff_ne.mpr c22
            by_cases c23 : a1_0 = 6
            ·rw [if_pos c23] at H
             have c23b0 : (a1_0 == 6) = true := beq_iff_eq.mpr c23
             have c23b1 : (a1_0 != 6) = false := bne_eq_false_iff_eq.mpr c23
             clear c23
             simp only [Option.some.injEq, Prod.mk.injEq] at H
             obtain ⟨rfl, rfl, rfl, rfl, rfl, rfl, rfl⟩ := H
             have hnb24 := NB135_0.out
             have hnc24 := NB0_135.out
             have hcz25_0 : wc.cell? ⟨gb135, 0, none⟩ = some (.int .i64 a1_0) := (blk_cell BK135.out 0).trans rfl
             have hcz25_1 : wc.cell? ⟨gb135, 1, none⟩ = some (.int .i64 a1_1) := (blk_cell BK135.out 1).trans rfl
             have hcz25_2 : wc.cell? ⟨gb135, 2, none⟩ = some (.int .i64 a1_2) := (blk_cell BK135.out 2).trans rfl
             have hfz25_0 := blk_frozen BK135.out 0
             have hfz25_1 := blk_frozen BK135.out 1
             have hfz25_2 := blk_frozen BK135.out 2
             go_wp2
             repeat (go_quiet (fail); try go_wp2)
             go_ret2
             exact ⟨by first | rfl | (simp [errW_none, errW_some] <;> rfl) | (simp [*, errW_none, errW_some] <;> rfl), by repeat (first | (with_reducible first | exact HI0.out | apply IsS139.alloc | apply IsS139.drewN | apply IsS139.drew | apply IsS139.set_4 | apply IsS139.set_7 | apply IsS139.set_8 | apply IsS139.set_9 | apply IsS139.set_11 | refine IsS139.far ?_ NB0_135.out _) | exact HI0.out), by repeat (first | (with_reducible first | exact HB.out | apply below_alloc | apply pw_below_drewN | apply below_drew1 | refine below_set ?_ (IsS139.ge HI0.out) | refine below_set ?_ GE135.out) | exact HB.out), by repeat (first | (with_reducible first | exact HK.out | apply KeepBut.set_ | apply keep_drewN | apply keep_drew | apply keep_alloc | refine keep_far ?_ GW135.out _) | exact HK.out)⟩
            ·rw [if_neg c23] at H
             have c23b0 : (a1_0 == 6) = false := beq_eq_false_iff_ne.mpr c23
             have c23b1 : (a1_0 != 6) = true := bne_iff_ne.mpr c23
             by_cases c26 : a1_0 = 7
             ·rw [if_pos c26] at H
              have c26b0 : (a1_0 == 7) = true := beq_iff_eq.mpr c26
              have c26b1 : (a1_0 != 7) = false := bne_eq_false_iff_eq.mpr c26
              clear c26
              simp only [Option.some.injEq, Prod.mk.injEq] at H
              obtain ⟨rfl, rfl, rfl, rfl, rfl, rfl, rfl⟩ := H
              have hnb27 := NB135_0.out
              have hnc27 := NB0_135.out
              have hcz28_0 : wc.cell? ⟨gb135, 0, none⟩ = some (.int .i64 a1_0) := (blk_cell BK135.out 0).trans rfl
              have hcz28_1 : wc.cell? ⟨gb135, 1, none⟩ = some (.int .i64 a1_1) := (blk_cell BK135.out 1).trans rfl
              have hcz28_2 : wc.cell? ⟨gb135, 2, none⟩ = some (.int .i64 a1_2) := (blk_cell BK135.out 2).trans rfl
              have hfz28_0 := blk_frozen BK135.out 0
              have hfz28_1 := blk_frozen BK135.out 1
              have hfz28_2 := blk_frozen BK135.out 2
              go_wp2
              repeat (go_quiet (fail); try go_wp2)
              go_ret2
              exact ⟨by first | rfl | (simp [errW_none, errW_some] <;> rfl) | (simp [*, errW_none, errW_some] <;> rfl), by repeat (first | (with_reducible first | exact HI0.out | apply IsS139.alloc | apply IsS139.drewN | apply IsS139.drew | apply IsS139.set_4 | apply IsS139.set_7 | apply IsS139.set_8 | apply IsS139.set_9 | apply IsS139.set_11 | refine IsS139.far ?_ NB0_135.out _) | exact HI0.out), by repeat (first | (with_reducible first | exact HB.out | apply below_alloc | apply pw_below_drewN | apply below_drew1 | refine below_set ?_ (IsS139.ge HI0.out) | refine below_set ?_ GE135.out) | exact HB.out), by repeat (first | (with_reducible first | exact HK.out | apply KeepBut.set_ | apply keep_drewN | apply keep_drew | apply keep_alloc | refine keep_far ?_ GW135.out _) | exact HK.out)⟩
             ·rw [if_neg c26] at H
              have c26b0 : (a1_0 == 7) = false := beq_eq_false_iff_ne.mpr c26
              have c26b1 : (a1_0 != 7) = true := bne_iff_ne.mpr c26
              by_cases c29 : a1_0 = 17
              ·rw [if_pos c29] at H
               have c29b0 : (a1_0 == 17) = true := beq_iff_eq.mpr c29
               have c29b1 : (a1_0 != 17) = false := bne_eq_false_iff_eq.mpr c29
               clear c29
               simp only [Option.some.injEq, Prod.mk.injEq] at H
               obtain ⟨rfl, rfl, rfl, rfl, rfl, rfl, rfl⟩ := H
               have hnb30 := NB135_0.out
               have hnc30 := NB0_135.out
               have hcz31_0 : wc.cell? ⟨gb135, 0, none⟩ = some (.int .i64 a1_0) := (blk_cell BK135.out 0).trans rfl
               have hcz31_1 : wc.cell? ⟨gb135, 1, none⟩ = some (.int .i64 a1_1) := (blk_cell BK135.out 1).trans rfl
               have hcz31_2 : wc.cell? ⟨gb135, 2, none⟩ = some (.int .i64 a1_2) := (blk_cell BK135.out 2).trans rfl
               have hfz31_0 := blk_frozen BK135.out 0
               have hfz31_1 := blk_frozen BK135.out 1
               have hfz31_2 := blk_frozen BK135.out 2
               go_wp2
               repeat (go_quiet (fail); try go_wp2)
               go_ret2
               exact ⟨by first | rfl | (simp [errW_none, errW_some] <;> rfl) | (simp [*, errW_none, errW_some] <;> rfl), by repeat (first | (with_reducible first | exact HI0.out | apply IsS139.alloc | apply IsS139.drewN | apply IsS139.drew | apply IsS139.set_4 | apply IsS139.set_7 | apply IsS139.set_8 | apply IsS139.set_9 | apply IsS139.set_11 | refine IsS139.far ?_ NB0_135.out _) | exact HI0.out), by repeat (first | (with_reducible first | exact HB.out | apply below_alloc | apply pw_below_drewN | apply below_drew1 | refine below_set ?_ (IsS139.ge HI0.out) | refine below_set ?_ GE135.out) | exact HB.out), by repeat (first | (with_reducible first | exact HK.out | apply KeepBut.set_ | apply keep_drewN | apply keep_drew | apply keep_alloc | refine keep_far ?_ GW135.out _) | exact HK.out)⟩
              ·rw [if_neg c29] at H
               have c29b0 : (a1_0 == 17) = false := beq_eq_false_iff_ne.mpr c29
               have c29b1 : (a1_0 != 17) = true := bne_iff_ne.mpr c29
               by_cases c32 : a1_0 = 8
               ·rw [if_pos c32] at H
                have c32b0 : (a1_0 == 8) = true := beq_iff_eq.mpr c32
                have c32b1 : (a1_0 != 8) = false := bne_eq_false_iff_eq.mpr c32
                clear c32
                by_cases c33 : 0 ≤ a1_1
                ·rw [if_pos c33] at H
                 have c33b0 : decide (0 ≤ a1_1) = true := decide_eq_true c33
                 clear c33
                 by_cases c34 : a1_1 < (s0_2.length : Int)
                 ·rw [if_pos c34] at H
                  have c34b0 : decide (a1_1 < (s0_2.length : Int)) = true := decide_eq_true c34
                  clear c34
                  simp only [Option.some.injEq, Prod.mk.injEq] at H
                  obtain ⟨rfl, rfl, rfl, rfl, rfl, rfl, rfl⟩ := H
                  obtain ⟨ASz35_0, cSz35_0, ASz35_1, cSz35_1, ASz35_2, cSz35_2, ASz35_3, cSz35_3, ASz35_5, cSz35_5, ASz35_6, cSz35_6, ASz35_10, cSz35_10, HGz35, hgz35, HSz35_0, HSz35_1, HSz35_2, HSz35_3, HSz35_5, HSz35_6, HSz35_10⟩ := HI0.out
                  have hcz35_0 := cellS139_0 HGz35
                  have hcz35_1 := cellS139_1 HGz35
                  have hcz35_2 := cellS139_2 HGz35
                  have hcz35_3 := cellS139_3 HGz35
                  have hcz35_4 := cellS139_4 HGz35
                  have hcz35_5 := cellS139_5 HGz35
                  have hcz35_6 := cellS139_6 HGz35
                  have hcz35_7 := cellS139_7 HGz35
                  have hcz35_8 := cellS139_8 HGz35
                  have hcz35_9 := cellS139_9 HGz35
                  have hcz35_10 := cellS139_10 HGz35
                  have hcz35_11 := cellS139_11 HGz35
                  have hfz35_4 := blk_frozen HGz35 4
                  have hfz35_7 := blk_frozen HGz35 7
                  have hfz35_8 := blk_frozen HGz35 8
                  have hfz35_9 := blk_frozen HGz35 9
                  have hfz35_11 := blk_frozen HGz35 11
                  clear HGz35 hgz35
                  have hnb36 := NB135_0.out
                  have hnc36 := NB0_135.out
                  have hcz37_0 : wc.cell? ⟨gb135, 0, none⟩ = some (.int .i64 a1_0) := (blk_cell BK135.out 0).trans rfl
                  have hcz37_1 : wc.cell? ⟨gb135, 1, none⟩ = some (.int .i64 a1_1) := (blk_cell BK135.out 1).trans rfl
                  have hcz37_2 : wc.cell? ⟨gb135, 2, none⟩ = some (.int .i64 a1_2) := (blk_cell BK135.out 2).trans rfl
                  have hfz37_0 := blk_frozen BK135.out 0
                  have hfz37_1 := blk_frozen BK135.out 1
                  have hfz37_2 := blk_frozen BK135.out 2
                  have p136 : 0 ≤ (a1_1 : Int) := of_decide_eq_true (by first | (with_reducible assumption) | assumption)
                  have q136 : a1_1 < (s0_2.length : Int) := of_decide_eq_true (by first | (with_reducible assumption) | assumption)
                  obtain ⟨ad136, e136, hx136_0, hx136_1, hx136_2, hx136_3⟩ := at_T44 HSz35_2 a1_1 p136 q136
                  cases e136
                  replace hx136_0 := pw_cell_below HB.out hx136_0
                  replace hx136_1 := pw_cell_below HB.out hx136_1
                  replace hx136_2 := pw_cell_below HB.out hx136_2
                  replace hx136_3 := pw_cell_below HB.out hx136_3
                  replace p136 := eq_true p136
                  replace q136 := eq_true q136
                  go_wp2
                  repeat (go_quiet (fail); try go_wp2)
                  go_ret2
                  exact ⟨by first | rfl | (simp [errW_none, errW_some] <;> rfl) | (simp [*, errW_none, errW_some] <;> rfl), by repeat (first | (with_reducible first | exact HI0.out | apply IsS139.alloc | apply IsS139.drewN | apply IsS139.drew | apply IsS139.set_4 | apply IsS139.set_7 | apply IsS139.set_8 | apply IsS139.set_9 | apply IsS139.set_11 | refine IsS139.far ?_ NB0_135.out _) | exact HI0.out), by repeat (first | (with_reducible first | exact HB.out | apply below_alloc | apply pw_below_drewN | apply below_drew1 | refine below_set ?_ (IsS139.ge HI0.out) | refine below_set ?_ GE135.out) | exact HB.out), by repeat (first | (with_reducible first | exact HK.out | apply KeepBut.set_ | apply keep_drewN | apply keep_drew | apply keep_alloc | refine keep_far ?_ GW135.out _) | exact HK.out)⟩
                 ·rw [if_neg c34] at H
                  exact absurd H (by simp)
                ·rw [if_neg c33] at H
                 exact absurd H (by simp)
               ·rw [if_neg c32] at H
                have c32b0 : (a1_0 == 8) = false := beq_eq_false_iff_ne.mpr c32
                have c32b1 : (a1_0 != 8) = true := bne_iff_ne.mpr c32
                by_cases c38 : a1_0 = 25
                ·rw [if_pos c38] at H
                 have c38b0 : (a1_0 == 25) = true := beq_iff_eq.mpr c38
                 have c38b1 : (a1_0 != 25) = false := bne_eq_false_iff_eq.mpr c38
                 clear c38
                 by_cases c39 : 0 ≤ a1_1
                 ·rw [if_pos c39] at H
                  have c39b0 : decide (0 ≤ a1_1) = true := decide_eq_true c39
                  clear c39
                  by_cases c40 : a1_1 < (s0_3.length : Int)
                  ·rw [if_pos c40] at H
                   have c40b0 : decide (a1_1 < (s0_3.length : Int)) = true := decide_eq_true c40
                   clear c40
                   simp only [Option.some.injEq, Prod.mk.injEq] at H
                   obtain ⟨rfl, rfl, rfl, rfl, rfl, rfl, rfl⟩ := H
                   obtain ⟨ASz41_0, cSz41_0, ASz41_1, cSz41_1, ASz41_2, cSz41_2, ASz41_3, cSz41_3, ASz41_5, cSz41_5, ASz41_6, cSz41_6, ASz41_10, cSz41_10, HGz41, hgz41, HSz41_0, HSz41_1, HSz41_2, HSz41_3, HSz41_5, HSz41_6, HSz41_10⟩ := HI0.out
                   have hcz41_0 := cellS139_0 HGz41
                   have hcz41_1 := cellS139_1 HGz41
                   have hcz41_2 := cellS139_2 HGz41
                   have hcz41_3 := cellS139_3 HGz41
                   have hcz41_4 := cellS139_4 HGz41
                   have hcz41_5 := cellS139_5 HGz41
                   have hcz41_6 := cellS139_6 HGz41
                   have hcz41_7 := cellS139_7 HGz41
                   have hcz41_8 := cellS139_8 HGz41
                   have hcz41_9 := cellS139_9 HGz41
                   have hcz41_10 := cellS139_10 HGz41
                   have hcz41_11 := cellS139_11 HGz41
                   have hfz41_4 := blk_frozen HGz41 4
                   have hfz41_7 := blk_frozen HGz41 7
                   have hfz41_8 := blk_frozen HGz41 8
                   have hfz41_9 := blk_frozen HGz41 9
                   have hfz41_11 := blk_frozen HGz41 11
                   clear HGz41 hgz41
                   have hnb42 := NB135_0.out
                   have hnc42 := NB0_135.out
                   have hcz43_0 : wc.cell? ⟨gb135, 0, none⟩ = some (.int .i64 a1_0) := (blk_cell BK135.out 0).trans rfl
                   have hcz43_1 : wc.cell? ⟨gb135, 1, none⟩ = some (.int .i64 a1_1) := (blk_cell BK135.out 1).trans rfl
                   have hcz43_2 : wc.cell? ⟨gb135, 2, none⟩ = some (.int .i64 a1_2) := (blk_cell BK135.out 2).trans rfl
                   have hfz43_0 := blk_frozen BK135.out 0
                   have hfz43_1 := blk_frozen BK135.out 1
                   have hfz43_2 := blk_frozen BK135.out 2
                   have p137 : 0 ≤ (a1_1 : Int) := of_decide_eq_true (by first | (with_reducible assumption) | assumption)
                   have q137 : a1_1 < (s0_3.length : Int) := of_decide_eq_true (by first | (with_reducible assumption) | assumption)
                   obtain ⟨ad137, e137, hx137_0, hx137_1, hx137_2, hx137_3⟩ := at_T44 HSz41_3 a1_1 p137 q137
                   cases e137
                   replace hx137_0 := pw_cell_below HB.out hx137_0
                   replace hx137_1 := pw_cell_below HB.out hx137_1
                   replace hx137_2 := pw_cell_below HB.out hx137_2
                   replace hx137_3 := pw_cell_below HB.out hx137_3
                   replace p137 := eq_true p137
                   replace q137 := eq_true q137
                   go_wp2
                   repeat (go_quiet (fail); try go_wp2)
                   go_ret2
                   exact ⟨by first | rfl | (simp [errW_none, errW_some] <;> rfl) | (simp [*, errW_none, errW_some] <;> rfl), by repeat (first | (with_reducible first | exact HI0.out | apply IsS139.alloc | apply IsS139.drewN | apply IsS139.drew | apply IsS139.set_4 | apply IsS139.set_7 | apply IsS139.set_8 | apply IsS139.set_9 | apply IsS139.set_11 | refine IsS139.far ?_ NB0_135.out _) | exact HI0.out), by repeat (first | (with_reducible first | exact HB.out | apply below_alloc | apply pw_below_drewN | apply below_drew1 | refine below_set ?_ (IsS139.ge HI0.out) | refine below_set ?_ GE135.out) | exact HB.out), by repeat (first | (with_reducible first | exact HK.out | apply KeepBut.set_ | apply keep_drewN | apply keep_drew | apply keep_alloc | refine keep_far ?_ GW135.out _) | exact HK.out)⟩
                  ·rw [if_neg c40] at H
                   exact absurd H (by simp)
                 ·rw [if_neg c39] at H
                  exact absurd H (by simp)
                ·rw [if_neg c38] at H
                 have c38b0 : (a1_0 == 25) = false := beq_eq_false_iff_ne.mpr c38
                 have c38b1 : (a1_0 != 25) = true := bne_iff_ne.mpr c38
                 have HC44 := Aside0.mk H
                 clear H
                 go_upto_if 62 with (fail)
                 repeat (go_quiet (fail); go_upto_if 62 with (fail))
                 go_cut [62] (fun v62 wc => ∃ (kq : Nat) (x62_43 : Bool), v62 = .bool x62_43 ∧ Aside0 (code_checker_moves.j3 kq a1_0 x62_43 s0_0 s0_1 s0_2 s0_3 s0_4 s0_5 s0_6 s0_7 s0_8 s0_9 s0_10 s0_11 a1_0 a1_1 a1_2 = some (r1, r2, r3, r4, r5, r6, r7)) ∧ Aside0 (kq ≤ kj17) ∧ Aside0 (wc.heap[gb135]? = some (.cells #[.int .i64 a1_0, .int .i64 a1_1, .int .i64 a1_2] 132 (0, 0))) ∧ Aside0 (IsS139 w0 wc g s0_0 s0_1 s0_2 s0_3 s0_4 s0_5 s0_6 s0_7 s0_8 s0_9 s0_10 s0_11) ∧ Aside0 (KeepBut w wc g none) ∧ Aside0 (Below w0.heap.size w0 wc))
                 case first =>
                  have H := HC44.out
                  clear HC44
                  by_cases c45 : a1_0 = 9
                  ·rw [if_pos c45] at H
                   have c45b0 : (a1_0 == 9) = true := beq_iff_eq.mpr c45
                   have c45b1 : (a1_0 != 9) = false := bne_eq_false_iff_eq.mpr c45
                   clear c45
                   (first | rw [c45b0] | (simp only [i64_w, i32_w]; rw [c45b0]) | skip)
                   have H' := Aside0.mk H
                   clear H
                   go_wp2
                   repeat (go_quiet (fail); try go_wp2)
                   go_meet
                   case rel => exact ⟨_, ((a1_0 == 9)), (by first | rfl | (simp; done) | (simp [*]; done)), H', ⟨by have := HJ2.out; have := HJ9.out; have := HJ17.out; first | omega | exact Nat.le_refl _⟩, ⟨by (with_reducible repeat (first | refine blk_drewN ?_ _ | refine blk_drew ?_ | refine blk_alloc ?_ _)); exact BK135.out⟩, ⟨by repeat (first | (with_reducible first | exact HI0.out | apply IsS139.alloc | apply IsS139.drewN | apply IsS139.drew | apply IsS139.set_4 | apply IsS139.set_7 | apply IsS139.set_8 | apply IsS139.set_9 | apply IsS139.set_11 | refine IsS139.far ?_ NB0_135.out _) | exact HI0.out)⟩, ⟨by repeat (first | (with_reducible first | exact HK.out | apply KeepBut.set_ | apply keep_drewN | apply keep_drew | apply keep_alloc | refine keep_far ?_ GW135.out _) | exact HK.out)⟩, ⟨by repeat (first | (with_reducible first | exact HB.out | apply below_alloc | apply pw_below_drewN | apply below_drew1 | refine below_set ?_ (IsS139.ge HI0.out) | refine below_set ?_ GE135.out) | exact HB.out)⟩⟩
                  ·rw [if_neg c45] at H
                   have c45b0 : (a1_0 == 9) = false := beq_eq_false_iff_ne.mpr c45
                   have c45b1 : (a1_0 != 9) = true := bne_iff_ne.mpr c45
                   (first | rw [c45b0] | (simp only [i64_w, i32_w]; rw [c45b0]) | skip)
                   have H' := Aside0.mk H
                   clear H
                   go_wp2
                   repeat (go_quiet (fail); try go_wp2)
                   go_meet
                   case rel => exact ⟨_, ((a1_0 == 10)), (by first | rfl | (simp; done) | (simp [*]; done)), H', ⟨by have := HJ2.out; have := HJ9.out; have := HJ17.out; first | omega | exact Nat.le_refl _⟩, ⟨by (with_reducible repeat (first | refine blk_drewN ?_ _ | refine blk_drew ?_ | refine blk_alloc ?_ _)); exact BK135.out⟩, ⟨by repeat (first | (with_reducible first | exact HI0.out | apply IsS139.alloc | apply IsS139.drewN | apply IsS139.drew | apply IsS139.set_4 | apply IsS139.set_7 | apply IsS139.set_8 | apply IsS139.set_9 | apply IsS139.set_11 | refine IsS139.far ?_ NB0_135.out _) | exact HI0.out)⟩, ⟨by repeat (first | (with_reducible first | exact HK.out | apply KeepBut.set_ | apply keep_drewN | apply keep_drew | apply keep_alloc | refine keep_far ?_ GW135.out _) | exact HK.out)⟩, ⟨by repeat (first | (with_reducible first | exact HB.out | apply below_alloc | apply pw_below_drewN | apply below_drew1 | refine below_set ?_ (IsS139.ge HI0.out) | refine below_set ?_ GE135.out) | exact HB.out)⟩⟩
                 case rest =>
                  clear HC44
                  try clear c1
                  try clear p1
                  try clear q1
                  try clear hx1
                  try clear c2
                  try clear p2
                  try clear c3
                  try clear c4
                  try clear c5
                  try clear p6
                  try clear c7
                  try clear c7b0
                  try clear c7b1
                  try clear c8
                  try clear c8b0
                  try clear c8b1
                  try clear c9
                  try clear c11
                  try clear c11b0
                  try clear c11b1
                  try clear c12
                  try clear c12b0
                  try clear c12b1
                  try clear c13
                  try clear c13b0
                  try clear c13b1
                  try clear p13
                  try clear q13
                  try clear hx13
                  try clear c14
                  try clear c14b0
                  try clear c14b1
                  try clear c15
                  try clear c15b0
                  try clear c15b1
                  try clear c16
                  try clear c16b0
                  try clear c16b1
                  try clear c17
                  try clear c19
                  try clear c19b0
                  try clear c19b1
                  try clear c20
                  try clear c21
                  try clear c21b0
                  try clear c21b1
                  try clear c22
                  try clear c22b0
                  try clear c22b1
                  try clear c23
                  try clear c23b0
                  try clear c23b1
                  try clear c24
                  try clear c26
                  try clear c26b0
                  try clear c26b1
                  try clear c27
                  try clear c29
                  try clear c29b0
                  try clear c29b1
                  try clear c30
                  try clear c32
                  try clear c32b0
                  try clear c32b1
                  try clear c33
                  try clear c33b0
                  try clear c34
                  try clear c34b0
                  try clear c36
                  try clear c38
                  try clear c38b0
                  try clear c38b1
                  try clear c39
                  try clear c39b0
                  try clear c40
                  try clear c40b0
                  try clear c42
                  try clear c45
                  try clear c45b0
                  try clear c45b1
                  try clear hcz25_0
                  try clear hcz25_1
                  try clear hcz25_2
                  try clear hcz28_0
                  try clear hcz28_1
                  try clear hcz28_2
                  try clear hcz31_0
                  try clear hcz31_1
                  try clear hcz31_2
                  try clear hcz35_0
                  try clear hcz35_1
                  try clear hcz35_10
                  try clear hcz35_11
                  try clear hcz35_2
                  try clear hcz35_3
                  try clear hcz35_4
                  try clear hcz35_5
                  try clear hcz35_6
                  try clear hcz35_7
                  try clear hcz35_8
                  try clear hcz35_9
                  try clear hcz37_0
                  try clear hcz37_1
                  try clear hcz37_2
                  try clear hcz41_0
                  try clear hcz41_1
                  try clear hcz41_10
                  try clear hcz41_11
                  try clear hcz41_2
                  try clear hcz41_3
                  try clear hcz41_4
                  try clear hcz41_5
                  try clear hcz41_6
                  try clear hcz41_7
                  try clear hcz41_8
                  try clear hcz41_9
                  try clear hcz43_0
                  try clear hcz43_1
                  try clear hcz43_2
                  try clear hcz6_0
                  try clear hcz6_1
                  try clear hcz6_2
                  try clear hfz25_0
                  try clear hfz25_1
                  try clear hfz25_2
                  try clear hfz28_0
                  try clear hfz28_1
                  try clear hfz28_2
                  try clear hfz31_0
                  try clear hfz31_1
                  try clear hfz31_2
                  try clear hfz35_11
                  try clear hfz35_4
                  try clear hfz35_7
                  try clear hfz35_8
                  try clear hfz35_9
                  try clear hfz37_0
                  try clear hfz37_1
                  try clear hfz37_2
                  try clear hfz41_11
                  try clear hfz41_4
                  try clear hfz41_7
                  try clear hfz41_8
                  try clear hfz41_9
                  try clear hfz43_0
                  try clear hfz43_1
                  try clear hfz43_2
                  try clear hfz6_0
                  try clear hfz6_1
                  try clear hfz6_2
                  try clear hx136_0
                  try clear hx136_1
                  try clear hx136_2
                  try clear hx136_3
                  try clear hx137_0
                  try clear hx137_1
                  try clear hx137_2
                  try clear hx137_3
                  try clear p136
                  try clear p137
                  try clear p2
                  try clear q136
                  try clear q137
                  obtain ⟨kq, x62_43, rfl, HA, HJ43, BK135, HI0, HK, HB⟩ := hcut
                  cases kq with
                  | zero => exact absurd HA.out (by simp [code_checker_moves.j3])
                  | succ kj43 =>
                   have H := HA.out
                   clear HA
                   simp only [code_checker_moves.j3] at H
                   by_cases c46 : x62_43 = true
                   ·subst c46
                    have H1 : (if 0 ≤ a1_1 then (if a1_1 < (s0_6.length : Int) then (some ((rd_T135 s0_6 a1_1).f1, 1, s0_4, s0_7, s0_8, s0_9, s0_11)) else (none)) else (none)) = some (r1, r2, r3, r4, r5, r6, r7) := by rw [if_pos rfl] at H; exact H
                    clear H
                    have H := H1
                    clear H1
                    by_cases c47 : 0 ≤ a1_1
                    ·rw [if_pos c47] at H
                     have c47b0 : decide (0 ≤ a1_1) = true := decide_eq_true c47
                     clear c47
                     by_cases c48 : a1_1 < (s0_6.length : Int)
                     ·rw [if_pos c48] at H
                      have c48b0 : decide (a1_1 < (s0_6.length : Int)) = true := decide_eq_true c48
                      clear c48
                      simp only [Option.some.injEq, Prod.mk.injEq] at H
                      obtain ⟨rfl, rfl, rfl, rfl, rfl, rfl, rfl⟩ := H
                      obtain ⟨ASz49_0, cSz49_0, ASz49_1, cSz49_1, ASz49_2, cSz49_2, ASz49_3, cSz49_3, ASz49_5, cSz49_5, ASz49_6, cSz49_6, ASz49_10, cSz49_10, HGz49, hgz49, HSz49_0, HSz49_1, HSz49_2, HSz49_3, HSz49_5, HSz49_6, HSz49_10⟩ := HI0.out
                      have hcz49_0 := cellS139_0 HGz49
                      have hcz49_1 := cellS139_1 HGz49
                      have hcz49_2 := cellS139_2 HGz49
                      have hcz49_3 := cellS139_3 HGz49
                      have hcz49_4 := cellS139_4 HGz49
                      have hcz49_5 := cellS139_5 HGz49
                      have hcz49_6 := cellS139_6 HGz49
                      have hcz49_7 := cellS139_7 HGz49
                      have hcz49_8 := cellS139_8 HGz49
                      have hcz49_9 := cellS139_9 HGz49
                      have hcz49_10 := cellS139_10 HGz49
                      have hcz49_11 := cellS139_11 HGz49
                      have hfz49_4 := blk_frozen HGz49 4
                      have hfz49_7 := blk_frozen HGz49 7
                      have hfz49_8 := blk_frozen HGz49 8
                      have hfz49_9 := blk_frozen HGz49 9
                      have hfz49_11 := blk_frozen HGz49 11
                      clear HGz49 hgz49
                      have hnb50 := NB135_0.out
                      have hnc50 := NB0_135.out
                      have hcz51_0 : wc.cell? ⟨gb135, 0, none⟩ = some (.int .i64 a1_0) := (blk_cell BK135.out 0).trans rfl
                      have hcz51_1 : wc.cell? ⟨gb135, 1, none⟩ = some (.int .i64 a1_1) := (blk_cell BK135.out 1).trans rfl
                      have hcz51_2 : wc.cell? ⟨gb135, 2, none⟩ = some (.int .i64 a1_2) := (blk_cell BK135.out 2).trans rfl
                      have hfz51_0 := blk_frozen BK135.out 0
                      have hfz51_1 := blk_frozen BK135.out 1
                      have hfz51_2 := blk_frozen BK135.out 2
                      have p138 : 0 ≤ (a1_1 : Int) := of_decide_eq_true (by first | (with_reducible assumption) | assumption)
                      have q138 : a1_1 < (s0_6.length : Int) := of_decide_eq_true (by first | (with_reducible assumption) | assumption)
                      obtain ⟨ad138, A138_3, c138_3, e138, hx138_0, hx138_1, hx138_2, hx138_3, hl138_3, hi138_3⟩ := at_T135 HSz49_6 a1_1 p138 q138
                      cases e138
                      replace hx138_0 := pw_cell_below HB.out hx138_0
                      replace hx138_1 := pw_cell_below HB.out hx138_1
                      replace hx138_2 := pw_cell_below HB.out hx138_2
                      replace hx138_3 := pw_cell_below HB.out hx138_3
                      have HR138_3 := Aside0.mk hi138_3
                      have HC138_3 := Aside0.mk hl138_3
                      clear hi138_3 hl138_3
                      replace p138 := eq_true p138
                      replace q138 := eq_true q138
                      go_wp2
                      repeat (go_quiet (fail); try go_wp2)
                      go_ret2
                      exact ⟨by first | rfl | (simp [errW_none, errW_some] <;> rfl) | (simp [*, errW_none, errW_some] <;> rfl), by repeat (first | (with_reducible first | exact HI0.out | apply IsS139.alloc | apply IsS139.drewN | apply IsS139.drew | apply IsS139.set_4 | apply IsS139.set_7 | apply IsS139.set_8 | apply IsS139.set_9 | apply IsS139.set_11 | refine IsS139.far ?_ NB0_135.out _) | exact HI0.out), by repeat (first | (with_reducible first | exact HB.out | apply below_alloc | apply pw_below_drewN | apply below_drew1 | refine below_set ?_ (IsS139.ge HI0.out) | refine below_set ?_ GE135.out) | exact HB.out), by repeat (first | (with_reducible first | exact HK.out | apply KeepBut.set_ | apply keep_drewN | apply keep_drew | apply keep_alloc | refine keep_far ?_ GW135.out _) | exact HK.out)⟩
                     ·rw [if_neg c48] at H
                      exact absurd H (by simp)
                    ·rw [if_neg c47] at H
                     exact absurd H (by simp)
                   ·replace c46 := Bool.eq_false_iff.mpr c46
                    subst c46
                    have H1 : (if a1_0 = 11 then (some (a1_2, 1, s0_4, s0_7, s0_8, s0_9, s0_11)) else (if a1_0 = 12 then (some (a1_2, 1, s0_4, s0_7, s0_8, s0_9, s0_11)) else (some (0, 0, s0_4, s0_7, s0_8, s0_9, s0_11)))) = some (r1, r2, r3, r4, r5, r6, r7) := by rw [if_neg (show ¬ (false = true) by decide)] at H; exact H
                    clear H
                    have H := H1
                    clear H1
                    by_cases c52 : a1_0 = 11
                    ·rw [if_pos c52] at H
                     have c52b0 : (a1_0 == 11) = true := beq_iff_eq.mpr c52
                     have c52b1 : (a1_0 != 11) = false := bne_eq_false_iff_eq.mpr c52
                     clear c52
                     simp only [Option.some.injEq, Prod.mk.injEq] at H
                     obtain ⟨rfl, rfl, rfl, rfl, rfl, rfl, rfl⟩ := H
                     have hnb53 := NB135_0.out
                     have hnc53 := NB0_135.out
                     have hcz54_0 : wc.cell? ⟨gb135, 0, none⟩ = some (.int .i64 a1_0) := (blk_cell BK135.out 0).trans rfl
                     have hcz54_1 : wc.cell? ⟨gb135, 1, none⟩ = some (.int .i64 a1_1) := (blk_cell BK135.out 1).trans rfl
                     have hcz54_2 : wc.cell? ⟨gb135, 2, none⟩ = some (.int .i64 a1_2) := (blk_cell BK135.out 2).trans rfl
                     have hfz54_0 := blk_frozen BK135.out 0
                     have hfz54_1 := blk_frozen BK135.out 1
                     have hfz54_2 := blk_frozen BK135.out 2
                     go_wp2
                     repeat (go_quiet (fail); try go_wp2)
                     go_ret2
                     exact ⟨by first | rfl | (simp [errW_none, errW_some] <;> rfl) | (simp [*, errW_none, errW_some] <;> rfl), by repeat (first | (with_reducible first | exact HI0.out | apply IsS139.alloc | apply IsS139.drewN | apply IsS139.drew | apply IsS139.set_4 | apply IsS139.set_7 | apply IsS139.set_8 | apply IsS139.set_9 | apply IsS139.set_11 | refine IsS139.far ?_ NB0_135.out _) | exact HI0.out), by repeat (first | (with_reducible first | exact HB.out | apply below_alloc | apply pw_below_drewN | apply below_drew1 | refine below_set ?_ (IsS139.ge HI0.out) | refine below_set ?_ GE135.out) | exact HB.out), by repeat (first | (with_reducible first | exact HK.out | apply KeepBut.set_ | apply keep_drewN | apply keep_drew | apply keep_alloc | refine keep_far ?_ GW135.out _) | exact HK.out)⟩
                    ·rw [if_neg c52] at H
                     have c52b0 : (a1_0 == 11) = false := beq_eq_false_iff_ne.mpr c52
                     have c52b1 : (a1_0 != 11) = true := bne_iff_ne.mpr c52
                     by_cases c55 : a1_0 = 12
                     ·rw [if_pos c55] at H
                      have c55b0 : (a1_0 == 12) = true := beq_iff_eq.mpr c55
                      have c55b1 : (a1_0 != 12) = false := bne_eq_false_iff_eq.mpr c55
                      clear c55
                      simp only [Option.some.injEq, Prod.mk.injEq] at H
                      obtain ⟨rfl, rfl, rfl, rfl, rfl, rfl, rfl⟩ := H
                      have hnb56 := NB135_0.out
                      have hnc56 := NB0_135.out
                      have hcz57_0 : wc.cell? ⟨gb135, 0, none⟩ = some (.int .i64 a1_0) := (blk_cell BK135.out 0).trans rfl
                      have hcz57_1 : wc.cell? ⟨gb135, 1, none⟩ = some (.int .i64 a1_1) := (blk_cell BK135.out 1).trans rfl
                      have hcz57_2 : wc.cell? ⟨gb135, 2, none⟩ = some (.int .i64 a1_2) := (blk_cell BK135.out 2).trans rfl
                      have hfz57_0 := blk_frozen BK135.out 0
                      have hfz57_1 := blk_frozen BK135.out 1
                      have hfz57_2 := blk_frozen BK135.out 2
                      go_wp2
                      repeat (go_quiet (fail); try go_wp2)
                      go_ret2
                      exact ⟨by first | rfl | (simp [errW_none, errW_some] <;> rfl) | (simp [*, errW_none, errW_some] <;> rfl), by repeat (first | (with_reducible first | exact HI0.out | apply IsS139.alloc | apply IsS139.drewN | apply IsS139.drew | apply IsS139.set_4 | apply IsS139.set_7 | apply IsS139.set_8 | apply IsS139.set_9 | apply IsS139.set_11 | refine IsS139.far ?_ NB0_135.out _) | exact HI0.out), by repeat (first | (with_reducible first | exact HB.out | apply below_alloc | apply pw_below_drewN | apply below_drew1 | refine below_set ?_ (IsS139.ge HI0.out) | refine below_set ?_ GE135.out) | exact HB.out), by repeat (first | (with_reducible first | exact HK.out | apply KeepBut.set_ | apply keep_drewN | apply keep_drew | apply keep_alloc | refine keep_far ?_ GW135.out _) | exact HK.out)⟩
                     ·rw [if_neg c55] at H
                      have c55b0 : (a1_0 == 12) = false := beq_eq_false_iff_ne.mpr c55
                      have c55b1 : (a1_0 != 12) = true := bne_iff_ne.mpr c55
                      simp only [Option.some.injEq, Prod.mk.injEq] at H
                      obtain ⟨rfl, rfl, rfl, rfl, rfl, rfl, rfl⟩ := H
                      go_wp2
                      repeat (go_quiet (fail); try go_wp2)
                      go_ret2
                      exact ⟨by first | rfl | (simp [errW_none, errW_some] <;> rfl) | (simp [*, errW_none, errW_some] <;> rfl), by repeat (first | (with_reducible first | exact HI0.out | apply IsS139.alloc | apply IsS139.drewN | apply IsS139.drew | apply IsS139.set_4 | apply IsS139.set_7 | apply IsS139.set_8 | apply IsS139.set_9 | apply IsS139.set_11 | refine IsS139.far ?_ NB0_135.out _) | exact HI0.out), by repeat (first | (with_reducible first | exact HB.out | apply below_alloc | apply pw_below_drewN | apply below_drew1 | refine below_set ?_ (IsS139.ge HI0.out) | refine below_set ?_ GE135.out) | exact HB.out), by repeat (first | (with_reducible first | exact HK.out | apply KeepBut.set_ | apply keep_drewN | apply keep_drew | apply keep_alloc | refine keep_far ?_ GW135.out _) | exact HK.out)⟩
end Go.Proofs.YtibbcfeaododhaaGreatDoor.PCa
