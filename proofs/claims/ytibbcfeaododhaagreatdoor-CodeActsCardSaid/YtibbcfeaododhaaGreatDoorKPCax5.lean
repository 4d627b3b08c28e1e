-- Printed by the kit's print.py over several roots at once (printall.sh)
import Derived.Test.YtibbcfeaododhaaGreatDoorKPCax0
namespace Go.Proofs.YtibbcfeaododhaaGreatDoor.PCa
open Go.RowKit Go.Proofs.YtibbcfeaododhaaGreatDoorW.PrintWords Go.Proofs.YtibbcfeaododhaaGreatDoorW.PrintLast Go.Proofs.YtibbcfeaododhaaGreatDoorW.PrintMore
attribute [local go_sem] max2_int min2_int max_two min_two max_three min_three max_four min_four   -- for this text's walks alone
set_option linter.unusedVariables false
set_option linter.unusedSimpArgs false
/-! ### code_writer_long: function 81 -/
/-! ### code_below: function 84 -/
/-! ### code_operands: function 169 -/
mutual
def code_operands.j0 : Nat → Int → Bool → Option (Int)
 | 0, _, _ => none
 | k + 1, x3, x4 => if x4 = true then (some 0) else (if x3 = 23 then (code_operands.j1 k x3 (x3 == 23)) else (if x3 = 24 then (code_operands.j1 k x3 (x3 == 24)) else (code_operands.j1 k x3 (x3 == 28))))
def code_operands.j1 : Nat → Int → Bool → Option (Int)
 | 0, _, _ => none
 | k + 1, x3, x8 => if x8 = true then (some 0) else (if x3 = 11 then (some 2) else (if x3 = 12 then (some 2) else (if x3 = 15 then (some 2) else (if x3 = 16 then (some 2) else (if x3 = 17 then (some 2) else (some 1))))))
end
def code_operands.f (k : Nat) (a0 : Int) : Option (Int) := if a0 = 4 then (code_operands.j0 k a0 (a0 == 4)) else (if a0 = 5 then (code_operands.j0 k a0 (a0 == 5)) else (code_operands.j0 k a0 (a0 == 13)))
set_option maxHeartbeats 8000000 in
set_option maxRecDepth 100000 in
theorem code_operands.calls (k : Nat) (a0 : Int) (r : Int) (w : World) (h : code_operands.f k a0 = some r) :
  Calls Tryz.prog 169 #[.int .i64 a0] w fun e w' => e = .returned (.int .i64 r) ∧ Drawn0 w w' := by
 have H : (if a0 = 4 then (code_operands.j0 k a0 (a0 == 4)) else (if a0 = 5 then (code_operands.j0 k a0 (a0 == 5)) else (code_operands.j0 k a0 (a0 == 13)))) = some r := h
 clear h
 have HC2 := Aside0.mk H
 clear H
 go_enter Tryz.func169, Tryz.ntmps169
 go_upto_if 4 with (fail)
 go_cut [4] (fun v4 wc => ∃ (kq : Nat) (x4_1 : Bool), v4 = .bool x4_1 ∧ Aside0 (code_operands.j0 kq a0 x4_1 = some r) ∧ Aside0 (kq ≤ k) ∧ Drawn0 w wc)
 case first =>
  have H := HC2.out
  clear HC2
  by_cases c3 : a0 = 4
  ·rw [if_pos c3] at H
   have c3b0 : (a0 == 4) = true := beq_iff_eq.mpr c3
   have c3b1 : (a0 != 4) = false := bne_eq_false_iff_eq.mpr c3
   clear c3
   (first | rw [c3b0] | (simp only [i64_w, i32_w]; rw [c3b0]) | skip)
   have H' := Aside0.mk H
   clear H
   go_wp2
   go_meet
   case rel => exact ⟨_, ((a0 == 4)), (by first | rfl | (simp; done) | (simp [*]; done)), H', ⟨by first | omega | exact Nat.le_refl _⟩, by repeat (first | exact Drawn0.refl _ | apply Drawn0.step)⟩
  ·rw [if_neg c3] at H
   have c3b0 : (a0 == 4) = false := beq_eq_false_iff_ne.mpr c3
   have c3b1 : (a0 != 4) = true := bne_iff_ne.mpr c3
   (first | rw [c3b0] | (simp only [i64_w, i32_w]; rw [c3b0]) | skip)
   by_cases c4 : a0 = 5
   ·rw [if_pos c4] at H
    have c4b0 : (a0 == 5) = true := beq_iff_eq.mpr c4
    have c4b1 : (a0 != 5) = false := bne_eq_false_iff_eq.mpr c4
    clear c4
    have H' := Aside0.mk H
    clear H
    go_wp2
    go_meet
    case rel => exact ⟨_, ((a0 == 5)), (by first | rfl | (simp; done) | (simp [*]; done)), H', ⟨by first | omega | exact Nat.le_refl _⟩, by repeat (first | exact Drawn0.refl _ | apply Drawn0.step)⟩
   ·rw [if_neg c4] at H
    have c4b0 : (a0 == 5) = false := beq_eq_false_iff_ne.mpr c4
    have c4b1 : (a0 != 5) = true := bne_iff_ne.mpr c4
    have H' := Aside0.mk H
    clear H
    go_wp2
    go_meet
    case rel => exact ⟨_, ((a0 == 13)), (by first | rfl | (simp; done) | (simp [*]; done)), H', ⟨by first | omega | exact Nat.le_refl _⟩, by repeat (first | exact Drawn0.refl _ | apply Drawn0.step)⟩
 case rest =>
  clear HC2
  try clear c1
  try clear p2
  try clear c3
  try clear c3b0
  try clear c3b1
  try clear c4
  try clear c4b0
  try clear c4b1
  obtain ⟨kq, x4_1, rfl, HA, HJ1, ⟨mc1, rfl⟩⟩ := hcut
  cases kq with
  | zero => exact absurd HA.out (by simp [code_operands.j0])
  | succ kj1 =>
   have H := HA.out
   clear HA
   simp only [code_operands.j0] at H
   by_cases c5 : x4_1 = true
   ·subst c5
    have H1 : (some 0) = some r := by rw [if_pos rfl] at H; exact H
    clear H
    have H := H1
    clear H1
    obtain rfl := Option.some.inj H
    go_wp2
    go_ret
    exact ⟨by first | rfl | (simp; done) | (simp [*]; done), by repeat (first | exact Drawn0.refl _ | apply Drawn0.step)⟩
   ·replace c5 := Bool.eq_false_iff.mpr c5
    subst c5
    have H1 : (if a0 = 23 then (code_operands.j1 kj1 a0 (a0 == 23)) else (if a0 = 24 then (code_operands.j1 kj1 a0 (a0 == 24)) else (code_operands.j1 kj1 a0 (a0 == 28)))) = some r := by rw [if_neg (show ¬ (false = true) by decide)] at H; exact H
    clear H
    have H := H1
    clear H1
    have HC6 := Aside0.mk H
    clear H
    go_upto_if 8 with (fail)
    go_cut [8] (fun v8 wc => ∃ (kq : Nat) (x8_5 : Bool), v8 = .bool x8_5 ∧ Aside0 (code_operands.j1 kq a0 x8_5 = some r) ∧ Aside0 (kq ≤ kj1) ∧ Drawn0 w wc)
    case first =>
     have H := HC6.out
     clear HC6
     by_cases c7 : a0 = 23
     ·rw [if_pos c7] at H
      have c7b0 : (a0 == 23) = true := beq_iff_eq.mpr c7
      have c7b1 : (a0 != 23) = false := bne_eq_false_iff_eq.mpr c7
      clear c7
      (first | rw [c7b0] | (simp only [i64_w, i32_w]; rw [c7b0]) | skip)
      have H' := Aside0.mk H
      clear H
      go_wp2
      go_meet
      case rel => exact ⟨_, ((a0 == 23)), (by first | rfl | (simp; done) | (simp [*]; done)), H', ⟨by have := HJ1.out; first | omega | exact Nat.le_refl _⟩, by repeat (first | exact Drawn0.refl _ | apply Drawn0.step)⟩
     ·rw [if_neg c7] at H
      have c7b0 : (a0 == 23) = false := beq_eq_false_iff_ne.mpr c7
      have c7b1 : (a0 != 23) = true := bne_iff_ne.mpr c7
      (first | rw [c7b0] | (simp only [i64_w, i32_w]; rw [c7b0]) | skip)
      by_cases c8 : a0 = 24
      ·rw [if_pos c8] at H
       have c8b0 : (a0 == 24) = true := beq_iff_eq.mpr c8
       have c8b1 : (a0 != 24) = false := bne_eq_false_iff_eq.mpr c8
       clear c8
       have H' := Aside0.mk H
       clear H
       go_wp2
       go_meet
       case rel => exact ⟨_, ((a0 == 24)), (by first | rfl | (simp; done) | (simp [*]; done)), H', ⟨by have := HJ1.out; first | omega | exact Nat.le_refl _⟩, by repeat (first | exact Drawn0.refl _ | apply Drawn0.step)⟩
      ·rw [if_neg c8] at H
       have c8b0 : (a0 == 24) = false := beq_eq_false_iff_ne.mpr c8
       have c8b1 : (a0 != 24) = true := bne_iff_ne.mpr c8
       have H' := Aside0.mk H
       clear H
       go_wp2
       go_meet
       case rel => exact ⟨_, ((a0 == 28)), (by first | rfl | (simp; done) | (simp [*]; done)), H', ⟨by have := HJ1.out; first | omega | exact Nat.le_refl _⟩, by repeat (first | exact Drawn0.refl _ | apply Drawn0.step)⟩
    case rest =>
     clear HC6
     try clear c1
     try clear p2
     try clear c3
     try clear c3b0
     try clear c3b1
     try clear c4
     try clear c4b0
     try clear c4b1
     try clear c5
     try clear c7
     try clear c7b0
     try clear c7b1
     try clear c8
     try clear c8b0
     try clear c8b1
     try clear p2
     obtain ⟨kq, x8_5, rfl, HA, HJ5, ⟨mc5, rfl⟩⟩ := hcut
     cases kq with
     | zero => exact absurd HA.out (by simp [code_operands.j1])
     | succ kj5 =>
      have H := HA.out
      clear HA
      simp only [code_operands.j1] at H
      by_cases c9 : x8_5 = true
      ·subst c9
       have H1 : (some 0) = some r := by rw [if_pos rfl] at H; exact H
       clear H
       have H := H1
       clear H1
       obtain rfl := Option.some.inj H
       go_wp2
       go_ret
       exact ⟨by first | rfl | (simp; done) | (simp [*]; done), by repeat (first | exact Drawn0.refl _ | apply Drawn0.step)⟩
      ·replace c9 := Bool.eq_false_iff.mpr c9
       subst c9
       have H1 : (if a0 = 11 then (some 2) else (if a0 = 12 then (some 2) else (if a0 = 15 then (some 2) else (if a0 = 16 then (some 2) else (if a0 = 17 then (some 2) else (some 1)))))) = some r := by rw [if_neg (show ¬ (false = true) by decide)] at H; exact H
       clear H
       have H := H1
       clear H1
       by_cases c10 : a0 = 11
       ·rw [if_pos c10] at H
        have c10b0 : (a0 == 11) = true := beq_iff_eq.mpr c10
        have c10b1 : (a0 != 11) = false := bne_eq_false_iff_eq.mpr c10
        clear c10
        obtain rfl := Option.some.inj H
        go_wp2
        go_ret
        exact ⟨by first | rfl | (simp; done) | (simp [*]; done), by repeat (first | exact Drawn0.refl _ | apply Drawn0.step)⟩
       ·rw [if_neg c10] at H
        have c10b0 : (a0 == 11) = false := beq_eq_false_iff_ne.mpr c10
        have c10b1 : (a0 != 11) = true := bne_iff_ne.mpr c10
        by_cases c11 : a0 = 12
        ·rw [if_pos c11] at H
         have c11b0 : (a0 == 12) = true := beq_iff_eq.mpr c11
         have c11b1 : (a0 != 12) = false := bne_eq_false_iff_eq.mpr c11
         clear c11
         obtain rfl := Option.some.inj H
         go_wp2
         go_ret
         exact ⟨by first | rfl | (simp; done) | (simp [*]; done), by repeat (first | exact Drawn0.refl _ | apply Drawn0.step)⟩
        ·rw [if_neg c11] at H
         have c11b0 : (a0 == 12) = false := beq_eq_false_iff_ne.mpr c11
         have c11b1 : (a0 != 12) = true := bne_iff_ne.mpr c11
         by_cases c12 : a0 = 15
         ·rw [if_pos c12] at H
          have c12b0 : (a0 == 15) = true := beq_iff_eq.mpr c12
          have c12b1 : (a0 != 15) = false := bne_eq_false_iff_eq.mpr c12
          clear c12
          obtain rfl := Option.some.inj H
          go_wp2
          go_ret
          exact ⟨by first | rfl | (simp; done) | (simp [*]; done), by repeat (first | exact Drawn0.refl _ | apply Drawn0.step)⟩
         ·rw [if_neg c12] at H
          have c12b0 : (a0 == 15) = false := beq_eq_false_iff_ne.mpr c12
          have c12b1 : (a0 != 15) = true := bne_iff_ne.mpr c12
          by_cases c13 : a0 = 16
          ·rw [if_pos c13] at H
           have c13b0 : (a0 == 16) = true := beq_iff_eq.mpr c13
           have c13b1 : (a0 != 16) = false := bne_eq_false_iff_eq.mpr c13
           clear c13
           obtain rfl := Option.some.inj H
           go_wp2
           go_ret
           exact ⟨by first | rfl | (simp; done) | (simp [*]; done), by repeat (first | exact Drawn0.refl _ | apply Drawn0.step)⟩
          ·rw [if_neg c13] at H
           have c13b0 : (a0 == 16) = false := beq_eq_false_iff_ne.mpr c13
           have c13b1 : (a0 != 16) = true := bne_iff_ne.mpr c13
           by_cases c14 : a0 = 17
           ·rw [if_pos c14] at H
            have c14b0 : (a0 == 17) = true := beq_iff_eq.mpr c14
            have c14b1 : (a0 != 17) = false := bne_eq_false_iff_eq.mpr c14
            clear c14
            obtain rfl := Option.some.inj H
            go_wp2
            go_ret
            exact ⟨by first | rfl | (simp; done) | (simp [*]; done), by repeat (first | exact Drawn0.refl _ | apply Drawn0.step)⟩
           ·rw [if_neg c14] at H
            have c14b0 : (a0 == 17) = false := beq_eq_false_iff_ne.mpr c14
            have c14b1 : (a0 != 17) = true := bne_iff_ne.mpr c14
            obtain rfl := Option.some.inj H
            go_wp2
            go_ret
            exact ⟨by first | rfl | (simp; done) | (simp [*]; done), by repeat (first | exact Drawn0.refl _ | apply Drawn0.step)⟩
end Go.Proofs.YtibbcfeaododhaaGreatDoor.PCa
