/-
  heddleref01.point and UTF: by their printed functions, what they answer. The escapes of quoted atoms: atom.escape, heddleref01.escape. Reserved words; runs of word bytes; plain atoms: atom.reserved, atom.word, atom.plain, lex.isReserved, heddleref01.Reserved, heddleref01.plain.
-/
import Derived.Test.YtgapeacflkfmdaaGreatDoorG2
import Derived.Test.YtgapeacflkfmdaaGreatDoorKPUtx1
import Derived.Lib.TrimUEq
import Derived.Test.YtgapeacflkfmdaaGreatDoorKPWdx1
import Derived.Lib.IndexMore
namespace Go.Proofs.YtgapeacflkfmdaaGreatDoor
open Go.RowKit Go.Proofs.YtgapeacflkfmdaaGreatDoorW.PrintWords Go.Proofs.YtgapeacflkfmdaaGreatDoor.PUt

theorem w64 {x : Int} (h0 : -9223372036854775808 ≤ x) (h1 : x ≤ 9223372036854775807) : wrap64 x = x := by unfold wrap64; omega

/-- How many bytes the code point has that begins at k; 0: none does. -/
def ptOf (s : ByteArray) (k : Nat) : Nat := if Utf8.decode s k = (65533, 1) then 0 else (Utf8.decode s k).2

theorem get_bt (s : ByteArray) (k : Nat) (h : k < s.size) : ((s.get! k).toNat : Int) = bt s (k : Int) := by
  rw [← btk s k h]
  have := get_at s k h
  simp at this
  rw [this]

theorem point_step (m : Nat) (s : ByteArray) (k : Nat) (n v j : Int) (hj : j < n) (hj0 : 0 ≤ j) (hn : n ≤ 4) (hk : (k : Int) + j < s.size) (hm : s.size ≤ 140737488351232) (hv0 : 0 ≤ v) (hv : v ≤ 16777216) :
    heddleref01_point.l0 (m + 1) s (k : Int) n v j = if bt s ((k : Int) + j) < 128 ∨ bt s ((k : Int) + j) > 191 then some 0 else heddleref01_point.l0 m s (k : Int) n (v * 64 + bt s ((k : Int) + j) - 128) (j + 1) := by
  have hr := bt_range s ((k : Int) + j)
  simp only [heddleref01_point.l0]
  rw [if_pos hj, w64 (x := (k : Int) + j) (by omega) (by omega), if_pos (by omega), if_pos hk]
  by_cases c1 : bt s ((k : Int) + j) < 128
  · rw [if_pos c1, if_pos (.inl c1)]
  · rw [if_neg c1]
    by_cases c2 : bt s ((k : Int) + j) > 191
    · rw [if_pos c2, if_pos (.inr c2)]
    · rw [if_neg c2, if_neg (by omega), w64 (x := v * 64) (by omega) (by omega), w64 (x := bt s ((k : Int) + j)) (by omega) (by omega), w64 (x := v * 64 + bt s ((k : Int) + j)) (by omega) (by omega), w64 (x := v * 64 + bt s ((k : Int) + j) - 128) (by omega) (by omega), w64 (x := j + 1) (by omega) (by omega)]
theorem point_end (m : Nat) (s : ByteArray) (k : Nat) (n v : Int) :
    heddleref01_point.l0 (m + 1) s (k : Int) n v n = if n = 3 ∧ (v < 2048 ∨ (55296 ≤ v ∧ v ≤ 57343)) ∨ n = 4 ∧ (v < 65536 ∨ v > 1114111) then some 0 else some n := by
  simp only [heddleref01_point.l0]
  rw [if_neg (by omega)]
  repeat' split
  all_goals first | rfl | (exfalso; omega)

set_option maxRecDepth 100000 in
set_option maxHeartbeats 4000000 in
theorem point_eq (s : ByteArray) (k : Nat) (h : k < s.size) (hm : s.size ≤ 140737488351232) : heddleref01_point.f 10 s (k : Int) = some ((ptOf s k : Nat) : Int) := by
  have hr0 := bt_range s (k : Int)
  have g0 := get_bt s k h
  have e0 : ((s.get! k).toNat : Int) < 256 := by rw [g0]; omega
  have e1 := (s.get! (k + 1)).toNat_lt
  have e2 := (s.get! (k + 2)).toNat_lt
  have e3 := (s.get! (k + 3)).toNat_lt
  unfold ptOf
  rw [Lib.decode_at]
  simp only [heddleref01_point.f]
  rw [if_pos (by omega), if_pos (by omega)]
  generalize hb0 : (s.get! k).toNat = b0 at *
  generalize hb1 : (s.get! (k + 1)).toNat = b1 at *
  generalize hb2 : (s.get! (k + 2)).toNat = b2 at *
  generalize hb3 : (s.get! (k + 3)).toNat = b3 at *
  by_cases c0 : bt s (k : Int) < 128
  · rw [if_pos c0]
    have : b0 < 128 := by omega
    simp only [Lib.decodeN, if_pos this]
    rw [if_neg (by simp; omega)]
    rfl
  · rw [if_neg c0]
    have r1 := bt_range s ((k : Int) + 1)
    have r2 := bt_range s ((k : Int) + 2)
    have r3 := bt_range s ((k : Int) + 3)
    have f1 : k + 1 < s.size → (b1 : Int) = bt s ((k : Int) + 1) := fun hh => by rw [← hb1, get_bt s (k + 1) hh]; rfl
    have f2 : k + 2 < s.size → (b2 : Int) = bt s ((k : Int) + 2) := fun hh => by rw [← hb2, get_bt s (k + 2) hh]; rfl
    have f3 : k + 3 < s.size → (b3 : Int) = bt s ((k : Int) + 3) := fun hh => by rw [← hb3, get_bt s (k + 3) hh]; rfl
    clear hb0 hb1 hb2 hb3
    by_cases d2 : 194 ≤ bt s (k : Int) ∧ bt s (k : Int) ≤ 223
    · rw [if_pos (by omega), show decide (bt s (k : Int) ≤ 223) = true from decide_eq_true d2.2]
      simp only [heddleref01_point.j0, if_true, heddleref01_point.j2]
      rw [w64 (x := bt s (k : Int)) (by omega) (by omega), w64 (x := bt s (k : Int) - 192) (by omega) (by omega), w64 (x := (k : Int) + 2) (by omega) (by omega)]
      by_cases hsz : (k : Int) + 2 > (s.size : Int)
      · rw [if_pos hsz]
        have : Lib.decodeN (s.size - k) b0 b1 b2 b3 = (65533, 1) := by
          simp only [Lib.decodeN]
          repeat' split
          all_goals first | rfl | (exfalso; omega)
        rw [this]; rfl
      · rw [if_neg hsz]
        have f1' := f1 (by omega)
        rw [point_step 7 s k 2 (bt s (k : Int) - 192) 1 (by omega) (by omega) (by omega) (by omega) hm (by omega) (by omega)]
        by_cases c1 : bt s ((k : Int) + 1) < 128 ∨ bt s ((k : Int) + 1) > 191
        · rw [if_pos c1]
          have : Lib.decodeN (s.size - k) b0 b1 b2 b3 = (65533, 1) := by
            simp only [Lib.decodeN]
            repeat' split
            all_goals first | rfl | (exfalso; omega)
          rw [this]; rfl
        · rw [if_neg c1]
          rw [show (1 : Int) + 1 = 2 from rfl]
          rw [point_end, if_neg (by omega)]
          have : (Lib.decodeN (s.size - k) b0 b1 b2 b3).2 = 2 := by
            simp only [Lib.decodeN]
            repeat' split
            all_goals first | rfl | (exfalso; omega)
          rw [if_neg (fun he => by rw [he] at this; cases this), this]
          rfl
    · have hj0 : (if bt s (k : Int) ≥ 194 then heddleref01_point.j0 10 s (k : Int) (bt s (k : Int)) (decide (bt s (k : Int) ≤ 223)) else heddleref01_point.j0 10 s (k : Int) (bt s (k : Int)) false) = heddleref01_point.j0 10 s (k : Int) (bt s (k : Int)) false := by
        by_cases c : bt s (k : Int) ≥ 194
        · rw [if_pos c, show decide (bt s (k : Int) ≤ 223) = false from decide_eq_false (by omega)]
        · rw [if_neg c]
      rw [hj0]
      clear hj0
      simp only [heddleref01_point.j0, Bool.false_eq_true, if_false]
      by_cases d3 : 224 ≤ bt s (k : Int) ∧ bt s (k : Int) ≤ 239
      · rw [if_pos (by omega), show decide (bt s (k : Int) ≤ 239) = true from decide_eq_true d3.2]
        simp only [heddleref01_point.j1, if_true, heddleref01_point.j2]
        rw [w64 (x := bt s (k : Int)) (by omega) (by omega), w64 (x := bt s (k : Int) - 224) (by omega) (by omega), w64 (x := (k : Int) + 3) (by omega) (by omega)]
        by_cases hsz : (k : Int) + 3 > (s.size : Int)
        · rw [if_pos hsz]
          have : Lib.decodeN (s.size - k) b0 b1 b2 b3 = (65533, 1) := by
            simp only [Lib.decodeN]
            repeat' split
            all_goals first | rfl | (exfalso; omega)
          rw [this]; rfl
        · rw [if_neg hsz]
          have f1' := f1 (by omega)
          have f2' := f2 (by omega)
          rw [point_step 6 s k 3 (bt s (k : Int) - 224) 1 (by omega) (by omega) (by omega) (by omega) hm (by omega) (by omega)]
          by_cases c1 : bt s ((k : Int) + 1) < 128 ∨ bt s ((k : Int) + 1) > 191
          · rw [if_pos c1]
            have : Lib.decodeN (s.size - k) b0 b1 b2 b3 = (65533, 1) := by
              simp only [Lib.decodeN]
              repeat' split
              all_goals first | rfl | (exfalso; omega)
            rw [this]; rfl
          · rw [if_neg c1]
            rw [show (1 : Int) + 1 = 2 from rfl]
            rw [point_step 5 s k 3 ((bt s (k : Int) - 224) * 64 + bt s ((k : Int) + 1) - 128) 2 (by omega) (by omega) (by omega) (by omega) hm (by omega) (by omega)]
            by_cases c2 : bt s ((k : Int) + 2) < 128 ∨ bt s ((k : Int) + 2) > 191
            · rw [if_pos c2]
              have : Lib.decodeN (s.size - k) b0 b1 b2 b3 = (65533, 1) := by
                simp only [Lib.decodeN]
                repeat' split
                all_goals first | rfl | (exfalso; omega)
              rw [this]; rfl
            · rw [if_neg c2]
              rw [show (2 : Int) + 1 = 3 from rfl]
              rw [point_end]
              by_cases ce : ((((bt s (k : Int) - 224) * 64 + bt s ((k : Int) + 1) - 128) * 64 + bt s ((k : Int) + 2) - 128) < 2048 ∨ (55296 ≤ (((bt s (k : Int) - 224) * 64 + bt s ((k : Int) + 1) - 128) * 64 + bt s ((k : Int) + 2) - 128) ∧ (((bt s (k : Int) - 224) * 64 + bt s ((k : Int) + 1) - 128) * 64 + bt s ((k : Int) + 2) - 128) ≤ 57343))
              · rw [if_pos (.inl ⟨rfl, ce⟩)]
                have : Lib.decodeN (s.size - k) b0 b1 b2 b3 = (65533, 1) := by
                  simp only [Lib.decodeN]
                  repeat' split
                  all_goals first | rfl | (exfalso; omega)
                rw [this]; rfl
              · rw [if_neg (by omega)]
                have : (Lib.decodeN (s.size - k) b0 b1 b2 b3).2 = 3 := by
                  simp only [Lib.decodeN]
                  repeat' split
                  all_goals first | rfl | (exfalso; omega)
                rw [if_neg (fun he => by rw [he] at this; cases this), this]
                rfl
      · have hj1 : (if bt s (k : Int) ≥ 224 then heddleref01_point.j1 9 s (k : Int) (bt s (k : Int)) (decide (bt s (k : Int) ≤ 239)) else heddleref01_point.j1 9 s (k : Int) (bt s (k : Int)) false) = heddleref01_point.j1 9 s (k : Int) (bt s (k : Int)) false := by
          by_cases c : bt s (k : Int) ≥ 224
          · rw [if_pos c, show decide (bt s (k : Int) ≤ 239) = false from decide_eq_false (by omega)]
          · rw [if_neg c]
        rw [hj1]
        clear hj1
        simp only [heddleref01_point.j1, Bool.false_eq_true, if_false]
        by_cases d4 : 240 ≤ bt s (k : Int) ∧ bt s (k : Int) ≤ 244
        · rw [if_pos (by omega), if_pos (by omega)]
          simp only [heddleref01_point.j2]
          rw [w64 (x := bt s (k : Int)) (by omega) (by omega), w64 (x := bt s (k : Int) - 240) (by omega) (by omega), w64 (x := (k : Int) + 4) (by omega) (by omega)]
          by_cases hsz : (k : Int) + 4 > (s.size : Int)
          · rw [if_pos hsz]
            have : Lib.decodeN (s.size - k) b0 b1 b2 b3 = (65533, 1) := by
              simp only [Lib.decodeN]
              repeat' split
              all_goals first | rfl | (exfalso; omega)
            rw [this]; rfl
          · rw [if_neg hsz]
            have f1' := f1 (by omega)
            have f2' := f2 (by omega)
            have f3' := f3 (by omega)
            rw [point_step 6 s k 4 (bt s (k : Int) - 240) 1 (by omega) (by omega) (by omega) (by omega) hm (by omega) (by omega)]
            by_cases c1 : bt s ((k : Int) + 1) < 128 ∨ bt s ((k : Int) + 1) > 191
            · rw [if_pos c1]
              have : Lib.decodeN (s.size - k) b0 b1 b2 b3 = (65533, 1) := by
                simp only [Lib.decodeN]
                repeat' split
                all_goals first | rfl | (exfalso; omega)
              rw [this]; rfl
            · rw [if_neg c1]
              rw [show (1 : Int) + 1 = 2 from rfl]
              rw [point_step 5 s k 4 ((bt s (k : Int) - 240) * 64 + bt s ((k : Int) + 1) - 128) 2 (by omega) (by omega) (by omega) (by omega) hm (by omega) (by omega)]
              by_cases c2 : bt s ((k : Int) + 2) < 128 ∨ bt s ((k : Int) + 2) > 191
              · rw [if_pos c2]
                have : Lib.decodeN (s.size - k) b0 b1 b2 b3 = (65533, 1) := by
                  simp only [Lib.decodeN]
                  repeat' split
                  all_goals first | rfl | (exfalso; omega)
                rw [this]; rfl
              · rw [if_neg c2]
                rw [show (2 : Int) + 1 = 3 from rfl]
                rw [point_step 4 s k 4 (((bt s (k : Int) - 240) * 64 + bt s ((k : Int) + 1) - 128) * 64 + bt s ((k : Int) + 2) - 128) 3 (by omega) (by omega) (by omega) (by omega) hm (by omega) (by omega)]
                by_cases c3 : bt s ((k : Int) + 3) < 128 ∨ bt s ((k : Int) + 3) > 191
                · rw [if_pos c3]
                  have : Lib.decodeN (s.size - k) b0 b1 b2 b3 = (65533, 1) := by
                    simp only [Lib.decodeN]
                    repeat' split
                    all_goals first | rfl | (exfalso; omega)
                  rw [this]; rfl
                · rw [if_neg c3]
                  rw [show (3 : Int) + 1 = 4 from rfl]
                  rw [point_end]
                  by_cases ce : (((((bt s (k : Int) - 240) * 64 + bt s ((k : Int) + 1) - 128) * 64 + bt s ((k : Int) + 2) - 128) * 64 + bt s ((k : Int) + 3) - 128) < 65536 ∨ ((((bt s (k : Int) - 240) * 64 + bt s ((k : Int) + 1) - 128) * 64 + bt s ((k : Int) + 2) - 128) * 64 + bt s ((k : Int) + 3) - 128) > 1114111)
                  · rw [if_pos (.inr ⟨rfl, ce⟩)]
                    have : Lib.decodeN (s.size - k) b0 b1 b2 b3 = (65533, 1) := by
                      simp only [Lib.decodeN]
                      repeat' split
                      all_goals first | rfl | (exfalso; omega)
                    rw [this]; rfl
                  · rw [if_neg (by omega)]
                    have : (Lib.decodeN (s.size - k) b0 b1 b2 b3).2 = 4 := by
                      simp only [Lib.decodeN]
                      repeat' split
                      all_goals first | rfl | (exfalso; omega)
                    rw [if_neg (fun he => by rw [he] at this; cases this), this]
                    rfl
        · have hz : (if bt s (k : Int) ≥ 240 then if bt s (k : Int) ≤ 244 then heddleref01_point.j2 8 s (k : Int) 4 (wrap64 (wrap64 (bt s (k : Int)) - 240)) else some 0 else some 0) = some 0 := by
            repeat' split
            all_goals first | rfl | (exfalso; omega)
          rw [hz]
          clear hz
          have : Lib.decodeN (s.size - k) b0 b1 b2 b3 = (65533, 1) := by
            simp only [Lib.decodeN]
            repeat' split
            all_goals first | rfl | (exfalso; omega)
          rw [this]; rfl

theorem leO_up {α : Type} {f : Nat → Option α} (hm : ∀ k, LeO (f k) (f (k + 1))) {k0 : Nat} {r : α} (h : f k0 = some r) : ∀ k, k0 ≤ k → f k = some r := by
  intro k hk
  obtain ⟨d, rfl⟩ : ∃ d, k = k0 + d := ⟨k - k0, by omega⟩
  clear hk
  induction d with
  | zero => exact h
  | succ d ih => exact hm _ _ ih
theorem point_up (s : ByteArray) (k n : Nat) (hn : 10 ≤ n) (h : k < s.size) (hm : s.size ≤ 140737488351232) : heddleref01_point.f n s (k : Int) = some ((ptOf s k : Nat) : Int) :=
  leO_up (f := fun n => heddleref01_point.f n s (k : Int)) (fun n => heddleref01_point.mono _ _ n) (point_eq s k h hm) n hn
theorem ptOf_zero {s : ByteArray} {k : Nat} : ptOf s k = 0 ↔ Utf8.decode s k = (65533, 1) := by
  unfold ptOf
  have := Lib.width_pos s k
  by_cases h : Utf8.decode s k = (65533, 1)
  · simp [h]
  · simp [h]; omega
theorem utf_l0 (s : ByteArray) (hm : s.size ≤ 140737488351232) : ∀ (d k n : Nat), s.size - k = d → k ≤ s.size + 4 → d + 11 ≤ n → heddleref01_UTF.l0 n s (k : Int) = some (utfBad s k) := by
  intro d
  induction d using Nat.strongRecOn with
  | _ d ih =>
    intro k n hd hk hn
    obtain ⟨n, rfl⟩ : ∃ m, n = m + 1 := ⟨n - 1, by omega⟩
    simp only [heddleref01_UTF.l0]
    by_cases h : k < s.size
    · rw [if_pos (by omega), point_up s k n (by omega) h hm]
      simp only [Option.bind_some]
      by_cases hz : Utf8.decode s k = (65533, 1)
      · rw [if_pos (by rw [ptOf_zero.2 hz]; rfl), utfBad_here h hz]
      · have hp : ptOf s k = (Utf8.decode s k).2 := by unfold ptOf; rw [if_neg hz]
        have hw := Lib.width_pos s k
        have hw4 : (Utf8.decode s k).2 ≤ 4 := by
          rw [Lib.decode_at]
          simp only [Lib.decodeN]
          repeat' split
          all_goals simp
        rw [hp, if_neg (by omega), w64 (by omega) (by omega)]
        rw [show ((k : Int) + ((Utf8.decode s k).2 : Int)) = ((k + (Utf8.decode s k).2 : Nat) : Int) from by simp]
        rw [ih (s.size - (k + (Utf8.decode s k).2)) (by omega) _ n rfl (by omega) (by omega), utfBad_on h hz]
    · rw [if_neg (by omega), utfBad_out (by omega)]
theorem UTF_any (s : ByteArray) (hm : s.size ≤ 140737488351232) (w : World) :
    Calls Tryz.prog 122 #[.string s] w fun e w' => e = .returned (.int .i64 (utfBad s 0)) ∧ Drawn0 w w' :=
  heddleref01_UTF.calls (s.size + 11) s (utfBad s 0) w (by
    unfold heddleref01_UTF.f
    exact utf_l0 s hm s.size 0 _ (by omega) (by omega) (by omega))
end Go.Proofs.YtgapeacflkfmdaaGreatDoor
namespace Go.Proofs.YtgapeacflkfmdaaGreatDoor
open Go.RowKit Go.Proofs.YtgapeacflkfmdaaGreatDoorW.PrintWords

def escX : List Int → Int × Nat
  | a :: b :: _ => if 0 ≤ hexOf a ∧ 0 ≤ hexOf b then (hexOf a * 16 + hexOf b, 3) else (0, 0)
  | _ => (0, 0)
/-- The byte that stands behind a backslash, and how many bytes that takes; 0: none. -/
def escOf : List Int → Int × Nat
  | [] => (0, 0)
  | c :: r => if c = 110 then (10, 1) else if c = 116 then (9, 1) else if c = 114 then (13, 1) else if c = 39 then (39, 1) else if c = 92 then (92, 1) else if c = 120 then escX r else (0, 0)
theorem hexOf_range (c : Int) : -1 ≤ hexOf c ∧ hexOf c ≤ 15 := by
  unfold hexOf isDigit
  simp only [Bool.and_eq_true, decide_eq_true_eq]
  repeat' split
  all_goals omega
theorem or16 : ∀ a b : Fin 16, Go.bits .or .i64 ((a.val : Int) * 16) (b.val : Int) = (a.val : Int) * 16 + (b.val : Int) := by decide +kernel
theorem or_hex (a b : Int) (ha : 0 ≤ a) (ha' : a ≤ 15) (hb : 0 ≤ b) (hb' : b ≤ 15) : Go.bits .or .i64 (a * 16) b = a * 16 + b := by
  have := or16 ⟨a.toNat, by omega⟩ ⟨b.toNat, by omega⟩
  simp only at this
  rw [Int.toNat_of_nonneg ha, Int.toNat_of_nonneg hb] at this
  exact this

def TwoPost (w : World) (r : Int × Nat) (e : Ending) (w' : World) : Prop := e = .returned (.tuple #[.int .u8 r.1, .int .i64 (r.2 : Int)]) ∧ Drawn0 w w'

set_option maxRecDepth 100000 in
set_option maxHeartbeats 1000000 in
theorem atom_escape (s : ByteArray) (w : World) :
    Calls Tryz.prog 211 #[.string s] w (TwoPost w (escOf (bs s))) := by
  by_cases h0 : s.size = 0
  · have he : escOf (bs s) = (0, 0) := by
      have : bs s = [] := by simpa using bs_end s 0 (by omega)
      rw [this]; rfl
    have hl : s.toList = [] := by rw [Lib.toList_data]; exact List.eq_nil_of_length_eq_zero (by rw [← Lib.size_eq]; exact h0)
    rw [he]
    clear he
    go_enter Tryz.func211, Tryz.ntmps211
    go_wp2_with fail
    go_ret2
    exact ⟨rfl, Drawn0.refl _⟩
  · have hl : s.toList ≠ [] := by rw [Lib.toList_data]; intro h; exact h0 (by rw [Lib.size_eq, h]; rfl)
    have hle : s.toList.isEmpty = false := by simpa using hl
    have hbs : bs s = bt s 0 :: (bs s).drop 1 := by simpa using bs_drop s 0 (by omega)
    have hb := btk s 0
    have hpos : 0 < s.size := by omega
    simp only [Int.natCast_zero] at hb
    clear hl
    by_cases c0 : bt s 0 = 110
    · have HE : Hid (escOf (bs s) = (10, 1)) := Lib.hid (by rw [hbs]; simp only [escOf]; rw [if_pos c0])
      have cb0 : (bt s 0 == 110) = true := beq_iff_eq.2 c0
      clear c0 hbs
      go_enter Tryz.func211, Tryz.ntmps211
      go_wp2_with fail
      go_ret2
      exact ⟨by rw [HE.out]; rfl, Drawn0.refl _⟩
    · skip
      by_cases c1 : bt s 0 = 116
      · have HE : Hid (escOf (bs s) = (9, 1)) := Lib.hid (by rw [hbs]; simp only [escOf]; rw [if_neg c0, if_pos c1])
        have cb0 : (bt s 0 == 110) = false := beq_eq_false_iff_ne.2 c0
        have cb1 : (bt s 0 == 116) = true := beq_iff_eq.2 c1
        clear c0 c1 hbs
        go_enter Tryz.func211, Tryz.ntmps211
        go_wp2_with fail
        go_ret2
        exact ⟨by rw [HE.out]; rfl, Drawn0.refl _⟩
      · skip
        by_cases c2 : bt s 0 = 114
        · have HE : Hid (escOf (bs s) = (13, 1)) := Lib.hid (by rw [hbs]; simp only [escOf]; rw [if_neg c0, if_neg c1, if_pos c2])
          have cb0 : (bt s 0 == 110) = false := beq_eq_false_iff_ne.2 c0
          have cb1 : (bt s 0 == 116) = false := beq_eq_false_iff_ne.2 c1
          have cb2 : (bt s 0 == 114) = true := beq_iff_eq.2 c2
          clear c0 c1 c2 hbs
          go_enter Tryz.func211, Tryz.ntmps211
          go_wp2_with fail
          go_ret2
          exact ⟨by rw [HE.out]; rfl, Drawn0.refl _⟩
        · skip
          by_cases c3 : bt s 0 = 39
          · have HE : Hid (escOf (bs s) = (39, 1)) := Lib.hid (by rw [hbs]; simp only [escOf]; rw [if_neg c0, if_neg c1, if_neg c2, if_pos c3])
            have hv : bt s 0 = 39 := c3
            have HV := Lib.hid hv
            clear hv
            have cb0 : (bt s 0 == 110) = false := beq_eq_false_iff_ne.2 c0
            have cb1 : (bt s 0 == 116) = false := beq_eq_false_iff_ne.2 c1
            have cb2 : (bt s 0 == 114) = false := beq_eq_false_iff_ne.2 c2
            have cb3 : (bt s 0 == 39) = true := beq_iff_eq.2 c3
            clear c0 c1 c2 c3 hbs
            go_enter Tryz.func211, Tryz.ntmps211
            go_wp2_with fail
            go_ret2
            exact ⟨by rw [HE.out]; simp only [HV.out]; rfl, Drawn0.refl _⟩
          · skip
            by_cases c4 : bt s 0 = 92
            · have HE : Hid (escOf (bs s) = (92, 1)) := Lib.hid (by rw [hbs]; simp only [escOf]; rw [if_neg c0, if_neg c1, if_neg c2, if_neg c3, if_pos c4])
              have hv : bt s 0 = 92 := c4
              have HV := Lib.hid hv
              clear hv
              have cb0 : (bt s 0 == 110) = false := beq_eq_false_iff_ne.2 c0
              have cb1 : (bt s 0 == 116) = false := beq_eq_false_iff_ne.2 c1
              have cb2 : (bt s 0 == 114) = false := beq_eq_false_iff_ne.2 c2
              have cb3 : (bt s 0 == 39) = false := beq_eq_false_iff_ne.2 c3
              have cb4 : (bt s 0 == 92) = true := beq_iff_eq.2 c4
              clear c0 c1 c2 c3 c4 hbs
              go_enter Tryz.func211, Tryz.ntmps211
              go_wp2_with fail
              go_ret2
              exact ⟨by rw [HE.out]; simp only [HV.out]; rfl, Drawn0.refl _⟩
            · skip
              by_cases c5 : bt s 0 = 120
              · have HE0 : Hid (escOf (bs s) = escX ((bs s).drop 1)) := Lib.hid (by rw [hbs]; simp only [escOf, List.drop_succ_cons, List.drop_zero]; rw [if_neg c0, if_neg c1, if_neg c2, if_neg c3, if_neg c4, if_pos c5])
                have cb0 : (bt s 0 == 110) = false := beq_eq_false_iff_ne.2 c0
                have cb1 : (bt s 0 == 116) = false := beq_eq_false_iff_ne.2 c1
                have cb2 : (bt s 0 == 114) = false := beq_eq_false_iff_ne.2 c2
                have cb3 : (bt s 0 == 39) = false := beq_eq_false_iff_ne.2 c3
                have cb4 : (bt s 0 == 92) = false := beq_eq_false_iff_ne.2 c4
                have cb5 : (bt s 0 == 120) = true := beq_iff_eq.2 c5
                clear c0 c1 c2 c3 c4 c5 hbs
                have r1 := bt_range s 1
                have r2 := bt_range s 2
                have x1 := hexOf_range (bt s 1)
                have x2 := hexOf_range (bt s 2)
                by_cases h2 : s.size ≤ 2
                · have HE : Hid (escOf (bs s) = (0, 0)) := by
                    refine Lib.hid (HE0.out.trans ?_)
                    have hl2 : ((bs s).drop 1).length ≤ 1 := by rw [List.length_drop, bs_len]; omega
                    match hx : (bs s).drop 1, hl2 with
                    | [], _ => rfl
                    | [a], _ => rfl
                  have e2 : decide ((s.size : Int) > 2) = false := decide_eq_false (by omega)
                  go_enter Tryz.func211, Tryz.ntmps211
                  go_wp2_with fail
                  go_ret2
                  exact ⟨by rw [HE.out]; rfl, Drawn0.refl _⟩
                · have e1 : 1 < s.size := by omega
                  have e2 : 2 < s.size := by omega
                  have hb1 : ∀ h : 1 < s.size, ((s[1]'h).toNat : Int) = bt s 1 := btk s 1
                  have hb2 : ∀ h : 2 < s.size, ((s[2]'h).toNat : Int) = bt s 2 := btk s 2
                  have HD : Hid ((bs s).drop 1 = bt s 1 :: bt s 2 :: (bs s).drop 3) := by
                    refine Lib.hid ?_
                    rw [bs_drop s 1 e1, bs_drop s 2 e2]; rfl
                  by_cases g1 : 0 ≤ hexOf (bt s 1)
                  · by_cases g2 : 0 ≤ hexOf (bt s 2)
                    · have HE : Hid (escOf (bs s) = (hexOf (bt s 1) * 16 + hexOf (bt s 2), 3)) := Lib.hid (by rw [HE0.out, HD.out]; simp only [escX]; rw [if_pos ⟨g1, g2⟩])
                      have ho := or_hex _ _ g1 x1.2 g2 x2.2
                      go_enter Tryz.func211, Tryz.ntmps211
                      go_wp2_with fail
                      refine (atom_nibble _ r1.1 r1.2 _).mono ?_
                      rintro e w' ⟨rfl, rfl⟩
                      go_wp2_with fail
                      refine (atom_nibble _ r2.1 r2.2 _).mono ?_
                      rintro e w' ⟨rfl, rfl⟩
                      go_wp2_with fail
                      go_quiet ((go_at_call 223; exact Calls.quiet_of_same ((atom_nibble _ (by omega) (by omega) _).mono fun e w' h => ⟨h.1, h.2.symm⟩)))
                      go_wp2_with fail
                      go_ret2
                      exact ⟨by rw [HE.out]; rfl, by repeat (first | exact Drawn0.refl _ | apply Drawn0.step)⟩
                    · have HE : Hid (escOf (bs s) = (0, 0)) := Lib.hid (by rw [HE0.out, HD.out]; simp only [escX]; rw [if_neg (fun h => g2 h.2)])
                      go_enter Tryz.func211, Tryz.ntmps211
                      go_wp2_with fail
                      refine (atom_nibble _ r1.1 r1.2 _).mono ?_
                      rintro e w' ⟨rfl, rfl⟩
                      go_wp2_with fail
                      refine (atom_nibble _ r2.1 r2.2 _).mono ?_
                      rintro e w' ⟨rfl, rfl⟩
                      go_wp2_with fail
                      go_ret2
                      exact ⟨by rw [HE.out]; rfl, Drawn0.refl _⟩
                  · have HE : Hid (escOf (bs s) = (0, 0)) := Lib.hid (by rw [HE0.out, HD.out]; simp only [escX]; rw [if_neg (fun h => g1 h.1)])
                    go_enter Tryz.func211, Tryz.ntmps211
                    go_wp2_with fail
                    refine (atom_nibble _ r1.1 r1.2 _).mono ?_
                    rintro e w' ⟨rfl, rfl⟩
                    go_wp2_with fail
                    go_ret2
                    exact ⟨by rw [HE.out]; rfl, Drawn0.refl _⟩
              · have HE : Hid (escOf (bs s) = (0, 0)) := Lib.hid (by rw [hbs]; simp only [escOf]; rw [if_neg c0, if_neg c1, if_neg c2, if_neg c3, if_neg c4, if_neg c5])
                have cb0 : (bt s 0 == 110) = false := beq_eq_false_iff_ne.2 c0
                have cb1 : (bt s 0 == 116) = false := beq_eq_false_iff_ne.2 c1
                have cb2 : (bt s 0 == 114) = false := beq_eq_false_iff_ne.2 c2
                have cb3 : (bt s 0 == 39) = false := beq_eq_false_iff_ne.2 c3
                have cb4 : (bt s 0 == 92) = false := beq_eq_false_iff_ne.2 c4
                have cb5 : (bt s 0 == 120) = false := beq_eq_false_iff_ne.2 c5
                clear c0 c1 c2 c3 c4 c5 hbs
                go_enter Tryz.func211, Tryz.ntmps211
                go_wp2_with fail
                go_ret2
                exact ⟨by rw [HE.out]; rfl, Drawn0.refl _⟩
set_option maxRecDepth 100000 in
set_option maxHeartbeats 1000000 in
theorem ref01_escape (s : ByteArray) (i : Nat) (hi : i ≤ s.size) (hm : s.size ≤ 140737488351232) (w : World) :
    Calls Tryz.prog 224 #[.string s, .int .i64 (i : Int)] w (TwoPost w (escOf ((bs s).drop i))) := by
  by_cases h0 : s.size ≤ i
  · have he : escOf ((bs s).drop i) = (0, 0) := by rw [bs_end s i h0]; rfl
    have hd : decide ((i : Int) ≥ (s.size : Int)) = true := decide_eq_true (by omega)
    rw [he]
    clear he
    go_enter Tryz.func224, Tryz.ntmps224
    go_wp2_with fail
    go_ret2
    exact ⟨rfl, Drawn0.refl _⟩
  · have hbs : (bs s).drop i = bt s (i : Int) :: (bs s).drop (i + 1) := bs_drop s i (by omega)
    have hb := btk s i
    have hpos : i < s.size := by omega
    have hp0 : (0 : Int) ≤ (i : Int) := by omega
    have hp1 : (i : Int) < (s.size : Int) := by omega
    clear h0
    by_cases c0 : bt s (i : Int) = 110
    · have HE : Hid (escOf ((bs s).drop i) = (10, 1)) := Lib.hid (by rw [hbs]; simp only [escOf]; rw [if_pos c0])
      have cb0 : (bt s (i : Int) == 110) = true := beq_iff_eq.2 c0
      have cb1 : (bt s (i : Int) == 116) = false := beq_eq_false_iff_ne.2 (by omega)
      have cb2 : (bt s (i : Int) == 114) = false := beq_eq_false_iff_ne.2 (by omega)
      have cb3 : (bt s (i : Int) == 39) = false := beq_eq_false_iff_ne.2 (by omega)
      have cb4 : (bt s (i : Int) == 92) = false := beq_eq_false_iff_ne.2 (by omega)
      have cb5 : (bt s (i : Int) == 120) = false := beq_eq_false_iff_ne.2 (by omega)
      clear c0 hbs
      go_enter Tryz.func224, Tryz.ntmps224
      go_wp2_with fail
      go_ret2
      exact ⟨by rw [HE.out]; rfl, Drawn0.refl _⟩
    · skip
      by_cases c1 : bt s (i : Int) = 116
      · have HE : Hid (escOf ((bs s).drop i) = (9, 1)) := Lib.hid (by rw [hbs]; simp only [escOf]; rw [if_neg c0, if_pos c1])
        have cb0 : (bt s (i : Int) == 110) = false := beq_eq_false_iff_ne.2 (by omega)
        have cb1 : (bt s (i : Int) == 116) = true := beq_iff_eq.2 c1
        have cb2 : (bt s (i : Int) == 114) = false := beq_eq_false_iff_ne.2 (by omega)
        have cb3 : (bt s (i : Int) == 39) = false := beq_eq_false_iff_ne.2 (by omega)
        have cb4 : (bt s (i : Int) == 92) = false := beq_eq_false_iff_ne.2 (by omega)
        have cb5 : (bt s (i : Int) == 120) = false := beq_eq_false_iff_ne.2 (by omega)
        clear c0 c1 hbs
        go_enter Tryz.func224, Tryz.ntmps224
        go_wp2_with fail
        go_ret2
        exact ⟨by rw [HE.out]; rfl, Drawn0.refl _⟩
      · skip
        by_cases c2 : bt s (i : Int) = 114
        · have HE : Hid (escOf ((bs s).drop i) = (13, 1)) := Lib.hid (by rw [hbs]; simp only [escOf]; rw [if_neg c0, if_neg c1, if_pos c2])
          have cb0 : (bt s (i : Int) == 110) = false := beq_eq_false_iff_ne.2 (by omega)
          have cb1 : (bt s (i : Int) == 116) = false := beq_eq_false_iff_ne.2 (by omega)
          have cb2 : (bt s (i : Int) == 114) = true := beq_iff_eq.2 c2
          have cb3 : (bt s (i : Int) == 39) = false := beq_eq_false_iff_ne.2 (by omega)
          have cb4 : (bt s (i : Int) == 92) = false := beq_eq_false_iff_ne.2 (by omega)
          have cb5 : (bt s (i : Int) == 120) = false := beq_eq_false_iff_ne.2 (by omega)
          clear c0 c1 c2 hbs
          go_enter Tryz.func224, Tryz.ntmps224
          go_wp2_with fail
          go_ret2
          exact ⟨by rw [HE.out]; rfl, Drawn0.refl _⟩
        · skip
          by_cases c3 : bt s (i : Int) = 39
          · have HE : Hid (escOf ((bs s).drop i) = (39, 1)) := Lib.hid (by rw [hbs]; simp only [escOf]; rw [if_neg c0, if_neg c1, if_neg c2, if_pos c3])
            have hv : bt s (i : Int) = 39 := c3
            have HV := Lib.hid hv
            clear hv
            have cb0 : (bt s (i : Int) == 110) = false := beq_eq_false_iff_ne.2 (by omega)
            have cb1 : (bt s (i : Int) == 116) = false := beq_eq_false_iff_ne.2 (by omega)
            have cb2 : (bt s (i : Int) == 114) = false := beq_eq_false_iff_ne.2 (by omega)
            have cb3 : (bt s (i : Int) == 39) = true := beq_iff_eq.2 c3
            have cb4 : (bt s (i : Int) == 92) = false := beq_eq_false_iff_ne.2 (by omega)
            have cb5 : (bt s (i : Int) == 120) = false := beq_eq_false_iff_ne.2 (by omega)
            clear c0 c1 c2 c3 hbs
            go_enter Tryz.func224, Tryz.ntmps224
            go_wp2_with fail
            go_ret2
            exact ⟨by rw [HE.out]; simp only [HV.out]; rfl, Drawn0.refl _⟩
          · skip
            by_cases c4 : bt s (i : Int) = 92
            · have HE : Hid (escOf ((bs s).drop i) = (92, 1)) := Lib.hid (by rw [hbs]; simp only [escOf]; rw [if_neg c0, if_neg c1, if_neg c2, if_neg c3, if_pos c4])
              have hv : bt s (i : Int) = 92 := c4
              have HV := Lib.hid hv
              clear hv
              have cb0 : (bt s (i : Int) == 110) = false := beq_eq_false_iff_ne.2 (by omega)
              have cb1 : (bt s (i : Int) == 116) = false := beq_eq_false_iff_ne.2 (by omega)
              have cb2 : (bt s (i : Int) == 114) = false := beq_eq_false_iff_ne.2 (by omega)
              have cb3 : (bt s (i : Int) == 39) = false := beq_eq_false_iff_ne.2 (by omega)
              have cb4 : (bt s (i : Int) == 92) = true := beq_iff_eq.2 c4
              have cb5 : (bt s (i : Int) == 120) = false := beq_eq_false_iff_ne.2 (by omega)
              clear c0 c1 c2 c3 c4 hbs
              go_enter Tryz.func224, Tryz.ntmps224
              go_wp2_with fail
              go_ret2
              exact ⟨by rw [HE.out]; simp only [HV.out]; rfl, Drawn0.refl _⟩
            · skip
              by_cases c5 : bt s (i : Int) = 120
              · have HE0 : Hid (escOf ((bs s).drop i) = escX ((bs s).drop (i + 1))) := Lib.hid (by rw [hbs]; simp only [escOf]; rw [if_neg c0, if_neg c1, if_neg c2, if_neg c3, if_neg c4, if_pos c5])
                have cb0 : (bt s (i : Int) == 110) = false := beq_eq_false_iff_ne.2 (by omega)
                have cb1 : (bt s (i : Int) == 116) = false := beq_eq_false_iff_ne.2 (by omega)
                have cb2 : (bt s (i : Int) == 114) = false := beq_eq_false_iff_ne.2 (by omega)
                have cb3 : (bt s (i : Int) == 39) = false := beq_eq_false_iff_ne.2 (by omega)
                have cb4 : (bt s (i : Int) == 92) = false := beq_eq_false_iff_ne.2 (by omega)
                have cb5 : (bt s (i : Int) == 120) = true := beq_iff_eq.2 c5
                clear c0 c1 c2 c3 c4 c5 hbs
                have r1 := bt_range s ((i : Int) + 1)
                have r2 := bt_range s ((i : Int) + 2)
                have x1 := hexOf_range (bt s ((i : Int) + 1))
                have x2 := hexOf_range (bt s ((i : Int) + 2))
                by_cases h2 : s.size ≤ i + 2
                · have HE : Hid (escOf ((bs s).drop i) = (0, 0)) := by
                    refine Lib.hid (HE0.out.trans ?_)
                    have hl2 : ((bs s).drop (i + 1)).length ≤ 1 := by rw [List.length_drop, bs_len]; omega
                    match hx : (bs s).drop (i + 1), hl2 with
                    | [], _ => rfl
                    | [a], _ => rfl
                  have e2 : decide ((i : Int) + 2 < (s.size : Int)) = false := decide_eq_false (by omega)
                  go_enter Tryz.func224, Tryz.ntmps224
                  go_wp2_with fail
                  go_ret2
                  exact ⟨by rw [HE.out]; rfl, Drawn0.refl _⟩
                · have e1 : i + 1 < s.size := by omega
                  have e2 : i + 2 < s.size := by omega
                  have e3 : decide ((i : Int) + 2 < (s.size : Int)) = true := decide_eq_true (by omega)
                  have q1 : (i : Int) + 1 < (s.size : Int) := by omega
                  have q2 : (i : Int) + 2 < (s.size : Int) := by omega
                  have hb1 : ∀ h : i + 1 < s.size, ((s[i + 1]'h).toNat : Int) = bt s ((i : Int) + 1) := btk s (i + 1)
                  have hb2 : ∀ h : i + 2 < s.size, ((s[i + 2]'h).toNat : Int) = bt s ((i : Int) + 2) := btk s (i + 2)
                  have HD : Hid ((bs s).drop (i + 1) = bt s ((i : Int) + 1) :: bt s ((i : Int) + 2) :: (bs s).drop (i + 3)) := by
                    refine Lib.hid ?_
                    rw [bs_drop s (i + 1) e1, bs_drop s (i + 2) e2]; rfl
                  by_cases g1 : 0 ≤ hexOf (bt s ((i : Int) + 1))
                  · by_cases g2 : 0 ≤ hexOf (bt s ((i : Int) + 2))
                    · have HE : Hid (escOf ((bs s).drop i) = (hexOf (bt s ((i : Int) + 1)) * 16 + hexOf (bt s ((i : Int) + 2)), 3)) := Lib.hid (by rw [HE0.out, HD.out]; simp only [escX]; rw [if_pos ⟨g1, g2⟩])
                      go_enter Tryz.func224, Tryz.ntmps224
                      go_wp2_with fail
                      refine (ref01_digit _ r1.1 r1.2 _).mono ?_
                      rintro e w' ⟨rfl, rfl⟩
                      go_wp2_with fail
                      refine (ref01_digit _ r2.1 r2.2 _).mono ?_
                      rintro e w' ⟨rfl, rfl⟩
                      go_wp2_with fail
                      go_quiet ((go_at_call 230; exact Calls.quiet_of_same ((ref01_digit _ (by omega) (by omega) _).mono fun e w' h => ⟨h.1, h.2.symm⟩)))
                      go_wp2_with fail
                      go_ret2
                      exact ⟨by rw [HE.out]; rfl, by repeat (first | exact Drawn0.refl _ | apply Drawn0.step)⟩
                    · have HE : Hid (escOf ((bs s).drop i) = (0, 0)) := Lib.hid (by rw [HE0.out, HD.out]; simp only [escX]; rw [if_neg (fun h => g2 h.2)])
                      go_enter Tryz.func224, Tryz.ntmps224
                      go_wp2_with fail
                      refine (ref01_digit _ r1.1 r1.2 _).mono ?_
                      rintro e w' ⟨rfl, rfl⟩
                      go_wp2_with fail
                      refine (ref01_digit _ r2.1 r2.2 _).mono ?_
                      rintro e w' ⟨rfl, rfl⟩
                      go_wp2_with fail
                      go_ret2
                      exact ⟨by rw [HE.out]; rfl, Drawn0.refl _⟩
                  · have HE : Hid (escOf ((bs s).drop i) = (0, 0)) := Lib.hid (by rw [HE0.out, HD.out]; simp only [escX]; rw [if_neg (fun h => g1 h.1)])
                    go_enter Tryz.func224, Tryz.ntmps224
                    go_wp2_with fail
                    refine (ref01_digit _ r1.1 r1.2 _).mono ?_
                    rintro e w' ⟨rfl, rfl⟩
                    go_wp2_with fail
                    go_ret2
                    exact ⟨by rw [HE.out]; rfl, Drawn0.refl _⟩
              · have HE : Hid (escOf ((bs s).drop i) = (0, 0)) := Lib.hid (by rw [hbs]; simp only [escOf]; rw [if_neg c0, if_neg c1, if_neg c2, if_neg c3, if_neg c4, if_neg c5])
                have cb0 : (bt s (i : Int) == 110) = false := beq_eq_false_iff_ne.2 (by omega)
                have cb1 : (bt s (i : Int) == 116) = false := beq_eq_false_iff_ne.2 (by omega)
                have cb2 : (bt s (i : Int) == 114) = false := beq_eq_false_iff_ne.2 (by omega)
                have cb3 : (bt s (i : Int) == 39) = false := beq_eq_false_iff_ne.2 (by omega)
                have cb4 : (bt s (i : Int) == 92) = false := beq_eq_false_iff_ne.2 (by omega)
                have cb5 : (bt s (i : Int) == 120) = false := beq_eq_false_iff_ne.2 (by omega)
                clear c0 c1 c2 c3 c4 c5 hbs
                go_enter Tryz.func224, Tryz.ntmps224
                go_wp2_with fail
                go_ret2
                exact ⟨by rw [HE.out]; rfl, Drawn0.refl _⟩
end Go.Proofs.YtgapeacflkfmdaaGreatDoor
namespace Go.Proofs.YtgapeacflkfmdaaGreatDoor
open Go.RowKit Go.Proofs.YtgapeacflkfmdaaGreatDoorW.PrintWords

def resList : List (List UInt8) := [[97, 102, 116, 101, 114], [97, 110, 100], [97, 110, 100, 97, 108, 115, 111], [98, 101, 103, 105, 110], [99, 97, 115, 101], [99, 97, 116, 99, 104], [100, 105, 118], [101, 110, 100], [102, 117, 110], [105, 102], [110, 111, 116], [111, 102], [111, 114], [111, 114, 101, 108, 115, 101], [114, 101, 99, 101, 105, 118, 101], [114, 101, 109], [116, 114, 121], [119, 104, 101, 110], [120, 111, 114]]
def isRes (s : ByteArray) : Bool := resList.contains s.data.toList
theorem isRes_no {s : ByteArray} (h : isRes s = false) (r : List UInt8) (hr : r ∈ resList) : (s.toList == r) = false := by
  rw [Lib.toList_data, beq_eq_false_iff_ne]
  rintro rfl
  unfold isRes at h
  rw [List.contains_eq_mem, decide_eq_false_iff_not] at h
  exact h hr
theorem isRes_yes {s : ByteArray} (h : isRes s = true) : ∃ r, r ∈ resList ∧ s = ⟨r.toArray⟩ := by
  unfold isRes at h
  rw [List.contains_eq_mem, decide_eq_true_eq] at h
  exact ⟨_, h, by simp⟩

theorem atom_reserved_0 (w : World) : Calls Tryz.prog 169 #[.string ⟨#[97, 102, 116, 101, 114]⟩] w fun e w' => e = .returned (.bool true) ∧ w = w' := by
  go_enter Tryz.func169, Tryz.ntmps169
  go_wp2_with fail
  go_ret
  exact ⟨rfl, rfl⟩
theorem atom_reserved_1 (w : World) : Calls Tryz.prog 169 #[.string ⟨#[97, 110, 100]⟩] w fun e w' => e = .returned (.bool true) ∧ w = w' := by
  go_enter Tryz.func169, Tryz.ntmps169
  go_wp2_with fail
  go_ret
  exact ⟨rfl, rfl⟩
theorem atom_reserved_2 (w : World) : Calls Tryz.prog 169 #[.string ⟨#[97, 110, 100, 97, 108, 115, 111]⟩] w fun e w' => e = .returned (.bool true) ∧ w = w' := by
  go_enter Tryz.func169, Tryz.ntmps169
  go_wp2_with fail
  go_ret
  exact ⟨rfl, rfl⟩
theorem atom_reserved_3 (w : World) : Calls Tryz.prog 169 #[.string ⟨#[98, 101, 103, 105, 110]⟩] w fun e w' => e = .returned (.bool true) ∧ w = w' := by
  go_enter Tryz.func169, Tryz.ntmps169
  go_wp2_with fail
  go_ret
  exact ⟨rfl, rfl⟩
theorem atom_reserved_4 (w : World) : Calls Tryz.prog 169 #[.string ⟨#[99, 97, 115, 101]⟩] w fun e w' => e = .returned (.bool true) ∧ w = w' := by
  go_enter Tryz.func169, Tryz.ntmps169
  go_wp2_with fail
  go_ret
  exact ⟨rfl, rfl⟩
theorem atom_reserved_5 (w : World) : Calls Tryz.prog 169 #[.string ⟨#[99, 97, 116, 99, 104]⟩] w fun e w' => e = .returned (.bool true) ∧ w = w' := by
  go_enter Tryz.func169, Tryz.ntmps169
  go_wp2_with fail
  go_ret
  exact ⟨rfl, rfl⟩
theorem atom_reserved_6 (w : World) : Calls Tryz.prog 169 #[.string ⟨#[100, 105, 118]⟩] w fun e w' => e = .returned (.bool true) ∧ w = w' := by
  go_enter Tryz.func169, Tryz.ntmps169
  go_wp2_with fail
  go_ret
  exact ⟨rfl, rfl⟩
theorem atom_reserved_7 (w : World) : Calls Tryz.prog 169 #[.string ⟨#[101, 110, 100]⟩] w fun e w' => e = .returned (.bool true) ∧ w = w' := by
  go_enter Tryz.func169, Tryz.ntmps169
  go_wp2_with fail
  go_ret
  exact ⟨rfl, rfl⟩
theorem atom_reserved_8 (w : World) : Calls Tryz.prog 169 #[.string ⟨#[102, 117, 110]⟩] w fun e w' => e = .returned (.bool true) ∧ w = w' := by
  go_enter Tryz.func169, Tryz.ntmps169
  go_wp2_with fail
  go_ret
  exact ⟨rfl, rfl⟩
theorem atom_reserved_9 (w : World) : Calls Tryz.prog 169 #[.string ⟨#[105, 102]⟩] w fun e w' => e = .returned (.bool true) ∧ w = w' := by
  go_enter Tryz.func169, Tryz.ntmps169
  go_wp2_with fail
  go_ret
  exact ⟨rfl, rfl⟩
theorem atom_reserved_10 (w : World) : Calls Tryz.prog 169 #[.string ⟨#[110, 111, 116]⟩] w fun e w' => e = .returned (.bool true) ∧ w = w' := by
  go_enter Tryz.func169, Tryz.ntmps169
  go_wp2_with fail
  go_ret
  exact ⟨rfl, rfl⟩
theorem atom_reserved_11 (w : World) : Calls Tryz.prog 169 #[.string ⟨#[111, 102]⟩] w fun e w' => e = .returned (.bool true) ∧ w = w' := by
  go_enter Tryz.func169, Tryz.ntmps169
  go_wp2_with fail
  go_ret
  exact ⟨rfl, rfl⟩
theorem atom_reserved_12 (w : World) : Calls Tryz.prog 169 #[.string ⟨#[111, 114]⟩] w fun e w' => e = .returned (.bool true) ∧ w = w' := by
  go_enter Tryz.func169, Tryz.ntmps169
  go_wp2_with fail
  go_ret
  exact ⟨rfl, rfl⟩
theorem atom_reserved_13 (w : World) : Calls Tryz.prog 169 #[.string ⟨#[111, 114, 101, 108, 115, 101]⟩] w fun e w' => e = .returned (.bool true) ∧ w = w' := by
  go_enter Tryz.func169, Tryz.ntmps169
  go_wp2_with fail
  go_ret
  exact ⟨rfl, rfl⟩
theorem atom_reserved_14 (w : World) : Calls Tryz.prog 169 #[.string ⟨#[114, 101, 99, 101, 105, 118, 101]⟩] w fun e w' => e = .returned (.bool true) ∧ w = w' := by
  go_enter Tryz.func169, Tryz.ntmps169
  go_wp2_with fail
  go_ret
  exact ⟨rfl, rfl⟩
theorem atom_reserved_15 (w : World) : Calls Tryz.prog 169 #[.string ⟨#[114, 101, 109]⟩] w fun e w' => e = .returned (.bool true) ∧ w = w' := by
  go_enter Tryz.func169, Tryz.ntmps169
  go_wp2_with fail
  go_ret
  exact ⟨rfl, rfl⟩
theorem atom_reserved_16 (w : World) : Calls Tryz.prog 169 #[.string ⟨#[116, 114, 121]⟩] w fun e w' => e = .returned (.bool true) ∧ w = w' := by
  go_enter Tryz.func169, Tryz.ntmps169
  go_wp2_with fail
  go_ret
  exact ⟨rfl, rfl⟩
theorem atom_reserved_17 (w : World) : Calls Tryz.prog 169 #[.string ⟨#[119, 104, 101, 110]⟩] w fun e w' => e = .returned (.bool true) ∧ w = w' := by
  go_enter Tryz.func169, Tryz.ntmps169
  go_wp2_with fail
  go_ret
  exact ⟨rfl, rfl⟩
theorem atom_reserved_18 (w : World) : Calls Tryz.prog 169 #[.string ⟨#[120, 111, 114]⟩] w fun e w' => e = .returned (.bool true) ∧ w = w' := by
  go_enter Tryz.func169, Tryz.ntmps169
  go_wp2_with fail
  go_ret
  exact ⟨rfl, rfl⟩
theorem atom_reserved (s : ByteArray) (w : World) : Calls Tryz.prog 169 #[.string s] w fun e w' => e = .returned (.bool (isRes s)) ∧ w = w' := by
  cases h : isRes s with
  | true =>
    obtain ⟨r, hr, rfl⟩ := isRes_yes h
    clear h
    simp only [resList, List.mem_cons, List.mem_nil_iff, or_false] at hr
    rcases hr with rfl | rfl | rfl | rfl | rfl | rfl | rfl | rfl | rfl | rfl | rfl | rfl | rfl | rfl | rfl | rfl | rfl | rfl | rfl
    · exact atom_reserved_0 w
    · exact atom_reserved_1 w
    · exact atom_reserved_2 w
    · exact atom_reserved_3 w
    · exact atom_reserved_4 w
    · exact atom_reserved_5 w
    · exact atom_reserved_6 w
    · exact atom_reserved_7 w
    · exact atom_reserved_8 w
    · exact atom_reserved_9 w
    · exact atom_reserved_10 w
    · exact atom_reserved_11 w
    · exact atom_reserved_12 w
    · exact atom_reserved_13 w
    · exact atom_reserved_14 w
    · exact atom_reserved_15 w
    · exact atom_reserved_16 w
    · exact atom_reserved_17 w
    · exact atom_reserved_18 w
  | false =>
    have r0 := isRes_no h [97, 102, 116, 101, 114] (by decide)
    have r1 := isRes_no h [97, 110, 100] (by decide)
    have r2 := isRes_no h [97, 110, 100, 97, 108, 115, 111] (by decide)
    have r3 := isRes_no h [98, 101, 103, 105, 110] (by decide)
    have r4 := isRes_no h [99, 97, 115, 101] (by decide)
    have r5 := isRes_no h [99, 97, 116, 99, 104] (by decide)
    have r6 := isRes_no h [100, 105, 118] (by decide)
    have r7 := isRes_no h [101, 110, 100] (by decide)
    have r8 := isRes_no h [102, 117, 110] (by decide)
    have r9 := isRes_no h [105, 102] (by decide)
    have r10 := isRes_no h [110, 111, 116] (by decide)
    have r11 := isRes_no h [111, 102] (by decide)
    have r12 := isRes_no h [111, 114] (by decide)
    have r13 := isRes_no h [111, 114, 101, 108, 115, 101] (by decide)
    have r14 := isRes_no h [114, 101, 99, 101, 105, 118, 101] (by decide)
    have r15 := isRes_no h [114, 101, 109] (by decide)
    have r16 := isRes_no h [116, 114, 121] (by decide)
    have r17 := isRes_no h [119, 104, 101, 110] (by decide)
    have r18 := isRes_no h [120, 111, 114] (by decide)
    clear h
    go_enter Tryz.func169, Tryz.ntmps169
    go_wp2_with fail
    go_ret
    exact ⟨rfl, rfl⟩

theorem leO_up' {α : Type} {f : Nat → Option α} (hm : ∀ k, LeO (f k) (f (k + 1))) {k0 : Nat} {r : α} (h : f k0 = some r) : ∀ k, k0 ≤ k → f k = some r := by
  intro k hk
  obtain ⟨d, rfl⟩ : ∃ d, k = k0 + d := ⟨k - k0, by omega⟩
  clear hk
  induction d with
  | zero => exact h
  | succ d ih => exact hm _ _ ih
/-! ### heddleref01.Reserved, by its printed function -/
theorem res_l0 (s : ByteArray) (l : List ByteArray) (hl : l.length ≤ 100) : ∀ (d i n : Nat), l.length - i = d → i ≤ l.length → d + 1 ≤ n → PWd.heddleref01_Reserved.l0 n s l (i : Int) = some ((l.drop i).any fun r => r.toList == s.toList) := by
  intro d
  induction d with
  | zero =>
    intro i n hd hi hn
    obtain ⟨n, rfl⟩ : ∃ m, n = m + 1 := ⟨n - 1, by omega⟩
    simp only [PWd.heddleref01_Reserved.l0]
    rw [if_neg (by omega), List.drop_eq_nil_of_le (by omega)]
    rfl
  | succ d ih =>
    intro i n hd hi hn
    obtain ⟨n, rfl⟩ : ∃ m, n = m + 1 := ⟨n - 1, by omega⟩
    have hlt : i < l.length := by omega
    simp only [PWd.heddleref01_Reserved.l0]
    rw [if_pos (by omega), if_pos (by omega), List.drop_eq_getElem_cons hlt]
    have hr : rdOf ByteArray.empty l (i : Int) = l[i] := by simp [rdOf, List.getD_eq_getElem?_getD, List.getElem?_eq_getElem hlt]
    rw [hr]
    by_cases h : l[i].toList = s.toList
    · rw [if_pos h, List.any_cons, beq_iff_eq.2 h]
      rfl
    · rw [if_neg h, List.any_cons, beq_eq_false_iff_ne.2 h, Bool.false_or]
      have hw : wrap64 ((i : Int) + 1) = ((i + 1 : Nat) : Int) := by unfold wrap64; omega
      rw [hw, ih (i + 1) n (by omega) (by omega) (by omega)]
theorem res_f (s : ByteArray) : PWd.heddleref01_Reserved.f 25 s = some (isRes s) := by
  unfold PWd.heddleref01_Reserved.f
  rw [show (0 : Int) = ((0 : Nat) : Int) from rfl, res_l0 s _ (by decide) 19 0 25 (by decide) (by decide) (by decide)]
  congr 1
  unfold isRes resList
  rw [List.drop_zero, ← Lib.toList_data, Bool.eq_iff_iff]
  simp only [List.any_cons, List.any_nil, Bool.or_false, Bool.or_eq_true, beq_iff_eq, List.contains_eq_mem, decide_eq_true_eq, List.mem_cons, List.mem_nil_iff, or_false, Lib.toList_data, eq_comm (a := s.data.toList)]
theorem ref01_Reserved (s : ByteArray) (w : World) : Calls Tryz.prog 73 #[.string s] w fun e w' => e = .returned (.bool (isRes s)) ∧ Below w.heap.size w w' :=
  PWd.heddleref01_Reserved.calls 25 s (isRes s) w (res_f s)

/-! ### plain atoms -/
theorem kindOf_in (c : Int) : (kindOf c != 0) = isIn c := by
  unfold kindOf isIn
  cases isSmall c <;> cases isCapital c <;> cases isDigit c <;> simp
  by_cases h1 : c = 95 <;> by_cases h2 : c = 64 <;> simp [h1, h2]
set_option maxRecDepth 100000 in
theorem atom_word (s : ByteArray) (k0 : Nat) (h0 : k0 ≤ s.size) (hm : s.size ≤ 140737488351232) (w : World) :
    Calls Tryz.prog 168 #[.string s, .int .i64 (k0 : Int)] w fun e w' => e = .returned (.int .i64 (runEnd isIn s k0 : Nat)) ∧ w = w' := by
  go_enter Tryz.func168, Tryz.ntmps168
  go_wp2_with fail
  go_loop [1] (fun i => ∃ k : Nat, i = .int .i64 (k : Int) ∧ k ≤ s.size ∧ Hid (runEnd isIn s k = runEnd isIn s k0)) (fun i => s.size - (intOf i).toNat)
  case atStart => exact ⟨k0, rfl, h0, rfl⟩
  case round =>
    obtain ⟨k, rfl, hk, HR⟩ := hrel
    by_cases hlt : k < s.size
    · have hb := btk s k
      have hr := bt_range s (k : Int)
      by_cases hp : isIn (bt s (k : Int)) = true
      · have HN : Hid (runEnd isIn s (k + 1) = runEnd isIn s k0) := Lib.hid ((runEnd_yes hlt hp).trans HR.out)
        have hkd : (kindOf (bt s (k : Int)) != 0) = true := by rw [kindOf_in]; exact hp
        clear hp
        go_wp2_with fail
        refine (atom_kind _ hr.1 hr.2 _).mono ?_
        rintro e w' ⟨rfl, rfl⟩
        go_wp2_with fail
        go_round
        case rel => exact ⟨k + 1, by go_num, by omega, HN.out⟩
        case measure => simp [intOf]; omega
      · have hp' : isIn (bt s (k : Int)) = false := by simpa using hp
        have HN : Hid (runEnd isIn s k0 = k) := Lib.hid (HR.out.symm.trans (runEnd_no hlt hp'))
        have hkd : (kindOf (bt s (k : Int)) != 0) = false := by rw [kindOf_in]; exact hp'
        clear hp hp'
        go_wp2_with fail
        refine (atom_kind _ hr.1 hr.2 _).mono ?_
        rintro e w' ⟨rfl, rfl⟩
        go_wp2_with fail
        go_ret
        exact ⟨by rw [HN.out]; rfl, rfl⟩
    · have HN : Hid (runEnd isIn s k0 = k) := Lib.hid (HR.out.symm.trans (runEnd_out (by omega)))
      go_wp2_with fail
      go_ret
      exact ⟨by rw [HN.out]; rfl, rfl⟩

/-- Does an atom stand without quotes? -/
def isPlain (s : ByteArray) : Bool := decide (0 < s.size) && isSmall (bt s 0) && decide (runEnd isIn s 0 = s.size) && !isRes s
theorem plain_l0 (s : ByteArray) (hm : s.size ≤ 140737488351232) : ∀ (d i n : Nat), s.size - i = d → i ≤ s.size → d + 1 ≤ n → PWd.heddleref01_plain.l0 n s (i : Int) = some (decide (runEnd isIn s i = s.size)) := by
  intro d
  induction d with
  | zero =>
    intro i n hd hi hn
    obtain ⟨n, rfl⟩ : ∃ m, n = m + 1 := ⟨n - 1, by omega⟩
    simp only [PWd.heddleref01_plain.l0]
    rw [if_neg (by omega), runEnd_out (by omega)]
    simp
    omega
  | succ d ih =>
    intro i n hd hi hn
    obtain ⟨n, rfl⟩ : ∃ m, n = m + 1 := ⟨n - 1, by omega⟩
    have hlt : i < s.size := by omega
    have hin : PWd.heddleref01_InWord.f (bt s (i : Int)) = some (isIn (bt s (i : Int))) := by
      generalize bt s (i : Int) = c
      have hs : PWd.heddleref01_Small.f c = some (isSmall c) := by
        unfold PWd.heddleref01_Small.f isSmall
        by_cases h : c ≥ 97
        · rw [if_pos h]; simp; intro h2; omega
        · rw [if_neg h]; simp; intro h2; omega
      unfold PWd.heddleref01_InWord.f isIn isCapital isDigit
      rw [hs]
      cases isSmall c <;> simp
      repeat' split
      all_goals (rw [Option.some.injEq, Bool.eq_iff_iff]; simp; omega)
    simp only [PWd.heddleref01_plain.l0]
    rw [if_pos (by omega), if_pos (by omega), hin]
    simp only [Option.bind_some]
    cases hp : isIn (bt s (i : Int)) with
    | true =>
      have hw : wrap64 ((i : Int) + 1) = ((i + 1 : Nat) : Int) := by unfold wrap64; omega
      rw [if_pos rfl, hw, ih (i + 1) n (by omega) (by omega) (by omega), runEnd_yes hlt hp]
    | false =>
      rw [if_neg (by simp), runEnd_no hlt hp]
      simp
      omega
theorem plain_f (s : ByteArray) (hm : s.size ≤ 140737488351232) : PWd.heddleref01_plain.f (s.size + 30) s = some (isPlain s) := by
  unfold PWd.heddleref01_plain.f isPlain
  by_cases h0 : s.size = 0
  · have hl : s.toList = [] := by rw [Lib.toList_data]; exact List.eq_nil_of_length_eq_zero (by rw [← Lib.size_eq]; exact h0)
    rw [if_pos hl]
    obtain ⟨n, hn⟩ : ∃ n, s.size + 30 = n + 1 := ⟨s.size + 29, rfl⟩
    rw [hn]
    simp only [PWd.heddleref01_plain.j0]
    simp [h0]
  · have hl : s.toList ≠ [] := by rw [Lib.toList_data]; intro h; exact h0 (by rw [Lib.size_eq, h]; rfl)
    rw [if_neg hl, if_pos (by omega)]
    have hs : PWd.heddleref01_Small.f (bt s 0) = some (isSmall (bt s 0)) := by
      generalize bt s 0 = c
      unfold PWd.heddleref01_Small.f isSmall
      by_cases h : c ≥ 97
      · rw [if_pos h]; simp; intro h2; omega
      · rw [if_neg h]; simp; intro h2; omega
    have hR : PWd.heddleref01_Reserved.f (s.size + 30) s = some (isRes s) :=
      leO_up' (f := fun n => PWd.heddleref01_Reserved.f n s) (fun n => PWd.heddleref01_Reserved.mono _ n) (res_f s) _ (by omega)
    rw [hs, hR]
    simp only [Option.bind_some]
    have hd : decide (0 < s.size) = true := decide_eq_true (by omega)
    have hj : ∀ b, PWd.heddleref01_plain.j0 (s.size + 30) s b = some (!b && decide (runEnd isIn s 0 = s.size)) := by
      intro b
      have e : s.size + 30 = (s.size + 29) + 1 := rfl
      rw [e]
      simp only [PWd.heddleref01_plain.j0]
      cases b with
      | true => simp
      | false =>
        have := plain_l0 s hm s.size 0 (s.size + 29) (by omega) (by omega) (by omega)
        rw [if_neg (by simp), show (0 : Int) = ((0 : Nat) : Int) from rfl, this]
        simp
    rw [hj, hj, hd]
    cases isSmall (bt s 0) <;> cases isRes s <;> simp
theorem ref01_plain (s : ByteArray) (hm : s.size ≤ 140737488351232) (w : World) : Calls Tryz.prog 123 #[.string s] w fun e w' => e = .returned (.bool (isPlain s)) ∧ Below w.heap.size w w' :=
  PWd.heddleref01_plain.calls (s.size + 30) s (isPlain s) w (plain_f s hm)
set_option maxRecDepth 100000 in
theorem atom_plain (s : ByteArray) (hm : s.size ≤ 140737488351232) (w : World) :
    Calls Tryz.prog 115 #[.string s] w fun e w' => e = .returned (.bool (isPlain s)) ∧ w = w' := by
  by_cases h0 : s.size = 0
  · have hl : s.toList.isEmpty = true := isEmpty_of h0
    have HE : Hid (isPlain s = false) := Lib.hid (by unfold isPlain; simp [h0])
    clear h0
    go_enter Tryz.func115, Tryz.ntmps115
    go_wp2_with fail
    go_ret
    exact ⟨by rw [HE.out]; rfl, rfl⟩
  · have hpos : 0 < s.size := by omega
    have hl : s.toList.isEmpty = false := isEmpty_not h0
    have hb : ∀ h : 0 < s.size, ((s[0]'h).toNat : Int) = bt s 0 := btk s 0
    have hr := bt_range s 0
    have hk0 : (kindOf (bt s 0) == 1) = isSmall (bt s 0) := by
      unfold kindOf
      cases isSmall (bt s 0) <;> simp
      split
      · simp
      · split
        · simp
        · split <;> simp
    clear h0
    cases h1 : isSmall (bt s 0) with
    | false =>
      have HE : Hid (isPlain s = false) := Lib.hid (by unfold isPlain; simp [h1])
      rw [h1] at hk0
      clear h1
      go_enter Tryz.func115, Tryz.ntmps115
      go_wp2_with fail
      refine (atom_kind _ hr.1 hr.2 _).mono ?_
      rintro e w' ⟨rfl, rfl⟩
      go_wp2_with fail
      go_ret
      exact ⟨by rw [HE.out]; rfl, rfl⟩
    | true =>
      rw [h1] at hk0
      by_cases h2 : runEnd isIn s 0 = s.size
      · have e2 : ((runEnd isIn s 0 : Nat) : Int) = (s.size : Int) := by rw [h2]
        have e3 : (((runEnd isIn s 0 : Nat) : Int) == (s.size : Int)) = true := by simp [h2]
        have HE : Hid (isPlain s = !isRes s) := Lib.hid (by unfold isPlain; simp [h1, h2, hpos])
        clear h1 h2 e2
        go_enter Tryz.func115, Tryz.ntmps115
        go_wp2_with fail
        refine (atom_kind _ hr.1 hr.2 _).mono ?_
        rintro e w' ⟨rfl, rfl⟩
        go_wp2_with fail
        refine (atom_word s 0 (Nat.zero_le _) hm _).mono ?_
        rintro e w' ⟨rfl, rfl⟩
        go_wp2_with fail
        refine (atom_reserved s _).mono ?_
        rintro e w' ⟨rfl, rfl⟩
        go_wp2_with fail
        go_ret
        exact ⟨by rw [HE.out]; rfl, rfl⟩
      · have e3 : (((runEnd isIn s 0 : Nat) : Int) == (s.size : Int)) = false := by simp; omega
        have HE : Hid (isPlain s = false) := Lib.hid (by unfold isPlain; simp [h2])
        clear h1 h2
        go_enter Tryz.func115, Tryz.ntmps115
        go_wp2_with fail
        refine (atom_kind _ hr.1 hr.2 _).mono ?_
        rintro e w' ⟨rfl, rfl⟩
        go_wp2_with fail
        refine (atom_word s 0 (Nat.zero_le _) hm _).mono ?_
        rintro e w' ⟨rfl, rfl⟩
        go_wp2_with fail
        go_ret
        exact ⟨by rw [HE.out]; rfl, rfl⟩

/-! ### lex.isReserved -/
def resText : List UInt8 := [32, 97, 102, 116, 101, 114, 32, 97, 110, 100, 32, 97, 110, 100, 97, 108, 115, 111, 32, 98, 101, 103, 105, 110, 32, 99, 97, 115, 101, 32, 99, 97, 116, 99, 104, 32, 100, 105, 118, 32, 101, 110, 100, 32, 102, 117, 110, 32, 105, 102, 32, 110, 111, 116, 32, 111, 102, 32, 111, 114, 32, 111, 114, 101, 108, 115, 101, 32, 114, 101, 99, 101, 105, 118, 101, 32, 114, 101, 109, 32, 116, 114, 121, 32, 119, 104, 101, 110, 32, 120, 111, 114, 32]
def isResB (s : ByteArray) : Bool := decide (0 < s.size) && Lib.contains resText (32 :: s.data.toList ++ [32])
theorem resCat (s : ByteArray) : ((⟨#[32]⟩ : ByteArray) ++ s ++ ⟨#[32]⟩).data.toList = 32 :: s.data.toList ++ [32] := by
  simp [ByteArray.data_append]
set_option maxRecDepth 100000 in
theorem lex_isReserved (s : ByteArray) (hm : s.size ≤ 140737488351232) (w : World) (hG : Glob w) :
    Calls Tryz.prog 65 #[.string s] w fun e w' => e = .returned (.bool (isResB s)) ∧ w = w' := by
  obtain ⟨m, hmx⟩ := hG.mx
  clear hG
  by_cases h0 : s.size = 0
  · have hl : s.toList.isEmpty = true := isEmpty_of h0
    have HE : Hid (isResB s = false) := Lib.hid (by unfold isResB; simp [h0])
    clear h0
    go_enter Tryz.func65, Tryz.ntmps65
    go_wp2_with fail
    go_ret
    exact ⟨by rw [HE.out]; rfl, rfl⟩
  · have hl : s.toList.isEmpty = false := isEmpty_not h0
    have HE : Hid (isResB s = Lib.contains resText (32 :: s.data.toList ++ [32])) := Lib.hid (by unfold isResB; rw [decide_eq_true (by omega), Bool.true_and])
    clear h0
    go_enter Tryz.func65, Tryz.ntmps65
    go_wp2_with fail
    refine (Tryz.strings_Contains _ _ m _ (by decide) hmx).mono ?_
    rintro e w' ⟨rfl, rfl⟩
    go_wp2_with fail
    go_ret
    exact ⟨by rw [HE.out, ← resCat s]; rfl, rfl⟩

theorem prefix_cut {a b : List UInt8} (ha : ∀ c ∈ a, c ≠ 32) (h : (a ++ [32]).isPrefixOf b = true) : a = b.takeWhile (· != 32) := by
  rw [List.isPrefixOf_iff_prefix] at h
  obtain ⟨t, rfl⟩ := h
  rw [List.append_assoc, List.takeWhile_append_of_pos (fun c hc => by simpa using ha c hc)]
  simp
theorem res_cuts : ∀ i : Fin 93, resText[i.val]? = some 32 → (resText.drop (i.val + 1)).takeWhile (· != 32) ∈ [] :: resList := by decide +kernel
theorem res_in : ∀ r ∈ resList, Lib.contains resText (32 :: r ++ [32]) = true := by decide +kernel
/-- Of a text without blanks isReserved tells whether it is a reserved word. -/
theorem isResB_eq (s : ByteArray) (hs : ∀ c ∈ s.data.toList, c ≠ 32) : isResB s = isRes s := by
  unfold isResB
  by_cases h0 : s.size = 0
  · have hl : s.data.toList = [] := by rw [← Lib.toList_data]; exact toList_nil h0
    simp only [h0, Nat.lt_irrefl, decide_false, Bool.false_and]
    unfold isRes
    rw [hl]
    decide
  · rw [decide_eq_true (by omega), Bool.true_and, Bool.eq_iff_iff]
    constructor
    · intro h
      unfold Lib.contains at h
      rw [decide_eq_true_eq] at h
      rcases Lib.index_spec resText (32 :: s.data.toList ++ [32]) with ⟨h1, _⟩ | ⟨i, h1, h2, h3, _⟩
      · rw [h1] at h; omega
      · unfold Lib.occAt at h3
        have hi : i < 93 ∨ i = 93 := by have : resText.length = 93 := by decide
                                        omega
        rcases hi with hi | rfl
        · rw [List.drop_eq_getElem_cons (by have : resText.length = 93 := by decide
                                            omega)] at h3
          simp only [List.cons_append, List.isPrefixOf, Bool.and_eq_true, beq_iff_eq] at h3
          have hc := prefix_cut hs h3.2
          have hm := res_cuts ⟨i, hi⟩ (by rw [List.getElem?_eq_getElem (by have : resText.length = 93 := by decide
                                                                           omega)]; exact congrArg some h3.1.symm)
          rw [← hc] at hm
          unfold isRes
          rw [List.contains_eq_mem, decide_eq_true_eq]
          rcases List.mem_cons.1 hm with he | he
          · exfalso
            have := Lib.size_eq s
            rw [he] at this
            exact h0 this
          · exact he
        · exfalso
          revert h3
          have : resText.drop 93 = [] := by decide
          rw [this]
          simp
    · intro h
      obtain ⟨r, hr, rfl⟩ := isRes_yes h
      exact res_in r hr
end Go.Proofs.YtgapeacflkfmdaaGreatDoor
