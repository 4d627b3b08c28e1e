/-
  strconv.ParseUint, ParseInt at any base from 2 to 36, at 64 bits (and ParseUint at 8 bits): whether there is a number, and which.
-/
import Derived.Test.YtgapeacflkfmdaaGreatDoorG2
import Derived.Lib.ConvBytes
import Derived.Lib.AtoiAllMem
namespace Go.Proofs.YtgapeacflkfmdaaGreatDoor
open Go.RowKit Go.Proofs.YtgapeacflkfmdaaGreatDoorW.PrintWords

def lowOf (c : Int) : Int := bits .or .u8 c 32
theorem lower_any (c : Int) (w : World) : Calls Tryz.prog 218 #[.int .u8 c] w fun e w' => e = .returned (.int .u8 (lowOf c)) ∧ w = w' :=
  (Tryz.internal_strconv_lower c w).mono fun _ _ h => ⟨h.1, h.2.symm⟩
theorem lowOf_all : ∀ c : Fin 256, 0 ≤ lowOf (c.val : Int) ∧ lowOf (c.val : Int) ≤ 255 ∧ ((97 ≤ lowOf (c.val : Int) ∧ lowOf (c.val : Int) ≤ 122) ↔ (isSmall (c.val : Int) = true ∨ isCapital (c.val : Int) = true)) ∧ ((isSmall (c.val : Int) = true ∨ isCapital (c.val : Int) = true) → lowOf (c.val : Int) - 97 + 10 = valOf (c.val : Int)) := by decide +kernel
theorem lowOf_spec (c : Int) (h0 : 0 ≤ c) (h1 : c ≤ 255) : 0 ≤ lowOf c ∧ lowOf c ≤ 255 ∧ ((97 ≤ lowOf c ∧ lowOf c ≤ 122) ↔ (isSmall c = true ∨ isCapital c = true)) ∧ ((isSmall c = true ∨ isCapital c = true) → lowOf c - 97 + 10 = valOf c) := by
  have := lowOf_all ⟨c.toNat, by omega⟩
  simp only [Int.toNat_of_nonneg h0] at this
  exact this

/-- The number that digits in a base tell, behind n; none: a digit that is not below the base, or beyond mx. -/
def parseN (b mx : Int) : Int → List Int → Option Int
  | n, [] => some n
  | n, c :: r => if b ≤ valOf c then none else if mx < n * b + valOf c then none else parseN b mx (n * b + valOf c) r

/-- What ParseUint tells: the number and no error, or one of two errors. -/
def UintPost (w : World) (mx : Int) (r : Option Int) (e : Ending) (w' : World) : Prop :=
  (∃ n k : Int, (r = some n ∧ e = .returned (.tuple #[.int .u64 n, .nilIface]) ∨ r = none ∧ (k = 1 ∧ n = mx ∨ k = 2 ∧ n = 0) ∧ e = .returned (.tuple #[.int .u64 n, .iface 234 (.int .i64 k)]))) ∧ Below w.heap.size w w'

theorem bytesWorld_below (w : World) (e : TypeId) (s : ByteArray) : Below w.heap.size w (Lib.bytesWorld w e s) := bytes_below (Below.refl _ _) (Nat.le_refl _) e s
set_option maxRecDepth 100000 in
set_option maxHeartbeats 4000000 in
theorem parseUint_gen (s : ByteArray) (b : Int) (hb0 : 2 ≤ b) (hb1 : b ≤ 36) (hb10 : b ≠ 10) (hb16 : b ≠ 16) (hm : s.size ≤ 140737488351232) (hs : s.size ≠ 0) (w : World) :
    Calls Tryz.prog 206 #[.string s, .int .i64 b, .int .i64 64] w (UintPost w 18446744073709551615 (parseN b 18446744073709551615 0 (bs s))) := by
  have hemp := isEmpty_not hs
  have hcv := Lib.run_convert_string_bytes (P := Tryz.prog) w 9 49 5 s (u := .string) Tryz.underlying9 Tryz.underlying49 Tryz.underlying5
  have hB : ∀ j, j < s.size → (Lib.bytesWorld w 5 s).cell? ⟨w.heap.size, j, none⟩ = some (.int .u8 (bt s (j : Int))) := fun j hj => by
    rw [Lib.bytesWorld_cell w 5 s j hj, ← btk s j hj]
    simp [List.getD_eq_getElem?_getD, List.getElem?_eq_getElem (show j < s.data.toList.length by rw [← Lib.size_eq]; exact hj)]
    rfl
  have hb1 : Below w.heap.size w (Lib.bytesWorld w 5 s) := bytesWorld_below w _ s
  obtain ⟨W1, hW1⟩ : ∃ W1, W1 = Lib.bytesWorld w 5 s := ⟨_, rfl⟩
  rw [← hW1] at hcv hB hb1
  have HB := Lib.hid hB
  have HB1 := Lib.hid hb1
  have c10 : (b == 10) = false := beq_eq_false_iff_ne.2 hb10
  have c16 : (b == 16) = false := beq_eq_false_iff_ne.2 hb16
  have c0 : (b == 0) = false := beq_eq_false_iff_ne.2 (by omega)
  clear hb10 hb16
  clear hW1 hB hb1
  obtain ⟨M, hM⟩ : ∃ M : Int, M = 18446744073709551615 := ⟨_, rfl⟩
  rw [← hM]
  obtain ⟨POST, hPOST⟩ : ∃ P, P = UintPost w M (parseN b M 0 (bs s)) := ⟨_, rfl⟩
  rw [← hPOST]
  have HM := Lib.hid hM
  have HPOST := Lib.hid hPOST
  clear hPOST
  have hmv : IntKind.u64.wrap (IntKind.u64.wrap 18446744073709551616 - 1) = M := by
    rw [hM]
    simp only [IntKind.wrap_u64]
    decide
  obtain ⟨C, hC0⟩ : ∃ C, C = IntKind.u64.wrap (18446744073709551615 / b + 1) := ⟨_, rfl⟩
  have HC := Lib.hid hC0
  have hC := hC0.symm
  clear hC0
  clear hM
  go_enter Tryz.func206, Tryz.ntmps206
  go_wp2_with fail
  clear hmv hcv
  go_loop [12, 13, 101] (fun vu vn vi => ∃ (k : Nat) (a : Int), vu = .bool false ∧ vn = .int .u64 a ∧ vi = .int .i64 (k : Int) ∧ k ≤ s.size ∧ 0 ≤ a ∧ Hid (a ≤ M ∧ parseN b M a ((bs s).drop k) = parseN b M 0 (bs s))) (fun _ _ vi => s.size - (intOf vi).toNat)
  case atStart => exact ⟨0, 0, rfl, rfl, rfl, Nat.zero_le _, Int.le_refl _, by rw [HM.out]; decide, rfl⟩
  case round =>
    obtain ⟨k, a, rfl, rfl, rfl, hk, ha0, HR⟩ := hrel
    by_cases hlt : k < s.size
    · have hc := HB.out k hlt
      have hr := bt_range s (k : Int)
      have hq := HR.out.2
      rw [bs_drop s k hlt] at hq
      generalize bt s (k : Int) = c at hc hr hq
      have hl := lowOf_spec c hr.1 hr.2
      simp only [parseN] at hq
      have hk0 : (0 : Int) ≤ (k : Int) := by omega
      have hk1 : (k : Int) < (s.size : Int) := by omega
      by_cases hv : b ≤ valOf c
      · rw [if_pos hv] at hq
        have HF : Hid (POST (.returned (.tuple #[.int .u64 0, .iface 234 (.int .i64 2)])) W1) := Lib.hid (by
          rw [HPOST.out, ← hq]
          exact ⟨⟨0, 2, .inr ⟨rfl, .inr ⟨rfl, rfl⟩, rfl⟩⟩, HB1.out⟩)
        clear hq
        cases hd : isDigit c with
        | true =>
          have hd' : 48 ≤ c ∧ c ≤ 57 := by simpa [isDigit] using hd
          have hvd : b ≤ c - 48 := by simpa [valOf, hd] using hv
          clear hl hv hd
          go_wp2_with fail
          exact HF.out
        | false =>
          have hd' : c < 48 ∨ 57 < c := by simp [isDigit] at hd; omega
          cases hlet : (isSmall c || isCapital c) with
          | true =>
            have h1 := (hl.2.2.1).2 (by simpa using hlet)
            have h2 := hl.2.2.2 (by simpa using hlet)
            have hx0 := h1.1
            have hx1 := h1.2
            have hvd : b ≤ lowOf c - 97 + 10 := by rw [h2]; exact hv
            have h58 : 57 < c := by
              rcases hd' with h | h
              · exfalso
                simp [isSmall, isCapital] at hlet
                omega
              · exact h
            have hb95 : (c == 95) = false := beq_eq_false_iff_ne.2 (fun h => by subst h; simp [isSmall, isCapital] at hlet)
            clear hl h1 h2 hv hd hlet hd'
            go_wp2_with (go_at_call 218; refine (lower_any c _).mono ?_; rintro e w' ⟨rfl, rfl⟩)
            exact HF.out
          | false =>
            have hx : ¬ (97 ≤ lowOf c ∧ lowOf c ≤ 122) := fun h => by
              have := hl.2.2.1.1 h
              rcases this with h | h <;> simp [h] at hlet
            have h95 : (c == 95) = (c == 95) := rfl
            clear hl hv hd hlet h95
            rcases hd' with h48 | h57
            · by_cases hx0 : 97 ≤ lowOf c
              · have hx1 : ¬ lowOf c ≤ 122 := fun h => hx ⟨hx0, h⟩
                clear hx
                go_wp2_with (go_at_call 218; refine (lower_any c _).mono ?_; rintro e w' ⟨rfl, rfl⟩)
                exact HF.out
              · clear hx
                go_wp2_with (go_at_call 218; refine (lower_any c _).mono ?_; rintro e w' ⟨rfl, rfl⟩)
                exact HF.out
            · by_cases hx0 : 97 ≤ lowOf c
              · have hx1 : ¬ lowOf c ≤ 122 := fun h => hx ⟨hx0, h⟩
                clear hx
                by_cases h95 : c = 95
                · subst h95
                  go_wp2_with (go_at_call 218; refine (lower_any 95 _).mono ?_; rintro e w' ⟨rfl, rfl⟩)
                  exact HF.out
                · have hb95 : (c == 95) = false := beq_eq_false_iff_ne.2 h95
                  clear h95
                  go_wp2_with (go_at_call 218; refine (lower_any c _).mono ?_; rintro e w' ⟨rfl, rfl⟩)
                  exact HF.out
              · clear hx
                by_cases h95 : c = 95
                · exfalso
                  subst h95
                  exact hx0 (by decide)
                · have hb95 : (c == 95) = false := beq_eq_false_iff_ne.2 h95
                  clear h95
                  go_wp2_with (go_at_call 218; refine (lower_any c _).mono ?_; rintro e w' ⟨rfl, rfl⟩)
                  exact HF.out
      · rw [if_neg hv] at hq
        have hab0 : 0 ≤ a * b := Int.mul_nonneg ha0 (by omega)
        have HC2 : Hid ((a < C ∧ a * b ≤ 18446744073709551615) ∨ (C ≤ a ∧ M < a * b)) := Lib.hid (by
          have hCv : C = 18446744073709551615 / b + 1 := by
            rw [HC.out, IntKind.wrap_u64]
            have h1 : (18446744073709551615 : Int) / b ≤ 18446744073709551615 / 2 := by
              refine Int.le_ediv_of_mul_le (by omega) ?_
              have := Int.ediv_mul_le (18446744073709551615 : Int) (b := b) (by omega)
              have h2 : 0 ≤ (18446744073709551615 : Int) / b := Int.ediv_nonneg (by omega) (by omega)
              have h3 : (18446744073709551615 : Int) / b * 2 ≤ (18446744073709551615 : Int) / b * b := Int.mul_le_mul_of_nonneg_left hb0 h2
              omega
            have h2 : 0 ≤ (18446744073709551615 : Int) / b := Int.ediv_nonneg (by omega) (by omega)
            exact Int.emod_eq_of_lt (by omega) (by omega)
          have hiff := Int.le_ediv_iff_mul_le (a := a) (b := 18446744073709551615) (c := b) (by omega)
          by_cases h : a < C
          · exact .inl ⟨h, hiff.1 (by omega)⟩
          · refine .inr ⟨by omega, ?_⟩
            have h1 : ¬ a * b ≤ 18446744073709551615 := fun h2 => by have := hiff.2 h2; omega
            have := HM.out
            omega)
        cases hd : isDigit c with
        | true =>
          have hd' : 48 ≤ c ∧ c ≤ 57 := by simpa [isDigit] using hd
          have hDV : c - 48 = valOf c := by simp [valOf, hd]
          have hd0 := hd'.1
          have hd1 := hd'.2
          clear hl hd hd'
          have hdv : c - 48 < b := by rw [hDV]; omega
          have hdv0 : 0 ≤ c - 48 := by omega
          rcases HC2.out with ⟨hlc, hab⟩ | ⟨hlc, hab⟩
          · have hw1 : IntKind.u64.wrap (a * b) = a * b := by
              rw [IntKind.wrap_u64]
              exact Int.emod_eq_of_lt hab0 (by omega)
            by_cases hov : 18446744073709551615 < a * b + (c - 48)
            · rw [if_pos (by rw [← hDV]; have := HM.out; omega)] at hq
              obtain ⟨N, hN⟩ : ∃ N, N = IntKind.u64.wrap (a * b + (c - 48)) := ⟨_, rfl⟩
              have hNv : N = a * b + (c - 48) - 18446744073709551616 := by
                rw [hN, IntKind.wrap_u64]
                omega
              have t1 : decide (N < a * b) = true := decide_eq_true (by omega)
              have hw2 := hN.symm
              have HF : Hid (POST (.returned (.tuple #[.int .u64 M, .iface 234 (.int .i64 1)])) W1) := Lib.hid (by
                rw [HPOST.out, ← hq]
                exact ⟨⟨M, 1, .inr ⟨rfl, .inl ⟨rfl, rfl⟩, rfl⟩⟩, HB1.out⟩)
              have HAB := Lib.hid hab
              have HAB0 := Lib.hid hab0
              clear hq hN hNv hov hab hab0 hv hDV
              go_wp2_with fail
              exact HF.out
            · have hw2 : IntKind.u64.wrap (a * b + (c - 48)) = a * b + (c - 48) := by
                rw [IntKind.wrap_u64]
                exact Int.emod_eq_of_lt (by omega) (by omega)
              have t1 : decide (a * b + (c - 48) < a * b) = false := decide_eq_false (by omega)
              by_cases hbig : M < a * b + (c - 48)
              · rw [if_pos (by rw [← hDV]; exact hbig)] at hq
                have t2 : decide (a * b + (c - 48) > M) = true := decide_eq_true hbig
                have HF : Hid (POST (.returned (.tuple #[.int .u64 M, .iface 234 (.int .i64 1)])) W1) := Lib.hid (by
                  rw [HPOST.out, ← hq]
                  exact ⟨⟨M, 1, .inr ⟨rfl, .inl ⟨rfl, rfl⟩, rfl⟩⟩, HB1.out⟩)
                clear hq hov hab hab0 hv hbig hDV
                go_wp2_with fail
                exact HF.out
              · rw [if_neg (by rw [← hDV]; exact hbig)] at hq
                have t2 : decide (a * b + (c - 48) > M) = false := decide_eq_false hbig
                obtain ⟨N, hN⟩ : ∃ N, N = a * b + (c - 48) := ⟨_, rfl⟩
                have HR2 : Hid (0 ≤ N ∧ N ≤ M ∧ parseN b M N ((bs s).drop (k + 1)) = parseN b M 0 (bs s)) := Lib.hid ⟨by omega, by omega, by rw [hN, hDV]; exact hq⟩
                have HN := Lib.hid hN
                clear hq hov hab hab0 hv hbig hN hDV
                go_wp2_with fail
                refine ⟨⟨k + 1, N, rfl, by rw [HN.out], (by first | rfl | (congr 1; omega)), by omega, HR2.out.1, HR2.out.2⟩, by simp [intOf]; omega⟩
          · rw [if_pos (by rw [← hDV]; omega)] at hq
            have HF : Hid (POST (.returned (.tuple #[.int .u64 M, .iface 234 (.int .i64 1)])) W1) := Lib.hid (by
              rw [HPOST.out, ← hq]
              exact ⟨⟨M, 1, .inr ⟨rfl, .inl ⟨rfl, rfl⟩, rfl⟩⟩, HB1.out⟩)
            clear hq hab hab0 hv hDV
            go_wp2_with fail
            exact HF.out
        | false =>
          have hd' : c < 48 ∨ 57 < c := by simp [isDigit] at hd; omega
          cases hlet : (isSmall c || isCapital c) with
          | true =>
            have h1 := (hl.2.2.1).2 (by simpa using hlet)
            have hDV := hl.2.2.2 (by simpa using hlet)
            have hx0 := h1.1
            have hx1 := h1.2
            have h58 : 57 < c := by
              rcases hd' with h | h
              · exfalso
                simp [isSmall, isCapital] at hlet
                omega
              · exact h
            have hb95 : (c == 95) = false := beq_eq_false_iff_ne.2 (fun h => by subst h; simp [isSmall, isCapital] at hlet)
            clear hl h1 hd hlet hd'
            have hdv : lowOf c - 97 + 10 < b := by rw [hDV]; omega
            have hdv0 : 0 ≤ lowOf c - 97 + 10 := by omega
            rcases HC2.out with ⟨hlc, hab⟩ | ⟨hlc, hab⟩
            · have hw1 : IntKind.u64.wrap (a * b) = a * b := by
                rw [IntKind.wrap_u64]
                exact Int.emod_eq_of_lt hab0 (by omega)
              by_cases hov : 18446744073709551615 < a * b + (lowOf c - 97 + 10)
              · rw [if_pos (by rw [← hDV]; have := HM.out; omega)] at hq
                obtain ⟨N, hN⟩ : ∃ N, N = IntKind.u64.wrap (a * b + (lowOf c - 97 + 10)) := ⟨_, rfl⟩
                have hNv : N = a * b + (lowOf c - 97 + 10) - 18446744073709551616 := by
                  rw [hN, IntKind.wrap_u64]
                  omega
                have t1 : decide (N < a * b) = true := decide_eq_true (by omega)
                have hw2 := hN.symm
                have HF : Hid (POST (.returned (.tuple #[.int .u64 M, .iface 234 (.int .i64 1)])) W1) := Lib.hid (by
                  rw [HPOST.out, ← hq]
                  exact ⟨⟨M, 1, .inr ⟨rfl, .inl ⟨rfl, rfl⟩, rfl⟩⟩, HB1.out⟩)
                have HAB := Lib.hid hab
                have HAB0 := Lib.hid hab0
                clear hq hN hNv hov hab hab0 hv hDV
                go_wp2_with (go_at_call 218; refine (lower_any c _).mono ?_; rintro e w' ⟨rfl, rfl⟩)
                exact HF.out
              · have hw2 : IntKind.u64.wrap (a * b + (lowOf c - 97 + 10)) = a * b + (lowOf c - 97 + 10) := by
                  rw [IntKind.wrap_u64]
                  exact Int.emod_eq_of_lt (by omega) (by omega)
                have t1 : decide (a * b + (lowOf c - 97 + 10) < a * b) = false := decide_eq_false (by omega)
                by_cases hbig : M < a * b + (lowOf c - 97 + 10)
                · rw [if_pos (by rw [← hDV]; exact hbig)] at hq
                  have t2 : decide (a * b + (lowOf c - 97 + 10) > M) = true := decide_eq_true hbig
                  have HF : Hid (POST (.returned (.tuple #[.int .u64 M, .iface 234 (.int .i64 1)])) W1) := Lib.hid (by
                    rw [HPOST.out, ← hq]
                    exact ⟨⟨M, 1, .inr ⟨rfl, .inl ⟨rfl, rfl⟩, rfl⟩⟩, HB1.out⟩)
                  clear hq hov hab hab0 hv hbig hDV
                  go_wp2_with (go_at_call 218; refine (lower_any c _).mono ?_; rintro e w' ⟨rfl, rfl⟩)
                  exact HF.out
                · rw [if_neg (by rw [← hDV]; exact hbig)] at hq
                  have t2 : decide (a * b + (lowOf c - 97 + 10) > M) = false := decide_eq_false hbig
                  obtain ⟨N, hN⟩ : ∃ N, N = a * b + (lowOf c - 97 + 10) := ⟨_, rfl⟩
                  have HR2 : Hid (0 ≤ N ∧ N ≤ M ∧ parseN b M N ((bs s).drop (k + 1)) = parseN b M 0 (bs s)) := Lib.hid ⟨by omega, by omega, by rw [hN, hDV]; exact hq⟩
                  have HN := Lib.hid hN
                  clear hq hov hab hab0 hv hbig hN hDV
                  go_wp2_with (go_at_call 218; refine (lower_any c _).mono ?_; rintro e w' ⟨rfl, rfl⟩)
                  refine ⟨⟨k + 1, N, rfl, by rw [HN.out], (by first | rfl | (congr 1; omega)), by omega, HR2.out.1, HR2.out.2⟩, by simp [intOf]; omega⟩
            · rw [if_pos (by rw [← hDV]; omega)] at hq
              have HF : Hid (POST (.returned (.tuple #[.int .u64 M, .iface 234 (.int .i64 1)])) W1) := Lib.hid (by
                rw [HPOST.out, ← hq]
                exact ⟨⟨M, 1, .inr ⟨rfl, .inl ⟨rfl, rfl⟩, rfl⟩⟩, HB1.out⟩)
              clear hq hab hab0 hv hDV
              go_wp2_with (go_at_call 218; refine (lower_any c _).mono ?_; rintro e w' ⟨rfl, rfl⟩)
              exact HF.out
          | false =>
            exfalso
            have : valOf c = 99 := by
              unfold valOf
              rw [hd]
              rw [Bool.or_eq_false_iff] at hlet
              rw [hlet.1, hlet.2]
              rfl
            omega
    · have hq := HR.out.2
      rw [bs_end s k (by omega)] at hq
      have HF : Hid (POST (.returned (.tuple #[.int .u64 a, .nilIface])) W1) := Lib.hid (by
        rw [HPOST.out, ← hq]
        exact ⟨⟨a, 0, .inl ⟨rfl, rfl⟩⟩, HB1.out⟩)
      clear hq
      go_wp2_with fail
      exact HF.out
set_option maxRecDepth 100000 in
set_option maxHeartbeats 4000000 in
theorem parseUint_10 (s : ByteArray) (hm : s.size ≤ 140737488351232) (hs : s.size ≠ 0) (w : World) :
    Calls Tryz.prog 206 #[.string s, .int .i64 10, .int .i64 64] w (UintPost w 18446744073709551615 (parseN 10 18446744073709551615 0 (bs s))) := by
  have hemp := isEmpty_not hs
  have hcv := Lib.run_convert_string_bytes (P := Tryz.prog) w 9 49 5 s (u := .string) Tryz.underlying9 Tryz.underlying49 Tryz.underlying5
  have hB : ∀ j, j < s.size → (Lib.bytesWorld w 5 s).cell? ⟨w.heap.size, j, none⟩ = some (.int .u8 (bt s (j : Int))) := fun j hj => by
    rw [Lib.bytesWorld_cell w 5 s j hj, ← btk s j hj]
    simp [List.getD_eq_getElem?_getD, List.getElem?_eq_getElem (show j < s.data.toList.length by rw [← Lib.size_eq]; exact hj)]
    rfl
  have hb1 : Below w.heap.size w (Lib.bytesWorld w 5 s) := bytesWorld_below w _ s
  obtain ⟨W1, hW1⟩ : ∃ W1, W1 = Lib.bytesWorld w 5 s := ⟨_, rfl⟩
  rw [← hW1] at hcv hB hb1
  have HB := Lib.hid hB
  have HB1 := Lib.hid hb1
  clear hW1 hB hb1
  obtain ⟨M, hM⟩ : ∃ M : Int, M = 18446744073709551615 := ⟨_, rfl⟩
  rw [← hM]
  obtain ⟨POST, hPOST⟩ : ∃ P, P = UintPost w M (parseN 10 M 0 (bs s)) := ⟨_, rfl⟩
  rw [← hPOST]
  have HM := Lib.hid hM
  have HPOST := Lib.hid hPOST
  clear hPOST
  have hmv : IntKind.u64.wrap (IntKind.u64.wrap 18446744073709551616 - 1) = M := by
    rw [hM]
    simp only [IntKind.wrap_u64]
    decide
  clear hM
  go_enter Tryz.func206, Tryz.ntmps206
  go_wp2_with fail
  clear hmv hcv
  go_loop [12, 13, 101] (fun vu vn vi => ∃ (k : Nat) (a : Int), vu = .bool false ∧ vn = .int .u64 a ∧ vi = .int .i64 (k : Int) ∧ k ≤ s.size ∧ 0 ≤ a ∧ Hid (a ≤ M ∧ parseN 10 M a ((bs s).drop k) = parseN 10 M 0 (bs s))) (fun _ _ vi => s.size - (intOf vi).toNat)
  case atStart => exact ⟨0, 0, rfl, rfl, rfl, Nat.zero_le _, Int.le_refl _, by rw [HM.out]; decide, rfl⟩
  case round =>
    obtain ⟨k, a, rfl, rfl, rfl, hk, ha0, HR⟩ := hrel
    by_cases hlt : k < s.size
    · have hc := HB.out k hlt
      have hr := bt_range s (k : Int)
      have hq := HR.out.2
      rw [bs_drop s k hlt] at hq
      generalize bt s (k : Int) = c at hc hr hq
      have hl := lowOf_spec c hr.1 hr.2
      simp only [parseN] at hq
      have hk0 : (0 : Int) ≤ (k : Int) := by omega
      have hk1 : (k : Int) < (s.size : Int) := by omega
      by_cases hv : 10 ≤ valOf c
      · rw [if_pos hv] at hq
        have HF : Hid (POST (.returned (.tuple #[.int .u64 0, .iface 234 (.int .i64 2)])) W1) := Lib.hid (by
          rw [HPOST.out, ← hq]
          exact ⟨⟨0, 2, .inr ⟨rfl, .inr ⟨rfl, rfl⟩, rfl⟩⟩, HB1.out⟩)
        clear hq
        cases hd : isDigit c with
        | true =>
          have hd' : 48 ≤ c ∧ c ≤ 57 := by simpa [isDigit] using hd
          have hvd : 10 ≤ c - 48 := by simpa [valOf, hd] using hv
          clear hl hv hd
          go_wp2_with fail
          all_goals exact HF.out
        | false =>
          have hd' : c < 48 ∨ 57 < c := by simp [isDigit] at hd; omega
          cases hlet : (isSmall c || isCapital c) with
          | true =>
            have h1 := (hl.2.2.1).2 (by simpa using hlet)
            have h2 := hl.2.2.2 (by simpa using hlet)
            have hx0 := h1.1
            have hx1 := h1.2
            have hvd : 10 ≤ lowOf c - 97 + 10 := by rw [h2]; exact hv
            have h58 : 57 < c := by
              rcases hd' with h | h
              · exfalso
                simp [isSmall, isCapital] at hlet
                omega
              · exact h
            have hb95 : (c == 95) = false := beq_eq_false_iff_ne.2 (fun h => by subst h; simp [isSmall, isCapital] at hlet)
            clear hl h1 h2 hv hd hlet hd'
            go_wp2_with (go_at_call 218; refine (lower_any c _).mono ?_; rintro e w' ⟨rfl, rfl⟩)
            all_goals exact HF.out
          | false =>
            have hx : ¬ (97 ≤ lowOf c ∧ lowOf c ≤ 122) := fun h => by
              have := hl.2.2.1.1 h
              rcases this with h | h <;> simp [h] at hlet
            have h95 : (c == 95) = (c == 95) := rfl
            clear hl hv hd hlet h95
            rcases hd' with h48 | h57
            · by_cases hx0 : 97 ≤ lowOf c
              · have hx1 : ¬ lowOf c ≤ 122 := fun h => hx ⟨hx0, h⟩
                clear hx
                go_wp2_with (go_at_call 218; refine (lower_any c _).mono ?_; rintro e w' ⟨rfl, rfl⟩)
                all_goals exact HF.out
              · clear hx
                go_wp2_with (go_at_call 218; refine (lower_any c _).mono ?_; rintro e w' ⟨rfl, rfl⟩)
                all_goals exact HF.out
            · by_cases hx0 : 97 ≤ lowOf c
              · have hx1 : ¬ lowOf c ≤ 122 := fun h => hx ⟨hx0, h⟩
                clear hx
                by_cases h95 : c = 95
                · subst h95
                  go_wp2_with (go_at_call 218; refine (lower_any 95 _).mono ?_; rintro e w' ⟨rfl, rfl⟩)
                  all_goals exact HF.out
                · have hb95 : (c == 95) = false := beq_eq_false_iff_ne.2 h95
                  clear h95
                  go_wp2_with (go_at_call 218; refine (lower_any c _).mono ?_; rintro e w' ⟨rfl, rfl⟩)
                  all_goals exact HF.out
              · clear hx
                by_cases h95 : c = 95
                · exfalso
                  subst h95
                  exact hx0 (by decide)
                · have hb95 : (c == 95) = false := beq_eq_false_iff_ne.2 h95
                  clear h95
                  go_wp2_with (go_at_call 218; refine (lower_any c _).mono ?_; rintro e w' ⟨rfl, rfl⟩)
                  all_goals exact HF.out
      · rw [if_neg hv] at hq
        have hab0 : 0 ≤ a * 10 := Int.mul_nonneg ha0 (by omega)
        have HC2 : Hid ((a < 1844674407370955162 ∧ a * 10 ≤ 18446744073709551615) ∨ (1844674407370955162 ≤ a ∧ M < a * 10)) := Lib.hid (by
          have := HM.out
          have := HR.out.1
          omega)
        cases hd : isDigit c with
        | true =>
          have hd' : 48 ≤ c ∧ c ≤ 57 := by simpa [isDigit] using hd
          have hDV : c - 48 = valOf c := by simp [valOf, hd]
          have hd0 := hd'.1
          have hd1 := hd'.2
          clear hl hd hd'
          have hdv : c - 48 < 10 := by rw [hDV]; omega
          have hdv0 : 0 ≤ c - 48 := by omega
          rcases HC2.out with ⟨hlc, hab⟩ | ⟨hlc, hab⟩
          · have hw1 : IntKind.u64.wrap (a * 10) = a * 10 := by
              rw [IntKind.wrap_u64]
              exact Int.emod_eq_of_lt hab0 (by omega)
            by_cases hov : 18446744073709551615 < a * 10 + (c - 48)
            · rw [if_pos (by rw [← hDV]; have := HM.out; omega)] at hq
              obtain ⟨N, hN⟩ : ∃ N, N = IntKind.u64.wrap (a * 10 + (c - 48)) := ⟨_, rfl⟩
              have hNv : N = a * 10 + (c - 48) - 18446744073709551616 := by
                rw [hN, IntKind.wrap_u64]
                omega
              have t1 : decide (N < a * 10) = true := decide_eq_true (by omega)
              have hw2 := hN.symm
              have HF : Hid (POST (.returned (.tuple #[.int .u64 M, .iface 234 (.int .i64 1)])) W1) := Lib.hid (by
                rw [HPOST.out, ← hq]
                exact ⟨⟨M, 1, .inr ⟨rfl, .inl ⟨rfl, rfl⟩, rfl⟩⟩, HB1.out⟩)
              have HAB := Lib.hid hab
              have HAB0 := Lib.hid hab0
              clear hq hN hNv hov hab hab0 hv hDV
              go_wp2_with fail
              all_goals exact HF.out
            · have hw2 : IntKind.u64.wrap (a * 10 + (c - 48)) = a * 10 + (c - 48) := by
                rw [IntKind.wrap_u64]
                exact Int.emod_eq_of_lt (by omega) (by omega)
              have t1 : decide (a * 10 + (c - 48) < a * 10) = false := decide_eq_false (by omega)
              by_cases hbig : M < a * 10 + (c - 48)
              · rw [if_pos (by rw [← hDV]; exact hbig)] at hq
                have t2 : decide (a * 10 + (c - 48) > M) = true := decide_eq_true hbig
                have HF : Hid (POST (.returned (.tuple #[.int .u64 M, .iface 234 (.int .i64 1)])) W1) := Lib.hid (by
                  rw [HPOST.out, ← hq]
                  exact ⟨⟨M, 1, .inr ⟨rfl, .inl ⟨rfl, rfl⟩, rfl⟩⟩, HB1.out⟩)
                clear hq hov hab hab0 hv hbig hDV
                go_wp2_with fail
                all_goals exact HF.out
              · rw [if_neg (by rw [← hDV]; exact hbig)] at hq
                have t2 : decide (a * 10 + (c - 48) > M) = false := decide_eq_false hbig
                obtain ⟨N, hN⟩ : ∃ N, N = a * 10 + (c - 48) := ⟨_, rfl⟩
                have HR2 : Hid (0 ≤ N ∧ N ≤ M ∧ parseN 10 M N ((bs s).drop (k + 1)) = parseN 10 M 0 (bs s)) := Lib.hid ⟨by omega, by omega, by rw [hN, hDV]; exact hq⟩
                have HN := Lib.hid hN
                clear hq hov hab hab0 hv hbig hN hDV
                go_wp2_with fail
                all_goals refine ⟨⟨k + 1, N, rfl, by rw [HN.out], (by first | rfl | (congr 1; omega)), by omega, HR2.out.1, HR2.out.2⟩, by simp [intOf]; omega⟩
          · rw [if_pos (by rw [← hDV]; omega)] at hq
            have HF : Hid (POST (.returned (.tuple #[.int .u64 M, .iface 234 (.int .i64 1)])) W1) := Lib.hid (by
              rw [HPOST.out, ← hq]
              exact ⟨⟨M, 1, .inr ⟨rfl, .inl ⟨rfl, rfl⟩, rfl⟩⟩, HB1.out⟩)
            clear hq hab hab0 hv hDV
            go_wp2_with fail
            all_goals exact HF.out
        | false =>
          have hd' : c < 48 ∨ 57 < c := by simp [isDigit] at hd; omega
          cases hlet : (isSmall c || isCapital c) with
          | true =>
            have h1 := (hl.2.2.1).2 (by simpa using hlet)
            have hDV := hl.2.2.2 (by simpa using hlet)
            have hx0 := h1.1
            have hx1 := h1.2
            have h58 : 57 < c := by
              rcases hd' with h | h
              · exfalso
                simp [isSmall, isCapital] at hlet
                omega
              · exact h
            have hb95 : (c == 95) = false := beq_eq_false_iff_ne.2 (fun h => by subst h; simp [isSmall, isCapital] at hlet)
            clear hl h1 hd hlet hd'
            have hdv : lowOf c - 97 + 10 < 10 := by rw [hDV]; omega
            have hdv0 : 0 ≤ lowOf c - 97 + 10 := by omega
            rcases HC2.out with ⟨hlc, hab⟩ | ⟨hlc, hab⟩
            · have hw1 : IntKind.u64.wrap (a * 10) = a * 10 := by
                rw [IntKind.wrap_u64]
                exact Int.emod_eq_of_lt hab0 (by omega)
              by_cases hov : 18446744073709551615 < a * 10 + (lowOf c - 97 + 10)
              · rw [if_pos (by rw [← hDV]; have := HM.out; omega)] at hq
                obtain ⟨N, hN⟩ : ∃ N, N = IntKind.u64.wrap (a * 10 + (lowOf c - 97 + 10)) := ⟨_, rfl⟩
                have hNv : N = a * 10 + (lowOf c - 97 + 10) - 18446744073709551616 := by
                  rw [hN, IntKind.wrap_u64]
                  omega
                have t1 : decide (N < a * 10) = true := decide_eq_true (by omega)
                have hw2 := hN.symm
                have HF : Hid (POST (.returned (.tuple #[.int .u64 M, .iface 234 (.int .i64 1)])) W1) := Lib.hid (by
                  rw [HPOST.out, ← hq]
                  exact ⟨⟨M, 1, .inr ⟨rfl, .inl ⟨rfl, rfl⟩, rfl⟩⟩, HB1.out⟩)
                have HAB := Lib.hid hab
                have HAB0 := Lib.hid hab0
                clear hq hN hNv hov hab hab0 hv hDV
                go_wp2_with (go_at_call 218; refine (lower_any c _).mono ?_; rintro e w' ⟨rfl, rfl⟩)
                all_goals exact HF.out
              · have hw2 : IntKind.u64.wrap (a * 10 + (lowOf c - 97 + 10)) = a * 10 + (lowOf c - 97 + 10) := by
                  rw [IntKind.wrap_u64]
                  exact Int.emod_eq_of_lt (by omega) (by omega)
                have t1 : decide (a * 10 + (lowOf c - 97 + 10) < a * 10) = false := decide_eq_false (by omega)
                by_cases hbig : M < a * 10 + (lowOf c - 97 + 10)
                · rw [if_pos (by rw [← hDV]; exact hbig)] at hq
                  have t2 : decide (a * 10 + (lowOf c - 97 + 10) > M) = true := decide_eq_true hbig
                  have HF : Hid (POST (.returned (.tuple #[.int .u64 M, .iface 234 (.int .i64 1)])) W1) := Lib.hid (by
                    rw [HPOST.out, ← hq]
                    exact ⟨⟨M, 1, .inr ⟨rfl, .inl ⟨rfl, rfl⟩, rfl⟩⟩, HB1.out⟩)
                  clear hq hov hab hab0 hv hbig hDV
                  go_wp2_with (go_at_call 218; refine (lower_any c _).mono ?_; rintro e w' ⟨rfl, rfl⟩)
                  all_goals exact HF.out
                · rw [if_neg (by rw [← hDV]; exact hbig)] at hq
                  have t2 : decide (a * 10 + (lowOf c - 97 + 10) > M) = false := decide_eq_false hbig
                  obtain ⟨N, hN⟩ : ∃ N, N = a * 10 + (lowOf c - 97 + 10) := ⟨_, rfl⟩
                  have HR2 : Hid (0 ≤ N ∧ N ≤ M ∧ parseN 10 M N ((bs s).drop (k + 1)) = parseN 10 M 0 (bs s)) := Lib.hid ⟨by omega, by omega, by rw [hN, hDV]; exact hq⟩
                  have HN := Lib.hid hN
                  clear hq hov hab hab0 hv hbig hN hDV
                  go_wp2_with (go_at_call 218; refine (lower_any c _).mono ?_; rintro e w' ⟨rfl, rfl⟩)
                  all_goals refine ⟨⟨k + 1, N, rfl, by rw [HN.out], (by first | rfl | (congr 1; omega)), by omega, HR2.out.1, HR2.out.2⟩, by simp [intOf]; omega⟩
            · rw [if_pos (by rw [← hDV]; omega)] at hq
              have HF : Hid (POST (.returned (.tuple #[.int .u64 M, .iface 234 (.int .i64 1)])) W1) := Lib.hid (by
                rw [HPOST.out, ← hq]
                exact ⟨⟨M, 1, .inr ⟨rfl, .inl ⟨rfl, rfl⟩, rfl⟩⟩, HB1.out⟩)
              clear hq hab hab0 hv hDV
              go_wp2_with (go_at_call 218; refine (lower_any c _).mono ?_; rintro e w' ⟨rfl, rfl⟩)
              all_goals exact HF.out
          | false =>
            exfalso
            have : valOf c = 99 := by
              unfold valOf
              rw [hd]
              rw [Bool.or_eq_false_iff] at hlet
              rw [hlet.1, hlet.2]
              rfl
            omega
    · have hq := HR.out.2
      rw [bs_end s k (by omega)] at hq
      have HF : Hid (POST (.returned (.tuple #[.int .u64 a, .nilIface])) W1) := Lib.hid (by
        rw [HPOST.out, ← hq]
        exact ⟨⟨a, 0, .inl ⟨rfl, rfl⟩⟩, HB1.out⟩)
      clear hq
      go_wp2_with fail
      all_goals exact HF.out
set_option maxRecDepth 100000 in
set_option maxHeartbeats 4000000 in
theorem parseUint_16 (s : ByteArray) (hm : s.size ≤ 140737488351232) (hs : s.size ≠ 0) (w : World) :
    Calls Tryz.prog 206 #[.string s, .int .i64 16, .int .i64 64] w (UintPost w 18446744073709551615 (parseN 16 18446744073709551615 0 (bs s))) := by
  have hemp := isEmpty_not hs
  have hcv := Lib.run_convert_string_bytes (P := Tryz.prog) w 9 49 5 s (u := .string) Tryz.underlying9 Tryz.underlying49 Tryz.underlying5
  have hB : ∀ j, j < s.size → (Lib.bytesWorld w 5 s).cell? ⟨w.heap.size, j, none⟩ = some (.int .u8 (bt s (j : Int))) := fun j hj => by
    rw [Lib.bytesWorld_cell w 5 s j hj, ← btk s j hj]
    simp [List.getD_eq_getElem?_getD, List.getElem?_eq_getElem (show j < s.data.toList.length by rw [← Lib.size_eq]; exact hj)]
    rfl
  have hb1 : Below w.heap.size w (Lib.bytesWorld w 5 s) := bytesWorld_below w _ s
  obtain ⟨W1, hW1⟩ : ∃ W1, W1 = Lib.bytesWorld w 5 s := ⟨_, rfl⟩
  rw [← hW1] at hcv hB hb1
  have HB := Lib.hid hB
  have HB1 := Lib.hid hb1
  clear hW1 hB hb1
  obtain ⟨M, hM⟩ : ∃ M : Int, M = 18446744073709551615 := ⟨_, rfl⟩
  rw [← hM]
  obtain ⟨POST, hPOST⟩ : ∃ P, P = UintPost w M (parseN 16 M 0 (bs s)) := ⟨_, rfl⟩
  rw [← hPOST]
  have HM := Lib.hid hM
  have HPOST := Lib.hid hPOST
  clear hPOST
  have hmv : IntKind.u64.wrap (IntKind.u64.wrap 18446744073709551616 - 1) = M := by
    rw [hM]
    simp only [IntKind.wrap_u64]
    decide
  clear hM
  go_enter Tryz.func206, Tryz.ntmps206
  go_wp2_with fail
  clear hmv hcv
  go_loop [12, 13, 101] (fun vu vn vi => ∃ (k : Nat) (a : Int), vu = .bool false ∧ vn = .int .u64 a ∧ vi = .int .i64 (k : Int) ∧ k ≤ s.size ∧ 0 ≤ a ∧ Hid (a ≤ M ∧ parseN 16 M a ((bs s).drop k) = parseN 16 M 0 (bs s))) (fun _ _ vi => s.size - (intOf vi).toNat)
  case atStart => exact ⟨0, 0, rfl, rfl, rfl, Nat.zero_le _, Int.le_refl _, by rw [HM.out]; decide, rfl⟩
  case round =>
    obtain ⟨k, a, rfl, rfl, rfl, hk, ha0, HR⟩ := hrel
    by_cases hlt : k < s.size
    · have hc := HB.out k hlt
      have hr := bt_range s (k : Int)
      have hq := HR.out.2
      rw [bs_drop s k hlt] at hq
      generalize bt s (k : Int) = c at hc hr hq
      have hl := lowOf_spec c hr.1 hr.2
      simp only [parseN] at hq
      have hk0 : (0 : Int) ≤ (k : Int) := by omega
      have hk1 : (k : Int) < (s.size : Int) := by omega
      by_cases hv : 16 ≤ valOf c
      · rw [if_pos hv] at hq
        have HF : Hid (POST (.returned (.tuple #[.int .u64 0, .iface 234 (.int .i64 2)])) W1) := Lib.hid (by
          rw [HPOST.out, ← hq]
          exact ⟨⟨0, 2, .inr ⟨rfl, .inr ⟨rfl, rfl⟩, rfl⟩⟩, HB1.out⟩)
        clear hq
        cases hd : isDigit c with
        | true =>
          have hd' : 48 ≤ c ∧ c ≤ 57 := by simpa [isDigit] using hd
          have hvd : 16 ≤ c - 48 := by simpa [valOf, hd] using hv
          clear hl hv hd
          go_wp2_with fail
          all_goals exact HF.out
        | false =>
          have hd' : c < 48 ∨ 57 < c := by simp [isDigit] at hd; omega
          cases hlet : (isSmall c || isCapital c) with
          | true =>
            have h1 := (hl.2.2.1).2 (by simpa using hlet)
            have h2 := hl.2.2.2 (by simpa using hlet)
            have hx0 := h1.1
            have hx1 := h1.2
            have hvd : 16 ≤ lowOf c - 97 + 10 := by rw [h2]; exact hv
            have h58 : 57 < c := by
              rcases hd' with h | h
              · exfalso
                simp [isSmall, isCapital] at hlet
                omega
              · exact h
            have hb95 : (c == 95) = false := beq_eq_false_iff_ne.2 (fun h => by subst h; simp [isSmall, isCapital] at hlet)
            clear hl h1 h2 hv hd hlet hd'
            go_wp2_with (go_at_call 218; refine (lower_any c _).mono ?_; rintro e w' ⟨rfl, rfl⟩)
            all_goals exact HF.out
          | false =>
            have hx : ¬ (97 ≤ lowOf c ∧ lowOf c ≤ 122) := fun h => by
              have := hl.2.2.1.1 h
              rcases this with h | h <;> simp [h] at hlet
            have h95 : (c == 95) = (c == 95) := rfl
            clear hl hv hd hlet h95
            rcases hd' with h48 | h57
            · by_cases hx0 : 97 ≤ lowOf c
              · have hx1 : ¬ lowOf c ≤ 122 := fun h => hx ⟨hx0, h⟩
                clear hx
                go_wp2_with (go_at_call 218; refine (lower_any c _).mono ?_; rintro e w' ⟨rfl, rfl⟩)
                all_goals exact HF.out
              · clear hx
                go_wp2_with (go_at_call 218; refine (lower_any c _).mono ?_; rintro e w' ⟨rfl, rfl⟩)
                all_goals exact HF.out
            · by_cases hx0 : 97 ≤ lowOf c
              · have hx1 : ¬ lowOf c ≤ 122 := fun h => hx ⟨hx0, h⟩
                clear hx
                by_cases h95 : c = 95
                · subst h95
                  go_wp2_with (go_at_call 218; refine (lower_any 95 _).mono ?_; rintro e w' ⟨rfl, rfl⟩)
                  all_goals exact HF.out
                · have hb95 : (c == 95) = false := beq_eq_false_iff_ne.2 h95
                  clear h95
                  go_wp2_with (go_at_call 218; refine (lower_any c _).mono ?_; rintro e w' ⟨rfl, rfl⟩)
                  all_goals exact HF.out
              · clear hx
                by_cases h95 : c = 95
                · exfalso
                  subst h95
                  exact hx0 (by decide)
                · have hb95 : (c == 95) = false := beq_eq_false_iff_ne.2 h95
                  clear h95
                  go_wp2_with (go_at_call 218; refine (lower_any c _).mono ?_; rintro e w' ⟨rfl, rfl⟩)
                  all_goals exact HF.out
      · rw [if_neg hv] at hq
        have hab0 : 0 ≤ a * 16 := Int.mul_nonneg ha0 (by omega)
        have HC2 : Hid ((a < 1152921504606846976 ∧ a * 16 ≤ 18446744073709551615) ∨ (1152921504606846976 ≤ a ∧ M < a * 16)) := Lib.hid (by
          have := HM.out
          have := HR.out.1
          omega)
        cases hd : isDigit c with
        | true =>
          have hd' : 48 ≤ c ∧ c ≤ 57 := by simpa [isDigit] using hd
          have hDV : c - 48 = valOf c := by simp [valOf, hd]
          have hd0 := hd'.1
          have hd1 := hd'.2
          clear hl hd hd'
          have hdv : c - 48 < 16 := by rw [hDV]; omega
          have hdv0 : 0 ≤ c - 48 := by omega
          rcases HC2.out with ⟨hlc, hab⟩ | ⟨hlc, hab⟩
          · have hw1 : IntKind.u64.wrap (a * 16) = a * 16 := by
              rw [IntKind.wrap_u64]
              exact Int.emod_eq_of_lt hab0 (by omega)
            by_cases hov : 18446744073709551615 < a * 16 + (c - 48)
            · rw [if_pos (by rw [← hDV]; have := HM.out; omega)] at hq
              obtain ⟨N, hN⟩ : ∃ N, N = IntKind.u64.wrap (a * 16 + (c - 48)) := ⟨_, rfl⟩
              have hNv : N = a * 16 + (c - 48) - 18446744073709551616 := by
                rw [hN, IntKind.wrap_u64]
                omega
              have t1 : decide (N < a * 16) = true := decide_eq_true (by omega)
              have hw2 := hN.symm
              have HF : Hid (POST (.returned (.tuple #[.int .u64 M, .iface 234 (.int .i64 1)])) W1) := Lib.hid (by
                rw [HPOST.out, ← hq]
                exact ⟨⟨M, 1, .inr ⟨rfl, .inl ⟨rfl, rfl⟩, rfl⟩⟩, HB1.out⟩)
              have HAB := Lib.hid hab
              have HAB0 := Lib.hid hab0
              clear hq hN hNv hov hab hab0 hv hDV
              go_wp2_with fail
              all_goals exact HF.out
            · have hw2 : IntKind.u64.wrap (a * 16 + (c - 48)) = a * 16 + (c - 48) := by
                rw [IntKind.wrap_u64]
                exact Int.emod_eq_of_lt (by omega) (by omega)
              have t1 : decide (a * 16 + (c - 48) < a * 16) = false := decide_eq_false (by omega)
              by_cases hbig : M < a * 16 + (c - 48)
              · rw [if_pos (by rw [← hDV]; exact hbig)] at hq
                have t2 : decide (a * 16 + (c - 48) > M) = true := decide_eq_true hbig
                have HF : Hid (POST (.returned (.tuple #[.int .u64 M, .iface 234 (.int .i64 1)])) W1) := Lib.hid (by
                  rw [HPOST.out, ← hq]
                  exact ⟨⟨M, 1, .inr ⟨rfl, .inl ⟨rfl, rfl⟩, rfl⟩⟩, HB1.out⟩)
                clear hq hov hab hab0 hv hbig hDV
                go_wp2_with fail
                all_goals exact HF.out
              · rw [if_neg (by rw [← hDV]; exact hbig)] at hq
                have t2 : decide (a * 16 + (c - 48) > M) = false := decide_eq_false hbig
                obtain ⟨N, hN⟩ : ∃ N, N = a * 16 + (c - 48) := ⟨_, rfl⟩
                have HR2 : Hid (0 ≤ N ∧ N ≤ M ∧ parseN 16 M N ((bs s).drop (k + 1)) = parseN 16 M 0 (bs s)) := Lib.hid ⟨by omega, by omega, by rw [hN, hDV]; exact hq⟩
                have HN := Lib.hid hN
                clear hq hov hab hab0 hv hbig hN hDV
                go_wp2_with fail
                all_goals refine ⟨⟨k + 1, N, rfl, by rw [HN.out], (by first | rfl | (congr 1; omega)), by omega, HR2.out.1, HR2.out.2⟩, by simp [intOf]; omega⟩
          · rw [if_pos (by rw [← hDV]; omega)] at hq
            have HF : Hid (POST (.returned (.tuple #[.int .u64 M, .iface 234 (.int .i64 1)])) W1) := Lib.hid (by
              rw [HPOST.out, ← hq]
              exact ⟨⟨M, 1, .inr ⟨rfl, .inl ⟨rfl, rfl⟩, rfl⟩⟩, HB1.out⟩)
            clear hq hab hab0 hv hDV
            go_wp2_with fail
            all_goals exact HF.out
        | false =>
          have hd' : c < 48 ∨ 57 < c := by simp [isDigit] at hd; omega
          cases hlet : (isSmall c || isCapital c) with
          | true =>
            have h1 := (hl.2.2.1).2 (by simpa using hlet)
            have hDV := hl.2.2.2 (by simpa using hlet)
            have hx0 := h1.1
            have hx1 := h1.2
            have h58 : 57 < c := by
              rcases hd' with h | h
              · exfalso
                simp [isSmall, isCapital] at hlet
                omega
              · exact h
            have hb95 : (c == 95) = false := beq_eq_false_iff_ne.2 (fun h => by subst h; simp [isSmall, isCapital] at hlet)
            clear hl h1 hd hlet hd'
            have hdv : lowOf c - 97 + 10 < 16 := by rw [hDV]; omega
            have hdv0 : 0 ≤ lowOf c - 97 + 10 := by omega
            rcases HC2.out with ⟨hlc, hab⟩ | ⟨hlc, hab⟩
            · have hw1 : IntKind.u64.wrap (a * 16) = a * 16 := by
                rw [IntKind.wrap_u64]
                exact Int.emod_eq_of_lt hab0 (by omega)
              by_cases hov : 18446744073709551615 < a * 16 + (lowOf c - 97 + 10)
              · rw [if_pos (by rw [← hDV]; have := HM.out; omega)] at hq
                obtain ⟨N, hN⟩ : ∃ N, N = IntKind.u64.wrap (a * 16 + (lowOf c - 97 + 10)) := ⟨_, rfl⟩
                have hNv : N = a * 16 + (lowOf c - 97 + 10) - 18446744073709551616 := by
                  rw [hN, IntKind.wrap_u64]
                  omega
                have t1 : decide (N < a * 16) = true := decide_eq_true (by omega)
                have hw2 := hN.symm
                have HF : Hid (POST (.returned (.tuple #[.int .u64 M, .iface 234 (.int .i64 1)])) W1) := Lib.hid (by
                  rw [HPOST.out, ← hq]
                  exact ⟨⟨M, 1, .inr ⟨rfl, .inl ⟨rfl, rfl⟩, rfl⟩⟩, HB1.out⟩)
                have HAB := Lib.hid hab
                have HAB0 := Lib.hid hab0
                clear hq hN hNv hov hab hab0 hv hDV
                go_wp2_with (go_at_call 218; refine (lower_any c _).mono ?_; rintro e w' ⟨rfl, rfl⟩)
                all_goals exact HF.out
              · have hw2 : IntKind.u64.wrap (a * 16 + (lowOf c - 97 + 10)) = a * 16 + (lowOf c - 97 + 10) := by
                  rw [IntKind.wrap_u64]
                  exact Int.emod_eq_of_lt (by omega) (by omega)
                have t1 : decide (a * 16 + (lowOf c - 97 + 10) < a * 16) = false := decide_eq_false (by omega)
                by_cases hbig : M < a * 16 + (lowOf c - 97 + 10)
                · rw [if_pos (by rw [← hDV]; exact hbig)] at hq
                  have t2 : decide (a * 16 + (lowOf c - 97 + 10) > M) = true := decide_eq_true hbig
                  have HF : Hid (POST (.returned (.tuple #[.int .u64 M, .iface 234 (.int .i64 1)])) W1) := Lib.hid (by
                    rw [HPOST.out, ← hq]
                    exact ⟨⟨M, 1, .inr ⟨rfl, .inl ⟨rfl, rfl⟩, rfl⟩⟩, HB1.out⟩)
                  clear hq hov hab hab0 hv hbig hDV
                  go_wp2_with (go_at_call 218; refine (lower_any c _).mono ?_; rintro e w' ⟨rfl, rfl⟩)
                  all_goals exact HF.out
                · rw [if_neg (by rw [← hDV]; exact hbig)] at hq
                  have t2 : decide (a * 16 + (lowOf c - 97 + 10) > M) = false := decide_eq_false hbig
                  obtain ⟨N, hN⟩ : ∃ N, N = a * 16 + (lowOf c - 97 + 10) := ⟨_, rfl⟩
                  have HR2 : Hid (0 ≤ N ∧ N ≤ M ∧ parseN 16 M N ((bs s).drop (k + 1)) = parseN 16 M 0 (bs s)) := Lib.hid ⟨by omega, by omega, by rw [hN, hDV]; exact hq⟩
                  have HN := Lib.hid hN
                  clear hq hov hab hab0 hv hbig hN hDV
                  go_wp2_with (go_at_call 218; refine (lower_any c _).mono ?_; rintro e w' ⟨rfl, rfl⟩)
                  all_goals refine ⟨⟨k + 1, N, rfl, by rw [HN.out], (by first | rfl | (congr 1; omega)), by omega, HR2.out.1, HR2.out.2⟩, by simp [intOf]; omega⟩
            · rw [if_pos (by rw [← hDV]; omega)] at hq
              have HF : Hid (POST (.returned (.tuple #[.int .u64 M, .iface 234 (.int .i64 1)])) W1) := Lib.hid (by
                rw [HPOST.out, ← hq]
                exact ⟨⟨M, 1, .inr ⟨rfl, .inl ⟨rfl, rfl⟩, rfl⟩⟩, HB1.out⟩)
              clear hq hab hab0 hv hDV
              go_wp2_with (go_at_call 218; refine (lower_any c _).mono ?_; rintro e w' ⟨rfl, rfl⟩)
              all_goals exact HF.out
          | false =>
            exfalso
            have : valOf c = 99 := by
              unfold valOf
              rw [hd]
              rw [Bool.or_eq_false_iff] at hlet
              rw [hlet.1, hlet.2]
              rfl
            omega
    · have hq := HR.out.2
      rw [bs_end s k (by omega)] at hq
      have HF : Hid (POST (.returned (.tuple #[.int .u64 a, .nilIface])) W1) := Lib.hid (by
        rw [HPOST.out, ← hq]
        exact ⟨⟨a, 0, .inl ⟨rfl, rfl⟩⟩, HB1.out⟩)
      clear hq
      go_wp2_with fail
      all_goals exact HF.out
set_option maxRecDepth 100000 in
set_option maxHeartbeats 4000000 in
theorem parseUint_16_8 (s : ByteArray) (hm : s.size ≤ 140737488351232) (hs : s.size ≠ 0) (w : World) :
    Calls Tryz.prog 206 #[.string s, .int .i64 16, .int .i64 8] w (UintPost w 255 (parseN 16 255 0 (bs s))) := by
  have hemp := isEmpty_not hs
  have hcv := Lib.run_convert_string_bytes (P := Tryz.prog) w 9 49 5 s (u := .string) Tryz.underlying9 Tryz.underlying49 Tryz.underlying5
  have hB : ∀ j, j < s.size → (Lib.bytesWorld w 5 s).cell? ⟨w.heap.size, j, none⟩ = some (.int .u8 (bt s (j : Int))) := fun j hj => by
    rw [Lib.bytesWorld_cell w 5 s j hj, ← btk s j hj]
    simp [List.getD_eq_getElem?_getD, List.getElem?_eq_getElem (show j < s.data.toList.length by rw [← Lib.size_eq]; exact hj)]
    rfl
  have hb1 : Below w.heap.size w (Lib.bytesWorld w 5 s) := bytesWorld_below w _ s
  obtain ⟨W1, hW1⟩ : ∃ W1, W1 = Lib.bytesWorld w 5 s := ⟨_, rfl⟩
  rw [← hW1] at hcv hB hb1
  have HB := Lib.hid hB
  have HB1 := Lib.hid hb1
  clear hW1 hB hb1
  obtain ⟨POST, hPOST⟩ : ∃ P, P = UintPost w 255 (parseN 16 255 0 (bs s)) := ⟨_, rfl⟩
  rw [← hPOST]
  have HPOST := Lib.hid hPOST
  clear hPOST
  go_enter Tryz.func206, Tryz.ntmps206
  go_wp2_with fail
  clear hcv
  go_loop [12, 13, 101] (fun vu vn vi => ∃ (k : Nat) (a : Int), vu = .bool false ∧ vn = .int .u64 a ∧ vi = .int .i64 (k : Int) ∧ k ≤ s.size ∧ 0 ≤ a ∧ Hid (a ≤ 255 ∧ parseN 16 255 a ((bs s).drop k) = parseN 16 255 0 (bs s))) (fun _ _ vi => s.size - (intOf vi).toNat)
  case atStart => exact ⟨0, 0, rfl, rfl, rfl, Nat.zero_le _, Int.le_refl _, by decide, rfl⟩
  case round =>
    obtain ⟨k, a, rfl, rfl, rfl, hk, ha0, HR⟩ := hrel
    by_cases hlt : k < s.size
    · have hc := HB.out k hlt
      have hr := bt_range s (k : Int)
      have hq := HR.out.2
      rw [bs_drop s k hlt] at hq
      generalize bt s (k : Int) = c at hc hr hq
      have hl := lowOf_spec c hr.1 hr.2
      simp only [parseN] at hq
      have hk0 : (0 : Int) ≤ (k : Int) := by omega
      have hk1 : (k : Int) < (s.size : Int) := by omega
      by_cases hv : 16 ≤ valOf c
      · rw [if_pos hv] at hq
        have HF : Hid (POST (.returned (.tuple #[.int .u64 0, .iface 234 (.int .i64 2)])) W1) := Lib.hid (by
          rw [HPOST.out, ← hq]
          exact ⟨⟨0, 2, .inr ⟨rfl, .inr ⟨rfl, rfl⟩, rfl⟩⟩, HB1.out⟩)
        clear hq
        cases hd : isDigit c with
        | true =>
          have hd' : 48 ≤ c ∧ c ≤ 57 := by simpa [isDigit] using hd
          have hvd : 16 ≤ c - 48 := by simpa [valOf, hd] using hv
          clear hl hv hd
          go_wp2_with fail
          all_goals exact HF.out
        | false =>
          have hd' : c < 48 ∨ 57 < c := by simp [isDigit] at hd; omega
          cases hlet : (isSmall c || isCapital c) with
          | true =>
            have h1 := (hl.2.2.1).2 (by simpa using hlet)
            have h2 := hl.2.2.2 (by simpa using hlet)
            have hx0 := h1.1
            have hx1 := h1.2
            have hvd : 16 ≤ lowOf c - 97 + 10 := by rw [h2]; exact hv
            have h58 : 57 < c := by
              rcases hd' with h | h
              · exfalso
                simp [isSmall, isCapital] at hlet
                omega
              · exact h
            have hb95 : (c == 95) = false := beq_eq_false_iff_ne.2 (fun h => by subst h; simp [isSmall, isCapital] at hlet)
            clear hl h1 h2 hv hd hlet hd'
            go_wp2_with (go_at_call 218; refine (lower_any c _).mono ?_; rintro e w' ⟨rfl, rfl⟩)
            all_goals exact HF.out
          | false =>
            have hx : ¬ (97 ≤ lowOf c ∧ lowOf c ≤ 122) := fun h => by
              have := hl.2.2.1.1 h
              rcases this with h | h <;> simp [h] at hlet
            have h95 : (c == 95) = (c == 95) := rfl
            clear hl hv hd hlet h95
            rcases hd' with h48 | h57
            · by_cases hx0 : 97 ≤ lowOf c
              · have hx1 : ¬ lowOf c ≤ 122 := fun h => hx ⟨hx0, h⟩
                clear hx
                go_wp2_with (go_at_call 218; refine (lower_any c _).mono ?_; rintro e w' ⟨rfl, rfl⟩)
                all_goals exact HF.out
              · clear hx
                go_wp2_with (go_at_call 218; refine (lower_any c _).mono ?_; rintro e w' ⟨rfl, rfl⟩)
                all_goals exact HF.out
            · by_cases hx0 : 97 ≤ lowOf c
              · have hx1 : ¬ lowOf c ≤ 122 := fun h => hx ⟨hx0, h⟩
                clear hx
                by_cases h95 : c = 95
                · subst h95
                  go_wp2_with (go_at_call 218; refine (lower_any 95 _).mono ?_; rintro e w' ⟨rfl, rfl⟩)
                  all_goals exact HF.out
                · have hb95 : (c == 95) = false := beq_eq_false_iff_ne.2 h95
                  clear h95
                  go_wp2_with (go_at_call 218; refine (lower_any c _).mono ?_; rintro e w' ⟨rfl, rfl⟩)
                  all_goals exact HF.out
              · clear hx
                by_cases h95 : c = 95
                · exfalso
                  subst h95
                  exact hx0 (by decide)
                · have hb95 : (c == 95) = false := beq_eq_false_iff_ne.2 h95
                  clear h95
                  go_wp2_with (go_at_call 218; refine (lower_any c _).mono ?_; rintro e w' ⟨rfl, rfl⟩)
                  all_goals exact HF.out
      · rw [if_neg hv] at hq
        have hab0 : 0 ≤ a * 16 := Int.mul_nonneg ha0 (by omega)
        have HC2 : Hid ((a < 1152921504606846976 ∧ a * 16 ≤ 18446744073709551615) ∨ (1152921504606846976 ≤ a ∧ 255 < a * 16)) := Lib.hid (by
          have := HR.out.1
          omega)
        cases hd : isDigit c with
        | true =>
          have hd' : 48 ≤ c ∧ c ≤ 57 := by simpa [isDigit] using hd
          have hDV : c - 48 = valOf c := by simp [valOf, hd]
          have hd0 := hd'.1
          have hd1 := hd'.2
          clear hl hd hd'
          have hdv : c - 48 < 16 := by rw [hDV]; omega
          have hdv0 : 0 ≤ c - 48 := by omega
          rcases HC2.out with ⟨hlc, hab⟩ | ⟨hlc, hab⟩
          · have hw1 : IntKind.u64.wrap (a * 16) = a * 16 := by
              rw [IntKind.wrap_u64]
              exact Int.emod_eq_of_lt hab0 (by omega)
            by_cases hov : 18446744073709551615 < a * 16 + (c - 48)
            · rw [if_pos (by rw [← hDV]; omega)] at hq
              obtain ⟨N, hN⟩ : ∃ N, N = IntKind.u64.wrap (a * 16 + (c - 48)) := ⟨_, rfl⟩
              have hNv : N = a * 16 + (c - 48) - 18446744073709551616 := by
                rw [hN, IntKind.wrap_u64]
                omega
              have t1 : decide (N < a * 16) = true := decide_eq_true (by omega)
              have hw2 := hN.symm
              have HF : Hid (POST (.returned (.tuple #[.int .u64 255, .iface 234 (.int .i64 1)])) W1) := Lib.hid (by
                rw [HPOST.out, ← hq]
                exact ⟨⟨255, 1, .inr ⟨rfl, .inl ⟨rfl, rfl⟩, rfl⟩⟩, HB1.out⟩)
              have HAB := Lib.hid hab
              have HAB0 := Lib.hid hab0
              clear hq hN hNv hov hab hab0 hv hDV
              go_wp2_with fail
              all_goals exact HF.out
            · have hw2 : IntKind.u64.wrap (a * 16 + (c - 48)) = a * 16 + (c - 48) := by
                rw [IntKind.wrap_u64]
                exact Int.emod_eq_of_lt (by omega) (by omega)
              have t1 : decide (a * 16 + (c - 48) < a * 16) = false := decide_eq_false (by omega)
              by_cases hbig : 255 < a * 16 + (c - 48)
              · rw [if_pos (by rw [← hDV]; exact hbig)] at hq
                have t2 : decide (a * 16 + (c - 48) > 255) = true := decide_eq_true hbig
                have HF : Hid (POST (.returned (.tuple #[.int .u64 255, .iface 234 (.int .i64 1)])) W1) := Lib.hid (by
                  rw [HPOST.out, ← hq]
                  exact ⟨⟨255, 1, .inr ⟨rfl, .inl ⟨rfl, rfl⟩, rfl⟩⟩, HB1.out⟩)
                clear hq hov hab hab0 hv hbig hDV
                go_wp2_with fail
                all_goals exact HF.out
              · rw [if_neg (by rw [← hDV]; exact hbig)] at hq
                have t2 : decide (a * 16 + (c - 48) > 255) = false := decide_eq_false hbig
                obtain ⟨N, hN⟩ : ∃ N, N = a * 16 + (c - 48) := ⟨_, rfl⟩
                have HR2 : Hid (0 ≤ N ∧ N ≤ 255 ∧ parseN 16 255 N ((bs s).drop (k + 1)) = parseN 16 255 0 (bs s)) := Lib.hid ⟨by omega, by omega, by rw [hN, hDV]; exact hq⟩
                have HN := Lib.hid hN
                clear hq hov hab hab0 hv hbig hN hDV
                go_wp2_with fail
                all_goals refine ⟨⟨k + 1, N, rfl, by rw [HN.out], (by first | rfl | (congr 1; omega)), by omega, HR2.out.1, HR2.out.2⟩, by simp [intOf]; omega⟩
          · rw [if_pos (by rw [← hDV]; omega)] at hq
            have HF : Hid (POST (.returned (.tuple #[.int .u64 255, .iface 234 (.int .i64 1)])) W1) := Lib.hid (by
              rw [HPOST.out, ← hq]
              exact ⟨⟨255, 1, .inr ⟨rfl, .inl ⟨rfl, rfl⟩, rfl⟩⟩, HB1.out⟩)
            clear hq hab hab0 hv hDV
            go_wp2_with fail
            all_goals exact HF.out
        | false =>
          have hd' : c < 48 ∨ 57 < c := by simp [isDigit] at hd; omega
          cases hlet : (isSmall c || isCapital c) with
          | true =>
            have h1 := (hl.2.2.1).2 (by simpa using hlet)
            have hDV := hl.2.2.2 (by simpa using hlet)
            have hx0 := h1.1
            have hx1 := h1.2
            have h58 : 57 < c := by
              rcases hd' with h | h
              · exfalso
                simp [isSmall, isCapital] at hlet
                omega
              · exact h
            have hb95 : (c == 95) = false := beq_eq_false_iff_ne.2 (fun h => by subst h; simp [isSmall, isCapital] at hlet)
            clear hl h1 hd hlet hd'
            have hdv : lowOf c - 97 + 10 < 16 := by rw [hDV]; omega
            have hdv0 : 0 ≤ lowOf c - 97 + 10 := by omega
            rcases HC2.out with ⟨hlc, hab⟩ | ⟨hlc, hab⟩
            · have hw1 : IntKind.u64.wrap (a * 16) = a * 16 := by
                rw [IntKind.wrap_u64]
                exact Int.emod_eq_of_lt hab0 (by omega)
              by_cases hov : 18446744073709551615 < a * 16 + (lowOf c - 97 + 10)
              · rw [if_pos (by rw [← hDV]; omega)] at hq
                obtain ⟨N, hN⟩ : ∃ N, N = IntKind.u64.wrap (a * 16 + (lowOf c - 97 + 10)) := ⟨_, rfl⟩
                have hNv : N = a * 16 + (lowOf c - 97 + 10) - 18446744073709551616 := by
                  rw [hN, IntKind.wrap_u64]
                  omega
                have t1 : decide (N < a * 16) = true := decide_eq_true (by omega)
                have hw2 := hN.symm
                have HF : Hid (POST (.returned (.tuple #[.int .u64 255, .iface 234 (.int .i64 1)])) W1) := Lib.hid (by
                  rw [HPOST.out, ← hq]
                  exact ⟨⟨255, 1, .inr ⟨rfl, .inl ⟨rfl, rfl⟩, rfl⟩⟩, HB1.out⟩)
                have HAB := Lib.hid hab
                have HAB0 := Lib.hid hab0
                clear hq hN hNv hov hab hab0 hv hDV
                go_wp2_with (go_at_call 218; refine (lower_any c _).mono ?_; rintro e w' ⟨rfl, rfl⟩)
                all_goals exact HF.out
              · have hw2 : IntKind.u64.wrap (a * 16 + (lowOf c - 97 + 10)) = a * 16 + (lowOf c - 97 + 10) := by
                  rw [IntKind.wrap_u64]
                  exact Int.emod_eq_of_lt (by omega) (by omega)
                have t1 : decide (a * 16 + (lowOf c - 97 + 10) < a * 16) = false := decide_eq_false (by omega)
                by_cases hbig : 255 < a * 16 + (lowOf c - 97 + 10)
                · rw [if_pos (by rw [← hDV]; exact hbig)] at hq
                  have t2 : decide (a * 16 + (lowOf c - 97 + 10) > 255) = true := decide_eq_true hbig
                  have HF : Hid (POST (.returned (.tuple #[.int .u64 255, .iface 234 (.int .i64 1)])) W1) := Lib.hid (by
                    rw [HPOST.out, ← hq]
                    exact ⟨⟨255, 1, .inr ⟨rfl, .inl ⟨rfl, rfl⟩, rfl⟩⟩, HB1.out⟩)
                  clear hq hov hab hab0 hv hbig hDV
                  go_wp2_with (go_at_call 218; refine (lower_any c _).mono ?_; rintro e w' ⟨rfl, rfl⟩)
                  all_goals exact HF.out
                · rw [if_neg (by rw [← hDV]; exact hbig)] at hq
                  have t2 : decide (a * 16 + (lowOf c - 97 + 10) > 255) = false := decide_eq_false hbig
                  obtain ⟨N, hN⟩ : ∃ N, N = a * 16 + (lowOf c - 97 + 10) := ⟨_, rfl⟩
                  have HR2 : Hid (0 ≤ N ∧ N ≤ 255 ∧ parseN 16 255 N ((bs s).drop (k + 1)) = parseN 16 255 0 (bs s)) := Lib.hid ⟨by omega, by omega, by rw [hN, hDV]; exact hq⟩
                  have HN := Lib.hid hN
                  clear hq hov hab hab0 hv hbig hN hDV
                  go_wp2_with (go_at_call 218; refine (lower_any c _).mono ?_; rintro e w' ⟨rfl, rfl⟩)
                  all_goals refine ⟨⟨k + 1, N, rfl, by rw [HN.out], (by first | rfl | (congr 1; omega)), by omega, HR2.out.1, HR2.out.2⟩, by simp [intOf]; omega⟩
            · rw [if_pos (by rw [← hDV]; omega)] at hq
              have HF : Hid (POST (.returned (.tuple #[.int .u64 255, .iface 234 (.int .i64 1)])) W1) := Lib.hid (by
                rw [HPOST.out, ← hq]
                exact ⟨⟨255, 1, .inr ⟨rfl, .inl ⟨rfl, rfl⟩, rfl⟩⟩, HB1.out⟩)
              clear hq hab hab0 hv hDV
              go_wp2_with (go_at_call 218; refine (lower_any c _).mono ?_; rintro e w' ⟨rfl, rfl⟩)
              all_goals exact HF.out
          | false =>
            exfalso
            have : valOf c = 99 := by
              unfold valOf
              rw [hd]
              rw [Bool.or_eq_false_iff] at hlet
              rw [hlet.1, hlet.2]
              rfl
            omega
    · have hq := HR.out.2
      rw [bs_end s k (by omega)] at hq
      have HF : Hid (POST (.returned (.tuple #[.int .u64 a, .nilIface])) W1) := Lib.hid (by
        rw [HPOST.out, ← hq]
        exact ⟨⟨a, 0, .inl ⟨rfl, rfl⟩⟩, HB1.out⟩)
      clear hq
      go_wp2_with fail
      all_goals exact HF.out
end Go.Proofs.YtgapeacflkfmdaaGreatDoor
