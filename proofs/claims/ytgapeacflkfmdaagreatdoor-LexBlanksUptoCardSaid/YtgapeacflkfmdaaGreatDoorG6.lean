/-
  strconv.ParseInt at a base from 2 to 36, strconv.ParseUint at base 16 and 8 bits, strconv.Atoi, of texts that do not begin with a sign. lex: the tokens that are words, quoted atoms and numbers. lex: words. lex: numbers.
-/
import Derived.Test.YtgapeacflkfmdaaGreatDoorG5
import Derived.Test.YtgapeacflkfmdaaGreatDoorKShelf
import Derived.Test.YtgapeacflkfmdaaGreatDoorG4
import Derived.Test.YtgapeacflkfmdaaGreatDoorG1
import Derived.Deep.RegionHeld3
import Derived.Deep.DrawnRows
import Derived.Test.YtgapeacflkfmdaaGreatDoorG3
namespace Go.Proofs.YtgapeacflkfmdaaGreatDoor
open Go.RowKit Go.Proofs.YtgapeacflkfmdaaGreatDoorW.PrintWords

theorem parseUint_any (s : ByteArray) (b : Int) (hb0 : 2 ≤ b) (hb1 : b ≤ 36) (hm : s.size ≤ 140737488351232) (hs : s.size ≠ 0) (w : World) :
    Calls Tryz.prog 206 #[.string s, .int .i64 b, .int .i64 64] w (UintPost w 18446744073709551615 (parseN b 18446744073709551615 0 (bs s))) := by
  by_cases h10 : b = 10
  · subst h10
    exact parseUint_10 s hm hs w
  · by_cases h16 : b = 16
    · subst h16
      exact parseUint_16 s hm hs w
    · exact parseUint_gen s b hb0 hb1 h10 h16 hm hs w

theorem valOf_nonneg (c : Int) : 0 ≤ valOf c := by
  unfold valOf isDigit isSmall isCapital
  simp only [Bool.and_eq_true, decide_eq_true_eq]
  repeat' split
  all_goals omega
theorem parseN_ge {b mx : Int} (hb : 1 ≤ b) : ∀ (l : List Int) (n v : Int), 0 ≤ n → parseN b mx n l = some v → n ≤ v := by
  intro l
  induction l with
  | nil => intro n v _ h; simp [parseN] at h; omega
  | cons c r ih =>
    intro n v hn h
    rw [parseN] at h
    have hv := valOf_nonneg c
    have hm : n * 1 ≤ n * b := Int.mul_le_mul_of_nonneg_left hb hn
    split at h
    · simp at h
    · split at h
      · simp at h
      · have := ih _ _ (by omega) h
        omega
theorem parseN_le {b mx : Int} : ∀ (l : List Int) (n v : Int), n ≤ mx → parseN b mx n l = some v → v ≤ mx := by
  intro l
  induction l with
  | nil => intro n v hn h; simp [parseN] at h; omega
  | cons c r ih =>
    intro n v hn h
    rw [parseN] at h
    split at h
    · simp at h
    · split at h
      · simp at h
      · exact ih _ _ (by omega) h
/-- A lower bound lets the same numbers through, up to it. -/
theorem parseN_cut {b m1 m2 : Int} (hb : 1 ≤ b) (hm : m1 ≤ m2) : ∀ (l : List Int) (n : Int), 0 ≤ n → n ≤ m1 → parseN b m1 n l = (parseN b m2 n l).bind fun v => if v ≤ m1 then some v else none := by
  intro l
  induction l with
  | nil => intro n _ hn; simp [parseN, hn]
  | cons c r ih =>
    intro n h0 hn
    have hv := valOf_nonneg c
    have hmul : n * 1 ≤ n * b := Int.mul_le_mul_of_nonneg_left hb h0
    rw [parseN, parseN]
    split
    · rfl
    · by_cases h1 : m1 < n * b + valOf c
      · rw [if_pos h1]
        split
        · rfl
        · cases hp : parseN b m2 (n * b + valOf c) r with
          | none => rfl
          | some v =>
            have := parseN_ge hb _ _ _ (by omega) hp
            simp only [Option.bind_some]
            rw [if_neg (by omega)]
      · rw [if_neg h1, if_neg (by omega)]
        exact ih _ (by omega) (by omega)

/-- What ParseInt tells of a text without a sign, at 64 bits. -/
def intN (b : Int) (s : ByteArray) : Option Int := if s.size = 0 then none else (parseN b 18446744073709551615 0 (bs s)).bind fun v => if v ≤ 9223372036854775807 then some v else none
theorem intN_eq (b : Int) (hb : 1 ≤ b) (s : ByteArray) : intN b s = if s.size = 0 then none else parseN b 9223372036854775807 0 (bs s) := by
  unfold intN
  split
  · rfl
  · exact (parseN_cut hb (by decide) _ _ (by decide) (by decide)).symm

theorem neqSame (w : World) : (binOp .neq 29 (.iface 234 (.int .i64 1)) (.iface 234 (.int .i64 1))).run Tryz.prog w = .ok (.bool false) w := by kernel_rfl
theorem neqOther (w : World) : (binOp .neq 29 (.iface 234 (.int .i64 2)) (.iface 234 (.int .i64 1))).run Tryz.prog w = .ok (.bool true) w := by kernel_rfl
/-- The number and no error, or one of two errors. -/
def IntPost2 (w : World) (r : Option Int) (e : Ending) (w' : World) : Prop :=
  (∃ n k : Int, (r = some n ∧ e = .returned (.tuple #[.int .i64 n, .nilIface]) ∨ r = none ∧ (k = 1 ∨ k = 2) ∧ e = .returned (.tuple #[.int .i64 n, .iface 234 (.int .i64 k)]))) ∧ Below w.heap.size w w'

set_option maxRecDepth 100000 in
set_option maxHeartbeats 1000000 in
theorem parseInt_in (s : ByteArray) (b : Int) (hb0 : 2 ≤ b) (hb1 : b ≤ 36) (hm : s.size ≤ 140737488351232) (hs1 : bt s 0 ≠ 43) (hs2 : bt s 0 ≠ 45) (w : World) :
    Calls Tryz.prog 186 #[.string s, .int .i64 b, .int .i64 64] w (IntPost2 w (intN b s)) := by
  by_cases h0 : s.size = 0
  · have hemp := isEmpty_of h0
    have HE : Hid (intN b s = none) := Lib.hid (by unfold intN; rw [if_pos h0])
    clear h0
    go_enter Tryz.func186, Tryz.ntmps186
    go_wp2_with fail
    go_ret2
    exact ⟨⟨_, 2, .inr ⟨HE.out, .inr rfl, rfl⟩⟩, Below.refl _ _⟩
  · have hemp := isEmpty_not h0
    have hpos : 0 < s.size := by omega
    have hb : ∀ h : 0 < s.size, ((s[0]'h).toNat : Int) = bt s 0 := btk s 0
    have c1 : (bt s 0 == 43) = false := beq_eq_false_iff_ne.2 hs1
    have c2 : (bt s 0 == 45) = false := beq_eq_false_iff_ne.2 hs2
    have HQ : Hid (intN b s = (parseN b 18446744073709551615 0 (bs s)).bind fun v => if v ≤ 9223372036854775807 then some v else none) := Lib.hid (by unfold intN; rw [if_neg h0])
    have HU := Lib.hid (parseUint_any s b hb0 hb1 hm h0 w)
    have HN : Hid (∀ v, parseN b 18446744073709551615 0 (bs s) = some v → 0 ≤ v ∧ v ≤ 18446744073709551615) := Lib.hid fun v h => ⟨parseN_ge (by omega) _ _ _ (by decide) h, parseN_le _ _ _ (by decide) h⟩
    clear hs1 hs2 h0
    go_enter Tryz.func186, Tryz.ntmps186
    go_wp2_with fail
    refine HU.out.mono ?_
    rintro e w1 ⟨⟨n, k, h⟩, hB⟩
    have HB := Lib.hid hB
    clear hB
    rcases h with ⟨hr, rfl⟩ | ⟨hr, hk, rfl⟩
    · have hn := HN.out n hr
      have hq := HQ.out
      rw [hr] at hq
      simp only [Option.bind_some] at hq
      have HQ2 := Lib.hid hq
      clear hq hr
      by_cases hc : n ≤ 9223372036854775807
      · have hw : wrap64 n = n := by unfold wrap64; omega
        have HQ3 : Hid (intN b s = some n) := Lib.hid (by rw [HQ2.out, if_pos hc])
        go_wp2_with fail
        go_ret2
        exact ⟨⟨_, 0, .inl ⟨HQ3.out, rfl⟩⟩, HB.out⟩
      · have HQ3 : Hid (intN b s = none) := Lib.hid (by rw [HQ2.out, if_neg hc])
        go_wp2_with fail
        go_ret2
        exact ⟨⟨_, 1, .inr ⟨HQ3.out, .inl rfl, rfl⟩⟩, HB.out⟩
    · have HQ2 : Hid (intN b s = none) := Lib.hid (by rw [HQ.out, hr]; rfl)
      clear hr
      rcases hk with ⟨rfl, rfl⟩ | ⟨rfl, rfl⟩
      · have hne := neqSame w1
        go_wp2_with fail
        go_ret2
        exact ⟨⟨_, 1, .inr ⟨HQ2.out, .inl rfl, rfl⟩⟩, HB.out⟩
      · have hne := neqOther w1
        go_wp2_with fail
        go_ret2
        exact ⟨⟨_, 2, .inr ⟨HQ2.out, .inr rfl, rfl⟩⟩, HB.out⟩

/-- A number and no error, or any error. -/
def NumPost (K : IntKind) (w : World) (r : Option Int) (e : Ending) (w' : World) : Prop :=
  ∃ (n : Int) (v : Value), (r = some n ∧ v = .nilIface ∨ r = none ∧ ∃ t p, v = .iface t p) ∧ e = .returned (.tuple #[.int K n, v]) ∧ Below w.heap.size w w'

set_option maxRecDepth 100000 in
theorem strconv_ParseInt (s : ByteArray) (b : Int) (hb0 : 2 ≤ b) (hb1 : b ≤ 36) (hm : s.size ≤ 140737488351232) (hs1 : bt s 0 ≠ 43) (hs2 : bt s 0 ≠ 45) (w : World) (hG : Glob w) :
    Calls Tryz.prog 150 #[.string s, .int .i64 b, .int .i64 64] w (NumPost .i64 w (intN b s)) := by
  have HG := Lib.hid hG
  have HQ := Lib.hid (parseInt_in s b hb0 hb1 hm hs1 hs2 w)
  clear hG hs1 hs2
  go_enter Tryz.func150, Tryz.ntmps150
  go_wp2_with fail
  refine HQ.out.mono ?_
  rintro e w1 ⟨⟨n, k, h⟩, hB⟩
  have HB := Lib.hid hB
  clear hB
  rcases h with ⟨hr, rfl⟩ | ⟨hr, hk, rfl⟩
  · have HR := Lib.hid hr
    clear hr
    go_wp2_with fail
    go_ret2
    exact ⟨_, _, .inl ⟨HR.out, rfl⟩, rfl, HB.out⟩
  · have HR := Lib.hid hr
    clear hr
    rcases hk with rfl | rfl
    · obtain ⟨t, p, hv⟩ := (HG.out.below HB.out).rg
      have HV := Lib.hid hv
      clear hv
      go_wp2_with fail
      refine (Tryz.strconv_toError_range _ s b 64 _ w1 (by omega) HV.out (.inr ⟨_, _, rfl⟩)).mono ?_
      rintro e w2 ⟨N, rfl, _, _, hB2⟩
      have HB2 := Lib.hid (trans_below HB.out hB2)
      clear hB2
      go_wp2_with fail
      go_ret2
      exact ⟨_, _, .inr ⟨HR.out, _, _, rfl⟩, rfl, HB2.out⟩
    · obtain ⟨t, p, hv⟩ := (HG.out.below HB.out).sy
      have HV := Lib.hid hv
      clear hv
      go_wp2_with fail
      refine (Tryz.strconv_toError_syntax _ s b 64 _ w1 (by omega) HV.out (.inr ⟨_, _, rfl⟩)).mono ?_
      rintro e w2 ⟨N, rfl, _, _, hB2⟩
      have HB2 := Lib.hid (trans_below HB.out hB2)
      clear hB2
      go_wp2_with fail
      go_ret2
      exact ⟨_, _, .inr ⟨HR.out, _, _, rfl⟩, rfl, HB2.out⟩

set_option maxRecDepth 100000 in
theorem strconv_ParseUint (s : ByteArray) (hm : s.size ≤ 140737488351232) (h0 : s.size ≠ 0) (w : World) (hG : Glob w) :
    Calls Tryz.prog 188 #[.string s, .int .i64 16, .int .i64 8] w (NumPost .u64 w (parseN 16 255 0 (bs s))) := by
  have HG := Lib.hid hG
  have HQ := Lib.hid (parseUint_16_8 s hm h0 w)
  clear hG h0
  go_enter Tryz.func188, Tryz.ntmps188
  go_wp2_with fail
  refine HQ.out.mono ?_
  rintro e w1 ⟨⟨n, k, h⟩, hB⟩
  have HB := Lib.hid hB
  clear hB
  rcases h with ⟨hr, rfl⟩ | ⟨hr, hk, rfl⟩
  · have HR := Lib.hid hr
    clear hr
    go_wp2_with fail
    go_ret2
    exact ⟨_, _, .inl ⟨HR.out, rfl⟩, rfl, HB.out⟩
  · have HR := Lib.hid hr
    clear hr
    rcases hk with ⟨rfl, rfl⟩ | ⟨rfl, rfl⟩
    · obtain ⟨t, p, hv⟩ := (HG.out.below HB.out).rg
      have HV := Lib.hid hv
      clear hv
      go_wp2_with fail
      refine (Tryz.strconv_toError_range _ s 16 8 _ w1 (by omega) HV.out (.inr ⟨_, _, rfl⟩)).mono ?_
      rintro e w2 ⟨N, rfl, _, _, hB2⟩
      have HB2 := Lib.hid (trans_below HB.out hB2)
      clear hB2
      go_wp2_with fail
      go_ret2
      exact ⟨_, _, .inr ⟨HR.out, _, _, rfl⟩, rfl, HB2.out⟩
    · obtain ⟨t, p, hv⟩ := (HG.out.below HB.out).sy
      have HV := Lib.hid hv
      clear hv
      go_wp2_with fail
      refine (Tryz.strconv_toError_syntax _ s 16 8 _ w1 (by omega) HV.out (.inr ⟨_, _, rfl⟩)).mono ?_
      rintro e w2 ⟨N, rfl, _, _, hB2⟩
      have HB2 := Lib.hid (trans_below HB.out hB2)
      clear hB2
      go_wp2_with fail
      go_ret2
      exact ⟨_, _, .inr ⟨HR.out, _, _, rfl⟩, rfl, HB2.out⟩

/-! ### strconv.Atoi -/
theorem bs_data (s : ByteArray) : bs s = s.data.toList.map fun c => (c.toNat : Int) := rfl
theorem mag_parse : ∀ (l : List UInt8) (a : Nat), (Lib.parseUint10 a l = .«syntax» ∨ Lib.parseUint10 a l = .range) ∧ parseN 10 18446744073709551615 (a : Int) (l.map fun c => (c.toNat : Int)) = none ∨ ∃ u : Nat, Lib.parseUint10 a l = .ok u ∧ parseN 10 18446744073709551615 (a : Int) (l.map fun c => (c.toNat : Int)) = some (u : Int) := by
  intro l
  induction l with
  | nil => intro a; exact .inr ⟨a, rfl, rfl⟩
  | cons c r ih =>
    intro a
    simp only [List.map_cons, parseN, Lib.parseUint10]
    by_cases hd : 48 ≤ c.toNat ∧ c.toNat ≤ 57
    · have hv : valOf (c.toNat : Int) = (c.toNat : Int) - 48 := by
        have : isDigit (c.toNat : Int) = true := by simp [isDigit]; omega
        simp [valOf, this]
      rw [if_pos hd, hv, if_neg (show ¬ (10 : Int) ≤ (c.toNat : Int) - 48 by omega)]
      by_cases h1 : 1844674407370955162 ≤ a
      · rw [if_pos h1, if_pos (show (18446744073709551615 : Int) < (a : Int) * 10 + ((c.toNat : Int) - 48) by omega)]
        exact .inl ⟨.inr rfl, rfl⟩
      · rw [if_neg h1]
        by_cases h2 : 18446744073709551616 ≤ a * 10 + (c.toNat - 48)
        · rw [if_pos h2, if_pos (show (18446744073709551615 : Int) < (a : Int) * 10 + ((c.toNat : Int) - 48) by omega)]
          exact .inl ⟨.inr rfl, rfl⟩
        · rw [if_neg h2, if_neg (show ¬ (18446744073709551615 : Int) < (a : Int) * 10 + ((c.toNat : Int) - 48) by omega)]
          have he : (a : Int) * 10 + ((c.toNat : Int) - 48) = ((a * 10 + (c.toNat - 48) : Nat) : Int) := by omega
          rw [he]
          exact ih _
    · rw [if_neg hd]
      have hv : 10 ≤ valOf (c.toNat : Int) := by
        have : isDigit (c.toNat : Int) = false := by simp [isDigit]; omega
        unfold valOf
        rw [this]
        simp only [Bool.false_eq_true, if_false]
        unfold isSmall isCapital
        simp only [Bool.and_eq_true, decide_eq_true_eq]
        repeat' split
        all_goals omega
      rw [if_pos hv]
      exact .inl ⟨.inl rfl, rfl⟩
theorem atoi_parse (s : ByteArray) (hs1 : bt s 0 ≠ 43) (hs2 : bt s 0 ≠ 45) : (Lib.atoiAll s.data.toList = .«syntax» ∨ Lib.atoiAll s.data.toList = .range) ∧ intN 10 s = none ∨ ∃ v, Lib.atoiAll s.data.toList = .ok v ∧ intN 10 s = some v := by
  by_cases h0 : s.size = 0
  · have hl : s.data.toList = [] := List.eq_nil_of_length_eq_zero (by have := Lib.size_eq s; omega)
    exact .inl ⟨.inl (by rw [hl]; rfl), by unfold intN; rw [if_pos h0]⟩
  · obtain ⟨c, r, hl⟩ : ∃ c r, s.data.toList = c :: r := by
      cases h : s.data.toList with
      | nil => have := Lib.size_eq s; rw [h] at this; exact absurd this h0
      | cons c r => exact ⟨c, r, rfl⟩
    have hc : (c.toNat : Int) = bt s 0 := by
      have h1 := bs_drop s 0 (by omega)
      rw [bs_data, hl] at h1
      simp only [List.map_cons, List.drop_zero] at h1
      exact (List.cons.inj h1).1
    have hm := mag_parse (c :: r) 0
    unfold intN
    rw [if_neg h0, bs_data, hl]
    simp only [Lib.atoiAll]
    rw [if_neg (by omega)]
    unfold Lib.parseMag
    rw [if_neg (by simp)]
    simp only [Int.natCast_zero] at hm
    rcases hm with ⟨h1 | h1, h2⟩ | ⟨u, h1, h2⟩
    · rw [h1, h2]; exact .inl ⟨.inl rfl, rfl⟩
    · rw [h1, h2]; exact .inl ⟨.inr rfl, rfl⟩
    · rw [h1, h2]
      simp only [Option.bind_some]
      by_cases h3 : 9223372036854775808 ≤ u
      · rw [if_pos ⟨by omega, h3⟩, if_neg (by omega)]
        exact .inl ⟨.inr rfl, rfl⟩
      · rw [if_neg (by omega), if_neg (by omega), if_neg (by omega), if_pos (by omega)]
        exact .inr ⟨_, rfl, rfl⟩
theorem strconv_Atoi_any (s : ByteArray) (hm : s.size ≤ 140737488351232) (hs1 : bt s 0 ≠ 43) (hs2 : bt s 0 ≠ 45) (w : World) (hG : Glob w) :
    Calls Tryz.prog 177 #[.string s] w (NumPost .i64 w (intN 10 s)) := by
  rcases atoi_parse s hs1 hs2 with ⟨h | h, hn⟩ | ⟨v, h, hn⟩
  · obtain ⟨t, p, hv⟩ := hG.sy
    refine (Tryz.strconv_Atoi_syntax s (by omega) h _ w hv (.inr ⟨_, _, rfl⟩)).mono ?_
    rintro e w' ⟨N, rfl, _, _, hB⟩
    exact ⟨_, _, .inr ⟨hn, _, _, rfl⟩, rfl, hB⟩
  · obtain ⟨t, p, hv⟩ := hG.rg
    refine (Tryz.strconv_Atoi_range s (by omega) h _ w hv (.inr ⟨_, _, rfl⟩)).mono ?_
    rintro e w' ⟨N, rfl, _, _, hB⟩
    exact ⟨_, _, .inr ⟨hn, _, _, rfl⟩, rfl, hB⟩
  · refine (Tryz.strconv_Atoi_ok s (by omega) v h w).mono ?_
    rintro e w' ⟨rfl, hw⟩
    refine ⟨_, _, .inl ⟨hn, rfl⟩, rfl, ?_⟩
    rcases hw with rfl | ⟨t, rfl⟩
    · exact Below.refl _ _
    · exact bytesWorld_below w _ t
end Go.Proofs.YtgapeacflkfmdaaGreatDoor
namespace Go.Proofs.YtgapeacflkfmdaaGreatDoor
open Go.RowKit Go.Proofs.YtgapeacflkfmdaaGreatDoorW.PrintWords

/-- A token, the place behind it; or an error's chain. -/
abbrev Tok := Tk × Nat × List Lk
def noTok (l : List Lk) : Tok := (zTk, 0, l)
def tkV (t : Tk) : Value := .agg #[.int .i64 t.kd, .string t.tx, .int .i64 t.nm, .int .i64 t.at_]
def TokPost (w : World) (r : Tok) (e : Ending) (w' : World) : Prop := ∃ v, e = .returned (.tuple #[tkV r.1, .int .i64 (r.2.1 : Int), v]) ∧ ErrIs w' r.2.2 v ∧ Below w.heap.size w w'

theorem ScanAt.below {w w' : World} {b : Nat} {s : ByteArray} {k : Nat} (h : ScanAt w b s k) (hb : Below w.heap.size w w') : ScanAt w' b s k :=
  ⟨(hb.cell h.lt).trans h.1, (hb.cell h.lt).trans h.2.1, (hb.frozen h.lt).trans h.2.2⟩

/-- A token in a block of its own, which may be written. -/
structure TkAt (W : World) (b : Nat) (t : Tk) : Prop where
  c0 : W.cell? ⟨b, 0, none⟩ = some (.int .i64 t.kd)
  c1 : W.cell? ⟨b, 1, none⟩ = some (.string t.tx)
  c2 : W.cell? ⟨b, 2, none⟩ = some (.int .i64 t.nm)
  c3 : W.cell? ⟨b, 3, none⟩ = some (.int .i64 t.at_)
  f0 : W.frozen? ⟨b, 0, none⟩ = false
  f1 : W.frozen? ⟨b, 1, none⟩ = false
  f2 : W.frozen? ⟨b, 2, none⟩ = false
  f3 : W.frozen? ⟨b, 3, none⟩ = false
theorem TkAt.below {W W' : World} {b n : Nat} {t : Tk} (h : TkAt W b t) (hb : Below n W W') (hn : b < n) : TkAt W' b t :=
  ⟨(hb.cell hn).trans h.c0, (hb.cell hn).trans h.c1, (hb.cell hn).trans h.c2, (hb.cell hn).trans h.c3, (hb.frozen hn).trans h.f0, (hb.frozen hn).trans h.f1, (hb.frozen hn).trans h.f2, (hb.frozen hn).trans h.f3⟩
theorem TkAt.new (w : World) : TkAt (w.alloc (.cells #[.int .i64 0, .string ⟨#[]⟩, .int .i64 0, .int .i64 0] 63)) w.heap.size zTk := by
  constructor <;> simp [zTk]

theorem TkAt.put {W : World} {b : Nat} {t : Tk} (h : TkAt W b t) (x : Tk) :
    TkAt ((((W.setCell ⟨b, 0, none⟩ (.int .i64 x.kd)).setCell ⟨b, 1, none⟩ (.string x.tx)).setCell ⟨b, 2, none⟩ (.int .i64 x.nm)).setCell ⟨b, 3, none⟩ (.int .i64 x.at_)) b x := by
  obtain ⟨c0, c1, c2, c3, f0, f1, f2, f3⟩ := h
  constructor <;> simp [World.cell?_setCell_other, World.cell?_setCell_same, World.frozen?_setCell, *]
theorem put_below {n : Nat} {W : World} {b : Nat} (hb : n ≤ b) (v0 v1 v2 v3 : Value) :
    Below n W ((((W.setCell ⟨b, 0, none⟩ v0).setCell ⟨b, 1, none⟩ v1).setCell ⟨b, 2, none⟩ v2).setCell ⟨b, 3, none⟩ v3) :=
  ((((Below.refl _ _).setCell hb v0).setCell hb v1).setCell hb v2).setCell hb v3
theorem put_far {W : World} {b b' o : Nat} (h : b' ≠ b) (v0 v1 v2 v3 : Value) :
    ((((W.setCell ⟨b, 0, none⟩ v0).setCell ⟨b, 1, none⟩ v1).setCell ⟨b, 2, none⟩ v2).setCell ⟨b, 3, none⟩ v3).cell? ⟨b', o, none⟩ = W.cell? ⟨b', o, none⟩ := by
  simp [World.cell?_setCell_other]
/-- An error's chain bears a token's being written: no link lies in the token's block. -/
theorem ErrIs.put {W : World} {g : Nat} {n : Int} (hg : W.cell? ⟨g, 0, none⟩ = some (.int .i64 n)) (v0 v1 v2 v3 : Value) : ∀ {l : List Lk} {v : Value}, ErrIs W l v →
    ErrIs ((((W.setCell ⟨g, 0, none⟩ v0).setCell ⟨g, 1, none⟩ v1).setCell ⟨g, 2, none⟩ v2).setCell ⟨g, 3, none⟩ v3) l v
  | [], _, h => h
  | _ :: _, _, ⟨b, u, e, h0, h1, h2, h3, h4⟩ => by
    have hne : b ≠ g := fun e => by rw [e, hg] at h0; simp at h0
    exact ⟨b, u, e, (put_far hne _ _ _ _).trans h0, (put_far hne _ _ _ _).trans h1, (put_far hne _ _ _ _).trans h2, (put_far hne _ _ _ _).trans h3, ErrIs.put hg v0 v1 v2 v3 h4⟩
theorem res_tok' {f : Func} {p u v : Tmp} (hr : f.results = #[.cell p 63, .tmp u, .tmp v]) (tmps : Array Value) (W : World) (rb : Nat) (t : Tk) (hp : tmps.getD p undef = .pointer (some ⟨rb, 0, none⟩)) (h : TkAt W rb t) :
    (results f tmps).run Tryz.prog W = .ok (.tuple #[tkV t, tmps.getD u undef, tmps.getD v undef]) W := by
  have hp' : tmps[p]?.getD undef = .pointer (some ⟨rb, 0, none⟩) := by simpa using hp
  obtain ⟨c0, c1, c2, c3, _, _, _, _⟩ := h
  simp [results, hr, hp', asAddr, go_sem, c0, c1, c2, c3, tkV]
theorem res_tok {f : Func} (hr : f.results = #[.cell 2 63, .tmp 3, .tmp 4]) (tmps : Array Value) (W : World) (rb : Nat) (t : Tk) (hp : tmps.getD 2 undef = .pointer (some ⟨rb, 0, none⟩)) (h : TkAt W rb t) :
    (results f tmps).run Tryz.prog W = .ok (.tuple #[tkV t, tmps.getD 3 undef, tmps.getD 4 undef]) W := by
  have hp' : tmps[2]?.getD undef = .pointer (some ⟨rb, 0, none⟩) := by simpa using hp
  obtain ⟨c0, c1, c2, c3, _, _, _, _⟩ := h
  simp [results, hr, hp', asAddr, go_sem, c0, c1, c2, c3, tkV]

def atomTok (s : ByteArray) (k : Nat) : Tok :=
  match (aScan s k).2.2 with
  | [] => (⟨1, (aScan s k).1, 0, 0⟩, (aScan s k).2.1, [])
  | x :: r => noTok (⟨nLex, k, x.co⟩ :: x :: r)

set_option maxRecDepth 100000 in
set_option maxHeartbeats 6000000 in
theorem lex_atom (b : Nat) (s : ByteArray) (k : Nat) (hk : k ≤ s.size) (hm : s.size ≤ 140737488351232) (w : World) (hS : ScanAt w b s k) (hG : Glob w) :
    Calls Tryz.prog 129 #[.pointer (some ⟨b, 0, none⟩)] w (TokPost w (atomTok s k)) := by
  have HS := Lib.hid hS
  have HG := Lib.hid hG
  have hlt := hS.lt
  obtain ⟨h1, h2, _⟩ := hS
  obtain ⟨R, hR⟩ : ∃ R, R = atomTok s k := ⟨_, rfl⟩
  rw [← hR]
  have HR := Lib.hid hR
  clear hR hG
  go_enter Tryz.func129, Tryz.ntmps129
  go_wp2_with fail
  go_region_held3 (fun w' => w'.cell? ⟨b, 0, none⟩ = some (.string s) ∧ w'.cell? ⟨b, 1, none⟩ = some (.int .i64 (k : Int)))
    (first | go_keep | exact ⟨(HB.out.cell hlt).trans h1, (HB.out.cell hlt).trans h2⟩)
    ((go_at_call 153; refine (atom_Scan s k hk hm _ (HG.out.below (below_alloc (Below.refl _ _) _).drew)).mono ?_; rintro e w1 ⟨v, rfl, hE, hB⟩; have HA := Lib.hid hB; have HB : Hid (Below w.heap.size w w1) := Lib.hid (trans_below (below_alloc (Below.refl _ _) _).drew hB); clear hB))
  have hT := (TkAt.new w).below (n := w.heap.size + 1) (((Below.refl _ _).drew).trans (HA.out.mono (by simp))) (by omega)
  have HT := Lib.hid hT
  obtain ⟨r0, r1, r2, r3, f0, f1, f2, f3⟩ := hT
  simp only [zTk] at r0 r1 r2 r3
  clear h1 h2
  have hb1 := (HS.out.below HB.out).2.1
  match hl : (aScan s k).2.2 with
  | [] =>
    have HQ : Hid (R = (⟨1, (aScan s k).1, 0, 0⟩, (aScan s k).2.1, [])) := Lib.hid (by rw [HR.out]; unfold atomTok; rw [hl])
    rw [hl] at hE
    obtain rfl : v = .nilIface := hE
    clear hl
    go_wp2_with fail
    refine bodyPost_ret (res_tok rfl _ _ w.heap.size ⟨1, (aScan s k).1, 0, 0⟩ (by rfl) (HT.out.put ⟨1, (aScan s k).1, 0, 0⟩)) rfl ?_
    exact ⟨_, by rw [HQ.out]; rfl, by rw [HQ.out]; rfl, HB.out.trans (put_below (Nat.le_refl _) _ _ _ _)⟩
  | x :: r =>
    have HQ : Hid (R = noTok (⟨nLex, k, x.co⟩ :: x :: r)) := Lib.hid (by rw [HR.out]; unfold atomTok; rw [hl])
    rw [hl] at hE
    have HE := Lib.hid hE
    obtain ⟨eb_, u, rfl, hc0, hc1, hc2, hc3, hu⟩ := hE
    clear hl hu hc1 hc3
    have hlt1 := World.block_lt_of_cell? w1 _ hc2
    simp only at hlt1
    have HC2 := Lib.hid hc2
    clear hc2
    have hnew : (w1.alloc (.cells #[.pointer none] 125)).cell? ⟨w1.heap.size, 0, none⟩ = some (.pointer none) := by simp
    have hfr : (w1.alloc (.cells #[.pointer none] 125)).frozen? ⟨w1.heap.size, 0, none⟩ = false := by simp
    have HAS := Lib.hid (as_in ⟨eb_, 0, none⟩ w1.heap.size (.pointer none) _ ((HG.out.below HB.out).below (below_alloc (Below.refl _ _) _)) hnew hfr)
    clear hnew hfr
    go_wp2_with fail
    refine HAS.out.mono ?_
    rintro e w2 ⟨rfl, hp, hB2, _⟩
    have HB2 : Hid (Below w1.heap.size w1 w2) := Lib.hid ((below_alloc (Below.refl _ _) _).trans hB2)
    have hc2 := (HB2.out.cell hlt1).trans HC2.out
    have HE2 := Lib.hid (HE.out.below HB2.out)
    have HT2 := Lib.hid (HT.out.below HB2.out (by have := HA.out.size; simp at this; omega))
    have hb2 := ((HS.out.below HB.out).below HB2.out).2.1
    have l1 : b < w2.heap.size := Nat.lt_of_lt_of_le (Nat.lt_of_lt_of_le hlt HB.out.size) HB2.out.size
    have l2 : eb_ < w2.heap.size := Nat.lt_of_lt_of_le hlt1 HB2.out.size
    have l3 : w1.heap.size < w2.heap.size := World.block_lt_of_cell? w2 _ hp
    have l4 : w.heap.size < w2.heap.size := by have := HA.out.size; simp at this; omega
    have n1 : b ≠ w.heap.size := by omega
    have n2 : eb_ ≠ w.heap.size := fun e => by
      have h1 := HT.out.c0
      rw [← e, hc0] at h1
      simp at h1
    have n3 : w1.heap.size ≠ w.heap.size := by have := HA.out.size; simp at this; omega
    have HB2b := Lib.hid hb2
    have HP := Lib.hid hp
    have HC := Lib.hid hc2
    have HS0 : Hid (w2.drew.cell? ⟨b, 1, none⟩ = some (.int .i64 (k : Int)) ∧ w2.drew.cell? ⟨w1.heap.size, 0, none⟩ = some (.pointer (some ⟨eb_, 0, none⟩)) ∧ w2.drew.cell? ⟨eb_, 2, none⟩ = some (.int .i64 x.co)) := Lib.hid ⟨hb2, hp, hc2⟩
    have HL := Lib.hid (And.intro l1 (And.intro l2 (And.intro l3 (And.intro l4 (And.intro n1 (And.intro n2 n3))))))
    clear hB2 hb2 hp hc2 hc0 r0 r1 r2 r3 f0 f1 f2 f3 hb1 l1 l2 l3 l4 n1 n2 n3 hlt hlt1 hk hm
    go_wp2_with fail
    go_region_held3 (fun w' => w'.cell? ⟨b, 1, none⟩ = some (.int .i64 (k : Int)) ∧ w'.cell? ⟨w1.heap.size, 0, none⟩ = some (.pointer (some ⟨eb_, 0, none⟩)) ∧ w'.cell? ⟨eb_, 2, none⟩ = some (.int .i64 x.co))
      (first | with_reducible exact HS0.out | with_reducible exact ⟨(HB3.out.cell HL.out.1).trans HB2b.out, (HB3.out.cell HL.out.2.2.1).trans HP.out, (HB3.out.cell HL.out.2.1).trans HC.out⟩ | with_reducible exact ⟨(put_far HL.out.2.2.2.2.1 _ _ _ _).trans ((HB3.out.cell HL.out.1).trans HB2b.out), (put_far HL.out.2.2.2.2.2.2 _ _ _ _).trans ((HB3.out.cell HL.out.2.2.1).trans HP.out), (put_far HL.out.2.2.2.2.2.1 _ _ _ _).trans ((HB3.out.cell HL.out.2.1).trans HC.out)⟩ | go_keep)
      ((go_at_call 60; refine (lex_fault _ _ _ _ _ (HE2.out.below (Below.refl _ _).drew)).mono ?_; rintro e w3 ⟨v3, rfl, hE3, hB3⟩; have HE3 := Lib.hid hE3; have HB3 : Hid (Below w2.heap.size w2 w3) := Lib.hid ((Below.refl _ _).drew.trans hB3); have HT3 := Lib.hid (HT2.out.below HB3.out HL.out.2.2.2.1); obtain ⟨r0, r1, r2, r3, f0, f1, f2, f3⟩ := HT3.out; simp only [zTk] at r0 r1 r2 r3; clear hE3 hB3))
    go_wp2_with fail
    refine bodyPost_ret (res_tok rfl _ _ w.heap.size zTk (by rfl) (HT3.out.put zTk)) rfl ?_
    have hB := (HB.out.trans (HB2.out.mono HB.out.size)).trans (HB3.out.mono (Nat.le_trans HB.out.size HB2.out.size))
    exact ⟨v3, by rw [HQ.out]; rfl, by rw [HQ.out]; exact HE3.out.put HT3.out.c0 _ _ _ _, hB.trans (put_below (Nat.le_refl _) _ _ _ _)⟩

/-! ### the frame of the functions that hand back a token: the scanner's block, the result's block -/
def zTok : Obj := .cells #[.int .i64 0, .string ⟨#[]⟩, .int .i64 0, .int .i64 0] 63
structure TokFrame (w W : World) (b rb : Nat) (s : ByteArray) (k : Nat) : Prop where
  sc : ScanAt W b s k
  tk : TkAt W rb zTk
  bl : Below w.heap.size w W
  l2 : rb < W.heap.size
  ne : b ≠ rb
  ge : w.heap.size ≤ rb
  g : Glob W
theorem TokFrame.l1 {w W : World} {b rb : Nat} {s : ByteArray} {k : Nat} (h : TokFrame w W b rb s k) : b < W.heap.size := h.sc.lt
theorem TokFrame.start {w : World} {b : Nat} {s : ByteArray} {k : Nat} (h : ScanAt w b s k) (hG : Glob w) : TokFrame w (w.alloc (.cells #[.int .i64 0, .string ⟨#[]⟩, .int .i64 0, .int .i64 0] 63)) b w.heap.size s k :=
  ⟨h.below (below_alloc (Below.refl _ _) _), TkAt.new w, below_alloc (Below.refl _ _) _, by simp, Nat.ne_of_lt h.lt, Nat.le_refl _, hG.below (below_alloc (Below.refl _ _) _)⟩
theorem TokFrame.step {w W W' : World} {b rb : Nat} {s : ByteArray} {k : Nat} (h : TokFrame w W b rb s k) (hb : Below W.heap.size W W') : TokFrame w W' b rb s k :=
  ⟨h.sc.below hb, h.tk.below hb h.l2, trans_below h.bl hb, Nat.lt_of_lt_of_le h.l2 hb.size, h.ne, h.ge, h.g.below hb⟩
theorem TokFrame.drew {w W : World} {b rb : Nat} {s : ByteArray} {k : Nat} (h : TokFrame w W b rb s k) : TokFrame w W.drew b rb s k := h.step (Below.refl _ _).drew
theorem below_drewN (W : World) (m B : Nat) : Below B W (W.drewN m) := ⟨rfl, rfl, rfl, Nat.le_refl _, fun _ _ => rfl⟩
theorem TokFrame.drewN {w W : World} {b rb : Nat} {s : ByteArray} {k : Nat} (h : TokFrame w W b rb s k) (m : Nat) : TokFrame w (W.drewN m) b rb s k := h.step (below_drewN _ _ _)
theorem TokFrame.done {w W : World} {b rb : Nat} {s : ByteArray} {k : Nat} (h : TokFrame w W b rb s k) (R : Tok) (v : Value) (hE : ErrIs W R.2.2 v) :
    TokPost w R (.returned (.tuple #[tkV R.1, .int .i64 (R.2.1 : Int), v])) ((((W.setCell ⟨rb, 0, none⟩ (.int .i64 R.1.kd)).setCell ⟨rb, 1, none⟩ (.string R.1.tx)).setCell ⟨rb, 2, none⟩ (.int .i64 R.1.nm)).setCell ⟨rb, 3, none⟩ (.int .i64 R.1.at_)) :=
  ⟨v, rfl, hE.put h.tk.c0 _ _ _ _, h.bl.trans (put_below h.ge _ _ _ _)⟩
end Go.Proofs.YtgapeacflkfmdaaGreatDoor
namespace Go.Proofs.YtgapeacflkfmdaaGreatDoor
open Go.RowKit Go.Proofs.YtgapeacflkfmdaaGreatDoorW.PrintWords

theorem tw_all {p : Int → Bool} : ∀ {l : List Int} {i : Nat} (_ : i < tw p l), ∃ c, l[i]? = some c ∧ p c = true := by
  intro l
  induction l with
  | nil => intro i h; simp [tw] at h
  | cons c r ih =>
    intro i h
    by_cases hp : p c = true
    · rw [tw_yes hp] at h
      cases i with
      | zero => exact ⟨c, rfl, hp⟩
      | succ i => simpa using ih (i := i) (by omega)
    · rw [tw_no (by simpa using hp)] at h
      omega
theorem run_all {p : Int → Bool} {s : ByteArray} {k i : Nat} (hk : k ≤ i) (hi : i < runEnd p s k) (hs : i < s.size) : p (bt s (i : Int)) = true := by
  unfold runEnd at hi
  obtain ⟨c, hc, hp⟩ := tw_all (p := p) (l := (bs s).drop k) (i := i - k) (by omega)
  rw [List.getElem?_drop] at hc
  have h1 : (bs s)[i]? = some (bt s (i : Int)) := by
    rw [List.getElem?_eq_getElem (by rw [bs_len]; exact hs), bs_get s i hs]
  have h2 : k + (i - k) = i := by omega
  rw [h2, h1] at hc
  injection hc with hc
  rw [hc]
  exact hp
theorem extract_mem {s : ByteArray} {k e : Nat} {c : UInt8} (h : c ∈ (s.extract k e).data.toList) : ∃ i, k ≤ i ∧ i < e ∧ i < s.size ∧ (c.toNat : Int) = bt s (i : Int) := by
  obtain ⟨j, hj, hc⟩ := List.getElem_of_mem h
  have hsz : (s.extract k e).data.toList.length = (s.extract k e).size := rfl
  rw [hsz] at hj
  simp at hj
  have h1 := btk s (k + j) (by omega)
  refine ⟨k + j, by omega, by omega, by omega, ?_⟩
  rw [← h1, ← hc]
  simp [ByteArray.data_extract]
  rfl
theorem word_plain (s : ByteArray) (k : Nat) : ∀ c ∈ (s.extract k (runEnd isIn s k)).data.toList, c ≠ 32 := by
  intro c hc h
  obtain ⟨i, h1, h2, h3, h4⟩ := extract_mem hc
  have := run_all h1 h2 h3
  rw [← h4, h] at this
  simp [isIn, isSmall, isCapital, isDigit] at this

theorem ext_first {s T : ByteArray} {k e : Nat} (hk : k < e) (he : e ≤ s.size) (hT : T = s.extract k e) : bt T 0 = bt s (k : Int) := by
  have hsz : T.size = e - k := by rw [hT]; simp; omega
  have h1 : ((T[0]'(by omega)).toNat : Int) = bt T 0 := btk T 0 (by omega)
  have h2 := btk s k (by omega)
  rw [← h1, ← h2]
  subst hT
  rw [ByteArray.getElem_extract]
  simp
/-- The token that begins with a letter. -/
def wordTok (s : ByteArray) (k : Nat) : Tok :=
  if isRes (s.extract k (runEnd isIn s k)) then (⟨4, s.extract k (runEnd isIn s k), 0, 0⟩, runEnd isIn s k, [])
  else if isSmall (bt s (k : Int)) then atomTok s k
  else if runEnd isIn s k - k > 255 then noTok [⟨nLex, k, 4⟩]
  else (⟨2, s.extract k (runEnd isIn s k), 0, 0⟩, runEnd isIn s k, [])

set_option maxRecDepth 100000 in
set_option maxHeartbeats 6000000 in
theorem lex_word (b : Nat) (s : ByteArray) (k : Nat) (hk : k < s.size) (hin : isIn (bt s (k : Int)) = true) (hm : s.size ≤ 140737488351232) (w : World) (hS : ScanAt w b s k) (hG : Glob w) :
    Calls Tryz.prog 128 #[.pointer (some ⟨b, 0, none⟩)] w (TokPost w (wordTok s k)) := by
  have hf := TokFrame.start hS hG
  obtain ⟨W1, hW1⟩ : ∃ W, W = w.alloc (.cells #[.int .i64 0, .string ⟨#[]⟩, .int .i64 0, .int .i64 0] 63) := ⟨_, rfl⟩
  rw [← hW1] at hf
  have HF := Lib.hid hf
  obtain ⟨⟨g1, g2, _⟩, ⟨r0, r1, r2, r3, f0, f1, f2, f3⟩, _, _, _, _, _⟩ := hf
  simp only [zTk] at r0 r1 r2 r3
  have hW := hW1.symm
  clear hS hG hW1
  have hgt : k < runEnd isIn s k := by
    rw [← runEnd_yes hk hin]
    have := runEnd_ge isIn s (k + 1)
    omega
  have hle := runEnd_le isIn s k (by omega)
  have hres := isResB_eq _ (word_plain s k)
  obtain ⟨R, hR⟩ : ∃ R, R = wordTok s k := ⟨_, rfl⟩
  rw [← hR]
  unfold wordTok at hR
  have HQ := Lib.hid (run_inWord b s k (by omega) hm)
  obtain ⟨E, hE⟩ : ∃ E, E = runEnd isIn s k := ⟨_, rfl⟩
  rw [← hE] at hR hres hgt hle HQ
  clear hE hin
  obtain ⟨T, hT⟩ : ∃ T, T = s.extract k E := ⟨_, rfl⟩
  have hsz : T.size = E - k := by rw [hT]; simp; omega
  have hb0 : bt T 0 = bt s (k : Int) := by
    exact ext_first hgt hle hT
  rw [← hT] at hR hres
  have HI := Lib.hid (fun w hG => lex_isReserved T (by omega) w hG)
  rw [hres] at HI
  have e1 : (k : Int) ≤ (E : Int) := by omega
  have e2 : (E : Int) ≤ (s.size : Int) := by omega
  have hTx := hT.symm
  clear hT hres
  have HR := Lib.hid hR
  clear hR
  cases hr : isRes T with
  | true =>
    have HQ2 : Hid (R = (⟨4, T, 0, 0⟩, E, [])) := Lib.hid (by rw [HR.out, hr, if_pos rfl])
    rw [hr] at HI
    go_enter Tryz.func128, Tryz.ntmps128
    go_wp2_with fail
    refine (HQ.out W1 g1).mono ?_
    rintro e w' ⟨rfl, rfl⟩
    go_wp2_with fail
    go_quiet (fail)
    go_wp2_with fail
    refine (HI.out _ (HF.out.drewN _).g).mono ?_
    rintro e w' ⟨rfl, rfl⟩
    go_wp2_with fail
    refine bodyPost_ret (res_tok rfl _ _ w.heap.size ⟨4, T, 0, 0⟩ (by rfl) ((HF.out.drewN _).tk.put ⟨4, T, 0, 0⟩)) rfl ?_
    rw [HQ2.out]
    exact (HF.out.drewN _).done (⟨4, T, 0, 0⟩, E, []) .nilIface rfl
  | false =>
    rw [hr] at HI
    have hT0 : ∀ h : 0 < T.size, ((T[0]'h).toNat : Int) = bt s (k : Int) := fun h => by rw [← hb0]; exact btk T 0 h
    have hT1 : 0 < T.size := by omega
    have hT2 : (T.size : Int) = (E : Int) - (k : Int) := by omega
    clear hsz hb0
    cases hsm : isSmall (bt s (k : Int)) with
    | true =>
      have HQ2 : Hid (R = atomTok s k) := Lib.hid (by rw [HR.out, hr, hsm]; rfl)
      go_enter Tryz.func128, Tryz.ntmps128
      go_wp2_with fail
      refine (HQ.out W1 g1).mono ?_
      rintro e w' ⟨rfl, rfl⟩
      go_wp2_with fail
      go_quiet (fail)
      go_wp2_with fail
      refine (HI.out _ (HF.out.drewN _).g).mono ?_
      rintro e w' ⟨rfl, rfl⟩
      go_wp2_with fail
      refine (lex_small _ _).mono ?_
      rintro e w' ⟨rfl, rfl⟩
      go_wp2_with fail
      refine (lex_atom b s k (by omega) hm _ (HF.out.drewN _).sc (HF.out.drewN _).g).mono ?_
      rintro e w2 ⟨v, rfl, hE, hB⟩
      obtain ⟨⟨⟨kd, tx, nm, at_⟩, n, l⟩, hR⟩ : ∃ r, r = atomTok s k := ⟨_, rfl⟩
      rw [← hR] at hE HQ2
      rw [← hR]
      have HE := Lib.hid hE
      have hF2 := (HF.out.drewN _).step hB
      have HF2 := Lib.hid hF2
      obtain ⟨_, ⟨t0, t1, t2, t3, u0, u1, u2, u3⟩, _, _, _, _, _⟩ := hF2
      clear hR hE hB r0 r1 r2 r3 f0 f1 f2 f3 g1 g2
      simp only [tkV]
      go_wp2_with fail
      refine bodyPost_ret (res_tok rfl _ _ w.heap.size ⟨kd, tx, nm, at_⟩ (by rfl) (HF2.out.tk.put ⟨kd, tx, nm, at_⟩)) rfl ?_
      rw [HQ2.out]
      exact HF2.out.done (⟨kd, tx, nm, at_⟩, n, l) v HE.out
    | false =>
      by_cases hlong : E - k > 255
      · have hd : decide ((T.size : Int) > 255) = true := decide_eq_true (by omega)
        have HQ2 : Hid (R = noTok [⟨nLex, k, 4⟩]) := Lib.hid (by rw [HR.out, hr, hsm, if_neg (by simp), if_neg (by simp), if_pos hlong])
        clear hlong hT2
        go_enter Tryz.func128, Tryz.ntmps128
        go_wp2_with fail
        refine (HQ.out W1 g1).mono ?_
        rintro e w' ⟨rfl, rfl⟩
        go_wp2_with fail
        go_quiet (fail)
        go_wp2_with fail
        refine (HI.out _ (HF.out.drewN _).g).mono ?_
        rintro e w' ⟨rfl, rfl⟩
        go_wp2_with fail
        refine (lex_small _ _).mono ?_
        rintro e w' ⟨rfl, rfl⟩
        go_wp2_with fail
        refine (lex_fault _ _ _ _ [] rfl).mono ?_
        rintro e w2 ⟨v, rfl, hE, hB⟩
        have HE := Lib.hid hE
        have hF2 := (HF.out.drewN _).step hB
        have HF2 := Lib.hid hF2
        obtain ⟨_, ⟨t0, t1, t2, t3, u0, u1, u2, u3⟩, _, _, _, _, _⟩ := hF2
        clear hE hB r0 r1 r2 r3 f0 f1 f2 f3 g1 g2
        go_wp2_with fail
        refine bodyPost_ret (res_tok rfl _ _ w.heap.size zTk (by rfl) (HF2.out.tk.put zTk)) rfl ?_
        rw [HQ2.out]
        exact HF2.out.done (noTok [⟨nLex, k, 4⟩]) v HE.out
      · have hd : decide ((T.size : Int) > 255) = false := decide_eq_false (by omega)
        have HQ2 : Hid (R = (⟨2, T, 0, 0⟩, E, [])) := Lib.hid (by rw [HR.out, hr, hsm, if_neg (by simp), if_neg (by simp), if_neg hlong])
        clear hlong hT2
        go_enter Tryz.func128, Tryz.ntmps128
        go_wp2_with fail
        refine (HQ.out W1 g1).mono ?_
        rintro e w' ⟨rfl, rfl⟩
        go_wp2_with fail
        go_quiet (fail)
        go_wp2_with fail
        refine (HI.out _ (HF.out.drewN _).g).mono ?_
        rintro e w' ⟨rfl, rfl⟩
        go_wp2_with fail
        refine (lex_small _ _).mono ?_
        rintro e w' ⟨rfl, rfl⟩
        go_wp2_with fail
        refine bodyPost_ret (res_tok rfl _ _ w.heap.size ⟨2, T, 0, 0⟩ (by rfl) ((HF.out.drewN _).tk.put ⟨2, T, 0, 0⟩)) rfl ?_
        rw [HQ2.out]
        exact (HF.out.drewN _).done (⟨2, T, 0, 0⟩, E, []) .nilIface rfl
end Go.Proofs.YtgapeacflkfmdaaGreatDoor
namespace Go.Proofs.YtgapeacflkfmdaaGreatDoor
open Go.RowKit Go.Proofs.YtgapeacflkfmdaaGreatDoorW.PrintWords

/-- The number that a text tells in a base, up to the greatest int of a term. -/
def numVal (b : Int) (s : ByteArray) : Option Int := if s.size = 0 then none else parseN b 576460752303423487 0 (bs s)
theorem numVal_eq (b : Int) (hb : 1 ≤ b) (s : ByteArray) : numVal b s = (intN b s).bind fun v => if v ≤ 576460752303423487 then some v else none := by
  rw [intN_eq b hb]
  unfold numVal
  split
  · rfl
  · exact parseN_cut hb (by decide) _ _ (by decide) (by decide)
/-- A base: a number from 2 to 36. -/
def baseOf (s : ByteArray) : Option Int := (numVal 10 s).bind fun n => if 2 ≤ n ∧ n ≤ 36 then some n else none
theorem baseOf_eq (s : ByteArray) : baseOf s = (intN 10 s).bind fun n => if 2 ≤ n ∧ n ≤ 36 then some n else none := by
  unfold baseOf
  rw [numVal_eq 10 (by decide)]
  cases intN 10 s with
  | none => rfl
  | some v =>
    simp only [Option.bind_some]
    by_cases h : v ≤ 576460752303423487
    · rw [if_pos h]; rfl
    · rw [if_neg h, if_neg (by omega)]; rfl
def numEnd (k : Nat) (e : Nat) : Option Int → Tok
  | some v => (⟨3, ⟨#[]⟩, v, 0⟩, e, [])
  | none => noTok [⟨nLex, k, 201⟩]
/-- The number that begins at k. -/
def numTok (s : ByteArray) (k : Nat) : Tok :=
  if runEnd isDigit s k < s.size ∧ bt s (runEnd isDigit s k : Nat) = 35 then
    match baseOf (s.extract k (runEnd isDigit s k)) with
    | some n => numEnd k (runEnd isAlnum s (runEnd isDigit s k + 1)) (numVal n (s.extract (runEnd isDigit s k + 1) (runEnd isAlnum s (runEnd isDigit s k + 1))))
    | none => noTok [⟨nLex, k, 201⟩]
  else numEnd k (runEnd isDigit s k) (numVal 10 (s.extract k (runEnd isDigit s k)))

theorem bt_out {s : ByteArray} {k : Nat} (h : s.size ≤ k) : bt s (k : Int) = 0 := by
  unfold bt
  rw [dif_neg (by simp; omega)]
/-- A run's text does not begin with a sign. -/
theorem run_sign {p : Int → Bool} (h1 : p 43 = false) (h2 : p 45 = false) (s : ByteArray) (k : Nat) (hk : k ≤ s.size) : bt (s.extract k (runEnd p s k)) 0 ≠ 43 ∧ bt (s.extract k (runEnd p s k)) 0 ≠ 45 := by
  have hle := runEnd_le p s k hk
  by_cases h : k < runEnd p s k
  · have h3 := ext_first h hle rfl
    have h4 := run_all (Nat.le_refl k) h (by omega)
    rw [h3]
    constructor <;> intro e <;> rw [e] at h4 <;> simp_all
  · have h5 : (s.extract k (runEnd p s k)).size = 0 := by simp; omega
    have := bt_out (s := s.extract k (runEnd p s k)) (k := 0) (by omega)
    simp only [Int.natCast_zero] at this
    rw [this]
    decide

set_option maxRecDepth 100000 in
set_option maxHeartbeats 6000000 in
theorem lex_number (b : Nat) (s : ByteArray) (k : Nat) (hk : k ≤ s.size) (hm : s.size ≤ 140737488351232) (w : World) (hS : ScanAt w b s k) (hG : Glob w) :
    Calls Tryz.prog 130 #[.pointer (some ⟨b, 0, none⟩)] w (TokPost w (numTok s k)) := by
  have hf := TokFrame.start hS hG
  obtain ⟨W1, hW1⟩ : ∃ W, W = w.alloc (.cells #[.int .i64 0, .string ⟨#[]⟩, .int .i64 0, .int .i64 0] 63) := ⟨_, rfl⟩
  rw [← hW1] at hf
  have HF := Lib.hid hf
  obtain ⟨⟨g1, g2, _⟩, _, _, _, _, _, _⟩ := hf
  have hW := hW1.symm
  clear hS hG hW1
  have hge := runEnd_ge isDigit s k
  have hle := runEnd_le isDigit s k (by omega)
  have hsg := run_sign (p := isDigit) rfl rfl s k hk
  obtain ⟨R, hR⟩ : ∃ R, R = numTok s k := ⟨_, rfl⟩
  rw [← hR]
  unfold numTok at hR
  have HD := Lib.hid (run_digit b s k (by omega) hm)
  obtain ⟨E, hE⟩ : ∃ E, E = runEnd isDigit s k := ⟨_, rfl⟩
  rw [← hE] at hR hge hle HD hsg
  clear hE
  obtain ⟨T, hT⟩ : ∃ T, T = s.extract k E := ⟨_, rfl⟩
  have hsz : T.size ≤ 140737488351232 := by rw [hT]; simp; omega
  rw [← hT] at hR hsg
  have hTx := hT.symm
  have e1 : (k : Int) ≤ (E : Int) := by omega
  have e2 : (E : Int) ≤ (s.size : Int) := by omega
  clear hT
  have HR := Lib.hid hR
  clear hR
  have HA := Lib.hid (strconv_Atoi_any T hsz hsg.1 hsg.2)
  have HP := Lib.hid (fun b hb0 hb1 => strconv_ParseInt T b hb0 hb1 hsz hsg.1 hsg.2)
  clear hsz hsg
  go_enter Tryz.func130, Tryz.ntmps130
  go_wp2_with fail
  refine (lex_fault _ _ _ _ [] rfl).mono ?_
  rintro e w2 ⟨wv, rfl, hE, hB⟩
  have HE := Lib.hid hE
  have hF2 := HF.out.step hB
  have HF2 := Lib.hid hF2
  obtain ⟨⟨t1, t2, _⟩, ⟨r0, r1, r2, r3, f0, f1, f2, f3⟩, _, _, _, _, _⟩ := hF2
  simp only [zTk] at r0 r1 r2 r3
  clear hE hB g1 g2
  go_wp2_with fail
  refine (HD.out w2 t1).mono ?_
  rintro e w' ⟨rfl, rfl⟩
  go_wp2_with fail
  go_quiet (fail)
  by_cases h35 : E < s.size ∧ bt s (E : Int) = 35
  · have q1 : (E : Int) < (s.size : Int) := by omega
    have hb := btk s E
    have q2 : (bt s (E : Int) == 35) = true := beq_iff_eq.2 h35.2
    have q3 : E < s.size := h35.1
    have HR2 := Lib.hid (HR.out.trans (if_pos h35))
    clear h35
    go_wp2_with fail
    refine (HA.out _ (HF2.out.drewN _).g).mono ?_
    rintro e w3 ⟨n, v3, h3, rfl, hB3⟩
    have HE3 := Lib.hid ((HE.out.below (below_drewN _ _ _)).below hB3)
    have hF3 := (HF2.out.drewN _).step hB3
    have HF3 := Lib.hid hF3
    obtain ⟨⟨t1, t2, _⟩, ⟨r0, r1, r2, r3, f0, f1, f2, f3⟩, _, _, _, _, _⟩ := hF3
    simp only [zTk] at r0 r1 r2 r3
    clear hB3
    rcases h3 with ⟨hr3, rfl⟩ | ⟨hr3, tt, pp, rfl⟩
    · by_cases hn2 : n < 2
      · have hd : decide (n < 2) = true := decide_eq_true hn2
        have HQ : Hid (R = noTok [⟨nLex, k, 201⟩]) := Lib.hid (by rw [HR2.out, baseOf_eq, hr3]; simp only [Option.bind_some]; rw [if_neg (by omega)])
        clear hr3 hn2
        go_wp2_with fail
        refine bodyPost_ret (res_tok rfl _ _ w.heap.size zTk (by rfl) (HF3.out.tk.put zTk)) rfl ?_
        rw [HQ.out]
        exact HF3.out.done (noTok [⟨nLex, k, 201⟩]) wv HE3.out
      · have hd : decide (n < 2) = false := decide_eq_false hn2
        by_cases hn36 : n > 36
        · have hd2 : decide (n > 36) = true := decide_eq_true hn36
          have HQ : Hid (R = noTok [⟨nLex, k, 201⟩]) := Lib.hid (by rw [HR2.out, baseOf_eq, hr3]; simp only [Option.bind_some]; rw [if_neg (by omega)])
          clear hr3 hn2 hn36
          go_wp2_with fail
          refine bodyPost_ret (res_tok rfl _ _ w.heap.size zTk (by rfl) (HF3.out.tk.put zTk)) rfl ?_
          rw [HQ.out]
          exact HF3.out.done (noTok [⟨nLex, k, 201⟩]) wv HE3.out
        · have hd2 : decide (n > 36) = false := decide_eq_false hn36
          have HQ3 := HR2.out
          rw [baseOf_eq, hr3] at HQ3
          simp only [Option.bind_some] at HQ3
          rw [if_pos (show 2 ≤ n ∧ n ≤ 36 from ⟨by omega, by omega⟩)] at HQ3
          simp only at HQ3
          have hgF := runEnd_ge isAlnum s (E + 1)
          have hlF := runEnd_le isAlnum s (E + 1) (by omega)
          have hsF := run_sign (p := isAlnum) rfl rfl s (E + 1) (by omega)
          have HD2 := Lib.hid (run_alnum b s (E + 1) (by omega) hm)
          obtain ⟨F, hF⟩ : ∃ F, F = runEnd isAlnum s (E + 1) := ⟨_, rfl⟩
          rw [← hF] at HQ3 hgF hlF hsF HD2
          clear hF
          obtain ⟨U, hU⟩ : ∃ U, U = s.extract (E + 1) F := ⟨_, rfl⟩
          have hszU : U.size ≤ 140737488351232 := by rw [hU]; simp; omega
          rw [← hU] at HQ3 hsF
          have HP2 := Lib.hid (fun w g => strconv_ParseInt U n (by omega) (by omega) hszU hsF.1 hsF.2 w g)
          have hUx := hU.symm
          have HR3 := Lib.hid HQ3
          have e3 : ((E + 1 : Nat) : Int) = (E : Int) + 1 := by omega
          have e4 : (E : Int) + 1 ≤ (F : Int) := by omega
          have e5 : (F : Int) ≤ (s.size : Int) := by omega
          rw [e3] at HD2
          clear hU HQ3 hszU hsF hr3
          go_wp2_with fail
          refine (HD2.out _ t1).mono ?_
          rintro e w' ⟨rfl, rfl⟩
          go_wp2_with fail
          go_quiet (fail)
          go_wp2_with fail
          refine (HP2.out _ (HF3.out.drewN _).g).mono ?_
          rintro e w9 ⟨v9, u9, h9, rfl, hB9⟩
          have HE9 := Lib.hid ((HE3.out.below (below_drewN _ _ _)).below hB9)
          have hF9 := (HF3.out.drewN _).step hB9
          have HF9 := Lib.hid hF9
          obtain ⟨_, ⟨r0, r1, r2, r3, f0, f1, f2, f3⟩, _, _, _, _, _⟩ := hF9
          simp only [zTk] at r0 r1 r2 r3
          clear hB9
          rcases h9 with ⟨hr9, rfl⟩ | ⟨hr9, tt, pp, rfl⟩
          · by_cases hbig : v9 ≤ 576460752303423487
            · have hd : decide (v9 > 576460752303423487) = false := decide_eq_false (by omega)
              have HQ : Hid (R = (⟨3, ⟨#[]⟩, v9, 0⟩, F, [])) := Lib.hid (by rw [HR3.out, numVal_eq _ (by omega), hr9]; simp only [Option.bind_some]; rw [if_pos hbig]; rfl)
              clear hr9 hbig
              go_wp2_with fail
              refine bodyPost_ret (res_tok rfl _ _ w.heap.size ⟨3, ⟨#[]⟩, v9, 0⟩ (by rfl) (HF9.out.tk.put ⟨3, ⟨#[]⟩, v9, 0⟩)) rfl ?_
              rw [HQ.out]
              exact HF9.out.done (⟨3, ⟨#[]⟩, v9, 0⟩, F, []) .nilIface rfl
            · have hd : decide (v9 > 576460752303423487) = true := decide_eq_true (by omega)
              have HQ : Hid (R = noTok [⟨nLex, k, 201⟩]) := Lib.hid (by rw [HR3.out, numVal_eq _ (by omega), hr9]; simp only [Option.bind_some]; rw [if_neg hbig]; rfl)
              clear hr9 hbig
              go_wp2_with fail
              refine bodyPost_ret (res_tok rfl _ _ w.heap.size zTk (by rfl) (HF9.out.tk.put zTk)) rfl ?_
              rw [HQ.out]
              exact HF9.out.done (noTok [⟨nLex, k, 201⟩]) wv HE9.out
          · have HQ : Hid (R = noTok [⟨nLex, k, 201⟩]) := Lib.hid (by rw [HR3.out, numVal_eq _ (by omega), hr9]; rfl)
            clear hr9
            go_wp2_with fail
            refine bodyPost_ret (res_tok rfl _ _ w.heap.size zTk (by rfl) (HF9.out.tk.put zTk)) rfl ?_
            rw [HQ.out]
            exact HF9.out.done (noTok [⟨nLex, k, 201⟩]) wv HE9.out
    · have HQ : Hid (R = noTok [⟨nLex, k, 201⟩]) := Lib.hid (by rw [HR2.out, baseOf_eq, hr3]; rfl)
      clear hr3
      go_wp2_with fail
      refine bodyPost_ret (res_tok rfl _ _ w.heap.size zTk (by rfl) (HF3.out.tk.put zTk)) rfl ?_
      rw [HQ.out]
      exact HF3.out.done (noTok [⟨nLex, k, 201⟩]) wv HE3.out
  · have HR3 := Lib.hid (HR.out.trans (if_neg h35))
    by_cases q3 : E < s.size
    · have q1 : (E : Int) < (s.size : Int) := by omega
      have hb := btk s E
      have q2 : (bt s (E : Int) == 35) = false := beq_eq_false_iff_ne.2 fun h => h35 ⟨q3, h⟩
      clear h35
      go_wp2_with fail
      refine (HP.out 10 (by decide) (by decide) _ (HF2.out.drewN _).g).mono ?_
      rintro e w9 ⟨v9, u9, h9, rfl, hB9⟩
      have HE9 := Lib.hid ((HE.out.below (below_drewN _ _ _)).below hB9)
      have hF9 := (HF2.out.drewN _).step hB9
      have HF9 := Lib.hid hF9
      obtain ⟨_, ⟨r0, r1, r2, r3, f0, f1, f2, f3⟩, _, _, _, _, _⟩ := hF9
      simp only [zTk] at r0 r1 r2 r3
      clear hB9
      rcases h9 with ⟨hr9, rfl⟩ | ⟨hr9, tt, pp, rfl⟩
      · by_cases hbig : v9 ≤ 576460752303423487
        · have hd : decide (v9 > 576460752303423487) = false := decide_eq_false (by omega)
          have HQ : Hid (R = (⟨3, ⟨#[]⟩, v9, 0⟩, E, [])) := Lib.hid (by rw [HR3.out, numVal_eq _ (by omega), hr9]; simp only [Option.bind_some]; rw [if_pos hbig]; rfl)
          clear hr9 hbig
          go_wp2_with fail
          refine bodyPost_ret (res_tok rfl _ _ w.heap.size ⟨3, ⟨#[]⟩, v9, 0⟩ (by rfl) (HF9.out.tk.put ⟨3, ⟨#[]⟩, v9, 0⟩)) rfl ?_
          rw [HQ.out]
          exact HF9.out.done (⟨3, ⟨#[]⟩, v9, 0⟩, E, []) .nilIface rfl
        · have hd : decide (v9 > 576460752303423487) = true := decide_eq_true (by omega)
          have HQ : Hid (R = noTok [⟨nLex, k, 201⟩]) := Lib.hid (by rw [HR3.out, numVal_eq _ (by omega), hr9]; simp only [Option.bind_some]; rw [if_neg hbig]; rfl)
          clear hr9 hbig
          go_wp2_with fail
          refine bodyPost_ret (res_tok rfl _ _ w.heap.size zTk (by rfl) (HF9.out.tk.put zTk)) rfl ?_
          rw [HQ.out]
          exact HF9.out.done (noTok [⟨nLex, k, 201⟩]) wv HE9.out
      · have HQ : Hid (R = noTok [⟨nLex, k, 201⟩]) := Lib.hid (by rw [HR3.out, numVal_eq _ (by omega), hr9]; rfl)
        clear hr9
        go_wp2_with fail
        refine bodyPost_ret (res_tok rfl _ _ w.heap.size zTk (by rfl) (HF9.out.tk.put zTk)) rfl ?_
        rw [HQ.out]
        exact HF9.out.done (noTok [⟨nLex, k, 201⟩]) wv HE9.out
    · have q1 : decide ((E : Int) < (s.size : Int)) = false := decide_eq_false (by omega)
      clear h35
      go_wp2_with fail
      refine (HP.out 10 (by decide) (by decide) _ (HF2.out.drewN _).g).mono ?_
      rintro e w9 ⟨v9, u9, h9, rfl, hB9⟩
      have HE9 := Lib.hid ((HE.out.below (below_drewN _ _ _)).below hB9)
      have hF9 := (HF2.out.drewN _).step hB9
      have HF9 := Lib.hid hF9
      obtain ⟨_, ⟨r0, r1, r2, r3, f0, f1, f2, f3⟩, _, _, _, _, _⟩ := hF9
      simp only [zTk] at r0 r1 r2 r3
      clear hB9
      rcases h9 with ⟨hr9, rfl⟩ | ⟨hr9, tt, pp, rfl⟩
      · by_cases hbig : v9 ≤ 576460752303423487
        · have hd : decide (v9 > 576460752303423487) = false := decide_eq_false (by omega)
          have HQ : Hid (R = (⟨3, ⟨#[]⟩, v9, 0⟩, E, [])) := Lib.hid (by rw [HR3.out, numVal_eq _ (by omega), hr9]; simp only [Option.bind_some]; rw [if_pos hbig]; rfl)
          clear hr9 hbig
          go_wp2_with fail
          refine bodyPost_ret (res_tok rfl _ _ w.heap.size ⟨3, ⟨#[]⟩, v9, 0⟩ (by rfl) (HF9.out.tk.put ⟨3, ⟨#[]⟩, v9, 0⟩)) rfl ?_
          rw [HQ.out]
          exact HF9.out.done (⟨3, ⟨#[]⟩, v9, 0⟩, E, []) .nilIface rfl
        · have hd : decide (v9 > 576460752303423487) = true := decide_eq_true (by omega)
          have HQ : Hid (R = noTok [⟨nLex, k, 201⟩]) := Lib.hid (by rw [HR3.out, numVal_eq _ (by omega), hr9]; simp only [Option.bind_some]; rw [if_neg hbig]; rfl)
          clear hr9 hbig
          go_wp2_with fail
          refine bodyPost_ret (res_tok rfl _ _ w.heap.size zTk (by rfl) (HF9.out.tk.put zTk)) rfl ?_
          rw [HQ.out]
          exact HF9.out.done (noTok [⟨nLex, k, 201⟩]) wv HE9.out
      · have HQ : Hid (R = noTok [⟨nLex, k, 201⟩]) := Lib.hid (by rw [HR3.out, numVal_eq _ (by omega), hr9]; rfl)
        clear hr9
        go_wp2_with fail
        refine bodyPost_ret (res_tok rfl _ _ w.heap.size zTk (by rfl) (HF9.out.tk.put zTk)) rfl ?_
        rw [HQ.out]
        exact HF9.out.done (noTok [⟨nLex, k, 201⟩]) wv HE9.out
end Go.Proofs.YtgapeacflkfmdaaGreatDoor
