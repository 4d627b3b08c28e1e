/-
  The walk of LexFirst.
-/
import Derived.Test.YtpjmjogkkgbblaaGreatDoorG16
namespace Go.Proofs.YtpjmjogkkgbblaaGreatDoor
open Go.RowKit Go.Proofs.YtpjmjogkkgbblaaGreatDoorW.PrintWords

theorem same_self (l : List Tk) (p : Bool) : sameTks p l l = true := sameTks_refl p l
/-- The first link of a chain of the call's own. -/
theorem lk_form {W : World} {base : Nat} {ok : Nat → Prop} {v : Value} {y : Lk} {ys : List Lk} (h : kLk.R 50 W base ok v (y :: ys)) :
    ∃ g c : Nat, v = .slice (some ⟨g, 0, none⟩) (ys.length + 1) c ∧ W.cell? ⟨g, 1, none⟩ = some (.int .i64 y.pl) := by
  obtain ⟨A, c, rfl, _, hC⟩ := Kd.R_reads h
  obtain ⟨inner, ho⟩ := Kd.R_own h
  obtain ⟨g, cap, hv, hg1, hg2⟩ := ho.form (by simp)
  have hA : A = some ⟨g, 0, none⟩ := by injection hv
  subst hA
  refine ⟨g, c, rfl, ?_⟩
  obtain ⟨ad, had, h0, h1, h2⟩ := atLk hC 0 (Int.le_refl _) (by simp)
  injection had with had
  subst had
  exact h1
set_option maxRecDepth 100000 in
set_option maxHeartbeats 4000000 in
theorem walk_LexFirst (s more : ByteArray) (hm : s.size ≤ 140737488351232) (hm2 : more.size ≤ 140737488351232) (w : World) (hG : Glob w) :
    Calls Tryz.prog 6 #[.string s, .string more] w (TruePost w) := by
  have HG := Lib.hid hG
  have hnone := lexScan_none s
  have HS := Lib.hid (lex_Scan s hm)
  have hlaw := @lex_first s more
  rcases hR : lexScan s with ⟨L, E⟩
  rw [hR] at HS hnone hlaw
  clear hG hR
  cases E with
  | cons x xs =>
    obtain rfl : L = [] := hnone (by simp)
    clear hnone hlaw
    go_enter Tryz.func6, Tryz.ntmps6
    go_wp2_with fail
    refine (HS.out _ HG.out).mono ?_
    rintro e w1 ⟨lv, ev, rfl, hL, hE, hB1⟩
    obtain ⟨be, u, rfl, _⟩ := hE
    obtain ⟨A0, c0, rfl, _, _⟩ := Kd.R_reads hL
    have HG1 := Lib.hid (HG.out.below hB1)
    have HB1 := Lib.hid hB1
    clear hL hB1
    go_wp2_with fail
    refine (awake_any _ HG1.out).mono ?_
    rintro e w2 ⟨rfl, hB2⟩
    have HG2 := Lib.hid (HG1.out.below hB2)
    have HB2 := Lib.hid (trans_below HB1.out hB2)
    clear hB2
    go_wp2_with fail
    refine (awake_any _ HG2.out).mono ?_
    rintro e w3 ⟨rfl, hB3⟩
    have HB3 := Lib.hid (trans_below HB2.out hB3)
    clear hB3
    go_wp2_with fail
    go_ret
    exact ⟨rfl, HB3.out⟩
  | nil =>
    have s1 : IntKind.i64.wrap ((s.size : Int) + 1) = (s.size : Int) + 1 := wrap_small _ (by omega) (by omega)
    have s2 : IntKind.i64.wrap ((s.size : Int) + 1 + (more.size : Int)) = (s.size : Int) + 1 + (more.size : Int) := wrap_small _ (by omega) (by omega)
    by_cases hbig : 65536 < s.size + 1 + more.size
    · have d1 : decide ((s.size : Int) + 1 + (more.size : Int) > 65536) = true := decide_eq_true (by omega)
      clear hnone hlaw hbig
      go_enter Tryz.func6, Tryz.ntmps6
      go_wp2_with fail
      refine (HS.out _ HG.out).mono ?_
      rintro e w1 ⟨lv, ev, rfl, hL, hE, hB1⟩
      obtain rfl : ev = .nilIface := hE
      have HG1 := Lib.hid (HG.out.below hB1)
      have HB1 := Lib.hid hB1
      clear hL hB1
      go_wp2_with fail
      refine (awake_any _ HG1.out).mono ?_
      rintro e w2 ⟨rfl, hB2⟩
      have HB2 := Lib.hid (trans_below HB1.out hB2)
      clear hB2
      go_wp2_with fail
      go_ret
      exact ⟨rfl, HB2.out⟩
    · have d1 : decide ((s.size : Int) + 1 + (more.size : Int) > 65536) = false := decide_eq_false (by omega)
      have hlaw2 := hlaw rfl (by omega)
      have hu : (s ++ (⟨#[10]⟩ : ByteArray) ++ more).size = s.size + 1 + more.size := by simp [ByteArray.size_append]; rfl
      have HS2 := Lib.hid (lex_Scan (s ++ (⟨#[10]⟩ : ByteArray) ++ more) (by omega))
      have hnone2 := lexScan_none (s ++ (⟨#[10]⟩ : ByteArray) ++ more)
      have hlen2 := lexScan_len (s ++ (⟨#[10]⟩ : ByteArray) ++ more)
      rcases hR2 : lexScan (s ++ (⟨#[10]⟩ : ByteArray) ++ more) with ⟨M, E2⟩
      rw [hR2] at HS2 hlaw2 hnone2 hlen2
      clear hnone hlaw hbig hR2 hu
      cases E2 with
      | cons y ys =>
        obtain rfl : M = [] := hnone2 (by simp)
        have hy := hlaw2.2 y ys rfl
        have d2 : decide (y.pl > (s.size : Int)) = true := decide_eq_true hy
        clear hlaw2 hnone2 hy
        go_enter Tryz.func6, Tryz.ntmps6
        go_wp2_with fail
        refine (HS.out _ HG.out).mono ?_
        rintro e w1 ⟨lv, ev, rfl, hL, hE, hB1⟩
        obtain rfl : ev = .nilIface := hE
        have HG1 := Lib.hid (HG.out.below hB1)
        have HB1 := Lib.hid hB1
        clear hL hB1
        go_wp2_with fail
        refine (awake_any _ HG1.out).mono ?_
        rintro e w2 ⟨rfl, hB2⟩
        have HG2 := Lib.hid (HG1.out.below hB2)
        have HB2 := Lib.hid (trans_below HB1.out hB2)
        clear hB2
        go_wp2_with fail
        refine (HS2.out _ HG2.out).mono ?_
        rintro e w3 ⟨mv, fv, rfl, hM, hF, hB3⟩
        have HF := Lib.hid hF
        obtain ⟨be, u, rfl, _⟩ := hF
        obtain ⟨A0, c0, rfl, _, _⟩ := Kd.R_reads hM
        have HG3 := Lib.hid (HG2.out.below hB3)
        have HB3 := Lib.hid (trans_below HB2.out hB3)
        clear hM hB3
        go_wp2_with fail
        refine (Chain_in (y :: ys) _ HF.out (Nat.le_trans hlen2 (by decide)) HG3.out).mono ?_
        rintro e w4 ⟨cv, rfl, hC, hB4⟩
        obtain ⟨g, c1, rfl, hp⟩ := lk_form hC
        have hlp : decide (((ys.length + 1 : Nat) : Int) > 0) = true := decide_eq_true (by omega)
        have HB4 := Lib.hid (trans_below HB3.out hB4)
        clear hC hB4 hlen2
        go_wp2_with fail
        go_ret
        exact ⟨rfl, HB4.out⟩
      | nil =>
        obtain ⟨R, hMR⟩ := hlaw2.1 rfl
        simp only at hMR
        subst hMR
        clear hlaw2 hnone2 hlen2
        go_enter Tryz.func6, Tryz.ntmps6
        go_wp2_with fail
        refine (HS.out _ HG.out).mono ?_
        rintro e w1 ⟨lv, ev, rfl, hL, hE, hB1⟩
        obtain rfl : ev = .nilIface := hE
        have HG1 := Lib.hid (HG.out.below hB1)
        have HL := Lib.hid hL
        have HB1 := Lib.hid hB1
        clear hL hB1
        go_wp2_with fail
        refine (awake_any _ HG1.out).mono ?_
        rintro e w2 ⟨rfl, hB2⟩
        have HG2 := Lib.hid (HG1.out.below hB2)
        have HB2 := Lib.hid (trans_below HB1.out hB2)
        have HL2 := Lib.hid (Kd.R_below HL.out hB2)
        clear hB2 HL
        go_wp2_with fail
        refine (HS2.out _ HG2.out).mono ?_
        rintro e w3 ⟨mv, fv, rfl, hM, hF, hB3⟩
        obtain rfl : fv = .nilIface := hF
        obtain ⟨A0, c0, rfl, hc0, hC0⟩ := Kd.R_reads (Kd.R_below HL2.out hB3)
        obtain ⟨A1, c1, rfl, hc1, hC1⟩ := Kd.R_reads hM
        have HC0 := Lib.hid hC0
        have HC1 := Lib.hid (Kd.C_take hC1 (m := L.length) (by simp))
        have HL0 := Lib.hid hc0
        have HL1 := Lib.hid hc1
        have HB3 := Lib.hid (trans_below HB2.out hB3)
        obtain ⟨N, hN⟩ : ∃ N, N = (L ++ R).length := ⟨_, rfl⟩
        have hle : L.length ≤ N := by rw [hN]; simp
        have hge : decide ((N : Int) ≥ (L.length : Int)) = true := decide_eq_true (by omega)
        have hle2 : L.length ≤ c1 := by rw [← hN] at hc1; omega
        rw [← hN]
        clear hN
        clear hM hB3 hC0 hC1 hc0 hc1 HL2
        go_wp2_with fail
        refine (ref10_Same true _ _ A1 A0 c1 c0 _ (by have := HC1.out; rwa [List.take_left] at this) hle2 HC0.out HL0.out).mono ?_
        rw [sameTks_refl]
        rintro e w4 ⟨rfl, hD⟩
        have HB4 := Lib.hid (trans_below HB3.out hD.below)
        clear hD
        go_wp2_with fail
        go_ret
        exact ⟨rfl, HB4.out⟩
end Go.Proofs.YtpjmjogkkgbblaaGreatDoor
