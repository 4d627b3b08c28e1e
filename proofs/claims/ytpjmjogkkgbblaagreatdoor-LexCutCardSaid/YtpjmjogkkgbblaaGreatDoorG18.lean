/-
  The walk of LexCut.
-/
import Derived.Test.YtpjmjogkkgbblaaGreatDoorG16
import Derived.Lib.ItoaLen
namespace Go.Proofs.YtpjmjogkkgbblaaGreatDoor
open Go.RowKit Go.Proofs.YtpjmjogkkgbblaaGreatDoorW.PrintWords

theorem flat_le (s : ByteArray) : (quoteOf s).length ≤ 2 + 4 * s.size := by
  have := flat_len (bs s)
  rw [bs_len] at this
  unfold quoteOf
  simp only [List.length_cons, List.length_append, List.length_nil]
  omega
/-- What can be written is small. -/
theorem wr_lim {t : Tk} (h : (wrTok t).2 = []) : (wrTok t).1.size ≤ 2000 ∧ t.tx.size ≤ 2000 ∧ 0 ≤ t.nm ∧ t.nm ≤ 576460752303423487 := by
  obtain ⟨kd, tx, nm, at_⟩ := t
  unfold wrTok at h ⊢
  simp only at h ⊢
  have bad : badArg.2 = [] → False := by
    intro hb
    unfold badArg at hb
    simp at hb
  have hres : isRes tx = true → tx.size ≤ 2000 := by
    intro hr
    obtain ⟨r, hr2, rfl⟩ := isRes_yes hr
    have hall : (resList.all fun r => decide (r.length ≤ 2000)) = true := by decide +kernel
    have := List.all_eq_true.1 hall r hr2
    exact of_decide_eq_true this
  have hsig : Lib.containsS signList tx = true → tx.size ≤ 2000 := by
    intro hr
    have hm := (Lib.containsS_iff _ _).1 hr
    have hall : (signList.all fun r => decide (r.size ≤ 2000)) = true := by decide +kernel
    have := List.all_eq_true.1 hall tx hm
    exact of_decide_eq_true this
  by_cases k1 : kd = 1
  · rw [if_pos k1] at h ⊢
    by_cases hc : nm = 0 ∧ (quoted tx).2 = []
    · rw [if_pos hc]
      have hq := hc.2
      have hf := flat_le tx
      unfold quoted at hq ⊢
      by_cases g1 : tx.size > 255
      · rw [if_pos g1] at hq
        cases hq
      · rw [if_neg g1] at hq ⊢
        by_cases g2 : 0 ≤ utfBad tx 0
        · rw [if_pos g2] at hq
          cases hq
        · rw [if_neg g2]
          refine ⟨?_, by omega, by omega, by omega⟩
          split
          · simp only; omega
          · simp only [strOfNums_size]; omega
    · rw [if_neg hc] at h
      exact (bad h).elim
  · rw [if_neg k1] at h ⊢
    by_cases k3 : kd = 3
    · rw [if_pos k3] at h ⊢
      by_cases hc : tx.size = 0 ∧ 0 ≤ nm ∧ nm ≤ 576460752303423487
      · rw [if_pos hc]
        have := Lib.itoa_length_le nm (by omega) (by omega)
        refine ⟨?_, by omega, hc.2.1, hc.2.2⟩
        show (Lib.itoa nm).length ≤ 2000
        omega
      · rw [if_neg hc] at h
        exact (bad h).elim
    · rw [if_neg k3] at h ⊢
      by_cases k6 : kd = 6
      · rw [if_pos k6] at h ⊢
        by_cases hc : tx.size = 0 ∧ nm = 0
        · rw [if_pos hc]
          refine ⟨by show 1 ≤ 2000; decide, by omega, by omega, by omega⟩
        · rw [if_neg hc] at h
          exact (bad h).elim
      · rw [if_neg k6] at h ⊢
        by_cases kn : nm ≠ 0
        · rw [if_pos kn] at h
          exact (bad h).elim
        · rw [if_neg kn] at h ⊢
          by_cases k2 : kd = 2
          · rw [if_pos k2] at h ⊢
            by_cases hc : isVar tx = true
            · rw [if_pos hc]
              unfold isVar at hc
              simp only [Bool.and_eq_true, decide_eq_true_eq] at hc
              exact ⟨show tx.size ≤ 2000 by omega, by omega, by omega, by omega⟩
            · rw [if_neg hc] at h
              exact (bad h).elim
          · rw [if_neg k2] at h ⊢
            by_cases k4 : kd = 4
            · rw [if_pos k4] at h ⊢
              by_cases hc : isRes tx = true
              · rw [if_pos hc]
                exact ⟨hres hc, hres hc, by omega, by omega⟩
              · rw [if_neg hc] at h
                exact (bad h).elim
            · rw [if_neg k4] at h ⊢
              by_cases k5 : kd = 5
              · rw [if_pos k5] at h ⊢
                by_cases hc : Lib.containsS signList tx = true
                · rw [if_pos hc]
                  exact ⟨hsig hc, hsig hc, by omega, by omega⟩
                · rw [if_neg hc] at h
                  exact (bad h).elim
              · rw [if_neg k5] at h
                exact (bad h).elim
/-- Where token i ends: at the next one, or at the text's end. -/
def toOf (s : ByteArray) (L : List Tk) (i : Nat) : Int := if i + 1 < L.length then (L.getD (i + 1) zTk).at_ else s.size
/-- What LexCut asks of token i. -/
structure CutOk (s : ByteArray) (t : Tk) (z : Int) : Prop where
  a0 : 0 ≤ t.at_
  lt : t.at_ < z
  le : z ≤ s.size
  sc : lexScan (s.extract t.at_.toNat z.toNat) = ([⟨t.kd, t.tx, t.nm, 0⟩], [])
  wr : (wrTok t).2 = []
  ws : lexScan (wrTok t).1 = ([⟨t.kd, t.tx, t.nm, 0⟩], [])
theorem wrTok_at (k : Int) (x : ByteArray) (n a b : Int) : wrTok ⟨k, x, n, a⟩ = wrTok ⟨k, x, n, b⟩ := rfl
theorem cut_all {s : ByteArray} (hs : s.size ≤ 65536) {p : Nat} {M : List Tk} (h : Tr s p M) : p ≤ s.size → ∀ i : Nat, i < M.length → CutOk s (M.getD i zTk) (toOf s M i) := by
  induction h with
  | nil hp => intro _ i hi; simp at hi
  | @cons p e t M hp ht hT ih =>
    intro hle i hi
    have hr := tok_gt hp ht
    have hge := skipEnd_ge s e
    have hle2 := skipEnd_le s e hr.2
    cases i with
    | zero =>
      have hto : toOf s (⟨t.kd, t.tx, t.nm, p⟩ :: M) 0 = ((skipEnd s e : Nat) : Int) := by
        unfold toOf
        cases hT with
        | nil hp2 => simp; omega
        | cons hp2 ht2 hT2 => simp
      rw [hto]
      have hsoft := tok_hard hp ht
      have hwr := tok_wr hp ht
      have hws := wr_lim hwr
      refine ⟨Int.natCast_nonneg _, ?_, ?_, ?_, hwr, ?_⟩
      · show (p : Int) < _
        omega
      · omega
      · show lexScan (s.extract ((p : Nat) : Int).toNat ((skipEnd s e : Nat) : Int).toNat) = _
        rw [Int.toNat_natCast, Int.toNat_natCast]
        have h9 := cut_scan hs hp hsoft ht
        exact h9
      · have := wr_lexScan (t := t) (x := (wrTok t).1) (by rw [← hwr]) (by omega)
        exact this
    | succ i =>
      have := ih hle2 i (by simpa using hi)
      have e1 : toOf s (⟨t.kd, t.tx, t.nm, p⟩ :: M) (i + 1) = toOf s M i := by
        unfold toOf
        simp
      rw [e1]
      exact this

theorem mid_tk {W : World} {g c i : Nat} {L : List Tk} {t : Tk} (h : kTk.C W (some ⟨g, 0, none⟩) L.length L) (hi : i < L.length) (hc : L.length ≤ c) (ht : t = L.getD i zTk) : kTk.C W (some ⟨g, i * 4, none⟩) [t].length [t] := by
  have h1 := Kd.C_mid (lo := i) (hi := i + 1) h (by omega) hi hc
  rw [if_neg (by omega)] at h1
  have e : (L.take (i + 1)).drop i = [t] := by
    rw [List.take_succ_eq_append_getElem hi, List.drop_append_of_le_length (by simp; omega), List.drop_of_length_le (by simp; omega), List.nil_append, ht, List.getD_eq_getElem?_getD, List.getElem?_eq_getElem hi]
    rfl
  rw [e] at h1
  have e2 : (some (⟨g, 0, none⟩ : Addr)).map (·.add (i * kTk.sz)) = some ⟨g, i * 4, none⟩ := congrArg some (add_plain g (i * 4))
  rw [e2] at h1
  exact h1
theorem same_one (t : Tk) : sameTks false [⟨t.kd, t.tx, t.nm, 0⟩] [t] = true := by simp [sameTks, tkEq]
set_option maxRecDepth 100000 in
set_option maxHeartbeats 4000000 in
theorem walk_LexCut (s : ByteArray) (hm : s.size ≤ 140737488351232) (w : World) (hG : Glob w) :
    Calls Tryz.prog 7 #[.string s] w (TruePost w) := by
  have HG := Lib.hid hG
  have HS := Lib.hid (lex_Scan s hm)
  have hlaw := @lexScan_tr s
  rcases hR : lexScan s with ⟨L, E⟩
  rw [hR] at HS hlaw
  clear hG hR
  cases E with
  | cons x xs =>
    clear hlaw
    go_enter Tryz.func7, Tryz.ntmps7
    go_wp2_with fail
    refine (HS.out _ HG.out).mono ?_
    rintro e w1 ⟨lv, ev, rfl, hL, hE, hB1⟩
    obtain ⟨be, u, rfl, _⟩ := hE
    have HG1 := Lib.hid (HG.out.below hB1)
    have HB1 := Lib.hid hB1
    clear hL hB1
    go_wp2_with fail
    refine (awake_any _ HG1.out).mono ?_
    rintro e w2 ⟨rfl, hB2⟩
    have HG2 := Lib.hid (HG1.out.below hB2)
    have HB2 := Lib.hid (trans_below HB1.out hB2)
    clear hB2
    go_wp2_with fail
    refine (awake_any _ HG2.out).mono ?_
    rintro e w3 ⟨rfl, hB3⟩
    have HB3 := Lib.hid (trans_below HB2.out hB3)
    clear hB3
    go_wp2_with fail
    go_ret
    exact ⟨rfl, HB3.out⟩
  | nil =>
    obtain ⟨hs, hT⟩ := hlaw rfl
    have hcut := Lib.hid (cut_all hs hT (skipEnd_le s 0 (Nat.zero_le _)))
    clear hlaw
    go_enter Tryz.func7, Tryz.ntmps7
    go_wp2_with fail
    refine (HS.out _ HG.out).mono ?_
    rintro e w1 ⟨lv, ev, rfl, hL, hE, hB1⟩
    obtain rfl : ev = .nilIface := hE
    have HG1 := Lib.hid (HG.out.below hB1)
    have HL := Lib.hid hL
    have HB1 := Lib.hid hB1
    clear hL hB1
    go_wp2_with fail
    refine (awake_any _ HG1.out).mono ?_
    rintro e w2 ⟨rfl, hB2⟩
    have HG2 := Lib.hid (HG1.out.below hB2)
    have HB2 := Lib.hid (trans_below HB1.out hB2)
    have HL2 := Lib.hid (Kd.R_below HL.out hB2)
    clear hB2 HL
    obtain ⟨A0, c0, rfl, hc0, hC0⟩ := Kd.R_reads HL2.out
    have hmax := hT.len
    clear hT
    go_wp2_with fail
    go_loopg [5] L.length (fun gk vi wl => ∃ i : Nat, vi = .int .i64 (i : Int) ∧ gk = L.length - i ∧ i ≤ L.length ∧ Below w2.heap.size w2 wl)
    case atStart => exact ⟨0, rfl, rfl, Nat.zero_le _, Below.refl _ _⟩
    case round =>
      obtain ⟨i, rfl, hgk, hi, hBl⟩ := hrel
      have HM := Lib.hid hgk
      clear hgk
      by_cases hlt : i < L.length
      · have hOk := hcut.out i hlt
        obtain ⟨g, c, hv, _, hgl, hcells, hC⟩ := tks_form (Kd.R_below HL2.out hBl) (by omega)
        injection hv with hv1 _ hv3
        subst hv1 hv3
        obtain ⟨q0, q1, q2, q3⟩ := hcells i hlt
        obtain ⟨t, ht⟩ : ∃ t, t = L.getD i zTk := ⟨_, rfl⟩
        rw [← ht] at hOk q0 q1 q2 q3
        have HT := Lib.hid ht
        clear ht
        obtain ⟨k0, k1, k2, k3, k4, k5⟩ := hOk
        obtain ⟨a, ha⟩ := Int.eq_ofNat_of_zero_le k0
        obtain ⟨b, hb⟩ := Int.eq_ofNat_of_zero_le (show 0 ≤ toOf s L i by omega)
        have e4 : tkV t = .agg #[.int .i64 t.kd, .string t.tx, .int .i64 t.nm, .int .i64 (a : Int)] := by unfold tkV; rw [ha]
        rw [ha] at k1 k3 q3
        have HA := Lib.hid ha
        rw [hb] at k1 k2 k3
        rw [Int.toNat_natCast, Int.toNat_natCast] at k3
        have hlim := wr_lim k4
        have x0 : (i : Int) < (L.length : Int) := by omega
        have x0b : decide ((i : Int) < (L.length : Int)) = true := decide_eq_true x0
        have x1 : (0 : Int) ≤ (i : Int) := by omega
        have x2 : (a : Int) ≤ (b : Int) := by omega
        have x3 : (b : Int) ≤ (s.size : Int) := by omega
        have d0 : decide ((a : Int) < 0) = false := decide_eq_false (by omega)
        have d1 : decide ((a : Int) ≥ (b : Int)) = false := decide_eq_false (by omega)
        have d2 : decide ((b : Int) > (s.size : Int)) = false := decide_eq_false (by omega)
        have s1 : IntKind.i64.wrap ((i : Int) + 1) = ((i + 1 : Nat) : Int) := by rw [wrap_small _ (by omega) (by omega)]; rfl
        have HSc := Lib.hid (lex_Scan (s.extract a b) (by simp; omega))
        have HWr := Lib.hid (lex_Write t (by omega) (by omega) (by omega))
        have HSx := Lib.hid (lex_Scan (wrTok t).1 (by omega))
        rw [e4] at HWr
        rw [k3] at HSc
        rw [k5] at HSx
        obtain ⟨x, hx⟩ : ∃ x, x = (wrTok t).1 := ⟨_, rfl⟩
        rw [show wrTok t = (x, []) by rw [hx, ← k4]] at HWr
        rw [← hx] at HSx
        have HG3 := Lib.hid (HG2.out.below hBl)
        by_cases hnx : i + 1 < L.length
        · have q7 := (hcells (i + 1) hnx).2.2.2
          rw [show (L.getD (i + 1) zTk).at_ = (b : Int) by rw [← hb]; unfold toOf; rw [if_pos hnx]] at q7
          have y0 : ((i + 1 : Nat) : Int) < (L.length : Int) := by omega
          have y0b : decide (((i + 1 : Nat) : Int) < (L.length : Int)) = true := decide_eq_true y0
          have y1 : (0 : Int) ≤ ((i + 1 : Nat) : Int) := by omega
          clear k0 hcells hb ha e4 hx hlim k3 k4 k5
          go_wp2_with fail
          refine (HSc.out _ HG3.out).mono ?_
          rintro e w4 ⟨lv, ev, rfl, hL4, hE4, hB4⟩
          obtain rfl : ev = .nilIface := hE4
          have HG4 := Lib.hid (HG3.out.below hB4)
          have HL4 := Lib.hid hL4
          have HB4 := Lib.hid (trans_below hBl hB4)
          have q0 := (hB4.cell hgl).trans q0
          have q1 := (hB4.cell hgl).trans q1
          have q2 := (hB4.cell hgl).trans q2
          have q3 := (hB4.cell hgl).trans q3
          have HC4 := Lib.hid (Kd.C_below hC hB4)
          clear hL4 hC hB4
          go_wp2_with fail
          refine (HWr.out _ HG4.out).mono ?_
          rintro e w5 ⟨ev, rfl, hE5, hB5⟩
          obtain rfl : ev = .nilIface := hE5
          have HG5 := Lib.hid (HG4.out.below hB5)
          have HB5 := Lib.hid (trans_below HB4.out hB5)
          have HL5 := Lib.hid (Kd.R_below HL4.out hB5)
          have HC5 := Lib.hid (Kd.C_below HC4.out hB5)
          clear hB5 q0 q1 q2 q3 HL4 HC4
          go_wp2_with fail
          refine (HSx.out _ HG5.out).mono ?_
          rintro e w6 ⟨mv, ev, rfl, hL6, hE6, hB6⟩
          obtain rfl : ev = .nilIface := hE6
          have HB6 := Lib.hid (trans_below HB5.out hB6)
          obtain ⟨A5, c5, rfl, hc5, hC5⟩ := Kd.R_reads (Kd.R_below HL5.out hB6)
          obtain ⟨A6, c6, rfl, hc6, hC6⟩ := Kd.R_reads hL6
          have HC6 := Lib.hid (mid_tk (Kd.C_below HC5.out hB6) hlt hc0 HT.out)
          have HCa := Lib.hid hC5
          have HCb := Lib.hid hC6
          have HLa := Lib.hid hc5
          have HLb := Lib.hid hc6
          clear hB6 hL6 hC5 hC6 hc5 hc6 HL5 HC5
          go_wp2_with fail
          refine (ref10_Same false [⟨t.kd, t.tx, t.nm, 0⟩] [t] A5 _ c5 _ _ HCa.out HLa.out HC6.out (show 1 ≤ c0 - i by omega)).mono ?_
          rw [same_one]
          rintro e w7 ⟨rfl, hD⟩
          have HC7 := Lib.hid (Kd.C_below HC6.out hD.below)
          have HCc := Lib.hid (Kd.C_below HCb.out hD.below)
          have HB7 := Lib.hid (trans_below HB6.out hD.below)
          clear hD HCa HCb HC6
          go_wp2_with fail
          refine (ref10_Same false [⟨t.kd, t.tx, t.nm, 0⟩] [t] A6 _ c6 _ _ HCc.out HLb.out HC7.out (show 1 ≤ c0 - i by omega)).mono ?_
          rw [same_one]
          rintro e w8 ⟨rfl, hD⟩
          have HB8 := Lib.hid (trans_below HB7.out hD.below)
          clear hD HCc HC7
          go_wp2_with fail
          go_roundg (L.length - (i + 1))
          case measure => rw [HM.out]; omega
          case rel => exact ⟨i + 1, by go_num, rfl, by omega, HB8.out⟩
        · have y0 : ¬ ((i + 1 : Nat) : Int) < (L.length : Int) := by omega
          have y0b : decide (((i + 1 : Nat) : Int) < (L.length : Int)) = false := decide_eq_false y0
          have hbs : (s.size : Int) = (b : Int) := by rw [← hb]; unfold toOf; rw [if_neg hnx]
          have hbs2 : s.size = b := by omega
          clear k0 hcells hb ha e4 hx hlim k3 k4 k5
          go_wp2_with fail
          refine (HSc.out _ HG3.out).mono ?_
          rintro e w4 ⟨lv, ev, rfl, hL4, hE4, hB4⟩
          obtain rfl : ev = .nilIface := hE4
          have HG4 := Lib.hid (HG3.out.below hB4)
          have HL4 := Lib.hid hL4
          have HB4 := Lib.hid (trans_below hBl hB4)
          have q0 := (hB4.cell hgl).trans q0
          have q1 := (hB4.cell hgl).trans q1
          have q2 := (hB4.cell hgl).trans q2
          have q3 := (hB4.cell hgl).trans q3
          have HC4 := Lib.hid (Kd.C_below hC hB4)
          clear hL4 hC hB4
          go_wp2_with fail
          refine (HWr.out _ HG4.out).mono ?_
          rintro e w5 ⟨ev, rfl, hE5, hB5⟩
          obtain rfl : ev = .nilIface := hE5
          have HG5 := Lib.hid (HG4.out.below hB5)
          have HB5 := Lib.hid (trans_below HB4.out hB5)
          have HL5 := Lib.hid (Kd.R_below HL4.out hB5)
          have HC5 := Lib.hid (Kd.C_below HC4.out hB5)
          clear hB5 q0 q1 q2 q3 HL4 HC4
          go_wp2_with fail
          refine (HSx.out _ HG5.out).mono ?_
          rintro e w6 ⟨mv, ev, rfl, hL6, hE6, hB6⟩
          obtain rfl : ev = .nilIface := hE6
          have HB6 := Lib.hid (trans_below HB5.out hB6)
          obtain ⟨A5, c5, rfl, hc5, hC5⟩ := Kd.R_reads (Kd.R_below HL5.out hB6)
          obtain ⟨A6, c6, rfl, hc6, hC6⟩ := Kd.R_reads hL6
          have HC6 := Lib.hid (mid_tk (Kd.C_below HC5.out hB6) hlt hc0 HT.out)
          have HCa := Lib.hid hC5
          have HCb := Lib.hid hC6
          have HLa := Lib.hid hc5
          have HLb := Lib.hid hc6
          clear hB6 hL6 hC5 hC6 hc5 hc6 HL5 HC5
          go_wp2_with fail
          refine (ref10_Same false [⟨t.kd, t.tx, t.nm, 0⟩] [t] A5 _ c5 _ _ HCa.out HLa.out HC6.out (show 1 ≤ c0 - i by omega)).mono ?_
          rw [same_one]
          rintro e w7 ⟨rfl, hD⟩
          have HC7 := Lib.hid (Kd.C_below HC6.out hD.below)
          have HCc := Lib.hid (Kd.C_below HCb.out hD.below)
          have HB7 := Lib.hid (trans_below HB6.out hD.below)
          clear hD HCa HCb HC6
          go_wp2_with fail
          refine (ref10_Same false [⟨t.kd, t.tx, t.nm, 0⟩] [t] A6 _ c6 _ _ HCc.out HLb.out HC7.out (show 1 ≤ c0 - i by omega)).mono ?_
          rw [same_one]
          rintro e w8 ⟨rfl, hD⟩
          have HB8 := Lib.hid (trans_below HB7.out hD.below)
          clear hD HCc HC7
          go_wp2_with fail
          go_roundg (L.length - (i + 1))
          case measure => rw [HM.out]; omega
          case rel => exact ⟨i + 1, by go_num, rfl, by omega, HB8.out⟩
      · have hin : i = L.length := by omega
        subst hin
        have d9 : decide ((L.length : Int) < (L.length : Int)) = false := decide_eq_false (by omega)
        have HB9 := Lib.hid (trans_below HB2.out hBl)
        go_wp2_with fail
        go_ret
        exact ⟨rfl, HB9.out⟩
end Go.Proofs.YtpjmjogkkgbblaaGreatDoor
