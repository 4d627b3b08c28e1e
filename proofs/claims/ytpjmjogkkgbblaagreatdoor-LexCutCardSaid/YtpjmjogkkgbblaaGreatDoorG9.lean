/-
  lex.Scan. heddlemem.Over, heddleref10.signs. heddleref10.number: a number in a base. heddleref10.figure. heddleref10.escape.
-/
import Derived.Test.YtpjmjogkkgbblaaGreatDoorG8
import Derived.Test.YtpjmjogkkgbblaaGreatDoorKWInvWords
namespace Go.Proofs.YtpjmjogkkgbblaaGreatDoor
open Go.RowKit Go.Proofs.YtpjmjogkkgbblaaGreatDoorW.PrintWords

/-- The tokens from p on, behind acc; or the first fault. -/
def scanFrom (s : ByteArray) (p : Nat) (acc : List Tk) : List Tk × List Lk :=
  if _h : p < s.size then
    if acc.length = 65536 then ([], [⟨nLex, p, 5⟩])
    else if (tokenAt s p).2.2 = [] then
      scanFrom s (skipEnd s (max (tokenAt s p).2.1 (p + 1))) (acc ++ [⟨(tokenAt s p).1.kd, (tokenAt s p).1.tx, (tokenAt s p).1.nm, p⟩])
    else ([], (tokenAt s p).2.2)
  else (acc, [])
  termination_by s.size - p
  decreasing_by
  have := skipEnd_ge s (max (tokenAt s p).2.1 (p + 1))
  omega
def lexScan (s : ByteArray) : List Tk × List Lk := if s.size > 65536 then ([], [⟨nLex, 0, 4⟩]) else scanFrom s (skipEnd s 0) []
def ScanPost (w : World) (r : List Tk × List Lk) (e : Ending) (w' : World) : Prop :=
  ∃ lv ev, e = .returned (.tuple #[lv, ev]) ∧ kTk.R 36 w' w.heap.size (fun _ => True) lv r.1 ∧ ErrIs w' r.2 ev ∧ Below w.heap.size w w'

set_option maxRecDepth 100000 in
set_option maxHeartbeats 6000000 in
theorem lex_Scan (s : ByteArray) (hm : s.size ≤ 140737488351232) (w : World) (hG : Glob w) :
    Calls Tryz.prog 11 #[.string s] w (ScanPost w (lexScan s)) := by
  have HG := Lib.hid hG
  clear hG
  by_cases hl : s.size > 65536
  · have hd : decide ((s.size : Int) > 65536) = true := decide_eq_true (by omega)
    have HQ : Hid (lexScan s = ([], [⟨nLex, 0, 4⟩])) := Lib.hid (by unfold lexScan; rw [if_pos hl])
    clear hl
    go_enter Tryz.func11, Tryz.ntmps11
    go_wp2_with fail
    refine (lex_fault _ _ _ _ [] rfl).mono ?_
    rintro e w2 ⟨v, rfl, hE, hB⟩
    have HE := Lib.hid hE
    have HB := Lib.hid hB
    clear hE hB
    go_wp2_with fail
    go_ret2
    exact ⟨_, _, rfl, by rw [HQ.out]; exact Kd.R_nil _ _ _ _ _, by rw [HQ.out]; exact HE.out, HB.out⟩
  · have hd : decide ((s.size : Int) > 65536) = false := decide_eq_false (by omega)
    have HQ : Hid (lexScan s = scanFrom s (skipEnd s 0) []) := Lib.hid (by unfold lexScan; rw [if_neg hl])
    clear hl
    obtain ⟨R, hR⟩ : ∃ R, R = lexScan s := ⟨_, rfl⟩
    rw [← hR] at HQ
    rw [← hR]
    have HR := Lib.hid HQ.out.symm
    clear hR HQ
    go_enter Tryz.func11, Tryz.ntmps11
    go_wp2_with fail
    have hS0 : ScanAt (w.alloc (.cells #[.string s, .int .i64 0] 63)) w.heap.size s 0 := ⟨by simp, by simp, by simp⟩
    refine (skip_any w.heap.size s 0 (Nat.zero_le _) hm _ hS0).mono ?_
    rintro e w1 ⟨rfl, hgr, hS1⟩
    clear hS0
    have HB1 : Hid (Below w.heap.size w w1) := Lib.hid ((below_alloc (Below.refl _ _) _).grown hgr (by simp) (fun k hk => by injection hk with hk; omega))
    have HS1 := Lib.hid hS1
    clear hgr hS1
    go_wp2_with fail
    go_loopg [5] (s.size - skipEnd s 0) (fun gk vl wl => ∃ (p : Nat) (acc : List Tk) (v0 : Value), v0 = vl ∧ gk = s.size - p ∧ p ≤ s.size ∧ acc.length ≤ 65536 ∧ Hid (scanFrom s p acc = R) ∧ Hid (ScanAt wl w.heap.size s p) ∧ Hid (kTk.R 36 wl (w.heap.size + 1) (fun k => w.heap.size < k) v0 acc) ∧ Hid (Below w.heap.size w wl))
    case atStart => exact ⟨skipEnd s 0, [], _, rfl, rfl, skipEnd_le s 0 (Nat.zero_le _), by decide, HR.out, HS1.out, Kd.R_nil _ _ _ _ _, HB1.out⟩
    case round =>
      clear HR HS1 HB1
      obtain ⟨p, acc, v0, rfl, hgk, hp, hacc, HR, HS, HK, HB⟩ := hrel
      have HM := Lib.hid hgk
      clear hgk
      obtain ⟨A, cp, rfl, hcp, _⟩ := Kd.R_reads HK.out
      obtain ⟨t1, t2, t3⟩ := HS.out
      by_cases hlt : p < s.size
      · have d1 : (p : Int) < (s.size : Int) := by omega
        by_cases hfull : acc.length = 65536
        · have dfull : ((acc.length : Int) == 65536) = true := beq_iff_eq.2 (by omega)
          have HQ : Hid (R = ([], [⟨nLex, p, 5⟩])) := Lib.hid (by rw [← HR.out, scanFrom, dif_pos hlt, if_pos hfull])
          clear hfull
          go_wp2_with fail
          refine (lex_fault _ _ _ _ [] rfl).mono ?_
          rintro e w2 ⟨v, rfl, hE, hB2⟩
          have HE := Lib.hid hE
          have HB2 := Lib.hid (trans_below HB.out hB2)
          clear hE hB2
          go_wp2_with fail
          go_ret2
          exact ⟨_, _, rfl, by rw [HQ.out]; exact Kd.R_nil _ _ _ _ _, by rw [HQ.out]; exact HE.out, HB2.out⟩
        · have dfull : ((acc.length : Int) == 65536) = false := beq_eq_false_iff_ne.2 (by omega)
          go_wp2_with fail
          refine (lex_token w.heap.size s p hlt hm wr HS.out (HG.out.below HB.out)).mono ?_
          rintro e w2 ⟨v, rfl, hE, hB2⟩
          obtain ⟨v0, hv0⟩ : ∃ v, v = Value.slice A acc.length cp := ⟨_, rfl⟩
          rw [← hv0]
          rw [← hv0] at HK
          clear hv0
          have HTR := Lib.hid (tok_range s p hlt)
          have hRR := HR.out
          rw [scanFrom, dif_pos hlt, if_neg hfull] at hRR
          obtain ⟨⟨⟨kd, tx, nm, at_⟩, n, l⟩, hT⟩ : ∃ r, r = tokenAt s p := ⟨_, rfl⟩
          rw [← hT] at hE hRR HTR
          rw [← hT]
          simp only at hRR HTR
          have HE := Lib.hid hE
          have HRR := Lib.hid hRR
          have HK2 := Lib.hid (Kd.R_below HK.out hB2)
          have HS2 := Lib.hid (HS.out.below hB2)
          have HB2 := Lib.hid (trans_below HB.out hB2)
          clear hT hE hRR hB2 t1 t2 t3
          obtain ⟨t1, t2, t3⟩ := HS2.out
          simp only [tkV]
          cases l with
          | cons x r =>
            have HQ : Hid (R = ([], x :: r)) := Lib.hid (by rw [← HRR.out, if_neg (by simp)])
            have hE := HE.out
            obtain ⟨be, u, rfl, _⟩ := hE
            go_wp2_with fail
            go_ret2
            exact ⟨_, _, rfl, by rw [HQ.out]; exact Kd.R_nil _ _ _ _ _, by rw [HQ.out]; exact HE.out.below (below_alloc (Below.refl _ _) _), below_alloc HB2.out _⟩
          | nil =>
            have hv : v = .nilIface := HE.out
            subst hv
            have hn := HTR.out rfl
            have HRN : Hid (scanFrom s (skipEnd s n) (acc ++ [⟨kd, tx, nm, p⟩]) = R) := Lib.hid (by rw [← HRR.out, if_pos rfl, Nat.max_eq_left (by omega)])
            have hT3 : TkAt (w2.alloc (.cells #[.int .i64 kd, .string tx, .int .i64 nm, .int .i64 at_] 36)) w2.heap.size ⟨kd, tx, nm, at_⟩ := by constructor <;> simp
            have l2 : w.heap.size < w2.heap.size := HS2.out.lt
            have HS3 := Lib.hid (HS2.out.below (below_alloc (Below.refl _ _) (.cells #[.int .i64 kd, .string tx, .int .i64 nm, .int .i64 at_] 36)))
            have HK3 := Lib.hid (Kd.R_alloc HK2.out (.cells #[.int .i64 kd, .string tx, .int .i64 nm, .int .i64 at_] 36))
            have HB3 := Lib.hid (below_alloc HB2.out (.cells #[.int .i64 kd, .string tx, .int .i64 nm, .int .i64 at_] 36))
            have hz3 : (w2.alloc (.cells #[.int .i64 kd, .string tx, .int .i64 nm, .int .i64 at_] 36)).heap.size = w2.heap.size + 1 := by simp
            obtain ⟨W3, hW3⟩ : ∃ W, W = w2.alloc (.cells #[.int .i64 kd, .string tx, .int .i64 nm, .int .i64 at_] 36) := ⟨_, rfl⟩
            rw [← hW3] at hT3 HS3 HK3 HB3 hz3
            have hWW := hW3.symm
            obtain ⟨tb, htb⟩ : ∃ n, n = w2.heap.size := ⟨_, rfl⟩
            have HZ := Lib.hid hz3
            have HL2 := Lib.hid l2
            obtain ⟨x0, x1, x2, x3, y0, y1, y2, y3⟩ := hT3
            simp only at x0 x1 x2 x3
            clear t1 t2 t3 hW3 hz3
            obtain ⟨t1, t2, t3⟩ := HS3.out
            have hne : w.heap.size ≠ w2.heap.size := by omega
            have hB34 : Below w2.heap.size W3 (W3.setCell ⟨w2.heap.size, 3, none⟩ (.int .i64 (p : Int))) := Below.setCell (Below.refl _ _) (by exact Nat.le_refl _) _
            have HS4 : Hid (ScanAt (W3.setCell ⟨w2.heap.size, 3, none⟩ (.int .i64 (p : Int))) w.heap.size s p) := Lib.hid ⟨(hB34.cell l2).trans t1, (hB34.cell l2).trans t2, (hB34.frozen l2).trans t3⟩
            have hown : some w2.heap.size ≠ v0.ownBlock := by
              obtain ⟨inner, ho⟩ := Kd.R_own HK2.out
              intro he
              have := own_lt ho _ he.symm
              omega
            have HK4 : Hid (kTk.R 36 (W3.setCell ⟨w2.heap.size, 3, none⟩ (.int .i64 (p : Int))) (w.heap.size + 1) (fun k => w.heap.size < k) v0 acc) := Lib.hid (Kd.R_grown1 HK3.out rfl (grown_set _ _ _ _) hown)
            have HB4 : Hid (Below w.heap.size w (W3.setCell ⟨w2.heap.size, 3, none⟩ (.int .i64 (p : Int)))) := Lib.hid (Below.setCell HB3.out (by exact Nat.le_of_lt l2) _)
            have hz4 : (W3.setCell ⟨w2.heap.size, 3, none⟩ (.int .i64 (p : Int))).heap.size = w2.heap.size + 1 := by have := HZ.out; simp [World.setCell, this]
            have HFR : Hid (∀ k, (W3.setCell ⟨w2.heap.size, 3, none⟩ (.int .i64 (p : Int))).heap.size ≤ k → w.heap.size < k) := Lib.hid fun k hk => by omega
            have HBS : Hid (w.heap.size + 1 ≤ (W3.setCell ⟨w2.heap.size, 3, none⟩ (.int .i64 (p : Int))).heap.size) := Lib.hid (by omega)
            clear hB34 hown hz4
            have HL9 : Hid (w.heap.size < w.heap.size + 1) := Lib.hid (Nat.lt_succ_self _)
            go_wp2_with (at_builtin; refine Kd.R_append kTk (w0 := W3.setCell ⟨w2.heap.size, 3, none⟩ (.int .i64 (p : Int))) (w.heap.size + 1) rfl (.tmp 49) (.tmp 51) 22 36 (.agg #[.int .i64 0, .string ⟨#[]⟩, .int .i64 0, .int .i64 0]) 40 rfl Tryz.underlying22 infoTk rfl (by decide) (by omega) v0 acc ⟨kd, tx, nm, (p : Int)⟩ [.int .i64 kd, .string tx, .int .i64 nm, .int .i64 (p : Int)] (fun k => w.heap.size < k) (fun _ => False) ?hs ?hx ?hp ?hok ?hfr ?hO ?hB ?hbs ?hl ?_; (case hs => rfl); (case hx => first | rfl | (simp [Act.eval]; done)); (case hp => exact kTk_mkM _ _ _ ⟨kd, tx, nm, (p : Int)⟩); (case hok => exact fun _ hk => hk.elim); (case hfr => exact HFR.out); (case hO => exact HK4.out); (case hB => exact Below.refl _ _); (case hbs => exact HBS.out); (case hl => omega); intro v1 w5 ho hb hg hat; have HO := Lib.hid ho; have HBB := Lib.hid hb; have HS5 : Hid (ScanAt w5 w.heap.size s p) := Lib.hid ⟨(hb.cell HL9.out).trans HS4.out.1, (hb.cell HL9.out).trans HS4.out.2.1, (hb.frozen HL9.out).trans HS4.out.2.2⟩; have q1 := HS5.out.1; have q2 := HS5.out.2.1; have q3 := HS5.out.2.2; clear ho hb hg hat)
            have hlt5 : w.heap.size < w5.heap.size := HS5.out.lt
            have HS6 : Hid (ScanAt (w5.setCell ⟨w.heap.size, 1, none⟩ (.int .i64 (n : Int))) w.heap.size s n) := Lib.hid (HS5.out.set _ n rfl)
            have HB5 : Hid (Below w.heap.size w w5) := Lib.hid (HB4.out.trans (HBB.out.mono (Nat.le_succ _)))
            have HO6 : Hid (kTk.R 36 (w5.setCell ⟨w.heap.size, 1, none⟩ (.int .i64 (n : Int))) (w.heap.size + 1) (fun k => w.heap.size < k) v1 (acc ++ [⟨kd, tx, nm, (p : Int)⟩])) := Lib.hid (Kd.R_far HO.out (fun k hk e => by simp at e; omega) _)
            refine (skip_any w.heap.size s n hn.2 hm _ HS6.out).mono ?_
            rintro e w7 ⟨rfl, hgr, hS7⟩
            have HS7 := Lib.hid hS7
            have HO7 : Hid (kTk.R 36 w7 (w.heap.size + 1) (fun k => w.heap.size < k) v1 (acc ++ [⟨kd, tx, nm, (p : Int)⟩])) := Lib.hid (Kd.R_grown HO6.out hgr (fun k hk e => by injection e with e; omega))
            have HB7 : Hid (Below w.heap.size w w7) := Lib.hid ((Below.setCell HB5.out (by exact Nat.le_refl _) _).grown hgr (by simp [World.setCell]; omega) (fun k hk => by injection hk with hk; omega))
            clear hgr hS7
            go_wp2_with fail
            go_roundg (s.size - skipEnd s n)
            case measure => rw [HM.out]; have := skipEnd_ge s n; omega
            case rel => exact ⟨skipEnd s n, acc ++ [⟨kd, tx, nm, p⟩], _, rfl, rfl, skipEnd_le s n hn.2, by rw [List.length_append]; simp; omega, HRN, HS7, HO7, HB7⟩
      · have HQ : Hid (R = (acc, [])) := Lib.hid (by rw [← HR.out, scanFrom, dif_neg hlt])
        go_wp2_with fail
        go_ret2
        exact ⟨_, _, rfl, by rw [HQ.out]; exact Kd.R_flat (fun h => h) (Kd.R_lower HK.out (Nat.le_succ _)) (fun _ _ _ => trivial), by rw [HQ.out]; rfl, HB.out⟩
end Go.Proofs.YtpjmjogkkgbblaaGreatDoor
namespace Go.Proofs.YtpjmjogkkgbblaaGreatDoor
open Go.RowKit Go.Proofs.YtpjmjogkkgbblaaGreatDoorW.PrintWords

set_option maxRecDepth 100000 in
theorem ref10_signs (w : World) : Calls Tryz.prog 44 #[] w (SignPost w) := by
  go_enter Tryz.func44, Tryz.ntmps44
  go_wp2_with fail
  go_ret
  refine ⟨rfl, ?_, by simp, below_alloc (Below.refl _ _) _⟩
  intro j hj
  have h : (signList.map Value.string)[j]? = some (.string (signList.getD j ByteArray.empty)) := by
    rw [List.getElem?_map, List.getD_eq_getElem?_getD, List.getElem?_eq_getElem (show j < signList.length from hj)]
    rfl
  show (w.alloc (.cells (signList.map Value.string).toArray 9)).cell? ⟨w.heap.size, j, none⟩ = _
  rw [← h]
  simp

theorem reads_below {w w1 : World} {A : Option Addr} {n : Nat} {l : List Lk} (h : kLk.C w A n l) (hb : Below w.heap.size w w1) : ReadsRow (kLk.K w) kLk.sz w1 A n l :=
  ReadsRow.imp_ h hb (fun _ _ hp => hp)
set_option maxRecDepth 100000 in
set_option maxHeartbeats 2000000 in
theorem mem_Over (ly : ByteArray) (at_ co : Int) (l : List Lk) (hl : l.length ≤ 16) (A : Option Addr) (c : Nat) (w : World) (hC : kLk.C w A l.length l) :
    Calls Tryz.prog 64 #[.string ly, .int .i64 at_, .int .i64 co, .slice A l.length c] w (LnPost w (⟨ly, at_, co⟩ :: l)) := by
  have HC := Lib.hid hC
  clear hC
  go_enter Tryz.func64, Tryz.ntmps64
  go_wp2_with (first
    | (at_builtin; refine Kd.R_append kLk (w0 := w) w.heap.size rfl (.tmp 10) (.tmp 15) 27 50 (.agg #[(.string ⟨#[]⟩), (.int .i64 0), (.int .i64 0)]) 32 rfl Tryz.underlying27 infoLk rfl (by decide) (by omega) (.slice none 0 0) [] ⟨ly, at_, co⟩ [.string ly, .int .i64 at_, .int .i64 co] (fun _ => True) (fun _ => False) ?hs ?hx ?hp ?hok ?hfr ?hO ?hB ?hbs ?hl ?_; (case hs => rfl); (case hx => first | rfl | (simp [Act.eval]; done)); (case hp => exact kLk_mkM _ _ _ ⟨ly, at_, co⟩); (case hok => exact fun _ hk => hk.elim); (case hfr => exact fun _ _ => trivial); (case hO => exact Kd.R_nil _ _ _ _ _); (case hB => exact Below.refl _ _); (case hbs => exact Nat.le_refl _); (case hl => decide); intro v1 w5 ho hb hg hat; have HO := Lib.hid ho; have HB := Lib.hid hb; clear ho hb hg hat)
    | (at_builtin; refine Kd.R_append_rows kLk (Rr := kLk.K w) (w0 := w) w.heap.size rfl (.tmp 17) (.tmp 18) 27 50 (.agg #[(.string ⟨#[]⟩), (.int .i64 0), (.int .i64 0)]) 32 rfl Tryz.underlying27 infoLk rfl (by decide) (by omega) v1 [⟨ly, at_, co⟩] l A l.length c (fun _ => True) (fun _ => False) ?hs ?hx ?hO ?hR ?hKM ?hok ?hfr ?hB ?hbs ?hl ?_; (case hs => rfl); (case hx => rfl); (case hO => exact HO.out); (case hR => exact reads_below HC.out HB.out); (case hKM => exact fun x cs h => by rw [kLk_open h]; exact kLk_mkM _ _ _ x); (case hok => exact fun _ hk => hk.elim); (case hfr => exact fun _ _ => trivial); (case hB => exact HB.out); (case hbs => exact HB.out.size); (case hl => simp; omega); intro v2 w6 ho hb hg hat; have HO2 := Lib.hid ho; have HB2 := Lib.hid hb; clear ho hb hg hat))
  go_ret
  exact ⟨_, rfl, ⟨HO2.out, fun h => by simp at h⟩, HB2.out⟩
end Go.Proofs.YtpjmjogkkgbblaaGreatDoor
namespace Go.Proofs.YtpjmjogkkgbblaaGreatDoor
open Go.RowKit Go.Proofs.YtpjmjogkkgbblaaGreatDoorW.PrintWords

def numPair : Option Int → Int × Bool
  | some v => (v, true)
  | none => (0, false)
set_option maxRecDepth 100000 in
set_option maxHeartbeats 2000000 in
theorem ref10_number (s : ByteArray) (b : Int) (hb0 : 2 ≤ b) (hb1 : b ≤ 36) (hm : s.size ≤ 140737488351232) (w : World) :
    Calls Tryz.prog 95 #[.string s, .int .i64 b] w fun e w' => e = .returned (.tuple #[.int .i64 (numPair (numVal b s)).1, .bool (numPair (numVal b s)).2]) ∧ w = w' := by
  obtain ⟨P, hP⟩ : ∃ P, P = numPair (numVal b s) := ⟨_, rfl⟩
  rw [← hP]
  have HP := Lib.hid hP
  clear hP
  go_enter Tryz.func95, Tryz.ntmps95
  go_wp2_with fail
  go_loopg [6, 7] s.size (fun gk vn vi wl => ∃ (k : Nat) (a : Int), vn = .int .i64 a ∧ vi = .int .i64 (k : Int) ∧ gk = s.size - k ∧ k ≤ s.size ∧ 0 ≤ a ∧ a ≤ 576460752303423487 ∧ Hid (parseN b 576460752303423487 a ((bs s).drop k) = parseN b 576460752303423487 0 (bs s)) ∧ wl = w)
  case atStart => exact ⟨0, 0, rfl, rfl, rfl, Nat.zero_le _, Int.le_refl _, by decide, rfl, rfl⟩
  case round =>
    obtain ⟨k, a, rfl, rfl, hgk, hk, ha0, ha1, HR, rfl⟩ := hrel
    have HK := Lib.hid hgk
    clear hgk
    by_cases hlt : k < s.size
    · have hbk := btk s k
      have hr := bt_range s (k : Int)
      have hq := HR.out
      rw [bs_drop s k hlt] at hq
      simp only [parseN] at hq
      generalize bt s (k : Int) = c at hbk hr hq
      have hv0 := valOf_nonneg c
      have hk0 : (0 : Int) ≤ (k : Int) := by omega
      have hk1 : (k : Int) < (s.size : Int) := by omega
      have HV := Lib.hid (ref10_value c hr.1 hr.2)
      have hne : s.size ≠ 0 := by omega
      have hNV : numVal b s = parseN b 576460752303423487 0 (bs s) := by unfold numVal; rw [if_neg hne]
      obtain ⟨V, hV⟩ : ∃ V, V = valOf c := ⟨_, rfl⟩
      rw [← hV] at hq hv0 HV
      clear hV
      by_cases hbV : b ≤ V
      · have HE : Hid (P = (0, false)) := Lib.hid (by rw [HP.out, hNV, ← hq, if_pos hbV]; rfl)
        have d1 : decide (V ≥ b) = true := decide_eq_true hbV
        clear hq hNV
        go_wp2_with fail
        refine (HV.out _).mono ?_
        rintro e w' ⟨rfl, rfl⟩
        go_wp2_with fail
        all_goals go_ret2
        all_goals exact ⟨by rw [HE.out]; rfl, rfl⟩
      · have d1 : decide (V ≥ b) = false := decide_eq_false (by omega)
        rw [if_neg hbV] at hq
        have hiff := Int.le_ediv_iff_mul_le (a := a) (b := 576460752303423487 - V) (c := b) (by omega)
        by_cases hQ : (576460752303423487 - V) / b < a
        · have HE : Hid (P = (0, false)) := Lib.hid (by
            rw [HP.out, hNV, ← hq, if_pos (by
              have h1 : ¬ a ≤ (576460752303423487 - V) / b := by omega
              rw [hiff] at h1
              omega)]
            rfl)
          clear hq hNV hiff
          go_wp2_with fail
          refine (HV.out _).mono ?_
          rintro e w' ⟨rfl, rfl⟩
          go_wp2_with fail
          all_goals go_ret2
          all_goals exact ⟨by rw [HE.out]; rfl, rfl⟩
        · have hle : a * b ≤ 576460752303423487 - V := hiff.1 (by omega)
          have hab0 : 0 ≤ a * b := Int.mul_nonneg ha0 (by omega)
          rw [if_neg (by omega)] at hq
          have hw1 : IntKind.i64.wrap (a * b) = a * b := wrap_small _ hab0 (by omega)
          have hw2 : IntKind.i64.wrap (a * b + V) = a * b + V := wrap_small _ (by omega) (by omega)
          have hw3 : wrap64 (a * b) = a * b := by unfold wrap64; omega
          have hw4 : wrap64 (a * b + V) = a * b + V := by unfold wrap64; omega
          obtain ⟨N, hN⟩ : ∃ N, N = a * b + V := ⟨_, rfl⟩
          have HR2 : Hid (0 ≤ N ∧ N ≤ 576460752303423487 ∧ parseN b 576460752303423487 N ((bs s).drop (k + 1)) = parseN b 576460752303423487 0 (bs s)) := Lib.hid ⟨by omega, by omega, by rw [hN]; exact hq⟩
          rw [← hN] at hw2 hw4
          have hN2 := hN.symm
          have HQL : Hid (¬ (576460752303423487 - V) / b < a) := Lib.hid hQ
          clear hq hNV hiff hle hab0 hN
          go_wp2_with fail
          refine (HV.out _).mono ?_
          rintro e w' ⟨rfl, rfl⟩
          go_wp2_with fail
          go_roundg (s.size - (k + 1))
          case measure => rw [HK.out]; omega
          case rel => exact ⟨k + 1, N, rfl, by go_num, rfl, by omega, HR2.out.1, HR2.out.2.1, HR2.out.2.2, rfl⟩
    · have hq := HR.out
      rw [bs_end s k (by omega)] at hq
      by_cases h0 : s.size = 0
      · have HE : Hid (P = (0, false)) := Lib.hid (by rw [HP.out]; unfold numVal; rw [if_pos h0]; rfl)
        have hk0 : k = 0 := by omega
        have HA : Hid (a = 0) := Lib.hid (by
          have hb : bs s = [] := by simpa using bs_end s 0 (by omega)
          rw [hb] at hq
          simp only [parseN] at hq
          injection hq)
        have hz : decide ((s.size : Int) > 0) = false := decide_eq_false (by omega)
        clear hq h0
        go_wp2_with fail
        go_ret2
        exact ⟨by rw [HE.out, HA.out]; rfl, rfl⟩
      · have HE : Hid (P = (a, decide (0 < s.size))) := Lib.hid (by rw [HP.out, decide_eq_true (show 0 < s.size by omega)]; unfold numVal; rw [if_neg h0, ← hq]; rfl)
        have hz : decide ((s.size : Int) > 0) = true := decide_eq_true (by omega)
        clear hq h0
        go_wp2_with fail
        go_ret2
        exact ⟨by rw [HE.out]; rfl, rfl⟩
end Go.Proofs.YtpjmjogkkgbblaaGreatDoor
namespace Go.Proofs.YtpjmjogkkgbblaaGreatDoor
open Go.RowKit Go.Proofs.YtpjmjogkkgbblaaGreatDoorW.PrintWords

/-- A token with its place. -/
def placed (k : Nat) (r : Tok) : Tok := if r.2.2 = [] then (⟨r.1.kd, r.1.tx, r.1.nm, k⟩, r.2.1, []) else r
def TokR (w : World) (r : Tok) (e : Ending) (w' : World) : Prop := ∃ v, e = .returned (.tuple #[tkV r.1, .int .i64 (r.2.1 : Int), v]) ∧ LnIs w' w.heap.size r.2.2 v ∧ Below w.heap.size w w'
/-- The result's block of a function of the reference. -/
structure RefFrame (w W : World) (rb : Nat) : Prop where
  tk : TkAt W rb zTk
  bl : Below w.heap.size w W
  l2 : rb < W.heap.size
  ge : w.heap.size ≤ rb
theorem RefFrame.start (w : World) : RefFrame w (w.alloc (.cells #[.int .i64 0, .string ⟨#[]⟩, .int .i64 0, .int .i64 0] 36)) w.heap.size :=
  ⟨TkAt.new w, below_alloc (Below.refl _ _) _, by simp, Nat.le_refl _⟩
theorem LnIs.put {W : World} {base g : Nat} {l : List Lk} {v : Value} (h : LnIs W base l v) (hg : g < base) (v0 v1 v2 v3 : Value) :
    LnIs ((((W.setCell ⟨g, 0, none⟩ v0).setCell ⟨g, 1, none⟩ v1).setCell ⟨g, 2, none⟩ v2).setCell ⟨g, 3, none⟩ v3) base l v := by
  have one : ∀ {W : World} (o : Nat) (u : Value), LnIs W base l v → LnIs (W.setCell ⟨g, o, none⟩ u) base l v := fun {W} o u h => by
    refine ⟨Kd.R_grown1 h.1 rfl (grown_set _ _ _ _) ?_, h.2⟩
    obtain ⟨inner, ho⟩ := Kd.R_own h.1
    intro he
    have := own_base ho _ he.symm
    omega
  exact one _ _ (one _ _ (one _ _ (one _ _ h)))
theorem RefFrame.step {w W W' : World} {rb : Nat} (h : RefFrame w W rb) (hb : Below W.heap.size W W') : RefFrame w W' rb :=
  ⟨h.tk.below hb h.l2, trans_below h.bl hb, Nat.lt_of_lt_of_le h.l2 hb.size, h.ge⟩

theorem RefFrame.fail {w W W' : World} {rb : Nat} (h : RefFrame w W rb) {l : List Lk} {v : Value} (hL : LnIs W' W.heap.size l v) (hB : Below W.heap.size W W') :
    TokR w (noTok l) (.returned (.tuple #[tkV zTk, .int .i64 0, v])) ((((W'.setCell ⟨rb, 0, none⟩ (.int .i64 0)).setCell ⟨rb, 1, none⟩ (.string ⟨#[]⟩)).setCell ⟨rb, 2, none⟩ (.int .i64 0)).setCell ⟨rb, 3, none⟩ (.int .i64 0)) :=
  ⟨v, rfl, (hL.put h.l2 _ _ _ _).lower h.bl.size, (trans_below h.bl hB).trans (put_below h.ge _ _ _ _)⟩
theorem RefFrame.done {w W : World} {rb : Nat} (h : RefFrame w W rb) (t : Tk) (n : Nat) :
    TokR w (t, n, []) (.returned (.tuple #[tkV t, .int .i64 (n : Int), .slice none 0 0])) ((((W.setCell ⟨rb, 0, none⟩ (.int .i64 t.kd)).setCell ⟨rb, 1, none⟩ (.string t.tx)).setCell ⟨rb, 2, none⟩ (.int .i64 t.nm)).setCell ⟨rb, 3, none⟩ (.int .i64 t.at_)) :=
  ⟨_, rfl, LnIs.nil _ _, h.bl.trans (put_below h.ge _ _ _ _)⟩
theorem parseN_range {b m : Int} : ∀ {l : List Int} {a n : Int}, 0 ≤ a → a ≤ m → 0 ≤ b → parseN b m a l = some n → 0 ≤ n ∧ n ≤ m
  | [], a, n, h0, h1, _, h => by
    simp only [parseN] at h
    injection h with h
    omega
  | c :: l, a, n, h0, h1, hb, h => by
    simp only [parseN] at h
    have := valOf_nonneg c
    have := Int.mul_nonneg h0 hb
    split at h
    · cases h
    · split at h
      · cases h
      · exact parseN_range (by omega) (by omega) hb h
theorem numVal_range {b n : Int} {s : ByteArray} (hb : 0 ≤ b) (h : numVal b s = some n) : 0 ≤ n ∧ n ≤ 576460752303423487 := by
  unfold numVal at h
  split at h
  · cases h
  · exact parseN_range (by decide) (by decide) hb h

theorem val_alnum (c : Int) : isAlnum c = decide (valOf c < 99) := by
  unfold isAlnum valOf isDigit isSmall isCapital
  by_cases h1 : 48 ≤ c <;> by_cases h2 : c ≤ 57 <;> by_cases h3 : 97 ≤ c <;> by_cases h4 : c ≤ 122 <;> by_cases h5 : 65 ≤ c <;> by_cases h6 : c ≤ 90 <;> simp [h1, h2, h3, h4, h5, h6] <;> omega

set_option maxRecDepth 100000 in
set_option maxHeartbeats 6000000 in
theorem ref10_figure (s : ByteArray) (f : Nat) (hf : f ≤ s.size) (hm : s.size ≤ 140737488351232) (w : World) :
    Calls Tryz.prog 66 #[.string s, .int .i64 (f : Int)] w (TokR w (placed f (numTok s f))) := by
  have hfr := RefFrame.start w
  obtain ⟨W1, hW1⟩ : ∃ W, W = w.alloc (.cells #[.int .i64 0, .string ⟨#[]⟩, .int .i64 0, .int .i64 0] 36) := ⟨_, rfl⟩
  rw [← hW1] at hfr
  have HF := Lib.hid hfr
  have hW := hW1.symm
  clear hW1 hfr
  obtain ⟨R, hR⟩ : ∃ R, R = placed f (numTok s f) := ⟨_, rfl⟩
  rw [← hR]
  have HR := Lib.hid hR
  clear hR
  go_enter Tryz.func66, Tryz.ntmps66
  go_wp2_with fail
  go_loopg [7] (s.size - f) (fun gk vi wl => ∃ k : Nat, vi = .int .i64 (k : Int) ∧ gk = s.size - k ∧ f ≤ k ∧ k ≤ s.size ∧ Hid (runEnd isDigit s k = runEnd isDigit s f) ∧ wl = W1)
  case atStart => exact ⟨f, rfl, rfl, Nat.le_refl _, hf, rfl, rfl⟩
  case round =>
    obtain ⟨k, rfl, hgk, hfk, hk, HE, rfl⟩ := hrel
    have HK := Lib.hid hgk
    clear hgk
    have e2 : (f : Int) ≤ (k : Int) := by omega
    have e3 : (k : Int) ≤ (s.size : Int) := by omega
    have HNB := fun b hb0 hb1 hm => Lib.hid (ref10_number (s.extract f k) b hb0 hb1 hm)
    by_cases hlt : k < s.size
    · have hb := btk s k
      have e0 : (0 : Int) ≤ (k : Int) := by omega
      have e1 : (k : Int) < (s.size : Int) := by omega
      cases hd : isDigit (bt s (k : Int)) with
      | true =>
        have HN := Lib.hid ((runEnd_yes hlt hd).trans HE.out)
        go_wp2_with fail
        refine (ref10_digit _ _).mono ?_
        rintro e w' ⟨rfl, rfl⟩
        go_wp2_with fail
        go_roundg (s.size - (k + 1))
        case measure => rw [HK.out]; omega
        case rel => exact ⟨k + 1, by go_num, rfl, by omega, by omega, HN, rfl⟩
      | false =>
        have HN : Hid (k = runEnd isDigit s f) := Lib.hid ((runEnd_no hlt hd).symm.trans HE.out)
        have hb := btk s k
        go_wp2_with fail
        refine (ref10_digit _ _).mono ?_
        rintro e w' ⟨rfl, rfl⟩
        by_cases h35 : bt s (k : Int) = 35
        · have q1 : (k : Int) < (s.size : Int) := by omega
          have q2 : (bt s (k : Int) == 35) = true := beq_iff_eq.2 h35
          cases hn : numVal 10 (s.extract f k) with
          | none =>
            have HN1 := Lib.hid (show ∀ W, Calls Tryz.prog 95 #[.string (s.extract f k), .int .i64 10] W fun e w' => e = .returned (.tuple #[.int .i64 0, .bool false]) ∧ W = w' from fun W => by have h := (HNB 10 (by decide) (by decide) (by simp; omega)).out W; rw [hn] at h; exact h)
            have HQ : Hid (R = noTok [⟨nLex, f, 201⟩]) := Lib.hid (by rw [HR.out]; unfold numTok; rw [← HN.out, if_pos ⟨hlt, h35⟩]; unfold baseOf; rw [hn]; rfl)
            clear hn h35
            go_wp2_with fail
            refine (HN1.out _).mono ?_
            rintro e w' ⟨rfl, rfl⟩
            go_wp2_with fail
            obtain ⟨wo, rfl⟩ : ∃ wo : World, wo = wr := ⟨_, rfl⟩
            go_loopg [10] (s.size - (k + 1)) (fun gk vi wl => ∃ j : Nat, vi = .int .i64 (j : Int) ∧ gk = s.size - j ∧ k + 1 ≤ j ∧ j ≤ s.size ∧ Hid (runEnd isAlnum s j = runEnd isAlnum s (k + 1)) ∧ wl = wo)
            case atStart => exact ⟨k + 1, by go_num, rfl, Nat.le_refl _, by omega, rfl, rfl⟩
            case round =>
              obtain ⟨j, rfl, hgj, hkj, hj, HE2, rfl⟩ := hrel
              have HJ := Lib.hid hgj
              clear hgj
              by_cases hlt2 : j < s.size
              · have hb2 := btk s j
                have e0 : (0 : Int) ≤ (j : Int) := by omega
                have e1 : (j : Int) < (s.size : Int) := by omega
                have hr2 := bt_range s (j : Int)
                have HV2 := Lib.hid (ref10_value (bt s (j : Int)) hr2.1 hr2.2)
                cases hd2 : isAlnum (bt s (j : Int)) with
                | true =>
                  have HN2 := Lib.hid ((runEnd_yes hlt2 hd2).trans HE2.out)
                  have hdd : decide (valOf (bt s (j : Int)) < 99) = true := by rw [← val_alnum]; exact hd2
                  go_wp2_with fail
                  refine (HV2.out _).mono ?_
                  rintro e w' ⟨rfl, rfl⟩
                  go_wp2_with fail
                  go_roundg (s.size - (j + 1))
                  case measure => rw [HJ.out]; omega
                  case rel => exact ⟨j + 1, by go_num, rfl, by omega, by omega, HN2, rfl⟩
                | false =>
                  have HF2 : Hid (j = runEnd isAlnum s (k + 1)) := Lib.hid ((runEnd_no hlt2 hd2).symm.trans HE2.out)
                  have hdd : decide (valOf (bt s (j : Int)) < 99) = false := by rw [← val_alnum]; exact hd2
                  clear hd2
                  go_wp2_with fail
                  refine (HV2.out _).mono ?_
                  rintro e w' ⟨rfl, rfl⟩
                  go_wp2_with fail
                  refine (ref10_no _ _ _).mono ?_
                  rintro e w9 ⟨v9, rfl, hL9, hB9⟩
                  have HL9 := Lib.hid hL9
                  have HB9 := Lib.hid hB9
                  have HT9 := Lib.hid (HF.out.step hB9).tk
                  obtain ⟨r0, r1, r2, r3, f0, f1, f2, f3⟩ := HT9.out
                  simp only [zTk] at r0 r1 r2 r3
                  clear hL9 hB9
                  go_wp2_with fail
                  refine bodyPost_ret (res_tok' rfl _ _ w.heap.size zTk (by rfl) (HT9.out.put zTk)) rfl ?_
                  rw [HQ.out]
                  exact HF.out.fail HL9.out HB9.out
              · have HF2 : Hid (j = runEnd isAlnum s (k + 1)) := Lib.hid ((runEnd_out (p := isAlnum) (show s.size ≤ j by omega)).symm.trans HE2.out)
                have d9 : decide ((j : Int) < (s.size : Int)) = false := decide_eq_false (by omega)
                go_wp2_with fail
                refine (ref10_no _ _ _).mono ?_
                rintro e w9 ⟨v9, rfl, hL9, hB9⟩
                have HL9 := Lib.hid hL9
                have HB9 := Lib.hid hB9
                have HT9 := Lib.hid (HF.out.step hB9).tk
                obtain ⟨r0, r1, r2, r3, f0, f1, f2, f3⟩ := HT9.out
                simp only [zTk] at r0 r1 r2 r3
                clear hL9 hB9
                go_wp2_with fail
                refine bodyPost_ret (res_tok' rfl _ _ w.heap.size zTk (by rfl) (HT9.out.put zTk)) rfl ?_
                rw [HQ.out]
                exact HF.out.fail HL9.out HB9.out
          | some n =>
            have HN1 := Lib.hid (show ∀ W, Calls Tryz.prog 95 #[.string (s.extract f k), .int .i64 10] W fun e w' => e = .returned (.tuple #[.int .i64 n, .bool true]) ∧ W = w' from fun W => by have h := (HNB 10 (by decide) (by decide) (by simp; omega)).out W; rw [hn] at h; exact h)
            have HQ0 : Hid ((2 ≤ n ∧ n ≤ 36 → R = placed f (numEnd f (runEnd isAlnum s (k + 1)) (numVal n (s.extract (k + 1) (runEnd isAlnum s (k + 1)))))) ∧ (¬ (2 ≤ n ∧ n ≤ 36) → R = noTok [⟨nLex, f, 201⟩])) := Lib.hid (by
              rw [HR.out]; unfold numTok; rw [← HN.out, if_pos ⟨hlt, h35⟩]; unfold baseOf; rw [hn]; simp only [Option.bind_some]
              exact ⟨fun h => by rw [if_pos h], fun h => by rw [if_neg h]; rfl⟩)
            clear hn h35
            go_wp2_with fail
            refine (HN1.out _).mono ?_
            rintro e w' ⟨rfl, rfl⟩
            go_wp2_with fail
            obtain ⟨wo, rfl⟩ : ∃ wo : World, wo = wr := ⟨_, rfl⟩
            go_loopg [10] (s.size - (k + 1)) (fun gk vi wl => ∃ j : Nat, vi = .int .i64 (j : Int) ∧ gk = s.size - j ∧ k + 1 ≤ j ∧ j ≤ s.size ∧ Hid (runEnd isAlnum s j = runEnd isAlnum s (k + 1)) ∧ wl = wo)
            case atStart => exact ⟨k + 1, by go_num, rfl, Nat.le_refl _, by omega, rfl, rfl⟩
            case round =>
              obtain ⟨j, rfl, hgj, hkj, hj, HE2, rfl⟩ := hrel
              have HJ := Lib.hid hgj
              clear hgj
              by_cases hlt2 : j < s.size
              · have hb2 := btk s j
                have e0 : (0 : Int) ≤ (j : Int) := by omega
                have e1 : (j : Int) < (s.size : Int) := by omega
                have hr2 := bt_range s (j : Int)
                have HV2 := Lib.hid (ref10_value (bt s (j : Int)) hr2.1 hr2.2)
                cases hd2 : isAlnum (bt s (j : Int)) with
                | true =>
                  have HN2 := Lib.hid ((runEnd_yes hlt2 hd2).trans HE2.out)
                  have hdd : decide (valOf (bt s (j : Int)) < 99) = true := by rw [← val_alnum]; exact hd2
                  go_wp2_with fail
                  refine (HV2.out _).mono ?_
                  rintro e w' ⟨rfl, rfl⟩
                  go_wp2_with fail
                  go_roundg (s.size - (j + 1))
                  case measure => rw [HJ.out]; omega
                  case rel => exact ⟨j + 1, by go_num, rfl, by omega, by omega, HN2, rfl⟩
                | false =>
                  have HF2 : Hid (j = runEnd isAlnum s (k + 1)) := Lib.hid ((runEnd_no hlt2 hd2).symm.trans HE2.out)
                  have hdd : decide (valOf (bt s (j : Int)) < 99) = false := by rw [← val_alnum]; exact hd2
                  clear hd2
                  go_wp2_with fail
                  refine (HV2.out _).mono ?_
                  rintro e w' ⟨rfl, rfl⟩
                  have h4 : (k : Int) + 1 ≤ (j : Int) := by omega
                  have h5 : (j : Int) ≤ (s.size : Int) := by omega
                  by_cases hn2 : n < 2
                  · have d2 : decide (n < 2) = true := decide_eq_true hn2
                    have HQ : Hid (R = noTok [⟨nLex, f, 201⟩]) := Lib.hid (HQ0.out.2 (by omega))
                    go_wp2_with fail
                    refine (ref10_no _ _ _).mono ?_
                    rintro e w9 ⟨v9, rfl, hL9, hB9⟩
                    have HL9 := Lib.hid hL9
                    have HB9 := Lib.hid hB9
                    have HT9 := Lib.hid (HF.out.step hB9).tk
                    obtain ⟨r0, r1, r2, r3, f0, f1, f2, f3⟩ := HT9.out
                    simp only [zTk] at r0 r1 r2 r3
                    clear hL9 hB9
                    go_wp2_with fail
                    refine bodyPost_ret (res_tok' rfl _ _ w.heap.size zTk (by rfl) (HT9.out.put zTk)) rfl ?_
                    rw [HQ.out]
                    exact HF.out.fail HL9.out HB9.out
                  · have d2 : decide (n < 2) = false := decide_eq_false hn2
                    by_cases hn36 : n > 36
                    · have d3 : decide (n > 36) = true := decide_eq_true hn36
                      have HQ : Hid (R = noTok [⟨nLex, f, 201⟩]) := Lib.hid (HQ0.out.2 (by omega))
                      go_wp2_with fail
                      refine (ref10_no _ _ _).mono ?_
                      rintro e w9 ⟨v9, rfl, hL9, hB9⟩
                      have HL9 := Lib.hid hL9
                      have HB9 := Lib.hid hB9
                      have HT9 := Lib.hid (HF.out.step hB9).tk
                      obtain ⟨r0, r1, r2, r3, f0, f1, f2, f3⟩ := HT9.out
                      simp only [zTk] at r0 r1 r2 r3
                      clear hL9 hB9
                      go_wp2_with fail
                      refine bodyPost_ret (res_tok' rfl _ _ w.heap.size zTk (by rfl) (HT9.out.put zTk)) rfl ?_
                      rw [HQ.out]
                      exact HF.out.fail HL9.out HB9.out
                    · have d3 : decide (n > 36) = false := decide_eq_false hn36
                      have hu0 := HQ0.out.1 ⟨by omega, by omega⟩
                      rw [← HF2.out] at hu0
                      cases hu : numVal n (s.extract (k + 1) j) with
                      | none =>
                        have HN3 := Lib.hid (show ∀ W, Calls Tryz.prog 95 #[.string (s.extract (k + 1) j), .int .i64 n] W fun e w' => e = .returned (.tuple #[.int .i64 0, .bool false]) ∧ W = w' from fun W => by have h := ref10_number (s.extract (k + 1) j) n (by omega) (by omega) (by simp; omega) W; rw [hu] at h; exact h)
                        rw [hu] at hu0
                        have HQ : Hid (R = noTok [⟨nLex, f, 201⟩]) := Lib.hid hu0
                        clear hu hu0 hn2 hn36
                        go_wp2_with fail
                        refine (HN3.out _).mono ?_
                        rintro e w' ⟨rfl, rfl⟩
                        go_wp2_with fail
                        refine (ref10_no _ _ _).mono ?_
                        rintro e w9 ⟨v9, rfl, hL9, hB9⟩
                        have HL9 := Lib.hid hL9
                        have HB9 := Lib.hid hB9
                        have HT9 := Lib.hid (HF.out.step hB9).tk
                        obtain ⟨r0, r1, r2, r3, f0, f1, f2, f3⟩ := HT9.out
                        simp only [zTk] at r0 r1 r2 r3
                        clear hL9 hB9
                        go_wp2_with fail
                        refine bodyPost_ret (res_tok' rfl _ _ w.heap.size zTk (by rfl) (HT9.out.put zTk)) rfl ?_
                        rw [HQ.out]
                        exact HF.out.fail HL9.out HB9.out
                      | some v =>
                        have HN3 := Lib.hid (show ∀ W, Calls Tryz.prog 95 #[.string (s.extract (k + 1) j), .int .i64 n] W fun e w' => e = .returned (.tuple #[.int .i64 v, .bool true]) ∧ W = w' from fun W => by have h := ref10_number (s.extract (k + 1) j) n (by omega) (by omega) (by simp; omega) W; rw [hu] at h; exact h)
                        rw [hu] at hu0
                        have HQ : Hid (R = (⟨3, ⟨#[]⟩, v, f⟩, j, [])) := Lib.hid hu0
                        clear hu hu0 hn2 hn36
                        go_wp2_with fail
                        refine (HN3.out _).mono ?_
                        rintro e w' ⟨rfl, rfl⟩
                        obtain ⟨r0, r1, r2, r3, f0, f1, f2, f3⟩ := HF.out.tk
                        simp only [zTk] at r0 r1 r2 r3
                        go_wp2_with fail
                        refine bodyPost_ret (res_tok' rfl _ _ w.heap.size ⟨3, ⟨#[]⟩, v, f⟩ (by rfl) (HF.out.tk.put ⟨3, ⟨#[]⟩, v, f⟩)) rfl ?_
                        rw [HQ.out]
                        exact HF.out.done ⟨3, ⟨#[]⟩, v, f⟩ _
              · have HF2 : Hid (j = runEnd isAlnum s (k + 1)) := Lib.hid ((runEnd_out (p := isAlnum) (show s.size ≤ j by omega)).symm.trans HE2.out)
                have d9 : decide ((j : Int) < (s.size : Int)) = false := decide_eq_false (by omega)
                have h4 : (k : Int) + 1 ≤ (j : Int) := by omega
                have h5 : (j : Int) ≤ (s.size : Int) := by omega
                by_cases hn2 : n < 2
                · have d2 : decide (n < 2) = true := decide_eq_true hn2
                  have HQ : Hid (R = noTok [⟨nLex, f, 201⟩]) := Lib.hid (HQ0.out.2 (by omega))
                  go_wp2_with fail
                  refine (ref10_no _ _ _).mono ?_
                  rintro e w9 ⟨v9, rfl, hL9, hB9⟩
                  have HL9 := Lib.hid hL9
                  have HB9 := Lib.hid hB9
                  have HT9 := Lib.hid (HF.out.step hB9).tk
                  obtain ⟨r0, r1, r2, r3, f0, f1, f2, f3⟩ := HT9.out
                  simp only [zTk] at r0 r1 r2 r3
                  clear hL9 hB9
                  go_wp2_with fail
                  refine bodyPost_ret (res_tok' rfl _ _ w.heap.size zTk (by rfl) (HT9.out.put zTk)) rfl ?_
                  rw [HQ.out]
                  exact HF.out.fail HL9.out HB9.out
                · have d2 : decide (n < 2) = false := decide_eq_false hn2
                  by_cases hn36 : n > 36
                  · have d3 : decide (n > 36) = true := decide_eq_true hn36
                    have HQ : Hid (R = noTok [⟨nLex, f, 201⟩]) := Lib.hid (HQ0.out.2 (by omega))
                    go_wp2_with fail
                    refine (ref10_no _ _ _).mono ?_
                    rintro e w9 ⟨v9, rfl, hL9, hB9⟩
                    have HL9 := Lib.hid hL9
                    have HB9 := Lib.hid hB9
                    have HT9 := Lib.hid (HF.out.step hB9).tk
                    obtain ⟨r0, r1, r2, r3, f0, f1, f2, f3⟩ := HT9.out
                    simp only [zTk] at r0 r1 r2 r3
                    clear hL9 hB9
                    go_wp2_with fail
                    refine bodyPost_ret (res_tok' rfl _ _ w.heap.size zTk (by rfl) (HT9.out.put zTk)) rfl ?_
                    rw [HQ.out]
                    exact HF.out.fail HL9.out HB9.out
                  · have d3 : decide (n > 36) = false := decide_eq_false hn36
                    have hu0 := HQ0.out.1 ⟨by omega, by omega⟩
                    rw [← HF2.out] at hu0
                    cases hu : numVal n (s.extract (k + 1) j) with
                    | none =>
                      have HN3 := Lib.hid (show ∀ W, Calls Tryz.prog 95 #[.string (s.extract (k + 1) j), .int .i64 n] W fun e w' => e = .returned (.tuple #[.int .i64 0, .bool false]) ∧ W = w' from fun W => by have h := ref10_number (s.extract (k + 1) j) n (by omega) (by omega) (by simp; omega) W; rw [hu] at h; exact h)
                      rw [hu] at hu0
                      have HQ : Hid (R = noTok [⟨nLex, f, 201⟩]) := Lib.hid hu0
                      clear hu hu0 hn2 hn36
                      go_wp2_with fail
                      refine (HN3.out _).mono ?_
                      rintro e w' ⟨rfl, rfl⟩
                      go_wp2_with fail
                      refine (ref10_no _ _ _).mono ?_
                      rintro e w9 ⟨v9, rfl, hL9, hB9⟩
                      have HL9 := Lib.hid hL9
                      have HB9 := Lib.hid hB9
                      have HT9 := Lib.hid (HF.out.step hB9).tk
                      obtain ⟨r0, r1, r2, r3, f0, f1, f2, f3⟩ := HT9.out
                      simp only [zTk] at r0 r1 r2 r3
                      clear hL9 hB9
                      go_wp2_with fail
                      refine bodyPost_ret (res_tok' rfl _ _ w.heap.size zTk (by rfl) (HT9.out.put zTk)) rfl ?_
                      rw [HQ.out]
                      exact HF.out.fail HL9.out HB9.out
                    | some v =>
                      have HN3 := Lib.hid (show ∀ W, Calls Tryz.prog 95 #[.string (s.extract (k + 1) j), .int .i64 n] W fun e w' => e = .returned (.tuple #[.int .i64 v, .bool true]) ∧ W = w' from fun W => by have h := ref10_number (s.extract (k + 1) j) n (by omega) (by omega) (by simp; omega) W; rw [hu] at h; exact h)
                      rw [hu] at hu0
                      have HQ : Hid (R = (⟨3, ⟨#[]⟩, v, f⟩, j, [])) := Lib.hid hu0
                      clear hu hu0 hn2 hn36
                      go_wp2_with fail
                      refine (HN3.out _).mono ?_
                      rintro e w' ⟨rfl, rfl⟩
                      obtain ⟨r0, r1, r2, r3, f0, f1, f2, f3⟩ := HF.out.tk
                      simp only [zTk] at r0 r1 r2 r3
                      go_wp2_with fail
                      refine bodyPost_ret (res_tok' rfl _ _ w.heap.size ⟨3, ⟨#[]⟩, v, f⟩ (by rfl) (HF.out.tk.put ⟨3, ⟨#[]⟩, v, f⟩)) rfl ?_
                      rw [HQ.out]
                      exact HF.out.done ⟨3, ⟨#[]⟩, v, f⟩ _
        · have q1 : (k : Int) < (s.size : Int) := by omega
          have q2 : (bt s (k : Int) == 35) = false := beq_eq_false_iff_ne.2 h35
          replace h35 : ¬ (k < s.size ∧ bt s (k : Int) = 35) := fun h => h35 h.2
          cases hn : numVal 10 (s.extract f k) with
          | none =>
            have HN1 := Lib.hid (show ∀ W, Calls Tryz.prog 95 #[.string (s.extract f k), .int .i64 10] W fun e w' => e = .returned (.tuple #[.int .i64 0, .bool false]) ∧ W = w' from fun W => by have h := (HNB 10 (by decide) (by decide) (by simp; omega)).out W; rw [hn] at h; exact h)
            have HQ : Hid (R = noTok [⟨nLex, f, 201⟩]) := Lib.hid (by rw [HR.out]; unfold numTok; rw [← HN.out, if_neg (fun h => h35 h), hn]; rfl)
            clear hn h35
            go_wp2_with fail
            refine (HN1.out _).mono ?_
            rintro e w' ⟨rfl, rfl⟩
            go_wp2_with fail
            refine (ref10_no _ _ _).mono ?_
            rintro e w9 ⟨v9, rfl, hL9, hB9⟩
            have HL9 := Lib.hid hL9
            have HB9 := Lib.hid hB9
            have HT9 := Lib.hid (HF.out.step hB9).tk
            obtain ⟨r0, r1, r2, r3, f0, f1, f2, f3⟩ := HT9.out
            simp only [zTk] at r0 r1 r2 r3
            clear hL9 hB9
            go_wp2_with fail
            refine bodyPost_ret (res_tok' rfl _ _ w.heap.size zTk (by rfl) (HT9.out.put zTk)) rfl ?_
            rw [HQ.out]
            exact HF.out.fail HL9.out HB9.out
          | some n =>
            have HN1 := Lib.hid (show ∀ W, Calls Tryz.prog 95 #[.string (s.extract f k), .int .i64 10] W fun e w' => e = .returned (.tuple #[.int .i64 n, .bool true]) ∧ W = w' from fun W => by have h := (HNB 10 (by decide) (by decide) (by simp; omega)).out W; rw [hn] at h; exact h)
            have HQ : Hid (R = (⟨3, ⟨#[]⟩, n, f⟩, k, [])) := Lib.hid (by rw [HR.out]; unfold numTok; rw [← HN.out, if_neg (fun h => h35 h), hn]; rfl)
            clear hn h35
            go_wp2_with fail
            refine (HN1.out _).mono ?_
            rintro e w' ⟨rfl, rfl⟩
            obtain ⟨r0, r1, r2, r3, f0, f1, f2, f3⟩ := HF.out.tk
            simp only [zTk] at r0 r1 r2 r3
            go_wp2_with fail
            refine bodyPost_ret (res_tok' rfl _ _ w.heap.size ⟨3, ⟨#[]⟩, n, f⟩ (by rfl) (HF.out.tk.put ⟨3, ⟨#[]⟩, n, f⟩)) rfl ?_
            rw [HQ.out]
            exact HF.out.done ⟨3, ⟨#[]⟩, n, f⟩ _
    · have HN : Hid (k = runEnd isDigit s f) := Lib.hid ((runEnd_out (p := isDigit) (show s.size ≤ k by omega)).symm.trans HE.out)
      have d0 : decide ((k : Int) < (s.size : Int)) = false := decide_eq_false (by omega)
      have h35 : ¬ (k < s.size ∧ bt s (k : Int) = 35) := fun h => hlt h.1
      cases hn : numVal 10 (s.extract f k) with
      | none =>
        have HN1 := Lib.hid (show ∀ W, Calls Tryz.prog 95 #[.string (s.extract f k), .int .i64 10] W fun e w' => e = .returned (.tuple #[.int .i64 0, .bool false]) ∧ W = w' from fun W => by have h := (HNB 10 (by decide) (by decide) (by simp; omega)).out W; rw [hn] at h; exact h)
        have HQ : Hid (R = noTok [⟨nLex, f, 201⟩]) := Lib.hid (by rw [HR.out]; unfold numTok; rw [← HN.out, if_neg (fun h => h35 h), hn]; rfl)
        clear hn h35
        go_wp2_with fail
        refine (HN1.out _).mono ?_
        rintro e w' ⟨rfl, rfl⟩
        go_wp2_with fail
        refine (ref10_no _ _ _).mono ?_
        rintro e w9 ⟨v9, rfl, hL9, hB9⟩
        have HL9 := Lib.hid hL9
        have HB9 := Lib.hid hB9
        have HT9 := Lib.hid (HF.out.step hB9).tk
        obtain ⟨r0, r1, r2, r3, f0, f1, f2, f3⟩ := HT9.out
        simp only [zTk] at r0 r1 r2 r3
        clear hL9 hB9
        go_wp2_with fail
        refine bodyPost_ret (res_tok' rfl _ _ w.heap.size zTk (by rfl) (HT9.out.put zTk)) rfl ?_
        rw [HQ.out]
        exact HF.out.fail HL9.out HB9.out
      | some n =>
        have HN1 := Lib.hid (show ∀ W, Calls Tryz.prog 95 #[.string (s.extract f k), .int .i64 10] W fun e w' => e = .returned (.tuple #[.int .i64 n, .bool true]) ∧ W = w' from fun W => by have h := (HNB 10 (by decide) (by decide) (by simp; omega)).out W; rw [hn] at h; exact h)
        have HQ : Hid (R = (⟨3, ⟨#[]⟩, n, f⟩, k, [])) := Lib.hid (by rw [HR.out]; unfold numTok; rw [← HN.out, if_neg (fun h => h35 h), hn]; rfl)
        clear hn h35
        go_wp2_with fail
        refine (HN1.out _).mono ?_
        rintro e w' ⟨rfl, rfl⟩
        obtain ⟨r0, r1, r2, r3, f0, f1, f2, f3⟩ := HF.out.tk
        simp only [zTk] at r0 r1 r2 r3
        go_wp2_with fail
        refine bodyPost_ret (res_tok' rfl _ _ w.heap.size ⟨3, ⟨#[]⟩, n, f⟩ (by rfl) (HF.out.tk.put ⟨3, ⟨#[]⟩, n, f⟩)) rfl ?_
        rw [HQ.out]
        exact HF.out.done ⟨3, ⟨#[]⟩, n, f⟩ _
end Go.Proofs.YtpjmjogkkgbblaaGreatDoor
namespace Go.Proofs.YtpjmjogkkgbblaaGreatDoor
open Go.RowKit Go.Proofs.YtpjmjogkkgbblaaGreatDoorW.PrintWords

set_option maxRecDepth 100000 in
set_option maxHeartbeats 4000000 in
theorem ref10_escape (T : ByteArray) (hm : T.size ≤ 140737488351232) (w : World) :
    Calls Tryz.prog 97 #[.string T] w fun e w' => e = .returned (.tuple #[.int .i64 (escC (bs T)).1, .int .i64 ((escC (bs T)).2 : Int)]) ∧ Drawn0 w w' := by
  obtain ⟨P, hP⟩ : ∃ P, P = escC (bs T) := ⟨_, rfl⟩
  rw [← hP]
  have HP := Lib.hid hP
  clear hP
  by_cases h0 : T.size = 0
  · have HE : Hid (P = (0, 0)) := Lib.hid (by rw [HP.out, show bs T = [] by simpa using bs_end T 0 (by omega)]; rfl)
    have hl := isEmpty_of h0
    clear h0
    go_enter Tryz.func97, Tryz.ntmps97
    go_wp2_with fail
    go_ret2
    exact ⟨by rw [HE.out]; rfl, Drawn0.refl _⟩
  · have hl := isEmpty_not h0
    have hbs : bs T = bt T 0 :: (bs T).drop 1 := by simpa using bs_drop T 0 (by omega)
    have hb := btk T 0
    have hr := bt_range T 0
    have e1 : (0 : Int) < (T.size : Int) := by omega
    by_cases hx : bt T 0 = 120
    · have c1 : (bt T 0 == 110) = false := by rw [hx]; rfl
      have c2 : (bt T 0 == 116) = false := by rw [hx]; rfl
      have c3 : (bt T 0 == 114) = false := by rw [hx]; rfl
      have c4 : (bt T 0 == 115) = false := by rw [hx]; rfl
      have c5 : (bt T 0 == 92) = false := by rw [hx]; rfl
      have c6 : (bt T 0 == 39) = false := by rw [hx]; rfl
      have c7 : (bt T 0 == 34) = false := by rw [hx]; rfl
      have c8 : (bt T 0 == 120) = true := by rw [hx]; rfl
      by_cases h2 : T.size > 2
      · have d2 : (2 : Int) < (T.size : Int) := by omega
        have d1 : (1 : Int) < (T.size : Int) := by omega
        have hb1 := btk T 1
        have hb2 := btk T 2
        have hr1 := bt_range T 1
        have hr2 := bt_range T 2
        have hbs1 : (bs T).drop 1 = bt T 1 :: (bs T).drop 2 := bs_drop T 1 (by omega)
        have hbs2 : (bs T).drop 2 = bt T 2 :: (bs T).drop 3 := bs_drop T 2 (by omega)
        have HE : Hid (P = if valOf (bt T 1) < 16 ∧ valOf (bt T 2) < 16 then (valOf (bt T 1) * 16 + valOf (bt T 2), 3) else (0, 0)) := Lib.hid (by rw [HP.out, hbs, hbs1, hbs2, hx]; rfl)
        have v1 := valOf_nonneg (bt T 1)
        have v2 := valOf_nonneg (bt T 2)
        have HV1 := Lib.hid (ref10_value (bt T 1) hr1.1 hr1.2)
        have HV2 := Lib.hid (ref10_value (bt T 2) hr2.1 hr2.2)
        clear hbs hbs1 hbs2 hx h2
        by_cases g1 : valOf (bt T 1) < 16
        · have q1 : decide (valOf (bt T 1) < 16) = true := decide_eq_true g1
          by_cases g2 : valOf (bt T 2) < 16
          · have q2 : decide (valOf (bt T 2) < 16) = true := decide_eq_true g2
            have HQ : Hid (P = (valOf (bt T 1) * 16 + valOf (bt T 2), 3)) := Lib.hid (by rw [HE.out, if_pos ⟨g1, g2⟩])
            have s1 : IntKind.i64.wrap (valOf (bt T 1) * 16) = valOf (bt T 1) * 16 := wrap_small _ (by omega) (by omega)
            have s2 : IntKind.i64.wrap (valOf (bt T 1) * 16 + valOf (bt T 2)) = valOf (bt T 1) * 16 + valOf (bt T 2) := wrap_small _ (by omega) (by omega)
            go_enter Tryz.func97, Tryz.ntmps97
            go_wp2_with fail
            refine (HV1.out _).mono ?_
            rintro e w' ⟨rfl, rfl⟩
            go_wp2_with fail
            refine (HV2.out _).mono ?_
            rintro e w' ⟨rfl, rfl⟩
            go_wp2_with fail
            have b10 := hr1.1
            have b11 := hr1.2
            have b20 := hr2.1
            have b21 := hr2.2
            go_quiet ((go_at_call 96; exact Calls.quiet_of_same ((ref10_value _ (by omega) (by omega) _).mono fun e w' h => ⟨h.1, h.2.symm⟩)))
            go_wp2_with fail
            go_ret2
            exact ⟨by rw [HQ.out]; rfl, ⟨_, rfl⟩⟩
          · have q2 : decide (valOf (bt T 2) < 16) = false := decide_eq_false g2
            have HQ : Hid (P = (0, 0)) := Lib.hid (by rw [HE.out, if_neg (fun h => g2 h.2)])
            go_enter Tryz.func97, Tryz.ntmps97
            go_wp2_with fail
            refine (HV1.out _).mono ?_
            rintro e w' ⟨rfl, rfl⟩
            go_wp2_with fail
            refine (HV2.out _).mono ?_
            rintro e w' ⟨rfl, rfl⟩
            go_wp2_with fail
            go_ret2
            exact ⟨by rw [HQ.out]; rfl, Drawn0.refl _⟩
        · have q1 : decide (valOf (bt T 1) < 16) = false := decide_eq_false g1
          have HQ : Hid (P = (0, 0)) := Lib.hid (by rw [HE.out, if_neg (fun h => g1 h.1)])
          go_enter Tryz.func97, Tryz.ntmps97
          go_wp2_with fail
          refine (HV1.out _).mono ?_
          rintro e w' ⟨rfl, rfl⟩
          go_wp2_with fail
          go_ret2
          exact ⟨by rw [HQ.out]; rfl, Drawn0.refl _⟩
      · have d2 : decide ((T.size : Int) > 2) = false := decide_eq_false (by omega)
        have HQ : Hid (P = (0, 0)) := Lib.hid (by
          rw [HP.out, hbs, hx]
          have hl : ((bs T).drop 1).length ≤ 1 := by rw [List.length_drop, bs_len]; omega
          match (bs T).drop 1, hl with
          | [], _ => rfl
          | [_], _ => rfl)
        clear hbs hx
        go_enter Tryz.func97, Tryz.ntmps97
        go_wp2_with fail
        go_ret2
        exact ⟨by rw [HQ.out]; rfl, Drawn0.refl _⟩
    · have c8 : (bt T 0 == 120) = false := beq_eq_false_iff_ne.2 hx
      have HX := Lib.hid hx
      obtain ⟨r, hrr⟩ : ∃ r, r = (bs T).drop 1 := ⟨_, rfl⟩
      rw [← hrr] at hbs
      have HBS := Lib.hid hbs
      have hE : ∀ v n, escC (bt T 0 :: r) = (v, n) → P = (v, n) := fun v n h => by rw [HP.out, HBS.out, h]
      have HE := Lib.hid hE
      clear hbs hx hrr hE
      go_enter Tryz.func97, Tryz.ntmps97
      go_wp2_with fail
      all_goals go_ret2
      all_goals
        refine ⟨?_, Drawn0.refl _⟩
        simp only [beq_iff_eq, beq_eq_false_iff_ne] at *
        have hp : P = escC (bt T 0 :: r) := HE.out _ _ rfl
        rw [hp]
        simp [escC, *]
end Go.Proofs.YtpjmjogkkgbblaaGreatDoor
