/-
  lex.Scan. heddlemem.Over, heddleref10.signs.
-/
import Derived.Test.YtgapeacflkfmdaaGreatDoorG8
import Derived.Test.YtgapeacflkfmdaaGreatDoorKWInvWords
namespace Go.Proofs.YtgapeacflkfmdaaGreatDoor
open Go.RowKit Go.Proofs.YtgapeacflkfmdaaGreatDoorW.PrintWords

/-- The tokens from p on, behind acc; or the first fault. -/
def scanFrom (s : ByteArray) (p : Nat) (acc : List Tk) : List Tk × List Lk :=
  if _h : p < s.size then
    if acc.length = 65536 then ([], [⟨nLex, p, 5⟩])
    else if (tokenAt s p).2.2 = [] then
      scanFrom s (skipEnd s (max (tokenAt s p).2.1 (p + 1))) (acc ++ [⟨(tokenAt s p).1.kd, (tokenAt s p).1.tx, (tokenAt s p).1.nm, p⟩])
    else ([], (tokenAt s p).2.2)
  else (acc, [])
  termination_by s.size - p
  decreasing_by
  have := skipEnd_ge s (max (tokenAt s p).2.1 (p + 1))
  omega
def lexScan (s : ByteArray) : List Tk × List Lk := if s.size > 65536 then ([], [⟨nLex, 0, 4⟩]) else scanFrom s (skipEnd s 0) []
def ScanPost (w : World) (r : List Tk × List Lk) (e : Ending) (w' : World) : Prop :=
  ∃ lv ev, e = .returned (.tuple #[lv, ev]) ∧ kTk.R 63 w' w.heap.size (fun _ => True) lv r.1 ∧ ErrIs w' r.2 ev ∧ Below w.heap.size w w'

set_option maxRecDepth 100000 in
set_option maxHeartbeats 6000000 in
theorem lex_Scan (s : ByteArray) (hm : s.size ≤ 140737488351232) (w : World) (hG : Glob w) :
    Calls Tryz.prog 36 #[.string s] w (ScanPost w (lexScan s)) := by
  have HG := Lib.hid hG
  clear hG
  by_cases hl : s.size > 65536
  · have hd : decide ((s.size : Int) > 65536) = true := decide_eq_true (by omega)
    have HQ : Hid (lexScan s = ([], [⟨nLex, 0, 4⟩])) := Lib.hid (by unfold lexScan; rw [if_pos hl])
    clear hl
    go_enter Tryz.func36, Tryz.ntmps36
    go_wp2_with fail
    refine (lex_fault _ _ _ _ [] rfl).mono ?_
    rintro e w2 ⟨v, rfl, hE, hB⟩
    have HE := Lib.hid hE
    have HB := Lib.hid hB
    clear hE hB
    go_wp2_with fail
    go_ret2
    exact ⟨_, _, rfl, by rw [HQ.out]; exact Kd.R_nil _ _ _ _ _, by rw [HQ.out]; exact HE.out, HB.out⟩
  · have hd : decide ((s.size : Int) > 65536) = false := decide_eq_false (by omega)
    have HQ : Hid (lexScan s = scanFrom s (skipEnd s 0) []) := Lib.hid (by unfold lexScan; rw [if_neg hl])
    clear hl
    obtain ⟨R, hR⟩ : ∃ R, R = lexScan s := ⟨_, rfl⟩
    rw [← hR] at HQ
    rw [← hR]
    have HR := Lib.hid HQ.out.symm
    clear hR HQ
    go_enter Tryz.func36, Tryz.ntmps36
    go_wp2_with fail
    have hS0 : ScanAt (w.alloc (.cells #[.string s, .int .i64 0] 111)) w.heap.size s 0 := ⟨by simp, by simp, by simp⟩
    refine (skip_any w.heap.size s 0 (Nat.zero_le _) hm _ hS0).mono ?_
    rintro e w1 ⟨rfl, hgr, hS1⟩
    clear hS0
    have HB1 : Hid (Below w.heap.size w w1) := Lib.hid ((below_alloc (Below.refl _ _) _).grown hgr (by simp) (fun k hk => by injection hk with hk; omega))
    have HS1 := Lib.hid hS1
    clear hgr hS1
    go_wp2_with fail
    go_loopg [5] (s.size - skipEnd s 0) (fun gk vl wl => ∃ (p : Nat) (acc : List Tk) (v0 : Value), v0 = vl ∧ gk = s.size - p ∧ p ≤ s.size ∧ acc.length ≤ 65536 ∧ Hid (scanFrom s p acc = R) ∧ Hid (ScanAt wl w.heap.size s p) ∧ Hid (kTk.R 63 wl (w.heap.size + 1) (fun k => w.heap.size < k) v0 acc) ∧ Hid (Below w.heap.size w wl))
    case atStart => exact ⟨skipEnd s 0, [], _, rfl, rfl, skipEnd_le s 0 (Nat.zero_le _), by decide, HR.out, HS1.out, Kd.R_nil _ _ _ _ _, HB1.out⟩
    case round =>
      clear HR HS1 HB1
      obtain ⟨p, acc, v0, rfl, hgk, hp, hacc, HR, HS, HK, HB⟩ := hrel
      have HM := Lib.hid hgk
      clear hgk
      obtain ⟨A, cp, rfl, hcp, _⟩ := Kd.R_reads HK.out
      obtain ⟨t1, t2, t3⟩ := HS.out
      by_cases hlt : p < s.size
      · have d1 : (p : Int) < (s.size : Int) := by omega
        by_cases hfull : acc.length = 65536
        · have dfull : ((acc.length : Int) == 65536) = true := beq_iff_eq.2 (by omega)
          have HQ : Hid (R = ([], [⟨nLex, p, 5⟩])) := Lib.hid (by rw [← HR.out, scanFrom, dif_pos hlt, if_pos hfull])
          clear hfull
          go_wp2_with fail
          refine (lex_fault _ _ _ _ [] rfl).mono ?_
          rintro e w2 ⟨v, rfl, hE, hB2⟩
          have HE := Lib.hid hE
          have HB2 := Lib.hid (trans_below HB.out hB2)
          clear hE hB2
          go_wp2_with fail
          go_ret2
          exact ⟨_, _, rfl, by rw [HQ.out]; exact Kd.R_nil _ _ _ _ _, by rw [HQ.out]; exact HE.out, HB2.out⟩
        · have dfull : ((acc.length : Int) == 65536) = false := beq_eq_false_iff_ne.2 (by omega)
          go_wp2_with fail
          refine (lex_token w.heap.size s p hlt hm wr HS.out (HG.out.below HB.out)).mono ?_
          rintro e w2 ⟨v, rfl, hE, hB2⟩
          obtain ⟨v0, hv0⟩ : ∃ v, v = Value.slice A acc.length cp := ⟨_, rfl⟩
          rw [← hv0]
          rw [← hv0] at HK
          clear hv0
          have HTR := Lib.hid (tok_range s p hlt)
          have hRR := HR.out
          rw [scanFrom, dif_pos hlt, if_neg hfull] at hRR
          obtain ⟨⟨⟨kd, tx, nm, at_⟩, n, l⟩, hT⟩ : ∃ r, r = tokenAt s p := ⟨_, rfl⟩
          rw [← hT] at hE hRR HTR
          rw [← hT]
          simp only at hRR HTR
          have HE := Lib.hid hE
          have HRR := Lib.hid hRR
          have HK2 := Lib.hid (Kd.R_below HK.out hB2)
          have HS2 := Lib.hid (HS.out.below hB2)
          have HB2 := Lib.hid (trans_below HB.out hB2)
          clear hT hE hRR hB2 t1 t2 t3
          obtain ⟨t1, t2, t3⟩ := HS2.out
          simp only [tkV]
          cases l with
          | cons x r =>
            have HQ : Hid (R = ([], x :: r)) := Lib.hid (by rw [← HRR.out, if_neg (by simp)])
            have hE := HE.out
            obtain ⟨be, u, rfl, _⟩ := hE
            go_wp2_with fail
            go_ret2
            exact ⟨_, _, rfl, by rw [HQ.out]; exact Kd.R_nil _ _ _ _ _, by rw [HQ.out]; exact HE.out.below (below_alloc (Below.refl _ _) _), below_alloc HB2.out _⟩
          | nil =>
            have hv : v = .nilIface := HE.out
            subst hv
            have hn := HTR.out rfl
            have HRN : Hid (scanFrom s (skipEnd s n) (acc ++ [⟨kd, tx, nm, p⟩]) = R) := Lib.hid (by rw [← HRR.out, if_pos rfl, Nat.max_eq_left (by omega)])
            have hT3 : TkAt (w2.alloc (.cells #[.int .i64 kd, .string tx, .int .i64 nm, .int .i64 at_] 63)) w2.heap.size ⟨kd, tx, nm, at_⟩ := by constructor <;> simp
            have l2 : w.heap.size < w2.heap.size := HS2.out.lt
            have HS3 := Lib.hid (HS2.out.below (below_alloc (Below.refl _ _) (.cells #[.int .i64 kd, .string tx, .int .i64 nm, .int .i64 at_] 63)))
            have HK3 := Lib.hid (Kd.R_alloc HK2.out (.cells #[.int .i64 kd, .string tx, .int .i64 nm, .int .i64 at_] 63))
            have HB3 := Lib.hid (below_alloc HB2.out (.cells #[.int .i64 kd, .string tx, .int .i64 nm, .int .i64 at_] 63))
            have hz3 : (w2.alloc (.cells #[.int .i64 kd, .string tx, .int .i64 nm, .int .i64 at_] 63)).heap.size = w2.heap.size + 1 := by simp
            obtain ⟨W3, hW3⟩ : ∃ W, W = w2.alloc (.cells #[.int .i64 kd, .string tx, .int .i64 nm, .int .i64 at_] 63) := ⟨_, rfl⟩
            rw [← hW3] at hT3 HS3 HK3 HB3 hz3
            have hWW := hW3.symm
            obtain ⟨tb, htb⟩ : ∃ n, n = w2.heap.size := ⟨_, rfl⟩
            have HZ := Lib.hid hz3
            have HL2 := Lib.hid l2
            obtain ⟨x0, x1, x2, x3, y0, y1, y2, y3⟩ := hT3
            simp only at x0 x1 x2 x3
            clear t1 t2 t3 hW3 hz3
            obtain ⟨t1, t2, t3⟩ := HS3.out
            have hne : w.heap.size ≠ w2.heap.size := by omega
            have hB34 : Below w2.heap.size W3 (W3.setCell ⟨w2.heap.size, 3, none⟩ (.int .i64 (p : Int))) := Below.setCell (Below.refl _ _) (by exact Nat.le_refl _) _
            have HS4 : Hid (ScanAt (W3.setCell ⟨w2.heap.size, 3, none⟩ (.int .i64 (p : Int))) w.heap.size s p) := Lib.hid ⟨(hB34.cell l2).trans t1, (hB34.cell l2).trans t2, (hB34.frozen l2).trans t3⟩
            have hown : some w2.heap.size ≠ v0.ownBlock := by
              obtain ⟨inner, ho⟩ := Kd.R_own HK2.out
              intro he
              have := own_lt ho _ he.symm
              omega
            have HK4 : Hid (kTk.R 63 (W3.setCell ⟨w2.heap.size, 3, none⟩ (.int .i64 (p : Int))) (w.heap.size + 1) (fun k => w.heap.size < k) v0 acc) := Lib.hid (Kd.R_grown1 HK3.out rfl (grown_set _ _ _ _) hown)
            have HB4 : Hid (Below w.heap.size w (W3.setCell ⟨w2.heap.size, 3, none⟩ (.int .i64 (p : Int)))) := Lib.hid (Below.setCell HB3.out (by exact Nat.le_of_lt l2) _)
            have hz4 : (W3.setCell ⟨w2.heap.size, 3, none⟩ (.int .i64 (p : Int))).heap.size = w2.heap.size + 1 := by have := HZ.out; simp [World.setCell, this]
            have HFR : Hid (∀ k, (W3.setCell ⟨w2.heap.size, 3, none⟩ (.int .i64 (p : Int))).heap.size ≤ k → w.heap.size < k) := Lib.hid fun k hk => by omega
            have HBS : Hid (w.heap.size + 1 ≤ (W3.setCell ⟨w2.heap.size, 3, none⟩ (.int .i64 (p : Int))).heap.size) := Lib.hid (by omega)
            clear hB34 hown hz4
            have HL9 : Hid (w.heap.size < w.heap.size + 1) := Lib.hid (Nat.lt_succ_self _)
            go_wp2_with (at_builtin; refine Kd.R_append kTk (w0 := W3.setCell ⟨w2.heap.size, 3, none⟩ (.int .i64 (p : Int))) (w.heap.size + 1) rfl (.tmp 49) (.tmp 51) 56 63 (.agg #[.int .i64 0, .string ⟨#[]⟩, .int .i64 0, .int .i64 0]) 40 rfl Tryz.underlying56 infoTk rfl (by decide) (by omega) v0 acc ⟨kd, tx, nm, (p : Int)⟩ [.int .i64 kd, .string tx, .int .i64 nm, .int .i64 (p : Int)] (fun k => w.heap.size < k) (fun _ => False) ?hs ?hx ?hp ?hok ?hfr ?hO ?hB ?hbs ?hl ?_; (case hs => rfl); (case hx => first | rfl | (simp [Act.eval]; done)); (case hp => exact kTk_mkM _ _ _ ⟨kd, tx, nm, (p : Int)⟩); (case hok => exact fun _ hk => hk.elim); (case hfr => exact HFR.out); (case hO => exact HK4.out); (case hB => exact Below.refl _ _); (case hbs => exact HBS.out); (case hl => omega); intro v1 w5 ho hb hg hat; have HO := Lib.hid ho; have HBB := Lib.hid hb; have HS5 : Hid (ScanAt w5 w.heap.size s p) := Lib.hid ⟨(hb.cell HL9.out).trans HS4.out.1, (hb.cell HL9.out).trans HS4.out.2.1, (hb.frozen HL9.out).trans HS4.out.2.2⟩; have q1 := HS5.out.1; have q2 := HS5.out.2.1; have q3 := HS5.out.2.2; clear ho hb hg hat)
            have hlt5 : w.heap.size < w5.heap.size := HS5.out.lt
            have HS6 : Hid (ScanAt (w5.setCell ⟨w.heap.size, 1, none⟩ (.int .i64 (n : Int))) w.heap.size s n) := Lib.hid (HS5.out.set _ n rfl)
            have HB5 : Hid (Below w.heap.size w w5) := Lib.hid (HB4.out.trans (HBB.out.mono (Nat.le_succ _)))
            have HO6 : Hid (kTk.R 63 (w5.setCell ⟨w.heap.size, 1, none⟩ (.int .i64 (n : Int))) (w.heap.size + 1) (fun k => w.heap.size < k) v1 (acc ++ [⟨kd, tx, nm, (p : Int)⟩])) := Lib.hid (Kd.R_far HO.out (fun k hk e => by simp at e; omega) _)
            refine (skip_any w.heap.size s n hn.2 hm _ HS6.out).mono ?_
            rintro e w7 ⟨rfl, hgr, hS7⟩
            have HS7 := Lib.hid hS7
            have HO7 : Hid (kTk.R 63 w7 (w.heap.size + 1) (fun k => w.heap.size < k) v1 (acc ++ [⟨kd, tx, nm, (p : Int)⟩])) := Lib.hid (Kd.R_grown HO6.out hgr (fun k hk e => by injection e with e; omega))
            have HB7 : Hid (Below w.heap.size w w7) := Lib.hid ((Below.setCell HB5.out (by exact Nat.le_refl _) _).grown hgr (by simp [World.setCell]; omega) (fun k hk => by injection hk with hk; omega))
            clear hgr hS7
            go_wp2_with fail
            go_roundg (s.size - skipEnd s n)
            case measure => rw [HM.out]; have := skipEnd_ge s n; omega
            case rel => exact ⟨skipEnd s n, acc ++ [⟨kd, tx, nm, p⟩], _, rfl, rfl, skipEnd_le s n hn.2, by rw [List.length_append]; simp; omega, HRN, HS7, HO7, HB7⟩
      · have HQ : Hid (R = (acc, [])) := Lib.hid (by rw [← HR.out, scanFrom, dif_neg hlt])
        go_wp2_with fail
        go_ret2
        exact ⟨_, _, rfl, by rw [HQ.out]; exact Kd.R_flat (fun h => h) (Kd.R_lower HK.out (Nat.le_succ _)) (fun _ _ _ => trivial), by rw [HQ.out]; rfl, HB.out⟩
end Go.Proofs.YtgapeacflkfmdaaGreatDoor
namespace Go.Proofs.YtgapeacflkfmdaaGreatDoor
open Go.RowKit Go.Proofs.YtgapeacflkfmdaaGreatDoorW.PrintWords

set_option maxRecDepth 100000 in
theorem ref10_signs (w : World) : Calls Tryz.prog 74 #[] w (SignPost w) := by
  go_enter Tryz.func74, Tryz.ntmps74
  go_wp2_with fail
  go_ret
  refine ⟨rfl, ?_, by simp, below_alloc (Below.refl _ _) _⟩
  intro j hj
  have h : (signList.map Value.string)[j]? = some (.string (signList.getD j ByteArray.empty)) := by
    rw [List.getElem?_map, List.getD_eq_getElem?_getD, List.getElem?_eq_getElem (show j < signList.length from hj)]
    rfl
  show (w.alloc (.cells (signList.map Value.string).toArray 9)).cell? ⟨w.heap.size, j, none⟩ = _
  rw [← h]
  simp

theorem reads_below {w w1 : World} {A : Option Addr} {n : Nat} {l : List Lk} (h : kLk.C w A n l) (hb : Below w.heap.size w w1) : ReadsRow (kLk.K w) kLk.sz w1 A n l :=
  ReadsRow.imp_ h hb (fun _ _ hp => hp)
set_option maxRecDepth 100000 in
set_option maxHeartbeats 2000000 in
theorem mem_Over (ly : ByteArray) (at_ co : Int) (l : List Lk) (hl : l.length ≤ 16) (A : Option Addr) (c : Nat) (w : World) (hC : kLk.C w A l.length l) :
    Calls Tryz.prog 138 #[.string ly, .int .i64 at_, .int .i64 co, .slice A l.length c] w (LnPost w (⟨ly, at_, co⟩ :: l)) := by
  have HC := Lib.hid hC
  clear hC
  go_enter Tryz.func138, Tryz.ntmps138
  go_wp2_with (first
    | (at_builtin; refine Kd.R_append kLk (w0 := w) w.heap.size rfl (.tmp 10) (.tmp 15) 32 83 (.agg #[(.string ⟨#[]⟩), (.int .i64 0), (.int .i64 0)]) 32 rfl Tryz.underlying32 infoLk rfl (by decide) (by omega) (.slice none 0 0) [] ⟨ly, at_, co⟩ [.string ly, .int .i64 at_, .int .i64 co] (fun _ => True) (fun _ => False) ?hs ?hx ?hp ?hok ?hfr ?hO ?hB ?hbs ?hl ?_; (case hs => rfl); (case hx => first | rfl | (simp [Act.eval]; done)); (case hp => exact kLk_mkM _ _ _ ⟨ly, at_, co⟩); (case hok => exact fun _ hk => hk.elim); (case hfr => exact fun _ _ => trivial); (case hO => exact Kd.R_nil _ _ _ _ _); (case hB => exact Below.refl _ _); (case hbs => exact Nat.le_refl _); (case hl => decide); intro v1 w5 ho hb hg hat; have HO := Lib.hid ho; have HB := Lib.hid hb; clear ho hb hg hat)
    | (at_builtin; refine Kd.R_append_rows kLk (Rr := kLk.K w) (w0 := w) w.heap.size rfl (.tmp 17) (.tmp 18) 32 83 (.agg #[(.string ⟨#[]⟩), (.int .i64 0), (.int .i64 0)]) 32 rfl Tryz.underlying32 infoLk rfl (by decide) (by omega) v1 [⟨ly, at_, co⟩] l A l.length c (fun _ => True) (fun _ => False) ?hs ?hx ?hO ?hR ?hKM ?hok ?hfr ?hB ?hbs ?hl ?_; (case hs => rfl); (case hx => rfl); (case hO => exact HO.out); (case hR => exact reads_below HC.out HB.out); (case hKM => exact fun x cs h => by rw [kLk_open h]; exact kLk_mkM _ _ _ x); (case hok => exact fun _ hk => hk.elim); (case hfr => exact fun _ _ => trivial); (case hB => exact HB.out); (case hbs => exact HB.out.size); (case hl => simp; omega); intro v2 w6 ho hb hg hat; have HO2 := Lib.hid ho; have HB2 := Lib.hid hb; clear ho hb hg hat))
  go_ret
  exact ⟨_, rfl, ⟨HO2.out, fun h => by simp at h⟩, HB2.out⟩
end Go.Proofs.YtgapeacflkfmdaaGreatDoor
