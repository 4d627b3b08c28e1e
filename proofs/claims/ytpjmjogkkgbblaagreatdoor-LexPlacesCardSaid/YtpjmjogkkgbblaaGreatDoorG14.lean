/-
  lex.Place, heddleref10.Place; the walk of LexPlaces.
-/
import Derived.Test.YtpjmjogkkgbblaaGreatDoorG12
namespace Go.Proofs.YtpjmjogkkgbblaaGreatDoor
open Go.RowKit Go.Proofs.YtpjmjogkkgbblaaGreatDoorW.PrintWords

def plL (s : ByteArray) (k : Nat) : Int := 1 + ((s.data.toList.take k).count 10 : Nat)
def plC (s : ByteArray) (k : Nat) : Int := (k : Int) - Lib.lastIdx s 10 k
theorem bt_data {s : ByteArray} {k : Nat} (h : k < s.size) : ((s.data[k]!).toNat : Int) = bt s (k : Int) := by
  rw [← btk s k h]
  have h' : k < s.data.size := h
  rw [getElem!_pos s.data k h']
  rfl
theorem plL_step {s : ByteArray} {k : Nat} (h : k < s.size) : plL s (k + 1) = if bt s (k : Int) = 10 then plL s k + 1 else plL s k := by
  unfold plL
  have h' : k < s.data.toList.length := by rw [← Lib.size_eq]; exact h
  rw [List.take_succ_eq_append_getElem h', List.count_append]
  have hb := btk s k h
  have e : s.data.toList[k]'h' = s[k] := rfl
  by_cases hc : bt s (k : Int) = 10
  · rw [if_pos hc]
    have : s.data.toList[k]'h' = 10 := by rw [e]; exact UInt8.toNat_inj.1 (by simp; omega)
    rw [this]
    simp
    omega
  · rw [if_neg hc]
    have : s.data.toList[k]'h' ≠ 10 := by
      rw [e]
      intro h9
      rw [h9] at hb
      exact hc hb.symm
    rw [List.count_singleton, if_neg (by rw [beq_iff_eq]; exact this)]
    omega
theorem plC_step {s : ByteArray} {k : Nat} (h : k < s.size) : plC s (k + 1) = if bt s (k : Int) = 10 then 1 else plC s k + 1 := by
  unfold plC
  rw [Lib.lastIdx, bt_data h]
  split <;> omega
theorem plL_range (s : ByteArray) (k : Nat) : 1 ≤ plL s k ∧ plL s k ≤ k + 1 := by
  unfold plL
  have h1 := List.count_le_length (a := (10 : UInt8)) (l := s.data.toList.take k)
  have h2 : (s.data.toList.take k).length ≤ k := List.length_take_le _ _
  omega
theorem plC_range {s : ByteArray} : ∀ {k : Nat}, k ≤ s.size → 1 ≤ plC s k ∧ plC s k ≤ k + 1
  | 0, _ => by unfold plC; rw [Lib.lastIdx]; omega
  | k + 1, h => by
    have := plC_range (s := s) (k := k) (by omega)
    rw [plC_step (by omega)]
    split <;> omega
theorem last_cut {s : ByteArray} {n : Nat} (hn : n ≤ s.size) : ∀ {k : Nat}, k ≤ n → Lib.lastIdx (s.extract 0 n) 10 k = Lib.lastIdx s 10 k
  | 0, _ => rfl
  | k + 1, h => by
    rw [Lib.lastIdx, Lib.lastIdx, last_cut hn (k := k) (by omega), bt_data (show k < (s.extract 0 n).size by simp; omega), bt_data (show k < s.size by omega)]
    have := bt_ext (s := s) (a := 0) (n := n) (j := k) (by omega) (by omega)
    simp only [Nat.zero_add] at this
    rw [this]
theorem cut_count {s : ByteArray} {n : Nat} : (1 : Int) + (Lib.countByte (s.extract 0 n).data.toList 10 : Nat) = plL s n := by
  unfold plL Lib.countByte
  rw [Lib.extract_data]
  simp
def placeOf (s : ByteArray) (at_ : Int) : Int × Int × List Lk := if at_ < 0 ∨ (s.size : Int) < at_ then (0, 0, [⟨nLex, 0, 2⟩]) else (plL s at_.toNat, plC s at_.toNat, [])
def PlPost (w : World) (r : Int × Int × List Lk) (e : Ending) (w' : World) : Prop := ∃ v, e = .returned (.tuple #[.int .i64 r.1, .int .i64 r.2.1, v]) ∧ ErrIs w' r.2.2 v ∧ Below w.heap.size w w'
def PlR (w : World) (r : Int × Int × List Lk) (e : Ending) (w' : World) : Prop := ∃ v, e = .returned (.tuple #[.int .i64 r.1, .int .i64 r.2.1, v]) ∧ LnIs w' w.heap.size r.2.2 v ∧ Below w.heap.size w w'

set_option maxRecDepth 100000 in
set_option maxHeartbeats 2000000 in
theorem lex_Place (s : ByteArray) (at_ : Int) (hm : s.size ≤ 140737488351232) (w : World) :
    Calls Tryz.prog 22 #[.string s, .int .i64 at_] w (PlPost w (placeOf s at_)) := by
  by_cases h0 : at_ < 0
  · have d0 : decide (at_ < 0) = true := decide_eq_true h0
    have HQ : Hid (placeOf s at_ = (0, 0, [⟨nLex, 0, 2⟩])) := Lib.hid (by unfold placeOf; rw [if_pos (.inl h0)])
    clear h0
    go_enter Tryz.func22, Tryz.ntmps22
    go_wp2_with fail
    refine (lex_fault _ _ _ _ [] rfl).mono ?_
    rintro e w2 ⟨v, rfl, hE, hB2⟩
    have HE := Lib.hid hE
    have HB2 := Lib.hid hB2
    clear hE hB2
    go_wp2_with fail
    go_ret3
    exact ⟨_, by rw [HQ.out]; rfl, by rw [HQ.out]; exact HE.out, HB2.out⟩
  · have d0 : decide (at_ < 0) = false := decide_eq_false h0
    obtain ⟨k, rfl⟩ := Int.eq_ofNat_of_zero_le (show 0 ≤ at_ by omega)
    by_cases h1 : s.size < k
    · have d1 : decide ((k : Int) > (s.size : Int)) = true := decide_eq_true (by omega)
      have d1b : decide (s.size < k) = true := decide_eq_true h1
      have HQ : Hid (placeOf s (k : Int) = (0, 0, [⟨nLex, 0, 2⟩])) := Lib.hid (by unfold placeOf; rw [if_pos (.inr (by omega))])
      clear h0 h1
      go_enter Tryz.func22, Tryz.ntmps22
      go_wp2_with fail
      refine (lex_fault _ _ _ _ [] rfl).mono ?_
      rintro e w2 ⟨v, rfl, hE, hB2⟩
      have HE := Lib.hid hE
      have HB2 := Lib.hid hB2
      clear hE hB2
      go_wp2_with fail
      go_ret3
      exact ⟨_, by rw [HQ.out]; rfl, by rw [HQ.out]; exact HE.out, HB2.out⟩
    · have d1 : decide ((k : Int) > (s.size : Int)) = false := decide_eq_false (by omega)
      have d1b : decide (s.size < k) = false := decide_eq_false h1
      have HQ : Hid (placeOf s (k : Int) = (plL s k, plC s k, [])) := Lib.hid (by unfold placeOf; rw [if_neg (by omega)]; rfl)
      have x0 : (0 : Int) ≤ (k : Int) := by omega
      have x1 : (k : Int) ≤ (s.size : Int) := by omega
      have hL := plL_range s k
      have hC := plC_range (s := s) (k := k) (by omega)
      have hsz : (s.extract 0 k).size = k := by simp; omega
      have HCT := Lib.hid (Tryz.strings_Count_one (s.extract 0 k) 10)
      have HLI := Lib.hid (fun w => Tryz.strings_LastIndexByte (s.extract 0 k) 10 (by rw [hsz]; omega) w)
      have q1 : Lib.lastIndexByte (s.extract 0 k) 10 = (k : Int) - plC s k := by
        unfold Lib.lastIndexByte plC
        rw [hsz, last_cut (by omega) (Nat.le_refl _)]
        omega
      have q2 : ((Lib.countByte (s.extract 0 k).data.toList 10 : Nat) : Int) = plL s k - 1 := by have := @cut_count s k; omega
      rw [q1] at HLI
      rw [q2] at HCT
      have s1 : IntKind.i64.wrap (1 + (plL s k - 1)) = plL s k := by rw [wrap_small _ (by omega) (by omega)]; omega
      have s2 : IntKind.i64.wrap ((k : Int) - ((k : Int) - plC s k)) = plC s k := by rw [wrap_small _ (by omega) (by omega)]; omega
      obtain ⟨L, hLL⟩ : ∃ L, L = plL s k := ⟨_, rfl⟩
      obtain ⟨C, hCC⟩ : ∃ C, C = plC s k := ⟨_, rfl⟩
      rw [← hLL] at s1 HCT HQ
      rw [← hCC] at s2 HLI HQ
      clear h0 h1 q1 q2 hsz hL hC hLL hCC
      go_enter Tryz.func22, Tryz.ntmps22
      go_wp2_with fail
      go_quiet (first | (go_at_call 49; exact Calls.quiet_of_same (HCT.out _)) | (go_at_call 50; exact Calls.quiet_of_same (HLI.out _)))
      go_wp2_with fail
      go_ret3
      exact ⟨_, by rw [HQ.out]; rfl, by rw [HQ.out]; rfl, below_drewN _ _ _⟩

set_option maxRecDepth 100000 in
set_option maxHeartbeats 2000000 in
theorem ref10_Place (s : ByteArray) (at_ : Int) (hm : s.size ≤ 140737488351232) (w : World) :
    Calls Tryz.prog 23 #[.string s, .int .i64 at_] w (PlR w (placeOf s at_)) := by
  by_cases h0 : at_ < 0
  · have d0 : decide (at_ < 0) = true := decide_eq_true h0
    have HQ : Hid (placeOf s at_ = (0, 0, [⟨nLex, 0, 2⟩])) := Lib.hid (by unfold placeOf; rw [if_pos (.inl h0)])
    clear h0
    go_enter Tryz.func23, Tryz.ntmps23
    go_wp2_with fail
    refine (ref10_no _ _ _).mono ?_
    rintro e w2 ⟨v, rfl, hE, hB2⟩
    have HE := Lib.hid hE
    have HB2 := Lib.hid hB2
    clear hE hB2
    go_wp2_with fail
    go_ret3
    exact ⟨_, by rw [HQ.out]; rfl, by rw [HQ.out]; exact HE.out, HB2.out⟩
  · have d0 : decide (at_ < 0) = false := decide_eq_false h0
    obtain ⟨n, rfl⟩ := Int.eq_ofNat_of_zero_le (show 0 ≤ at_ by omega)
    by_cases h1 : s.size < n
    · have d1 : decide ((n : Int) > (s.size : Int)) = true := decide_eq_true (by omega)
      have d1b : decide (s.size < n) = true := decide_eq_true h1
      have HQ : Hid (placeOf s (n : Int) = (0, 0, [⟨nLex, 0, 2⟩])) := Lib.hid (by unfold placeOf; rw [if_pos (.inr (by omega))])
      clear h0 h1
      go_enter Tryz.func23, Tryz.ntmps23
      go_wp2_with fail
      refine (ref10_no _ _ _).mono ?_
      rintro e w2 ⟨v, rfl, hE, hB2⟩
      have HE := Lib.hid hE
      have HB2 := Lib.hid hB2
      clear hE hB2
      go_wp2_with fail
      go_ret3
      exact ⟨_, by rw [HQ.out]; rfl, by rw [HQ.out]; exact HE.out, HB2.out⟩
    · have d1 : decide ((n : Int) > (s.size : Int)) = false := decide_eq_false (by omega)
      have d1b : decide (s.size < n) = false := decide_eq_false h1
      have HQ : Hid (placeOf s (n : Int) = (plL s n, plC s n, [])) := Lib.hid (by unfold placeOf; rw [if_neg (by omega)]; rfl)
      have hns : n ≤ s.size := by omega
      clear h0 h1
      go_enter Tryz.func23, Tryz.ntmps23
      go_wp2_with fail
      go_loopg [7, 8, 9] n (fun gk vl vc vi wl => ∃ i : Nat, vi = .int .i64 (i : Int) ∧ gk = n - i ∧ i ≤ n ∧ vl = .int .i64 (plL s i) ∧ vc = .int .i64 (plC s i) ∧ wl = w)
      case atStart => exact ⟨0, rfl, rfl, Nat.zero_le _, rfl, rfl, rfl⟩
      case round =>
        obtain ⟨i, rfl, hgk, hi, rfl, rfl, rfl⟩ := hrel
        have HM := Lib.hid hgk
        clear hgk
        by_cases hlt : i < n
        · have hb := btk s i
          have hL := plL_range s i
          have hC := plC_range (s := s) (k := i) (by omega)
          have HL := Lib.hid (plL_step (s := s) (k := i) (by omega))
          have HC := Lib.hid (plC_step (s := s) (k := i) (by omega))
          obtain ⟨L, hLL⟩ : ∃ L, L = plL s i := ⟨_, rfl⟩
          obtain ⟨C, hCC⟩ : ∃ C, C = plC s i := ⟨_, rfl⟩
          rw [← hLL] at hL HL
          rw [← hCC] at hC HC
          rw [← hLL, ← hCC]
          clear hLL hCC
          have x0 : (0 : Int) ≤ (i : Int) := by omega
          have x1 : (i : Int) < (s.size : Int) := by omega
          have x2 : (i : Int) < (n : Int) := by omega
          obtain ⟨l1, l2⟩ := hL
          obtain ⟨c1, c2⟩ := hC
          by_cases h10 : bt s (i : Int) = 10
          · have d10 : (bt s (i : Int) == 10) = true := beq_iff_eq.2 h10
            have HL2 : Hid (plL s (i + 1) = L + 1) := Lib.hid (by rw [HL.out, if_pos h10])
            have HC2 : Hid (plC s (i + 1) = 1) := Lib.hid (by rw [HC.out, if_pos h10])
            clear h10
            go_wp2_with fail
            go_roundg (n - (i + 1))
            case measure => rw [HM.out]; omega
            case rel => exact ⟨i + 1, by go_num, rfl, by omega, by rw [HL2.out], by rw [HC2.out], rfl⟩
          · have d10 : (bt s (i : Int) == 10) = false := beq_eq_false_iff_ne.2 h10
            have HL2 : Hid (plL s (i + 1) = L) := Lib.hid (by rw [HL.out, if_neg h10])
            have HC2 : Hid (plC s (i + 1) = C + 1) := Lib.hid (by rw [HC.out, if_neg h10])
            clear h10
            go_wp2_with fail
            go_roundg (n - (i + 1))
            case measure => rw [HM.out]; omega
            case rel => exact ⟨i + 1, by go_num, rfl, by omega, by rw [HL2.out], by rw [HC2.out], rfl⟩
        · have hin : i = n := by omega
          subst hin
          have d9 : decide ((i : Int) < (i : Int)) = false := decide_eq_false (by omega)
          go_wp2_with fail
          go_ret3
          exact ⟨_, by rw [HQ.out]; rfl, by rw [HQ.out]; exact LnIs.nil _ _, Below.refl _ _⟩

theorem placeOf_len (s : ByteArray) (at_ : Int) : (placeOf s at_).2.2.length ≤ 1 := by
  unfold placeOf
  split <;> simp
set_option maxRecDepth 100000 in
set_option maxHeartbeats 2000000 in
theorem walk_LexPlaces (s : ByteArray) (at_ : Int) (hm : s.size ≤ 140737488351232) (w : World) (hG : Glob w) :
    Calls Tryz.prog 10 #[.string s, .int .i64 at_] w (TruePost w) := by
  have HG := Lib.hid hG
  have hlen := placeOf_len s at_
  have HP1 := Lib.hid (lex_Place s at_ hm)
  have HP2 := Lib.hid (ref10_Place s at_ hm)
  obtain ⟨R, hR⟩ : ∃ R, R = placeOf s at_ := ⟨_, rfl⟩
  rw [← hR] at hlen HP1 HP2
  clear hG hR
  go_enter Tryz.func10, Tryz.ntmps10
  go_wp2_with fail
  refine (HP1.out _).mono ?_
  rintro e w1 ⟨ev, rfl, hE, hB1⟩
  have HG1 := Lib.hid (HG.out.below hB1)
  have HE := Lib.hid hE
  have HB1 := Lib.hid hB1
  clear hE hB1
  go_wp2_with fail
  refine (HP2.out _).mono ?_
  rintro e w2 ⟨fv, rfl, hF, hB2⟩
  have HG2 := Lib.hid (HG1.out.below hB2)
  have HE2 := Lib.hid (HE.out.below hB2)
  have HB2 := Lib.hid (trans_below HB1.out hB2)
  obtain ⟨A2, c2, rfl, hc2, hC2⟩ := hF.reads
  have HC2 := Lib.hid hC2
  have q1 : (R.1 == R.1) = true := beq_self_eq_true _
  have q2 : (R.2.1 == R.2.1) = true := beq_self_eq_true _
  clear hF hB2 hC2 hc2
  go_wp2_with fail
  refine (Refused_in R.2.2 R.2.2 ev A2 c2 HE2.out (Nat.le_trans hlen (by decide)) HC2.out (Nat.le_trans hlen (by decide)) HG2.out).mono ?_
  rw [show refusedOf R.2.2 R.2.2 = true from decide_eq_true rfl]
  rintro e w4 ⟨rfl, hB4⟩
  have HG4 := Lib.hid (HG2.out.below hB4)
  have HB4 := Lib.hid (trans_below HB2.out hB4)
  clear hB4
  go_wp2_with fail
  refine (awake_any _ HG4.out).mono ?_
  rintro e w5 ⟨rfl, hB5⟩
  have HB5 := Lib.hid (trans_below HB4.out hB5)
  clear hB5
  go_wp2_with fail
  go_ret
  exact ⟨rfl, HB5.out⟩
end Go.Proofs.YtpjmjogkkgbblaaGreatDoor
