/-
  The walk of LexCut.
-/
import Derived.Test.YtgapeacflkfmdaaGreatDoorG16
import Derived.Lib.ItoaLen
namespace Go.Proofs.YtgapeacflkfmdaaGreatDoor
open Go.RowKit Go.Proofs.YtgapeacflkfmdaaGreatDoorW.PrintWords

theorem flat_le (s : ByteArray) : (quoteOf s).length ≤ 2 + 4 * s.size := by
  have := flat_len (bs s)
  rw [bs_len] at this
  unfold quoteOf
  simp only [List.length_cons, List.length_append, List.length_nil]
  omega
/-- What can be written is small. -/
theorem wr_lim {t : Tk} (h : (wrTok t).2 = []) : (wrTok t).1.size ≤ 2000 ∧ t.tx.size ≤ 2000 ∧ 0 ≤ t.nm ∧ t.nm ≤ 576460752303423487 := by
  obtain ⟨kd, tx, nm, at_⟩ := t
  unfold wrTok at h ⊢
  simp only at h ⊢
  have bad : badArg.2 = [] → False := by
    intro hb
    unfold badArg at hb
    simp at hb
  have hres : isRes tx = true → tx.size ≤ 2000 := by
    intro hr
    obtain ⟨r, hr2, rfl⟩ := isRes_yes hr
    have hall : (resList.all fun r => decide (r.length ≤ 2000)) = true := by decide +kernel
    have := List.all_eq_true.1 hall r hr2
    exact of_decide_eq_true this
  have hsig : Lib.containsS signList tx = true → tx.size ≤ 2000 := by
    intro hr
    have hm := (Lib.containsS_iff _ _).1 hr
    have hall : (signList.all fun r => decide (r.size ≤ 2000)) = true := by decide +kernel
    have := List.all_eq_true.1 hall tx hm
    exact of_decide_eq_true this
  by_cases k1 : kd = 1
  · rw [if_pos k1] at h ⊢
    by_cases hc : nm = 0 ∧ (quoted tx).2 = []
    · rw [if_pos hc]
      have hq := hc.2
      have hf := flat_le tx
      unfold quoted at hq ⊢
      by_cases g1 : tx.size > 255
      · rw [if_pos g1] at hq
        cases hq
      · rw [if_neg g1] at hq ⊢
        by_cases g2 : 0 ≤ utfBad tx 0
        · rw [if_pos g2] at hq
          cases hq
        · rw [if_neg g2]
          refine ⟨?_, by omega, by omega, by omega⟩
          split
          · simp only; omega
          · simp only [strOfNums_size]; omega
    · rw [if_neg hc] at h
      exact (bad h).elim
  · rw [if_neg k1] at h ⊢
    by_cases k3 : kd = 3
    · rw [if_pos k3] at h ⊢
      by_cases hc : tx.size = 0 ∧ 0 ≤ nm ∧ nm ≤ 576460752303423487
      · rw [if_pos hc]
        have := Lib.itoa_length_le nm (by omega) (by omega)
        refine ⟨?_, by omega, hc.2.1, hc.2.2⟩
        show (Lib.itoa nm).length ≤ 2000
        omega
      · rw [if_neg hc] at h
        exact (bad h).elim
    · rw [if_neg k3] at h ⊢
      by_cases k6 : kd = 6
      · rw [if_pos k6] at h ⊢
        by_cases hc : tx.size = 0 ∧ nm = 0
        · rw [if_pos hc]
          refine ⟨by show 1 ≤ 2000; decide, by omega, by omega, by omega⟩
        · rw [if_neg hc] at h
          exact (bad h).elim
      · rw [if_neg k6] at h ⊢
        by_cases kn : nm ≠ 0
        · rw [if_pos kn] at h
          exact (bad h).elim
        · rw [if_neg kn] at h ⊢
          by_cases k2 : kd = 2
          · rw [if_pos k2] at h ⊢
            by_cases hc : isVar tx = true
            · rw [if_pos hc]
              unfold isVar at hc
              simp only [Bool.and_eq_true, decide_eq_true_eq] at hc
              exact ⟨show tx.size ≤ 2000 by omega, by omega, by omega, by omega⟩
            · rw [if_neg hc] at h
              exact (bad h).elim
          · rw [if_neg k2] at h ⊢
            by_cases k4 : kd = 4
            · rw [if_pos k4] at h ⊢
              by_cases hc : isRes tx = true
              · rw [if_pos hc]
                exact ⟨hres hc, hres hc, by omega, by omega⟩
              · rw [if_neg hc] at h
                exact (bad h).elim
            · rw [if_neg k4] at h ⊢
              by_cases k5 : kd = 5
              · rw [if_pos k5] at h ⊢
                by_cases hc : Lib.containsS signList tx = true
                · rw [if_pos hc]
                  exact ⟨hsig hc, hsig hc, by omega, by omega⟩
                · rw [if_neg hc] at h
                  exact (bad h).elim
              · rw [if_neg k5] at h
                exact (bad h).elim
/-- Where token i ends: at the next one, or at the text's end. -/
def toOf (s : ByteArray) (L : List Tk) (i : Nat) : Int := if i + 1 < L.length then (L.getD (i + 1) zTk).at_ else s.size
/-- What LexCut asks of token i. -/
structure CutOk (s : ByteArray) (t : Tk) (z : Int) : Prop where
  a0 : 0 ≤ t.at_
  lt : t.at_ < z
  le : z ≤ s.size
  sc : lexScan (s.extract t.at_.toNat z.toNat) = ([⟨t.kd, t.tx, t.nm, 0⟩], [])
  wr : (wrTok t).2 = []
  ws : lexScan (wrTok t).1 = ([⟨t.kd, t.tx, t.nm, 0⟩], [])
theorem wrTok_at (k : Int) (x : ByteArray) (n a b : Int) : wrTok ⟨k, x, n, a⟩ = wrTok ⟨k, x, n, b⟩ := rfl
theorem cut_all {s : ByteArray} (hs : s.size ≤ 65536) {p : Nat} {M : List Tk} (h : Tr s p M) : p ≤ s.size → ∀ i : Nat, i < M.length → CutOk s (M.getD i zTk) (toOf s M i) := by
  induction h with
  | nil hp => intro _ i hi; simp at hi
  | @cons p e t M hp ht hT ih =>
    intro hle i hi
    have hr := tok_gt hp ht
    have hge := skipEnd_ge s e
    have hle2 := skipEnd_le s e hr.2
    cases i with
    | zero =>
      have hto : toOf s (⟨t.kd, t.tx, t.nm, p⟩ :: M) 0 = ((skipEnd s e : Nat) : Int) := by
        unfold toOf
        cases hT with
        | nil hp2 => simp; omega
        | cons hp2 ht2 hT2 => simp
      rw [hto]
      have hsoft := tok_hard hp ht
      have hwr := tok_wr hp ht
      have hws := wr_lim hwr
      refine ⟨Int.natCast_nonneg _, ?_, ?_, ?_, hwr, ?_⟩
      · show (p : Int) < _
        omega
      · omega
      · show lexScan (s.extract ((p : Nat) : Int).toNat ((skipEnd s e : Nat) : Int).toNat) = _
        rw [Int.toNat_natCast, Int.toNat_natCast]
        have h9 := cut_scan hs hp hsoft ht
        exact h9
      · have := wr_lexScan (t := t) (x := (wrTok t).1) (by rw [← hwr]) (by omega)
        exact this
    | succ i =>
      have := ih hle2 i (by simpa using hi)
      have e1 : toOf s (⟨t.kd, t.tx, t.nm, p⟩ :: M) (i + 1) = toOf s M i := by
        unfold toOf
        simp
      rw [e1]
      exact this

theorem same_one (t : Tk) : sameTks false [⟨t.kd, t.tx, t.nm, 0⟩] [t] = true := by simp [sameTks, tkEq]
end Go.Proofs.YtgapeacflkfmdaaGreatDoor
