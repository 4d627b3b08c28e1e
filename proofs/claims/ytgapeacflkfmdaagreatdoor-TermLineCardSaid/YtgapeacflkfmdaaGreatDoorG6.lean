/-
  term's reader: several. term's reader: tuple. term's reader: list. term's reader: begun. Plain: a reading goes forward. Plain Lean: how long a term's text is; where a part's text stands in it. Plain: what is read from a text has texts and numbers of their sizes.
-/
import Derived.Test.YtgapeacflkfmdaaGreatDoorG5
import Derived.IntWalk
import Derived.Test.YtgapeacflkfmdaaGreatDoorG4
import Derived.Lib.ItoaLen
set_option linter.unusedSimpArgs false
namespace Go.Proofs.YtgapeacflkfmdaaGreatDoor
open Go.RowKit Go.Sort Go.Proofs.YtgapeacflkfmdaaGreatDoorW.PrintWords

/-- The closure that reads a term. -/
abbrev tv (g4 g5 : Nat) : Value := .func (.func 47) #[] #[.pointer (some ⟨g4, 0, none⟩), .pointer (some ⟨g5, 0, none⟩)]
/-- The closure's two variables. -/
structure Boxes (W : World) (b g4 g5 : Nat) : Prop where
  c4 : W.cell? ⟨g4, 0, none⟩ = some (.pointer (some ⟨b, 0, none⟩))
  c5 : W.cell? ⟨g5, 0, none⟩ = some (tv g4 g5)
  n4 : g4 ≠ b
  n5 : g5 ≠ b
  gl : GlobG W b
theorem Boxes.step {W W' : World} {b g4 g5 : Nat} (h : Boxes W b g4 g5) (hg : W.grownBy W' (some b)) : Boxes W' b g4 g5 :=
  ⟨(hg.cell_far ⟨g4, 0, none⟩ (World.block_lt_of_cell? W _ h.c4) (by simp; exact h.n4)).trans h.c4, (hg.cell_far ⟨g5, 0, none⟩ (World.block_lt_of_cell? W _ h.c5) (by simp; exact h.n5)).trans h.c5, h.n4, h.n5, h.gl.step hg⟩
/-- What the closure does, so many terms being begun. -/
def TermSays (s : ByteArray) (b g4 g5 d : Nat) (F : Nat → Rd) : Prop := ∀ (k : Nat) (W : World), k ≤ s.size → RdAt W b s k d → Boxes W b g4 g5 →
  Calls Tryz.prog 47 #[.pointer (some ⟨g4, 0, none⟩), .pointer (some ⟨g5, 0, none⟩)] W (TermE W b s d (F k))
/-- A reading goes forward, no further than the text, and reads fewer parts than bytes. -/
def Fwd (s : ByteArray) (F : Nat → Rd) : Prop := ∀ (k : Nat) (t : Tm) (e : Nat), F k = (t, e, []) → k < e ∧ e ≤ s.size ∧ k + t.args.length ≤ e
theorem RdTo.below' {W W1 W2 : World} {b : Nat} {s : ByteArray} {k d n : Nat} (h : RdTo W b s k d W1) (h2 : Below n W1 W2) (hn : W.heap.size ≤ n) (hb : b < n) : RdTo W b s k d W2 := by
  refine ⟨⟨?_, ?_, ?_, Nat.le_trans h.1.size h2.size, fun i hi hne => (h2.block i (by omega)).trans (h.1.block i hi hne)⟩, ⟨(h2.block b hb).trans h.2.h⟩⟩
  · first | exact h2.os.trans h.1.os | exact h.1.os.trans h2.os
  · first | exact h2.tape.trans h.1.tape | exact h.1.tape.trans h2.tape
  · first | exact h2.output.trans h.1.output | exact h.1.output.trans h2.output
theorem sev_err {F : Nat → Rd} {s : ByteArray} {k m : Nat} {acc : List Tm} (h : (F k).2.2 ≠ []) : sevAt F s (m + 1) k acc = ([], 0, (F k).2.2) := by
  rw [sevAt]
  generalize F k = q at h ⊢
  obtain ⟨t, e, l⟩ := q
  cases l with
  | nil => exact absurd rfl h
  | cons x r => rfl
theorem sev_more {F : Nat → Rd} {s : ByteArray} {k m : Nat} {acc : List Tm} (h : (F k).2.2 = []) (hc : isAt s (blk s (F k).2.1) 44 = true) : sevAt F s (m + 1) k acc = sevAt F s m (blk s (F k).2.1 + 1) (acc ++ [(F k).1]) := by
  rw [sevAt]
  generalize F k = q at h hc ⊢
  obtain ⟨t, e, l⟩ := q
  obtain rfl : l = [] := h
  simp only at hc ⊢
  rw [if_pos hc]
theorem sev_last {F : Nat → Rd} {s : ByteArray} {k m : Nat} {acc : List Tm} (h : (F k).2.2 = []) (hc : isAt s (blk s (F k).2.1) 44 = false) : sevAt F s (m + 1) k acc = (acc ++ [(F k).1], blk s (F k).2.1, []) := by
  rw [sevAt]
  generalize F k = q at h hc ⊢
  obtain ⟨t, e, l⟩ := q
  obtain rfl : l = [] := h
  simp only at hc ⊢
  rw [if_neg (by simp [hc])]
theorem take_c (b : Nat) (s : ByteArray) (k0 d : Nat) (c : UInt8) (n : Int) (hn : (c.toNat : Int) = n) (h0 : k0 ≤ s.size) (hm : s.size ≤ 4194304) (w : World) (hS : RdAt w b s k0 d) :
    Calls Tryz.prog 99 #[.pointer (some ⟨b, 0, none⟩), .string ⟨#[c]⟩] w fun e w' => e = .returned (.bool (isAt s (blk s k0) n)) ∧ RdTo w b s (if isAt s (blk s k0) n then blk s k0 + 1 else blk s k0) d w' := by
  subst hn
  exact rd_take1 b s k0 d c h0 hm w hS
theorem isAt_lt {s : ByteArray} {k : Nat} {c : Int} (h : isAt s k c = true) : k < s.size := by
  unfold isAt at h
  rw [Bool.and_eq_true, decide_eq_true_eq] at h
  exact h.1
theorem blk_ge (s : ByteArray) (k : Nat) : k ≤ blk s k := runEnd_ge _ _ _
theorem blk_le (s : ByteArray) (k : Nat) (h : k ≤ s.size) : blk s k ≤ s.size := runEnd_le _ _ _ h
/-- Terms and an error. -/
def SevE (w : World) (b : Nat) (s : ByteArray) (d : Nat) (r : List Tm × Nat × List Lk) (e : Ending) (w' : World) : Prop :=
  ∃ (lv ev : Value), e = .returned (.tuple #[lv, ev]) ∧ ErrIs w' r.2.2 ev ∧ (r.2.2 = [] → kTm.R tyTm w' w.heap.size (fun _ => True) lv r.1) ∧ (r.2.2 ≠ [] → lv = .slice none 0 0) ∧ ∃ k', RdTo w b s k' d w' ∧ k' ≤ s.size ∧ (r.2.2 = [] → k' = r.2.1)
theorem R_read {W W' : World} {base b : Nat} {l : List Tm} {v : Value} {s : ByteArray} {k d : Nat} (h : kTm.R tyTm W base (fun _ => True) v l) (hr : RdAt W b s k d) (hg : W.grownBy W' (some b)) : kTm.R tyTm W' base (fun _ => True) v l :=
  Kd.R_mono (Kd.R_grown (Kd.R_types h hr.h (by decide)) hg (fun k hk => by simpa using hk.2)) (fun _ _ => trivial)
set_option maxRecDepth 100000 in
set_option maxHeartbeats 8000000 in
theorem rd_several (b g4 g5 : Nat) (s : ByteArray) (k0 d : Nat) (F : Nat → Rd) (hF : TermSays s b g4 g5 d F) (hFw : Fwd s F) (h0 : k0 ≤ s.size) (hm : s.size ≤ 4194304) (w : World) (hS : RdAt w b s k0 d) (hX : Boxes w b g4 g5) :
    Calls Tryz.prog 151 #[.pointer (some ⟨b, 0, none⟩), tv g4 g5] w (SevE w b s d (sevAt F s (s.size + 1) k0 [])) := by
  have hE := callFunc_in Tryz.func47 (by kernel_rfl) rfl
  obtain ⟨R, hR⟩ : ∃ R, R = sevAt F s (s.size + 1) k0 [] := ⟨_, rfl⟩
  rw [← hR]
  have HR := Lib.hid hR.symm
  have HS := Lib.hid (RdTo.refl hS)
  have HX := Lib.hid hX
  have HX0 := Lib.hid hX
  have HF := Lib.hid hF
  have HFW := Lib.hid hFw
  have HLT := Lib.hid hS.lt
  clear hR hS hX hF hFw
  go_enter Tryz.func151, Tryz.ntmps151
  go_wp2_with fail
  go_loopg [6] (s.size + 1) (fun gk vl wl => ∃ (k m : Nat) (acc : List Tm), gk = m ∧ k ≤ s.size ∧ s.size + 1 ≤ m + k ∧ acc.length + m ≤ s.size + 1 ∧ Hid (sevAt F s m k acc = R) ∧ Hid (RdTo w b s k d wl) ∧ Hid (Boxes wl b g4 g5) ∧ Hid (kTm.R tyTm wl w.heap.size (fun _ => True) vl acc))
  case atStart => exact ⟨k0, s.size + 1, [], rfl, h0, by omega, by simp, HR, HS, HX, Lib.hid (Kd.R_nil _ _ _ _ _)⟩
  case round =>
    clear HR HS HX
    obtain ⟨k, m, acc, hgk, hk, hmk, hla, HR, HS, HX, HL⟩ := hrel
    have HK := Lib.hid hgk
    clear hgk
    have HC := Lib.hid (HF.out k wr hk HS.out.2 HX.out)
    obtain ⟨m, rfl⟩ : ∃ n, m = n + 1 := ⟨m - 1, by omega⟩
    have HSE := Lib.hid (sev_err (F := F) (s := s) (k := k) (m := m) (acc := acc))
    have HSM := Lib.hid (sev_more (F := F) (s := s) (k := k) (m := m) (acc := acc))
    have HSL := Lib.hid (sev_last (F := F) (s := s) (k := k) (m := m) (acc := acc))
    have HSZ : Hid (w.heap.size ≤ wr.heap.size) := Lib.hid HS.out.1.size
    have HQF : Hid (∀ t e, F k = (t, e, []) → k ≤ e) := Lib.hid fun t e h => Nat.le_of_lt (HFW.out k t e h).1
    generalize hq : F k = q at HC HSE HSM HSL HQF
    clear hq
    obtain ⟨t, e0, l⟩ := q
    go_wp2_with fail
    refine HC.out.mono ?_
    rintro e w2 ⟨v, ev, rfl, hM, hE, k', hT, hk', hk2⟩
    have HT := Lib.hid (HS.out.trans hT)
    have HX2 := Lib.hid (HX.out.step hT.1)
    have HL2 := Lib.hid (R_read HL.out HS.out.2 hT.1)
    have HW2 := Lib.hid (hT.1.size)
    have HLL := Lib.hid (Kd.R_lt HL.out)
    have HE := Lib.hid hE
    obtain ⟨v4, v5, rfl, hM4, hM5⟩ := hM
    obtain ⟨A4, c4, rfl⟩ := Kd.R_slice hM4
    obtain ⟨A5, c5, rfl⟩ := Kd.R_slice hM5
    have HM4 := Lib.hid hM4
    have HM5 := Lib.hid hM5
    clear hT hM4 hM5 HC HS HX HL
    unfold tmV
    cases l with
    | cons x r =>
      have HR2 : Hid (R = ([], 0, x :: r)) := Lib.hid (HR.out.symm.trans (HSE.out (by simp)))
      obtain ⟨eb, eu, rfl, _⟩ := hE
      go_wp2_with fail
      go_ret2
      rw [HR2.out]
      have hb := below_alloc (Below.refl w2.heap.size w2) (.cells #[.int .i64 t.kd, .int .i64 t.it, .string t.tx, .int .u32 t.cr, .slice A4 t.nums.length c4, .slice A5 t.args.length c5] 27)
      exact ⟨_, _, rfl, HE.out.below hb, fun h => by simp at h, fun _ => rfl, k', HT.out.below hb, hk', fun h => by simp at h⟩
    | nil =>
      obtain rfl : ev = .nilIface := hE
      obtain rfl := hk2 rfl
      clear hk2 HSE HE
      go_upto_region 5 with (fail)
      have hb3 := below_alloc (Below.refl w2.heap.size w2) (.cells #[.int .i64 t.kd, .int .i64 t.it, .string t.tx, .int .u32 t.cr, .slice A4 t.nums.length c4, .slice A5 t.args.length c5] 27)
      have hta := TmAt.new w2 t (.slice A4 t.nums.length c4) (.slice A5 t.args.length c5)
      obtain ⟨w3, hw3⟩ : ∃ W, W = w2.alloc (.cells #[.int .i64 t.kd, .int .i64 t.it, .string t.tx, .int .u32 t.cr, .slice A4 t.nums.length c4, .slice A5 t.args.length c5] 27) := ⟨_, rfl⟩
      rw [← hw3] at hb3 hta
      rw [← hw3]
      clear hw3
      have HT3 := Lib.hid (HT.out.below hb3)
      have HL3 := Lib.hid (Kd.R_below HL2.out hb3)
      have HM3 : Hid (kTm.M w3 w.heap.size (fun j => wr.heap.size ≤ j) t [.int .i64 t.kd, .int .i64 t.it, .string t.tx, .int .u32 t.cr, .slice A4 t.nums.length c4, .slice A5 t.args.length c5]) := Lib.hid (kTm_mkM w3 w.heap.size _ t
        (Kd.R_lower (Kd.R_mono (Kd.R_bound (Kd.R_below HM4.out hb3)) (fun j hj => hj.2.1)) HSZ.out)
        (Kd.R_lower (Kd.R_mono (Kd.R_bound (Kd.R_below HM5.out hb3)) (fun j hj => hj.2.1)) HSZ.out))
      have HBS : Hid (w.heap.size ≤ w3.heap.size) := Lib.hid HT3.out.1.size
      have hl88 : (acc.length + 1) * 88 ≤ 140737488355328 := by omega
      obtain ⟨t0, t1, t2, t3, t4, t5, _, _, _, _, _, _⟩ := hta
      clear hb3 HM4 HM5 HL2 HT HX2 HW2
      go_wp2_with (at_builtin; refine Kd.R_append kTm (w0 := w3) w.heap.size rfl (.tmp 17) (.tmp 19) 25 27 (.agg #[(.int .i64 0), (.int .i64 0), (.string ⟨#[]⟩), (.int .u32 0), (.slice none 0 0), (.slice none 0 0)]) 88 rfl Tryz.underlying25 infoTm rfl (by decide) (by omega) u6 acc t [.int .i64 t.kd, .int .i64 t.it, .string t.tx, .int .u32 t.cr, .slice A4 t.nums.length c4, .slice A5 t.args.length c5] (fun _ => True) (fun j => wr.heap.size ≤ j) ?hs ?hx ?hp ?hok ?hfr ?hO ?hB ?hbs ?hl ?_; (case hs => rfl); (case hx => first | rfl | (simp [Act.eval]; done)); (case hp => exact HM3.out); (case hok => exact fun j hj => ⟨trivial, fun e => by have := HLL.out j e.symm; omega⟩); (case hfr => exact fun _ _ => trivial); (case hO => exact HL3.out); (case hB => exact Below.refl _ _); (case hbs => exact HBS.out); (case hl => exact hl88); intro v1 w5 ho hb hg hat; have HO5 := Lib.hid ho; have HT5 := Lib.hid (HT3.out.below' hb (Nat.le_refl _) HLT.out); clear ho hb hg hat)
      refine (take_c b s k' d 44 44 (by decide) hk' hm w5 HT5.out.2).mono ?_
      rintro e w6 ⟨rfl, hT6⟩
      have HT6 := Lib.hid (HT5.out.trans hT6)
      have HL6 := Lib.hid (R_read HO5.out HT5.out.2 hT6.1)
      clear hT6 HT5 HO5 HT3 HL3 HM3
      have HLE : Hid (k ≤ blk s k') := Lib.hid (Nat.le_trans (HQF.out t k' rfl) (blk_ge s k'))
      cases hc : isAt s (blk s k') 44 with
      | true =>
        have HR2 := Lib.hid ((HSM.out (by trivial) hc).symm.trans HR.out)
        rw [hc] at HT6
        have hlt := isAt_lt hc
        clear hc
        go_wp2_with fail
        go_roundg m
        case measure => rw [HK.out]; omega
        case rel => exact ⟨blk s k' + 1, m, acc ++ [t], rfl, by omega, by have := HLE.out; omega, by rw [List.length_append]; simp; omega, HR2, HT6, Lib.hid (HX0.out.step HT6.out.1), HL6⟩
      | false =>
        have HR2 : Hid (R = (acc ++ [t], blk s k', [])) := Lib.hid (HR.out.symm.trans (HSL.out (by trivial) hc))
        rw [hc] at HT6
        clear hc
        go_wp2_with fail
        go_ret2
        rw [HR2.out]
        exact ⟨_, _, rfl, rfl, fun _ => HL6.out, fun h => absurd rfl h, blk s k', HT6.out, blk_le s k' hk', fun _ => rfl⟩
end Go.Proofs.YtgapeacflkfmdaaGreatDoor
set_option linter.unusedSimpArgs false
namespace Go.Proofs.YtgapeacflkfmdaaGreatDoor
open Go.RowKit Go.Sort Go.Proofs.YtgapeacflkfmdaaGreatDoorW.PrintWords

theorem blk_idem (s : ByteArray) : ∀ (d k : Nat), s.size - k = d → blk s (blk s k) = blk s k
  | 0, k, h => by rw [show blk s k = k from runEnd_out (by omega), show blk s k = k from runEnd_out (by omega)]
  | d + 1, k, h => by
    cases hb : isBlank (bt s (k : Int)) with
    | true => rw [show blk s k = blk s (k + 1) from (runEnd_yes (by omega) hb).symm]; exact blk_idem s d (k + 1) (by omega)
    | false => rw [show blk s k = k from runEnd_no (by omega) hb, show blk s k = k from runEnd_no (by omega) hb]
theorem blk_blk (s : ByteArray) (k : Nat) : blk s (blk s k) = blk s k := blk_idem s _ k rfl
theorem sev_blk {F : Nat → Rd} {s : ByteArray} (hF : Fwd s F) : ∀ (m k : Nat) (acc : List Tm), k ≤ s.size → s.size + 1 ≤ m + k → (sevAt F s m k acc).2.2 = [] → blk s (sevAt F s m k acc).2.1 = (sevAt F s m k acc).2.1 ∧ k < (sevAt F s m k acc).2.1 ∧ (sevAt F s m k acc).1.length + k ≤ acc.length + (sevAt F s m k acc).2.1 ∧ (sevAt F s m k acc).2.1 ≤ s.size
  | 0, k, acc, h, hm, hn => by omega
  | m + 1, k, acc, h, hm, hn => by
    by_cases he : (F k).2.2 = []
    · have hle := hF k (F k).1 (F k).2.1 (by rw [← he])
      have hge := blk_ge s (F k).2.1
      cases hc : isAt s (blk s (F k).2.1) 44 with
      | true =>
        rw [sev_more he hc] at hn ⊢
        have hlt := isAt_lt hc
        have ih := sev_blk hF m (blk s (F k).2.1 + 1) (acc ++ [(F k).1]) (by omega) (by omega) hn
        have ih2 := ih.2.2.1
        rw [List.length_append, List.length_singleton] at ih2
        exact ⟨ih.1, by omega, by omega, ih.2.2.2⟩
      | false =>
        rw [sev_last he hc]
        exact ⟨blk_blk _ _, by simp only; omega, by simp only [List.length_append, List.length_singleton]; omega, blk_le _ _ hle.2.1⟩
    · rw [sev_err he] at hn
      exact absurd hn he
/-- Behind its elements. -/
def tupEnd (s : ByteArray) (q : List Tm × Nat × List Lk) : Rd := if q.2.2 = [] then (if isAt s q.2.1 125 then (⟨5, 0, ⟨#[]⟩, 0, [], q.1⟩, q.2.1 + 1, []) else rdNo q.2.1 41) else (zTm, 0, q.2.2)
theorem tupleAt_eq (F : Nat → Rd) (s : ByteArray) (k : Nat) : tupleAt F s k = if isAt s (blk s k) 125 then (⟨5, 0, ⟨#[]⟩, 0, [], []⟩, blk s k + 1, []) else tupEnd s (sevAt F s (s.size + 1) (blk s k) []) := by
  unfold tupleAt tupEnd
  generalize sevAt F s (s.size + 1) (blk s k) [] = q
  obtain ⟨l, e, r⟩ := q
  split
  · rfl
  · cases r with
    | nil => rfl
    | cons x y => rfl
set_option maxRecDepth 100000 in
set_option maxHeartbeats 8000000 in
theorem rd_tuple (b g4 g5 : Nat) (s : ByteArray) (k0 d : Nat) (F : Nat → Rd) (hF : TermSays s b g4 g5 d F) (hFw : Fwd s F) (h0 : k0 ≤ s.size) (hm : s.size ≤ 4194304) (w : World) (hS : RdAt w b s k0 d) (hX : Boxes w b g4 g5) :
    Calls Tryz.prog 100 #[.pointer (some ⟨b, 0, none⟩), tv g4 g5] w (TermE w b s d (tupleAt F s k0)) := by
  have hG := hX.gl
  obtain ⟨R, hR⟩ : ∃ R, R = tupleAt F s k0 := ⟨_, rfl⟩
  rw [← hR]
  rw [tupleAt_eq] at hR
  have HR0 := Lib.hid hR
  have HX0 := Lib.hid hX
  have HTS := Lib.hid hF
  have HFW := Lib.hid hFw
  clear hR hX hF hFw
  obtain ⟨w1, hw1⟩ : ∃ W, W = w.alloc (.cells #[.int .i64 0, .int .i64 0, .string ⟨#[]⟩, .int .u32 0, .slice none 0 0, .slice none 0 0] 27) := ⟨_, rfl⟩
  have hF : RdF w w1 b s k0 d := by rw [hw1]; exact RdF.start hS
  have HG : Hid (GlobG w1 b) := Lib.hid (hG.step hF.rd.1)
  have HF := Lib.hid hF
  clear hS hG hF
  go_enter Tryz.func100, Tryz.ntmps100
  go_upto_region 1 with (fail)
  rw [← hw1]
  clear hw1
  have HT1 := Lib.hid (take_c b s k0 d 125 125 (by decide) h0 hm w1 HF.out.rd.2)
  go_wp2_with fail
  refine HT1.out.mono ?_
  rintro e w2 ⟨rfl, hT⟩
  have HF2 := Lib.hid (HF.out.step hT)
  clear hT HT1 HF HG
  cases hc : isAt s (blk s k0) 125 with
  | true =>
    rw [hc] at HF2
    have HR : Hid (R = (⟨5, 0, ⟨#[]⟩, 0, [], []⟩, blk s k0 + 1, [])) := Lib.hid (by rw [HR0.out, if_pos hc])
    have hlt := isAt_lt hc
    clear hc
    have a0 := HF2.out.rd.2.c0
    have a1 := HF2.out.rd.2.c1
    have f1 := HF2.out.rd.2.f1
    obtain ⟨r0, r1, r2, r3, r4, r5, g0, g1, g2, g3, g4, g5⟩ := HF2.out.tm
    simp only [zTm] at r0 r1 r2 r3 r4 r5
    go_wp2_with fail
    refine bodyPost_ret (resTm2 rfl _ _ w.heap.size ⟨5, 0, ⟨#[]⟩, 0, [], []⟩ _ _ (by rfl) (HF2.out.tm.put ⟨5, 0, ⟨#[]⟩, 0, [], []⟩ _ _)) rfl ?_
    rw [HR.out]
    exact HF2.out.done ⟨5, 0, ⟨#[]⟩, 0, [], []⟩ (TmMade.flat _ _ _ _ _ _) (show blk s k0 + 1 ≤ s.size by omega)
  | false =>
    rw [hc] at HF2
    have HR1 : Hid (R = tupEnd s (sevAt F s (s.size + 1) (blk s k0) [])) := Lib.hid (by rw [HR0.out, if_neg (by simp [hc])])
    have hkb := blk_le s k0 h0
    have HSV := Lib.hid (rd_several b g4 g5 s (blk s k0) d F HTS.out HFW.out hkb hm w2 HF2.out.rd.2 (HX0.out.step HF2.out.rd.1))
    have HSB := Lib.hid (sev_blk HFW.out (s.size + 1) (blk s k0) [] hkb (by omega))
    clear hc HR0
    generalize sevAt F s (s.size + 1) (blk s k0) [] = q at HR1 HSV HSB
    obtain ⟨l, e0, r⟩ := q
    go_wp2_with fail
    refine HSV.out.mono ?_
    rintro e w3 ⟨lv, ev, rfl, hE, hL, hL0, k', hT, hk', hk2⟩
    have HF3 := Lib.hid (HF2.out.step hT)
    have HE := Lib.hid hE
    have HZ2 : Hid (w.heap.size + 1 ≤ w2.heap.size) := Lib.hid HF2.out.tm.lt
    clear hT HSV HF2
    cases r with
    | cons x y =>
      have HR : Hid (R = (zTm, 0, x :: y)) := Lib.hid (HR1.out.trans (by simp [tupEnd]))
      obtain ⟨eb, eu, rfl, _⟩ := hE
      obtain rfl := hL0 (by simp)
      clear hL
      have a0 := HF3.out.rd.2.c0
      have a1 := HF3.out.rd.2.c1
      have f1 := HF3.out.rd.2.f1
      obtain ⟨r0, r1, r2, r3, r4, r5, g0, g1, g2, g3, g4, g5⟩ := HF3.out.tm
      simp only [zTm] at r0 r1 r2 r3 r4 r5
      go_wp2_with fail
      refine bodyPost_ret (resTm2 rfl _ _ w.heap.size zTm _ _ (by rfl) (HF3.out.tm.put zTm _ _)) rfl ?_
      rw [HR.out]
      exact HF3.out.fail HE.out (by simp) hk'
    | nil =>
      obtain rfl : ev = .nilIface := hE
      obtain rfl := hk2 rfl
      have hL := hL rfl
      obtain ⟨A5, c5, rfl⟩ := Kd.R_slice hL
      have HL := Lib.hid hL
      have HBK : Hid (blk s k' = k') := Lib.hid (HSB.out rfl).1
      clear hL hL0 hk2 HSB HE
      have HT3 := Lib.hid (take_c b s k' d 125 125 (by decide) hk' hm w3 HF3.out.rd.2)
      rw [HBK.out] at HT3
      go_wp2_with fail
      refine HT3.out.mono ?_
      rintro e w4 ⟨rfl, hT⟩
      have HF4 := Lib.hid (HF3.out.step hT)
      have HL4 := Lib.hid (R_read HL.out HF3.out.rd.2 hT.1)
      clear hT HT3 HF3 HL
      cases hc : isAt s k' 125 with
      | false =>
        rw [hc] at HF4
        have HR : Hid (R = rdNo k' 41) := Lib.hid (HR1.out.trans (by simp [tupEnd, hc]))
        clear hc
        go_wp2_with fail
        refine (rd_text b s (k') d _ HF4.out.rd.2).mono ?_
        rintro e w7 ⟨v, rfl, hE, hB⟩
        have HE := Lib.hid hE
        have HF7 := Lib.hid (HF4.out.below hB)
        clear hE hB
        have a0 := HF7.out.rd.2.c0
        have a1 := HF7.out.rd.2.c1
        have f1 := HF7.out.rd.2.f1
        obtain ⟨r0, r1, r2, r3, r4, r5, g0, g1, g2, g3, g4, g5⟩ := HF7.out.tm
        simp only [zTm] at r0 r1 r2 r3 r4 r5
        go_wp2_with fail
        refine bodyPost_ret (resTm2 rfl _ _ w.heap.size zTm _ _ (by rfl) (HF7.out.tm.put zTm _ _)) rfl ?_
        rw [HR.out]
        exact HF7.out.fail HE.out (by simp) hk'
      | true =>
        rw [hc] at HF4
        have HR : Hid (R = (⟨5, 0, ⟨#[]⟩, 0, [], l⟩, k' + 1, [])) := Lib.hid (HR1.out.trans (by simp [tupEnd, hc]))
        have hlt := isAt_lt hc
        clear hc
        have a0 := HF4.out.rd.2.c0
        have a1 := HF4.out.rd.2.c1
        have f1 := HF4.out.rd.2.f1
        obtain ⟨r0, r1, r2, r3, r4, r5, g0, g1, g2, g3, g4, g5⟩ := HF4.out.tm
        simp only [zTm] at r0 r1 r2 r3 r4 r5
        go_wp2_with fail
        refine bodyPost_ret (resTm2 rfl _ _ w.heap.size ⟨5, 0, ⟨#[]⟩, 0, [], l⟩ _ _ (by rfl) (HF4.out.tm.put ⟨5, 0, ⟨#[]⟩, 0, [], l⟩ _ _)) rfl ?_
        rw [HR.out]
        exact HF4.out.done ⟨5, 0, ⟨#[]⟩, 0, [], l⟩ ⟨_, _, rfl, Kd.R_nil _ _ _ _ _, Kd.R_lower HL4.out HZ2.out⟩ (show k' + 1 ≤ s.size by omega)
end Go.Proofs.YtgapeacflkfmdaaGreatDoor
set_option linter.unusedSimpArgs false
namespace Go.Proofs.YtgapeacflkfmdaaGreatDoor
open Go.RowKit Go.Sort Go.Proofs.YtgapeacflkfmdaaGreatDoorW.PrintWords

/-- The reader, the result's box, the elements, and the tail in block g. -/
structure ListF (w W : World) (b : Nat) (s : ByteArray) (k d g : Nat) (l : List Tm) (lv : Value) (t : Tm) (v4 v5 : Value) : Prop where
  f : RdF w W b s k d
  ta : TmAt W g t v4 v5
  l : kTm.R tyTm W (w.heap.size + 1) (fun j => j ≠ g ∧ j ≠ b) lv l
  t4 : kU.R tyU32 W (w.heap.size + 1) (fun j => (j ≠ g ∧ j ≠ b) ∧ some j ≠ lv.ownBlock) v4 t.nums
  t5 : kTm.R tyTm W (w.heap.size + 1) (fun j => (j ≠ g ∧ j ≠ b) ∧ some j ≠ lv.ownBlock) v5 t.args
  hg : w.heap.size < g
  hb : b < w.heap.size
theorem ListF.step {w W W' : World} {b : Nat} {s : ByteArray} {k d k2 d2 g : Nat} {l : List Tm} {lv : Value} {t : Tm} {v4 v5 : Value} (h : ListF w W b s k d g l lv t v4 v5) (h2 : RdTo W b s k2 d2 W') : ListF w W' b s k2 d2 g l lv t v4 v5 :=
  ⟨h.f.step h2, h.ta.grown h2.1 (by have := h.hg; have := h.hb; omega), Kd.R_grown h.l h2.1 (fun k hk => by simp; exact hk.2), Kd.R_grown h.t4 h2.1 (fun k hk => by simp; exact hk.1.2), Kd.R_grown h.t5 h2.1 (fun k hk => by simp; exact hk.1.2), h.hg, h.hb⟩
theorem ListF.start {w W0 W : World} {b : Nat} {s : ByteArray} {k d : Nat} {l : List Tm} {lv : Value} (h : RdF w W b s k d) (hl : kTm.R tyTm W W0.heap.size (fun _ => True) lv l) (hs : w.heap.size < W.heap.size) (h0 : w.heap.size + 1 ≤ W0.heap.size) :
    ListF w (W.alloc (.cells #[.int .i64 6, .int .i64 0, .string ⟨#[]⟩, .int .u32 0, .slice none 0 0, .slice none 0 0] 27)) b s k d W.heap.size l lv tmNil vNone vNone := by
  have hlt := h.lt
  have h1 : kTm.R tyTm W W0.heap.size (fun j => j ≠ W.heap.size ∧ j ≠ b) lv l := Kd.R_mono (Kd.R_bound hl) (fun j hj => by have := hj.2.1; have := hj.2.2.1; omega)
  have hb := below_alloc (Below.refl W.heap.size W) (.cells #[.int .i64 6, .int .i64 0, .string ⟨#[]⟩, .int .u32 0, .slice none 0 0, .slice none 0 0] 27)
  have ht := TmAt.new W tmNil vNone vNone
  have ht : TmAt (W.alloc (.cells #[.int .i64 6, .int .i64 0, .string ⟨#[]⟩, .int .u32 0, .slice none 0 0, .slice none 0 0] 27)) W.heap.size tmNil vNone vNone := ht
  generalize W.alloc (.cells #[.int .i64 6, .int .i64 0, .string ⟨#[]⟩, .int .u32 0, .slice none 0 0, .slice none 0 0] 27) = W2 at hb ht ⊢
  exact ⟨h.below hb, ht, Kd.R_lower (Kd.R_below h1 hb) h0, Kd.R_nil _ _ _ _ _, Kd.R_nil _ _ _ _ _, hs, h.lt⟩
theorem tmV_inj {t : Tm} {u4 u5 w4 w5 : Value} (h : tmV t u4 u5 = tmV t w4 w5) : u4 = w4 ∧ u5 = w5 := by
  unfold tmV at h
  have h := Value.agg.inj h
  have h2 := congrArg Array.toList h
  simp only [List.cons.injEq, and_true, true_and] at h2
  exact h2
/-- The tail is read. -/
theorem ListF.tail {w W W' : World} {b : Nat} {s : ByteArray} {k d k2 d2 g : Nat} {l : List Tm} {lv : Value} {t : Tm} {v4 v5 : Value} (h : ListF w W b s k d g l lv t v4 v5) (h2 : RdTo W b s k2 d2 W') (t2 : Tm) {u4 u5 : Value} (hm : TmMade W' W.heap.size t2 (tmV t2 u4 u5)) :
    ListF w (put6 W' g t2 u4 u5) b s k2 d2 g l lv t2 u4 u5 := by
  have h1 := h.step h2
  obtain ⟨w4, w5, e, h4, h5⟩ := hm
  obtain ⟨rfl, rfl⟩ := tmV_inj e
  have hgl := h.ta.lt
  have hbl := h.f.rd.2.lt
  have hll := Kd.R_lt h.l
  have hok : ∀ j, W.heap.size ≤ j → (j ≠ g ∧ j ≠ b) ∧ some j ≠ lv.ownBlock := fun j hj => ⟨by omega, fun e => by have := hll j e.symm; omega⟩
  have hsz : w.heap.size + 1 ≤ W.heap.size := h.f.tm.lt
  have hg6 := grown_put6 W' g t2 u4 u5
  have ht6 : TmAt (put6 W' g t2 u4 u5) g t2 u4 u5 := h1.ta.put t2 u4 u5
  generalize put6 W' g t2 u4 u5 = W6 at hg6 ht6 ⊢
  have k4 := Kd.R_lower (Kd.R_mono (Kd.R_bound h4) (fun j hj => hok j hj.2.1)) hsz
  have k5 := Kd.R_lower (Kd.R_mono (Kd.R_bound h5) (fun j hj => hok j hj.2.1)) hsz
  exact ⟨h1.f.far hg6 h.hg h.hb, ht6, Kd.R_grown h1.l hg6 (fun j hj => by simp; exact hj.1), Kd.R_grown k4 hg6 (fun j hj => by simp; exact hj.1.1), Kd.R_grown k5 hg6 (fun j hj => by simp; exact hj.1.1), h.hg, h.hb⟩
/-- Behind its elements. -/
def lstEnd (F : Nat → Rd) (s : ByteArray) (q : List Tm × Nat × List Lk) : Rd :=
  if q.2.2 = [] then (if isAt s q.2.1 124 then (if (F (q.2.1 + 1)).2.2 = [] then listEnd s q.1 (F (q.2.1 + 1)).1 (blk s (F (q.2.1 + 1)).2.1) else (zTm, 0, (F (q.2.1 + 1)).2.2)) else listEnd s q.1 tmNil q.2.1) else (zTm, 0, q.2.2)
theorem listAt_eq (F : Nat → Rd) (s : ByteArray) (k : Nat) : listAt F s k = if isAt s (blk s k) 93 then (tmNil, blk s k + 1, []) else lstEnd F s (sevAt F s (s.size + 1) (blk s k) []) := by
  unfold listAt lstEnd
  generalize sevAt F s (s.size + 1) (blk s k) [] = q
  obtain ⟨l, e, r⟩ := q
  split
  · rfl
  · cases r with
    | nil =>
      simp only [if_true]
      split
      · generalize F (e + 1) = q2
        obtain ⟨t, e2, r2⟩ := q2
        cases r2 with
        | nil => rfl
        | cons x y => rfl
      · rfl
    | cons x y => rfl
theorem RdF.appd {w W W' : World} {b : Nat} {s : ByteArray} {k d : Nat} (h : RdF w W b s k d) (hb : Below (w.heap.size + 1) W W') : RdF w W' b s k d :=
  ⟨h.rd.below' hb (Nat.le_succ _) (Nat.lt_succ_of_lt h.lt), h.tm.below hb (Nat.lt_succ_self _), h.lt⟩
theorem tm_rows {W : World} {base : Nat} {ok : Nat → Prop} {l : List Tm} {A : Option Addr} {c : Nat} (h : kTm.R tyTm W base ok (.slice A l.length c) l) : ReadsRow (kTm.M W base ok) kTm.sz W A l.length l := by
  obtain ⟨A', c', he, _, hr⟩ := OwnRow.reads h.2
  injection he with h1 h2 h3
  subst h1
  exact hr.imp_ (Below.refl _ _) (fun _ _ hp => kTm.M_mono (fun k hk => hk.1) hp)
set_option maxRecDepth 100000 in
set_option maxHeartbeats 8000000 in
theorem rd_list (b g4 g5 : Nat) (s : ByteArray) (k0 d : Nat) (F : Nat → Rd) (hF : TermSays s b g4 g5 d F) (hFw : Fwd s F) (h0 : k0 ≤ s.size) (hm : s.size ≤ 4194304) (w : World) (hS : RdAt w b s k0 d) (hX : Boxes w b g4 g5) :
    Calls Tryz.prog 101 #[.pointer (some ⟨b, 0, none⟩), tv g4 g5] w (TermE w b s d (listAt F s k0)) := by
  have hG := hX.gl
  have hEF := callFunc_in Tryz.func47 (by kernel_rfl) rfl
  obtain ⟨R, hR⟩ : ∃ R, R = listAt F s k0 := ⟨_, rfl⟩
  rw [← hR]
  rw [listAt_eq] at hR
  have HR0 := Lib.hid hR
  have HX0 := Lib.hid hX
  have HTS := Lib.hid hF
  have HFW := Lib.hid hFw
  clear hR hX hF hFw
  obtain ⟨w1, hw1⟩ : ∃ W, W = w.alloc (.cells #[.int .i64 0, .int .i64 0, .string ⟨#[]⟩, .int .u32 0, .slice none 0 0, .slice none 0 0] 27) := ⟨_, rfl⟩
  have hF : RdF w w1 b s k0 d := by rw [hw1]; exact RdF.start hS
  have HG : Hid (GlobG w1 b) := Lib.hid (hG.step hF.rd.1)
  have HF := Lib.hid hF
  clear hS hG hF
  go_enter Tryz.func101, Tryz.ntmps101
  go_upto_region 1 with (fail)
  rw [← hw1]
  clear hw1
  have HT1 := Lib.hid (take_c b s k0 d 93 93 (by decide) h0 hm w1 HF.out.rd.2)
  go_wp2_with fail
  refine HT1.out.mono ?_
  rintro e w2 ⟨rfl, hT⟩
  have HF2 := Lib.hid (HF.out.step hT)
  clear hT HT1 HF HG
  cases hc : isAt s (blk s k0) 93 with
  | true =>
    rw [hc] at HF2
    have HR : Hid (R = (tmNil, blk s k0 + 1, [])) := Lib.hid (by rw [HR0.out, if_pos hc])
    have hlt := isAt_lt hc
    clear hc
    have a0 := HF2.out.rd.2.c0
    have a1 := HF2.out.rd.2.c1
    have f1 := HF2.out.rd.2.f1
    obtain ⟨r0, r1, r2, r3, r4, r5, g0, g1, g2, g3, g4, g5⟩ := HF2.out.tm
    simp only [zTm] at r0 r1 r2 r3 r4 r5
    go_wp2_with fail
    refine bodyPost_ret (resTm2 rfl _ _ w.heap.size tmNil _ _ (by rfl) (HF2.out.tm.put tmNil _ _)) rfl ?_
    rw [HR.out]
    exact HF2.out.done tmNil (TmMade.flat _ _ _ _ _ _) (show blk s k0 + 1 ≤ s.size by omega)
  | false =>
    rw [hc] at HF2
    have HR1 : Hid (R = lstEnd F s (sevAt F s (s.size + 1) (blk s k0) [])) := Lib.hid (by rw [HR0.out, if_neg (by simp [hc])])
    have hkb := blk_le s k0 h0
    have HSV := Lib.hid (rd_several b g4 g5 s (blk s k0) d F HTS.out HFW.out hkb hm w2 HF2.out.rd.2 (HX0.out.step HF2.out.rd.1))
    have HSB := Lib.hid (sev_blk HFW.out (s.size + 1) (blk s k0) [] hkb (by omega))
    clear hc HR0
    generalize sevAt F s (s.size + 1) (blk s k0) [] = q at HR1 HSV HSB
    obtain ⟨l, e0, r⟩ := q
    go_wp2_with fail
    refine HSV.out.mono ?_
    rintro e w3 ⟨lv, ev, rfl, hE, hL, hL0, k', hT, hk', hk2⟩
    have HF3 := Lib.hid (HF2.out.step hT)
    have HE := Lib.hid hE
    have HZ2 : Hid (w.heap.size + 1 ≤ w2.heap.size) := Lib.hid HF2.out.tm.lt
    clear hT HSV HF2
    cases r with
    | cons x y =>
      have HR : Hid (R = (zTm, 0, x :: y)) := Lib.hid (HR1.out.trans (by simp [lstEnd]))
      obtain ⟨eb, eu, rfl, _⟩ := hE
      obtain rfl := hL0 (by simp)
      clear hL
      have a0 := HF3.out.rd.2.c0
      have a1 := HF3.out.rd.2.c1
      have f1 := HF3.out.rd.2.f1
      obtain ⟨r0, r1, r2, r3, r4, r5, g0, g1, g2, g3, g4, g5⟩ := HF3.out.tm
      simp only [zTm] at r0 r1 r2 r3 r4 r5
      go_wp2_with fail
      refine bodyPost_ret (resTm2 rfl _ _ w.heap.size zTm _ _ (by rfl) (HF3.out.tm.put zTm _ _)) rfl ?_
      rw [HR.out]
      exact HF3.out.fail HE.out (by simp) hk'
    | nil =>
      obtain rfl : ev = .nilIface := hE
      obtain rfl := hk2 rfl
      have hL := hL rfl
      obtain ⟨A6, c6, rfl⟩ := Kd.R_slice hL
      have hsb := HSB.out rfl
      have HBK : Hid (blk s k' = k') := Lib.hid hsb.1
      have hlen : l.length ≤ s.size := by have := hsb.2.2.1; simp only [List.length_nil] at this; omega
      have HLF := Lib.hid (ListF.start HF3.out hL HF3.out.tm.lt HZ2.out)
      clear hL hL0 hk2 HSB HE hsb
      go_upto_region 7 with (fail)
      generalize w3.alloc (.cells #[.int .i64 6, .int .i64 0, .string ⟨#[]⟩, .int .u32 0, .slice none 0 0, .slice none 0 0] 27) = w4 at HLF ⊢
      generalize w3.heap.size = g at HLF ⊢
      clear HF3 HZ2
      have HT3 := Lib.hid (take_c b s k' d 124 124 (by decide) hk' hm w4 HLF.out.f.rd.2)
      rw [HBK.out] at HT3
      go_wp2_with fail
      refine HT3.out.mono ?_
      rintro e w5 ⟨rfl, hT⟩
      have HL5 := Lib.hid (HLF.out.step hT)
      clear hT HT3 HLF
      cases hc : isAt s k' 124 with
      | false =>
        rw [hc] at HL5
        have HR5 : Hid (R = listEnd s l tmNil (blk s k')) := Lib.hid (HR1.out.trans (by rw [HBK.out]; simp [lstEnd, hc]))
        clear hc HR1
        have HL6 : Hid (ListF w w5 b s k' d g l (.slice A6 l.length c6) tmNil vNone vNone) := Lib.hid HL5.out
        clear HL5
        have HTL := Lib.hid (take_c b s (k') d 93 93 (by decide) (by omega) hm _ HL6.out.f.rd.2)
        go_wp2_with fail
        refine HTL.out.mono ?_
        rintro e w8 ⟨rfl, hT⟩
        have HL8 := Lib.hid (HL6.out.step hT)
        clear hT HTL HL6
        cases hc : isAt s (blk s (k')) 93 with
        | false =>
          rw [hc] at HL8
          have HR : Hid (R = rdNo (blk s (k')) 41) := Lib.hid (HR5.out.trans (by unfold listEnd; rw [if_neg (by simp [hc])]))
          have HF8 := Lib.hid HL8.out.f
          have hk8 : blk s (k') ≤ s.size := blk_le s (k') (by omega)
          clear hc
          go_wp2_with fail
          refine (rd_text b s (blk s (k')) d _ HF8.out.rd.2).mono ?_
          rintro e w7 ⟨v, rfl, hE, hB⟩
          have HE := Lib.hid hE
          have HF7 := Lib.hid (HF8.out.below hB)
          clear hE hB
          have a0 := HF7.out.rd.2.c0
          have a1 := HF7.out.rd.2.c1
          have f1 := HF7.out.rd.2.f1
          obtain ⟨r0, r1, r2, r3, r4, r5, g0, g1, g2, g3, g4, g5⟩ := HF7.out.tm
          simp only [zTm] at r0 r1 r2 r3 r4 r5
          go_wp2_with fail
          refine bodyPost_ret (resTm2 rfl _ _ w.heap.size zTm _ _ (by rfl) (HF7.out.tm.put zTm _ _)) rfl ?_
          rw [HR.out]
          exact HF7.out.fail HE.out (by simp) hk8
        | true =>
          rw [hc] at HL8
          have HR : Hid (R = (joinT l (tmNil), blk s (k') + 1, [])) := Lib.hid (HR5.out.trans (by unfold listEnd; rw [if_pos hc]))
          have hlt := isAt_lt hc
          clear hc
          replace HR : Hid (R = (⟨7, 0, ⟨#[]⟩, 0, [], l ++ [tmNil]⟩, blk s k' + 1, [])) := Lib.hid HR.out
          have HM : Hid (kTm.M w8 (w.heap.size + 1) (fun j => (j ≠ g ∧ j ≠ b) ∧ some j ≠ (Value.slice A6 l.length c6).ownBlock) (tmNil) [.int .i64 (tmNil).kd, .int .i64 (tmNil).it, .string (tmNil).tx, .int .u32 (tmNil).cr, vNone, vNone]) := Lib.hid (kTm_mkM w8 (w.heap.size + 1) _ (tmNil) HL8.out.t4 HL8.out.t5)
          have hl88 : (l.length + 1) * 88 ≤ 140737488355328 := by omega
          have HFR : Hid (∀ j, w8.heap.size ≤ j → j ≠ g ∧ j ≠ b) := Lib.hid fun j hj => by
            have h1 := HL8.out.ta.lt
            have h2 := HL8.out.f.rd.2.lt
            omega
          have HBS : Hid (w.heap.size + 1 ≤ w8.heap.size) := Lib.hid HL8.out.f.tm.lt
          obtain ⟨t0, t1, t2, t3, t4, t5, _, _, _, _, _, _⟩ := HL8.out.ta
          go_wp2_with (at_builtin; refine Kd.R_append kTm (w0 := w8) (w.heap.size + 1) rfl (.tmp 48) (.tmp 50) 25 27 (.agg #[(.int .i64 0), (.int .i64 0), (.string ⟨#[]⟩), (.int .u32 0), (.slice none 0 0), (.slice none 0 0)]) 88 rfl Tryz.underlying25 infoTm rfl (by decide) (by omega) (.slice A6 l.length c6) l (tmNil) [.int .i64 (tmNil).kd, .int .i64 (tmNil).it, .string (tmNil).tx, .int .u32 (tmNil).cr, vNone, vNone] (fun j => j ≠ g ∧ j ≠ b) (fun j => (j ≠ g ∧ j ≠ b) ∧ some j ≠ (Value.slice A6 l.length c6).ownBlock) ?hs ?hx ?hp ?hok ?hfr ?hO ?hB ?hbs ?hl ?_; (case hs => rfl); (case hx => first | rfl | (simp [Act.eval]; done)); (case hp => exact HM.out); (case hok => exact fun _ h => h); (case hfr => exact HFR.out); (case hO => exact HL8.out.l); (case hB => exact Below.refl _ _); (case hbs => exact HBS.out); (case hl => exact hl88); intro v1 w9 ho hb hg hat; obtain ⟨L9, hL9⟩ : ∃ L, L = l ++ [tmNil] := ⟨_, rfl⟩; rw [← hL9] at ho; have HLQ := Lib.hid hL9; clear hL9; obtain ⟨A9, c9, rfl⟩ := Kd.R_slice ho; have HO9 := Lib.hid ho; have HF9 := Lib.hid (HL8.out.f.appd hb); obtain ⟨r0, r1, r2, r3, r4, r5, y0, y1, y2, y3, y4, y5⟩ := HF9.out.tm; simp only [zTm] at r0 r1 r2 r3 r4 r5; clear ho hb hg hat)
          refine bodyPost_ret (resTm2 rfl _ _ w.heap.size ⟨7, 0, ⟨#[]⟩, 0, [], L9⟩ _ _ (by rfl) (HF9.out.tm.put ⟨7, 0, ⟨#[]⟩, 0, [], L9⟩ _ _)) rfl ?_
          rw [HR.out, ← HLQ.out]
          exact HF9.out.done ⟨7, 0, ⟨#[]⟩, 0, [], L9⟩ ⟨_, _, rfl, Kd.R_nil _ _ _ _ _, Kd.R_mono HO9.out (fun _ _ => trivial)⟩ (show _ + 1 ≤ s.size by omega)
      | true =>
        have hlt := isAt_lt hc
        have HL5 : Hid (ListF w w5 b s (k' + 1) d g l (.slice A6 l.length c6) tmNil vNone vNone) := Lib.hid (by have h := HL5.out; rw [hc] at h; exact h)
        have HC := Lib.hid (HTS.out (k' + 1) w5 (by omega) HL5.out.f.rd.2 (HX0.out.step HL5.out.f.rd.1))
        have HQF := Lib.hid (HFW.out (k' + 1))
        have HR5 : Hid (R = if (F (k' + 1)).2.2 = [] then listEnd s l (F (k' + 1)).1 (blk s (F (k' + 1)).2.1) else (zTm, 0, (F (k' + 1)).2.2)) := Lib.hid (HR1.out.trans (by simp [lstEnd, hc]))
        clear hc HR1
        generalize hq : F (k' + 1) = q at HC HQF HR5
        clear hq
        obtain ⟨t, e2, r2⟩ := q
        go_wp2_with fail
        refine HC.out.mono ?_
        rintro e w6 ⟨v, ev, rfl, hM, hE, k2, hT, hk2, hk3⟩
        have HE := Lib.hid hE
        have hM2 := hM
        obtain ⟨v4, v5, rfl, hM4, hM5⟩ := hM2
        obtain ⟨A4, c4, rfl⟩ := Kd.R_slice hM4
        obtain ⟨A5, c5, rfl⟩ := Kd.R_slice hM5
        have HL6 := Lib.hid (HL5.out.tail hT t hM)
        have HS6 := Lib.hid (HL5.out.step hT)
        have HE6 := Lib.hid (hE.wrote6 (HS6.out.ta.c0) t (.slice A4 t.nums.length c4) (.slice A5 t.args.length c5))
        obtain ⟨t0, t1, t2, t3, t4, t5, y0, y1, y2, y3, y4, y5⟩ := HS6.out.ta
        simp only [tmNil] at t0 t1 t2 t3 t4 t5
        clear hM hM4 hM5 hT HC HL5
        unfold tmV
        go_upto_region 9 with (fail)
        obtain ⟨w7, hw7⟩ : ∃ W, W = put6 w6 g t (.slice A4 t.nums.length c4) (.slice A5 t.args.length c5) := ⟨_, rfl⟩
        have HL7 : Hid (ListF w w7 b s k2 d g l (.slice A6 l.length c6) t (.slice A4 t.nums.length c4) (.slice A5 t.args.length c5)) := Lib.hid (by rw [hw7]; exact HL6.out)
        have HE7 : Hid (ErrIs w7 r2 ev) := Lib.hid (by rw [hw7]; exact HE6.out)
        unfold put6 at hw7
        rw [← hw7]
        clear hw7 HL6 HE6 HS6 t0 t1 t2 t3 t4 t5 y0 y1 y2 y3 y4 y5
        cases r2 with
        | cons x y =>
          have HR : Hid (R = (zTm, 0, x :: y)) := Lib.hid (HR5.out.trans (by simp))
          obtain ⟨eb, eu, rfl, _⟩ := hE
          have HF7 := Lib.hid HL7.out.f
          have a0 := HF7.out.rd.2.c0
          have a1 := HF7.out.rd.2.c1
          have f1 := HF7.out.rd.2.f1
          obtain ⟨r0, r1, r2, r3, r4, r5, g0, g1, g2, g3, g4, g5⟩ := HF7.out.tm
          simp only [zTm] at r0 r1 r2 r3 r4 r5
          go_wp2_with fail
          refine bodyPost_ret (resTm2 rfl _ _ w.heap.size zTm _ _ (by rfl) (HF7.out.tm.put zTm _ _)) rfl ?_
          rw [HR.out]
          exact HF7.out.fail HE7.out (by simp) hk2
        | nil =>
          obtain rfl : ev = .nilIface := hE
          obtain rfl := hk3 rfl
          have HR6 : Hid (R = listEnd s l t (blk s k2)) := Lib.hid (HR5.out.trans (by simp))
          have hta : t.args.length ≤ s.size := by have := HQF.out t k2 rfl; omega
          clear hk3 HE HE7 HQF HR5
          have HTL := Lib.hid (take_c b s (k2) d 93 93 (by decide) (by omega) hm _ HL7.out.f.rd.2)
          go_wp2_with fail
          refine HTL.out.mono ?_
          rintro e w8 ⟨rfl, hT⟩
          have HL8 := Lib.hid (HL7.out.step hT)
          clear hT HTL HL7
          cases hc : isAt s (blk s (k2)) 93 with
          | false =>
            rw [hc] at HL8
            have HR : Hid (R = rdNo (blk s (k2)) 41) := Lib.hid (HR6.out.trans (by unfold listEnd; rw [if_neg (by simp [hc])]))
            have HF8 := Lib.hid HL8.out.f
            have hk8 : blk s (k2) ≤ s.size := blk_le s (k2) (by omega)
            clear hc
            go_wp2_with fail
            refine (rd_text b s (blk s (k2)) d _ HF8.out.rd.2).mono ?_
            rintro e w7 ⟨v, rfl, hE, hB⟩
            have HE := Lib.hid hE
            have HF7 := Lib.hid (HF8.out.below hB)
            clear hE hB
            have a0 := HF7.out.rd.2.c0
            have a1 := HF7.out.rd.2.c1
            have f1 := HF7.out.rd.2.f1
            obtain ⟨r0, r1, r2, r3, r4, r5, g0, g1, g2, g3, g4, g5⟩ := HF7.out.tm
            simp only [zTm] at r0 r1 r2 r3 r4 r5
            go_wp2_with fail
            refine bodyPost_ret (resTm2 rfl _ _ w.heap.size zTm _ _ (by rfl) (HF7.out.tm.put zTm _ _)) rfl ?_
            rw [HR.out]
            exact HF7.out.fail HE.out (by simp) hk8
          | true =>
            rw [hc] at HL8
            have HR : Hid (R = (joinT l (t), blk s (k2) + 1, [])) := Lib.hid (HR6.out.trans (by unfold listEnd; rw [if_pos hc]))
            have hlt := isAt_lt hc
            clear hc
            by_cases hk7 : t.kd = 7
            · have dk : (t.kd == 7) = true := beq_iff_eq.2 hk7
              replace HR : Hid (R = (⟨7, 0, ⟨#[]⟩, 0, [], l ++ t.args⟩, blk s k2 + 1, [])) := Lib.hid (HR.out.trans (by unfold joinT; rw [if_pos hk7]))
              clear hk7
              have hl88 : (l.length + (t).args.length) * 88 ≤ 140737488355328 := by omega
              have HFR : Hid (∀ j, w8.heap.size ≤ j → j ≠ g ∧ j ≠ b) := Lib.hid fun j hj => by
                have h1 := HL8.out.ta.lt
                have h2 := HL8.out.f.rd.2.lt
                omega
              have HBS : Hid (w.heap.size + 1 ≤ w8.heap.size) := Lib.hid HL8.out.f.tm.lt
              obtain ⟨t0, t1, t2, t3, t4, t5, _, _, _, _, _, _⟩ := HL8.out.ta
              go_wp2_with (at_builtin; refine Kd.R_append_rows kTm (Rr := kTm.M w8 (w.heap.size + 1) (fun j => (j ≠ g ∧ j ≠ b) ∧ some j ≠ (Value.slice A6 l.length c6).ownBlock)) (w0 := w8) (w.heap.size + 1) rfl (.tmp 43) (.tmp 45) 25 27 (.agg #[(.int .i64 0), (.int .i64 0), (.string ⟨#[]⟩), (.int .u32 0), (.slice none 0 0), (.slice none 0 0)]) 88 rfl Tryz.underlying25 infoTm rfl (by decide) (by omega) (.slice A6 l.length c6) l (t).args A5 (t).args.length c5 (fun j => j ≠ g ∧ j ≠ b) (fun j => (j ≠ g ∧ j ≠ b) ∧ some j ≠ (Value.slice A6 l.length c6).ownBlock) ?hs ?hx ?hO ?hR ?hKM ?hok ?hfr ?hB ?hbs ?hl ?_; (case hs => rfl); (case hx => rfl); (case hO => exact HL8.out.l); (case hR => exact tm_rows HL8.out.t5); (case hKM => exact fun _ _ h => h); (case hok => exact fun _ h => h); (case hfr => exact HFR.out); (case hB => exact Below.refl _ _); (case hbs => exact HBS.out); (case hl => exact hl88); intro v1 w9 ho hb hg hat; obtain ⟨L9, hL9⟩ : ∃ L, L = l ++ (t).args := ⟨_, rfl⟩; rw [← hL9] at ho; have HLQ := Lib.hid hL9; clear hL9; obtain ⟨A9, c9, rfl⟩ := Kd.R_slice ho; have HO9 := Lib.hid ho; have HF9 := Lib.hid (HL8.out.f.appd hb); obtain ⟨r0, r1, r2, r3, r4, r5, y0, y1, y2, y3, y4, y5⟩ := HF9.out.tm; simp only [zTm] at r0 r1 r2 r3 r4 r5; clear ho hb hg hat)
              refine bodyPost_ret (resTm2 rfl _ _ w.heap.size ⟨7, 0, ⟨#[]⟩, 0, [], L9⟩ _ _ (by rfl) (HF9.out.tm.put ⟨7, 0, ⟨#[]⟩, 0, [], L9⟩ _ _)) rfl ?_
              rw [HR.out, ← HLQ.out]
              exact HF9.out.done ⟨7, 0, ⟨#[]⟩, 0, [], L9⟩ ⟨_, _, rfl, Kd.R_nil _ _ _ _ _, Kd.R_mono HO9.out (fun _ _ => trivial)⟩ (show _ + 1 ≤ s.size by omega)
            · have dk : (t.kd == 7) = false := beq_eq_false_iff_ne.2 hk7
              replace HR : Hid (R = (⟨7, 0, ⟨#[]⟩, 0, [], l ++ [t]⟩, blk s k2 + 1, [])) := Lib.hid (HR.out.trans (by unfold joinT; rw [if_neg hk7]))
              clear hk7
              have HM : Hid (kTm.M w8 (w.heap.size + 1) (fun j => (j ≠ g ∧ j ≠ b) ∧ some j ≠ (Value.slice A6 l.length c6).ownBlock) (t) [.int .i64 (t).kd, .int .i64 (t).it, .string (t).tx, .int .u32 (t).cr, (.slice A4 t.nums.length c4), (.slice A5 t.args.length c5)]) := Lib.hid (kTm_mkM w8 (w.heap.size + 1) _ (t) HL8.out.t4 HL8.out.t5)
              have hl88 : (l.length + 1) * 88 ≤ 140737488355328 := by omega
              have HFR : Hid (∀ j, w8.heap.size ≤ j → j ≠ g ∧ j ≠ b) := Lib.hid fun j hj => by
                have h1 := HL8.out.ta.lt
                have h2 := HL8.out.f.rd.2.lt
                omega
              have HBS : Hid (w.heap.size + 1 ≤ w8.heap.size) := Lib.hid HL8.out.f.tm.lt
              obtain ⟨t0, t1, t2, t3, t4, t5, _, _, _, _, _, _⟩ := HL8.out.ta
              go_wp2_with (at_builtin; refine Kd.R_append kTm (w0 := w8) (w.heap.size + 1) rfl (.tmp 48) (.tmp 50) 25 27 (.agg #[(.int .i64 0), (.int .i64 0), (.string ⟨#[]⟩), (.int .u32 0), (.slice none 0 0), (.slice none 0 0)]) 88 rfl Tryz.underlying25 infoTm rfl (by decide) (by omega) (.slice A6 l.length c6) l (t) [.int .i64 (t).kd, .int .i64 (t).it, .string (t).tx, .int .u32 (t).cr, (.slice A4 t.nums.length c4), (.slice A5 t.args.length c5)] (fun j => j ≠ g ∧ j ≠ b) (fun j => (j ≠ g ∧ j ≠ b) ∧ some j ≠ (Value.slice A6 l.length c6).ownBlock) ?hs ?hx ?hp ?hok ?hfr ?hO ?hB ?hbs ?hl ?_; (case hs => rfl); (case hx => first | rfl | (simp [Act.eval]; done)); (case hp => exact HM.out); (case hok => exact fun _ h => h); (case hfr => exact HFR.out); (case hO => exact HL8.out.l); (case hB => exact Below.refl _ _); (case hbs => exact HBS.out); (case hl => exact hl88); intro v1 w9 ho hb hg hat; obtain ⟨L9, hL9⟩ : ∃ L, L = l ++ [t] := ⟨_, rfl⟩; rw [← hL9] at ho; have HLQ := Lib.hid hL9; clear hL9; obtain ⟨A9, c9, rfl⟩ := Kd.R_slice ho; have HO9 := Lib.hid ho; have HF9 := Lib.hid (HL8.out.f.appd hb); obtain ⟨r0, r1, r2, r3, r4, r5, y0, y1, y2, y3, y4, y5⟩ := HF9.out.tm; simp only [zTm] at r0 r1 r2 r3 r4 r5; clear ho hb hg hat)
              refine bodyPost_ret (resTm2 rfl _ _ w.heap.size ⟨7, 0, ⟨#[]⟩, 0, [], L9⟩ _ _ (by rfl) (HF9.out.tm.put ⟨7, 0, ⟨#[]⟩, 0, [], L9⟩ _ _)) rfl ?_
              rw [HR.out, ← HLQ.out]
              exact HF9.out.done ⟨7, 0, ⟨#[]⟩, 0, [], L9⟩ ⟨_, _, rfl, Kd.R_nil _ _ _ _ _, Kd.R_mono HO9.out (fun _ _ => trivial)⟩ (show _ + 1 ≤ s.size by omega)
end Go.Proofs.YtgapeacflkfmdaaGreatDoor
set_option linter.unusedSimpArgs false
namespace Go.Proofs.YtgapeacflkfmdaaGreatDoor
open Go.RowKit Go.Sort Go.Proofs.YtgapeacflkfmdaaGreatDoorW.PrintWords

theorem ext_drop (s : ByteArray) (j : Nat) : (s.extract j s.size).data.toList = s.data.toList.drop j := by
  have h : bs (s.extract j s.size) = (bs s).drop j := by rw [bs_cut', List.take_of_length_le (by rw [List.length_drop, bs_len]; omega)]
  rw [bs_data', bs_data', ← List.map_drop] at h
  exact (List.map_inj_right (fun a b e => UInt8.toNat_inj.1 (by have e : ((a.toNat : Nat) : Int) = ((b.toNat : Nat) : Int) := e; omega))).1 h
theorem pre_cons (s : ByteArray) (k : Nat) (c : UInt8) (r : List UInt8) : Lib.hasPrefix (s.extract k s.size).data.toList (c :: r) = (isAt s k (c.toNat : Int) && Lib.hasPrefix (s.extract (k + 1) s.size).data.toList r) := by
  have h1 := hit_one s k c
  unfold hitAt at h1
  rw [← h1, ext_drop, ext_drop]
  unfold Lib.hasPrefix
  by_cases h : k < s.data.toList.length
  · rw [List.drop_eq_getElem_cons h]
    simp [List.isPrefixOf]
  · rw [List.drop_of_length_le (by omega), List.drop_of_length_le (by omega)]
    simp [List.isPrefixOf]
def markTxt : ByteArray := ⟨#[35, 82, 101, 102, 60]⟩
theorem hit_mark (s : ByteArray) (k : Nat) : hitAt s k markTxt = decide (markLen s k 5 = 5) := by
  unfold hitAt markTxt
  simp only [pre_cons]
  simp only [markLen, refMark, List.getD_cons_zero, List.getD_cons_succ, Nat.add_zero, show (5 : Nat) - (4 + 1) = 0 from rfl, show (5 : Nat) - (3 + 1) = 1 from rfl, show (5 : Nat) - (2 + 1) = 2 from rfl, show (5 : Nat) - (1 + 1) = 3 from rfl, show (5 : Nat) - (0 + 1) = 4 from rfl, Nat.add_assoc, Nat.reduceAdd]
  have e : Lib.hasPrefix (s.extract (k + 5) s.size).data.toList [] = true := by simp [Lib.hasPrefix]
  rw [e]
  simp only [show ((35 : UInt8).toNat : Int) = 35 from rfl, show ((82 : UInt8).toNat : Int) = 82 from rfl, show ((101 : UInt8).toNat : Int) = 101 from rfl, show ((102 : UInt8).toNat : Int) = 102 from rfl, show ((60 : UInt8).toNat : Int) = 60 from rfl]
  generalize isAt s k 35 = a
  generalize isAt s (k + 1) 82 = b
  generalize isAt s (k + 2) 101 = c
  generalize isAt s (k + 3) 102 = d
  generalize isAt s (k + 4) 60 = f
  cases a <;> cases b <;> cases c <;> cases d <;> cases f <;> decide
/-- An inner reading's answer is handed on. -/
theorem RdF.pass {w W1 w' : World} {b : Nat} {s : ByteArray} {k d k' e0 : Nat} {l : List Lk} {t : Tm} {u4 u5 ev : Value} (h : RdF w W1 b s k d) (hM : TmMade w' W1.heap.size t (tmV t u4 u5)) (hE : ErrIs w' l ev) (hT : RdTo W1 b s k' d w') (hk : k' ≤ s.size) (hk2 : l = [] → k' = e0) :
    TermE w b s d (t, e0, l) (.returned (.tuple #[tmV t u4 u5, ev])) (put6 w' w.heap.size t u4 u5) := by
  have h2 := h.step hT
  have hsz : w.heap.size + 1 ≤ W1.heap.size := h.tm.lt
  exact ⟨_, _, rfl, (hM.above (fun j hj _ => put6_heap w' w.heap.size t u4 u5 j (by omega))).lower (by omega), hE.wrote6 h2.tm.c0 _ _ _, k', h2.put _ _ _, hk, hk2⟩
section
variable {F : Nat → Rd} {s : ByteArray} {k : Nat}
theorem bg_end (h : s.size ≤ k) : begunAt F s k = rdNo k 41 := by unfold begunAt; rw [if_pos h]
theorem bg_whole (h : k < s.size) (hc : isDigit (bt s (k : Int)) = true ∨ bt s (k : Int) = 45) : begunAt F s k = wholeAt s k := by unfold begunAt; rw [if_neg (by omega), if_pos hc]
theorem bg_tuple (h : k < s.size) (hc : bt s (k : Int) = 123) : begunAt F s k = tupleAt F s (k + 1) := by unfold begunAt; rw [if_neg (by omega), if_neg (by rw [hc]; decide), if_pos hc]
theorem bg_list (h : k < s.size) (hc : bt s (k : Int) = 91) : begunAt F s k = listAt F s (k + 1) := by unfold begunAt; rw [if_neg (by omega), if_neg (by rw [hc]; decide), if_neg (by omega), if_pos hc]
theorem bg_ref (h : k < s.size) (hc : bt s (k : Int) = 35) : begunAt F s k = if markLen s k 5 = 5 then farAt s (k + 5) 3 3 else rdNo (k + markLen s k 5) 41 := by unfold begunAt; rw [if_neg (by omega), if_neg (by rw [hc]; decide), if_neg (by omega), if_neg (by omega), if_pos hc]
theorem bg_pid (h : k < s.size) (hc : bt s (k : Int) = 60) : begunAt F s k = farAt s (k + 1) 4 2 := by unfold begunAt; rw [if_neg (by omega), if_neg (by rw [hc]; decide), if_neg (by omega), if_neg (by omega), if_neg (by omega), if_pos hc]
theorem bg_atom (h : k < s.size) (h0 : ¬ (isDigit (bt s (k : Int)) = true ∨ bt s (k : Int) = 45)) (h1 : bt s (k : Int) ≠ 123) (h2 : bt s (k : Int) ≠ 91) (h3 : bt s (k : Int) ≠ 35) (h4 : bt s (k : Int) ≠ 60) :
    begunAt F s k = if (atomAt s k).2.2 = [] then (⟨2, 0, (atomAt s k).1, 0, [], []⟩, (atomAt s k).2.1, []) else (zTm, 0, (atomAt s k).2.2) := by
  unfold begunAt
  rw [if_neg (by omega), if_neg h0, if_neg h1, if_neg h2, if_neg h3, if_neg h4]
  generalize atomAt s k = q
  obtain ⟨a, e, l⟩ := q
  cases l <;> rfl
end
theorem hit_len {s p : ByteArray} {k : Nat} (hk : k ≤ s.size) (h : hitAt s k p = true) : k + p.size ≤ s.size := by
  have := hasPrefix_len h
  rw [← Lib.size_eq, ← Lib.size_eq] at this
  simp at this
  omega
theorem mark_no {s : ByteArray} {k : Nat} (h : ¬ bt s (k : Int) = 35) : ¬ markLen s k 5 = 5 := by
  have e : isAt s (k + (5 - (4 + 1))) (refMark.getD (5 - (4 + 1)) 0) = false := isAtN h
  rw [markLen, if_neg (by rw [e]; decide)]
  decide
theorem mark_spec (s : ByteArray) (k : Nat) (h : ¬ markLen s k 5 = 5) : ∃ m, markLen s k 5 = m ∧ m < 5 ∧ (∀ j, j < m → isAt s (k + j) (refMark.getD j 0) = true) ∧ isAt s (k + m) (refMark.getD m 0) = false := by
  refine ⟨_, rfl, ?_⟩
  revert h
  simp only [markLen, refMark, List.getD_cons_zero, List.getD_cons_succ, Nat.add_zero, show (5 : Nat) - (4 + 1) = 0 from rfl, show (5 : Nat) - (3 + 1) = 1 from rfl, show (5 : Nat) - (2 + 1) = 2 from rfl, show (5 : Nat) - (1 + 1) = 3 from rfl, show (5 : Nat) - (0 + 1) = 4 from rfl]
  intro h
  by_cases a : isAt s k 35 = true
  · rw [if_pos a] at h ⊢
    by_cases b : isAt s (k + 1) 82 = true
    · rw [if_pos b] at h ⊢
      by_cases c : isAt s (k + 2) 101 = true
      · rw [if_pos c] at h ⊢
        by_cases d : isAt s (k + 3) 102 = true
        · rw [if_pos d] at h ⊢
          by_cases f : isAt s (k + 4) 60 = true
          · rw [if_pos f] at h; exact absurd rfl h
          · rw [if_neg f]
            refine ⟨by decide, fun j hj => ?_, by simpa using f⟩
            match j, hj with
            | 0, _ => exact a
            | 1, _ => exact b
            | 2, _ => exact c
            | 3, _ => exact d
        · rw [if_neg d]
          refine ⟨by decide, fun j hj => ?_, by simpa using d⟩
          match j, hj with
          | 0, _ => exact a
          | 1, _ => exact b
          | 2, _ => exact c
      · rw [if_neg c]
        refine ⟨by decide, fun j hj => ?_, by simpa using c⟩
        match j, hj with
        | 0, _ => exact a
        | 1, _ => exact b
    · rw [if_neg b]
      refine ⟨by decide, fun j hj => ?_, by simpa using b⟩
      match j, hj with
      | 0, _ => exact a
  · rw [if_neg a]
    refine ⟨by decide, fun j hj => absurd hj (by omega), by simpa using a⟩
theorem mark_get : ∀ j, j < 5 → (markTxt.get! j).toNat < 128 ∧ bt markTxt (j : Int) = refMark.getD j 0 := by decide
theorem mark_size : markTxt.size = 5 := rfl
theorem mark_dec (j : Nat) (h : j < 5) : (Utf8.decode markTxt j).2 = 1 := by rw [Tb.dec_asc (mark_get j h).1]
theorem isAt_val {s : ByteArray} {k : Nat} {c : Int} (h : isAt s k c = true) : bt s (k : Int) = c := by
  unfold isAt at h
  rw [Bool.and_eq_true, decide_eq_true_eq, decide_eq_true_eq] at h
  exact h.2
set_option maxRecDepth 100000 in
set_option maxHeartbeats 1000000 in
theorem rd_begun (b g4 g5 : Nat) (s : ByteArray) (k0 d : Nat) (F : Nat → Rd) (hF : TermSays s b g4 g5 d F) (hFw : Fwd s F) (h0 : k0 ≤ s.size) (hbk : blk s k0 = k0) (hm : s.size ≤ 4194304) (w : World) (hS : RdAt w b s k0 d) (hX : Boxes w b g4 g5) :
    Calls Tryz.prog 50 #[.pointer (some ⟨b, 0, none⟩), tv g4 g5] w (TermE w b s d (begunAt F s k0)) := by
  have HG := Lib.hid hX.gl
  obtain ⟨R, hR⟩ : ∃ R, R = begunAt F s k0 := ⟨_, rfl⟩
  rw [← hR]
  obtain ⟨rt, re, rl⟩ := R
  have HR0 := Lib.hid hR
  have HBK := Lib.hid hbk
  have HX0 := Lib.hid hX
  have HTS := Lib.hid hF
  have HFW := Lib.hid hFw
  have hG := hX.gl
  clear hR hX hF hFw hbk HG
  obtain ⟨w1, hw1⟩ : ∃ W, W = w.alloc (.cells #[.int .i64 0, .int .i64 0, .string ⟨#[]⟩, .int .u32 0, .slice none 0 0, .slice none 0 0] 27) := ⟨_, rfl⟩
  have hF : RdF w w1 b s k0 d := by rw [hw1]; exact RdF.start hS
  have HG : Hid (GlobG w1 b) := Lib.hid (hG.step hF.rd.1)
  have HF := Lib.hid hF
  clear hS hG hF
  go_enter Tryz.func50, Tryz.ntmps50
  go_upto_region 1 with (fail)
  rw [← hw1]
  clear hw1
  have e0 : (0 : Int) ≤ (k0 : Int) := by omega
  have a0 := HF.out.rd.2.c0
  have a1 := HF.out.rd.2.c1
  by_cases hlt : k0 < s.size
  · have e1 : (k0 : Int) < (s.size : Int) := by omega
    have d0 : ((k0 : Int) == (s.size : Int)) = false := beq_eq_false_iff_ne.2 (by omega)
    have hb := btk s k0
    have hr := bt_range s (k0 : Int)
    go_wp2_with fail
    go_quiet (fail)
    have HFa := Lib.hid (HF.out.drewN nq)
    replace HG := Lib.hid (HG.out.step (grown_drewN w1 nq _))
    clear a0 a1
    generalize w1.drewN nq = w2 at HFa HG ⊢
    have a0 := HFa.out.rd.2.c0
    have a1 := HFa.out.rd.2.c1
    by_cases hnum : isDigit (bt s (k0 : Int)) = true ∨ bt s (k0 : Int) = 45
    · have HR := HR0.out.trans (bg_whole hlt hnum)
      have HC : ∀ W, RdF w W b s k0 d → GlobG W b → Calls Tryz.prog 98 #[.pointer (some ⟨b, 0, none⟩)] W (TermE W b s d (rt, re, rl)) := fun W h1 h2 => by rw [HR]; exact rd_whole b s k0 d hlt hm W h1.rd.2 h2
      have HCC := Lib.hid HC
      clear HC HR HR0
      by_cases hd : isDigit (bt s (k0 : Int)) = true
      · have HDG : Hid (∀ W, Calls Tryz.prog 97 #[.int .u8 (bt s (k0 : Int))] W fun e w' => e = .returned (.bool true) ∧ w' = W) := Lib.hid fun W => (term_digit _ W).mono fun e w' h => ⟨by rw [h.1, hd], h.2.symm⟩
        clear hnum hd
        go_wp2_with fail
        go_quiet ((go_at_call 97; exact Calls.quiet_of_same (HDG.out _)))
        have HF3 := Lib.hid (HFa.out.drewN nq)
        have HG3 := Lib.hid (HG.out.step (grown_drewN w2 nq _))
        clear a0 a1 HFa HG
        generalize w2.drewN nq = w3 at HF3 HG3 ⊢
        have HCW := Lib.hid (HCC.out w3 HF3.out HG3.out)
        go_wp2_with fail
        refine HCW.out.mono ?_
        rintro e w9 ⟨v, ev, rfl, hM, hE, k', hT, hk', hk2⟩
        have hM2 := hM
        obtain ⟨v4, v5, rfl, hM4, hM5⟩ := hM2
        simp only at hM4 hM5
        obtain ⟨A4, c4, rfl⟩ := Kd.R_slice hM4
        obtain ⟨A5, c5, rfl⟩ := Kd.R_slice hM5
        have HP := Lib.hid (HF3.out.pass hM hE hT hk' hk2)
        have HF9 := Lib.hid (HF3.out.step hT)
        clear hM hM4 hM5 hE hT hk' hk2
        unfold tmV
        have a0 := HF9.out.rd.2.c0
        have a1 := HF9.out.rd.2.c1
        have f1 := HF9.out.rd.2.f1
        obtain ⟨r0, r1, r2, r3, r4, r5, g0, g1, g2, g3, g4, g5⟩ := HF9.out.tm
        simp only [zTm] at r0 r1 r2 r3 r4 r5
        go_wp2_with fail
        refine bodyPost_ret (resTm2 rfl _ _ w.heap.size rt _ _ (by rfl) (HF9.out.tm.put rt _ _)) rfl ?_
        exact HP.out
      · have d2 : (bt s (k0 : Int) == 45) = true := beq_iff_eq.2 (hnum.resolve_left hd)
        have HDG : Hid (∀ W, Calls Tryz.prog 97 #[.int .u8 (bt s (k0 : Int))] W fun e w' => e = .returned (.bool false) ∧ w' = W) := Lib.hid fun W => (term_digit _ W).mono fun e w' h => ⟨by rw [h.1, Bool.eq_false_iff.2 hd], h.2.symm⟩
        clear hnum hd
        go_wp2_with fail
        go_quiet ((go_at_call 97; exact Calls.quiet_of_same (HDG.out _)))
        have HF3 := Lib.hid (HFa.out.drewN nq)
        have HG3 := Lib.hid (HG.out.step (grown_drewN w2 nq _))
        clear a0 a1 HFa HG
        generalize w2.drewN nq = w3 at HF3 HG3 ⊢
        have HCW := Lib.hid (HCC.out w3 HF3.out HG3.out)
        go_wp2_with fail
        refine HCW.out.mono ?_
        rintro e w9 ⟨v, ev, rfl, hM, hE, k', hT, hk', hk2⟩
        have hM2 := hM
        obtain ⟨v4, v5, rfl, hM4, hM5⟩ := hM2
        simp only at hM4 hM5
        obtain ⟨A4, c4, rfl⟩ := Kd.R_slice hM4
        obtain ⟨A5, c5, rfl⟩ := Kd.R_slice hM5
        have HP := Lib.hid (HF3.out.pass hM hE hT hk' hk2)
        have HF9 := Lib.hid (HF3.out.step hT)
        clear hM hM4 hM5 hE hT hk' hk2
        unfold tmV
        have a0 := HF9.out.rd.2.c0
        have a1 := HF9.out.rd.2.c1
        have f1 := HF9.out.rd.2.f1
        obtain ⟨r0, r1, r2, r3, r4, r5, g0, g1, g2, g3, g4, g5⟩ := HF9.out.tm
        simp only [zTm] at r0 r1 r2 r3 r4 r5
        go_wp2_with fail
        refine bodyPost_ret (resTm2 rfl _ _ w.heap.size rt _ _ (by rfl) (HF9.out.tm.put rt _ _)) rfl ?_
        exact HP.out
    · have hd : isDigit (bt s (k0 : Int)) = false := by simpa using fun h => hnum (.inl h)
      have h45 : ¬ bt s (k0 : Int) = 45 := fun h => hnum (.inr h)
      have d2 : (bt s (k0 : Int) == 45) = false := beq_eq_false_iff_ne.2 h45
      have HDG : Hid (∀ W, Calls Tryz.prog 97 #[.int .u8 (bt s (k0 : Int))] W fun e w' => e = .returned (.bool false) ∧ w' = W) := Lib.hid fun W => (term_digit _ W).mono fun e w' h => ⟨by rw [h.1, hd], h.2.symm⟩
      have HNU := Lib.hid hnum
      clear hd h45 hnum
      go_wp2_with fail
      go_quiet ((go_at_call 97; exact Calls.quiet_of_same (HDG.out _)))
      replace HFa := Lib.hid (HFa.out.drewN nq)
      clear a0 a1 HG HDG
      generalize w2.drewN nq = w3 at HFa ⊢
      by_cases c1 : bt s (k0 : Int) = 123
      · have X := isAtY hlt c1
        have HRX := Lib.hid (HR0.out.trans (bg_tuple hlt c1))
        clear c1
        have HTK := Lib.hid (take_c b s k0 d 123 123 (by decide) (by omega) hm _ HFa.out.rd.2)
        rw [HBK.out, X] at HTK
        go_wp2_with fail
        refine HTK.out.mono ?_
        rintro e wn ⟨rfl, hT⟩
        have HFb : Hid (RdF w wn b s (k0 + 1) d) := Lib.hid (HFa.out.step hT)
        clear hT HTK HFa
        have HCW := Lib.hid (rd_tuple b g4 g5 s (k0 + 1) d F HTS.out HFW.out (by omega) hm wn HFb.out.rd.2 (HX0.out.step HFb.out.rd.1))
        rw [← HRX.out] at HCW
        clear X HRX
        go_wp2_with fail
        refine HCW.out.mono ?_
        rintro e w9 ⟨v, ev, rfl, hM, hE, k', hT, hk', hk2⟩
        have hM2 := hM
        obtain ⟨v4, v5, rfl, hM4, hM5⟩ := hM2
        simp only at hM4 hM5
        obtain ⟨A4, c4, rfl⟩ := Kd.R_slice hM4
        obtain ⟨A5, c5, rfl⟩ := Kd.R_slice hM5
        have HP := Lib.hid (HFb.out.pass hM hE hT hk' hk2)
        have HF9 := Lib.hid (HFb.out.step hT)
        clear hM hM4 hM5 hE hT hk' hk2
        unfold tmV
        have a0 := HF9.out.rd.2.c0
        have a1 := HF9.out.rd.2.c1
        have f1 := HF9.out.rd.2.f1
        obtain ⟨r0, r1, r2, r3, r4, r5, g0, g1, g2, g3, g4, g5⟩ := HF9.out.tm
        simp only [zTm] at r0 r1 r2 r3 r4 r5
        go_wp2_with fail
        refine bodyPost_ret (resTm2 rfl _ _ w.heap.size rt _ _ (by rfl) (HF9.out.tm.put rt _ _)) rfl ?_
        exact HP.out
      · have X1 := isAtN (k := k0) c1
        have HTK := Lib.hid (take_c b s k0 d 123 123 (by decide) (by omega) hm _ HFa.out.rd.2)
        rw [HBK.out, X1] at HTK
        go_wp2_with fail
        refine HTK.out.mono ?_
        rintro e wn ⟨rfl, hT⟩
        replace HFa : Hid (RdF w wn b s k0 d) := Lib.hid (HFa.out.step hT)
        clear hT HTK
        by_cases c2 : bt s (k0 : Int) = 91
        · have X := isAtY hlt c2
          have HRX := Lib.hid (HR0.out.trans (bg_list hlt c2))
          clear c1 c2
          have HTK := Lib.hid (take_c b s k0 d 91 91 (by decide) (by omega) hm _ HFa.out.rd.2)
          rw [HBK.out, X] at HTK
          go_wp2_with fail
          refine HTK.out.mono ?_
          rintro e wn ⟨rfl, hT⟩
          have HFb : Hid (RdF w wn b s (k0 + 1) d) := Lib.hid (HFa.out.step hT)
          clear hT HTK HFa
          have HCW := Lib.hid (rd_list b g4 g5 s (k0 + 1) d F HTS.out HFW.out (by omega) hm wn HFb.out.rd.2 (HX0.out.step HFb.out.rd.1))
          rw [← HRX.out] at HCW
          clear X HRX
          go_wp2_with fail
          refine HCW.out.mono ?_
          rintro e w9 ⟨v, ev, rfl, hM, hE, k', hT, hk', hk2⟩
          have hM2 := hM
          obtain ⟨v4, v5, rfl, hM4, hM5⟩ := hM2
          simp only at hM4 hM5
          obtain ⟨A4, c4, rfl⟩ := Kd.R_slice hM4
          obtain ⟨A5, c5, rfl⟩ := Kd.R_slice hM5
          have HP := Lib.hid (HFb.out.pass hM hE hT hk' hk2)
          have HF9 := Lib.hid (HFb.out.step hT)
          clear hM hM4 hM5 hE hT hk' hk2
          unfold tmV
          have a0 := HF9.out.rd.2.c0
          have a1 := HF9.out.rd.2.c1
          have f1 := HF9.out.rd.2.f1
          obtain ⟨r0, r1, r2, r3, r4, r5, g0, g1, g2, g3, g4, g5⟩ := HF9.out.tm
          simp only [zTm] at r0 r1 r2 r3 r4 r5
          go_wp2_with fail
          refine bodyPost_ret (resTm2 rfl _ _ w.heap.size rt _ _ (by rfl) (HF9.out.tm.put rt _ _)) rfl ?_
          exact HP.out
        · have X2 := isAtN (k := k0) c2
          have HTK := Lib.hid (take_c b s k0 d 91 91 (by decide) (by omega) hm _ HFa.out.rd.2)
          rw [HBK.out, X2] at HTK
          go_wp2_with fail
          refine HTK.out.mono ?_
          rintro e wn ⟨rfl, hT⟩
          replace HFa : Hid (RdF w wn b s k0 d) := Lib.hid (HFa.out.step hT)
          clear hT HTK
          have HTM := Lib.hid (rd_take b s k0 d markTxt h0 hm _ HFa.out.rd.2)
          rw [HBK.out] at HTM
          unfold TakePost at HTM
          rw [hit_mark] at HTM
          by_cases c5 : markLen s k0 5 = 5
          · have hh : decide (markLen s k0 5 = 5) = true := decide_eq_true c5
            have c3 : bt s (k0 : Int) = 35 := Classical.byContradiction fun h => mark_no h c5
            have HRX := Lib.hid (HR0.out.trans ((bg_ref (F := F) hlt c3).trans (if_pos c5)))
            have h5 : k0 + 5 ≤ s.size := hit_len (p := markTxt) h0 (by rw [hit_mark]; exact hh)
            clear c1 c2 c3 c5
            rw [hh] at HTM
            go_wp2_with fail
            refine HTM.out.mono ?_
            rintro e wm ⟨rfl, hT⟩
            have HFb : Hid (RdF w wm b s (k0 + 5) d) := Lib.hid (HFa.out.step hT)
            clear hT HTM hh HFa
            have HCW := Lib.hid (rd_far b s (k0 + 5) d 3 3 (by omega) h5 hm wm HFb.out.rd.2 (HX0.out.step HFb.out.rd.1).gl)
            rw [← HRX.out] at HCW
            clear HRX
            go_wp2_with fail
            refine HCW.out.mono ?_
            rintro e w9 ⟨v, ev, rfl, hM, hE, k', hT, hk', hk2⟩
            have hM2 := hM
            obtain ⟨v4, v5, rfl, hM4, hM5⟩ := hM2
            simp only at hM4 hM5
            obtain ⟨A4, c4, rfl⟩ := Kd.R_slice hM4
            obtain ⟨A5, c5, rfl⟩ := Kd.R_slice hM5
            have HP := Lib.hid (HFb.out.pass hM hE hT hk' hk2)
            have HF9 := Lib.hid (HFb.out.step hT)
            clear hM hM4 hM5 hE hT hk' hk2
            unfold tmV
            have a0 := HF9.out.rd.2.c0
            have a1 := HF9.out.rd.2.c1
            have f1 := HF9.out.rd.2.f1
            obtain ⟨r0, r1, r2, r3, r4, r5, g0, g1, g2, g3, g4, g5⟩ := HF9.out.tm
            simp only [zTm] at r0 r1 r2 r3 r4 r5
            go_wp2_with fail
            refine bodyPost_ret (resTm2 rfl _ _ w.heap.size rt _ _ (by rfl) (HF9.out.tm.put rt _ _)) rfl ?_
            exact HP.out
          · have hh : decide (markLen s k0 5 = 5) = false := decide_eq_false c5
            rw [hh] at HTM
            go_wp2_with fail
            refine HTM.out.mono ?_
            rintro e wm ⟨rfl, hT⟩
            replace HFa : Hid (RdF w wm b s k0 d) := Lib.hid (HFa.out.step hT)
            clear hT HTM hh
            by_cases c3 : bt s (k0 : Int) = 35
            · have X3 := isAtN (k := k0) (s := s) (c := 60) (by omega)
              have HRX := Lib.hid (HR0.out.trans ((bg_ref (F := F) hlt c3).trans (if_neg c5)))
              have d3 : (bt s (k0 : Int) == 35) = true := beq_iff_eq.2 c3
              clear c1 c2
              have HTK := Lib.hid (take_c b s k0 d 60 60 (by decide) (by omega) hm _ HFa.out.rd.2)
              rw [HBK.out, X3] at HTK
              go_wp2_with fail
              refine HTK.out.mono ?_
              rintro e wn ⟨rfl, hT⟩
              replace HFa : Hid (RdF w wn b s k0 d) := Lib.hid (HFa.out.step hT)
              clear hT HTK
              obtain ⟨m, hm5, hlt5, hall, hmis⟩ := mark_spec s k0 c5
              have HALL := Lib.hid hall
              have HMIS := Lib.hid hmis
              have HRY : Hid ((rt, re, rl) = rdNo (k0 + m) 41) := Lib.hid (by rw [HRX.out, hm5])
              clear hall hmis hm5 c3 c5 HRX
              have a0 := HFa.out.rd.2.c0
              have a1 := HFa.out.rd.2.c1
              go_wp2_with fail
              go_quiet (fail)
              replace HFa := Lib.hid (HFa.out.drewN nq)
              clear a0 a1
              generalize wn.drewN nq = w4 at HFa ⊢
              have hgi : (w4.iter markTxt 0).heap[w4.heap.size]? = some (.stringIter markTxt 0) := heap_alloc_new w4 _
              have HFi : Hid (RdF w (w4.iter markTxt 0) b s k0 d) := Lib.hid (HFa.out.below (below_alloc (Below.refl _ _) _))
              have hnb : w4.heap.size ≠ b := by have := HFa.out.rd.2.lt; omega
              have hnw : w.heap.size + 1 ≤ w4.heap.size := HFa.out.tm.lt
              generalize hW5 : w4.iter markTxt 0 = w5 at hgi HFi
              go_wp2_with fail
              change Code.wp _ _ _ _ (w4.iter markTxt 0)
              rw [hW5]
              clear hW5
              generalize w4.heap.size = gi at hgi hnb hnw ⊢
              have HGI := Lib.hid hgi
              have HNB := Lib.hid hnb
              have HNW := Lib.hid hnw
              clear hgi hnb hnw HFa
              go_loopg [] (m + 1) (fun gk wl => ∃ pos : Nat, gk = m + 1 - pos ∧ pos ≤ m ∧ Hid (wl.heap[gi]? = some (.stringIter markTxt pos)) ∧ Hid (RdF w wl b s k0 d))
              case atStart => exact ⟨0, rfl, Nat.zero_le _, HGI, HFi⟩
              case round =>
                obtain ⟨pos, hgk, hpm, HI, HFl⟩ := hrel
                have HK := Lib.hid hgk
                clear hgk HGI HFi
                have hp5 : pos < markTxt.size := by rw [mark_size]; omega
                have hnx := fun ty => Lib.run_next_any_at (P := Tryz.prog) wr gi markTxt pos ty HI.out hp5
                rw [mark_dec pos (by omega)] at hnx
                go_wp2_with fail
                have HF8 : Hid (RdF w (wr.iterAt gi markTxt (pos + 1)) b s k0 d) := Lib.hid (HFl.out.appd (Lib.below_iterAt (Below.refl _ _) HNW.out _ _))
                have HI8 : Hid ((wr.iterAt gi markTxt (pos + 1)).heap[gi]? = some (.stringIter markTxt (pos + 1))) := Lib.hid (Lib.iterAt_heap wr gi markTxt pos _ HI.out)
                clear hnx HFl HI
                generalize wr.iterAt gi markTxt (pos + 1) = w8 at HF8 HI8 ⊢
                have a0 := HF8.out.rd.2.c0
                have a1 := HF8.out.rd.2.c1
                have hmg := mark_get pos (by omega)
                have hbT := btk markTxt pos
                rw [hmg.2] at hbT
                unfold markTxt at hbT
                have hw : IntKind.i64.wrap ((k0 : Int) + (pos : Int)) = (k0 : Int) + (pos : Int) := IntWalk.i64_in _ (by omega)
                have hw0 : (0 : Int) ≤ (k0 : Int) + (pos : Int) := by omega
                have hp0 : (0 : Int) ≤ (pos : Int) := by omega
                have hp1 : (pos : Int) < (5 : Int) := by rw [mark_size] at hp5; omega
                have hwn : ((k0 : Int) + (pos : Int)).toNat = k0 + pos := by omega
                by_cases hpm2 : pos < m
                · have hat := HALL.out pos hpm2
                  have hl := isAt_lt hat
                  have hx1 : (k0 : Int) + (pos : Int) < (s.size : Int) := by omega
                  have hb := btk s (k0 + pos)
                  rw [isAt_val hat] at hb
                  generalize refMark.getD pos 0 = c at hb hbT
                  have dn : (c != c) = false := by simp
                  have dA : decide ((k0 : Int) + (pos : Int) ≥ (s.size : Int)) = false := decide_eq_false (by omega)
                  have dB : decide ((s.size : Int) ≤ (k0 : Int) + (pos : Int)) = false := decide_eq_false (by omega)
                  have dC : decide (s.size ≤ k0 + pos) = false := decide_eq_false (by omega)
                  clear hat hmg
                  go_wp2_with fail
                  go_quiet (fail)
                  go_wp2_with fail
                  go_roundg (m + 1 - (pos + 1))
                  case measure => rw [HK.out]; omega
                  case rel => exact ⟨pos + 1, rfl, by omega, Lib.hid HI8.out, Lib.hid (HF8.out.drewN _)⟩
                · obtain rfl : pos = m := by omega
                  have hat := HMIS.out
                  by_cases hl : k0 + pos < s.size
                  · have hx1 : (k0 : Int) + (pos : Int) < (s.size : Int) := by omega
                    have hb := btk s (k0 + pos)
                    have hne : bt s ((k0 + pos : Nat) : Int) ≠ refMark.getD pos 0 := fun e => by rw [isAtY hl e] at hat; cases hat
                    generalize bt s ((k0 + pos : Nat) : Int) = y at hb hne
                    generalize refMark.getD pos 0 = c at hbT hne
                    have dA : decide ((k0 : Int) + (pos : Int) ≥ (s.size : Int)) = false := decide_eq_false (by omega)
                    have dB : decide ((s.size : Int) ≤ (k0 : Int) + (pos : Int)) = false := decide_eq_false (by omega)
                    have dC : decide (s.size ≤ k0 + pos) = false := decide_eq_false (by omega)
                    have dn : (y != c) = true := bne_iff_ne.2 hne
                    clear hat hmg hne
                    go_wp2_with fail
                    go_quiet (fail)
                    have HF9 := Lib.hid (HF8.out.drewN nq)
                    clear a0 a1 HF8 HI8
                    generalize w8.drewN nq = w9 at HF9 ⊢
                    have a1 := HF9.out.rd.2.c1
                    go_wp2_with fail
                    refine (term_fault _ _ _ _ [] rfl).mono ?_
                    rintro e w7 ⟨v, rfl, hE, hB⟩
                    have HE := Lib.hid hE
                    have HF7 := Lib.hid (HF9.out.below hB)
                    clear hE hB a1
                    have a0 := HF7.out.rd.2.c0
                    have a1 := HF7.out.rd.2.c1
                    have f1 := HF7.out.rd.2.f1
                    obtain ⟨r0, r1, r2, r3, r4, r5, g0, g1, g2, g3, g4, g5⟩ := HF7.out.tm
                    simp only [zTm] at r0 r1 r2 r3 r4 r5
                    go_wp2_with fail
                    refine bodyPost_ret (resTm2 rfl _ _ w.heap.size zTm _ _ (by rfl) (HF7.out.tm.put zTm _ _)) rfl ?_
                    rw [HRY.out]
                    exact HF7.out.fail HE.out (by simp) h0
                  · have dA : decide ((k0 : Int) + (pos : Int) ≥ (s.size : Int)) = true := decide_eq_true (by omega)
                    have dB : decide ((s.size : Int) ≤ (k0 : Int) + (pos : Int)) = true := decide_eq_true (by omega)
                    have dC : decide (s.size ≤ k0 + pos) = true := decide_eq_true (by omega)
                    clear hat hmg
                    go_wp2_with fail
                    go_quiet (fail)
                    have HF9 := Lib.hid (HF8.out.drewN nq)
                    clear a0 a1 HF8 HI8
                    generalize w8.drewN nq = w9 at HF9 ⊢
                    have a1 := HF9.out.rd.2.c1
                    go_wp2_with fail
                    refine (term_fault _ _ _ _ [] rfl).mono ?_
                    rintro e w7 ⟨v, rfl, hE, hB⟩
                    have HE := Lib.hid hE
                    have HF7 := Lib.hid (HF9.out.below hB)
                    clear hE hB a1
                    have a0 := HF7.out.rd.2.c0
                    have a1 := HF7.out.rd.2.c1
                    have f1 := HF7.out.rd.2.f1
                    obtain ⟨r0, r1, r2, r3, r4, r5, g0, g1, g2, g3, g4, g5⟩ := HF7.out.tm
                    simp only [zTm] at r0 r1 r2 r3 r4 r5
                    go_wp2_with fail
                    refine bodyPost_ret (resTm2 rfl _ _ w.heap.size zTm _ _ (by rfl) (HF7.out.tm.put zTm _ _)) rfl ?_
                    rw [HRY.out]
                    exact HF7.out.fail HE.out (by simp) h0
            · have d3 : (bt s (k0 : Int) == 35) = false := beq_eq_false_iff_ne.2 c3
              clear c5
              by_cases c4 : bt s (k0 : Int) = 60
              · have X := isAtY hlt c4
                have HRX := Lib.hid (HR0.out.trans (bg_pid hlt c4))
                clear c1 c2 c3 c4
                have HTK := Lib.hid (take_c b s k0 d 60 60 (by decide) (by omega) hm _ HFa.out.rd.2)
                rw [HBK.out, X] at HTK
                go_wp2_with fail
                refine HTK.out.mono ?_
                rintro e wn ⟨rfl, hT⟩
                have HFb : Hid (RdF w wn b s (k0 + 1) d) := Lib.hid (HFa.out.step hT)
                clear hT HTK HFa
                have HCW := Lib.hid (rd_far b s (k0 + 1) d 4 2 (by omega) (by omega) hm wn HFb.out.rd.2 (HX0.out.step HFb.out.rd.1).gl)
                rw [← HRX.out] at HCW
                clear X HRX
                go_wp2_with fail
                refine HCW.out.mono ?_
                rintro e w9 ⟨v, ev, rfl, hM, hE, k', hT, hk', hk2⟩
                have hM2 := hM
                obtain ⟨v4, v5, rfl, hM4, hM5⟩ := hM2
                simp only at hM4 hM5
                obtain ⟨A4, c4, rfl⟩ := Kd.R_slice hM4
                obtain ⟨A5, c5, rfl⟩ := Kd.R_slice hM5
                have HP := Lib.hid (HFb.out.pass hM hE hT hk' hk2)
                have HF9 := Lib.hid (HFb.out.step hT)
                clear hM hM4 hM5 hE hT hk' hk2
                unfold tmV
                have a0 := HF9.out.rd.2.c0
                have a1 := HF9.out.rd.2.c1
                have f1 := HF9.out.rd.2.f1
                obtain ⟨r0, r1, r2, r3, r4, r5, g0, g1, g2, g3, g4, g5⟩ := HF9.out.tm
                simp only [zTm] at r0 r1 r2 r3 r4 r5
                go_wp2_with fail
                refine bodyPost_ret (resTm2 rfl _ _ w.heap.size rt _ _ (by rfl) (HF9.out.tm.put rt _ _)) rfl ?_
                exact HP.out
              · have X4 := isAtN (k := k0) c4
                have HRX := Lib.hid (HR0.out.trans (bg_atom hlt HNU.out c1 c2 c3 c4))
                clear c1 c2 c3 c4
                have HTK := Lib.hid (take_c b s k0 d 60 60 (by decide) (by omega) hm _ HFa.out.rd.2)
                rw [HBK.out, X4] at HTK
                go_wp2_with fail
                refine HTK.out.mono ?_
                rintro e wn ⟨rfl, hT⟩
                replace HFa : Hid (RdF w wn b s k0 d) := Lib.hid (HFa.out.step hT)
                clear hT HTK
                have a0 := HFa.out.rd.2.c0
                have a1 := HFa.out.rd.2.c1
                go_wp2_with fail
                go_quiet (fail)
                replace HFa := Lib.hid (HFa.out.drewN nq)
                clear a0 a1
                generalize wn.drewN nq = w4 at HFa ⊢
                have HAT := Lib.hid (rd_atom b s k0 d h0 hm w4 HFa.out.rd.2 (HX0.out.step HFa.out.rd.1).gl)
                generalize atomAt s k0 = q at HAT HRX
                obtain ⟨nm, ne, nl⟩ := q
                go_wp2_with fail
                refine HAT.out.mono ?_
                rintro e w5 ⟨ev, rfl, hE, k', hT, _, hk', hk2⟩
                have HF5 := Lib.hid (HFa.out.step hT)
                have HE := Lib.hid hE
                clear hT HAT
                cases nl with
                | cons x r =>
                  have HRY : Hid ((rt, re, rl) = (zTm, 0, x :: r)) := Lib.hid (HRX.out.trans (if_neg (by simp)))
                  obtain ⟨eb, eu, rfl, _⟩ := hE
                  have a0 := HF5.out.rd.2.c0
                  have a1 := HF5.out.rd.2.c1
                  have f1 := HF5.out.rd.2.f1
                  obtain ⟨r0, r1, r2, r3, r4, r5, g0, g1, g2, g3, g4, g5⟩ := HF5.out.tm
                  simp only [zTm] at r0 r1 r2 r3 r4 r5
                  go_wp2_with fail
                  refine bodyPost_ret (resTm2 rfl _ _ w.heap.size zTm _ _ (by rfl) (HF5.out.tm.put zTm _ _)) rfl ?_
                  rw [HRY.out]
                  exact HF5.out.fail HE.out (by simp) hk'
                | nil =>
                  obtain rfl : ev = .nilIface := hE
                  obtain rfl := hk2 rfl
                  have HRY : Hid ((rt, re, rl) = (⟨2, 0, nm, 0, [], []⟩, k', [])) := Lib.hid (HRX.out.trans (if_pos rfl))
                  clear hk2
                  have a0 := HF5.out.rd.2.c0
                  have a1 := HF5.out.rd.2.c1
                  have f1 := HF5.out.rd.2.f1
                  obtain ⟨r0, r1, r2, r3, r4, r5, g0, g1, g2, g3, g4, g5⟩ := HF5.out.tm
                  simp only [zTm] at r0 r1 r2 r3 r4 r5
                  go_wp2_with fail
                  refine bodyPost_ret (resTm2 rfl _ _ w.heap.size ⟨2, 0, nm, 0, [], []⟩ _ _ (by rfl) (HF5.out.tm.put ⟨2, 0, nm, 0, [], []⟩ _ _)) rfl ?_
                  rw [HRY.out]
                  exact HF5.out.done ⟨2, 0, nm, 0, [], []⟩ (TmMade.flat _ _ _ _ _ _) hk'
  · have d0 : ((k0 : Int) == (s.size : Int)) = true := beq_iff_eq.2 (by omega)
    have HRX := Lib.hid (HR0.out.trans (bg_end (F := F) (by omega)))
    clear HR0
    go_wp2_with fail
    go_quiet (fail)
    have HFa := Lib.hid (HF.out.drewN nq)
    clear a0 a1
    generalize w1.drewN nq = w2 at HFa ⊢
    go_wp2_with fail
    refine (rd_text b s k0 d _ HFa.out.rd.2).mono ?_
    rintro e w7 ⟨v, rfl, hE, hB⟩
    have HE := Lib.hid hE
    have HF7 := Lib.hid (HFa.out.below hB)
    clear hE hB
    have a0 := HF7.out.rd.2.c0
    have a1 := HF7.out.rd.2.c1
    have f1 := HF7.out.rd.2.f1
    obtain ⟨r0, r1, r2, r3, r4, r5, g0, g1, g2, g3, g4, g5⟩ := HF7.out.tm
    simp only [zTm] at r0 r1 r2 r3 r4 r5
    go_wp2_with fail
    refine bodyPost_ret (resTm2 rfl _ _ w.heap.size zTm _ _ (by rfl) (HF7.out.tm.put zTm _ _)) rfl ?_
    rw [HRX.out]
    exact HF7.out.fail HE.out (by simp) h0
end Go.Proofs.YtgapeacflkfmdaaGreatDoor
set_option linter.unusedSimpArgs false
namespace Go.Proofs.YtgapeacflkfmdaaGreatDoor
open Go.RowKit Go.Sort Go.Proofs.YtgapeacflkfmdaaGreatDoorW.PrintWords

theorem numAt_fwd {s : ByteArray} {k : Nat} (h : (numAt s k).2.2 = []) : k < (numAt s k).2.1 ∧ (numAt s k).2.1 ≤ s.size := by
  unfold numAt at h ⊢
  cases hd : isDig s k with
  | false => rw [if_pos hd] at h; cases h
  | true =>
    have hq := digs_all hd
    rw [if_neg (by simp [hd])] at h ⊢
    split at h
    · cases h
    · rw [if_neg (by assumption)]
      exact ⟨hq.2.2.1, hq.2.2.2⟩
theorem numsAt_fwd {s : ByteArray} : ∀ (n k : Nat), (numsAt s n k).2.2 = [] → k ≤ (numsAt s n k).2.1
  | 0, k, _ => by rw [numsAt]; exact Nat.le_refl _
  | n + 1, k, h => by
    cases hd : isAt s k 46 with
    | false =>
      have e := nums_fail1 (s := s) (k := k) n [] hd
      rw [numsAt, if_pos hd] at h
      cases h
    | true =>
      by_cases h2 : (numAt s (k + 1)).2.2 = []
      · have e := nums_step (s := s) (k := k) n [] hd h2
        have e1 : numExt [] (numsAt s (n + 1) k) = ((numsAt s (n + 1) k).1, (numsAt s (n + 1) k).2.1, []) := by unfold numExt; rw [if_pos h]; rfl
        rw [e1] at e
        by_cases h3 : (numsAt s n (numAt s (k + 1)).2.1).2.2 = []
        · unfold numExt at e
          rw [if_pos h3] at e
          have e2 := congrArg (fun q => q.2.1) e
          simp only at e2
          rw [e2]
          have := numsAt_fwd n _ h3
          have := (numAt_fwd h2).1
          omega
        · unfold numExt at e
          rw [if_neg h3] at e
          exact absurd (congrArg (fun q => q.2.2) e).symm h3
      · have e := nums_fail2 (s := s) (k := k) n [] hd h2
        unfold numExt at e
        rw [if_pos h] at e
        exact absurd (congrArg (fun q => q.2.2) e).symm h2
theorem atomAt_fwd {s : ByteArray} {k : Nat} (h : (atomAt s k).2.2 = []) : k < (atomAt s k).2.1 ∧ (atomAt s k).2.1 ≤ s.size := by
  unfold atomAt at h ⊢
  cases hb : begAtom s k with
  | false => rw [if_pos hb] at h; cases h
  | true =>
    rw [if_neg (by simp [hb])] at h ⊢
    have hk : k < s.size := by unfold begAtom at hb; rw [Bool.and_eq_true, decide_eq_true_eq] at hb; exact hb.1
    have hr := aScan_range s k hk
    generalize aScan s k = q at h hr ⊢
    obtain ⟨a, e, l⟩ := q
    cases l with
    | nil => exact hr rfl
    | cons x r => simp [overTm] at h
/-- What a reading that went well says of its end. -/
def Good (s : ByteArray) (k : Nat) (r : Rd) : Prop := r.2.2 = [] → k < r.2.1 ∧ r.2.1 ≤ s.size ∧ k + r.1.args.length ≤ r.2.1
theorem good_no (s : ByteArray) (k j : Nat) (c : Int) : Good s k (rdNo j c) := fun h => by cases h
theorem good_err {s : ByteArray} {k : Nat} {l : List Lk} (h : l ≠ []) : Good s k (zTm, 0, l) := fun e => absurd e h
theorem int_good {s : ByteArray} {k j : Nat} (sg : Int) (h : k ≤ j) : Good s k (intAt s k j sg) := by
  unfold intAt
  cases hd : isDig s j with
  | false => rw [if_pos rfl]; exact good_no _ _ _ _
  | true =>
    have hq := digs_all hd
    rw [if_neg (by simp)]
    split
    · exact good_no _ _ _ _
    · exact fun _ => ⟨by simp only; omega, hq.2.2.2, by simp only [tmInt, List.length_nil]; omega⟩
theorem whole_good (s : ByteArray) (k : Nat) : Good s k (wholeAt s k) := by
  unfold wholeAt
  split
  · split
    · exact good_no _ _ _ _
    · exact int_good _ (by omega)
  · exact int_good _ (Nat.le_refl _)
theorem far_good (s : ByteArray) (k : Nat) (kd : Int) (many : Nat) : Good s k (farAt s k kd many) := by
  rw [farAt_eq]
  by_cases h : (atomAt s k).2.2 = []
  · rw [if_pos h]
    have h1 := atomAt_fwd h
    split
    · rename_i hn
      exact good_err (by unfold nodeBad; rw [if_neg (by simp [hn])]; simp [overTm])
    · unfold farEnd
      by_cases h2 : (numsAt s (many + 1) (atomAt s k).2.1).2.2 = []
      · rw [if_pos h2]
        have h3 := numsAt_fwd _ _ h2
        split
        · exact good_no _ _ _ _
        · rename_i hc
          have hlt := isAt_lt (by simpa using hc)
          exact fun _ => ⟨by simp only; omega, by simp only; omega, by simp only [List.length_nil]; omega⟩
      · rw [if_neg h2]; exact good_err h2
  · rw [if_neg h]; exact good_err h
theorem tuple_good {F : Nat → Rd} {s : ByteArray} (hF : Fwd s F) {k : Nat} (hk : k ≤ s.size) : Good s k (tupleAt F s k) := by
  rw [tupleAt_eq]
  have hb := blk_ge s k
  have hl := blk_le s k hk
  split
  · rename_i hc
    have hlt := isAt_lt hc
    exact fun _ => ⟨by simp only; omega, by simp only; omega, by simp only [List.length_nil]; omega⟩
  · unfold tupEnd
    by_cases h : (sevAt F s (s.size + 1) (blk s k) []).2.2 = []
    · rw [if_pos h]
      have hs := sev_blk hF (s.size + 1) (blk s k) [] hl (by omega) h
      have h3 := hs.2.2.1
      rw [List.length_nil] at h3
      split
      · rename_i hc
        have hlt := isAt_lt hc
        exact fun _ => ⟨by simp only; omega, by simp only; omega, by simp only; omega⟩
      · exact good_no _ _ _ _
    · rw [if_neg h]; exact good_err h
theorem listEnd_good {s : ByteArray} {k e : Nat} {l : List Tm} {t : Tm} (h1 : k + l.length ≤ e) (h2 : k + l.length + t.args.length ≤ e) (he : k < e) : Good s k (listEnd s l t e) := by
  unfold listEnd
  split
  · rename_i hc
    have hlt := isAt_lt hc
    refine fun _ => ⟨by simp only; omega, by simp only; omega, ?_⟩
    simp only [joinT]
    split
    · rw [List.length_append]; omega
    · rw [List.length_append, List.length_singleton]; omega
  · exact good_no _ _ _ _
theorem list_good {F : Nat → Rd} {s : ByteArray} (hF : Fwd s F) {k : Nat} (hk : k ≤ s.size) : Good s k (listAt F s k) := by
  rw [listAt_eq]
  have hb := blk_ge s k
  have hl := blk_le s k hk
  split
  · rename_i hc
    have hlt := isAt_lt hc
    exact fun _ => ⟨by simp only; omega, by simp only; omega, by simp only [tmNil, List.length_nil]; omega⟩
  · unfold lstEnd
    by_cases h : (sevAt F s (s.size + 1) (blk s k) []).2.2 = []
    · rw [if_pos h]
      have hs := sev_blk hF (s.size + 1) (blk s k) [] hl (by omega) h
      have h3 := hs.2.2.1
      rw [List.length_nil] at h3
      generalize sevAt F s (s.size + 1) (blk s k) [] = q at h hs h3 ⊢
      split
      · by_cases h2 : (F (q.2.1 + 1)).2.2 = []
        · rw [if_pos h2]
          have hq := hF (q.2.1 + 1) (F (q.2.1 + 1)).1 (F (q.2.1 + 1)).2.1 (by rw [← h2])
          have hg := blk_ge s (F (q.2.1 + 1)).2.1
          exact listEnd_good (by omega) (by omega) (by omega)
        · rw [if_neg h2]; exact good_err h2
      · exact listEnd_good (by omega) (by simp only [tmNil, List.length_nil]; omega) (by omega)
    · rw [if_neg h]; exact good_err h
theorem Good.down {s : ByteArray} {k j : Nat} {r : Rd} (h : Good s j r) (hk : k ≤ j) : Good s k r := fun e => by
  have := h e
  omega
theorem begun_good {F : Nat → Rd} {s : ByteArray} (hF : Fwd s F) (k : Nat) : Good s k (begunAt F s k) := by
  by_cases h0 : k < s.size
  · by_cases c0 : isDigit (bt s (k : Int)) = true ∨ bt s (k : Int) = 45
    · rw [bg_whole h0 c0]; exact whole_good s k
    · by_cases c1 : bt s (k : Int) = 123
      · rw [bg_tuple h0 c1]; exact (tuple_good hF (by omega)).down (by omega)
      · by_cases c2 : bt s (k : Int) = 91
        · rw [bg_list h0 c2]; exact (list_good hF (by omega)).down (by omega)
        · by_cases c3 : bt s (k : Int) = 35
          · rw [bg_ref h0 c3]
            split
            · exact (far_good s (k + 5) 3 3).down (by omega)
            · exact good_no _ _ _ _
          · by_cases c4 : bt s (k : Int) = 60
            · rw [bg_pid h0 c4]; exact (far_good s (k + 1) 4 2).down (by omega)
            · rw [bg_atom h0 c0 c1 c2 c3 c4]
              by_cases h : (atomAt s k).2.2 = []
              · rw [if_pos h]
                have h1 := atomAt_fwd h
                exact fun _ => ⟨h1.1, h1.2, by simp only [List.length_nil]; omega⟩
              · rw [if_neg h]; exact good_err h
  · rw [bg_end (by omega)]; exact good_no _ _ _ _
theorem rdT_fwd (s : ByteArray) : ∀ d, Fwd s (rdT s d)
  | 0 => fun k t e h => by rw [rdT] at h; cases h
  | d + 1 => fun k t e h => by
    have hg := (begun_good (rdT_fwd s d) (blk s k)).down (blk_ge s k)
    rw [rdT] at h
    rw [h] at hg
    exact hg rfl
end Go.Proofs.YtgapeacflkfmdaaGreatDoor
namespace Go.Proofs.YtgapeacflkfmdaaGreatDoor
open Go.RowKit Go.Proofs.YtgapeacflkfmdaaGreatDoorW.PrintWords

theorem strOf_size (l : List Int) : (strOfNums l).size = l.length := by
  unfold strOfNums
  simp [ByteArray.size]
theorem quoteOf_len (s : ByteArray) : (quoteOf s).length ≤ 2 + 4 * s.size := by
  have h1 := flat_len (bs s)
  rw [bs_len] at h1
  unfold quoteOf
  simp only [List.length_cons, List.length_append, List.length_nil]
  omega
theorem quoted_size (s : ByteArray) : (quoted s).1.size ≤ 1022 := by
  have h := quoteOf_len s
  unfold quoted
  split
  · exact Nat.zero_le 1022
  · split
    · exact Nat.zero_le 1022
    · split
      · simp only
        omega
      · simp only
        rw [strOf_size]
        omega
theorem quoted_small (s : ByteArray) : (quoted s).1.size ≤ 2 + 4 * s.size := by
  have h := quoteOf_len s
  unfold quoted
  split
  · exact Nat.zero_le _
  · split
    · exact Nat.zero_le _
    · split
      · simp only
        omega
      · simp only
        rw [strOf_size]
        exact h
theorem itoaI_len {n : Int} (h0 : -9223372036854775808 ≤ n) (h1 : n ≤ 9223372036854775807) : (itoaI n).length ≤ 21 := by
  unfold itoaI
  rw [List.length_map]
  exact Lib.itoa_length_le n h0 h1
/-! ### where a part's text stands -/
def sepPre (c : List Int) (l : List (List Int)) : List Int := if l = [] then [] else sepBy c l ++ c
def sepPost (c : List Int) (l : List (List Int)) : List Int := if l = [] then [] else c ++ sepBy c l
theorem sepBy_cons (c a : List Int) (l : List (List Int)) : sepBy c (a :: l) = a ++ sepPost c l := by
  cases l with
  | nil => simp [sepBy, sepPost]
  | cons b l => simp [sepBy, sepPost]
theorem sepBy_split (c a : List Int) : ∀ (l r : List (List Int)), sepBy c (l ++ a :: r) = sepPre c l ++ (a ++ sepPost c r)
  | [], r => by rw [List.nil_append, sepBy_cons]; rfl
  | b :: l, r => by
    rw [List.cons_append, sepBy_cons]
    have h : sepPost c (l ++ a :: r) = c ++ sepBy c (l ++ a :: r) := by
      unfold sepPost
      rw [if_neg (fun e => by have := congrArg List.length e; simp at this)]
    have h2 : sepPre c (b :: l) = b ++ (sepPost c l ++ c) := by
      unfold sepPre
      rw [if_neg (fun e => by cases e), sepBy_cons, List.append_assoc]
    rw [h, sepBy_split c a l r, h2]
    cases l with
    | nil => simp [sepPre, sepPost]
    | cons d l => simp [sepPre, sepPost]
theorem sepBy_snoc (c a : List Int) (l : List (List Int)) : sepBy c (l ++ [a]) = sepPre c l ++ a := by
  rw [sepBy_split]
  simp [sepPost]
/-! ### how many parts -/
mutual
def cntT : Tm → Nat
  | ⟨_, _, _, _, _, us⟩ => 1 + cntL us
def cntL : List Tm → Nat
  | [] => 0
  | a :: us => cntT a + cntL us
end
theorem cntT_eq (t : Tm) : cntT t = 1 + cntL t.args := by
  cases t
  rw [cntT]
theorem meas_cnt (t : Tm) : ∀ d n m, (measT t d n m).1 = [] → (measT t d n m).2.1 = n + cntT t := by
  induction t using Tm.ind with
  | h t ih =>
    intro d n m h
    obtain ⟨_, _, h3, h4, _⟩ := meas_parts h
    rw [h4, cntT_eq]
    have hl : ∀ (l : List Tm), (∀ a ∈ l, a ∈ t.args) → ∀ d n m, (measL l d n m).1 = [] → (measL l d n m).2.1 = n + cntL l := by
      intro l
      induction l with
      | nil => intro _ d n m _; rw [measL, cntL]; simp
      | cons a l ihl =>
        intro hs d n m h
        rw [measL] at h ⊢
        match he : measT a d n m with
        | ([], n', m') =>
          rw [he] at h
          simp only at h ⊢
          have h1 := ih a (hs a (by simp)) d n m (by rw [he])
          rw [he] at h1
          simp only at h1
          rw [ihl (fun x hx => hs x (by simp [hx])) d n' m' h, h1, cntL]
          omega
        | (x :: r, n', m') => rw [he] at h; cases h
    rw [hl t.args (fun _ h => h) _ _ _ h3]
    omega
theorem chk_cnt {t : Tm} (h : chk t = []) : cntT t ≤ 4096 := by
  have h1 := meas_cnt t 1 0 0 h
  have h2 := meas_range t 1 0 0 (by decide) (by decide) (by decide) (by decide) (by decide) h
  omega
theorem sepBy_len (c : List Int) (hc : c.length ≤ 1) : ∀ (l : List (List Int)), (sepBy c l).length ≤ (l.map List.length).sum + l.length
  | [] => by simp [sepBy]
  | a :: l => by
    rw [sepBy_cons, List.length_append, List.map_cons, List.sum_cons, List.length_cons]
    have h := sepBy_len c hc l
    unfold sepPost
    split
    · simp; omega
    · rw [List.length_append]; omega
theorem nums_len : ∀ (l : List Int), (∀ n ∈ l, isU32 n) → (numsTxt l).length ≤ 22 * l.length
  | [], _ => by simp [numsTxt]
  | n :: l, h => by
    have h1 := nums_len l (fun x hx => h x (by simp [hx]))
    have h2 := itoaI_len (n := n) (by have := (h n (by simp)).1; omega) (by have := (h n (by simp)).2; omega)
    unfold numsTxt at h1 ⊢
    simp only [List.flatMap_cons, List.length_append, List.length_cons]
    omega
theorem shape_of {t : Tm} (h : okT t = true) : shapeOk t = true := by
  rw [okT_eq, Bool.and_eq_true] at h
  exact h.1
theorem shape_ref {t : Tm} (h : okT t = true) (hk : t.kd = 3) : t.nums.length = 3 := by
  have h3 := shape_of h
  unfold shapeOk at h3
  rw [if_neg (by omega), if_neg (by omega), if_pos hk] at h3
  simp at h3
  exact h3.2
theorem shape_pid {t : Tm} (h : okT t = true) (hk : t.kd = 4) : t.nums.length = 2 := by
  have h3 := shape_of h
  unfold shapeOk at h3
  rw [if_neg (by omega), if_neg (by omega), if_neg (by omega), if_pos hk] at h3
  simp at h3
  exact h3.2
def small64 (n : Int) : Prop := -9223372036854775808 ≤ n ∧ n ≤ 9223372036854775807
theorem txt_len (t : Tm) : okT t = true → wfT t = true → (t.kd = 1 → small64 t.it) → (t.kd = 3 ∨ t.kd = 4 → t.tx.size ≤ 64) → (∀ a, a ∈ t.args → (txtT [] a).length + 2 ≤ 1024 * cntT a) → (txtT [] t).length + 2 ≤ 1024 * cntT t := by
  intro hok hwf hit hnd ih
  have hqs := quoted_small t.tx
  have hqls : (bs (quoted t.tx).1).length ≤ 2 + 4 * t.tx.size := by rw [bs_len]; exact hqs
  have hkd := shape_kd hok
  have hq := quoted_size t.tx
  have hql : (bs (quoted t.tx).1).length ≤ 1022 := by rw [bs_len]; exact hq
  have hc := cntT_eq t
  have hal : ∀ l : List Tm, (∀ a ∈ l, (txtT [] a).length + 2 ≤ 1024 * cntT a) → ((l.map (txtT [])).map List.length).sum + l.length ≤ 1024 * cntL l := by
    intro l
    induction l with
    | nil => intro _; simp
    | cons a l ihl =>
      intro h
      have h1 := h a (by simp)
      have h2 := ihl (fun x hx => h x (by simp [hx]))
      rw [cntL]
      simp only [List.map_cons, List.sum_cons, List.length_cons]
      omega
  have hal2 := hal t.args ih
  rw [txtT_eq]
  rcases (show t.kd = 1 ∨ t.kd = 2 ∨ t.kd = 3 ∨ t.kd = 4 ∨ t.kd = 5 ∨ t.kd = 6 ∨ t.kd = 7 by omega) with hk | hk | hk | hk | hk | hk | hk
  · rw [if_pos hk]
    have := itoaI_len (hit hk).1 (hit hk).2
    omega
  · rw [if_neg (by omega), if_pos hk]
    omega
  · rw [if_neg (by omega), if_neg (by omega), if_pos hk]
    have hn := shape_ref hok hk
    have hn64 := hnd (.inl hk)
    have h2 := nums_len (t.cr :: t.nums) (wf_nums hwf)
    unfold farTxt
    unfold numsTxt at h2
    simp only [List.length_cons, List.length_append, List.length_nil] at h2 ⊢
    omega
  · rw [if_neg (by omega), if_neg (by omega), if_neg (by omega), if_pos hk]
    have hn := shape_pid hok hk
    have hn64 := hnd (.inr hk)
    have h2 := nums_len (t.cr :: t.nums) (wf_nums hwf)
    unfold farTxt
    unfold numsTxt at h2
    simp only [List.length_cons, List.length_append, List.length_nil] at h2 ⊢
    omega
  · rw [if_neg (by omega), if_neg (by omega), if_neg (by omega), if_neg (by omega), if_pos hk]
    have h1 := sepBy_len [44] (by simp) (t.args.map (txtT []))
    rw [List.length_map] at h1
    simp only [List.nil_append, List.length_cons, List.length_append, List.length_nil]
    omega
  · rw [if_neg (by omega), if_neg (by omega), if_neg (by omega), if_neg (by omega), if_neg (by omega), if_pos hk]
    simp only [List.nil_append, List.length_cons, List.length_nil]
    omega
  · rw [if_neg (by omega), if_neg (by omega), if_neg (by omega), if_neg (by omega), if_neg (by omega), if_neg (by omega)]
    obtain ⟨hl2, _⟩ := shape_list hok hk
    obtain ⟨i, x, hix⟩ := dropLast_snoc (l := t.args) (by intro e; rw [e] at hl2; simp at hl2)
    rw [hix] at hal2 hc ⊢
    have h1 := sepBy_len [44] (by simp) (i.map (txtT []))
    rw [List.length_map] at h1
    rw [List.map_append, List.map_append] at hal2
    simp only [List.map_cons, List.map_nil, List.sum_append, List.sum_cons, List.sum_nil, List.length_append, List.length_cons, List.length_nil] at hal2
    simp only [List.nil_append, List.map_append, List.map_cons, List.map_nil, List.dropLast_concat, List.getLastD_concat, List.length_cons, List.length_append, List.length_nil]
    split
    · simp only [List.length_nil]; omega
    · simp only [List.length_cons]; omega
theorem txt_size (t : Tm) : ∀ D n m, (measT t D n m).1 = [] → wfT t = true → (txtT [] t).length + 2 ≤ 1024 * cntT t := by
  induction t using Tm.ind with
  | h t ih =>
    intro D n m h hwf
    have hok := meas_ok t D n m h
    obtain ⟨_, hf, h3, _, _⟩ := meas_parts h
    refine txt_len t hok hwf (fun hk => ?_) (fun hk => ?_) (fun a ha => ?_)
    · have := form_int hf hk
      unfold small64
      omega
    · have h := form_node hf hk
      unfold nodeOk nodeOkL at h
      simp only [Bool.and_eq_true, decide_eq_true_eq] at h
      have := h.1.1.1.2
      rw [bs_len] at this
      exact this
    · obtain ⟨n', m', h4⟩ := measL_mem h3 a ha
      exact ih a ha _ n' m' h4 (wfL_mem (wf_args hwf) ha)
theorem chk_txt {t : Tm} (h : chk t = []) (hw : wfT t = true) : (txtT [] t).length ≤ 4194302 := by
  have h1 := txt_size t 1 0 0 h hw
  have h2 := chk_cnt h
  omega
end Go.Proofs.YtgapeacflkfmdaaGreatDoor
set_option linter.unusedSimpArgs false
namespace Go.Proofs.YtgapeacflkfmdaaGreatDoor
open Go.RowKit Go.Sort Go.Proofs.YtgapeacflkfmdaaGreatDoorW.PrintWords

/-- Sizes and numbers are in bounds. -/
def inT (t : Tm) : Bool := smT t && wfT t
def inL (l : List Tm) : Bool := smL l && wfL l
theorem inL_iff (l : List Tm) : inL l = true ↔ ∀ a ∈ l, inT a = true := by
  unfold inL inT
  induction l with
  | nil => simp [smL, wfL]
  | cons a l ih =>
    rw [smL, wfL]
    simp only [Bool.and_eq_true, List.mem_cons, forall_eq_or_imp] at ih ⊢
    constructor
    · rintro ⟨⟨h1, h2⟩, h3, h4⟩
      exact ⟨⟨h1, h3⟩, ih.1 ⟨h2, h4⟩⟩
    · rintro ⟨⟨h1, h3⟩, h⟩
      have := ih.2 h
      exact ⟨⟨h1, this.1⟩, h3, this.2⟩
theorem inT_mk {t : Tm} (h1 : t.tx.size ≤ 140737488351232) (h2 : 0 ≤ t.cr ∧ t.cr ≤ 4294967295) (h3 : ∀ n ∈ t.nums, 0 ≤ n ∧ n ≤ 4294967295) (h4 : inL t.args = true) : inT t = true := by
  unfold inL at h4
  rw [Bool.and_eq_true] at h4
  unfold inT
  rw [smT_eq, wfT_eq, h4.1, h4.2]
  simp only [Bool.and_eq_true, decide_eq_true_eq, List.all_eq_true, and_true]
  exact ⟨h1, h2, h3⟩
theorem in_zero : inT zTm = true := inT_mk (Nat.zero_le _) (by decide) (fun n h => by cases h) rfl
theorem numAt_in (s : ByteArray) (k : Nat) : 0 ≤ (numAt s k).1 ∧ (numAt s k).1 ≤ 4294967295 := by
  unfold numAt
  split
  · exact ⟨Int.le_refl 0, by simp⟩
  · rename_i hd
    have hd' : isDig s k = true := by simpa using hd
    have h := decAt_txt (digs_all hd').1
    split
    · exact ⟨Int.le_refl 0, by simp⟩
    · simp only
      omega
theorem numsAt_in (s : ByteArray) : ∀ (n k : Nat), ∀ x ∈ (numsAt s n k).1, 0 ≤ x ∧ x ≤ 4294967295
  | 0, k, x, h => by rw [numsAt] at h; cases h
  | n + 1, k, x, h => by
    rw [numsAt] at h
    have h1 := numAt_in s (k + 1)
    split at h
    · cases h
    · generalize numAt s (k + 1) = q at h h1
      obtain ⟨v, e, l⟩ := q
      cases l with
      | cons y r => cases h
      | nil =>
        simp only at h
        have h2 := numsAt_in s n e
        generalize numsAt s n e = p at h h2
        obtain ⟨vs, e', l'⟩ := p
        cases l' with
        | cons y r => cases h
        | nil =>
          simp only [List.mem_cons] at h
          rcases h with rfl | h
          · exact h1
          · exact h2 x h
theorem int_in (s : ByteArray) (k j : Nat) (sg : Int) : inT (intAt s k j sg).1 = true := by
  unfold intAt rdNo
  split
  · exact in_zero
  · split
    · exact in_zero
    · exact inT_mk (Nat.zero_le _) (by simp [tmInt]) (fun n h => by cases h) rfl
theorem whole_in (s : ByteArray) (k : Nat) : inT (wholeAt s k).1 = true := by
  unfold wholeAt rdNo
  split
  · split
    · exact in_zero
    · exact int_in _ _ _ _
  · exact int_in _ _ _ _
theorem far_in (s : ByteArray) (k : Nat) (kd : Int) (many : Nat) : inT (farAt s k kd many).1 = true := by
  rw [farAt_eq]
  have h1 := atomAt_small s k
  split
  · split
    · exact in_zero
    · unfold farEnd rdNo
      have h2 := numsAt_in s (many + 1) (atomAt s k).2.1
      generalize numsAt s (many + 1) (atomAt s k).2.1 = q at h2 ⊢
      split
      · split
        · exact in_zero
        · refine inT_mk (by simp only; omega) ?_ ?_ rfl
          · cases hq : q.1 with
            | nil => simp
            | cons a l => exact h2 a (by rw [hq]; simp)
          · intro n hn
            exact h2 n (List.mem_of_mem_tail hn)
      · exact in_zero
  · exact in_zero
theorem sev_in {F : Nat → Rd} (s : ByteArray) (hF : ∀ k, inT (F k).1 = true) : ∀ (m k : Nat) (acc : List Tm), inL acc = true → inL (sevAt F s m k acc).1 = true
  | 0, k, acc, _ => by rw [sevAt]; rfl
  | m + 1, k, acc, ha => by
    have hk := hF k
    have hs : inL (acc ++ [(F k).1]) = true := by
      rw [inL_iff] at ha ⊢
      intro a h
      rcases List.mem_append.1 h with h | h
      · exact ha a h
      · rw [List.mem_singleton.1 h]; exact hk
    by_cases he : (F k).2.2 = []
    · cases hc : isAt s (blk s (F k).2.1) 44 with
      | true => rw [sev_more he hc]; exact sev_in s hF m _ _ hs
      | false => rw [sev_last he hc]; exact hs
    · rw [sev_err he]; rfl
theorem tuple_in {F : Nat → Rd} (s : ByteArray) (hF : ∀ k, inT (F k).1 = true) (k : Nat) : inT (tupleAt F s k).1 = true := by
  rw [tupleAt_eq]
  split
  · exact inT_mk (Nat.zero_le _) (by simp) (fun n h => by cases h) rfl
  · unfold tupEnd rdNo
    have h := sev_in s hF (s.size + 1) (blk s k) [] rfl
    split
    · split
      · exact inT_mk (Nat.zero_le _) (by simp) (fun n h => by cases h) h
      · exact in_zero
    · exact in_zero
theorem in_args {t : Tm} (h : inT t = true) : inL t.args = true := by
  unfold inT at h
  rw [Bool.and_eq_true] at h
  unfold inL
  rw [sm_args h.1, wf_args h.2]
  rfl
theorem join_in {l : List Tm} {t : Tm} (hl : inL l = true) (ht : inT t = true) : inT (joinT l t) = true := by
  unfold joinT
  refine inT_mk (Nat.zero_le _) (by simp) (fun n h => by cases h) ?_
  have ha := in_args ht
  rw [inL_iff] at hl ha ⊢
  simp only
  split
  · intro a h
    rcases List.mem_append.1 h with h | h
    · exact hl a h
    · exact ha a h
  · intro a h
    rcases List.mem_append.1 h with h | h
    · exact hl a h
    · rw [List.mem_singleton.1 h]; exact ht
theorem listEnd_in (s : ByteArray) {l : List Tm} {t : Tm} (k : Nat) (hl : inL l = true) (ht : inT t = true) : inT (listEnd s l t k).1 = true := by
  unfold listEnd rdNo
  split
  · exact join_in hl ht
  · exact in_zero
theorem in_nil : inT tmNil = true := inT_mk (Nat.zero_le _) (by decide) (fun n h => by cases h) rfl
theorem list_in {F : Nat → Rd} (s : ByteArray) (hF : ∀ k, inT (F k).1 = true) (k : Nat) : inT (listAt F s k).1 = true := by
  rw [listAt_eq]
  split
  · exact in_nil
  · unfold lstEnd
    have h := sev_in s hF (s.size + 1) (blk s k) [] rfl
    split
    · split
      · split
        · exact listEnd_in s _ h (hF _)
        · exact in_zero
      · exact listEnd_in s _ h in_nil
    · exact in_zero
theorem begun_in {F : Nat → Rd} (s : ByteArray) (hF : ∀ k, inT (F k).1 = true) (k : Nat) : inT (begunAt F s k).1 = true := by
  unfold begunAt rdNo
  split
  · exact in_zero
  · split
    · exact whole_in s k
    · split
      · exact tuple_in s hF _
      · split
        · exact list_in s hF _
        · split
          · split
            · exact far_in _ _ _ _
            · exact in_zero
          · split
            · exact far_in _ _ _ _
            · have h := atomAt_small s k
              generalize atomAt s k = q at h ⊢
              obtain ⟨a, e, l⟩ := q
              cases l with
              | nil => exact inT_mk (by simp only at h ⊢; omega) (by simp) (fun n h => by cases h) rfl
              | cons x r => exact in_zero
theorem rdT_in (s : ByteArray) : ∀ d k, inT (rdT s d k).1 = true
  | 0, k => by rw [rdT]; exact in_zero
  | d + 1, k => by rw [rdT]; exact begun_in s (rdT_in s d) _
theorem rdAll_in (s : ByteArray) : inT (rdAll s).1 = true := by
  unfold rdAll
  split
  · exact in_zero
  · have h := rdT_in s 256 0
    generalize rdT s 256 0 = q at h ⊢
    obtain ⟨t, e, l⟩ := q
    cases l with
    | nil =>
      simp only
      unfold rdEnd
      split
      · exact in_zero
      · split
        · exact h
        · exact in_zero
    | cons x r => exact in_zero
theorem inT_sm {t : Tm} (h : inT t = true) : smT t = true := by unfold inT at h; rw [Bool.and_eq_true] at h; exact h.1
theorem inT_wf {t : Tm} (h : inT t = true) : wfT t = true := by unfold inT at h; rw [Bool.and_eq_true] at h; exact h.2
end Go.Proofs.YtgapeacflkfmdaaGreatDoor
