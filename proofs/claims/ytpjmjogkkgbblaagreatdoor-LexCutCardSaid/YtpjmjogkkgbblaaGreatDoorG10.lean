/-
  Plain facts: a code point's bytes cut out of a text; heddleref10.point. heddleref10.char. heddleref10.word, heddleref10.skip. heddleref10.token. heddleref10.Scan.
-/
import Derived.Test.YtpjmjogkkgbblaaGreatDoorG9
import Derived.Test.YtpjmjogkkgbblaaGreatDoorKPPtx1
import Derived.Test.YtpjmjogkkgbblaaGreatDoorG3
import Derived.Test.YtpjmjogkkgbblaaGreatDoorKPSmx2
import Derived.Test.YtpjmjogkkgbblaaGreatDoorG4
namespace Go.Proofs.YtpjmjogkkgbblaaGreatDoor
open Go.RowKit Go.Proofs.YtpjmjogkkgbblaaGreatDoorW.PrintWords Go.Proofs.YtpjmjogkkgbblaaGreatDoor.PPt

theorem decN_cut (n N b0 b1 b2 b3 c1 c2 c3 : Nat) (hn : 1 ≤ n) (h : n ≤ N) (h1 : 1 < n → c1 = b1) (h2 : 2 < n → c2 = b2) (h3 : 3 < n → c3 = b3) :
    Lib.decodeN n b0 c1 c2 c3 = if (Lib.decodeN N b0 b1 b2 b3).2 ≤ n then Lib.decodeN N b0 b1 b2 b3 else (65533, 1) := by
  by_cases g1 : 1 < n
  · obtain rfl := h1 g1
    by_cases g2 : 2 < n
    · obtain rfl := h2 g2
      by_cases g3 : 3 < n
      · obtain rfl := h3 g3
        have e : Lib.decodeN n b0 c1 c2 c3 = Lib.decodeN N b0 c1 c2 c3 := by
          simp only [Lib.decodeN, g1, g2, g3, show 1 < N by omega, show 2 < N by omega, show 3 < N by omega]
        rw [e, if_pos]
        simp only [Lib.decodeN]
        repeat' split
        all_goals simp only; omega
      · simp only [Lib.decodeN, g1, g2, g3, show 1 < N by omega, show 2 < N by omega, true_and, false_and, and_false, if_false]
        repeat' split
        all_goals first | rfl | (exfalso; simp only at *; omega)
    · simp only [Lib.decodeN, g1, g2, show ¬ 3 < n by omega, show 1 < N by omega, true_and, false_and, and_false, if_false]
      repeat' split
      all_goals first | rfl | (exfalso; simp only at *; omega)
  · simp only [Lib.decodeN, g1, show ¬ 2 < n by omega, show ¬ 3 < n by omega, false_and, and_false, if_false]
    repeat' split
    all_goals first | rfl | (exfalso; simp only at *; omega)

theorem bt_ext {s : ByteArray} {a n j : Nat} (hj : j < n) (h : a + n ≤ s.size) : bt (s.extract a (a + n)) (j : Int) = bt s ((a + j : Nat) : Int) := by
  have hsz : (s.extract a (a + n)).size = n := by simp; omega
  have h1 := btk (s.extract a (a + n)) j (by omega)
  have h2 := btk s (a + j) (by omega)
  rw [← h1, ← h2, ByteArray.getElem_extract]
theorem get_ext {s : ByteArray} {a n j : Nat} (hj : j < n) (h : a + n ≤ s.size) : ((s.extract a (a + n)).get! j).toNat = (s.get! (a + j)).toNat := by
  have h1 := get_bt (s.extract a (a + n)) j (by simp; omega)
  have h2 := get_bt s (a + j) (by omega)
  rw [bt_ext hj h] at h1
  omega
theorem dec_cut {s : ByteArray} {a n : Nat} (hn : 1 ≤ n) (h : a + n ≤ s.size) :
    Utf8.decode (s.extract a (a + n)) 0 = if (Utf8.decode s a).2 ≤ n then Utf8.decode s a else (65533, 1) := by
  have hsz : (s.extract a (a + n)).size - 0 = n := by simp; omega
  have h0 : ((s.extract a (a + n)).get! 0).toNat = (s.get! a).toNat := get_ext (j := 0) (by omega) h
  rw [Lib.decode_at, Lib.decode_at s a, hsz, h0]
  exact decN_cut _ _ _ _ _ _ _ _ _ hn (by omega) (fun g => by simpa using get_ext (j := 1) g h) (fun g => by simpa using get_ext (j := 2) g h) (fun g => by simpa using get_ext (j := 3) g h)
theorem utf_hit {s : ByteArray} {a : Nat} (ha : a < s.size) (hd : Utf8.decode s a ≠ (65533, 1)) : utfBad (s.extract a (a + (Utf8.decode s a).2)) 0 = -1 := by
  have hw := Lib.width_pos s a
  have hin := dec_in s a ha
  have hc := dec_cut (n := (Utf8.decode s a).2) (by omega) hin
  rw [if_pos (Nat.le_refl _)] at hc
  have hsz : (s.extract a (a + (Utf8.decode s a).2)).size = (Utf8.decode s a).2 := by simp; omega
  rw [← utfBad_on (k := 0) (by omega) (by rw [hc]; exact hd), hc]
  exact utfBad_out (by omega)
theorem utf_miss {s : ByteArray} {a n : Nat} (hn : 1 ≤ n) (h : a + n ≤ s.size) (hd : Utf8.decode s a = (65533, 1) ∨ n < (Utf8.decode s a).2) : utfBad (s.extract a (a + n)) 0 = 0 := by
  have hc := dec_cut hn h
  have hsz : (s.extract a (a + n)).size = n := by simp; omega
  have he : Utf8.decode (s.extract a (a + n)) 0 = (65533, 1) := by
    rw [hc]
    rcases hd with hd | hd
    · rw [hd]; simp
    · rw [if_neg (by omega)]
  exact utfBad_here (k := 0) (by omega) he

theorem pt_step (m : Nat) (c : ByteArray) (v : Int) (i : Nat) (h : i < c.size) (hi : i < 4) (hv0 : -100000 ≤ v) (hv : v ≤ 16777216) :
    heddleref10_point.l0 (m + 1) c v (i : Int) = heddleref10_point.l0 m c (v * 64 + bt c (i : Int) - 128) ((i + 1 : Nat) : Int) := by
  have hr := bt_range c (i : Int)
  simp only [heddleref10_point.l0]
  rw [if_pos (by omega), if_pos (by omega), w64 (x := v * 64) (by omega) (by omega), w64 (x := bt c (i : Int)) (by omega) (by omega), w64 (x := v * 64 + bt c (i : Int)) (by omega) (by omega), w64 (x := v * 64 + bt c (i : Int) - 128) (by omega) (by omega), w64 (x := (i : Int) + 1) (by omega) (by omega)]
  rfl
theorem pt_end (m : Nat) (c : ByteArray) (v : Int) : heddleref10_point.l0 (m + 1) c v (c.size : Int) = some v := by
  simp only [heddleref10_point.l0]
  rw [if_neg (by omega)]
theorem four_cont {s : ByteArray} {i : Nat} (h : (Utf8.decode s i).2 = 4) : (s.get! (i + 1)).toNat / 64 = 2 ∧ (s.get! (i + 2)).toNat / 64 = 2 ∧ (s.get! (i + 3)).toNat / 64 = 2 := by
  rw [Lib.decode_at] at h
  simp only [Lib.decodeN] at h
  repeat' split at h
  all_goals first | (simp at h; done) | (refine ⟨by omega, by omega, by omega⟩)
set_option maxRecDepth 100000 in
set_option maxHeartbeats 1000000 in
theorem pt_val {s : ByteArray} {a : Nat} (ha : a < s.size) (hd : Utf8.decode s a ≠ (65533, 1)) :
    heddleref10_point.f 10 (s.extract a (a + (Utf8.decode s a).2)) = some ((Utf8.decode s a).1 : Int) := by
  have hin := dec_in s a ha
  have hfour := @four_cont s a
  revert hd hin
  revert hfour
  have g0 := get_bt s a ha
  refine decode_cases (fun d => (d.2 = 4 → (s.get! (a + 1)).toNat / 64 = 2 ∧ (s.get! (a + 2)).toNat / 64 = 2 ∧ (s.get! (a + 3)).toNat / 64 = 2) → d ≠ (65533, 1) → a + d.2 ≤ s.size → heddleref10_point.f 10 (s.extract a (a + d.2)) = some (d.1 : Int)) s a (fun _ h => absurd rfl h) ?_ ?_ ?_ ?_
  · intro h1 _ _ hin
    simp only at hin ⊢
    have hsz : (s.extract a (a + 1)).size = 1 := by simp; omega
    have e0 : bt (s.extract a (a + 1)) 0 = bt s (a : Int) := bt_ext (j := 0) (by omega) hin
    have hr := bt_range s (a : Int)
    unfold heddleref10_point.f
    rw [if_pos (by omega), if_neg (by omega), if_neg (by omega), if_neg (by omega), e0, w64 (x := bt s (a : Int)) (by omega) (by omega)]
    simp only [heddleref10_point.j0]
    have := pt_end 8 (s.extract a (a + 1)) (bt s (a : Int))
    rw [hsz] at this
    rw [g0]
    exact this
  · intro h1 hlt h2 h3 _ _ hin
    simp only at hin ⊢
    have g1 := get_bt s (a + 1) (by omega)
    have hsz : (s.extract a (a + 2)).size = 2 := by simp; omega
    have e0 : bt (s.extract a (a + 2)) 0 = bt s (a : Int) := bt_ext (j := 0) (by omega) hin
    have e1 : bt (s.extract a (a + 2)) ((1 : Nat) : Int) = bt s ((a + 1 : Nat) : Int) := bt_ext (j := 1) (by omega) hin
    have hr := bt_range s (a : Int)
    unfold heddleref10_point.f
    rw [if_pos (by omega), if_pos (by omega), e0, w64 (x := bt s (a : Int)) (by omega) (by omega), w64 (x := bt s (a : Int) - 192) (by omega) (by omega)]
    simp only [heddleref10_point.j0]
    have s1 := pt_step 8 (s.extract a (a + 2)) (bt s (a : Int) - 192) 1 (by omega) (by omega) (by omega) (by omega)
    simp only [Int.natCast_one] at s1
    rw [s1, show ((1 + 1 : Nat) : Int) = ((s.extract a (a + 2)).size : Int) by rw [hsz], pt_end]
    simp only [Int.natCast_one] at e1
    rw [e1]
    exact congrArg some (by omega)
  · intro h1 hlt h2 h3 _ _ _ _ hin
    simp only at hin ⊢
    have g1 := get_bt s (a + 1) (by omega)
    have g2 := get_bt s (a + 2) (by omega)
    have hsz : (s.extract a (a + 3)).size = 3 := by simp; omega
    have e0 : bt (s.extract a (a + 3)) 0 = bt s (a : Int) := bt_ext (j := 0) (by omega) hin
    have e1 : bt (s.extract a (a + 3)) ((1 : Nat) : Int) = bt s ((a + 1 : Nat) : Int) := bt_ext (j := 1) (by omega) hin
    have e2 : bt (s.extract a (a + 3)) ((1 + 1 : Nat) : Int) = bt s ((a + 2 : Nat) : Int) := bt_ext (j := 2) (by omega) hin
    have hr := bt_range s (a : Int)
    have hr1 := bt_range s ((a + 1 : Nat) : Int)
    unfold heddleref10_point.f
    rw [if_pos (by omega), if_neg (by omega), if_pos (by omega), e0, w64 (x := bt s (a : Int)) (by omega) (by omega), w64 (x := bt s (a : Int) - 224) (by omega) (by omega)]
    simp only [heddleref10_point.j0]
    have s1 := pt_step 8 (s.extract a (a + 3)) (bt s (a : Int) - 224) 1 (by omega) (by omega) (by omega) (by omega)
    rw [e1] at s1
    have s2 := pt_step 7 (s.extract a (a + 3)) ((bt s (a : Int) - 224) * 64 + bt s ((a + 1 : Nat) : Int) - 128) (1 + 1) (by omega) (by omega) (by omega) (by omega)
    rw [e2] at s2
    simp only [Int.natCast_one] at s1
    rw [s1, s2, show ((1 + 1 + 1 : Nat) : Int) = ((s.extract a (a + 3)).size : Int) by rw [hsz], pt_end]
    exact congrArg some (by omega)
  · intro h1 hlt h2 h3 h4 _ hin
    obtain ⟨f1, f2, f3⟩ := h4 rfl
    simp only at hin ⊢
    have g1 := get_bt s (a + 1) (by omega)
    have g2 := get_bt s (a + 2) (by omega)
    have g3 := get_bt s (a + 3) (by omega)
    have hsz : (s.extract a (a + 4)).size = 4 := by simp; omega
    have e0 : bt (s.extract a (a + 4)) 0 = bt s (a : Int) := bt_ext (j := 0) (by omega) hin
    have e1 : bt (s.extract a (a + 4)) ((1 : Nat) : Int) = bt s ((a + 1 : Nat) : Int) := bt_ext (j := 1) (by omega) hin
    have e2 : bt (s.extract a (a + 4)) ((1 + 1 : Nat) : Int) = bt s ((a + 2 : Nat) : Int) := bt_ext (j := 2) (by omega) hin
    have e3 : bt (s.extract a (a + 4)) ((1 + 1 + 1 : Nat) : Int) = bt s ((a + 3 : Nat) : Int) := bt_ext (j := 3) (by omega) hin
    have hr := bt_range s (a : Int)
    have hr1 := bt_range s ((a + 1 : Nat) : Int)
    have hr2 := bt_range s ((a + 2 : Nat) : Int)
    unfold heddleref10_point.f
    rw [if_pos (by omega), if_neg (by omega), if_neg (by omega), if_pos (by omega), e0, w64 (x := bt s (a : Int)) (by omega) (by omega), w64 (x := bt s (a : Int) - 240) (by omega) (by omega)]
    simp only [heddleref10_point.j0]
    have s1 := pt_step 8 (s.extract a (a + 4)) (bt s (a : Int) - 240) 1 (by omega) (by omega) (by omega) (by omega)
    rw [e1] at s1
    have s2 := pt_step 7 (s.extract a (a + 4)) ((bt s (a : Int) - 240) * 64 + bt s ((a + 1 : Nat) : Int) - 128) (1 + 1) (by omega) (by omega) (by omega) (by omega)
    rw [e2] at s2
    have s3 := pt_step 6 (s.extract a (a + 4)) (((bt s (a : Int) - 240) * 64 + bt s ((a + 1 : Nat) : Int) - 128) * 64 + bt s ((a + 2 : Nat) : Int) - 128) (1 + 1 + 1) (by omega) (by omega) (by omega) (by omega)
    rw [e3] at s3
    simp only [Int.natCast_one] at s1
    rw [s1, s2, s3, show ((1 + 1 + 1 + 1 : Nat) : Int) = ((s.extract a (a + 4)).size : Int) by rw [hsz], pt_end]
    exact congrArg some (by omega)
theorem ref10_point {s : ByteArray} {a : Nat} (ha : a < s.size) (hd : Utf8.decode s a ≠ (65533, 1)) (w : World) :
    Calls Tryz.prog 98 #[.string (s.extract a (a + (Utf8.decode s a).2))] w fun e w' => e = .returned (.int .i64 ((Utf8.decode s a).1 : Int)) ∧ Drawn0 w w' :=
  heddleref10_point.calls 10 _ _ w (pt_val ha hd)
/-- The first byte and the code point. -/
theorem dec_asc {s : ByteArray} {i : Nat} (h : (s.get! i).toNat < 128) : Utf8.decode s i = ((s.get! i).toNat, 1) := by
  rw [Lib.decode_at]
  simp only [Lib.decodeN, if_pos h]
theorem dec_wide {s : ByteArray} {i : Nat} (h : 128 ≤ (s.get! i).toNat) : 128 ≤ (Utf8.decode s i).1 :=
  decode_cases (fun d => 128 ≤ d.1) s i (by decide) (fun g => by omega) (fun _ _ _ g => g) (fun _ _ _ _ g _ => by simp only; omega) (fun _ _ g _ => by simp only; omega)
end Go.Proofs.YtpjmjogkkgbblaaGreatDoor
namespace Go.Proofs.YtpjmjogkkgbblaaGreatDoor
open Go.RowKit Go.Proofs.YtpjmjogkkgbblaaGreatDoorW.PrintWords

theorem RefFrame.drew0 {w W W' : World} {rb : Nat} (h : RefFrame w W rb) (hd : Drawn0 W W') : RefFrame w W' rb := h.step hd.below
theorem RefFrame.set {w W : World} {rb b o : Nat} {v : Value} (h : RefFrame w W rb) (hb : w.heap.size ≤ b) (hn : b ≠ rb) : RefFrame w (W.setCell ⟨b, o, none⟩ v) rb := by
  obtain ⟨⟨c0, c1, c2, c3, f0, f1, f2, f3⟩, bl, l2, ge⟩ := h
  refine ⟨?_, bl.setCell hb v, by simpa [World.setCell] using l2, ge⟩
  constructor <;> simp [World.cell?_setCell_other, World.frozen?_setCell, *]
theorem TkAt.num {W : World} {b : Nat} {t : Tk} (h : TkAt W b t) (n : Int) : TkAt (W.setCell ⟨b, 2, none⟩ (.int .i64 n)) b ⟨t.kd, t.tx, n, t.at_⟩ := by
  obtain ⟨c0, c1, c2, c3, f0, f1, f2, f3⟩ := h
  constructor <;> simp [World.cell?_setCell_other, World.cell?_setCell_same, World.frozen?_setCell, *]

set_option maxRecDepth 100000 in
set_option maxHeartbeats 6000000 in
theorem ref10_char (s : ByteArray) (f : Nat) (hf : f < s.size) (hm : s.size ≤ 140737488351232) (w : World) :
    Calls Tryz.prog 67 #[.string s, .int .i64 (f : Int)] w (TokR w (placed f (charTok s f))) := by
  have hfr := RefFrame.start w
  obtain ⟨W1, hW1⟩ : ∃ W, W = w.alloc (.cells #[.int .i64 0, .string ⟨#[]⟩, .int .i64 0, .int .i64 0] 36) := ⟨_, rfl⟩
  have hsz1 : W1.heap.size = w.heap.size + 1 := by rw [hW1]; simp
  rw [← hW1] at hfr
  have hW := hW1.symm
  clear hW1
  have hfr2 := hfr.step (below_alloc (Below.refl W1.heap.size W1) (.cells #[.int .i64 3, .string ⟨#[]⟩, .int .i64 0, .int .i64 (f : Int)] 36))
  have htk : TkAt (W1.alloc (.cells #[.int .i64 3, .string ⟨#[]⟩, .int .i64 0, .int .i64 (f : Int)] 36)) W1.heap.size ⟨3, ⟨#[]⟩, 0, f⟩ := by constructor <;> simp
  obtain ⟨W2, hW2⟩ : ∃ W, W = W1.alloc (.cells #[.int .i64 3, .string ⟨#[]⟩, .int .i64 0, .int .i64 (f : Int)] 36) := ⟨_, rfl⟩
  have hsz2 : W2.heap.size = w.heap.size + 1 + 1 := by rw [hW2]; simp [hsz1]
  rw [← hW2] at hfr2 htk
  have hWW := hW2.symm
  clear hW2 hfr
  rw [hsz1] at htk
  have HF := Lib.hid hfr2
  have HT := Lib.hid htk
  have HZ2 := Lib.hid hsz2
  clear hfr2 htk hsz2
  obtain ⟨R, hR⟩ : ∃ R, R = placed f (charTok s f) := ⟨_, rfl⟩
  rw [← hR]
  have HR := Lib.hid hR
  clear hR
  by_cases hlt : f + 1 < s.size
  · have hd1 : decide ((f : Int) + 1 ≥ (s.size : Int)) = false := decide_eq_false (by omega)
    have hb := btk s (f + 1)
    have hr := bt_range s ((f + 1 : Nat) : Int)
    have g0 := get_bt s (f + 1) hlt
    obtain ⟨B, hB⟩ : ∃ B, B = bt s ((f + 1 : Nat) : Int) := ⟨_, rfl⟩
    rw [← hB] at hb hr g0
    have hx0 : (0 : Int) ≤ (f : Int) + 1 := by omega
    have hx1 : (f : Int) + 1 < (s.size : Int) := by omega
    have HG0 := Lib.hid g0
    have HNL : Hid (¬ s.size ≤ f + 1) := Lib.hid (by omega)
    clear hB g0
    by_cases b1 : B < 32
    · have d2 : decide (B < 32) = true := decide_eq_true b1
      have HQ : Hid (R = noTok [⟨nLex, f, 202⟩]) := Lib.hid (by
        have g0 := HG0.out
        rw [HR.out]; unfold charTok; rw [if_neg HNL.out, if_pos (.inl (by rw [dec_asc (by omega)]; simp only; omega))]; rfl)
      clear hlt
      go_enter Tryz.func67, Tryz.ntmps67
      go_wp2_with fail
      refine (ref10_no _ _ _).mono ?_
      rintro e w9 ⟨v9, rfl, hL9, hB9⟩
      have HL9 := Lib.hid hL9
      have HB9 := Lib.hid hB9
      have HT9 := Lib.hid (HF.out.step hB9).tk
      obtain ⟨r0, r1, r2, r3, f0, f1, f2, f3⟩ := HT9.out
      simp only [zTk] at r0 r1 r2 r3
      clear hL9 hB9
      go_wp2_with fail
      refine bodyPost_ret (res_tok' rfl _ _ w.heap.size zTk (by rfl) (HT9.out.put zTk)) rfl ?_
      rw [HQ.out]
      exact HF.out.fail HL9.out HB9.out
    · have d2 : decide (B < 32) = false := decide_eq_false b1
      by_cases b2 : B = 127
      · have d3 : (B == 127) = true := beq_iff_eq.2 b2
        have HQ : Hid (R = noTok [⟨nLex, f, 202⟩]) := Lib.hid (by
          have g0 := HG0.out
          rw [HR.out]; unfold charTok; rw [if_neg HNL.out, if_pos (.inr (by rw [dec_asc (by omega)]; simp only; omega))]; rfl)
        clear hlt b2
        go_enter Tryz.func67, Tryz.ntmps67
        go_wp2_with fail
        refine (ref10_no _ _ _).mono ?_
        rintro e w9 ⟨v9, rfl, hL9, hB9⟩
        have HL9 := Lib.hid hL9
        have HB9 := Lib.hid hB9
        have HT9 := Lib.hid (HF.out.step hB9).tk
        obtain ⟨r0, r1, r2, r3, f0, f1, f2, f3⟩ := HT9.out
        simp only [zTk] at r0 r1 r2 r3
        clear hL9 hB9
        go_wp2_with fail
        refine bodyPost_ret (res_tok' rfl _ _ w.heap.size zTk (by rfl) (HT9.out.put zTk)) rfl ?_
        rw [HQ.out]
        exact HF.out.fail HL9.out HB9.out
      · have d3 : (B == 127) = false := beq_eq_false_iff_ne.2 b2
        have hno : ¬ ((Utf8.decode s (f + 1)).1 < 32 ∨ (Utf8.decode s (f + 1)).1 = 127) := by
          have g0 := HG0.out
          by_cases hw : (s.get! (f + 1)).toNat < 128
          · rw [dec_asc hw]; simp only; omega
          · have := dec_wide (s := s) (i := f + 1) (by omega); omega
        by_cases b3 : B = 92
        · have d4 : (B == 92) = true := beq_iff_eq.2 b3
          have HR2 : Hid (R = placed f (escTok s f)) := Lib.hid (by
            have g0 := HG0.out
            rw [HR.out]; unfold charTok; rw [if_neg HNL.out, if_neg hno, if_pos (by rw [dec_asc (by omega)]; simp only; omega)])
          have HX := Lib.hid (ref10_escape (s.extract (f + 2) s.size) (by simp; omega))
          have hxe : bs (s.extract (f + 2) s.size) = (bs s).drop (f + 2) := bs_extract s (f + 2)
          rw [hxe] at HX
          have hle : (escC ((bs s).drop (f + 2))).2 ≤ s.size - (f + 2) := by have := escC_le ((bs s).drop (f + 2)); rw [List.length_drop, bs_len] at this; exact this
          obtain ⟨E, hE⟩ : ∃ E, E = escC ((bs s).drop (f + 2)) := ⟨_, rfl⟩
          have hR2 := HR2.out
          unfold escTok at hR2
          rw [← hE] at HX hR2 hle
          have HR3 := Lib.hid hR2
          have e0 : (f : Int) + 2 ≤ (s.size : Int) := by omega
          clear hE hxe hR2 hno b3 hlt
          by_cases c8 : E.2 = 0
          · have cb8 : ((E.2 : Int) == 0) = true := by simp [c8]
            have HQ : Hid (R = noTok [⟨nLex, f, 202⟩]) := Lib.hid (by rw [HR3.out, if_pos c8]; rfl)
            clear c8
            go_enter Tryz.func67, Tryz.ntmps67
            go_wp2_with fail
            refine (HX.out _).mono ?_
            rintro e w3 ⟨rfl, hD⟩
            replace HF := Lib.hid (HF.out.drew0 hD)
            clear hD
            go_wp2_with fail
            refine (ref10_no _ _ _).mono ?_
            rintro e w9 ⟨v9, rfl, hL9, hB9⟩
            have HL9 := Lib.hid hL9
            have HB9 := Lib.hid hB9
            have HT9 := Lib.hid (HF.out.step hB9).tk
            obtain ⟨r0, r1, r2, r3, f0, f1, f2, f3⟩ := HT9.out
            simp only [zTk] at r0 r1 r2 r3
            clear hL9 hB9
            go_wp2_with fail
            refine bodyPost_ret (res_tok' rfl _ _ w.heap.size zTk (by rfl) (HT9.out.put zTk)) rfl ?_
            rw [HQ.out]
            exact HF.out.fail HL9.out HB9.out
          · have cb8 : ((E.2 : Int) == 0) = false := by simp; omega
            have HQ : Hid (R = (⟨3, ⟨#[]⟩, E.1, f⟩, f + 2 + E.2, [])) := Lib.hid (by rw [HR3.out, if_neg c8]; rfl)
            have e5 : IntKind.i64.wrap ((f : Int) + 2 + (E.2 : Int)) = (f : Int) + 2 + (E.2 : Int) := wrap_small _ (by omega) (by omega)
            clear c8
            go_enter Tryz.func67, Tryz.ntmps67
            go_wp2_with fail
            refine (HX.out _).mono ?_
            rintro e w3 ⟨rfl, hD⟩
            replace HF := Lib.hid (HF.out.drew0 hD)
            replace HT := Lib.hid (HT.out.below hD.below (by rw [HZ2.out]; omega))
            clear hD
            obtain ⟨t0, t1, t2, t3, h0, h1, h2, h3⟩ := HT.out
            obtain ⟨r0, r1, r2, r3, f0, f1, f2, f3⟩ := HF.out.tk
            simp only [zTk] at r0 r1 r2 r3 t0 t1 t2 t3
            go_wp2_with fail
            have HF3 := Lib.hid (HF.out.set (b := w.heap.size + 1) (o := 2) (v := .int .i64 E.1) (by omega) (by omega))
            refine bodyPost_ret (res_tok' rfl _ _ w.heap.size ⟨3, ⟨#[]⟩, E.1, f⟩ (by rfl) (HF3.out.tk.put ⟨3, ⟨#[]⟩, E.1, f⟩)) rfl ?_
            rw [HQ.out]
            exact HF3.out.done ⟨3, ⟨#[]⟩, E.1, f⟩ (f + 2 + E.2)
        · have d4 : (B == 92) = false := beq_eq_false_iff_ne.2 b3
          have hD92 : ¬ (Utf8.decode s (f + 1)).1 = 92 := by
            have g0 := HG0.out
            by_cases hw : (s.get! (f + 1)).toNat < 128
            · rw [dec_asc hw]; simp only; omega
            · have := dec_wide (s := s) (i := f + 1) (by omega); omega
          have hR2 := HR.out
          unfold charTok at hR2
          rw [if_neg HNL.out, if_neg hno, if_neg hD92] at hR2
          have HHit := Lib.hid (@utf_hit s (f + 1) hlt)
          have HMiss := Lib.hid (fun n => @utf_miss s (f + 1) n)
          have HPt := Lib.hid (@ref10_point s (f + 1) hlt)
          have HIn := Lib.hid (dec_in s (f + 1) hlt)
          have HD4 := Lib.hid (dec_le s (f + 1))
          have HW0 := Lib.hid (Lib.width_pos s (f + 1))
          obtain ⟨D, hD⟩ : ∃ D, D = Utf8.decode s (f + 1) := ⟨_, rfl⟩
          rw [← hD] at hR2 HHit HMiss HPt HIn HD4 HW0
          have HR2 := Lib.hid hR2
          clear hD hR2 hD92 hno b3 b2
          go_enter Tryz.func67, Tryz.ntmps67
          go_wp2_with fail
          go_loopg [10] 4 (fun gk vi wl => ∃ n : Nat, vi = .int .i64 (n : Int) ∧ gk = 5 - n ∧ 1 ≤ n ∧ n ≤ 5 ∧ Hid (D = (65533, 1) ∨ n ≤ D.2) ∧ Hid (Drawn0 W2 wl))
          case atStart => exact ⟨1, rfl, rfl, by decide, by decide, .inr HW0.out, Drawn0.refl _⟩
          case round =>
            obtain ⟨n, rfl, hgk, hn1, hn5, HN, HD⟩ := hrel
            have HK := Lib.hid hgk
            clear hgk
            replace HF := Lib.hid (HF.out.drew0 HD.out)
            replace HT := Lib.hid (HT.out.below HD.out.below (by rw [HZ2.out]; omega))
            by_cases hn : n ≤ 4
            · have c1 : decide ((n : Int) ≤ 4) = true := decide_eq_true (by omega)
              have c1b : (n : Int) ≤ 4 := by omega
              have e5 : IntKind.i64.wrap ((f : Int) + 1 + (n : Int)) = (f : Int) + 1 + (n : Int) := wrap_small _ (by omega) (by omega)
              by_cases hin : f + 1 + n ≤ s.size
              · have c2 : decide ((f : Int) + 1 + (n : Int) ≤ (s.size : Int)) = true := decide_eq_true (by omega)
                have c2b : (f : Int) + 1 + (n : Int) ≤ (s.size : Int) := by omega
                have HU := Lib.hid (UTF_any (s.extract (f + 1) (f + 1 + n)) (by simp; omega))
                by_cases hit : D ≠ (65533, 1) ∧ n = D.2
                · have hu := HHit.out hit.1
                  have hp := HPt.out hit.1
                  rw [← hit.2] at hu hp
                  rw [hu] at HU
                  have HP := Lib.hid hp
                  have HQ : Hid (R = (⟨3, ⟨#[]⟩, (D.1 : Int), f⟩, f + 1 + n, [])) := Lib.hid (by rw [HR2.out, if_neg hit.1, ← hit.2]; rfl)
                  clear hit hu hp
                  go_wp2_with fail
                  refine (HU.out _).mono ?_
                  rintro e w4 ⟨rfl, hd4⟩
                  replace HF := Lib.hid (HF.out.drew0 hd4)
                  replace HT := Lib.hid (HT.out.below hd4.below (by have := HD.out.below.size; rw [HZ2.out] at this; omega))
                  replace HD := Lib.hid (Drawn0.mk (by obtain ⟨a, ha⟩ := HD.out; obtain ⟨b, hb⟩ := hd4; exact ⟨a + b, by rw [hb, ha, World.drewN_drewN]⟩) : Drawn0 W2 w4)
                  clear hd4
                  go_wp2_with fail
                  refine (HP.out _).mono ?_
                  rintro e w5 ⟨rfl, hd5⟩
                  replace HF := Lib.hid (HF.out.drew0 hd5)
                  replace HT := Lib.hid (HT.out.below hd5.below (by have := HD.out.below.size; rw [HZ2.out] at this; omega))
                  clear hd5
                  obtain ⟨t0, t1, t2, t3, h0, h1, h2, h3⟩ := HT.out
                  obtain ⟨r0, r1, r2, r3, f0, f1, f2, f3⟩ := HF.out.tk
                  simp only [zTk] at r0 r1 r2 r3 t0 t1 t2 t3
                  go_wp2_with fail
                  have HF3 := Lib.hid (HF.out.set (b := w.heap.size + 1) (o := 2) (v := .int .i64 (D.1 : Int)) (by omega) (by omega))
                  refine bodyPost_ret (res_tok' rfl _ _ w.heap.size ⟨3, ⟨#[]⟩, (D.1 : Int), f⟩ (by rfl) (HF3.out.tk.put ⟨3, ⟨#[]⟩, (D.1 : Int), f⟩)) rfl ?_
                  rw [HQ.out]
                  exact HF3.out.done ⟨3, ⟨#[]⟩, (D.1 : Int), f⟩ (f + 1 + n)
                · have hms : D = (65533, 1) ∨ n < D.2 := by
                    rcases HN.out with h | h
                    · exact .inl h
                    · by_cases h9 : D = (65533, 1)
                      · exact .inl h9
                      · have : n ≠ D.2 := fun h8 => hit ⟨h9, h8⟩
                        exact .inr (by omega)
                  have hu := HMiss.out _ hn1 hin hms
                  rw [hu] at HU
                  have HN2 : Hid (D = (65533, 1) ∨ n + 1 ≤ D.2) := Lib.hid (by rcases hms with h | h; exact .inl h; exact .inr (by omega))
                  clear hit hms hu
                  go_wp2_with fail
                  refine (HU.out _).mono ?_
                  rintro e w4 ⟨rfl, hd4⟩
                  replace HD := Lib.hid (Drawn0.mk (by obtain ⟨a, ha⟩ := HD.out; obtain ⟨b, hb⟩ := hd4; exact ⟨a + b, by rw [hb, ha, World.drewN_drewN]⟩) : Drawn0 W2 w4)
                  clear hd4
                  go_wp2_with fail
                  go_roundg (5 - (n + 1))
                  case measure => rw [HK.out]; omega
                  case rel => exact ⟨n + 1, by go_num, rfl, by omega, by omega, HN2, HD⟩
              · have c2 : decide ((f : Int) + 1 + (n : Int) ≤ (s.size : Int)) = false := decide_eq_false (by omega)
                have HQ : Hid (R = noTok [⟨nLex, f, 202⟩]) := Lib.hid (by
                  rw [HR2.out, if_pos (by
                    rcases HN.out with h | h
                    · exact h
                    · exfalso; have := HIn.out; omega)]
                  rfl)
                clear hin
                go_wp2_with fail
                refine (ref10_no _ _ _).mono ?_
                rintro e w9 ⟨v9, rfl, hL9, hB9⟩
                have HL9 := Lib.hid hL9
                have HB9 := Lib.hid hB9
                have HT9 := Lib.hid (HF.out.step hB9).tk
                obtain ⟨r0, r1, r2, r3, f0, f1, f2, f3⟩ := HT9.out
                simp only [zTk] at r0 r1 r2 r3
                clear hL9 hB9
                go_wp2_with fail
                refine bodyPost_ret (res_tok' rfl _ _ w.heap.size zTk (by rfl) (HT9.out.put zTk)) rfl ?_
                rw [HQ.out]
                exact HF.out.fail HL9.out HB9.out
            · have c1 : decide ((n : Int) ≤ 4) = false := decide_eq_false (by omega)
              have HQ : Hid (R = noTok [⟨nLex, f, 202⟩]) := Lib.hid (by
                rw [HR2.out, if_pos (by
                  rcases HN.out with h | h
                  · exact h
                  · exfalso; have := HD4.out; omega)]
                rfl)
              clear hn
              go_wp2_with fail
              refine (ref10_no _ _ _).mono ?_
              rintro e w9 ⟨v9, rfl, hL9, hB9⟩
              have HL9 := Lib.hid hL9
              have HB9 := Lib.hid hB9
              have HT9 := Lib.hid (HF.out.step hB9).tk
              obtain ⟨r0, r1, r2, r3, f0, f1, f2, f3⟩ := HT9.out
              simp only [zTk] at r0 r1 r2 r3
              clear hL9 hB9
              go_wp2_with fail
              refine bodyPost_ret (res_tok' rfl _ _ w.heap.size zTk (by rfl) (HT9.out.put zTk)) rfl ?_
              rw [HQ.out]
              exact HF.out.fail HL9.out HB9.out
  · have hd1 : decide ((f : Int) + 1 ≥ (s.size : Int)) = true := decide_eq_true (by omega)
    have HQ : Hid (R = noTok [⟨nLex, f, 202⟩]) := Lib.hid (by rw [HR.out]; unfold charTok; rw [if_pos (by omega)]; rfl)
    go_enter Tryz.func67, Tryz.ntmps67
    go_wp2_with fail
    go_wp2_with fail
    refine (ref10_no _ _ _).mono ?_
    rintro e w9 ⟨v9, rfl, hL9, hB9⟩
    have HL9 := Lib.hid hL9
    have HB9 := Lib.hid hB9
    have HT9 := Lib.hid (HF.out.step hB9).tk
    obtain ⟨r0, r1, r2, r3, f0, f1, f2, f3⟩ := HT9.out
    simp only [zTk] at r0 r1 r2 r3
    clear hL9 hB9
    go_wp2_with fail
    refine bodyPost_ret (res_tok' rfl _ _ w.heap.size zTk (by rfl) (HT9.out.put zTk)) rfl ?_
    rw [HQ.out]
    exact HF.out.fail HL9.out HB9.out
end Go.Proofs.YtpjmjogkkgbblaaGreatDoor
namespace Go.Proofs.YtpjmjogkkgbblaaGreatDoor
open Go.RowKit Go.Proofs.YtpjmjogkkgbblaaGreatDoorW.PrintWords Go.Proofs.YtpjmjogkkgbblaaGreatDoor.PSm

set_option maxRecDepth 100000 in
set_option maxHeartbeats 2000000 in
theorem ref10_word (s : ByteArray) (f : Nat) (hf : f ≤ s.size) (hm : s.size ≤ 140737488351232) (w : World) :
    Calls Tryz.prog 42 #[.string s, .int .i64 (f : Int)] w fun e w' => e = .returned (.int .i64 (runEnd isIn s f : Nat)) ∧ w = w' := by
  obtain ⟨E, hE⟩ : ∃ E, E = runEnd isIn s f := ⟨_, rfl⟩
  rw [← hE]
  have HE0 := Lib.hid hE.symm
  clear hE
  go_enter Tryz.func42, Tryz.ntmps42
  go_wp2_with fail
  go_loopg [1] (s.size - f) (fun gk vi wl => ∃ k : Nat, vi = .int .i64 (k : Int) ∧ gk = s.size - k ∧ f ≤ k ∧ k ≤ s.size ∧ Hid (runEnd isIn s k = E) ∧ wl = w)
  case atStart => exact ⟨f, rfl, rfl, Nat.le_refl _, hf, HE0.out, rfl⟩
  case round =>
    obtain ⟨k, rfl, hgk, hfk, hk, HE, rfl⟩ := hrel
    have HK := Lib.hid hgk
    clear hgk
    by_cases hlt : k < s.size
    · have hb := btk s k
      have e0 : (0 : Int) ≤ (k : Int) := by omega
      have e1 : (k : Int) < (s.size : Int) := by omega
      cases hd : isIn (bt s (k : Int)) with
      | true =>
        have HN := Lib.hid ((runEnd_yes hlt hd).trans HE.out)
        go_wp2_with fail
        refine (ref01_InWord _ _).mono ?_
        rintro e w' ⟨rfl, rfl⟩
        go_wp2_with fail
        go_roundg (s.size - (k + 1))
        case measure => rw [HK.out]; omega
        case rel => exact ⟨k + 1, by go_num, rfl, by omega, by omega, HN, rfl⟩
      | false =>
        have HN : Hid (k = E) := Lib.hid ((runEnd_no hlt hd).symm.trans HE.out)
        go_wp2_with fail
        refine (ref01_InWord _ _).mono ?_
        rintro e w' ⟨rfl, rfl⟩
        go_wp2_with fail
        go_ret
        exact ⟨by rw [HN.out]; rfl, rfl⟩
    · have HN : Hid (k = E) := Lib.hid ((runEnd_out (p := isIn) (show s.size ≤ k by omega)).symm.trans HE.out)
      have d0 : decide ((k : Int) < (s.size : Int)) = false := decide_eq_false (by omega)
      go_wp2_with fail
      go_ret
      exact ⟨by rw [HN.out]; rfl, rfl⟩

theorem blank_f (c : Int) : heddleref10_blank.f c = some (isBlank c) := by
  unfold heddleref10_blank.f isBlank
  by_cases h1 : c = 9
  · simp [h1]
  · by_cases h2 : c = 10
    · simp [h2]
    · by_cases h3 : c = 13 <;> simp [h1, h2, h3]
theorem runEnd_ten {s : ByteArray} {k : Nat} (h : k < s.size) (hc : bt s (k : Int) = 10) : runEnd (· != 10) s k = k := runEnd_no h (by simp [hc])
theorem runEnd_nine {s : ByteArray} {k : Nat} (h : k < s.size) (hc : bt s (k : Int) ≠ 10) : runEnd (· != 10) s (k + 1) = runEnd (· != 10) s k := runEnd_yes h (by simp [hc])
theorem skip_ls (s : ByteArray) (hm : s.size ≤ 140737488351232) : ∀ (d k : Nat), k ≤ s.size → s.size - k = d →
    (∀ n, 4 * d + 5 ≤ n → heddleref10_skip.l0 n s (k : Int) = some ((skipEnd s k : Nat) : Int)) ∧ (∀ n, 4 * d + 6 ≤ n → heddleref10_skip.l1 n s (k : Int) = some ((skipEnd s (runEnd (· != 10) s k) : Nat) : Int)) := by
  intro d
  induction d using Nat.strongRecOn with
  | _ d ih =>
    intro k hk hd
    have h0 : ∀ n, 4 * d + 5 ≤ n → heddleref10_skip.l0 n s (k : Int) = some ((skipEnd s k : Nat) : Int) := by
      intro n hn
      obtain ⟨n, rfl⟩ : ∃ m, n = m + 2 := ⟨n - 2, by omega⟩
      simp only [heddleref10_skip.l0]
      by_cases hlt : k < s.size
      · rw [if_pos (by omega), if_pos (by omega), blank_f]
        simp only [Option.bind_some]
        cases hb : isBlank (bt s (k : Int)) with
        | true =>
          rw [if_pos rfl]
          simp only [heddleref10_skip.j1]
          have hne : ¬ bt s (k : Int) = 37 := fun h => by rw [h] at hb; cases hb
          rw [if_pos trivial, if_pos (by omega), if_pos (by omega), if_neg hne, w64 (x := (k : Int) + 1) (by omega) (by omega)]
          have := (ih (s.size - (k + 1)) (by omega) (k + 1) (by omega) rfl).1 n (by omega)
          rw [skipEnd_blank hlt hb] at this
          exact this
        | false =>
          rw [if_neg (by simp)]
          simp only [heddleref10_skip.j1]
          by_cases h37 : bt s (k : Int) = 37
          · rw [if_pos (by simp [h37]), if_pos (by omega), if_pos (by omega), if_pos h37]
            obtain ⟨n, rfl⟩ : ∃ m, n = m + 1 := ⟨n - 1, by omega⟩
            simp only [heddleref10_skip.l1]
            rw [if_pos (by omega), if_pos (by omega), if_neg (by omega), w64 (x := (k : Int) + 1) (by omega) (by omega)]
            have := (ih (s.size - (k + 1)) (by omega) (k + 1) (by omega) rfl).2 n (by omega)
            rw [runEnd_nine hlt (by omega), skipEnd_rem hlt h37] at this
            exact this
          · rw [if_neg (by simp [h37]), skipEnd_stop hlt hb h37]
      · rw [if_neg (by omega)]
        simp only [heddleref10_skip.j1]
        rw [if_neg (by simp), skipEnd_out (by omega)]
    refine ⟨h0, ?_⟩
    intro n hn
    obtain ⟨n, rfl⟩ : ∃ m, n = m + 1 := ⟨n - 1, by omega⟩
    simp only [heddleref10_skip.l1]
    by_cases hlt : k < s.size
    · rw [if_pos (by omega), if_pos (by omega)]
      by_cases h10 : bt s (k : Int) = 10
      · rw [if_pos h10, runEnd_ten hlt h10]
        exact h0 n (by omega)
      · rw [if_neg h10, w64 (x := (k : Int) + 1) (by omega) (by omega)]
        have := (ih (s.size - (k + 1)) (by omega) (k + 1) (by omega) rfl).2 n (by omega)
        rw [runEnd_nine hlt h10] at this
        exact this
    · rw [if_neg (by omega), runEnd_out (by omega)]
      exact h0 n (by omega)
theorem ref10_skip (s : ByteArray) (k : Nat) (hk : k ≤ s.size) (hm : s.size ≤ 140737488351232) (w : World) :
    Calls Tryz.prog 28 #[.string s, .int .i64 (k : Int)] w fun e w' => e = .returned (.int .i64 (skipEnd s k : Nat)) ∧ Drawn0 w w' :=
  heddleref10_skip.calls _ s k _ w ((skip_ls s hm (s.size - k) k hk rfl).1 _ (Nat.le_refl _))
end Go.Proofs.YtpjmjogkkgbblaaGreatDoor
namespace Go.Proofs.YtpjmjogkkgbblaaGreatDoor
open Go.RowKit Go.Proofs.YtpjmjogkkgbblaaGreatDoorW.PrintWords

theorem pref_eq {s p : ByteArray} {k : Nat} (_h : k + p.size ≤ s.size) : Lib.hasPrefix (s.extract k s.size).data.toList p.data.toList = ((s.extract k (k + p.size)).toList == p.toList) := by
  unfold Lib.hasPrefix
  rw [Bool.eq_iff_iff, List.isPrefixOf_iff_prefix, beq_iff_eq, Lib.toList_data, Lib.toList_data, Lib.extract_data, Lib.extract_data]
  have e1 : (s.data.toList.drop k).take (s.size - k) = s.data.toList.drop k := List.take_of_length_le (by rw [List.length_drop, ← Lib.size_eq]; exact Nat.le_refl _)
  have e2 : k + p.size - k = p.data.toList.length := by rw [← Lib.size_eq]; omega
  rw [e1, e2, List.prefix_iff_eq_take]
  exact eq_comm
theorem pref_no {s p : ByteArray} {k : Nat} (hk : k ≤ s.size) (h : ¬ k + p.size ≤ s.size) : Lib.hasPrefix (s.extract k s.size).data.toList p.data.toList = false := by
  unfold Lib.hasPrefix
  rw [Bool.eq_false_iff]
  intro hp
  rw [List.isPrefixOf_iff_prefix] at hp
  have h1 := hp.length_le
  rw [← Lib.size_eq, ← Lib.size_eq] at h1
  simp at h1
  omega
theorem LnIs.head {W : World} {base : Nat} {x : Lk} {r : List Lk} {v : Value} (h : LnIs W base (x :: r) v) :
    ∃ g c : Nat, v = .slice (some ⟨g, 0, none⟩) (r.length + 1) c ∧ W.cell? ⟨g, 0, none⟩ = some (.string x.ly) ∧ W.cell? ⟨g, 1, none⟩ = some (.int .i64 x.pl) ∧ W.cell? ⟨g, 2, none⟩ = some (.int .i64 x.co) ∧ base ≤ g ∧ g < W.heap.size ∧ kLk.C W (some ⟨g, 0, none⟩) (r.length + 1) (x :: r) := by
  obtain ⟨A, c, rfl, _, hC⟩ := h.reads
  obtain ⟨inner, ho⟩ := Kd.R_own h.1
  obtain ⟨g, cap, hv, hg1, hg2⟩ := ho.form (by simp)
  obtain ⟨ad, rfl, h0, h1, h2⟩ := atLk hC 0 (by decide) (by simp)
  injection hv with hA _ _
  injection hA with hA
  subst hA
  exact ⟨g, c, rfl, h0, h1, h2, hg1, hg2, hC⟩
theorem res_small {T : ByteArray} (h : isRes T = true) : isSmall (bt T 0) = true := by
  obtain ⟨r, hr, rfl⟩ := isRes_yes h
  have key : ∀ r ∈ resList, isSmall (bt ⟨r.toArray⟩ 0) = true := by decide
  exact key r hr
theorem qLoop_len (s : ByteArray) (f i : Nat) (acc : List Int) : (qLoop s f i acc).2.2.length ≤ 1 := by
  rw [qLoop]
  split
  · repeat' split
    all_goals first | exact qLoop_len _ _ _ _ | simp [noGot]
  · simp [noGot]
  termination_by s.size - i
  decreasing_by all_goals omega
theorem aScan_len (s : ByteArray) (f : Nat) : (aScan s f).2.2.length ≤ 1 := by
  unfold aScan
  repeat' split
  all_goals first | exact qLoop_len _ _ _ _ | simp [noGot]
theorem upper_word {s : ByteArray} {k : Nat} (hk : k < s.size) (hs : isSmall (bt s (k : Int)) = false) : isRes (s.extract k (runEnd isIn s k)) = false := by
  rw [Bool.eq_false_iff]
  intro hr
  have h1 := res_small hr
  by_cases h : k < runEnd isIn s k
  · rw [ext_first h (runEnd_le isIn s k (by omega)) rfl, hs] at h1
    cases h1
  · have h5 : (s.extract k (runEnd isIn s k)).size = 0 := by simp; omega
    have := bt_out (s := s.extract k (runEnd isIn s k)) (k := 0) (by omega)
    simp only [Int.natCast_zero] at this
    rw [this] at h1
    cases h1

theorem RefFrame.pass {w W W' : World} {rb : Nat} (h : RefFrame w W rb) (r : Tok) {v : Value} (hL : LnIs W' W.heap.size r.2.2 v) (hB : Below W.heap.size W W') :
    TokR w r (.returned (.tuple #[tkV r.1, .int .i64 (r.2.1 : Int), v])) ((((W'.setCell ⟨rb, 0, none⟩ (.int .i64 r.1.kd)).setCell ⟨rb, 1, none⟩ (.string r.1.tx)).setCell ⟨rb, 2, none⟩ (.int .i64 r.1.nm)).setCell ⟨rb, 3, none⟩ (.int .i64 r.1.at_)) :=
  ⟨v, rfl, (hL.put h.l2 _ _ _ _).lower h.bl.size, (trans_below h.bl hB).trans (put_below h.ge _ _ _ _)⟩
theorem sign_dot {s : ByteArray} {k : Nat} (hk : k < s.size) (h : bt s (k : Int) = 46) : signTok s k = noTok [⟨nLex, k, 200⟩] := by
  unfold signTok
  have key : ∀ p ∈ signList, p.data.toList.head? ≠ some 46 ∧ p.data.toList ≠ [] := by decide
  have hf : signList.find? (fun p => Lib.hasPrefix (s.extract k s.size).data.toList p.data.toList) = none := by
    rw [List.find?_eq_none]
    intro p hp
    obtain ⟨h1, h2⟩ := key p hp
    have e : (s.extract k s.size).data.toList = s[k] :: s.data.toList.drop (k + 1) := by
      rw [Lib.extract_data, List.take_of_length_le (by rw [List.length_drop, ← Lib.size_eq]; exact Nat.le_refl _)]
      rw [List.drop_eq_getElem_cons (by rw [← Lib.size_eq]; exact hk)]
      rfl
    have hb := btk s k hk
    rw [h] at hb
    have hb2 : s[k] = 46 := UInt8.toNat_inj.1 (by simp; omega)
    rw [e, hb2]
    unfold Lib.hasPrefix
    match hl : p.data.toList with
    | [] => exact absurd hl h2
    | b :: bs =>
      rw [hl] at h1
      simp only [List.isPrefixOf]
      intro hc
      simp only [Bool.and_eq_true, beq_iff_eq] at hc
      exact h1 (by rw [hc.1]; rfl)
  rw [hf]

set_option maxRecDepth 100000 in
set_option maxHeartbeats 8000000 in
theorem ref10_token (s : ByteArray) (k : Nat) (hk : k < s.size) (hm : s.size ≤ 140737488351232) (w : World) :
    Calls Tryz.prog 29 #[.string s, .int .i64 (k : Int)] w (TokR w (placed k (tokenAt s k))) := by
  have hfr := RefFrame.start w
  obtain ⟨W1, hW1⟩ : ∃ W, W = w.alloc (.cells #[.int .i64 0, .string ⟨#[]⟩, .int .i64 0, .int .i64 0] 36) := ⟨_, rfl⟩
  rw [← hW1] at hfr
  have HF := Lib.hid hfr
  have hW := hW1.symm
  clear hW1 hfr
  obtain ⟨R, hR⟩ : ∃ R, R = placed k (tokenAt s k) := ⟨_, rfl⟩
  rw [← hR]
  unfold tokenAt at hR
  have hb := btk s k
  have e0 : (0 : Int) ≤ (k : Int) := by omega
  have e1 : (k : Int) < (s.size : Int) := by omega
  have hge := runEnd_ge isIn s k
  have hle := runEnd_le isIn s k (by omega)
  have HUW := Lib.hid (@upper_word s k hk)
  have HWD := Lib.hid (ref10_word s k (by omega) hm)
  have hwt := wordTok.eq_1 s k
  obtain ⟨c, hc⟩ : ∃ c, c = bt s (k : Int) := ⟨_, rfl⟩
  have HC := Lib.hid hc
  obtain ⟨E, hE⟩ : ∃ E, E = runEnd isIn s k := ⟨_, rfl⟩
  rw [← hc, ← hE] at hwt
  rw [← hc] at hR hb
  rw [← hE] at hge hle HWD
  rw [← hc, ← hE] at HUW
  clear hc hE
  have HWT := Lib.hid hwt
  have HR := Lib.hid hR
  have e2 : (k : Int) ≤ (E : Int) := by omega
  have e3 : (E : Int) ≤ (s.size : Int) := by omega
  clear hR hwt
  obtain ⟨T, hT⟩ : ∃ T, T = s.extract k E := ⟨_, rfl⟩
  rw [← hT] at HWT HUW
  have hTx := hT.symm
  clear hT

  cases hsm : isSmall c with
  | true =>
    cases hres : isRes T with
    | true =>
      have HQ : Hid (R = (⟨4, T, 0, k⟩, E, [])) := Lib.hid (by rw [HR.out, hsm, HWT.out, hres]; rfl)
      go_enter Tryz.func29, Tryz.ntmps29
      go_wp2_with fail
      refine (HWD.out _).mono ?_
      rintro e w' ⟨rfl, rfl⟩
      go_wp2_with fail
      refine (ref01_Small _ _).mono ?_
      rintro e w' ⟨rfl, rfl⟩
      go_wp2_with fail
      refine (ref01_Reserved _ _).mono ?_
      rw [hres]
      rintro e w5 ⟨rfl, hB5⟩
      replace HF := Lib.hid (HF.out.step hB5)
      clear hB5
      obtain ⟨r0, r1, r2, r3, f0, f1, f2, f3⟩ := HF.out.tk
      simp only [zTk] at r0 r1 r2 r3
      go_wp2_with fail
      refine bodyPost_ret (res_tok' rfl _ _ w.heap.size ⟨4, T, 0, k⟩ (by rfl) (HF.out.tk.put ⟨4, T, 0, k⟩)) rfl ?_
      rw [HQ.out]
      exact HF.out.done ⟨4, T, 0, k⟩ E
    | false =>
      have HQA : Hid (R = placed k (atomTok s k)) := Lib.hid (by rw [HR.out, hsm, HWT.out, hres]; simp only [hsm]; rfl)
      go_enter Tryz.func29, Tryz.ntmps29
      go_wp2_with fail
      refine (HWD.out _).mono ?_
      rintro e w' ⟨rfl, rfl⟩
      go_wp2_with fail
      refine (ref01_Small _ _).mono ?_
      rintro e w' ⟨rfl, rfl⟩
      go_wp2_with fail
      refine (ref01_Reserved _ _).mono ?_
      rw [hres]
      rintro e w5 ⟨rfl, hB5⟩
      replace HF := Lib.hid (HF.out.step hB5)
      clear hB5
      go_wp2_with fail
      refine (ref01_Small _ _).mono ?_
      rintro e w' ⟨rfl, rfl⟩
      go_wp2_with fail
      have hne := fun (w : World) (a : Option Addr) (n c : Nat) => run_neq_slice_nil_any (P := Tryz.prog) w 27 50 a n c 0 0 Tryz.underlying27
      have hlen := aScan_len s k
      refine (ref01_Scan s k (by omega) hm _).mono ?_
      rintro e w7 ⟨v, rfl, hL7, hB7⟩
      have HQ0 := HQA.out
      unfold atomTok at HQ0
      obtain ⟨⟨tx, nx, l⟩, hG⟩ : ∃ r, r = aScan s k := ⟨_, rfl⟩
      rw [← hG] at hL7 HQ0 hlen
      rw [← hG]
      simp only at HQ0 hL7 hlen
      clear hG
      have HB7 := Lib.hid hB7
      replace HF := Lib.hid (HF.out.step hB7)
      clear hB7
      obtain ⟨r0, r1, r2, r3, f0, f1, f2, f3⟩ := HF.out.tk
      simp only [zTk] at r0 r1 r2 r3
      cases l with
      | nil =>
        obtain rfl : v = .slice none 0 0 := hL7.2 rfl
        have HQ : Hid (R = (⟨1, tx, 0, k⟩, nx, [])) := Lib.hid HQ0
        clear hL7 HQ0
        go_wp2_with fail
        refine bodyPost_ret (res_tok' rfl _ _ w.heap.size ⟨1, tx, 0, k⟩ (by rfl) (HF.out.tk.put ⟨1, tx, 0, k⟩)) rfl ?_
        rw [HQ.out]
        exact HF.out.done ⟨1, tx, 0, k⟩ nx
      | cons x r =>
        obtain ⟨g, cc, rfl, _, _, hc2, _, _, hC⟩ := hL7.head
        have HQ : Hid (R = noTok (⟨nLex, k, x.co⟩ :: x :: r)) := Lib.hid HQ0
        have HC7 := Lib.hid hC
        have HL7 := Lib.hid hlen
        clear hL7 HQ0 hC hlen
        simp only [List.length_cons] at HL7
        go_wp2_with fail
        refine (mem_Over nLex k x.co (x :: r) (by rw [List.length_cons]; have := HL7.out; omega) (some ⟨g, 0, none⟩) cc _ HC7.out).mono ?_
        rintro e w8 ⟨v8, rfl, hL8, hB8⟩
        have HL8 := Lib.hid hL8
        have HB8 := Lib.hid hB8
        have HT8 := Lib.hid (HF.out.step hB8).tk
        clear hL8 hB8
        clear r0 r1 r2 r3 f0 f1 f2 f3
        obtain ⟨r0, r1, r2, r3, f0, f1, f2, f3⟩ := HT8.out
        simp only [zTk] at r0 r1 r2 r3
        go_wp2_with fail
        refine bodyPost_ret (res_tok' rfl _ _ w.heap.size zTk (by rfl) (HT8.out.put zTk)) rfl ?_
        rw [HQ.out]
        exact HF.out.fail HL8.out HB8.out
  | false =>
    by_cases h39 : c = 39
    · have d39 : (c == 39) = true := beq_iff_eq.2 h39
      have HQA : Hid (R = placed k (atomTok s k)) := Lib.hid (by rw [HR.out, hsm, if_neg (by rw [h39]; decide), if_pos h39])
      clear h39
      go_enter Tryz.func29, Tryz.ntmps29
      go_wp2_with fail
      refine (HWD.out _).mono ?_
      rintro e w' ⟨rfl, rfl⟩
      go_wp2_with fail
      refine (ref01_Small _ _).mono ?_
      rintro e w' ⟨rfl, rfl⟩
      go_wp2_with fail
      refine (ref01_Small _ _).mono ?_
      rintro e w' ⟨rfl, rfl⟩
      go_wp2_with fail
      have hne := fun (w : World) (a : Option Addr) (n c : Nat) => run_neq_slice_nil_any (P := Tryz.prog) w 27 50 a n c 0 0 Tryz.underlying27
      have hlen := aScan_len s k
      refine (ref01_Scan s k (by omega) hm _).mono ?_
      rintro e w7 ⟨v, rfl, hL7, hB7⟩
      have HQ0 := HQA.out
      unfold atomTok at HQ0
      obtain ⟨⟨tx, nx, l⟩, hG⟩ : ∃ r, r = aScan s k := ⟨_, rfl⟩
      rw [← hG] at hL7 HQ0 hlen
      rw [← hG]
      simp only at HQ0 hL7 hlen
      clear hG
      have HB7 := Lib.hid hB7
      replace HF := Lib.hid (HF.out.step hB7)
      clear hB7
      obtain ⟨r0, r1, r2, r3, f0, f1, f2, f3⟩ := HF.out.tk
      simp only [zTk] at r0 r1 r2 r3
      cases l with
      | nil =>
        obtain rfl : v = .slice none 0 0 := hL7.2 rfl
        have HQ : Hid (R = (⟨1, tx, 0, k⟩, nx, [])) := Lib.hid HQ0
        clear hL7 HQ0
        go_wp2_with fail
        refine bodyPost_ret (res_tok' rfl _ _ w.heap.size ⟨1, tx, 0, k⟩ (by rfl) (HF.out.tk.put ⟨1, tx, 0, k⟩)) rfl ?_
        rw [HQ.out]
        exact HF.out.done ⟨1, tx, 0, k⟩ nx
      | cons x r =>
        obtain ⟨g, cc, rfl, _, _, hc2, _, _, hC⟩ := hL7.head
        have HQ : Hid (R = noTok (⟨nLex, k, x.co⟩ :: x :: r)) := Lib.hid HQ0
        have HC7 := Lib.hid hC
        have HL7 := Lib.hid hlen
        clear hL7 HQ0 hC hlen
        simp only [List.length_cons] at HL7
        go_wp2_with fail
        refine (mem_Over nLex k x.co (x :: r) (by rw [List.length_cons]; have := HL7.out; omega) (some ⟨g, 0, none⟩) cc _ HC7.out).mono ?_
        rintro e w8 ⟨v8, rfl, hL8, hB8⟩
        have HL8 := Lib.hid hL8
        have HB8 := Lib.hid hB8
        have HT8 := Lib.hid (HF.out.step hB8).tk
        clear hL8 hB8
        clear r0 r1 r2 r3 f0 f1 f2 f3
        obtain ⟨r0, r1, r2, r3, f0, f1, f2, f3⟩ := HT8.out
        simp only [zTk] at r0 r1 r2 r3
        go_wp2_with fail
        refine bodyPost_ret (res_tok' rfl _ _ w.heap.size zTk (by rfl) (HT8.out.put zTk)) rfl ?_
        rw [HQ.out]
        exact HF.out.fail HL8.out HB8.out
    · have d39 : (c == 39) = false := beq_eq_false_iff_ne.2 h39
      have hup : (isSmall c || isCapital c || c == 95) = isUpper c := by rw [hsm]; rfl
      have hR2 := HR.out
      rw [hup] at hR2
      cases hu : isUpper c with
      | true =>
        have hR3 : R = placed k (if E - k > 255 then noTok [⟨nLex, k, 4⟩] else (⟨2, T, 0, 0⟩, E, [])) := by
          rw [hR2, hu, if_pos rfl, HWT.out, HUW.out hsm, hsm]
          rfl
        by_cases h255 : E - k > 255
        · have d255 : decide ((E : Int) - (k : Int) > 255) = true := decide_eq_true (by omega)
          have HQ : Hid (R = noTok [⟨nLex, k, 4⟩]) := Lib.hid (by rw [hR3, if_pos h255]; rfl)
          clear hR2 hR3 h39 hup h255
          go_enter Tryz.func29, Tryz.ntmps29
          go_wp2_with fail
          refine (HWD.out _).mono ?_
          rintro e w' ⟨rfl, rfl⟩
          go_wp2_with fail
          refine (ref01_Small _ _).mono ?_
          rintro e w' ⟨rfl, rfl⟩
          go_wp2_with fail
          refine (ref01_Small _ _).mono ?_
          rintro e w' ⟨rfl, rfl⟩
          go_wp2_with fail
          refine (ref10_upper _ _).mono ?_
          rintro e w' ⟨rfl, rfl⟩
          go_wp2_with fail
          refine (ref10_no _ _ _).mono ?_
          rintro e w9 ⟨v9, rfl, hL9, hB9⟩
          have HL9 := Lib.hid hL9
          have HB9 := Lib.hid hB9
          have HT9 := Lib.hid (HF.out.step hB9).tk
          obtain ⟨r0, r1, r2, r3, f0, f1, f2, f3⟩ := HT9.out
          simp only [zTk] at r0 r1 r2 r3
          clear hL9 hB9
          go_wp2_with fail
          refine bodyPost_ret (res_tok' rfl _ _ w.heap.size zTk (by rfl) (HT9.out.put zTk)) rfl ?_
          rw [HQ.out]
          exact HF.out.fail HL9.out HB9.out
        · have d255 : decide ((E : Int) - (k : Int) > 255) = false := decide_eq_false (by omega)
          have HQ : Hid (R = (⟨2, T, 0, k⟩, E, [])) := Lib.hid (by rw [hR3, if_neg h255]; rfl)
          clear hR2 hR3 h39 hup h255
          go_enter Tryz.func29, Tryz.ntmps29
          go_wp2_with fail
          refine (HWD.out _).mono ?_
          rintro e w' ⟨rfl, rfl⟩
          go_wp2_with fail
          refine (ref01_Small _ _).mono ?_
          rintro e w' ⟨rfl, rfl⟩
          go_wp2_with fail
          refine (ref01_Small _ _).mono ?_
          rintro e w' ⟨rfl, rfl⟩
          go_wp2_with fail
          refine (ref10_upper _ _).mono ?_
          rintro e w' ⟨rfl, rfl⟩
          obtain ⟨r0, r1, r2, r3, f0, f1, f2, f3⟩ := HF.out.tk
          simp only [zTk] at r0 r1 r2 r3
          go_wp2_with fail
          refine bodyPost_ret (res_tok' rfl _ _ w.heap.size ⟨2, T, 0, k⟩ (by rfl) (HF.out.tk.put ⟨2, T, 0, k⟩)) rfl ?_
          rw [HQ.out]
          exact HF.out.done ⟨2, T, 0, k⟩ E
      | false =>
        rw [hu, if_neg (by simp), if_neg h39] at hR2
        cases hdg : isDigit c with
        | true =>
          rw [hdg, if_pos rfl] at hR2
          have HQ := Lib.hid hR2
          clear hR2 h39 hup
          go_enter Tryz.func29, Tryz.ntmps29
          go_wp2_with fail
          refine (HWD.out _).mono ?_
          rintro e w' ⟨rfl, rfl⟩
          go_wp2_with fail
          refine (ref01_Small _ _).mono ?_
          rintro e w' ⟨rfl, rfl⟩
          go_wp2_with fail
          refine (ref01_Small _ _).mono ?_
          rintro e w' ⟨rfl, rfl⟩
          go_wp2_with fail
          refine (ref10_upper _ _).mono ?_
          rintro e w' ⟨rfl, rfl⟩
          go_wp2_with fail
          refine (ref10_digit _ _).mono ?_
          rintro e w' ⟨rfl, rfl⟩
          go_wp2_with fail
          refine (ref10_figure s k (by omega) hm _).mono ?_
          rintro e w7 ⟨v, rfl, hL7, hB7⟩
          rw [← HQ.out] at hL7
          rw [← HQ.out]
          obtain ⟨⟨⟨kd, tx, nm, at_⟩, n, l⟩, hRR⟩ : ∃ r, r = R := ⟨_, rfl⟩
          rw [← hRR] at hL7
          rw [← hRR]
          have HL7 := Lib.hid hL7
          have HB7 := Lib.hid hB7
          have HT8 := Lib.hid (HF.out.step hB7).tk
          have HRR := Lib.hid hRR
          clear hL7 hB7 hRR
          obtain ⟨r0, r1, r2, r3, f0, f1, f2, f3⟩ := HT8.out
          simp only [zTk] at r0 r1 r2 r3
          simp only [tkV]
          go_wp2_with fail
          refine bodyPost_ret (res_tok' rfl _ _ w.heap.size ⟨kd, tx, nm, at_⟩ (by rfl) (HT8.out.put ⟨kd, tx, nm, at_⟩)) rfl ?_
          rw [← HRR.out]
          exact HF.out.pass (⟨kd, tx, nm, at_⟩, n, l) HL7.out HB7.out
        | false =>
          rw [hdg, if_neg (by simp)] at hR2
          by_cases h36 : c = 36
          · have d36 : (c == 36) = true := beq_iff_eq.2 h36
            rw [if_pos h36] at hR2
            have HQ := Lib.hid hR2
            clear hR2 h39 hup h36
            go_enter Tryz.func29, Tryz.ntmps29
            go_wp2_with fail
            refine (HWD.out _).mono ?_
            rintro e w' ⟨rfl, rfl⟩
            go_wp2_with fail
            refine (ref01_Small _ _).mono ?_
            rintro e w' ⟨rfl, rfl⟩
            go_wp2_with fail
            refine (ref01_Small _ _).mono ?_
            rintro e w' ⟨rfl, rfl⟩
            go_wp2_with fail
            refine (ref10_upper _ _).mono ?_
            rintro e w' ⟨rfl, rfl⟩
            go_wp2_with fail
            refine (ref10_digit _ _).mono ?_
            rintro e w' ⟨rfl, rfl⟩
            go_wp2_with fail
            refine (ref10_char s k hk hm _).mono ?_
            rintro e w7 ⟨v, rfl, hL7, hB7⟩
            rw [← HQ.out] at hL7
            rw [← HQ.out]
            obtain ⟨⟨⟨kd, tx, nm, at_⟩, n, l⟩, hRR⟩ : ∃ r, r = R := ⟨_, rfl⟩
            rw [← hRR] at hL7
            rw [← hRR]
            have HL7 := Lib.hid hL7
            have HB7 := Lib.hid hB7
            have HT8 := Lib.hid (HF.out.step hB7).tk
            have HRR := Lib.hid hRR
            clear hL7 hB7 hRR
            obtain ⟨r0, r1, r2, r3, f0, f1, f2, f3⟩ := HT8.out
            simp only [zTk] at r0 r1 r2 r3
            simp only [tkV]
            go_wp2_with fail
            refine bodyPost_ret (res_tok' rfl _ _ w.heap.size ⟨kd, tx, nm, at_⟩ (by rfl) (HT8.out.put ⟨kd, tx, nm, at_⟩)) rfl ?_
            rw [← HRR.out]
            exact HF.out.pass (⟨kd, tx, nm, at_⟩, n, l) HL7.out HB7.out
          · have d36 : (c == 36) = false := beq_eq_false_iff_ne.2 h36
            rw [if_neg h36] at hR2
            have HR5 := Lib.hid hR2
            clear hR2 h39 hup h36
            have hq1 : IntKind.i64.wrap ((k : Int) + 1) = (k : Int) + 1 := wrap_small _ (by omega) (by omega)
            by_cases h46 : c = 46
            · have d46 : (c == 46) = true := beq_iff_eq.2 h46
              by_cases hend : k + 1 = s.size
              · have dend : decide ((k : Int) + 1 < (s.size : Int)) = false := decide_eq_false (by omega)
                have HQ : Hid (R = (⟨6, ⟨#[]⟩, 0, k⟩, k + 1, [])) := Lib.hid (by rw [HR5.out, if_pos ⟨h46, .inl hend⟩]; rfl)
                clear h46 hend
                go_enter Tryz.func29, Tryz.ntmps29
                go_wp2_with fail
                refine (HWD.out _).mono ?_
                rintro e w' ⟨rfl, rfl⟩
                go_wp2_with fail
                refine (ref01_Small _ _).mono ?_
                rintro e w' ⟨rfl, rfl⟩
                go_wp2_with fail
                refine (ref01_Small _ _).mono ?_
                rintro e w' ⟨rfl, rfl⟩
                go_wp2_with fail
                refine (ref10_upper _ _).mono ?_
                rintro e w' ⟨rfl, rfl⟩
                go_wp2_with fail
                refine (ref10_digit _ _).mono ?_
                rintro e w' ⟨rfl, rfl⟩
                obtain ⟨r0, r1, r2, r3, f0, f1, f2, f3⟩ := HF.out.tk
                simp only [zTk] at r0 r1 r2 r3
                go_wp2_with fail
                refine bodyPost_ret (res_tok' rfl _ _ w.heap.size ⟨6, ⟨#[]⟩, 0, k⟩ (by rfl) (HF.out.tk.put ⟨6, ⟨#[]⟩, 0, k⟩)) rfl ?_
                rw [HQ.out]
                exact HF.out.done ⟨6, ⟨#[]⟩, 0, k⟩ (k + 1)
              · have hlt2 : k + 1 < s.size := by omega
                have hb2 : ∀ h : k + 1 < s.size, ((s[k + 1]'h).toNat : Int) = bt s ((k + 1 : Nat) : Int) := btk s (k + 1)
                have e4 : (0 : Int) ≤ (k : Int) + 1 := by omega
                have e5 : (k : Int) + 1 < (s.size : Int) := by omega
                have HSD := Lib.hid (@sign_dot s k hk)
                obtain ⟨c2, hc2⟩ : ∃ c, c = bt s ((k + 1 : Nat) : Int) := ⟨_, rfl⟩
                rw [← hc2] at hb2
                have HC2 := Lib.hid hc2
                clear hc2
                cases hbl : isBlank c2 with
                | true =>
                  have HQ : Hid (R = (⟨6, ⟨#[]⟩, 0, k⟩, k + 1, [])) := Lib.hid (by rw [HR5.out, if_pos ⟨h46, .inr (.inl (by rw [← HC2.out]; exact hbl))⟩]; rfl)
                  clear h46 hend
                  go_enter Tryz.func29, Tryz.ntmps29
                  go_wp2_with fail
                  refine (HWD.out _).mono ?_
                  rintro e w' ⟨rfl, rfl⟩
                  go_wp2_with fail
                  refine (ref01_Small _ _).mono ?_
                  rintro e w' ⟨rfl, rfl⟩
                  go_wp2_with fail
                  refine (ref01_Small _ _).mono ?_
                  rintro e w' ⟨rfl, rfl⟩
                  go_wp2_with fail
                  refine (ref10_upper _ _).mono ?_
                  rintro e w' ⟨rfl, rfl⟩
                  go_wp2_with fail
                  refine (ref10_digit _ _).mono ?_
                  rintro e w' ⟨rfl, rfl⟩
                  go_wp2_with fail
                  refine (ref10_blank _ _).mono ?_
                  rintro e w' ⟨rfl, rfl⟩
                  obtain ⟨r0, r1, r2, r3, f0, f1, f2, f3⟩ := HF.out.tk
                  simp only [zTk] at r0 r1 r2 r3
                  go_wp2_with fail
                  refine bodyPost_ret (res_tok' rfl _ _ w.heap.size ⟨6, ⟨#[]⟩, 0, k⟩ (by rfl) (HF.out.tk.put ⟨6, ⟨#[]⟩, 0, k⟩)) rfl ?_
                  rw [HQ.out]
                  exact HF.out.done ⟨6, ⟨#[]⟩, 0, k⟩ (k + 1)
                | false =>
                  by_cases h37 : c2 = 37
                  · have d37 : (c2 != 37) = false := by simp [h37]
                    have HQ : Hid (R = (⟨6, ⟨#[]⟩, 0, k⟩, k + 1, [])) := Lib.hid (by rw [HR5.out, if_pos ⟨h46, .inr (.inr (by rw [← HC2.out]; exact h37))⟩]; rfl)
                    clear h46 hend h37
                    go_enter Tryz.func29, Tryz.ntmps29
                    go_wp2_with fail
                    refine (HWD.out _).mono ?_
                    rintro e w' ⟨rfl, rfl⟩
                    go_wp2_with fail
                    refine (ref01_Small _ _).mono ?_
                    rintro e w' ⟨rfl, rfl⟩
                    go_wp2_with fail
                    refine (ref01_Small _ _).mono ?_
                    rintro e w' ⟨rfl, rfl⟩
                    go_wp2_with fail
                    refine (ref10_upper _ _).mono ?_
                    rintro e w' ⟨rfl, rfl⟩
                    go_wp2_with fail
                    refine (ref10_digit _ _).mono ?_
                    rintro e w' ⟨rfl, rfl⟩
                    go_wp2_with fail
                    refine (ref10_blank _ _).mono ?_
                    rintro e w' ⟨rfl, rfl⟩
                    obtain ⟨r0, r1, r2, r3, f0, f1, f2, f3⟩ := HF.out.tk
                    simp only [zTk] at r0 r1 r2 r3
                    go_wp2_with fail
                    refine bodyPost_ret (res_tok' rfl _ _ w.heap.size ⟨6, ⟨#[]⟩, 0, k⟩ (by rfl) (HF.out.tk.put ⟨6, ⟨#[]⟩, 0, k⟩)) rfl ?_
                    rw [HQ.out]
                    exact HF.out.done ⟨6, ⟨#[]⟩, 0, k⟩ (k + 1)
                  · have d37 : (c2 != 37) = true := by simp [h37]
                    have HQ : Hid (R = noTok [⟨nLex, k, 200⟩]) := Lib.hid (by
                      rw [HR5.out, if_neg (by
                        rintro ⟨_, h | h | h⟩
                        · exact hend h
                        · rw [← HC2.out, hbl] at h; cases h
                        · rw [← HC2.out] at h; exact h37 h), HSD.out (by rw [← HC.out]; exact h46)]
                      rfl)
                    clear h46 hend h37
                    go_enter Tryz.func29, Tryz.ntmps29
                    go_wp2_with fail
                    refine (HWD.out _).mono ?_
                    rintro e w' ⟨rfl, rfl⟩
                    go_wp2_with fail
                    refine (ref01_Small _ _).mono ?_
                    rintro e w' ⟨rfl, rfl⟩
                    go_wp2_with fail
                    refine (ref01_Small _ _).mono ?_
                    rintro e w' ⟨rfl, rfl⟩
                    go_wp2_with fail
                    refine (ref10_upper _ _).mono ?_
                    rintro e w' ⟨rfl, rfl⟩
                    go_wp2_with fail
                    refine (ref10_digit _ _).mono ?_
                    rintro e w' ⟨rfl, rfl⟩
                    go_wp2_with fail
                    refine (ref10_blank _ _).mono ?_
                    rintro e w' ⟨rfl, rfl⟩
                    go_wp2_with fail
                    refine (ref10_no _ _ _).mono ?_
                    rintro e w9 ⟨v9, rfl, hL9, hB9⟩
                    have HL9 := Lib.hid hL9
                    have HB9 := Lib.hid hB9
                    have HT9 := Lib.hid (HF.out.step hB9).tk
                    obtain ⟨r0, r1, r2, r3, f0, f1, f2, f3⟩ := HT9.out
                    simp only [zTk] at r0 r1 r2 r3
                    clear hL9 hB9
                    go_wp2_with fail
                    refine bodyPost_ret (res_tok' rfl _ _ w.heap.size zTk (by rfl) (HT9.out.put zTk)) rfl ?_
                    rw [HQ.out]
                    exact HF.out.fail HL9.out HB9.out
            · have d46 : (c == 46) = false := beq_eq_false_iff_ne.2 h46
              have HR6 : Hid (R = placed k (signTok s k)) := Lib.hid (HR5.out.trans (by rw [if_neg (fun h => h46 h.1)]))
              clear h46
              go_enter Tryz.func29, Tryz.ntmps29
              go_wp2_with fail
              refine (HWD.out _).mono ?_
              rintro e w' ⟨rfl, rfl⟩
              go_wp2_with fail
              refine (ref01_Small _ _).mono ?_
              rintro e w' ⟨rfl, rfl⟩
              go_wp2_with fail
              refine (ref01_Small _ _).mono ?_
              rintro e w' ⟨rfl, rfl⟩
              go_wp2_with fail
              refine (ref10_upper _ _).mono ?_
              rintro e w' ⟨rfl, rfl⟩
              go_wp2_with fail
              refine (ref10_digit _ _).mono ?_
              rintro e w' ⟨rfl, rfl⟩
              go_wp2_with fail
              refine (ref10_signs _).mono ?_
              rintro e w5 ⟨rfl, hcell, hsb, hB5⟩
              have HCELL := Lib.hid hcell
              replace HF := Lib.hid (HF.out.step hB5)
              clear hcell hB5 hb
              obtain ⟨sb, hsbe⟩ : ∃ n, n = W1.heap.size := ⟨_, rfl⟩
              rw [← hsbe] at HCELL
              rw [← hsbe]
              have HNE : Hid (sb ≠ w.heap.size) := Lib.hid (by rw [hsbe, ← hW]; simp)
              clear hsb hsbe
              go_wp2_with fail
              go_loopg [13] 27 (fun gk vi wl => ∃ j m : Nat, vi = .int .i64 (j : Int) ∧ gk = 27 - j ∧ j ≤ 27 ∧ wl = w5.drewN m ∧ Hid ((signList.drop j).find? (fun p => Lib.hasPrefix (s.extract k s.size).data.toList p.data.toList) = signList.find? (fun p => Lib.hasPrefix (s.extract k s.size).data.toList p.data.toList)))
              case atStart => exact ⟨0, 0, rfl, rfl, by omega, rfl, rfl⟩
              case round =>
                obtain ⟨j, m, rfl, hgk, hj, rfl, HFD⟩ := hrel
                have HK := Lib.hid hgk
                clear hgk
                by_cases hlt : j < 27
                · have hcj := HCELL.out j hlt
                  have hq := HFD.out
                  rw [List.drop_eq_getElem_cons (show j < signList.length from hlt), List.find?_cons] at hq
                  have hpe : signList.getD j ByteArray.empty = signList[j]'(show j < signList.length from hlt) := by
                    rw [List.getD_eq_getElem?_getD, List.getElem?_eq_getElem (show j < signList.length from hlt)]
                    rfl
                  rw [hpe] at hcj
                  have hp3 : (signList[j]'(show j < signList.length from hlt)).size ≤ 3 := sign_size _ (List.getElem_mem _)
                  obtain ⟨P, hP⟩ : ∃ P, P = signList[j]'(show j < signList.length from hlt) := ⟨_, rfl⟩
                  rw [← hP] at hcj hq hp3
                  clear hP hpe
                  have HP3 := Lib.hid hp3
                  have j0 : (0 : Int) ≤ (j : Int) := by omega
                  have j1 : (j : Int) < 27 := by omega
                  have hps := sum2 hk hm HP3.out
                  have hps2 : wrap64 ((s.size : Int) - (k : Int)) = (s.size : Int) - (k : Int) := by unfold wrap64; omega
                  clear hp3
                  by_cases hroom : k + P.size ≤ s.size
                  · have droom : decide ((s.size : Int) - (k : Int) ≥ (P.size : Int)) = true := decide_eq_true (by omega)
                    have f1 : (k : Int) + (P.size : Int) ≤ (s.size : Int) := by omega
                    have hpe := pref_eq hroom
                    cases hh : Lib.hasPrefix (s.extract k s.size).data.toList P.data.toList with
                    | true =>
                      rw [hh] at hq hpe
                      simp only at hq
                      have dq := hpe.symm
                      have HQ : Hid (R = (⟨5, P, 0, k⟩, k + P.size, [])) := Lib.hid (by rw [HR6.out]; unfold signTok; rw [← hq]; rfl)
                      clear hq hpe hh
                      obtain ⟨r0, r1, r2, r3, f0, f1, f2, f3⟩ := HF.out.tk
                      simp only [zTk] at r0 r1 r2 r3
                      replace HF := Lib.hid (fun n => HF.out.step (below_drewN w5 n _))
                      have HSa : Hid (∀ n, (w5.drewN n).drew.cell? ⟨sb, j, none⟩ = some (.string P)) := Lib.hid fun _ => hcj
                      have HSb : Hid (∀ n, (w5.drewN n).cell? ⟨sb, j, none⟩ = some (.string P)) := Lib.hid fun _ => hcj
                      have HSc : Hid (∀ m n, ((w5.drewN m).drewN n).drew.cell? ⟨sb, j, none⟩ = some (.string P)) := Lib.hid fun _ _ => hcj
                      have HSd : Hid (∀ m n, ((w5.drewN m).drewN n).cell? ⟨sb, j, none⟩ = some (.string P)) := Lib.hid fun _ _ => hcj
                      go_wp2_with fail
                      go_quiet (fail)
                      go_wp2_with fail
                      go_region_held3 (fun w' => w'.cell? ⟨sb, j, none⟩ = some (.string P)) (first | with_reducible exact HSa.out _ | with_reducible exact HSb.out _ | with_reducible exact (put_far HNE.out _ _ _ _).trans (HSa.out _) | with_reducible exact (put_far HNE.out _ _ _ _).trans (HSb.out _) | with_reducible exact (put_far_drew HNE.out _ _ _ _).trans (HSa.out _) | with_reducible exact HSc.out _ _ | with_reducible exact HSd.out _ _ | with_reducible exact (put_far HNE.out _ _ _ _).trans (HSc.out _ _) | with_reducible exact (put_far HNE.out _ _ _ _).trans (HSd.out _ _) | with_reducible exact (put_far_drew HNE.out _ _ _ _).trans (HSc.out _ _) | with_reducible exact (put_far_drew HNE.out _ _ _ _).trans (HSd.out _ _)) (fail)
                      go_wp2_with fail
                      refine bodyPost_ret (res_tok' rfl _ _ w.heap.size ⟨5, P, 0, k⟩ (by rfl) ((HF.out _).tk.put ⟨5, P, 0, k⟩)) rfl ?_
                      rw [HQ.out]
                      exact (HF.out _).done ⟨5, P, 0, k⟩ (k + P.size)
                    | false =>
                      rw [hh] at hq hpe
                      simp only at hq
                      have dq := hpe.symm
                      have HN : Hid ((signList.drop (j + 1)).find? (fun p => Lib.hasPrefix (s.extract k s.size).data.toList p.data.toList) = signList.find? (fun p => Lib.hasPrefix (s.extract k s.size).data.toList p.data.toList)) := Lib.hid hq
                      clear hq hpe hh
                      go_wp2_with fail
                      go_quiet (fail)
                      go_wp2_with fail
                      go_roundg (27 - (j + 1))
                      case measure => rw [HK.out]; omega
                      case rel => exact ⟨j + 1, _, by go_num, rfl, by omega, rfl, HN⟩
                  · have droom : decide ((s.size : Int) - (k : Int) ≥ (P.size : Int)) = false := decide_eq_false (by omega)
                    have hpe := pref_no (by omega) hroom
                    rw [hpe] at hq
                    simp only at hq
                    have HN : Hid ((signList.drop (j + 1)).find? (fun p => Lib.hasPrefix (s.extract k s.size).data.toList p.data.toList) = signList.find? (fun p => Lib.hasPrefix (s.extract k s.size).data.toList p.data.toList)) := Lib.hid hq
                    clear hq hpe
                    go_wp2_with fail
                    go_quiet (fail)
                    go_wp2_with fail
                    go_roundg (27 - (j + 1))
                    case measure => rw [HK.out]; omega
                    case rel => exact ⟨j + 1, _, by go_num, rfl, by omega, rfl, HN⟩
                · have HQ : Hid (R = noTok [⟨nLex, k, 200⟩]) := Lib.hid (by
                    have hq := HFD.out
                    rw [List.drop_eq_nil_of_le (show signList.length ≤ j by show 27 ≤ j; omega)] at hq
                    rw [HR6.out]
                    unfold signTok
                    rw [← hq]
                    rfl)
                  have hj27 : j = 27 := by omega
                  subst hj27
                  replace HF := Lib.hid (HF.out.step (below_drewN w5 m _))
                  go_wp2_with fail
                  refine (ref10_no _ _ _).mono ?_
                  rintro e w9 ⟨v9, rfl, hL9, hB9⟩
                  have HL9 := Lib.hid hL9
                  have HB9 := Lib.hid hB9
                  have HT9 := Lib.hid (HF.out.step hB9).tk
                  obtain ⟨r0, r1, r2, r3, f0, f1, f2, f3⟩ := HT9.out
                  simp only [zTk] at r0 r1 r2 r3
                  clear hL9 hB9
                  go_wp2_with fail
                  refine bodyPost_ret (res_tok' rfl _ _ w.heap.size zTk (by rfl) (HT9.out.put zTk)) rfl ?_
                  rw [HQ.out]
                  exact HF.out.fail HL9.out HB9.out
end Go.Proofs.YtpjmjogkkgbblaaGreatDoor
namespace Go.Proofs.YtpjmjogkkgbblaaGreatDoor
open Go.RowKit Go.Proofs.YtpjmjogkkgbblaaGreatDoorW.PrintWords

def ScanR (w : World) (r : List Tk × List Lk) (e : Ending) (w' : World) : Prop :=
  ∃ lv ev, e = .returned (.tuple #[lv, ev]) ∧ kTk.R 36 w' w.heap.size (fun _ => True) lv r.1 ∧ LnIs w' w.heap.size r.2 ev ∧ Below w.heap.size w w'

set_option maxRecDepth 100000 in
set_option maxHeartbeats 6000000 in
theorem ref10_Scan (s : ByteArray) (hm : s.size ≤ 140737488351232) (w : World) :
    Calls Tryz.prog 12 #[.string s] w (ScanR w (lexScan s)) := by
  by_cases hl : s.size > 65536
  · have hd : decide ((s.size : Int) > 65536) = true := decide_eq_true (by omega)
    have HQ : Hid (lexScan s = ([], [⟨nLex, 0, 4⟩])) := Lib.hid (by unfold lexScan; rw [if_pos hl])
    have HB : Hid (Below w.heap.size w w) := Lib.hid (Below.refl _ _)
    clear hl
    go_enter Tryz.func12, Tryz.ntmps12
    go_wp2_with fail
    refine (ref10_no _ _ _).mono ?_
    rintro e w2 ⟨v, rfl, hE, hB2⟩
    have HE := Lib.hid hE
    have HB2 := Lib.hid (trans_below HB.out hB2)
    clear hE hB2
    go_wp2_with fail
    go_ret2
    exact ⟨_, _, rfl, by rw [HQ.out]; exact Kd.R_nil _ _ _ _ _, by rw [HQ.out]; exact HE.out.lower HB.out.size, HB2.out⟩
  · have hd : decide ((s.size : Int) > 65536) = false := decide_eq_false (by omega)
    have HQ : Hid (lexScan s = scanFrom s (skipEnd s 0) []) := Lib.hid (by unfold lexScan; rw [if_neg hl])
    have hsm : s.size ≤ 65536 := by omega
    clear hl
    obtain ⟨R, hR⟩ : ∃ R, R = lexScan s := ⟨_, rfl⟩
    rw [← hR] at HQ
    rw [← hR]
    have HR := Lib.hid HQ.out.symm
    have HS0 := Lib.hid (ref10_skip s 0 (Nat.zero_le _) hm)
    clear hR HQ
    go_enter Tryz.func12, Tryz.ntmps12
    go_wp2_with fail
    refine (HS0.out _).mono ?_
    rintro e w1 ⟨rfl, hD1⟩
    have HB1 : Hid (Below w.heap.size w w1) := Lib.hid hD1.below
    clear hD1
    go_wp2_with fail
    go_loopg [4, 5] (s.size - skipEnd s 0) (fun gk vl vi wl => ∃ (p : Nat) (acc : List Tk) (v0 : Value), v0 = vl ∧ vi = .int .i64 (p : Int) ∧ gk = s.size - p ∧ p ≤ s.size ∧ acc.length ≤ 65536 ∧ Hid (scanFrom s p acc = R) ∧ Hid (kTk.R 36 wl w.heap.size (fun _ => True) v0 acc) ∧ Hid (Below w.heap.size w wl))
    case atStart => exact ⟨skipEnd s 0, [], _, rfl, rfl, rfl, skipEnd_le s 0 (Nat.zero_le _), by decide, HR.out, Kd.R_nil _ _ _ _ _, HB1.out⟩
    case round =>
      clear HR HB1
      obtain ⟨p, acc, v0, rfl, rfl, hgk, hp, hacc, HR, HK, HB⟩ := hrel
      have HM := Lib.hid hgk
      clear hgk
      obtain ⟨A, cp, rfl, hcp, _⟩ := Kd.R_reads HK.out
      by_cases hlt : p < s.size
      · have d1 : (p : Int) < (s.size : Int) := by omega
        by_cases hfull : acc.length = 65536
        · have dfull : decide ((acc.length : Int) ≥ 65536) = true := decide_eq_true (by omega)
          have HQ : Hid (R = ([], [⟨nLex, p, 5⟩])) := Lib.hid (by rw [← HR.out, scanFrom, dif_pos hlt, if_pos hfull])
          clear hfull
          go_wp2_with fail
          refine (ref10_no _ _ _).mono ?_
          rintro e w2 ⟨v, rfl, hE, hB2⟩
          have HE := Lib.hid hE
          have HB2 := Lib.hid (trans_below HB.out hB2)
          clear hE hB2
          go_wp2_with fail
          go_ret2
          exact ⟨_, _, rfl, by rw [HQ.out]; exact Kd.R_nil _ _ _ _ _, by rw [HQ.out]; exact HE.out.lower HB.out.size, HB2.out⟩
        · have dfull : decide ((acc.length : Int) ≥ 65536) = false := decide_eq_false (by omega)
          have hne := fun (w : World) (a : Option Addr) (n c : Nat) => run_neq_slice_nil_any (P := Tryz.prog) w 27 50 a n c 0 0 Tryz.underlying27
          go_wp2_with fail
          refine (ref10_token s p hlt hm wr).mono ?_
          rintro e w2 ⟨v, rfl, hE, hB2⟩
          obtain ⟨v0, hv0⟩ : ∃ v, v = Value.slice A acc.length cp := ⟨_, rfl⟩
          rw [← hv0]
          rw [← hv0] at HK
          clear hv0
          have HTR := Lib.hid (tok_range s p hlt)
          have hRR := HR.out
          rw [scanFrom, dif_pos hlt, if_neg hfull] at hRR
          unfold placed at hE ⊢
          obtain ⟨⟨⟨kd, tx, nm, at_⟩, n, l⟩, hT⟩ : ∃ r, r = tokenAt s p := ⟨_, rfl⟩
          rw [← hT] at hE hRR HTR
          rw [← hT]
          simp only at hRR HTR hE ⊢
          have HRR := Lib.hid hRR
          have HK2 := Lib.hid (Kd.R_below HK.out hB2)
          have HB2 := Lib.hid (trans_below HB.out hB2)
          have HSZ := Lib.hid HB.out.size
          clear hT hRR hB2
          cases l with
          | cons x r =>
            rw [if_neg (by simp)] at hE ⊢
            have HQ : Hid (R = ([], x :: r)) := Lib.hid (by rw [← HRR.out, if_neg (by simp)])
            have HE := Lib.hid hE
            obtain ⟨g, cc, rfl, _⟩ := hE.head
            clear hE
            simp only [tkV]
            go_wp2_with fail
            go_ret2
            exact ⟨_, _, rfl, by rw [HQ.out]; exact Kd.R_nil _ _ _ _ _, by rw [HQ.out]; exact (HE.out.below (below_alloc (Below.refl _ _) _)).lower HSZ.out, below_alloc HB2.out _⟩
          | nil =>
            rw [if_pos rfl] at hE ⊢
            obtain rfl : v = .slice none 0 0 := hE.2 rfl
            have hn := HTR.out rfl
            have HRN : Hid (scanFrom s (skipEnd s n) (acc ++ [⟨kd, tx, nm, p⟩]) = R) := Lib.hid (by rw [← HRR.out, if_pos rfl, Nat.max_eq_left (by omega)])
            have HS1 := Lib.hid (ref10_skip s n hn.2 hm)
            clear hE
            simp only [tkV]
            have HK3 := Lib.hid (Kd.R_alloc HK2.out (.cells #[.int .i64 kd, .string tx, .int .i64 nm, .int .i64 (p : Int)] 36))
            have HB3 := Lib.hid (below_alloc HB2.out (.cells #[.int .i64 kd, .string tx, .int .i64 nm, .int .i64 (p : Int)] 36))
            have hBS : w.heap.size ≤ (w2.alloc (.cells #[.int .i64 kd, .string tx, .int .i64 nm, .int .i64 (p : Int)] 36)).heap.size := HB3.out.size
            obtain ⟨W3, hW3⟩ : ∃ W, W = w2.alloc (.cells #[.int .i64 kd, .string tx, .int .i64 nm, .int .i64 (p : Int)] 36) := ⟨_, rfl⟩
            have hT3 : TkAt W3 w2.heap.size ⟨kd, tx, nm, p⟩ := by rw [hW3]; constructor <;> simp
            rw [← hW3] at HK3 HB3 hBS
            have hWW := hW3.symm
            have HBS := Lib.hid hBS
            obtain ⟨x0, x1, x2, x3, y0, y1, y2, y3⟩ := hT3
            simp only at x0 x1 x2 x3
            clear hW3 hBS
            go_wp2_with (at_builtin; refine Kd.R_append kTk (w0 := w) w.heap.size rfl (.tmp 34) (.tmp 36) 22 36 (.agg #[.int .i64 0, .string ⟨#[]⟩, .int .i64 0, .int .i64 0]) 40 rfl Tryz.underlying22 infoTk rfl (by decide) (by omega) v0 acc ⟨kd, tx, nm, (p : Int)⟩ [.int .i64 kd, .string tx, .int .i64 nm, .int .i64 (p : Int)] (fun _ => True) (fun _ => False) ?hs ?hx ?hp ?hok ?hfr ?hO ?hB ?hbs ?hl ?_; (case hs => rfl); (case hx => first | rfl | (simp [Act.eval]; done)); (case hp => exact kTk_mkM _ _ _ ⟨kd, tx, nm, (p : Int)⟩); (case hok => exact fun _ hk => hk.elim); (case hfr => exact fun _ _ => trivial); (case hO => exact HK3.out); (case hB => exact HB3.out); (case hbs => exact HBS.out); (case hl => omega); intro v1 w5 ho hb hg hat; have HO := Lib.hid ho; have HB5 := Lib.hid hb; clear ho hb hg hat)
            refine (HS1.out _).mono ?_
            rintro e w7 ⟨rfl, hD7⟩
            have HO7 := Lib.hid (Kd.R_below HO.out hD7.below)
            have HB7 := Lib.hid (trans_below HB5.out hD7.below)
            clear hD7
            go_wp2_with fail
            go_roundg (s.size - skipEnd s n)
            case measure => rw [HM.out]; have := skipEnd_ge s n; omega
            case rel => exact ⟨skipEnd s n, acc ++ [⟨kd, tx, nm, p⟩], _, rfl, rfl, rfl, skipEnd_le s n hn.2, by rw [List.length_append]; simp; omega, HRN, HO7, HB7⟩
      · have HQ : Hid (R = (acc, [])) := Lib.hid (by rw [← HR.out, scanFrom, dif_neg hlt])
        have d1 : decide ((p : Int) < (s.size : Int)) = false := decide_eq_false (by omega)
        go_wp2_with fail
        go_ret2
        exact ⟨_, _, rfl, by rw [HQ.out]; exact HK.out, by rw [HQ.out]; exact LnIs.nil _ _, HB.out⟩
end Go.Proofs.YtpjmjogkkgbblaaGreatDoor
