/-
  What the templates of heddleref10.Scan have besides walks (gathered from them for a seat without that function). Plain Lean: what a token hangs on: its own bytes, and that behind them no byte stands that could go on with it. Plain Lean: a text's tokens one behind the other; what stands behind a text and a line's end plays no part; a token's own text. Plain Lean: what a token is written as is scanned as that token; what is scanned can be written.
-/
import Derived.Test.YtgapeacflkfmdaaGreatDoorG11
import Derived.Test.YtgapeacflkfmdaaGreatDoorG3
import Derived.Test.YtgapeacflkfmdaaGreatDoorG9
import Derived.Test.YtgapeacflkfmdaaGreatDoorG7
import Derived.Test.YtgapeacflkfmdaaGreatDoorG8
import Derived.Test.YtgapeacflkfmdaaGreatDoorG12
namespace Go.Proofs.YtgapeacflkfmdaaGreatDoor
open Go.RowKit Go.Proofs.YtgapeacflkfmdaaGreatDoorW.PrintWords

def numPair : Option Int → Int × Bool
  | some v => (v, true)
  | none => (0, false)
/-- A token with its place. -/
def placed (k : Nat) (r : Tok) : Tok := if r.2.2 = [] then (⟨r.1.kd, r.1.tx, r.1.nm, k⟩, r.2.1, []) else r
def TokR (w : World) (r : Tok) (e : Ending) (w' : World) : Prop := ∃ v, e = .returned (.tuple #[tkV r.1, .int .i64 (r.2.1 : Int), v]) ∧ LnIs w' w.heap.size r.2.2 v ∧ Below w.heap.size w w'
/-- The result's block of a function of the reference. -/
structure RefFrame (w W : World) (rb : Nat) : Prop where
  tk : TkAt W rb zTk
  bl : Below w.heap.size w W
  l2 : rb < W.heap.size
  ge : w.heap.size ≤ rb
theorem RefFrame.start (w : World) : RefFrame w (w.alloc (.cells #[.int .i64 0, .string ⟨#[]⟩, .int .i64 0, .int .i64 0] 63)) w.heap.size :=
  ⟨TkAt.new w, below_alloc (Below.refl _ _) _, by simp, Nat.le_refl _⟩
theorem LnIs.put {W : World} {base g : Nat} {l : List Lk} {v : Value} (h : LnIs W base l v) (hg : g < base) (v0 v1 v2 v3 : Value) :
    LnIs ((((W.setCell ⟨g, 0, none⟩ v0).setCell ⟨g, 1, none⟩ v1).setCell ⟨g, 2, none⟩ v2).setCell ⟨g, 3, none⟩ v3) base l v := by
  have one : ∀ {W : World} (o : Nat) (u : Value), LnIs W base l v → LnIs (W.setCell ⟨g, o, none⟩ u) base l v := fun {W} o u h => by
    refine ⟨Kd.R_grown1 h.1 rfl (grown_set _ _ _ _) ?_, h.2⟩
    obtain ⟨inner, ho⟩ := Kd.R_own h.1
    intro he
    have := own_base ho _ he.symm
    omega
  exact one _ _ (one _ _ (one _ _ (one _ _ h)))
theorem RefFrame.step {w W W' : World} {rb : Nat} (h : RefFrame w W rb) (hb : Below W.heap.size W W') : RefFrame w W' rb :=
  ⟨h.tk.below hb h.l2, trans_below h.bl hb, Nat.lt_of_lt_of_le h.l2 hb.size, h.ge⟩
theorem RefFrame.fail {w W W' : World} {rb : Nat} (h : RefFrame w W rb) {l : List Lk} {v : Value} (hL : LnIs W' W.heap.size l v) (hB : Below W.heap.size W W') :
    TokR w (noTok l) (.returned (.tuple #[tkV zTk, .int .i64 0, v])) ((((W'.setCell ⟨rb, 0, none⟩ (.int .i64 0)).setCell ⟨rb, 1, none⟩ (.string ⟨#[]⟩)).setCell ⟨rb, 2, none⟩ (.int .i64 0)).setCell ⟨rb, 3, none⟩ (.int .i64 0)) :=
  ⟨v, rfl, (hL.put h.l2 _ _ _ _).lower h.bl.size, (trans_below h.bl hB).trans (put_below h.ge _ _ _ _)⟩
theorem RefFrame.done {w W : World} {rb : Nat} (h : RefFrame w W rb) (t : Tk) (n : Nat) :
    TokR w (t, n, []) (.returned (.tuple #[tkV t, .int .i64 (n : Int), .slice none 0 0])) ((((W.setCell ⟨rb, 0, none⟩ (.int .i64 t.kd)).setCell ⟨rb, 1, none⟩ (.string t.tx)).setCell ⟨rb, 2, none⟩ (.int .i64 t.nm)).setCell ⟨rb, 3, none⟩ (.int .i64 t.at_)) :=
  ⟨_, rfl, LnIs.nil _ _, h.bl.trans (put_below h.ge _ _ _ _)⟩
theorem parseN_range {b m : Int} : ∀ {l : List Int} {a n : Int}, 0 ≤ a → a ≤ m → 0 ≤ b → parseN b m a l = some n → 0 ≤ n ∧ n ≤ m
  | [], a, n, h0, h1, _, h => by
    simp only [parseN] at h
    injection h with h
    omega
  | c :: l, a, n, h0, h1, hb, h => by
    simp only [parseN] at h
    have := valOf_nonneg c
    have := Int.mul_nonneg h0 hb
    split at h
    · cases h
    · split at h
      · cases h
      · exact parseN_range (by omega) (by omega) hb h
theorem numVal_range {b n : Int} {s : ByteArray} (hb : 0 ≤ b) (h : numVal b s = some n) : 0 ≤ n ∧ n ≤ 576460752303423487 := by
  unfold numVal at h
  split at h
  · cases h
  · exact parseN_range (by decide) (by decide) hb h
theorem val_alnum (c : Int) : isAlnum c = decide (valOf c < 99) := by
  unfold isAlnum valOf isDigit isSmall isCapital
  by_cases h1 : 48 ≤ c <;> by_cases h2 : c ≤ 57 <;> by_cases h3 : 97 ≤ c <;> by_cases h4 : c ≤ 122 <;> by_cases h5 : 65 ≤ c <;> by_cases h6 : c ≤ 90 <;> simp [h1, h2, h3, h4, h5, h6] <;> omega
theorem decN_cut (n N b0 b1 b2 b3 c1 c2 c3 : Nat) (hn : 1 ≤ n) (h : n ≤ N) (h1 : 1 < n → c1 = b1) (h2 : 2 < n → c2 = b2) (h3 : 3 < n → c3 = b3) :
    Lib.decodeN n b0 c1 c2 c3 = if (Lib.decodeN N b0 b1 b2 b3).2 ≤ n then Lib.decodeN N b0 b1 b2 b3 else (65533, 1) := by
  by_cases g1 : 1 < n
  · obtain rfl := h1 g1
    by_cases g2 : 2 < n
    · obtain rfl := h2 g2
      by_cases g3 : 3 < n
      · obtain rfl := h3 g3
        have e : Lib.decodeN n b0 c1 c2 c3 = Lib.decodeN N b0 c1 c2 c3 := by
          simp only [Lib.decodeN, g1, g2, g3, show 1 < N by omega, show 2 < N by omega, show 3 < N by omega]
        rw [e, if_pos]
        simp only [Lib.decodeN]
        repeat' split
        all_goals simp only; omega
      · simp only [Lib.decodeN, g1, g2, g3, show 1 < N by omega, show 2 < N by omega, true_and, false_and, and_false, if_false]
        repeat' split
        all_goals first | rfl | (exfalso; simp only at *; omega)
    · simp only [Lib.decodeN, g1, g2, show ¬ 3 < n by omega, show 1 < N by omega, true_and, false_and, and_false, if_false]
      repeat' split
      all_goals first | rfl | (exfalso; simp only at *; omega)
  · simp only [Lib.decodeN, g1, show ¬ 2 < n by omega, show ¬ 3 < n by omega, false_and, and_false, if_false]
    repeat' split
    all_goals first | rfl | (exfalso; simp only at *; omega)
theorem bt_ext {s : ByteArray} {a n j : Nat} (hj : j < n) (h : a + n ≤ s.size) : bt (s.extract a (a + n)) (j : Int) = bt s ((a + j : Nat) : Int) := by
  have hsz : (s.extract a (a + n)).size = n := by simp; omega
  have h1 := btk (s.extract a (a + n)) j (by omega)
  have h2 := btk s (a + j) (by omega)
  rw [← h1, ← h2, ByteArray.getElem_extract]
theorem get_ext {s : ByteArray} {a n j : Nat} (hj : j < n) (h : a + n ≤ s.size) : ((s.extract a (a + n)).get! j).toNat = (s.get! (a + j)).toNat := by
  have h1 := get_bt (s.extract a (a + n)) j (by simp; omega)
  have h2 := get_bt s (a + j) (by omega)
  rw [bt_ext hj h] at h1
  omega
theorem dec_cut {s : ByteArray} {a n : Nat} (hn : 1 ≤ n) (h : a + n ≤ s.size) :
    Utf8.decode (s.extract a (a + n)) 0 = if (Utf8.decode s a).2 ≤ n then Utf8.decode s a else (65533, 1) := by
  have hsz : (s.extract a (a + n)).size - 0 = n := by simp; omega
  have h0 : ((s.extract a (a + n)).get! 0).toNat = (s.get! a).toNat := get_ext (j := 0) (by omega) h
  rw [Lib.decode_at, Lib.decode_at s a, hsz, h0]
  exact decN_cut _ _ _ _ _ _ _ _ _ hn (by omega) (fun g => by simpa using get_ext (j := 1) g h) (fun g => by simpa using get_ext (j := 2) g h) (fun g => by simpa using get_ext (j := 3) g h)
theorem utf_hit {s : ByteArray} {a : Nat} (ha : a < s.size) (hd : Utf8.decode s a ≠ (65533, 1)) : utfBad (s.extract a (a + (Utf8.decode s a).2)) 0 = -1 := by
  have hw := Lib.width_pos s a
  have hin := dec_in s a ha
  have hc := dec_cut (n := (Utf8.decode s a).2) (by omega) hin
  rw [if_pos (Nat.le_refl _)] at hc
  have hsz : (s.extract a (a + (Utf8.decode s a).2)).size = (Utf8.decode s a).2 := by simp; omega
  rw [← utfBad_on (k := 0) (by omega) (by rw [hc]; exact hd), hc]
  exact utfBad_out (by omega)
theorem utf_miss {s : ByteArray} {a n : Nat} (hn : 1 ≤ n) (h : a + n ≤ s.size) (hd : Utf8.decode s a = (65533, 1) ∨ n < (Utf8.decode s a).2) : utfBad (s.extract a (a + n)) 0 = 0 := by
  have hc := dec_cut hn h
  have hsz : (s.extract a (a + n)).size = n := by simp; omega
  have he : Utf8.decode (s.extract a (a + n)) 0 = (65533, 1) := by
    rw [hc]
    rcases hd with hd | hd
    · rw [hd]; simp
    · rw [if_neg (by omega)]
  exact utfBad_here (k := 0) (by omega) he
theorem four_cont {s : ByteArray} {i : Nat} (h : (Utf8.decode s i).2 = 4) : (s.get! (i + 1)).toNat / 64 = 2 ∧ (s.get! (i + 2)).toNat / 64 = 2 ∧ (s.get! (i + 3)).toNat / 64 = 2 := by
  rw [Lib.decode_at] at h
  simp only [Lib.decodeN] at h
  repeat' split at h
  all_goals first | (simp at h; done) | (refine ⟨by omega, by omega, by omega⟩)
/-- The first byte and the code point. -/
theorem dec_asc {s : ByteArray} {i : Nat} (h : (s.get! i).toNat < 128) : Utf8.decode s i = ((s.get! i).toNat, 1) := by
  rw [Lib.decode_at]
  simp only [Lib.decodeN, if_pos h]
theorem dec_wide {s : ByteArray} {i : Nat} (h : 128 ≤ (s.get! i).toNat) : 128 ≤ (Utf8.decode s i).1 :=
  decode_cases (fun d => 128 ≤ d.1) s i (by decide) (fun g => by omega) (fun _ _ _ g => g) (fun _ _ _ _ g _ => by simp only; omega) (fun _ _ g _ => by simp only; omega)
theorem RefFrame.drew0 {w W W' : World} {rb : Nat} (h : RefFrame w W rb) (hd : Drawn0 W W') : RefFrame w W' rb := h.step hd.below
theorem RefFrame.set {w W : World} {rb b o : Nat} {v : Value} (h : RefFrame w W rb) (hb : w.heap.size ≤ b) (hn : b ≠ rb) : RefFrame w (W.setCell ⟨b, o, none⟩ v) rb := by
  obtain ⟨⟨c0, c1, c2, c3, f0, f1, f2, f3⟩, bl, l2, ge⟩ := h
  refine ⟨?_, bl.setCell hb v, by simpa [World.setCell] using l2, ge⟩
  constructor <;> simp [World.cell?_setCell_other, World.frozen?_setCell, *]
theorem TkAt.num {W : World} {b : Nat} {t : Tk} (h : TkAt W b t) (n : Int) : TkAt (W.setCell ⟨b, 2, none⟩ (.int .i64 n)) b ⟨t.kd, t.tx, n, t.at_⟩ := by
  obtain ⟨c0, c1, c2, c3, f0, f1, f2, f3⟩ := h
  constructor <;> simp [World.cell?_setCell_other, World.cell?_setCell_same, World.frozen?_setCell, *]
theorem runEnd_ten {s : ByteArray} {k : Nat} (h : k < s.size) (hc : bt s (k : Int) = 10) : runEnd (· != 10) s k = k := runEnd_no h (by simp [hc])
theorem runEnd_nine {s : ByteArray} {k : Nat} (h : k < s.size) (hc : bt s (k : Int) ≠ 10) : runEnd (· != 10) s (k + 1) = runEnd (· != 10) s k := runEnd_yes h (by simp [hc])
theorem pref_eq {s p : ByteArray} {k : Nat} (_h : k + p.size ≤ s.size) : Lib.hasPrefix (s.extract k s.size).data.toList p.data.toList = ((s.extract k (k + p.size)).toList == p.toList) := by
  unfold Lib.hasPrefix
  rw [Bool.eq_iff_iff, List.isPrefixOf_iff_prefix, beq_iff_eq, Lib.toList_data, Lib.toList_data, Lib.extract_data, Lib.extract_data]
  have e1 : (s.data.toList.drop k).take (s.size - k) = s.data.toList.drop k := List.take_of_length_le (by rw [List.length_drop, ← Lib.size_eq]; exact Nat.le_refl _)
  have e2 : k + p.size - k = p.data.toList.length := by rw [← Lib.size_eq]; omega
  rw [e1, e2, List.prefix_iff_eq_take]
  exact eq_comm
theorem pref_no {s p : ByteArray} {k : Nat} (hk : k ≤ s.size) (h : ¬ k + p.size ≤ s.size) : Lib.hasPrefix (s.extract k s.size).data.toList p.data.toList = false := by
  unfold Lib.hasPrefix
  rw [Bool.eq_false_iff]
  intro hp
  rw [List.isPrefixOf_iff_prefix] at hp
  have h1 := hp.length_le
  rw [← Lib.size_eq, ← Lib.size_eq] at h1
  simp at h1
  omega
theorem res_small {T : ByteArray} (h : isRes T = true) : isSmall (bt T 0) = true := by
  obtain ⟨r, hr, rfl⟩ := isRes_yes h
  have key : ∀ r ∈ resList, isSmall (bt ⟨r.toArray⟩ 0) = true := by decide
  exact key r hr
theorem upper_word {s : ByteArray} {k : Nat} (hk : k < s.size) (hs : isSmall (bt s (k : Int)) = false) : isRes (s.extract k (runEnd isIn s k)) = false := by
  rw [Bool.eq_false_iff]
  intro hr
  have h1 := res_small hr
  by_cases h : k < runEnd isIn s k
  · rw [ext_first h (runEnd_le isIn s k (by omega)) rfl, hs] at h1
    cases h1
  · have h5 : (s.extract k (runEnd isIn s k)).size = 0 := by simp; omega
    have := bt_out (s := s.extract k (runEnd isIn s k)) (k := 0) (by omega)
    simp only [Int.natCast_zero] at this
    rw [this] at h1
    cases h1
theorem RefFrame.pass {w W W' : World} {rb : Nat} (h : RefFrame w W rb) (r : Tok) {v : Value} (hL : LnIs W' W.heap.size r.2.2 v) (hB : Below W.heap.size W W') :
    TokR w r (.returned (.tuple #[tkV r.1, .int .i64 (r.2.1 : Int), v])) ((((W'.setCell ⟨rb, 0, none⟩ (.int .i64 r.1.kd)).setCell ⟨rb, 1, none⟩ (.string r.1.tx)).setCell ⟨rb, 2, none⟩ (.int .i64 r.1.nm)).setCell ⟨rb, 3, none⟩ (.int .i64 r.1.at_)) :=
  ⟨v, rfl, (hL.put h.l2 _ _ _ _).lower h.bl.size, (trans_below h.bl hB).trans (put_below h.ge _ _ _ _)⟩
theorem sign_dot {s : ByteArray} {k : Nat} (hk : k < s.size) (h : bt s (k : Int) = 46) : signTok s k = noTok [⟨nLex, k, 200⟩] := by
  unfold signTok
  have key : ∀ p ∈ signList, p.data.toList.head? ≠ some 46 ∧ p.data.toList ≠ [] := by decide
  have hf : signList.find? (fun p => Lib.hasPrefix (s.extract k s.size).data.toList p.data.toList) = none := by
    rw [List.find?_eq_none]
    intro p hp
    obtain ⟨h1, h2⟩ := key p hp
    have e : (s.extract k s.size).data.toList = s[k] :: s.data.toList.drop (k + 1) := by
      rw [Lib.extract_data, List.take_of_length_le (by rw [List.length_drop, ← Lib.size_eq]; exact Nat.le_refl _)]
      rw [List.drop_eq_getElem_cons (by rw [← Lib.size_eq]; exact hk)]
      rfl
    have hb := btk s k hk
    rw [h] at hb
    have hb2 : s[k] = 46 := UInt8.toNat_inj.1 (by simp; omega)
    rw [e, hb2]
    unfold Lib.hasPrefix
    match hl : p.data.toList with
    | [] => exact absurd hl h2
    | b :: bs =>
      rw [hl] at h1
      simp only [List.isPrefixOf]
      intro hc
      simp only [Bool.and_eq_true, beq_iff_eq] at hc
      exact h1 (by rw [hc.1]; rfl)
  rw [hf]
def ScanR (w : World) (r : List Tk × List Lk) (e : Ending) (w' : World) : Prop :=
  ∃ lv ev, e = .returned (.tuple #[lv, ev]) ∧ kTk.R 63 w' w.heap.size (fun _ => True) lv r.1 ∧ LnIs w' w.heap.size r.2 ev ∧ Below w.heap.size w w'
end Go.Proofs.YtgapeacflkfmdaaGreatDoor
namespace Go.Proofs.YtgapeacflkfmdaaGreatDoor
open Go.RowKit Go.Proofs.YtgapeacflkfmdaaGreatDoorW.PrintWords

def softB (c : Int) : Bool := isBlank c || c == 37
/-- A blank, a comment's sign, or the end. -/
def Soft (s : ByteArray) (k : Nat) : Prop := s.size ≤ k ∨ softB (bt s (k : Int)) = true
/-- n bytes of s from p are those of u from q; behind them u goes on softly. -/
structure Ag (s : ByteArray) (p : Nat) (u : ByteArray) (q n : Nat) : Prop where
  l : p + n ≤ s.size
  l' : q + n ≤ u.size
  eq : ∀ j, j < n → bt u ((q + j : Nat) : Int) = bt s ((p + j : Nat) : Int)
  sf : Soft u (q + n)

theorem soft_cases {c : Int} (h : softB c = true) : c = 9 ∨ c = 10 ∨ c = 13 ∨ c = 32 ∨ c = 37 := by
  simp only [softB, isBlank, Bool.or_eq_true, beq_iff_eq] at h
  omega
theorem soft_in {c : Int} (h : softB c = true) : isIn c = false := by rcases soft_cases h with rfl | rfl | rfl | rfl | rfl <;> rfl
theorem soft_digit {c : Int} (h : softB c = true) : isDigit c = false := by rcases soft_cases h with rfl | rfl | rfl | rfl | rfl <;> rfl
theorem soft_alnum {c : Int} (h : softB c = true) : isAlnum c = false := by rcases soft_cases h with rfl | rfl | rfl | rfl | rfl <;> rfl

theorem runEnd_of {P : Int → Bool} {s : ByteArray} : ∀ (d k : Nat), k + d ≤ s.size → (∀ j, j < d → P (bt s ((k + j : Nat) : Int)) = true) → (s.size ≤ k + d ∨ P (bt s ((k + d : Nat) : Int)) = false) → runEnd P s k = k + d
  | 0, k, h, _, hs => by
    rcases hs with hs | hs
    · exact runEnd_out hs
    · by_cases hk : k < s.size
      · exact runEnd_no hk hs
      · exact runEnd_out (by omega)
  | d + 1, k, h, ha, hs => by
    have h0 := ha 0 (by omega)
    rw [← runEnd_yes (by omega) (show P (bt s (k : Int)) = true from h0), runEnd_of d (k + 1) (by omega) (fun j hj => by have := ha (j + 1) (by omega); rwa [show k + (j + 1) = k + 1 + j by omega] at this) (by rwa [show k + 1 + d = k + (d + 1) by omega])]
    omega
theorem runEnd_in {P : Int → Bool} {s : ByteArray} {k i : Nat} (hk : k ≤ i) (h : i < runEnd P s k) : P (bt s (i : Int)) = true ∧ i < s.size := by
  have h1 : i - k < tw P ((bs s).drop k) := by unfold runEnd at h; omega
  obtain ⟨c, hc, hp⟩ := tw_all h1
  rw [List.getElem?_drop, show k + (i - k) = i by omega] at hc
  obtain ⟨hl, hc'⟩ := List.getElem?_eq_some_iff.1 hc
  have hl2 : i < s.size := by rw [← bs_len]; exact hl
  rw [bs_get s i hl2] at hc'
  exact ⟨by rw [hc']; exact hp, hl2⟩
theorem runEnd_at {P : Int → Bool} {s : ByteArray} : ∀ (d k : Nat), s.size - k = d → (s.size ≤ runEnd P s k ∨ P (bt s (runEnd P s k : Nat)) = false)
  | 0, k, h => Or.inl (by rw [runEnd_out (by omega)]; omega)
  | d + 1, k, h => by
    cases hp : P (bt s (k : Int)) with
    | false => right; rw [runEnd_no (by omega) hp]; exact hp
    | true => rw [← runEnd_yes (by omega) hp]; exact runEnd_at d (k + 1) (by omega)
theorem ba_ext {a b : ByteArray} (hs : a.size = b.size) (h : ∀ j : Nat, j < a.size → bt a (j : Int) = bt b (j : Int)) : a = b := by
  have hd : a.data = b.data := by
    apply Array.ext hs
    intro i h1 h2
    have h1' : i < a.size := h1
    have h2' : i < b.size := h2
    have := h i h1
    rw [← btk a i h1', ← btk b i h2'] at this
    have e : a.data[i].toNat = b.data[i].toNat := by exact_mod_cast this
    exact UInt8.toNat_inj.1 e
  cases a; cases b; cases hd; rfl

section
variable {s u : ByteArray} {p q n : Nat}
theorem Ag.head (h : Ag s p u q n) (hn : 0 < n) : bt u (q : Int) = bt s (p : Int) := h.eq 0 hn
theorem Ag.run (h : Ag s p u q n) {P : Int → Bool} (hP : ∀ {c}, softB c = true → P c = false) {j : Nat} (_ : j ≤ n) (he : runEnd P s (p + j) ≤ p + n) : runEnd P u (q + j) = q + (runEnd P s (p + j) - p) := by
  have hge := runEnd_ge P s (p + j)
  have h1 := h.l
  have h2 := h.l'
  rw [show q + (runEnd P s (p + j) - p) = (q + j) + (runEnd P s (p + j) - (p + j)) by omega]
  refine runEnd_of _ _ (by omega) (fun i hi => ?_) ?_
  · have := (runEnd_in (P := P) (s := s) (k := p + j) (i := p + j + i) (by omega) (by omega)).1
    rw [show q + j + i = q + (j + i) by omega, h.eq (j + i) (by omega), ← Nat.add_assoc]
    exact this
  · by_cases hn : runEnd P s (p + j) = p + n
    · rw [show q + j + (runEnd P s (p + j) - (p + j)) = q + n by omega]
      rcases h.sf with hs | hs
      · exact .inl hs
      · exact .inr (hP hs)
    · rcases runEnd_at (P := P) (s := s) _ (p + j) rfl with ha | ha
      · exfalso
        omega
      · right
        rw [show q + j + (runEnd P s (p + j) - (p + j)) = q + (runEnd P s (p + j) - p) by omega, h.eq _ (by omega), show p + (runEnd P s (p + j) - p) = runEnd P s (p + j) by omega]
        exact ha
theorem Ag.ext (h : Ag s p u q n) {a m : Nat} (hb : a + m ≤ n) : u.extract (q + a) (q + a + m) = s.extract (p + a) (p + a + m) := by
  have h1 := h.l
  have h2 := h.l'
  have hsz : (u.extract (q + a) (q + a + m)).size = m := by simp; omega
  refine ba_ext (by simp; omega) (fun j hj => ?_)
  rw [hsz] at hj
  rw [bt_ext hj (by omega), bt_ext hj (by omega), Nat.add_assoc, h.eq _ (by omega), Nat.add_assoc]
theorem Ag.ext0 (h : Ag s p u q n) {e : Nat} (h0 : p ≤ e) (hb : e ≤ p + n) : u.extract q (q + (e - p)) = s.extract p e := by
  have := h.ext (a := 0) (m := e - p) (by omega)
  simpa [show p + (e - p) = e by omega] using this
theorem Ag.take (h : Ag s p u q n) : ∀ {m j : Nat}, j + m ≤ n → ((bs u).drop (q + j)).take m = ((bs s).drop (p + j)).take m
  | 0, j, _ => by simp
  | m + 1, j, hm => by
    have h1 := h.l
    have h2 := h.l'
    rw [bs_drop u (q + j) (by omega), bs_drop s (p + j) (by omega), List.take_succ_cons, List.take_succ_cons, h.eq j (by omega), show q + j + 1 = q + (j + 1) by omega, show p + j + 1 = p + (j + 1) by omega, h.take (m := m) (j := j + 1) (by omega)]
theorem Ag.dec (h : Ag s p u q n) {j : Nat} (_ : j < n) (hd : Utf8.decode s (p + j) ≠ (65533, 1)) (hw : j + (Utf8.decode s (p + j)).2 ≤ n) : Utf8.decode u (q + j) = Utf8.decode s (p + j) := by
  have h1 := h.l
  have h2 := h.l'
  have hpos := Lib.width_pos s (p + j)
  have c1 := dec_cut (s := s) (a := p + j) (n := (Utf8.decode s (p + j)).2) (by omega) (by omega)
  have c2 := dec_cut (s := u) (a := q + j) (n := (Utf8.decode s (p + j)).2) (by omega) (by omega)
  rw [if_pos (Nat.le_refl _)] at c1
  rw [h.ext hw, c1] at c2
  by_cases hle : (Utf8.decode u (q + j)).2 ≤ (Utf8.decode s (p + j)).2
  · rw [if_pos hle] at c2
    exact c2.symm
  · rw [if_neg hle] at c2
    exact absurd c2 hd
end

theorem take_cons {c : Int} {l m : List Int} {k : Nat} (h : m.take (k + 1) = (c :: l).take (k + 1)) : ∃ r, m = c :: r ∧ r.take k = l.take k := by
  cases m with
  | nil => simp at h
  | cons x r =>
    simp only [List.take_succ_cons, List.cons.injEq] at h
    exact ⟨r, by rw [h.1], h.2⟩
theorem escX_loc {l m : List Int} (h0 : (escX l).2 ≠ 0) (h : m.take 2 = l.take 2) : escX m = escX l := by
  match l with
  | [] => exact absurd rfl h0
  | [a] => exact absurd rfl h0
  | a :: b :: r =>
    obtain ⟨m', rfl, h'⟩ := take_cons h
    obtain ⟨m'', rfl, _⟩ := take_cons h'
    rfl
theorem escX_two (l : List Int) : (escX l).2 = 0 ∨ (escX l).2 = 3 := by
  unfold escX
  split
  · split
    · exact .inr rfl
    · exact .inl rfl
  · exact .inl rfl
theorem escOf_loc {l m : List Int} (h0 : (escOf l).2 ≠ 0) (h : m.take (escOf l).2 = l.take (escOf l).2) : escOf m = escOf l := by
  match l with
  | [] => exact absurd rfl h0
  | c :: r =>
    have hpos : ∃ k, (escOf (c :: r)).2 = k + 1 := ⟨(escOf (c :: r)).2 - 1, by omega⟩
    obtain ⟨k, hk⟩ := hpos
    rw [hk] at h
    obtain ⟨m', rfl, h'⟩ := take_cons h
    unfold escOf at hk h0 ⊢
    by_cases hx : c = 120
    · subst hx
      simp only [show ¬ (120 : Int) = 110 by decide, show ¬ (120 : Int) = 116 by decide, show ¬ (120 : Int) = 114 by decide, show ¬ (120 : Int) = 39 by decide, show ¬ (120 : Int) = 92 by decide, if_false, if_true] at hk h0 ⊢
      refine escX_loc h0 ?_
      rcases escX_two r with h3 | h3
      · exact absurd h3 h0
      · rw [h3] at hk
        obtain rfl : k = 2 := by omega
        exact h'
    · simp only [if_neg hx]
theorem escC_loc {l m : List Int} (h0 : (escC l).2 ≠ 0) (h : m.take (escC l).2 = l.take (escC l).2) : escC m = escC l := by
  match l with
  | [] => exact absurd rfl h0
  | c :: r =>
    have hpos : ∃ k, (escC (c :: r)).2 = k + 1 := ⟨(escC (c :: r)).2 - 1, by omega⟩
    obtain ⟨k, hk⟩ := hpos
    rw [hk] at h
    obtain ⟨m', rfl, h'⟩ := take_cons h
    unfold escC at hk h0 ⊢
    by_cases hx : c = 120
    · subst hx
      simp only [show ¬ (120 : Int) = 110 by decide, show ¬ (120 : Int) = 116 by decide, show ¬ (120 : Int) = 114 by decide, show ¬ (120 : Int) = 115 by decide, show ¬ (120 : Int) = 39 by decide, show ¬ (120 : Int) = 92 by decide, show ¬ (120 : Int) = 34 by decide, if_false, if_true] at hk h0 ⊢
      match r with
      | [] => exact absurd rfl h0
      | [a] => exact absurd rfl h0
      | a :: b :: r =>
        simp only at hk h0 ⊢
        by_cases hv : valOf a < 16 ∧ valOf b < 16
        · rw [if_pos hv] at hk h0
          obtain rfl : k = 2 := by simp only at hk; omega
          obtain ⟨m'', rfl, h''⟩ := take_cons h'
          obtain ⟨m''', rfl, _⟩ := take_cons h''
          rfl
        · rw [if_neg hv] at h0
          exact absurd rfl h0
    · simp only [if_neg hx]

theorem noTok_no {x : Lk} {r : List Lk} {t : Tk} {e : Nat} (h : noTok (x :: r) = (t, e, [])) : False := by
  unfold noTok at h
  simp at h
theorem noGot_no {x : Lk} {t : ByteArray} {e : Nat} (h : noGot x = (t, e, [])) : False := by
  unfold noGot at h
  simp at h

section
variable {s u : ByteArray} {p q n : Nat}
theorem qLoop_loc (h : Ag s p u q n) {t : ByteArray} {e : Nat} (he : e ≤ p + n) {f f' : Nat} : ∀ (d j : Nat) (acc : List Int), n - j = d → qLoop s f (p + j) acc = (t, e, []) → qLoop u f' (q + j) acc = (t, q + (e - p), []) := by
  intro d
  induction d using Nat.strongRecOn with
  | _ d ih =>
    intro j acc hd hq
    have h1 := h.l
    have h2 := h.l'
    have hr := qLoop_range s f (p + j) acc (by rw [hq])
    rw [hq] at hr
    simp only at hr
    have hj : j < n := by omega
    rw [qLoop] at hq ⊢
    rw [dif_pos (show p + j < s.size by omega)] at hq
    rw [dif_pos (show q + j < u.size by omega), h.eq j hj]
    by_cases c39 : bt s ((p + j : Nat) : Int) = 39
    · rw [if_pos c39] at hq ⊢
      by_cases c1 : acc.length > 255
      · rw [if_pos c1] at hq
        exact (noGot_no hq).elim
      · rw [if_neg c1] at hq ⊢
        by_cases c2 : 0 ≤ utfBad (strOfNums acc) 0
        · rw [if_pos c2] at hq
          exact (noGot_no hq).elim
        · rw [if_neg c2] at hq ⊢
          simp only [Prod.mk.injEq] at hq ⊢
          exact ⟨hq.1, by omega, trivial⟩
    · rw [if_neg c39] at hq ⊢
      by_cases c3 : bt s ((p + j : Nat) : Int) < 32 ∨ bt s ((p + j : Nat) : Int) = 127
      · rw [if_pos c3] at hq
        exact (noGot_no hq).elim
      · rw [if_neg c3] at hq ⊢
        by_cases c92 : bt s ((p + j : Nat) : Int) = 92
        · rw [if_pos c92] at hq ⊢
          by_cases ce : p + j + 1 = s.size
          · rw [if_pos ce] at hq
            exact (noGot_no hq).elim
          · rw [if_neg ce] at hq
            by_cases cz : (escOf ((bs s).drop (p + j + 1))).2 = 0
            · rw [if_pos cz] at hq
              exact (noGot_no hq).elim
            · rw [if_neg cz] at hq
              have hr2 := qLoop_range s f _ _ (by rw [hq])
              rw [hq] at hr2
              simp only at hr2
              have hL : escOf ((bs u).drop (q + j + 1)) = escOf ((bs s).drop (p + j + 1)) := by
                refine escOf_loc cz ?_
                have := h.take (m := (escOf ((bs s).drop (p + j + 1))).2) (j := j + 1) (by omega)
                rwa [← Nat.add_assoc, ← Nat.add_assoc] at this
              rw [if_neg (show ¬ q + j + 1 = u.size by omega), hL, if_neg cz]
              have := ih (n - (j + 1 + (escOf ((bs s).drop (p + j + 1))).2)) (by omega) (j + 1 + (escOf ((bs s).drop (p + j + 1))).2) _ rfl (by rw [← Nat.add_assoc, ← Nat.add_assoc]; exact hq)
              rwa [← Nat.add_assoc, ← Nat.add_assoc] at this
        · rw [if_neg c92] at hq ⊢
          have := ih (n - (j + 1)) (by omega) (j + 1) _ rfl hq
          exact this
theorem aScan_loc (h : Ag s p u q n) (hn : 0 < n) {t : ByteArray} {e : Nat} (ha : aScan s p = (t, e, [])) (he : e ≤ p + n) : aScan u q = (t, q + (e - p), []) := by
  have h1 := h.l
  have h2 := h.l'
  unfold aScan at ha ⊢
  rw [h.head hn]
  by_cases c39 : bt s (p : Int) = 39
  · rw [if_pos ⟨by omega, c39⟩] at ha ⊢
    exact qLoop_loc h he _ 1 [] rfl ha
  · rw [if_neg (fun hh => c39 hh.2)] at ha ⊢
    by_cases c1 : p = s.size ∨ isSmall (bt s (p : Int)) = false
    · rw [if_pos c1] at ha
      exact (noGot_no ha).elim
    · rw [if_neg c1] at ha
      have hsm : isSmall (bt s (p : Int)) = true := by cases hh : isSmall (bt s (p : Int)) <;> simp_all
      rw [if_neg (show ¬ (q = u.size ∨ isSmall (bt s (p : Int)) = false) by rw [hsm]; simp; omega)]
      by_cases c2 : runEnd isIn s p - p > 255
      · rw [if_pos c2] at ha
        exact (noGot_no ha).elim
      · rw [if_neg c2] at ha
        by_cases c3 : isRes (s.extract p (runEnd isIn s p)) = true
        · rw [if_pos c3] at ha
          exact (noGot_no ha).elim
        · rw [if_neg c3] at ha
          simp only [Prod.mk.injEq] at ha
          have hge := runEnd_ge isIn s p
          have hr := h.run (P := isIn) soft_in (j := 0) (by omega) (by simp only [Nat.add_zero]; omega)
          simp only [Nat.add_zero] at hr
          rw [hr, h.ext0 hge (by omega), if_neg (by omega), if_neg c3]
          simp only [Prod.mk.injEq]
          exact ⟨ha.1, by omega, trivial⟩
theorem atomTok_loc (h : Ag s p u q n) (hn : 0 < n) {t : Tk} {e : Nat} (ha : atomTok s p = (t, e, [])) (he : e ≤ p + n) : atomTok u q = (t, q + (e - p), []) := by
  unfold atomTok at ha ⊢
  split at ha
  · rename_i hz
    simp only [Prod.mk.injEq] at ha
    have := aScan_loc h hn (t := (aScan s p).1) (e := (aScan s p).2.1) (by rw [← hz]) (by omega)
    rw [this]
    simp only [Prod.mk.injEq]
    exact ⟨ha.1, by omega, trivial⟩
  · exact (noTok_no ha).elim
theorem aScan_word {x : ByteArray} {e : Nat} (hc : isSmall (bt s (p : Int)) = true) (ha : aScan s p = (x, e, [])) : e = runEnd isIn s p := by
  have c39 : ¬ bt s (p : Int) = 39 := by
    intro hh
    rw [hh] at hc
    cases hc
  unfold aScan at ha
  rw [if_neg (fun hh => c39 hh.2)] at ha
  split at ha
  · exact (noGot_no ha).elim
  · split at ha
    · exact (noGot_no ha).elim
    · split at ha
      · exact (noGot_no ha).elim
      · simp only [Prod.mk.injEq] at ha
        omega
theorem atomTok_word {t : Tk} {e : Nat} (hc : isSmall (bt s (p : Int)) = true) (ha : atomTok s p = (t, e, [])) : e = runEnd isIn s p := by
  unfold atomTok at ha
  split at ha
  · rename_i hz
    simp only [Prod.mk.injEq] at ha
    have := aScan_word (x := (aScan s p).1) (e := (aScan s p).2.1) hc (by rw [← hz])
    omega
  · exact (noTok_no ha).elim
theorem wordTok_end {t : Tk} {e : Nat} (ha : wordTok s p = (t, e, [])) : e = runEnd isIn s p := by
  unfold wordTok at ha
  split at ha
  · simp only [Prod.mk.injEq] at ha; omega
  · split at ha
    · rename_i hc
      exact atomTok_word hc ha
    · split at ha
      · exact (noTok_no ha).elim
      · simp only [Prod.mk.injEq] at ha; omega
theorem wordTok_loc (h : Ag s p u q n) (hn : 0 < n) {t : Tk} {e : Nat} (ha : wordTok s p = (t, e, [])) (he : e ≤ p + n) : wordTok u q = (t, q + (e - p), []) := by
  have hE := wordTok_end ha
  have hge := runEnd_ge isIn s p
  have hr := h.run (P := isIn) soft_in (j := 0) (by omega) (by simp only [Nat.add_zero]; omega)
  simp only [Nat.add_zero] at hr
  unfold wordTok at ha ⊢
  rw [hr, h.ext0 hge (by omega), h.head hn]
  by_cases c1 : isRes (s.extract p (runEnd isIn s p)) = true
  · rw [if_pos c1] at ha ⊢
    simp only [Prod.mk.injEq] at ha ⊢
    exact ⟨ha.1, by omega, trivial⟩
  · rw [if_neg c1] at ha ⊢
    by_cases c2 : isSmall (bt s (p : Int)) = true
    · rw [if_pos c2] at ha ⊢
      exact atomTok_loc h hn ha he
    · rw [if_neg c2] at ha ⊢
      by_cases c3 : runEnd isIn s p - p > 255
      · rw [if_pos c3] at ha
        exact (noTok_no ha).elim
      · rw [if_neg c3] at ha
        rw [if_neg (by omega)]
        simp only [Prod.mk.injEq] at ha ⊢
        exact ⟨ha.1, by omega, trivial⟩
theorem numEnd_some {k e e' : Nat} {r : Option Int} {t : Tk} (h : numEnd k e r = (t, e', [])) : e' = e ∧ ∃ v, r = some v ∧ t = ⟨3, ⟨#[]⟩, v, 0⟩ := by
  cases r with
  | none => exact (noTok_no h).elim
  | some v =>
    unfold numEnd at h
    simp only [Prod.mk.injEq] at h
    exact ⟨h.2.1.symm, v, rfl, h.1.symm⟩
theorem numTok_loc (h : Ag s p u q n) (hn : 0 < n) {t : Tk} {e : Nat} (ha : numTok s p = (t, e, [])) (he : e ≤ p + n) : numTok u q = (t, q + (e - p), []) := by
  have h1 := h.l
  have h2 := h.l'
  have hge := runEnd_ge isDigit s p
  unfold numTok at ha ⊢
  by_cases cb : runEnd isDigit s p < s.size ∧ bt s (runEnd isDigit s p : Nat) = 35
  · rw [if_pos cb] at ha
    cases hb : baseOf (s.extract p (runEnd isDigit s p)) with
    | none =>
      rw [hb] at ha
      exact (noTok_no ha).elim
    | some b =>
      rw [hb] at ha
      obtain ⟨hE, v, hv, ht⟩ := numEnd_some ha
      have hge2 := runEnd_ge isAlnum s (runEnd isDigit s p + 1)
      have hr := h.run (P := isDigit) soft_digit (j := 0) (by omega) (by simp only [Nat.add_zero]; omega)
      simp only [Nat.add_zero] at hr
      have hr2 := h.run (P := isAlnum) soft_alnum (j := runEnd isDigit s p + 1 - p) (by omega) (by rw [show p + (runEnd isDigit s p + 1 - p) = runEnd isDigit s p + 1 by omega]; omega)
      rw [show p + (runEnd isDigit s p + 1 - p) = runEnd isDigit s p + 1 by omega, show q + (runEnd isDigit s p + 1 - p) = q + (runEnd isDigit s p - p) + 1 by omega] at hr2
      have hx := h.ext (a := runEnd isDigit s p + 1 - p) (m := runEnd isAlnum s (runEnd isDigit s p + 1) - (runEnd isDigit s p + 1)) (by omega)
      rw [show p + (runEnd isDigit s p + 1 - p) = runEnd isDigit s p + 1 by omega, show q + (runEnd isDigit s p + 1 - p) = q + (runEnd isDigit s p - p) + 1 by omega, show runEnd isDigit s p + 1 + (runEnd isAlnum s (runEnd isDigit s p + 1) - (runEnd isDigit s p + 1)) = runEnd isAlnum s (runEnd isDigit s p + 1) by omega,
        show q + (runEnd isDigit s p - p) + 1 + (runEnd isAlnum s (runEnd isDigit s p + 1) - (runEnd isDigit s p + 1)) = q + (runEnd isAlnum s (runEnd isDigit s p + 1) - p) by omega] at hx
      have h35 : bt u ((q + (runEnd isDigit s p - p) : Nat) : Int) = 35 := by
        rw [h.eq _ (by omega), show p + (runEnd isDigit s p - p) = runEnd isDigit s p by omega]
        exact cb.2
      rw [hr, if_pos ⟨by omega, h35⟩, h.ext0 hge (by omega), hb]
      simp only
      rw [hr2, hx, hv, ht]
      unfold numEnd
      rw [hE]
  · rw [if_neg cb] at ha
    obtain ⟨hE, v, hv, ht⟩ := numEnd_some ha
    have hr := h.run (P := isDigit) soft_digit (j := 0) (by omega) (by simp only [Nat.add_zero]; omega)
    simp only [Nat.add_zero] at hr
    have hno : ¬ (q + (runEnd isDigit s p - p) < u.size ∧ bt u ((q + (runEnd isDigit s p - p) : Nat) : Int) = 35) := by
      rintro ⟨g1, g2⟩
      by_cases hin : runEnd isDigit s p - p < n
      · rw [h.eq _ hin, show p + (runEnd isDigit s p - p) = runEnd isDigit s p by omega] at g2
        exact cb ⟨by omega, g2⟩
      · have e1 : runEnd isDigit s p - p = n := by omega
        rw [e1] at g1 g2
        rcases h.sf with hs | hs
        · omega
        · rw [g2] at hs
          cases hs
    rw [hr, if_neg hno, h.ext0 hge (by omega), hv, ht]
    unfold numEnd
    rw [hE]
theorem dec_byte {i : Nat} {c : Nat} (_ : i < s.size) (h : (Utf8.decode s i).1 = c) (hc : c < 128) : Utf8.decode s i = (c, 1) := by
  by_cases hb : (s.get! i).toNat < 128
  · have := dec_asc hb
    rw [this] at h ⊢
    simp only at h
    rw [h]
  · have := dec_wide (s := s) (i := i) (by omega)
    omega
theorem charTok_loc (h : Ag s p u q n) {t : Tk} {e : Nat} (ha : charTok s p = (t, e, [])) (he : e ≤ p + n) : charTok u q = (t, q + (e - p), []) := by
  have h1 := h.l
  have h2 := h.l'
  have hr := charTok_range s p (by rw [ha])
  rw [ha] at hr
  simp only at hr
  unfold charTok at ha ⊢
  by_cases c1 : s.size ≤ p + 1
  · rw [if_pos c1] at ha
    exact (noTok_no ha).elim
  · rw [if_neg c1] at ha
    by_cases c2 : (Utf8.decode s (p + 1)).1 < 32 ∨ (Utf8.decode s (p + 1)).1 = 127
    · rw [if_pos c2] at ha
      exact (noTok_no ha).elim
    · rw [if_neg c2] at ha
      by_cases c3 : (Utf8.decode s (p + 1)).1 = 92
      · rw [if_pos c3] at ha
        have hd := dec_byte (by omega) c3 (by decide)
        unfold escTok at ha
        by_cases cz : (escC ((bs s).drop (p + 2))).2 = 0
        · rw [if_pos cz] at ha
          exact (noTok_no ha).elim
        · rw [if_neg cz] at ha
          simp only [Prod.mk.injEq] at ha
          have hu : Utf8.decode u (q + 1) = (92, 1) := by
            rw [← hd]
            exact h.dec (by omega) (by rw [hd]; decide) (by rw [hd]; simp only; omega)
          rw [if_neg (by omega), hu, if_neg (by decide), if_pos rfl]
          have hL : escC ((bs u).drop (q + 2)) = escC ((bs s).drop (p + 2)) := escC_loc cz (h.take (m := (escC ((bs s).drop (p + 2))).2) (j := 2) (by omega))
          unfold escTok
          rw [hL, if_neg cz]
          simp only [Prod.mk.injEq]
          exact ⟨ha.1, by omega, trivial⟩
      · rw [if_neg c3] at ha
        by_cases c4 : Utf8.decode s (p + 1) = (65533, 1)
        · rw [if_pos c4] at ha
          exact (noTok_no ha).elim
        · rw [if_neg c4] at ha
          simp only [Prod.mk.injEq] at ha
          have hpos := Lib.width_pos s (p + 1)
          have hu := h.dec (j := 1) (by omega) c4 (by omega)
          rw [if_neg (by omega), hu, if_neg c2, if_neg c3, if_neg c4]
          simp only [Prod.mk.injEq]
          exact ⟨ha.1, by omega, trivial⟩
theorem find_loc {α : Type} {P P' : α → Bool} : ∀ {l : List α} {x : α}, l.find? P = some x → (∀ y ∈ l, P' y = true → P y = true) → P' x = true → l.find? P' = some x
  | [], x, h, _, _ => by simp at h
  | y :: l, x, h, hsub, hx => by
    rw [List.find?_cons] at h ⊢
    cases hy : P y with
    | true =>
      rw [hy] at h
      obtain rfl := Option.some.inj h
      rw [hx]
    | false =>
      rw [hy] at h
      have hy' : P' y = false := by
        cases hh : P' y with
        | false => rfl
        | true => rw [hsub y (List.mem_cons_self ..) hh] at hy; cases hy
      rw [hy']
      exact find_loc h (fun z hz => hsub z (List.mem_cons_of_mem _ hz)) hx
theorem pre_iff (s r : ByteArray) (k : Nat) (hk : k ≤ s.size) : Lib.hasPrefix (s.extract k s.size).data.toList r.data.toList = true ↔ k + r.size ≤ s.size ∧ ∀ j : Nat, j < r.size → bt s ((k + j : Nat) : Int) = bt r (j : Int) := by
  unfold Lib.hasPrefix
  rw [List.isPrefixOf_iff_prefix, List.prefix_iff_getElem?]
  have e1 : (s.extract k s.size).data.toList = s.data.toList.drop k := by
    rw [Lib.extract_data]
    rw [List.take_of_length_le (by simp)]
  rw [e1]
  constructor
  · intro h
    have hlen : k + r.size ≤ s.size := by
      by_cases h0 : r.size = 0
      · omega
      · have := h (r.size - 1) (by rw [← Lib.size_eq]; omega)
        rw [List.getElem?_drop] at this
        have := (List.getElem?_eq_some_iff.1 this).1
        rw [← Lib.size_eq] at this
        omega
    refine ⟨hlen, fun j hj => ?_⟩
    have := h j (by rw [← Lib.size_eq]; exact hj)
    rw [List.getElem?_drop] at this
    obtain ⟨g1, g2⟩ := List.getElem?_eq_some_iff.1 this
    rw [← btk s (k + j) (by omega), ← btk r j hj]
    exact congrArg (fun x : UInt8 => (x.toNat : Int)) g2
  · rintro ⟨hlen, h⟩ i hi
    rw [← Lib.size_eq] at hi
    rw [List.getElem?_drop, List.getElem?_eq_some_iff]
    refine ⟨by rw [← Lib.size_eq]; omega, ?_⟩
    have := h i hi
    rw [← btk s (k + i) (by omega), ← btk r i hi] at this
    have e : (s[k + i]'(by omega)).toNat = (r[i]'hi).toNat := by exact_mod_cast this
    exact UInt8.toNat_inj.1 e
theorem sign_hard : ∀ x ∈ signList, ∀ j : Nat, j < x.size → softB (bt x (j : Int)) = false := by
  intro x hx
  have : (signList.all fun x => (bs x).all fun c => !softB c) = true := by decide +kernel
  have h := List.all_eq_true.1 this x hx
  intro j hj
  have h2 := List.all_eq_true.1 h (bt x (j : Int)) (by rw [← bs_get x j hj]; exact List.getElem_mem _)
  simpa using h2
theorem signTok_loc (h : Ag s p u q n) (hn : 0 < n) {t : Tk} {e : Nat} (ha : signTok s p = (t, e, [])) (he : e ≤ p + n) : signTok u q = (t, q + (e - p), []) := by
  have h1 := h.l
  have h2 := h.l'
  unfold signTok at ha ⊢
  split at ha
  · rename_i x hx
    simp only [Prod.mk.injEq] at ha
    have hxs := List.find?_some hx
    rw [pre_iff s x p (by omega)] at hxs
    have hz : x.size ≤ n := by omega
    have hf : signList.find? (fun y => Lib.hasPrefix (u.extract q u.size).data.toList y.data.toList) = some x := by
      refine find_loc hx (fun y hy hp => ?_) ?_
      · rw [pre_iff u y q (by omega)] at hp
        rw [pre_iff s y p (by omega)]
        have hyn : y.size ≤ n := by
          rcases Nat.lt_or_ge n y.size with hlt | hge
          · exfalso
            have hb := hp.2 n hlt
            rcases h.sf with hs | hs
            · omega
            · rw [hb, sign_hard y hy n hlt] at hs
              cases hs
          · exact hge
        exact ⟨by omega, fun j hj => by rw [← h.eq j (by omega)]; exact hp.2 j hj⟩
      · rw [pre_iff u x q (by omega)]
        exact ⟨by omega, fun j hj => by rw [h.eq j (by omega)]; exact hxs.2 j hj⟩
    rw [hf]
    simp only [Prod.mk.injEq]
    exact ⟨ha.1, by omega, trivial⟩
  · exact (noTok_no ha).elim
/-- WHAT A TOKEN HANGS ON. -/
theorem tokenAt_loc (h : Ag s p u q n) (hn : 0 < n) {t : Tk} {e : Nat} (ha : tokenAt s p = (t, e, [])) (he : e ≤ p + n) : tokenAt u q = (t, q + (e - p), []) := by
  have h1 := h.l
  have h2 := h.l'
  unfold tokenAt at ha ⊢
  rw [h.head hn]
  by_cases c1 : (isSmall (bt s (p : Int)) || isCapital (bt s (p : Int)) || bt s (p : Int) == 95) = true
  · rw [if_pos c1] at ha ⊢
    exact wordTok_loc h hn ha he
  · rw [if_neg c1] at ha ⊢
    by_cases c2 : bt s (p : Int) = 39
    · rw [if_pos c2] at ha ⊢
      exact atomTok_loc h hn ha he
    · rw [if_neg c2] at ha ⊢
      by_cases c3 : isDigit (bt s (p : Int)) = true
      · rw [if_pos c3] at ha ⊢
        exact numTok_loc h hn ha he
      · rw [if_neg c3] at ha ⊢
        by_cases c4 : bt s (p : Int) = 36
        · rw [if_pos c4] at ha ⊢
          exact charTok_loc h ha he
        · rw [if_neg c4] at ha ⊢
          by_cases c5 : bt s (p : Int) = 46 ∧ (p + 1 = s.size ∨ isBlank (bt s ((p + 1 : Nat) : Int)) = true ∨ bt s ((p + 1 : Nat) : Int) = 37)
          · rw [if_pos c5] at ha
            simp only [Prod.mk.injEq] at ha
            have g : q + 1 = u.size ∨ isBlank (bt u ((q + 1 : Nat) : Int)) = true ∨ bt u ((q + 1 : Nat) : Int) = 37 := by
              by_cases g1 : 1 < n
              · rw [h.eq 1 g1]
                rcases c5.2 with g2 | g2
                · omega
                · exact .inr g2
              · obtain rfl : n = 1 := by omega
                rcases h.sf with hs | hs
                · exact .inl (by omega)
                · right
                  simp only [softB, Bool.or_eq_true, beq_iff_eq] at hs
                  exact hs
            rw [if_pos ⟨c5.1, g⟩]
            simp only [Prod.mk.injEq]
            exact ⟨ha.1, by omega, trivial⟩
          · rw [if_neg c5] at ha
            have hno : ¬ (bt s (p : Int) = 46 ∧ (q + 1 = u.size ∨ isBlank (bt u ((q + 1 : Nat) : Int)) = true ∨ bt u ((q + 1 : Nat) : Int) = 37)) := by
              rintro ⟨g46, _⟩
              unfold signTok at ha
              split at ha
              · rename_i x hx
                have hxs := List.find?_some hx
                have hm := List.mem_of_find?_eq_some hx
                rw [pre_iff s x p (by omega)] at hxs
                have := hxs.2 0 (sign_pos x hm)
                simp only [Nat.add_zero] at this
                rw [g46] at this
                have hall : (signList.all fun x => (bs x).head? != some 46) = true := by decide +kernel
                have h9 := List.all_eq_true.1 hall x hm
                have hb := bs_drop x 0 (sign_pos x hm)
                rw [List.drop_zero] at hb
                rw [hb] at h9
                have e0 : bt x ((0 : Nat) : Int) = 46 := this.symm
                rw [e0] at h9
                simp at h9
              · exact (noTok_no ha).elim
            rw [if_neg hno]
            exact signTok_loc h hn ha he
end
end Go.Proofs.YtgapeacflkfmdaaGreatDoor
namespace Go.Proofs.YtgapeacflkfmdaaGreatDoor
open Go.RowKit Go.Proofs.YtgapeacflkfmdaaGreatDoorW.PrintWords

/-- The tokens of s from p on, where each stands. -/
inductive Tr (s : ByteArray) : Nat → List Tk → Prop
  | nil {p : Nat} : s.size ≤ p → Tr s p []
  | cons {p e : Nat} {t : Tk} {M : List Tk} : p < s.size → tokenAt s p = (t, e, []) → Tr s (skipEnd s e) M → Tr s p (⟨t.kd, t.tx, t.nm, p⟩ :: M)

theorem tok_some {s : ByteArray} {p : Nat} (h : (tokenAt s p).2.2 = []) : tokenAt s p = ((tokenAt s p).1, (tokenAt s p).2.1, []) := by
  rw [← h]
theorem tok_gt {s : ByteArray} {p e : Nat} {t : Tk} (hp : p < s.size) (h : tokenAt s p = (t, e, [])) : p < e ∧ e ≤ s.size := by
  have := tok_range s p hp (by rw [h])
  rw [h] at this
  exact this
theorem scanFrom_end {s : ByteArray} {p : Nat} {acc : List Tk} (h : s.size ≤ p) : scanFrom s p acc = (acc, []) := by
  rw [scanFrom, dif_neg (by omega)]
theorem scanFrom_on {s : ByteArray} {p e : Nat} {t : Tk} {acc : List Tk} (hp : p < s.size) (ha : acc.length ≠ 65536) (h : tokenAt s p = (t, e, [])) : scanFrom s p acc = scanFrom s (skipEnd s e) (acc ++ [⟨t.kd, t.tx, t.nm, p⟩]) := by
  have hr := tok_gt hp h
  rw [scanFrom, dif_pos hp, if_neg ha, h, if_pos rfl, Nat.max_eq_left (show p + 1 ≤ e by omega)]
theorem scanFrom_tr {s : ByteArray} : ∀ (d p : Nat) (acc L : List Tk), s.size - p = d → acc.length ≤ 65536 → scanFrom s p acc = (L, []) → ∃ M, L = acc ++ M ∧ Tr s p M ∧ acc.length + M.length ≤ 65536 := by
  intro d
  induction d using Nat.strongRecOn with
  | _ d ih =>
    intro p acc L hd hc h
    by_cases hp : p < s.size
    · by_cases ha : acc.length = 65536
      · rw [scanFrom, dif_pos hp, if_pos ha] at h
        simp at h
      · by_cases ht : (tokenAt s p).2.2 = []
        · have hr := tok_gt hp (tok_some ht)
          have hg := skipEnd_ge s (tokenAt s p).2.1
          rw [scanFrom_on hp ha (tok_some ht)] at h
          obtain ⟨M, hL, hT, hc⟩ := ih _ (by omega) _ _ _ rfl (by simp; omega) h
          refine ⟨_ :: M, by rw [hL, List.append_assoc]; rfl, Tr.cons hp (tok_some ht) hT, ?_⟩
          simp only [List.length_append, List.length_cons, List.length_nil] at hc ⊢
          omega
        · rw [scanFrom, dif_pos hp, if_neg ha, if_neg ht] at h
          simp only [Prod.mk.injEq] at h
          exact absurd h.2 ht
    · rw [scanFrom_end (by omega)] at h
      simp only [Prod.mk.injEq] at h
      exact ⟨[], by rw [List.append_nil]; exact h.1.symm, Tr.nil (by omega), hc⟩
theorem tr_scanFrom {s : ByteArray} {p : Nat} {M : List Tk} (h : Tr s p M) : ∀ acc : List Tk, acc.length + M.length ≤ 65536 → scanFrom s p acc = (acc ++ M, []) := by
  induction h with
  | nil hp => intro acc _; rw [scanFrom_end hp, List.append_nil]
  | cons hp ht hT ih =>
    intro acc hl
    simp only [List.length_cons] at hl
    rw [scanFrom_on hp (by omega) ht, ih _ (by simp; omega), List.append_assoc]
    rfl
theorem Tr.len {s : ByteArray} {p : Nat} {M : List Tk} (h : Tr s p M) : M.length ≤ s.size - p := by
  induction h with
  | nil hp => simp
  | @cons p e t M hp ht hT ih =>
    have hr := tok_gt hp ht
    have hg := skipEnd_ge s e
    simp only [List.length_cons]
    omega
theorem lexScan_tr {s : ByteArray} {L : List Tk} (h : lexScan s = (L, [])) : s.size ≤ 65536 ∧ Tr s (skipEnd s 0) L := by
  unfold lexScan at h
  split at h
  · simp at h
  · obtain ⟨M, hL, hT, _⟩ := scanFrom_tr _ _ [] L rfl (by simp) h
    rw [List.nil_append] at hL
    exact ⟨by omega, by rw [hL]; exact hT⟩
theorem tr_lexScan {s : ByteArray} {L : List Tk} (hs : s.size ≤ 65536) (h : Tr s (skipEnd s 0) L) : lexScan s = (L, []) := by
  unfold lexScan
  have := h.len
  rw [if_neg (by omega), tr_scanFrom h [] (by simp; omega), List.nil_append]

/-! Where the faults stand. -/
theorem noTok_pl {k : Nat} {c : Int} {r : List Lk} : ∀ x l, (noTok (⟨nLex, k, c⟩ :: r)).2.2 = x :: l → x.pl = k := by
  intro x l h
  unfold noTok at h
  simp only [List.cons.injEq] at h
  rw [← h.1]
theorem atomTok_pl {s : ByteArray} {k : Nat} : ∀ x l, (atomTok s k).2.2 = x :: l → x.pl = k := by
  unfold atomTok
  split
  · intro x l h; cases h
  · exact noTok_pl
theorem numEnd_pl {k e : Nat} {r : Option Int} : ∀ x l, (numEnd k e r).2.2 = x :: l → x.pl = k := by
  cases r with
  | none => exact noTok_pl
  | some v => intro x l h; cases h
theorem numTok_pl {s : ByteArray} {k : Nat} : ∀ x l, (numTok s k).2.2 = x :: l → x.pl = k := by
  unfold numTok
  split
  · split
    · exact numEnd_pl
    · exact noTok_pl
  · exact numEnd_pl
theorem tokenAt_pl {s : ByteArray} {k : Nat} : ∀ x l, (tokenAt s k).2.2 = x :: l → x.pl = k := by
  unfold tokenAt wordTok charTok escTok signTok
  repeat' split
  all_goals first | exact noTok_pl | exact atomTok_pl | exact numTok_pl | (intro x l h; cases h)
theorem scanFrom_pl {s : ByteArray} : ∀ (d p : Nat) (acc : List Tk), s.size - p = d → ∀ x l, (scanFrom s p acc).2 = x :: l → (p : Int) ≤ x.pl := by
  intro d
  induction d using Nat.strongRecOn with
  | _ d ih =>
    intro p acc hd x l h
    rw [scanFrom] at h
    split at h
    · split at h
      · simp only [List.cons.injEq] at h
        rw [← h.1]
        exact Int.le_refl _
      · split at h
        · have hg := skipEnd_ge s (max (tokenAt s p).2.1 (p + 1))
          have := ih _ (by omega) _ _ rfl x l h
          omega
        · have := tokenAt_pl x l h
          omega
    · simp at h

/-! Blanks. -/
theorem skipEnd_stops {s : ByteArray} {k : Nat} (hk : k ≤ s.size) : skipEnd s k = s.size ∨ (skipEnd s k < s.size ∧ softB (bt s (skipEnd s k : Nat)) = false) := by
  induction k using skipEnd.induct (s := s) with
  | case1 k h hb ih => rw [skipEnd, dif_pos h, if_pos hb]; exact ih (by omega)
  | case2 k h hb hr ih => rw [skipEnd, dif_pos h, if_neg hb, if_pos hr]; exact ih (by have := runEnd_le (· != 10) s k (by omega); omega)
  | case3 k h hb hr =>
    rw [skipEnd, dif_pos h, if_neg hb, if_neg hr]
    refine .inr ⟨h, ?_⟩
    have hb' : isBlank (bt s (k : Int)) = false := by simpa using hb
    unfold softB
    rw [hb', Bool.false_or, beq_eq_false_iff_ne]
    exact hr
  | case4 k h => rw [skipEnd, dif_neg h]; exact .inl (by omega)
theorem skipEnd_soft {s : ByteArray} {k : Nat} (h : skipEnd s k ≠ k) : k < s.size ∧ softB (bt s (k : Int)) = true := by
  rw [skipEnd] at h
  split at h
  · rename_i hk
    refine ⟨hk, ?_⟩
    unfold softB
    split at h
    · rename_i hb; simp [hb]
    · split at h
      · rename_i hr; simp [hr]
      · exact absurd rfl h
  · exact absurd rfl h

/-! Behind a text and a line's end: anything. -/
theorem runEnd_first {s u : ByteArray} (hlt : s.size < u.size) (heq : ∀ j : Nat, j < s.size → bt u (j : Int) = bt s (j : Int)) (hnl : bt u (s.size : Nat) = 10) {k : Nat} (hk : k ≤ s.size) : runEnd (· != 10) u k = runEnd (· != 10) s k := by
  have hge := runEnd_ge (· != 10) s k
  have hle := runEnd_le (· != 10) s k hk
  have := runEnd_of (P := (· != 10)) (s := u) (runEnd (· != 10) s k - k) k (by omega) (fun j hj => by
    have := (runEnd_in (P := (· != 10)) (s := s) (k := k) (i := k + j) (by omega) (by omega))
    rw [heq _ this.2]; exact this.1) (.inr (by
    rw [show k + (runEnd (· != 10) s k - k) = runEnd (· != 10) s k by omega]
    rcases runEnd_at (P := (· != 10)) (s := s) _ k rfl with h | h
    · rw [show runEnd (· != 10) s k = s.size by omega, hnl]; rfl
    · by_cases hz : runEnd (· != 10) s k < s.size
      · rw [heq _ hz]; exact h
      · rw [show runEnd (· != 10) s k = s.size by omega, hnl]; rfl))
  omega
theorem skip_first {s u : ByteArray} (hlt : s.size < u.size) (heq : ∀ j : Nat, j < s.size → bt u (j : Int) = bt s (j : Int)) (hnl : bt u (s.size : Nat) = 10) {k : Nat} (hk : k ≤ s.size) : (skipEnd s k < s.size → skipEnd u k = skipEnd s k) ∧ (skipEnd s k = s.size → s.size < skipEnd u k) := by
  have tail : s.size < skipEnd u s.size := by
    rw [← skipEnd_blank hlt (by rw [hnl]; rfl)]
    exact skipEnd_ge u (s.size + 1)
  induction k using skipEnd.induct (s := s) with
  | case1 k h hb ih =>
    rw [← skipEnd_blank h hb, ← skipEnd_blank (s := u) (k := k) (by omega) (by rw [heq k h]; exact hb)]
    exact ih (by omega)
  | case2 k h hb hr ih =>
    have hle := runEnd_le (· != 10) s k (by omega)
    have hgt := run_gt (p := (· != 10)) h (by rw [hr]; rfl)
    rw [Nat.max_eq_left (by omega)] at ih
    rw [← skipEnd_rem h hr, ← skipEnd_rem (s := u) (k := k) (by omega) (by rw [heq k h]; exact hr), runEnd_first hlt heq hnl (by omega)]
    exact ih hle
  | case3 k h hb hr =>
    have hb' : isBlank (bt s (k : Int)) = false := by simpa using hb
    rw [skipEnd_stop h hb' hr, skipEnd_stop (s := u) (k := k) (by omega) (by rw [heq k h]; exact hb') (by rw [heq k h]; exact hr)]
    exact ⟨fun _ => rfl, fun hh => by omega⟩
  | case4 k h =>
    obtain rfl : k = s.size := by omega
    rw [skipEnd_out (Nat.le_refl _)]
    exact ⟨fun hh => by omega, fun _ => tail⟩
/-- THE LAW LexFirst, of the scan from a token on. -/
theorem first_from {s u : ByteArray} (hlt : s.size < u.size) (heq : ∀ j : Nat, j < s.size → bt u (j : Int) = bt s (j : Int)) (hnl : bt u (s.size : Nat) = 10) {p : Nat} {M : List Tk} (h : Tr s p M) : ∀ (k : Nat) (acc : List Tk), k ≤ s.size → p = skipEnd s k → acc.length + M.length ≤ 65536 →
    ((scanFrom u (skipEnd u k) acc).2 = [] → ∃ R, (scanFrom u (skipEnd u k) acc).1 = acc ++ M ++ R) ∧ (∀ x l, (scanFrom u (skipEnd u k) acc).2 = x :: l → (s.size : Int) < x.pl) := by
  induction h with
  | @nil p hp =>
    intro k acc hk hpk hl
    subst hpk
    have hle := skipEnd_le s k hk
    have hgt := (skip_first hlt heq hnl hk).2 (by omega)
    refine ⟨fun h0 => ?_, fun x l hx => ?_⟩
    · obtain ⟨M, hL, _, _⟩ := scanFrom_tr _ _ acc (scanFrom u (skipEnd u k) acc).1 rfl (by simp at hl; omega) (by rw [← h0])
      exact ⟨M, by rw [List.append_nil]; exact hL⟩
    · have := scanFrom_pl _ _ acc rfl x l hx
      omega
  | @cons p e t M hp ht hT ih =>
    intro k acc hk hpk hl
    simp only [List.length_cons] at hl
    subst hpk
    have hr := tok_gt hp ht
    have hA : Ag s (skipEnd s k) u (skipEnd s k) (s.size - skipEnd s k) := ⟨by omega, by omega, fun j hj => heq _ (by omega), .inr (by rw [show skipEnd s k + (s.size - skipEnd s k) = s.size by omega, hnl]; rfl)⟩
    have ht' := tokenAt_loc hA (by omega) ht (by omega)
    rw [show skipEnd s k + (e - skipEnd s k) = e by omega] at ht'
    rw [(skip_first hlt heq hnl hk).1 hp, scanFrom_on (by omega) (by omega) ht']
    have := ih e (acc ++ [⟨t.kd, t.tx, t.nm, (skipEnd s k : Nat)⟩]) hr.2 rfl (by simp; omega)
    rw [List.append_assoc acc] at this
    exact this
theorem bt_append {a b : ByteArray} {j : Nat} : bt (a ++ b) (j : Int) = if j < a.size then bt a (j : Int) else bt b ((j - a.size : Nat) : Int) := by
  by_cases h : j < a.size
  · rw [if_pos h, ← btk (a ++ b) j (by simp; omega), ← btk a j h, ByteArray.getElem_append_left h]
  · rw [if_neg h]
    by_cases h2 : j < (a ++ b).size
    · have h3 : j - a.size < b.size := by simp at h2; omega
      rw [← btk (a ++ b) j h2, ← btk b _ h3, ByteArray.getElem_append_right (by omega)]
    · rw [bt_out (by omega), bt_out (by simp at h2; omega)]
/-- THE LAW LexFirst. -/
theorem lex_first {s more : ByteArray} {L : List Tk} (h : lexScan s = (L, [])) (hs : s.size + 1 + more.size ≤ 65536) :
    ((lexScan (s ++ (⟨#[10]⟩ : ByteArray) ++ more)).2 = [] → ∃ R, (lexScan (s ++ (⟨#[10]⟩ : ByteArray) ++ more)).1 = L ++ R) ∧ (∀ x l, (lexScan (s ++ (⟨#[10]⟩ : ByteArray) ++ more)).2 = x :: l → (s.size : Int) < x.pl) := by
  obtain ⟨_, hT⟩ := lexScan_tr h
  have hsz : (s ++ (⟨#[10]⟩ : ByteArray) ++ more).size = s.size + 1 + more.size := by simp [ByteArray.size_append]; rfl
  have h1 : (s ++ (⟨#[10]⟩ : ByteArray)).size = s.size + 1 := by simp [ByteArray.size_append]; rfl
  have hl := hT.len
  have key := first_from (u := s ++ (⟨#[10]⟩ : ByteArray) ++ more) (by omega) (fun j hj => by rw [bt_append, if_pos (by omega), bt_append, if_pos hj]) (by
    rw [bt_append, if_pos (by omega), bt_append, if_neg (by omega), Nat.sub_self]; rfl) hT 0 [] (Nat.zero_le _) rfl (by simp; omega)
  unfold lexScan
  rw [if_neg (by omega)]
  simpa using key

/-! A token's own text. -/
section
variable {s : ByteArray} {a m : Nat}
theorem cut_bt {j : Nat} (hm : m ≤ s.size) (hj : a + j < m) : bt (s.extract a m) (j : Int) = bt s ((a + j : Nat) : Int) := by
  have := bt_ext (s := s) (a := a) (n := m - a) (j := j) (by omega) (by omega)
  rwa [show a + (m - a) = m by omega] at this
theorem skip_cut (hm : m ≤ s.size) {k : Nat} (hk : a ≤ k) (he : skipEnd s k = m) : skipEnd (s.extract a m) (k - a) = m - a := by
  have hsz : (s.extract a m).size = m - a := by simp; omega
  induction k using skipEnd.induct (s := s) with
  | case1 k h hb ih =>
    have hge := skipEnd_ge s (k + 1)
    rw [← skipEnd_blank h hb] at he
    have := ih (by omega) he
    rw [← skipEnd_blank (s := s.extract a m) (k := k - a) (by omega) (by rw [cut_bt hm (by omega), show a + (k - a) = k by omega]; exact hb), show k - a + 1 = k + 1 - a by omega]
    exact this
  | case2 k h hb hr ih =>
    have hgt := run_gt (p := (· != 10)) h (by rw [hr]; rfl)
    rw [Nat.max_eq_left (by omega)] at ih
    rw [← skipEnd_rem h hr] at he
    have hge := skipEnd_ge s (runEnd (· != 10) s k)
    have := ih (by omega) he
    have hrun : runEnd (· != 10) (s.extract a m) (k - a) = runEnd (· != 10) s k - a := by
      rw [runEnd_of (P := (· != 10)) (s := s.extract a m) (runEnd (· != 10) s k - k) (k - a) (by omega) (fun j hj => by
        have h9 := (runEnd_in (P := (· != 10)) (s := s) (k := k) (i := k + j) (by omega) (by omega)).1
        rw [cut_bt hm (by omega), show a + (k - a + j) = k + j by omega]; exact h9) (by
        by_cases hz : runEnd (· != 10) s k = m
        · left; omega
        · right
          rw [cut_bt hm (by omega), show a + (k - a + (runEnd (· != 10) s k - k)) = runEnd (· != 10) s k by omega]
          rcases runEnd_at (P := (· != 10)) (s := s) _ k rfl with h8 | h8
          · omega
          · exact h8)]
      omega
    rw [← skipEnd_rem (s := s.extract a m) (k := k - a) (by omega) (by rw [cut_bt hm (by omega), show a + (k - a) = k by omega]; exact hr), hrun]
    exact this
  | case3 k h hb hr =>
    rw [skipEnd_stop h (by simpa using hb) hr] at he
    subst he
    rw [skipEnd_out (by omega)]
  | case4 k h =>
    rw [skipEnd_out (by omega)] at he
    subst he
    rw [skipEnd_out (by omega)]
/-- THE LAW LexCut: one token's text, up to the next one. -/
theorem cut_scan {e : Nat} {t : Tk} (hs : s.size ≤ 65536) (ha : a < s.size) (hsoft : softB (bt s (a : Int)) = false) (ht : tokenAt s a = (t, e, [])) : lexScan (s.extract a (skipEnd s e)) = ([⟨t.kd, t.tx, t.nm, 0⟩], []) := by
  have hr := tok_gt ha ht
  have hge := skipEnd_ge s e
  have hle := skipEnd_le s e hr.2
  have hsz : (s.extract a (skipEnd s e)).size = skipEnd s e - a := by simp; omega
  have hA : Ag s a (s.extract a (skipEnd s e)) 0 (e - a) := by
    refine ⟨by omega, by omega, fun j hj => by rw [Nat.zero_add, cut_bt hle (by omega)], ?_⟩
    rw [Nat.zero_add]
    by_cases hz : skipEnd s e = e
    · left; omega
    · right
      rw [cut_bt hle (by omega), show a + (e - a) = e by omega]
      exact (skipEnd_soft hz).2
  have ht' := tokenAt_loc hA (by omega) ht (by omega)
  have h0 : skipEnd (s.extract a (skipEnd s e)) 0 = 0 := by
    by_cases hz : skipEnd (s.extract a (skipEnd s e)) 0 = 0
    · exact hz
    · have := (skipEnd_soft hz).2
      rw [cut_bt hle (by omega), Nat.add_zero, hsoft] at this
      cases this
  refine tr_lexScan (by omega) ?_
  rw [h0]
  refine Tr.cons (by omega) ht' ?_
  rw [Nat.zero_add, skip_cut hle (by omega) rfl]
  exact Tr.nil (by omega)
end
end Go.Proofs.YtgapeacflkfmdaaGreatDoor
namespace Go.Proofs.YtgapeacflkfmdaaGreatDoor
open Go.RowKit Go.Proofs.YtgapeacflkfmdaaGreatDoorW.PrintWords

theorem tok_hard {s : ByteArray} {p e : Nat} {t : Tk} (hp : p < s.size) (h : tokenAt s p = (t, e, [])) : softB (bt s (p : Int)) = false := by
  cases hs : softB (bt s (p : Int)) with
  | false => rfl
  | true =>
    exfalso
    have hc := soft_cases hs
    unfold tokenAt at h
    rw [if_neg (by rcases hc with g | g | g | g | g <;> rw [g] <;> decide), if_neg (by omega), if_neg (by rcases hc with g | g | g | g | g <;> rw [g] <;> decide), if_neg (by omega), if_neg (by omega)] at h
    unfold signTok at h
    split at h
    · rename_i x hx
      have hxs := List.find?_some hx
      have hm := List.mem_of_find?_eq_some hx
      rw [pre_iff s x p (by omega)] at hxs
      have h1 := hxs.2 0 (sign_pos x hm)
      have h2 := sign_hard x hm 0 (sign_pos x hm)
      rw [← h1, Nat.add_zero, hs] at h2
      cases h2
    · exact noTok_no h

/-! A text of numbers. -/
theorem bs_strOf : ∀ {l : List Int}, (∀ c ∈ l, 0 ≤ c ∧ c ≤ 255) → bs (strOfNums l) = l := by
  intro l h
  apply List.ext_getElem
  · rw [bs_len, strOfNums_size]
  · intro i h1 h2
    rw [bs_len] at h1
    rw [bs_get _ i h1, ← btk _ i h1]
    have hc := h l[i] (List.getElem_mem _)
    have e : (strOfNums l)[i]'h1 = UInt8.ofNat l[i].toNat := by
      show (strOfNums l).data[i]'h1 = _
      simp [strOfNums]
    rw [e]
    simp
    omega
theorem strOf_bs (s : ByteArray) : strOfNums (bs s) = s := by
  refine ba_ext (by rw [strOfNums_size, bs_len]) (fun j hj => ?_)
  have hb : ∀ c ∈ bs s, 0 ≤ c ∧ c ≤ 255 := by
    intro c hc
    obtain ⟨i, hi, rfl⟩ := List.getElem_of_mem hc
    rw [bs_get s i (by rw [← bs_len]; exact hi)]
    exact bt_range s i
  have h1 : j < s.size := by rw [strOfNums_size, bs_len] at hj; exact hj
  rw [← bs_get (strOfNums (bs s)) j hj, ← bs_get s j h1]
  congr 1
  exact bs_strOf hb
theorem bs_range (s : ByteArray) : ∀ c ∈ bs s, 0 ≤ c ∧ c ≤ 255 := by
  intro c hc
  obtain ⟨i, hi, rfl⟩ := List.getElem_of_mem hc
  rw [bs_get s i (by rw [← bs_len]; exact hi)]
  exact bt_range s i
/-- A text's byte and what stands behind it, out of its list. -/
theorem at_list {x : ByteArray} {A R : List Int} {c : Int} (h : bs x = A ++ c :: R) : A.length < x.size ∧ bt x (A.length : Nat) = c ∧ (bs x).drop (A.length + 1) = R := by
  have h1 : A.length < x.size := by
    rw [← bs_len, h]
    simp
  have h2 := bs_drop x A.length h1
  rw [h, List.drop_left] at h2
  simp only [List.cons.injEq] at h2
  refine ⟨h1, h2.1.symm, ?_⟩
  rw [h]
  exact h2.2.symm

theorem hex_back {a : Int} (h0 : 0 ≤ a) (h1 : a < 16) : hexOf (hexD a) = a := by
  unfold hexOf hexD isDigit
  by_cases h : a < 10
  · rw [if_pos h, if_pos (by simp; omega)]
    omega
  · rw [if_neg h, if_neg (by simp; omega), if_pos (by simp; omega)]
    omega
theorem qB_step {x : ByteArray} {A R : List Int} {c : Int} (hc0 : 0 ≤ c) (hc1 : c ≤ 255) (h : bs x = A ++ (qB c ++ R)) (hR : R ≠ []) (f : Nat) (acc : List Int) :
    qLoop x f A.length acc = qLoop x f (A.length + (qB c).length) (acc ++ [c]) := by
  have hsz : x.size = A.length + ((qB c).length + R.length) := by rw [← bs_len, h]; simp
  have hRl : 0 < R.length := List.length_pos_iff.2 hR
  -- an escape: a backslash and one letter
  have esc1 : ∀ d : Int, qB c = [92, d] → escOf (d :: R) = (c, 1) → qLoop x f A.length acc = qLoop x f (A.length + (qB c).length) (acc ++ [c]) := by
    intro d hq he
    rw [hq] at h hsz ⊢
    obtain ⟨g1, g2, g3⟩ := at_list (c := 92) (R := d :: R) (by simpa using h)
    rw [qLoop, dif_pos g1, g2, if_neg (by decide), if_neg (by decide), if_pos rfl, if_neg (by simp at hsz; omega), g3, he, if_neg (show ¬ (1 : Nat) = 0 by decide)]
    rfl
  unfold qB at *
  by_cases c1 : c = 39 ∨ c = 92
  · simp only [if_pos c1] at *
    refine esc1 c rfl ?_
    rcases c1 with rfl | rfl <;> rfl
  · simp only [if_neg c1] at *
    by_cases c2 : c = 10
    · subst c2
      exact esc1 110 rfl rfl
    · simp only [if_neg c2] at *
      by_cases c3 : c = 9
      · subst c3
        exact esc1 116 rfl rfl
      · simp only [if_neg c3] at *
        by_cases c4 : c = 13
        · subst c4
          exact esc1 114 rfl rfl
        · simp only [if_neg c4] at *
          by_cases c5 : c < 32 ∨ c = 127
          · simp only [if_pos c5] at *
            obtain ⟨g1, g2, g3⟩ := at_list (c := 92) (R := 120 :: hexD (c / 16) :: hexD (c % 16) :: R) (by simpa using h)
            have he : escOf (120 :: hexD (c / 16) :: hexD (c % 16) :: R) = (c, 3) := by
              show escX (hexD (c / 16) :: hexD (c % 16) :: R) = (c, 3)
              have e1 := hex_back (a := c / 16) (by omega) (by omega)
              have e2 := hex_back (a := c % 16) (by omega) (by omega)
              simp only [escX]
              rw [e1, e2, if_pos ⟨by omega, by omega⟩]
              simp only [Prod.mk.injEq, and_true]
              omega
            rw [qLoop, dif_pos g1, g2, if_neg (by decide), if_neg (by decide), if_pos rfl, if_neg (by simp at hsz; omega), g3, he, if_neg (show ¬ (3 : Nat) = 0 by decide)]
            rfl
          · simp only [if_neg c5] at *
            obtain ⟨g1, g2, g3⟩ := at_list (c := c) (R := R) (by simpa using h)
            rw [qLoop, dif_pos g1, g2, if_neg (by omega), if_neg (by omega), if_neg (by omega)]
            rfl
theorem q_all {x : ByteArray} {f : Nat} : ∀ (B A acc : List Int), (∀ c ∈ B, 0 ≤ c ∧ c ≤ 255) → bs x = A ++ (B.flatMap qB ++ [39]) → (acc ++ B).length ≤ 255 → utfBad (strOfNums (acc ++ B)) 0 < 0 → qLoop x f A.length acc = (strOfNums (acc ++ B), x.size, [])
  | [], A, acc, _, h, hl, hu => by
    obtain ⟨g1, g2, g3⟩ := at_list (c := 39) (R := []) (by simpa using h)
    have hsz : x.size = A.length + 1 := by rw [← bs_len, h]; simp
    rw [List.append_nil] at hl hu ⊢
    rw [qLoop, dif_pos g1, g2, if_pos rfl, if_neg (by omega), if_neg (by omega), hsz]
  | c :: B, A, acc, hb, h, hl, hu => by
    have hc := hb c (List.mem_cons_self ..)
    rw [List.flatMap_cons, List.append_assoc] at h
    rw [qB_step hc.1 hc.2 h (by simp), ← List.length_append, q_all B (A ++ qB c) (acc ++ [c]) (fun d hd => hb d (List.mem_cons_of_mem _ hd)) (by rw [h, List.append_assoc]) (by simpa using hl) (by simpa using hu)]
    simp
theorem quoted_scan {tx : ByteArray} (hl : tx.size ≤ 255) (hu : utfBad tx 0 < 0) : tokenAt (strOfNums (quoteOf tx)) 0 = (⟨1, tx, 0, 0⟩, (strOfNums (quoteOf tx)).size, []) := by
  have hbytes : ∀ c ∈ quoteOf tx, 0 ≤ c ∧ c ≤ 255 := by
    intro c hc
    unfold quoteOf at hc
    simp only [List.mem_cons, List.mem_append, List.mem_flatMap, List.not_mem_nil, or_false] at hc
    rcases hc with rfl | ⟨d, hd, hc⟩ | rfl
    · omega
    · have hr := bs_range tx d hd
      unfold qB at hc
      have hx : ∀ a : Int, 0 ≤ a → a < 16 → 0 ≤ hexD a ∧ hexD a ≤ 255 := by
        intro a h0 h1
        unfold hexD
        split <;> omega
      have h3 := hx (d / 16) (by omega) (by omega)
      have h4 := hx (d % 16) (by omega) (by omega)
      repeat' split at hc
      all_goals (simp at hc; omega)
    · omega
  have hb : bs (strOfNums (quoteOf tx)) = [39] ++ ((bs tx).flatMap qB ++ [39]) := by rw [bs_strOf hbytes]; rfl
  obtain ⟨g1, g2, _⟩ := at_list (x := strOfNums (quoteOf tx)) (A := []) (c := 39) (R := (bs tx).flatMap qB ++ [39]) hb
  have g2' : bt (strOfNums (quoteOf tx)) ((0 : Nat) : Int) = 39 := g2
  have hq := q_all (x := strOfNums (quoteOf tx)) (f := 0) (bs tx) [39] [] (bs_range tx) hb (by rw [List.nil_append, bs_len]; exact hl) (by rw [List.nil_append, strOf_bs]; exact hu)
  rw [List.nil_append, strOf_bs] at hq
  have ha : aScan (strOfNums (quoteOf tx)) 0 = (tx, (strOfNums (quoteOf tx)).size, []) := by
    unfold aScan
    rw [if_pos ⟨g1, g2'⟩]
    exact hq
  unfold tokenAt
  rw [g2', if_neg (by decide), if_pos rfl]
  unfold atomTok
  rw [ha]
theorem ext_all (x : ByteArray) : x.extract 0 x.size = x := ByteArray.extract_zero_size
theorem plain_scan {x : ByteArray} (hp : isPlain x = true) (hl : x.size ≤ 255) : tokenAt x 0 = (⟨1, x, 0, 0⟩, x.size, []) := by
  unfold isPlain at hp
  simp only [Bool.and_eq_true, decide_eq_true_eq, Bool.not_eq_true'] at hp
  obtain ⟨⟨⟨h1, h2⟩, h3⟩, h4⟩ := hp
  have h2' : isSmall (bt x ((0 : Nat) : Int)) = true := h2
  have c39 : ¬ bt x ((0 : Nat) : Int) = 39 := by
    intro hh
    rw [hh] at h2'
    cases h2'
  unfold tokenAt
  rw [if_pos (by rw [h2']; rfl)]
  unfold wordTok
  rw [h3, ext_all, if_neg (by rw [h4]; decide), if_pos h2']
  have ha : aScan x 0 = (x, x.size, []) := by
    unfold aScan
    rw [if_neg (fun hh => c39 hh.2), if_neg (by rw [h2']; simp; omega), h3, ext_all, if_neg (by omega), if_neg (by rw [h4]; decide)]
  unfold atomTok
  rw [ha]
theorem var_scan {x : ByteArray} (hv : isVar x = true) : tokenAt x 0 = (⟨2, x, 0, 0⟩, x.size, []) := by
  unfold isVar at hv
  simp only [Bool.and_eq_true, decide_eq_true_eq] at hv
  obtain ⟨⟨⟨h1, h2⟩, h3⟩, h4⟩ := hv
  have h3' : isUpper (bt x ((0 : Nat) : Int)) = true := h3
  have hns : isSmall (bt x ((0 : Nat) : Int)) = false := by
    unfold isUpper isCapital at h3'
    unfold isSmall
    simp only [Bool.or_eq_true, Bool.and_eq_true, decide_eq_true_eq, beq_iff_eq] at h3'
    generalize bt x ((0 : Nat) : Int) = z at h3' ⊢
    simp
    omega
  have hr : isRes x = false := by
    have := upper_word (s := x) (k := 0) h1 hns
    rwa [h4, ext_all] at this
  unfold tokenAt
  rw [if_pos (by unfold isUpper at h3'; rw [hns]; simpa using h3')]
  unfold wordTok
  rw [h4, ext_all, if_neg (by rw [hr]; decide), if_neg (by rw [hns]; decide), if_neg (by omega)]

/-! Numbers. -/
theorem parse_app {b m : Int} : ∀ (l1 l2 : List Int) (n : Int), parseN b m n (l1 ++ l2) = (parseN b m n l1).bind fun v => parseN b m v l2
  | [], l2, n => rfl
  | c :: l1, l2, n => by
    rw [List.cons_append, parseN, parseN]
    split
    · rfl
    · split
      · rfl
      · exact parse_app l1 l2 _
def decL (u : Nat) : List Int := (Lib.decDigits u).map fun c => (c.toNat : Int)
theorem dig_byte {d : Nat} (h : d < 10) : ((UInt8.ofNat (48 + d)).toNat : Int) = 48 + d := by
  simp
  omega
theorem decL_eq (u : Nat) : decL u = if u < 10 then [48 + (u : Int)] else decL (u / 10) ++ [48 + ((u % 10 : Nat) : Int)] := by
  unfold decL
  rw [Lib.decDigits]
  split
  · rename_i h
    rw [List.map_singleton, dig_byte h]
  · rw [List.map_append, List.map_singleton, dig_byte (Nat.mod_lt _ (by decide))]
theorem decL_digit (u : Nat) : ∀ c ∈ decL u, isDigit c = true := by
  induction u using Nat.strongRecOn with
  | _ u ih =>
    rw [decL_eq]
    split
    · intro c hc
      simp only [List.mem_singleton] at hc
      subst hc
      unfold isDigit
      simp
      omega
    · intro c hc
      rw [List.mem_append] at hc
      rcases hc with hc | hc
      · exact ih _ (by omega) c hc
      · simp only [List.mem_singleton] at hc
        subst hc
        unfold isDigit
        simp
        omega
theorem val_dig {d : Nat} (h : d < 10) : valOf (48 + (d : Int)) = d := by
  unfold valOf
  rw [if_pos (by unfold isDigit; simp; omega)]
  omega
theorem parse_decL {m : Int} (u : Nat) (hm : (u : Int) ≤ m) : parseN 10 m 0 (decL u) = some (u : Int) := by
  induction u using Nat.strongRecOn with
  | _ u ih =>
    rw [decL_eq]
    split
    · rename_i h
      rw [parseN, val_dig h, if_neg (by omega), if_neg (by omega), parseN]
      simp
    · rw [parse_app, ih (u / 10) (by omega) (by omega), Option.bind_some, parseN, val_dig (Nat.mod_lt _ (by decide)), if_neg (by omega), if_neg (by omega), parseN]
      congr 1
      omega
theorem decL_pos (u : Nat) : 0 < (decL u).length := by
  rw [decL_eq]
  split <;> simp
theorem bs_map (x : ByteArray) : bs x = x.data.toList.map fun c => (c.toNat : Int) := by
  apply List.ext_getElem
  · rw [bs_len, List.length_map, Lib.size_eq]
  · intro i h1 h2
    rw [bs_len] at h1
    rw [bs_get _ i h1, ← btk _ i h1, List.getElem_map]
    rfl
theorem num_scan {n : Int} (h0 : 0 ≤ n) (h1 : n ≤ 576460752303423487) : tokenAt ⟨(Lib.itoa n).toArray⟩ 0 = (⟨3, ⟨#[]⟩, n, 0⟩, (⟨(Lib.itoa n).toArray⟩ : ByteArray).size, []) ∧ 0 < (⟨(Lib.itoa n).toArray⟩ : ByteArray).size := by
  obtain ⟨u, rfl⟩ := Int.eq_ofNat_of_zero_le h0
  rw [Lib.itoa_nonneg]
  have hb : bs ⟨(Lib.decDigits u).toArray⟩ = decL u := by rw [bs_map]; rfl
  obtain ⟨x, hx⟩ : ∃ x : ByteArray, x = ⟨(Lib.decDigits u).toArray⟩ := ⟨_, rfl⟩
  rw [← hx] at hb ⊢
  have hpos : 0 < x.size := by rw [← bs_len, hb]; exact decL_pos u
  have hd : ∀ j : Nat, j < x.size → isDigit (bt x (j : Int)) = true := by
    intro j hj
    rw [← bs_get x j hj]
    exact decL_digit u _ (by rw [← hb]; exact List.getElem_mem _)
  have hr : runEnd isDigit x 0 = x.size := by
    have := runEnd_of (P := isDigit) (s := x) x.size 0 (by omega) (fun j hj => by rw [Nat.zero_add]; exact hd j hj) (.inl (by omega))
    rwa [Nat.zero_add] at this
  have h0' := hd 0 hpos
  have hc : 48 ≤ bt x ((0 : Nat) : Int) ∧ bt x ((0 : Nat) : Int) ≤ 57 := by
    unfold isDigit at h0'
    simpa using h0'
  refine ⟨?_, hpos⟩
  unfold tokenAt
  have hno : ∀ z : Int, 48 ≤ z ∧ z ≤ 57 → ¬ (isSmall z || isCapital z || z == 95) = true := by
    intro z hz
    unfold isSmall isCapital
    simp
    omega
  rw [if_neg (hno _ hc), if_neg (by omega), if_pos h0']
  unfold numTok
  rw [hr, if_neg (by omega), ext_all]
  unfold numVal
  rw [if_neg (by omega), hb, parse_decL u h1]
  rfl

theorem res_all : ∀ l ∈ resList, (0 < l.length ∧ tokenAt ⟨l.toArray⟩ 0 = (⟨4, ⟨l.toArray⟩, 0, 0⟩, l.length, [])) := by
  have h : (resList.all fun l => decide (0 < l.length) && decide (tokenAt ⟨l.toArray⟩ 0 = (⟨4, ⟨l.toArray⟩, 0, 0⟩, l.length, []))) = true := by decide +kernel
  intro l hl
  have := List.all_eq_true.1 h l hl
  simpa using this
theorem sign_all : ∀ x ∈ signList, tokenAt x 0 = (⟨5, x, 0, 0⟩, x.size, []) := by
  have h : (signList.all fun x => decide (tokenAt x 0 = (⟨5, x, 0, 0⟩, x.size, []))) = true := by decide +kernel
  intro x hx
  have := List.all_eq_true.1 h x hx
  simpa using this
theorem dot_scan : tokenAt ⟨#[46]⟩ 0 = (⟨6, ⟨#[]⟩, 0, 0⟩, 1, []) := by decide +kernel
theorem empty_of {x : ByteArray} (h : x.size = 0) : x = ⟨#[]⟩ := ba_ext (by rw [h]; rfl) (fun j hj => by omega)
/-- WHAT A TOKEN IS WRITTEN AS IS THAT TOKEN. -/
theorem wr_scan {t : Tk} {x : ByteArray} (h : wrTok t = (x, [])) : tokenAt x 0 = (⟨t.kd, t.tx, t.nm, 0⟩, x.size, []) ∧ 0 < x.size := by
  obtain ⟨kd, tx, nm, at_⟩ := t
  unfold wrTok at h
  simp only at h ⊢
  have bad : badArg = (x, []) → False := by
    intro hb
    unfold badArg at hb
    simp at hb
  by_cases k1 : kd = 1
  · rw [if_pos k1] at h
    by_cases hc : nm = 0 ∧ (quoted tx).2 = []
    · rw [if_pos hc] at h
      obtain ⟨rfl, hq⟩ := hc
      subst k1
      unfold quoted at h hq
      by_cases g1 : tx.size > 255
      · rw [if_pos g1] at hq
        cases hq
      · rw [if_neg g1] at h hq
        by_cases g2 : 0 ≤ utfBad tx 0
        · rw [if_pos g2] at hq
          cases hq
        · rw [if_neg g2] at h hq
          by_cases g3 : isPlain tx = true
          · rw [if_pos g3] at h
            simp only [Prod.mk.injEq] at h
            obtain ⟨rfl, _⟩ := h
            refine ⟨plain_scan g3 (by omega), ?_⟩
            unfold isPlain at g3
            simp only [Bool.and_eq_true, decide_eq_true_eq] at g3
            exact g3.1.1.1
          · rw [if_neg g3] at h
            simp only [Prod.mk.injEq] at h
            obtain ⟨rfl, _⟩ := h
            refine ⟨quoted_scan (by omega) (by omega), ?_⟩
            rw [strOfNums_size]
            unfold quoteOf
            simp
    · rw [if_neg hc] at h
      exact (bad h).elim
  · rw [if_neg k1] at h
    by_cases k3 : kd = 3
    · rw [if_pos k3] at h
      by_cases hc : tx.size = 0 ∧ 0 ≤ nm ∧ nm ≤ 576460752303423487
      · rw [if_pos hc] at h
        simp only [Prod.mk.injEq] at h
        obtain ⟨rfl, _⟩ := h
        subst k3
        rw [empty_of hc.1]
        exact num_scan hc.2.1 hc.2.2
      · rw [if_neg hc] at h
        exact (bad h).elim
    · rw [if_neg k3] at h
      by_cases k6 : kd = 6
      · rw [if_pos k6] at h
        by_cases hc : tx.size = 0 ∧ nm = 0
        · rw [if_pos hc] at h
          simp only [Prod.mk.injEq] at h
          obtain ⟨rfl, _⟩ := h
          subst k6
          rw [empty_of hc.1, hc.2]
          exact ⟨dot_scan, by decide⟩
        · rw [if_neg hc] at h
          exact (bad h).elim
      · rw [if_neg k6] at h
        by_cases kn : nm ≠ 0
        · rw [if_pos kn] at h
          exact (bad h).elim
        · rw [if_neg kn] at h
          have hn : nm = 0 := by omega
          subst hn
          by_cases k2 : kd = 2
          · rw [if_pos k2] at h
            by_cases hc : isVar tx = true
            · rw [if_pos hc] at h
              simp only [Prod.mk.injEq] at h
              obtain ⟨rfl, _⟩ := h
              subst k2
              refine ⟨var_scan hc, ?_⟩
              unfold isVar at hc
              simp only [Bool.and_eq_true, decide_eq_true_eq] at hc
              exact hc.1.1.1
            · rw [if_neg hc] at h
              exact (bad h).elim
          · rw [if_neg k2] at h
            by_cases k4 : kd = 4
            · rw [if_pos k4] at h
              by_cases hc : isRes tx = true
              · rw [if_pos hc] at h
                simp only [Prod.mk.injEq] at h
                obtain ⟨rfl, _⟩ := h
                subst k4
                obtain ⟨r, hr, rfl⟩ := isRes_yes hc
                have := res_all r hr
                exact ⟨this.2, this.1⟩
              · rw [if_neg hc] at h
                exact (bad h).elim
            · rw [if_neg k4] at h
              by_cases k5 : kd = 5
              · rw [if_pos k5] at h
                by_cases hc : Lib.containsS signList tx = true
                · rw [if_pos hc] at h
                  simp only [Prod.mk.injEq] at h
                  obtain ⟨rfl, _⟩ := h
                  subst k5
                  have hm := (Lib.containsS_iff _ _).1 hc
                  exact ⟨sign_all tx hm, sign_pos tx hm⟩
                · rw [if_neg hc] at h
                  exact (bad h).elim
              · rw [if_neg k5] at h
                exact (bad h).elim
/-- A token's text alone. -/
theorem wr_lexScan {t : Tk} {x : ByteArray} (h : wrTok t = (x, [])) (hs : x.size ≤ 65536) : lexScan x = ([⟨t.kd, t.tx, t.nm, 0⟩], []) := by
  obtain ⟨h1, h2⟩ := wr_scan h
  have hh := tok_hard h2 h1
  refine tr_lexScan hs ?_
  have h0 : skipEnd x 0 = 0 := by
    by_cases hz : skipEnd x 0 = 0
    · exact hz
    · have := (skipEnd_soft hz).2
      rw [hh] at this
      cases this
  rw [h0]
  refine Tr.cons (t := ⟨t.kd, t.tx, t.nm, 0⟩) h2 h1 ?_
  rw [skipEnd_out (Nat.le_refl _)]
  exact Tr.nil (Nat.le_refl _)

/-! What is scanned can be written. -/
theorem utf_ascii {x : ByteArray} (h : ∀ j : Nat, j < x.size → bt x (j : Int) < 128) : ∀ (d k : Nat), x.size - k = d → utfBad x k = -1 := by
  intro d
  induction d using Nat.strongRecOn with
  | _ d ih =>
    intro k hd
    by_cases hk : k < x.size
    · have hb := get_bt x k hk
      have hlt := h k hk
      have hdec := dec_asc (s := x) (i := k) (by omega)
      rw [← utfBad_on hk (by rw [hdec]; intro hh; simp only [Prod.mk.injEq] at hh; omega), hdec]
      exact ih _ (by simp only; omega) _ rfl
    · exact utfBad_out (by omega)
theorem in_ascii {c : Int} (h : isIn c = true) : c < 128 := by
  unfold isIn isSmall isCapital isDigit at h
  simp only [Bool.or_eq_true, Bool.and_eq_true, decide_eq_true_eq, beq_iff_eq] at h
  omega
theorem run_bt {s : ByteArray} {p j : Nat} (hp : p ≤ s.size) (hj : j < (s.extract p (runEnd isIn s p)).size) : isIn (bt (s.extract p (runEnd isIn s p)) (j : Int)) = true := by
  have hle := runEnd_le isIn s p hp
  have hge := runEnd_ge isIn s p
  have hsz : (s.extract p (runEnd isIn s p)).size = runEnd isIn s p - p := by simp; omega
  rw [cut_bt hle (by omega)]
  exact (runEnd_in (P := isIn) (s := s) (k := p) (i := p + j) (by omega) (by omega)).1
theorem qLoop_ok (s : ByteArray) (f i : Nat) (acc : List Int) : ∀ x e, qLoop s f i acc = (x, e, []) → x.size ≤ 255 ∧ utfBad x 0 < 0 := by
  induction i, acc using qLoop.induct (s := s) with
  | case1 i acc h h39 hl => intro x e hq; rw [qLoop, dif_pos h, if_pos h39, if_pos hl] at hq; exact (noGot_no hq).elim
  | case2 i acc h h39 hl hu => intro x e hq; rw [qLoop, dif_pos h, if_pos h39, if_neg hl, if_pos hu] at hq; exact (noGot_no hq).elim
  | case3 i acc h h39 hl hu =>
    intro x e hq
    rw [qLoop, dif_pos h, if_pos h39, if_neg hl, if_neg hu] at hq
    simp only [Prod.mk.injEq] at hq
    rw [← hq.1, strOfNums_size]
    exact ⟨by omega, by omega⟩
  | case4 i acc h h39 hc => intro x e hq; rw [qLoop, dif_pos h, if_neg h39, if_pos hc] at hq; exact (noGot_no hq).elim
  | case5 i acc h h39 hc h92 he => intro x e hq; rw [qLoop, dif_pos h, if_neg h39, if_neg hc, if_pos h92, if_pos he] at hq; exact (noGot_no hq).elim
  | case6 i acc h h39 hc h92 he hz => intro x e hq; rw [qLoop, dif_pos h, if_neg h39, if_neg hc, if_pos h92, if_neg he, if_pos hz] at hq; exact (noGot_no hq).elim
  | case7 i acc h h39 hc h92 he hz ih => intro x e hq; rw [qLoop, dif_pos h, if_neg h39, if_neg hc, if_pos h92, if_neg he, if_neg hz] at hq; exact ih x e hq
  | case8 i acc h h39 hc h92 ih => intro x e hq; rw [qLoop, dif_pos h, if_neg h39, if_neg hc, if_neg h92] at hq; exact ih x e hq
  | case9 i acc h => intro x e hq; rw [qLoop, dif_neg h] at hq; exact (noGot_no hq).elim
theorem aScan_ok {s : ByteArray} {p e : Nat} {x : ByteArray} (hp : p ≤ s.size) (h : aScan s p = (x, e, [])) : x.size ≤ 255 ∧ utfBad x 0 < 0 := by
  unfold aScan at h
  split at h
  · exact qLoop_ok _ _ _ _ x e h
  · split at h
    · exact (noGot_no h).elim
    · split at h
      · exact (noGot_no h).elim
      · split at h
        · exact (noGot_no h).elim
        · simp only [Prod.mk.injEq] at h
          have hle := runEnd_le isIn s p hp
          rw [← h.1]
          refine ⟨by simp; omega, ?_⟩
          rw [utf_ascii (fun j hj => in_ascii (run_bt hp hj)) _ 0 rfl]
          decide
theorem quoted_ok {x : ByteArray} (h : x.size ≤ 255 ∧ utfBad x 0 < 0) : (quoted x).2 = [] := by
  unfold quoted
  rw [if_neg (by omega), if_neg (by omega)]
  split <;> rfl
theorem wr_atom {x : ByteArray} {a : Int} (h : x.size ≤ 255 ∧ utfBad x 0 < 0) : (wrTok ⟨1, x, 0, a⟩).2 = [] := by
  unfold wrTok
  rw [if_pos rfl, if_pos ⟨rfl, quoted_ok h⟩]
theorem atomTok_wr {s : ByteArray} {p e : Nat} {t : Tk} (hp : p ≤ s.size) (h : atomTok s p = (t, e, [])) : (wrTok t).2 = [] := by
  unfold atomTok at h
  split at h
  · rename_i hz
    simp only [Prod.mk.injEq] at h
    rw [← h.1]
    exact wr_atom (aScan_ok (e := (aScan s p).2.1) hp (by rw [← hz]))
  · exact (noTok_no h).elim
theorem wr_num {v a : Int} (h0 : 0 ≤ v) (h1 : v ≤ 576460752303423487) : (wrTok ⟨3, ⟨#[]⟩, v, a⟩).2 = [] := by
  unfold wrTok
  rw [if_neg (show ¬ (3 : Int) = 1 by decide), if_pos rfl, if_pos ⟨rfl, h0, h1⟩]
theorem numVal_range2 {b v : Int} {x : ByteArray} (hb : 1 ≤ b) (h : numVal b x = some v) : 0 ≤ v ∧ v ≤ 576460752303423487 := by
  unfold numVal at h
  split at h
  · cases h
  · exact ⟨parseN_ge hb _ 0 v (Int.le_refl _) h, parseN_le _ 0 v (by decide) h⟩
theorem numEnd_wr {k e e' : Nat} {b : Int} {x : ByteArray} {t : Tk} (hb : 1 ≤ b) (h : numEnd k e (numVal b x) = (t, e', [])) : (wrTok t).2 = [] := by
  obtain ⟨_, v, hv, rfl⟩ := numEnd_some h
  have := numVal_range2 hb hv
  exact wr_num this.1 this.2
theorem numTok_wr {s : ByteArray} {p e : Nat} {t : Tk} (h : numTok s p = (t, e, [])) : (wrTok t).2 = [] := by
  unfold numTok at h
  split at h
  · split at h
    · rename_i n hn
      refine numEnd_wr ?_ h
      unfold baseOf at hn
      cases hv : numVal 10 (s.extract p (runEnd isDigit s p)) with
      | none => rw [hv] at hn; cases hn
      | some m =>
        rw [hv, Option.bind_some] at hn
        split at hn
        · obtain rfl := Option.some.inj hn
          omega
        · cases hn
    · exact (noTok_no h).elim
  · exact numEnd_wr (by decide) h
theorem escC_val (l : List Int) : 0 ≤ (escC l).1 ∧ (escC l).1 ≤ 255 := by
  unfold escC
  split
  · decide
  · repeat' split
    all_goals first | decide | skip
    rename_i a b _ hv
    have h1 := valOf_nonneg a
    have h2 := valOf_nonneg b
    simp only
    omega
theorem charTok_wr {s : ByteArray} {p e : Nat} {t : Tk} (h : charTok s p = (t, e, [])) : (wrTok t).2 = [] := by
  have hv := valid_lt (decode_valid s (p + 1))
  unfold charTok escTok at h
  have he := escC_val ((bs s).drop (p + 2))
  repeat' split at h
  all_goals first | exact (noTok_no h).elim | skip
  all_goals
    simp only [Prod.mk.injEq] at h
    rw [← h.1]
    exact wr_num (by omega) (by omega)
/-- WHAT IS SCANNED CAN BE WRITTEN. -/
theorem tok_wr {s : ByteArray} {p e : Nat} {t : Tk} (hp : p < s.size) (h : tokenAt s p = (t, e, [])) : (wrTok t).2 = [] := by
  unfold tokenAt at h
  by_cases c1 : (isSmall (bt s (p : Int)) || isCapital (bt s (p : Int)) || bt s (p : Int) == 95) = true
  · rw [if_pos c1] at h
    unfold wordTok at h
    by_cases w1 : isRes (s.extract p (runEnd isIn s p)) = true
    · rw [if_pos w1] at h
      simp only [Prod.mk.injEq] at h
      rw [← h.1]
      unfold wrTok
      simp [w1]
    · rw [if_neg w1] at h
      by_cases w2 : isSmall (bt s (p : Int)) = true
      · rw [if_pos w2] at h
        exact atomTok_wr (by omega) h
      · rw [if_neg w2] at h
        by_cases w3 : runEnd isIn s p - p > 255
        · rw [if_pos w3] at h
          exact (noTok_no h).elim
        · rw [if_neg w3] at h
          simp only [Prod.mk.injEq] at h
          have hu : isUpper (bt s (p : Int)) = true := by
            unfold isUpper
            cases g : isSmall (bt s (p : Int)) with
            | true => exact absurd g w2
            | false => rw [g, Bool.false_or] at c1; exact c1
          have hin : isIn (bt s (p : Int)) = true := by
            unfold isUpper at hu
            unfold isIn
            cases g1 : isCapital (bt s (p : Int)) <;> simp_all
          have hle := runEnd_le isIn s p (by omega)
          have hgt := run_gt (p := isIn) hp hin
          have hsz : (s.extract p (runEnd isIn s p)).size = runEnd isIn s p - p := by simp; omega
          have hb0 := cut_bt (s := s) (a := p) (j := 0) hle (by omega)
          have hrun := runEnd_of (P := isIn) (s := s.extract p (runEnd isIn s p)) (s.extract p (runEnd isIn s p)).size 0 (by omega) (fun j hj => by rw [Nat.zero_add]; exact run_bt (by omega) hj) (.inl (by omega))
          rw [Nat.zero_add] at hrun
          have hvar : isVar (s.extract p (runEnd isIn s p)) = true := by
            unfold isVar
            have e0 : bt (s.extract p (runEnd isIn s p)) 0 = bt s (p : Int) := hb0
            rw [hrun, e0, hu]
            simp only [Bool.and_eq_true, decide_eq_true_eq, and_true]
            omega
          rw [← h.1]
          unfold wrTok
          simp [hvar]
  · rw [if_neg c1] at h
    by_cases c2 : bt s (p : Int) = 39
    · rw [if_pos c2] at h
      exact atomTok_wr (by omega) h
    · rw [if_neg c2] at h
      by_cases c3 : isDigit (bt s (p : Int)) = true
      · rw [if_pos c3] at h
        exact numTok_wr h
      · rw [if_neg c3] at h
        by_cases c4 : bt s (p : Int) = 36
        · rw [if_pos c4] at h
          exact charTok_wr h
        · rw [if_neg c4] at h
          split at h
          · simp only [Prod.mk.injEq] at h
            rw [← h.1]
            rfl
          · unfold signTok at h
            split at h
            · rename_i x hx
              simp only [Prod.mk.injEq] at h
              have hm := (Lib.containsS_iff signList x).2 (List.mem_of_find?_eq_some hx)
              rw [← h.1]
              unfold wrTok
              simp [hm]
            · exact (noTok_no h).elim
end Go.Proofs.YtgapeacflkfmdaaGreatDoor
