/-
  Plain Lean: the order of terms is one. Plain Lean: a term's text is read as that term, with blanks behind its brackets, commas and bars or without. Plain Lean: a term's text is read as that term: the terms within terms; how long a text is. api.Term as a kind of cells: a tree of rows; a term in a block of its own. term: faults, codes, the fields of a part; comparisons of numbers and texts.
-/
import Derived.Test.YtgapeacflkfmdaaGreatDoorG2
import Derived.Test.YtgapeacflkfmdaaGreatDoorG1
namespace Go.Proofs.YtgapeacflkfmdaaGreatDoor
open Go.RowKit Go.Proofs.YtgapeacflkfmdaaGreatDoorW.PrintWords

/-! ### terms in form -/
mutual
def okT : Tm → Bool
  | ⟨kd, it, tx, cr, ns, us⟩ => shapeOk ⟨kd, it, tx, cr, ns, us⟩ && okL us
def okL : List Tm → Bool
  | [] => true
  | a :: us => okT a && okL us
end
theorem okT_eq (t : Tm) : okT t = (shapeOk t && okL t.args) := by
  cases t
  rw [okT]
theorem okL_mem : ∀ {l : List Tm} {a : Tm}, okL l = true → a ∈ l → okT a = true
  | b :: l, a, h, hm => by
    rw [okL, Bool.and_eq_true] at h
    rcases List.mem_cons.1 hm with rfl | hm
    · exact h.1
    · exact okL_mem h.2 hm
theorem meas_ok (t : Tm) : ∀ d n m, (measT t d n m).1 = [] → okT t = true := by
  induction t using Tm.ind with
  | h t ih =>
    intro d n m h
    rw [measT_eq] at h
    by_cases h1 : n = 4096
    · rw [if_pos h1] at h
      cases h
    · rw [if_neg h1] at h
      by_cases h2 : 256 < d
      · rw [if_pos h2] at h
        cases h
      · rw [if_neg h2] at h
        have hf : formBad t n = [] := by
          match he : formBad t n with
          | [] => rfl
          | x :: r => rw [he] at h; cases h
        rw [hf] at h
        have hs : shapeOk t = true := by
          cases hs : shapeOk t with
          | true => rfl
          | false => unfold formBad at hf; rw [if_pos hs] at hf; cases hf
        have hl : ∀ (l : List Tm), (∀ a ∈ l, a ∈ t.args) → ∀ d n m, (measL l d n m).1 = [] → okL l = true := by
          intro l
          induction l with
          | nil => intro _ _ _ _ _; rw [okL]
          | cons a l ihl =>
            intro hsub d n m h
            rw [measL] at h
            match he : measT a d n m with
            | ([], n', m') =>
              rw [he] at h
              rw [okL, ih a (hsub a (by simp)) d n m (by rw [he]), ihl (fun b hb => hsub b (by simp [hb])) _ _ _ h]
              rfl
            | (x :: r, n', m') =>
              rw [he] at h
              cases h
        rw [okT_eq, hs, hl t.args (fun _ h => h) _ _ _ h]
        rfl
theorem chk_ok {t : Tm} (h : chk t = []) : okT t = true := meas_ok t 1 0 0 h

/-! ### three numbers that go on from one another -/

theorem cmpI_zero {a b : Int} : cmpI a b = 0 ↔ a = b := by
  unfold cmpI
  repeat' split
  all_goals omega
theorem cmpL_eq (x y : Int) (xs ys : List Int) : cmpL (x :: xs) (y :: ys) = orI (cmpI x y) (cmpL xs ys) := by
  rw [cmpL]
  unfold orI cmpI
  repeat' split
  all_goals omega

/-! ### the order, its kind first -/
def ordK (a b : Tm) : Int :=
  if a.kd = 1 then cmpI a.it b.it
  else if a.kd = 2 then cmpS a.tx b.tx
  else if a.kd = 3 ∨ a.kd = 4 then orI (cmpS a.tx b.tx) (orI (cmpI a.cr b.cr) (cmpL a.nums b.nums))
  else if a.kd = 5 then orI (cmpI a.args.length b.args.length) (ordP a.args b.args)
  else if a.kd = 7 then ordL a.args b.args
  else 0
theorem ordT_orI (a b : Tm) : ordT a b = orI (cmpI a.kd b.kd) (ordK a b) := by
  rw [ordT_eq]
  by_cases h : a.kd = b.kd
  · rw [if_neg (by simp [h])]
    unfold orI
    rw [if_pos (cmpI_zero.2 h)]
    rfl
  · rw [if_pos h]
    unfold orI
    rw [if_neg (fun e => h (cmpI_zero.1 e))]

theorem shape_kd {t : Tm} (h : okT t = true) : 1 ≤ t.kd ∧ t.kd ≤ 7 := by
  rw [okT_eq, Bool.and_eq_true] at h
  have h := h.1
  unfold shapeOk at h
  repeat' split at h
  all_goals first | omega | cases h
theorem shape_list {t : Tm} (h : okT t = true) (hk : t.kd = 7) : 2 ≤ t.args.length ∧ lastKd t ≠ 7 := by
  rw [okT_eq, Bool.and_eq_true] at h
  have h := h.1
  unfold shapeOk at h
  rw [if_neg (by omega), if_neg (by omega), if_neg (by omega), if_neg (by omega), if_neg (by omega), if_neg (by omega), if_pos hk] at h
  simp only [Bool.and_eq_true, decide_eq_true_eq] at h
  exact ⟨h.1.2, h.2⟩
theorem ok_args {t : Tm} (h : okT t = true) : okL t.args = true := by
  rw [okT_eq, Bool.and_eq_true] at h
  exact h.2

/-- A list's elements and tail, some of them left behind. -/
def tailOk (l : List Tm) : Prop := l ≠ [] ∧ ∀ a, l.getLast? = some a → a.kd ≠ 7
theorem rdTm_last {l : List Tm} (h : l ≠ []) : l.getLast? = some (rdTm l ((l.length : Int) - 1)) := by
  have hp := List.length_pos_iff.2 h
  rw [List.getLast?_eq_getElem?]
  unfold rdTm
  rw [show ((l.length : Int) - 1).toNat = l.length - 1 by omega, List.getD_eq_getElem?_getD, List.getElem?_eq_getElem (by omega)]
  rfl
theorem tail_of {t : Tm} (h : okT t = true) (hk : t.kd = 7) : tailOk t.args := by
  obtain ⟨h1, h2⟩ := shape_list h hk
  have hne : t.args ≠ [] := fun e => by rw [e] at h1; simp at h1
  refine ⟨hne, fun a ha => ?_⟩
  rw [rdTm_last hne] at ha
  obtain rfl := Option.some.inj ha
  exact h2
theorem tailOk.one {a : Tm} (h : tailOk [a]) : a.kd ≠ 7 := h.2 a rfl
theorem tailOk.rest {a b : Tm} {l : List Tm} (h : tailOk (a :: b :: l)) : tailOk (b :: l) := ⟨by simp, fun x hx => h.2 x (by rw [List.getLast?_cons_cons]; exact hx)⟩

/-! ### antisymmetry, bounds, equality, transitivity -/

theorem bs_inj {a b : ByteArray} (h : bs a = bs b) : a = b := by
  obtain ⟨⟨x⟩⟩ := a
  obtain ⟨⟨y⟩⟩ := b
  have h' : x.map (fun c => (c.toNat : Int)) = y.map (fun c => (c.toNat : Int)) := h
  have : x = y := by
    refine List.map_inj_right (f := fun c : UInt8 => (c.toNat : Int)) ?_ |>.1 h'
    intro c d hcd
    exact UInt8.toNat_inj.1 (Int.ofNat.inj hcd)
  rw [this]
theorem size_zero {s : ByteArray} (h : s.size = 0) : s = ⟨#[]⟩ := by
  obtain ⟨⟨x⟩⟩ := s
  cases x with
  | nil => rfl
  | cons a l => simp [ByteArray.size] at h

theorem empty_fields {t : Tm} {text nums args : Bool} (h : emptyOk t text nums args = true) :
    (text = false → t.tx = ⟨#[]⟩) ∧ (nums = false → t.nums = [] ∧ t.cr = 0) ∧ (args = false → t.args = []) ∧ (t.kd ≠ 1 → t.it = 0) := by
  unfold emptyOk at h
  simp only [Bool.and_eq_true, Bool.or_eq_true, decide_eq_true_eq] at h
  obtain ⟨⟨⟨h1, h2⟩, h3⟩, h4⟩ := h
  refine ⟨fun e => ?_, fun e => ?_, fun e => ?_, fun e => ?_⟩
  · rcases h1 with h1 | h1
    · rw [e] at h1; cases h1
    · exact size_zero h1
  · rcases h2 with h2 | h2
    · rw [e] at h2; cases h2
    · exact ⟨List.eq_nil_of_length_eq_zero h2.1, h2.2⟩
  · rcases h3 with h3 | h3
    · rw [e] at h3; cases h3
    · exact List.eq_nil_of_length_eq_zero h3
  · exact h4.resolve_left e
/-- What a term in form has, by its kind. -/
theorem form_fields {t : Tm} (h : okT t = true) :
    (t.kd = 1 ∧ t = ⟨1, t.it, ⟨#[]⟩, 0, [], []⟩) ∨ (t.kd = 2 ∧ t = ⟨2, 0, t.tx, 0, [], []⟩) ∨ (t.kd = 3 ∧ t = ⟨3, 0, t.tx, t.cr, t.nums, []⟩ ∧ t.nums.length = 3) ∨
    (t.kd = 4 ∧ t = ⟨4, 0, t.tx, t.cr, t.nums, []⟩ ∧ t.nums.length = 2) ∨ (t.kd = 5 ∧ t = ⟨5, 0, ⟨#[]⟩, 0, [], t.args⟩) ∨ (t.kd = 6 ∧ t = ⟨6, 0, ⟨#[]⟩, 0, [], []⟩) ∨ (t.kd = 7 ∧ t = ⟨7, 0, ⟨#[]⟩, 0, [], t.args⟩) := by
  rw [okT_eq, Bool.and_eq_true] at h
  have h := h.1
  obtain ⟨kd, it, tx, cr, ns, us⟩ := t
  unfold shapeOk at h
  simp only at h ⊢
  by_cases h1 : kd = 1
  · rw [if_pos h1] at h
    obtain ⟨e1, e2, e3, e4⟩ := empty_fields h
    obtain ⟨e2, e5⟩ := e2 rfl
    obtain rfl := e1 rfl
    obtain rfl := e3 rfl
    simp only at e2 e5
    subst e2 e5 h1
    exact .inl ⟨rfl, rfl⟩
  rw [if_neg h1] at h
  by_cases h2 : kd = 2
  · rw [if_pos h2] at h
    obtain ⟨e1, e2, e3, e4⟩ := empty_fields h
    obtain ⟨e2, e5⟩ := e2 rfl
    obtain rfl := e3 rfl
    have e6 := e4 h1
    simp only at e2 e5 e6
    subst e2 e5 e6 h2
    exact .inr (.inl ⟨rfl, rfl⟩)
  rw [if_neg h2] at h
  by_cases h3 : kd = 3
  · rw [if_pos h3, Bool.and_eq_true, decide_eq_true_eq] at h
    obtain ⟨e1, e2, e3, e4⟩ := empty_fields h.1
    obtain rfl := e3 rfl
    have e6 := e4 h1
    simp only at e6
    subst e6 h3
    exact .inr (.inr (.inl ⟨rfl, rfl, h.2⟩))
  rw [if_neg h3] at h
  by_cases h4 : kd = 4
  · rw [if_pos h4, Bool.and_eq_true, decide_eq_true_eq] at h
    obtain ⟨e1, e2, e3, e4⟩ := empty_fields h.1
    obtain rfl := e3 rfl
    have e6 := e4 h1
    simp only at e6
    subst e6 h4
    exact .inr (.inr (.inr (.inl ⟨rfl, rfl, h.2⟩)))
  rw [if_neg h4] at h
  by_cases h5 : kd = 5
  · rw [if_pos h5] at h
    obtain ⟨e1, e2, e3, e4⟩ := empty_fields h
    obtain ⟨e2, e5⟩ := e2 rfl
    obtain rfl := e1 rfl
    have e6 := e4 h1
    simp only at e2 e5 e6
    subst e2 e5 e6 h5
    exact .inr (.inr (.inr (.inr (.inl ⟨rfl, rfl⟩))))
  rw [if_neg h5] at h
  by_cases h6 : kd = 6
  · rw [if_pos h6] at h
    obtain ⟨e1, e2, e3, e4⟩ := empty_fields h
    obtain ⟨e2, e5⟩ := e2 rfl
    obtain rfl := e1 rfl
    obtain rfl := e3 rfl
    have e6 := e4 h1
    simp only at e2 e5 e6
    subst e2 e5 e6 h6
    exact .inr (.inr (.inr (.inr (.inr (.inl ⟨rfl, rfl⟩)))))
  rw [if_neg h6] at h
  by_cases h7 : kd = 7
  · rw [if_pos h7, Bool.and_eq_true, Bool.and_eq_true] at h
    obtain ⟨e1, e2, e3, e4⟩ := empty_fields h.1.1
    obtain ⟨e2, e5⟩ := e2 rfl
    obtain rfl := e1 rfl
    have e6 := e4 h1
    simp only at e2 e5 e6
    subst e2 e5 e6 h7
    exact .inr (.inr (.inr (.inr (.inr (.inr ⟨rfl, rfl⟩)))))
  rw [if_neg h7] at h
  cases h

end Go.Proofs.YtgapeacflkfmdaaGreatDoor
namespace Go.Proofs.YtgapeacflkfmdaaGreatDoor
open Go.RowKit Go.Proofs.YtgapeacflkfmdaaGreatDoorW.PrintWords
namespace Tb
theorem tw_all {p : Int → Bool} : ∀ {l : List Int} {i : Nat} (_ : i < tw p l), ∃ c, l[i]? = some c ∧ p c = true := by
  intro l
  induction l with
  | nil => intro i h; simp [tw] at h
  | cons c r ih =>
    intro i h
    by_cases hp : p c = true
    · rw [tw_yes hp] at h
      cases i with
      | zero => exact ⟨c, rfl, hp⟩
      | succ i => simpa using ih (i := i) (by omega)
    · rw [tw_no (by simpa using hp)] at h
      omega
theorem runEnd_of {P : Int → Bool} {s : ByteArray} : ∀ (d k : Nat), k + d ≤ s.size → (∀ j, j < d → P (bt s ((k + j : Nat) : Int)) = true) → (s.size ≤ k + d ∨ P (bt s ((k + d : Nat) : Int)) = false) → runEnd P s k = k + d
  | 0, k, h, _, hs => by
    rcases hs with hs | hs
    · exact runEnd_out hs
    · by_cases hk : k < s.size
      · exact runEnd_no hk hs
      · exact runEnd_out (by omega)
  | d + 1, k, h, ha, hs => by
    have h0 := ha 0 (by omega)
    rw [← runEnd_yes (by omega) (show P (bt s (k : Int)) = true from h0), runEnd_of d (k + 1) (by omega) (fun j hj => by have := ha (j + 1) (by omega); rwa [show k + (j + 1) = k + 1 + j by omega] at this) (by rwa [show k + 1 + d = k + (d + 1) by omega])]
    omega
theorem runEnd_in {P : Int → Bool} {s : ByteArray} {k i : Nat} (hk : k ≤ i) (h : i < runEnd P s k) : P (bt s (i : Int)) = true ∧ i < s.size := by
  have h1 : i - k < tw P ((bs s).drop k) := by unfold runEnd at h; omega
  obtain ⟨c, hc, hp⟩ := tw_all h1
  rw [List.getElem?_drop, show k + (i - k) = i by omega] at hc
  obtain ⟨hl, hc'⟩ := List.getElem?_eq_some_iff.1 hc
  have hl2 : i < s.size := by rw [← bs_len]; exact hl
  rw [bs_get s i hl2] at hc'
  exact ⟨by rw [hc']; exact hp, hl2⟩
theorem ba_ext {a b : ByteArray} (hs : a.size = b.size) (h : ∀ j : Nat, j < a.size → bt a (j : Int) = bt b (j : Int)) : a = b := by
  have hd : a.data = b.data := by
    apply Array.ext hs
    intro i h1 h2
    have h1' : i < a.size := h1
    have h2' : i < b.size := h2
    have := h i h1
    rw [← btk a i h1', ← btk b i h2'] at this
    have e : a.data[i].toNat = b.data[i].toNat := by exact_mod_cast this
    exact UInt8.toNat_inj.1 e
  cases a; cases b; cases hd; rfl
theorem bs_range (s : ByteArray) : ∀ c ∈ bs s, 0 ≤ c ∧ c ≤ 255 := by
  intro c hc
  obtain ⟨i, hi, rfl⟩ := List.getElem_of_mem hc
  rw [bs_get s i (by rw [← bs_len]; exact hi)]
  exact bt_range s i
/-- A text's byte and what stands behind it, out of its list. -/
theorem at_list {x : ByteArray} {A R : List Int} {c : Int} (h : bs x = A ++ c :: R) : A.length < x.size ∧ bt x (A.length : Nat) = c ∧ (bs x).drop (A.length + 1) = R := by
  have h1 : A.length < x.size := by
    rw [← bs_len, h]
    simp
  have h2 := bs_drop x A.length h1
  rw [h, List.drop_left] at h2
  simp only [List.cons.injEq] at h2
  refine ⟨h1, h2.1.symm, ?_⟩
  rw [h]
  exact h2.2.symm
theorem hex_back {a : Int} (h0 : 0 ≤ a) (h1 : a < 16) : hexOf (hexD a) = a := by
  unfold hexOf hexD isDigit
  by_cases h : a < 10
  · rw [if_pos h, if_pos (by simp; omega)]
    omega
  · rw [if_neg h, if_neg (by simp; omega), if_pos (by simp; omega)]
    omega
theorem qB_step {x : ByteArray} {A R : List Int} {c : Int} (hc0 : 0 ≤ c) (hc1 : c ≤ 255) (h : bs x = A ++ (qB c ++ R)) (hR : R ≠ []) (f : Nat) (acc : List Int) :
    qLoop x f A.length acc = qLoop x f (A.length + (qB c).length) (acc ++ [c]) := by
  have hsz : x.size = A.length + ((qB c).length + R.length) := by rw [← bs_len, h]; simp
  have hRl : 0 < R.length := List.length_pos_iff.2 hR
  -- an escape: a backslash and one letter
  have esc1 : ∀ d : Int, qB c = [92, d] → escOf (d :: R) = (c, 1) → qLoop x f A.length acc = qLoop x f (A.length + (qB c).length) (acc ++ [c]) := by
    intro d hq he
    rw [hq] at h hsz ⊢
    obtain ⟨g1, g2, g3⟩ := at_list (c := 92) (R := d :: R) (by simpa using h)
    rw [qLoop, dif_pos g1, g2, if_neg (by decide), if_neg (by decide), if_pos rfl, if_neg (by simp at hsz; omega), g3, he, if_neg (show ¬ (1 : Nat) = 0 by decide)]
    rfl
  unfold qB at *
  by_cases c1 : c = 39 ∨ c = 92
  · simp only [if_pos c1] at *
    refine esc1 c rfl ?_
    rcases c1 with rfl | rfl <;> rfl
  · simp only [if_neg c1] at *
    by_cases c2 : c = 10
    · subst c2
      exact esc1 110 rfl rfl
    · simp only [if_neg c2] at *
      by_cases c3 : c = 9
      · subst c3
        exact esc1 116 rfl rfl
      · simp only [if_neg c3] at *
        by_cases c4 : c = 13
        · subst c4
          exact esc1 114 rfl rfl
        · simp only [if_neg c4] at *
          by_cases c5 : c < 32 ∨ c = 127
          · simp only [if_pos c5] at *
            obtain ⟨g1, g2, g3⟩ := at_list (c := 92) (R := 120 :: hexD (c / 16) :: hexD (c % 16) :: R) (by simpa using h)
            have he : escOf (120 :: hexD (c / 16) :: hexD (c % 16) :: R) = (c, 3) := by
              show escX (hexD (c / 16) :: hexD (c % 16) :: R) = (c, 3)
              have e1 := hex_back (a := c / 16) (by omega) (by omega)
              have e2 := hex_back (a := c % 16) (by omega) (by omega)
              simp only [escX]
              rw [e1, e2, if_pos ⟨by omega, by omega⟩]
              simp only [Prod.mk.injEq, and_true]
              omega
            rw [qLoop, dif_pos g1, g2, if_neg (by decide), if_neg (by decide), if_pos rfl, if_neg (by simp at hsz; omega), g3, he, if_neg (show ¬ (3 : Nat) = 0 by decide)]
            rfl
          · simp only [if_neg c5] at *
            obtain ⟨g1, g2, g3⟩ := at_list (c := c) (R := R) (by simpa using h)
            rw [qLoop, dif_pos g1, g2, if_neg (by omega), if_neg (by omega), if_neg (by omega)]
            rfl
def decL (u : Nat) : List Int := (Lib.decDigits u).map fun c => (c.toNat : Int)
theorem dig_byte {d : Nat} (h : d < 10) : ((UInt8.ofNat (48 + d)).toNat : Int) = 48 + d := by
  simp
  omega
theorem decL_eq (u : Nat) : decL u = if u < 10 then [48 + (u : Int)] else decL (u / 10) ++ [48 + ((u % 10 : Nat) : Int)] := by
  unfold decL
  rw [Lib.decDigits]
  split
  · rename_i h
    rw [List.map_singleton, dig_byte h]
  · rw [List.map_append, List.map_singleton, dig_byte (Nat.mod_lt _ (by decide))]
theorem decL_digit (u : Nat) : ∀ c ∈ decL u, isDigit c = true := by
  induction u using Nat.strongRecOn with
  | _ u ih =>
    rw [decL_eq]
    split
    · intro c hc
      simp only [List.mem_singleton] at hc
      subst hc
      unfold isDigit
      simp
      omega
    · intro c hc
      rw [List.mem_append] at hc
      rcases hc with hc | hc
      · exact ih _ (by omega) c hc
      · simp only [List.mem_singleton] at hc
        subst hc
        unfold isDigit
        simp
        omega
theorem decL_pos (u : Nat) : 0 < (decL u).length := by
  rw [decL_eq]
  split <;> simp
theorem bs_map (x : ByteArray) : bs x = x.data.toList.map fun c => (c.toNat : Int) := by
  apply List.ext_getElem
  · rw [bs_len, List.length_map, Lib.size_eq]
  · intro i h1 h2
    rw [bs_len] at h1
    rw [bs_get _ i h1, ← btk _ i h1, List.getElem_map]
    rfl
/-- The first byte and the code point. -/
theorem dec_asc {s : ByteArray} {i : Nat} (h : (s.get! i).toNat < 128) : Utf8.decode s i = ((s.get! i).toNat, 1) := by
  rw [Lib.decode_at]
  simp only [Lib.decodeN, if_pos h]
theorem utf_ascii {x : ByteArray} (h : ∀ j : Nat, j < x.size → bt x (j : Int) < 128) : ∀ (d k : Nat), x.size - k = d → utfBad x k = -1 := by
  intro d
  induction d using Nat.strongRecOn with
  | _ d ih =>
    intro k hd
    by_cases hk : k < x.size
    · have hb := get_bt x k hk
      have hlt := h k hk
      have hdec := dec_asc (s := x) (i := k) (by omega)
      rw [← utfBad_on hk (by rw [hdec]; intro hh; simp only [Prod.mk.injEq] at hh; omega), hdec]
      exact ih _ (by simp only; omega) _ rfl
    · exact utfBad_out (by omega)
theorem in_ascii {c : Int} (h : isIn c = true) : c < 128 := by
  unfold isIn isSmall isCapital isDigit at h
  simp only [Bool.or_eq_true, Bool.and_eq_true, decide_eq_true_eq, beq_iff_eq] at h
  omega
theorem bs_strOf : ∀ {l : List Int}, (∀ c ∈ l, 0 ≤ c ∧ c ≤ 255) → bs (strOfNums l) = l := by
  intro l h
  apply List.ext_getElem
  · rw [bs_len, strOfNums_size]
  · intro i h1 h2
    rw [bs_len] at h1
    rw [bs_get _ i h1, ← btk _ i h1]
    have hc := h l[i] (List.getElem_mem _)
    have e : (strOfNums l)[i]'h1 = UInt8.ofNat l[i].toNat := by
      show (strOfNums l).data[i]'h1 = _
      simp [strOfNums]
    rw [e]
    simp
    omega
theorem strOf_bs (s : ByteArray) : strOfNums (bs s) = s := by
  refine ba_ext (by rw [strOfNums_size, bs_len]) (fun j hj => ?_)
  have hb : ∀ c ∈ bs s, 0 ≤ c ∧ c ≤ 255 := by
    intro c hc
    obtain ⟨i, hi, rfl⟩ := List.getElem_of_mem hc
    rw [bs_get s i (by rw [← bs_len]; exact hi)]
    exact bt_range s i
  have h1 : j < s.size := by rw [strOfNums_size, bs_len] at hj; exact hj
  rw [← bs_get (strOfNums (bs s)) j hj, ← bs_get s j h1]
  congr 1
  exact bs_strOf hb
end Tb
open Tb

/-! ### pieces of a text -/
/-- What stands behind ends a word and a number. -/
def StopR (R : List Int) : Prop := ∀ c R', R = c :: R' → isIn c = false
theorem StopR.cons {c : Int} {R : List Int} (h : isIn c = false) : StopR (c :: R) := fun d R' e => by cases e; exact h
theorem in_digit {c : Int} (h : isIn c = false) : isDigit c = false := by
  unfold isIn at h
  simp only [Bool.or_eq_false_iff] at h
  exact h.1.1.2
theorem bt_mid {s : ByteArray} {A G R : List Int} (h : bs s = A ++ (G ++ R)) {j : Nat} (hj : j < G.length) : bt s ((A.length + j : Nat) : Int) = G[j] ∧ A.length + j < s.size := by
  have hs : s.size = A.length + (G.length + R.length) := by rw [← bs_len, h]; simp
  have hlt : A.length + j < s.size := by omega
  refine ⟨?_, hlt⟩
  have e : (bs s)[A.length + j]? = some G[j] := by
    rw [h, List.getElem?_append_right (by omega), show A.length + j - A.length = j by omega, List.getElem?_append_left hj, List.getElem?_eq_getElem hj]
  have e2 : (bs s)[A.length + j]? = some (bt s ((A.length + j : Nat) : Int)) := by
    rw [List.getElem?_eq_getElem (by rw [bs_len]; exact hlt), bs_get s _ hlt]
  exact Option.some.inj (e2.symm.trans e)
theorem run_mid {P : Int → Bool} {s : ByteArray} {A G R : List Int} (h : bs s = A ++ (G ++ R)) (hG : ∀ c ∈ G, P c = true) (hR : ∀ c R', R = c :: R' → P c = false) : runEnd P s A.length = A.length + G.length := by
  have hs : s.size = A.length + (G.length + R.length) := by rw [← bs_len, h]; simp
  refine runEnd_of G.length A.length (by omega) (fun j hj => ?_) ?_
  · rw [(bt_mid h hj).1]
    exact hG _ (List.getElem_mem _)
  · cases R with
    | nil =>
      left
      simp at hs
      omega
    | cons c R' =>
      right
      have h2 := (at_list (A := A ++ G) (c := c) (R := R') (by rw [h]; simp)).2.1
      rw [List.length_append] at h2
      rw [h2]
      exact hR c R' rfl
theorem isAt_yes {s : ByteArray} {A R : List Int} {c : Int} (h : bs s = A ++ c :: R) : isAt s A.length c = true := by
  obtain ⟨g1, g2, _⟩ := at_list h
  unfold isAt
  rw [g2]
  simp [g1]
theorem isAt_no {s : ByteArray} {A R : List Int} {c d : Int} (h : bs s = A ++ c :: R) (hd : c ≠ d) : isAt s A.length d = false := by
  obtain ⟨g1, g2, _⟩ := at_list h
  unfold isAt
  rw [g2]
  simp [hd]
theorem blk_to {s : ByteArray} {A G R : List Int} {c : Int} (h : bs s = A ++ (G ++ c :: R)) (hG : ∀ x ∈ G, isBlank x = true) (hc : isBlank c = false) : blk s A.length = A.length + G.length :=
  run_mid h hG fun d R' e => by cases e; exact hc
theorem blk_none {s : ByteArray} {A R : List Int} {c : Int} (h : bs s = A ++ c :: R) (hc : isBlank c = false) : blk s A.length = A.length := by
  have h2 := blk_to (G := []) (by simpa using h) (by simp) hc
  simpa using h2
theorem blk_all {s : ByteArray} {A G : List Int} (h : bs s = A ++ G) (hG : ∀ x ∈ G, isBlank x = true) : blk s A.length = s.size := by
  have h2 := run_mid (P := isBlank) (R := []) (by simpa using h) hG (by intro _ _ e; cases e)
  have hs : s.size = A.length + G.length := by rw [← bs_len, h]; simp
  unfold blk
  omega

/-! ### numbers -/
theorem decV_app (l : List Int) (c : Int) : decV (l ++ [c]) = decV l * 10 + (c - 48) := by
  unfold decV
  rw [List.foldl_append]
  rfl
theorem decV_decL (u : Nat) : decV (decL u) = u := by
  induction u using Nat.strongRecOn with
  | _ u ih =>
    rw [decL_eq]
    split
    · simp [decV]
      omega
    · rw [decV_app, ih (u / 10) (by omega)]
      omega
theorem decL_zero (u : Nat) : ∀ r, decL u = 48 :: r → u = 0 := by
  induction u using Nat.strongRecOn with
  | _ u ih =>
    intro r hr
    rw [decL_eq] at hr
    split at hr
    · simp only [List.cons.injEq] at hr
      omega
    · obtain ⟨c, q, hc⟩ : ∃ c q, decL (u / 10) = c :: q := by
        cases hd : decL (u / 10) with
        | nil => have := decL_pos (u / 10); rw [hd] at this; simp at this
        | cons c q => exact ⟨c, q, rfl⟩
      rw [hc] at hr
      simp only [List.cons_append, List.cons.injEq] at hr
      have := ih (u / 10) (by omega) q (by rw [hc, hr.1])
      omega
theorem decL_head (u : Nat) : ∃ c r, decL u = c :: r ∧ isDigit c = true := by
  cases hd : decL u with
  | nil => have := decL_pos u; rw [hd] at this; simp at this
  | cons c q => exact ⟨c, q, rfl, decL_digit u c (by rw [hd]; simp)⟩
theorem dig_back {s : ByteArray} {A R : List Int} {u : Nat} (h : bs s = A ++ (decL u ++ R)) (hR : StopR R) :
    isDig s A.length = true ∧ digEnd s A.length = A.length + (decL u).length ∧ decAt s A.length (A.length + (decL u).length) = u ∧ isDigit (bt s (A.length : Nat)) = true := by
  obtain ⟨c, r, hc, hd⟩ := decL_head u
  obtain ⟨g1, g2, _⟩ := at_list (A := A) (c := c) (R := r ++ R) (by rw [h, hc]; rfl)
  refine ⟨?_, ?_, ?_, by rw [g2]; exact hd⟩
  · unfold isDig
    rw [g2, hd]
    simp [g1]
  · unfold digEnd
    rw [g2]
    by_cases h48 : c = 48
    · rw [if_pos h48]
      have hu : u = 0 := decL_zero u r (by rw [hc, h48])
      subst hu
      rw [decL_eq, if_pos (by decide)]
      rfl
    · rw [if_neg h48]
      exact run_mid h (decL_digit u) fun d R' e => in_digit (hR d R' e)
  · unfold decAt
    rw [h, List.drop_left, Nat.add_sub_cancel_left, List.take_left, decV_decL]
theorem itoa_nat (u : Nat) : itoaI (u : Int) = decL u := by
  unfold itoaI
  rw [Lib.itoa_nonneg]
  rfl
theorem itoa_neg (u : Nat) (hu : 0 < u) : itoaI (-(u : Int)) = 45 :: decL u := by
  unfold itoaI Lib.itoa
  rw [if_pos (by omega), Int.natAbs_neg, Int.natAbs_natCast]
  rfl
theorem int_back {s : ByteArray} {A R : List Int} {n : Int} (hr : -576460752303423488 ≤ n ∧ n ≤ 576460752303423487) (h : bs s = A ++ (itoaI n ++ R)) (hR : StopR R) :
    wholeAt s A.length = (tmInt n, A.length + (itoaI n).length, []) ∧ (isDigit (bt s (A.length : Nat)) = true ∨ bt s (A.length : Nat) = 45) ∧ A.length < s.size := by
  by_cases hn : n < 0
  · obtain ⟨u, rfl, hu⟩ : ∃ u : Nat, n = -(u : Int) ∧ 0 < u := ⟨n.natAbs, by omega, by omega⟩
    rw [itoa_neg u hu] at h ⊢
    obtain ⟨g1, g2, _⟩ := at_list (A := A) (c := 45) (R := decL u ++ R) h
    have h' : bs s = (A ++ [45]) ++ (decL u ++ R) := by rw [h]; simp
    obtain ⟨d1, d2, d3, _⟩ := dig_back h' hR
    obtain ⟨c, r, hc, hd⟩ := decL_head u
    have hno : isAt s (A.length + 1) 48 = false := by
      have := isAt_no (s := s) (A := A ++ [45]) (R := r ++ R) (c := c) (d := 48) (by rw [h, hc]; simp) (fun e => by have := decL_zero u r (by rw [hc, e]); omega)
      rwa [List.length_append] at this
    have hl9 : (A ++ [45]).length = A.length + 1 := by simp
    rw [hl9] at d1 d2 d3
    refine ⟨?_, .inr g2, g1⟩
    unfold wholeAt
    rw [if_pos g2, hno]
    simp only [Bool.false_eq_true, if_false]
    unfold intAt
    rw [d1, d2, d3, if_neg (by simp), if_neg (by omega)]
    simp only [Prod.mk.injEq, and_true, List.length_cons]
    exact ⟨by rw [show -1 * (u : Int) = -(u : Int) by omega], by omega⟩
  · obtain ⟨u, rfl⟩ := Int.eq_ofNat_of_zero_le (show 0 ≤ n by omega)
    rw [itoa_nat] at h ⊢
    obtain ⟨d1, d2, d3, d4⟩ := dig_back h hR
    obtain ⟨c, r, hc, hd⟩ := decL_head u
    obtain ⟨g1, g2, _⟩ := at_list (A := A) (c := c) (R := r ++ R) (by rw [h, hc]; rfl)
    have hne : ¬ bt s (A.length : Nat) = 45 := by
      intro e
      rw [e] at d4
      cases d4
    refine ⟨?_, .inl d4, g1⟩
    unfold wholeAt
    rw [if_neg hne]
    unfold intAt
    rw [d1, d2, d3, if_neg (by simp), if_neg (by omega)]
    simp only [Prod.mk.injEq, and_true]
    rw [show 1 * (u : Int) = (u : Int) by omega]
theorem num_back {s : ByteArray} {A R : List Int} {u : Nat} (hu : u ≤ 4294967295) (h : bs s = A ++ (decL u ++ R)) (hR : StopR R) : numAt s A.length = ((u : Int), A.length + (decL u).length, []) := by
  obtain ⟨d1, d2, d3, _⟩ := dig_back h hR
  unfold numAt
  rw [d1, d2, d3, if_neg (by simp), if_neg (by omega)]
def isU32 (n : Int) : Prop := 0 ≤ n ∧ n ≤ 4294967295
def numsTxt (ns : List Int) : List Int := ns.flatMap fun n => 46 :: itoaI n
theorem nums_stop (ns : List Int) {R : List Int} (hR : StopR R) : StopR (numsTxt ns ++ R) := by
  cases ns with
  | nil => exact hR
  | cons n ns => exact StopR.cons (c := 46) (R := itoaI n ++ numsTxt ns ++ R) (by decide) |> fun h => by simpa [numsTxt] using h
theorem nums_back {s : ByteArray} : ∀ (ns : List Int) (A R : List Int), (∀ n ∈ ns, isU32 n) → bs s = A ++ (numsTxt ns ++ R) → StopR R → numsAt s ns.length A.length = (ns, A.length + (numsTxt ns).length, [])
  | [], A, R, _, _, _ => by simp [numsAt, numsTxt]
  | n :: ns, A, R, hn, h, hR => by
    have hn0 := hn n (by simp)
    unfold isU32 at hn0
    obtain ⟨u, rfl⟩ := Int.eq_ofNat_of_zero_le hn0.1
    have ht : numsTxt ((u : Int) :: ns) = 46 :: (decL u ++ numsTxt ns) := by
      unfold numsTxt
      rw [List.flatMap_cons, itoa_nat]
      rfl
    rw [ht] at h ⊢
    have h1 : bs s = A ++ 46 :: (decL u ++ (numsTxt ns ++ R)) := by rw [h]; simp
    have h2 : bs s = (A ++ [46]) ++ (decL u ++ (numsTxt ns ++ R)) := by rw [h]; simp
    have h3 : bs s = (A ++ 46 :: decL u) ++ (numsTxt ns ++ R) := by rw [h]; simp
    have e1 := num_back (by omega) h2 (nums_stop ns hR)
    have e2 := nums_back ns (A ++ 46 :: decL u) R (fun x hx => hn x (by simp [hx])) h3 hR
    have hl9 : (A ++ [46]).length = A.length + 1 := by simp
    rw [hl9] at e1
    have hl9 : (A ++ 46 :: decL u).length = A.length + 1 + (decL u).length := by simp; omega
    rw [hl9] at e2
    rw [List.length_cons, numsAt, isAt_yes h1, e1]
    simp only [Bool.true_eq_false, if_false]
    rw [e2]
    simp only [Prod.mk.injEq, and_true, true_and, List.length_cons, List.length_append]
    omega

/-! ### atoms -/
theorem bs_cut (s : ByteArray) (a b : Nat) : bs (s.extract a b) = ((bs s).drop a).take (b - a) := by
  rw [bs_map, bs_map, ← List.map_drop, ← List.map_take]
  congr 1
  simp [List.extract_eq_take_drop]
theorem plain_back {s tx : ByteArray} {A R : List Int} (hp : isPlain tx = true) (hl : tx.size ≤ 255) (h : bs s = A ++ (bs tx ++ R)) (hR : StopR R) :
    aScan s A.length = (tx, A.length + tx.size, []) ∧ isSmall (bt s (A.length : Nat)) = true ∧ A.length < s.size := by
  unfold isPlain at hp
  simp only [Bool.and_eq_true, decide_eq_true_eq, Bool.not_eq_true'] at hp
  obtain ⟨⟨⟨h1, h2⟩, h3⟩, h4⟩ := hp
  have hin : ∀ c ∈ bs tx, isIn c = true := by
    intro c hc
    obtain ⟨i, hi, rfl⟩ := List.getElem_of_mem hc
    have hi2 : i < tx.size := by rw [← bs_len]; exact hi
    rw [bs_get tx i hi2]
    exact (runEnd_in (P := isIn) (s := tx) (k := 0) (i := i) (by omega) (by omega)).1
  have hr : runEnd isIn s A.length = A.length + tx.size := by
    rw [run_mid h hin hR, bs_len]
  have h0 := bt_mid h (j := 0) (by rw [bs_len]; exact h1)
  have hb0 : bt s (A.length : Nat) = bt tx ((0 : Nat) : Int) := by
    rw [← bs_get tx 0 h1]
    exact h0.1
  have hs : isSmall (bt s (A.length : Nat)) = true := by rw [hb0]; exact h2
  have hlt : A.length < s.size := h0.2
  have hx : s.extract A.length (A.length + tx.size) = tx := by
    apply bs_inj
    rw [bs_cut, h, List.drop_left, Nat.add_sub_cancel_left, ← bs_len tx, List.take_left]
  refine ⟨?_, hs, hlt⟩
  unfold aScan
  rw [if_neg (fun hh => by rw [hh.2] at hs; cases hs), if_neg (by rw [hs]; simp; omega), hr, hx, if_neg (by omega), if_neg (by rw [h4]; decide)]
theorem q_back {x : ByteArray} {f : Nat} : ∀ (B A acc R : List Int), (∀ c ∈ B, 0 ≤ c ∧ c ≤ 255) → bs x = A ++ (B.flatMap qB ++ 39 :: R) → (acc ++ B).length ≤ 255 → utfBad (strOfNums (acc ++ B)) 0 < 0 →
    qLoop x f A.length acc = (strOfNums (acc ++ B), A.length + (B.flatMap qB).length + 1, [])
  | [], A, acc, R, _, h, hl, hu => by
    obtain ⟨g1, g2, g3⟩ := at_list (c := 39) (R := R) (by simpa using h)
    rw [List.append_nil] at hl hu ⊢
    rw [qLoop, dif_pos g1, g2, if_pos rfl, if_neg (by omega), if_neg (by omega)]
    simp
  | c :: B, A, acc, R, hb, h, hl, hu => by
    have hc := hb c (List.mem_cons_self ..)
    rw [List.flatMap_cons, List.append_assoc] at h
    rw [qB_step hc.1 hc.2 h (by simp), ← List.length_append, q_back B (A ++ qB c) (acc ++ [c]) R (fun d hd => hb d (List.mem_cons_of_mem _ hd)) (by rw [h, List.append_assoc]) (by simpa using hl) (by simpa using hu)]
    simp only [List.append_assoc, List.singleton_append, List.flatMap_cons, List.length_append, Prod.mk.injEq, and_true, true_and]
    omega
theorem quoted_none {tx : ByteArray} (h : (quoted tx).2 = []) : tx.size ≤ 255 ∧ utfBad tx 0 < 0 ∧ (quoted tx).1 = if isPlain tx then tx else strOfNums (quoteOf tx) := by
  unfold quoted at h ⊢
  by_cases h1 : tx.size > 255
  · rw [if_pos h1] at h
    cases h
  · rw [if_neg h1] at h ⊢
    by_cases h2 : 0 ≤ utfBad tx 0
    · rw [if_pos h2] at h
      cases h
    · rw [if_neg h2] at h ⊢
      exact ⟨by omega, by omega, by split <;> rfl⟩
theorem qB_range {c : Int} (h0 : 0 ≤ c) (h1 : c ≤ 255) : ∀ d ∈ qB c, 0 ≤ d ∧ d ≤ 255 := by
  intro d hd
  have hx : ∀ a : Int, 0 ≤ a → a < 16 → 0 ≤ hexD a ∧ hexD a ≤ 255 := by
    intro a h0 h1
    unfold hexD
    split <;> omega
  have h3 := hx (c / 16) (by omega) (by omega)
  have h4 := hx (c % 16) (by omega) (by omega)
  unfold qB at hd
  repeat' split at hd
  all_goals (simp at hd; omega)
theorem quoteOf_range (tx : ByteArray) : ∀ c ∈ quoteOf tx, 0 ≤ c ∧ c ≤ 255 := by
  intro c hc
  unfold quoteOf at hc
  simp only [List.mem_cons, List.mem_append, List.mem_flatMap, List.not_mem_nil, or_false] at hc
  rcases hc with rfl | ⟨d, hd, hc⟩ | rfl
  · omega
  · have hr := bs_range tx d hd
    exact qB_range hr.1 hr.2 c hc
  · omega
/-- An atom's text: its bytes. -/
theorem quoted_bytes {tx : ByteArray} (h : (quoted tx).2 = []) : bs (quoted tx).1 = if isPlain tx then bs tx else quoteOf tx := by
  rw [(quoted_none h).2.2]
  split
  · rfl
  · exact bs_strOf (quoteOf_range tx)
theorem atom_back {s tx : ByteArray} {A R : List Int} (hq : (quoted tx).2 = []) (h : bs s = A ++ (bs (quoted tx).1 ++ R)) (hR : StopR R) :
    atomAt s A.length = (tx, A.length + (bs (quoted tx).1).length, []) ∧ (bt s (A.length : Nat) = 39 ∨ isSmall (bt s (A.length : Nat)) = true) ∧ A.length < s.size := by
  obtain ⟨hl, hu, _⟩ := quoted_none hq
  rw [quoted_bytes hq] at h ⊢
  have key : aScan s A.length = (tx, A.length + (if isPlain tx = true then bs tx else quoteOf tx).length, []) ∧ (bt s (A.length : Nat) = 39 ∨ isSmall (bt s (A.length : Nat)) = true) ∧ A.length < s.size := by
    cases hp : isPlain tx with
    | true =>
      rw [hp, if_pos rfl] at h
      obtain ⟨h1, h2, h3⟩ := plain_back hp hl h hR
      rw [if_pos rfl, bs_len]
      exact ⟨h1, .inr h2, h3⟩
    | false =>
      rw [hp, if_neg (by simp)] at h
      rw [if_neg (by simp)]
      have h1 : bs s = A ++ 39 :: ((bs tx).flatMap qB ++ 39 :: R) := by rw [h]; simp [quoteOf]
      obtain ⟨g1, g2, _⟩ := at_list h1
      refine ⟨?_, .inl g2, g1⟩
      unfold aScan
      rw [if_pos ⟨g1, g2⟩]
      have h2 : bs s = (A ++ [39]) ++ ((bs tx).flatMap qB ++ 39 :: R) := by rw [h1]; simp
      have e := q_back (x := s) (f := A.length) (bs tx) (A ++ [39]) [] R (bs_range tx) h2 (by rw [List.nil_append, bs_len]; exact hl) (by rw [List.nil_append, strOf_bs]; exact hu)
      have hl9 : (A ++ [39]).length = A.length + 1 := by simp
      rw [List.nil_append, strOf_bs, hl9] at e
      rw [e]
      simp only [Prod.mk.injEq, and_true, true_and, quoteOf, List.length_cons, List.length_append, List.length_nil]
      omega
  refine ⟨?_, key.2⟩
  unfold atomAt
  have hb : begAtom s A.length = true := by
    unfold begAtom
    rcases key.2.1 with hh | hh
    · rw [hh]
      simp [key.2.2]
    · rw [hh]
      simp [key.2.2]
  rw [hb, key.1]
  simp
theorem node_quoted {tx : ByteArray} (h : nodeOk tx = true) : (quoted tx).2 = [] := by
  unfold nodeOk nodeOkL at h
  simp only [Bool.and_eq_true, decide_eq_true_eq, Bool.not_eq_true'] at h
  obtain ⟨⟨⟨⟨⟨⟨h1, h2⟩, h3⟩, h4⟩, h5⟩, h6⟩, h7⟩ := h
  have hall : ∀ c ∈ bs tx, c < 128 := by
    intro c hc
    rw [← List.take_append_drop (nodeLen (bs tx)) (bs tx), List.drop_eq_getElem_cons h1] at hc
    simp only [List.mem_append, List.mem_cons] at hc
    rcases hc with hc | rfl | hc
    · have := List.all_eq_true.1 h6 c hc
      unfold inName at this
      simp only [Bool.or_eq_true, beq_iff_eq] at this
      rcases this with hh | hh
      · exact in_ascii hh
      · omega
    · have h64 : ∀ (l : List Int) (hl : nodeLen l < l.length), l[nodeLen l] = 64 := by
        intro l
        induction l with
        | nil => intro hl; simp at hl
        | cons a l ih =>
          intro hl
          by_cases ha : a = 64
          · have : nodeLen (a :: l) = 0 := tw_no (by simp [ha])
            simp only [this, List.getElem_cons_zero]
            exact ha
          · have e : nodeLen (a :: l) = nodeLen l + 1 := tw_yes (by simp [ha])
            simp only [e, List.getElem_cons_succ]
            exact ih (by rw [e] at hl; simpa using hl)
      rw [h64 _ h1]
      decide
    · have := List.all_eq_true.1 h7 c hc
      unfold inHost at this
      simp only [Bool.or_eq_true, beq_iff_eq] at this
      rcases this with (hh | hh) | hh
      · exact in_ascii hh
      · omega
      · omega
  have hu : utfBad tx 0 = -1 := utf_ascii (fun j hj => by
    rw [← bs_get tx j hj]
    exact hall _ (List.getElem_mem _)) tx.size 0 (by omega)
  rw [bs_len] at h4
  unfold quoted
  rw [if_neg (by omega), if_neg (by omega)]
  split <;> rfl
theorem far_back {s tx : ByteArray} {A R : List Int} {kd cr : Int} {ns : List Int} (hn : nodeOk tx = true) (hnums : ∀ n ∈ cr :: ns, isU32 n) (h : bs s = A ++ (bs (quoted tx).1 ++ (numsTxt (cr :: ns) ++ 62 :: R))) :
    farAt s A.length kd ns.length = (⟨kd, 0, tx, cr, ns, []⟩, A.length + ((bs (quoted tx).1).length + (numsTxt (cr :: ns)).length + 1), []) := by
  have hst : StopR (numsTxt (cr :: ns) ++ 62 :: R) := nums_stop _ (StopR.cons (by decide))
  obtain ⟨e1, _, _⟩ := atom_back (node_quoted hn) h hst
  have h2 : bs s = (A ++ bs (quoted tx).1) ++ (numsTxt (cr :: ns) ++ 62 :: R) := by rw [h, List.append_assoc]
  have e2 := nums_back (s := s) (cr :: ns) (A ++ bs (quoted tx).1) (62 :: R) hnums h2 (StopR.cons (by decide))
  have h3 : bs s = (A ++ bs (quoted tx).1 ++ numsTxt (cr :: ns)) ++ 62 :: R := by rw [h]; simp
  have e3 := isAt_yes h3
  rw [List.length_append, List.length_append] at e3
  rw [List.length_append, List.length_cons] at e2
  unfold farAt
  rw [e1]
  simp only [hn, Bool.true_eq_false, if_false]
  rw [e2]
  simp only [e3, Bool.true_eq_false, if_false, List.headD_cons, List.tail_cons, Prod.mk.injEq, and_true, true_and]
  omega
end Go.Proofs.YtgapeacflkfmdaaGreatDoor
namespace Go.Proofs.YtgapeacflkfmdaaGreatDoor
open Go.RowKit Go.Proofs.YtgapeacflkfmdaaGreatDoorW.PrintWords
open Tb

/-! ### numbers of 32 bits -/
mutual
/-- The numbers within a term are of 32 bits. -/
def wfT : Tm → Bool
  | ⟨_, _, _, cr, ns, us⟩ => decide (0 ≤ cr) && decide (cr ≤ 4294967295) && ns.all (fun n => decide (0 ≤ n) && decide (n ≤ 4294967295)) && wfL us
def wfL : List Tm → Bool
  | [] => true
  | a :: us => wfT a && wfL us
end
theorem wfT_eq (t : Tm) : wfT t = (decide (0 ≤ t.cr) && decide (t.cr ≤ 4294967295) && t.nums.all (fun n => decide (0 ≤ n) && decide (n ≤ 4294967295)) && wfL t.args) := by
  cases t
  rw [wfT]
theorem wfL_mem : ∀ {l : List Tm} {a : Tm}, wfL l = true → a ∈ l → wfT a = true
  | b :: l, a, h, hm => by
    rw [wfL, Bool.and_eq_true] at h
    rcases List.mem_cons.1 hm with rfl | hm
    · exact h.1
    · exact wfL_mem h.2 hm
theorem wf_args {t : Tm} (h : wfT t = true) : wfL t.args = true := by
  rw [wfT_eq, Bool.and_eq_true] at h
  exact h.2
theorem wf_nums {t : Tm} (h : wfT t = true) : ∀ n ∈ t.cr :: t.nums, isU32 n := by
  rw [wfT_eq] at h
  simp only [Bool.and_eq_true, decide_eq_true_eq, List.all_eq_true] at h
  intro n hn
  rcases List.mem_cons.1 hn with rfl | hn
  · exact ⟨h.1.1.1, h.1.1.2⟩
  · exact h.1.2 n hn

/-! ### what Measure says of the parts -/
theorem meas_parts {t : Tm} {d n m : Int} (h : (measT t d n m).1 = []) : d ≤ 256 ∧ formBad t n = [] ∧ (measL t.args (d + 1) (n + 1) (max m d)).1 = [] ∧ measT t d n m = measL t.args (d + 1) (n + 1) (max m d) ∧ n ≠ 4096 := by
  have e := measT_eq t d n m
  rw [e] at h
  by_cases h1 : n = 4096
  · rw [if_pos h1] at h
    cases h
  · rw [if_neg h1] at h e
    by_cases h2 : 256 < d
    · rw [if_pos h2] at h
      cases h
    · rw [if_neg h2] at h e
      cases hf : formBad t n with
      | nil =>
        rw [hf] at h e
        exact ⟨by omega, rfl, h, e, h1⟩
      | cons x r =>
        rw [hf] at h
        cases h
theorem measL_mem : ∀ {l : List Tm} {d n m : Int}, (measL l d n m).1 = [] → ∀ a ∈ l, ∃ n' m', (measT a d n' m').1 = []
  | [], _, _, _, _, a, ha => by cases ha
  | b :: l, d, n, m, h, a, ha => by
    rw [measL] at h
    match he : measT b d n m with
    | ([], n', m') =>
      rw [he] at h
      rcases List.mem_cons.1 ha with rfl | ha
      · exact ⟨n, m, by rw [he]⟩
      · exact measL_mem h a ha
    | (x :: r, n', m') =>
      rw [he] at h
      cases h
theorem form_shape {t : Tm} {n : Int} (h : formBad t n = []) : shapeOk t = true := by
  unfold formBad at h
  cases hs : shapeOk t with
  | true => rfl
  | false => rw [hs, if_pos rfl] at h; cases h
theorem over_none {n : Int} {l : List Lk} (h : overTm n l = []) : l = [] := by
  cases l with
  | nil => rfl
  | cons x r => cases h
theorem form_int {t : Tm} {n : Int} (h : formBad t n = []) (hk : t.kd = 1) : -576460752303423488 ≤ t.it ∧ t.it ≤ 576460752303423487 := by
  have hs := form_shape h
  unfold formBad at h
  rw [hs, if_neg (by simp), if_pos hk] at h
  split at h
  · cases h
  · omega
theorem form_atom {t : Tm} {n : Int} (h : formBad t n = []) (hk : t.kd = 2) : (quoted t.tx).2 = [] := by
  have hs := form_shape h
  unfold formBad at h
  rw [hs, if_neg (by simp), if_neg (by omega), if_pos hk] at h
  exact over_none h
theorem form_node {t : Tm} {n : Int} (h : formBad t n = []) (hk : t.kd = 3 ∨ t.kd = 4) : nodeOk t.tx = true := by
  have hs := form_shape h
  unfold formBad at h
  rw [hs, if_neg (by simp), if_neg (by omega), if_neg (by omega), if_pos hk] at h
  have := over_none h
  unfold nodeBad at this
  split at this
  · assumption
  · cases this

/-! ### how a text begins -/
def headOk (c : Int) : Prop := isBlank c = false ∧ c ≠ 93 ∧ c ≠ 125 ∧ c ≠ 44 ∧ c ≠ 124
theorem digit_head {c : Int} (h : isDigit c = true) : headOk c := by
  unfold isDigit at h
  unfold headOk isBlank
  simp only [Bool.and_eq_true, decide_eq_true_eq] at h
  simp
  omega
theorem small_head {c : Int} (h : isSmall c = true) : headOk c := by
  unfold isSmall at h
  unfold headOk isBlank
  simp only [Bool.and_eq_true, decide_eq_true_eq] at h
  simp
  omega
theorem head_of {c : Int} (h : isBlank c = false) (h1 : c ≠ 93) (h2 : c ≠ 125) (h3 : c ≠ 44) (h4 : c ≠ 124) : headOk c := ⟨h, h1, h2, h3, h4⟩
theorem txt_head (g : List Int) {t : Tm} {n : Int} (h : formBad t n = []) : ∃ c r, txtT g t = c :: r ∧ headOk c := by
  rw [txtT_eq]
  have hs := form_shape h
  by_cases h1 : t.kd = 1
  · rw [if_pos h1]
    by_cases hn : t.it < 0
    · obtain ⟨u, hu, hu0⟩ : ∃ u : Nat, t.it = -(u : Int) ∧ 0 < u := ⟨t.it.natAbs, by omega, by omega⟩
      rw [hu, itoa_neg u hu0]
      exact ⟨_, _, rfl, head_of (by decide) (by decide) (by decide) (by decide) (by decide)⟩
    · obtain ⟨u, hu⟩ := Int.eq_ofNat_of_zero_le (show 0 ≤ t.it by omega)
      rw [hu, itoa_nat]
      obtain ⟨c, r, hc, hd⟩ := decL_head u
      exact ⟨c, r, hc, digit_head hd⟩
  rw [if_neg h1]
  by_cases h2 : t.kd = 2
  · rw [if_pos h2]
    have hq := form_atom h h2
    rw [quoted_bytes hq]
    cases hp : isPlain t.tx with
    | true =>
      rw [if_pos rfl]
      unfold isPlain at hp
      simp only [Bool.and_eq_true, decide_eq_true_eq] at hp
      have h0 := hp.1.1.1
      have hd := bs_drop t.tx 0 h0
      rw [List.drop_zero] at hd
      exact ⟨_, _, hd, small_head hp.1.1.2⟩
    | false =>
      rw [if_neg (by simp)]
      exact ⟨_, _, rfl, head_of (by decide) (by decide) (by decide) (by decide) (by decide)⟩
  rw [if_neg h2]
  by_cases h3 : t.kd = 3
  · rw [if_pos h3]
    exact ⟨_, _, rfl, head_of (by decide) (by decide) (by decide) (by decide) (by decide)⟩
  rw [if_neg h3]
  by_cases h4 : t.kd = 4
  · rw [if_pos h4]
    exact ⟨_, _, rfl, head_of (by decide) (by decide) (by decide) (by decide) (by decide)⟩
  rw [if_neg h4]
  by_cases h5 : t.kd = 5
  · rw [if_pos h5]
    exact ⟨_, _, rfl, head_of (by decide) (by decide) (by decide) (by decide) (by decide)⟩
  rw [if_neg h5]
  split
  · exact ⟨_, _, rfl, head_of (by decide) (by decide) (by decide) (by decide) (by decide)⟩
  · exact ⟨_, _, rfl, head_of (by decide) (by decide) (by decide) (by decide) (by decide)⟩

/-! ### several terms -/
theorem sep_cons (c a b : List Int) (l : List (List Int)) : sepBy c (a :: b :: l) = a ++ (c ++ sepBy c (b :: l)) := rfl
/-- What reading one of some terms comes to. -/
def ReadsTo (f : Nat → Rd) (s : ByteArray) (g : List Int) (a : Tm) : Prop :=
  ∀ (A R : List Int) (k : Nat), bs s = A ++ (txtT g a ++ R) → StopR R → blk s k = A.length → f k = (a, A.length + (txtT g a).length, [])
theorem sev_back {f : Nat → Rd} {s : ByteArray} {g : List Int} (hg : ∀ x ∈ g, isBlank x = true) : ∀ (l : List Tm), l ≠ [] → (∀ a ∈ l, ReadsTo f s g a ∧ ∃ c r, txtT g a = c :: r ∧ headOk c) → ∀ (acc : List Tm) (m : Nat) (A R : List Int) (k : Nat) (c : Int) (R' : List Int),
    l.length ≤ m → bs s = A ++ (sepBy (44 :: g) (l.map (txtT g)) ++ R) → R = c :: R' → (c = 125 ∨ c = 93 ∨ c = 124) → blk s k = A.length → sevAt f s m k acc = (acc ++ l, A.length + (sepBy (44 :: g) (l.map (txtT g))).length, [])
  | [], hne, _, _, _, _, _, _, _, _, _, _, _, _, _ => absurd rfl hne
  | [a], _, ha, acc, m, A, R, k, c, R', hm, h, hR, hc, hk => by
    obtain ⟨m, rfl⟩ : ∃ q, m = q + 1 := ⟨m - 1, by simp at hm; omega⟩
    simp only [List.map_cons, List.map_nil, sepBy] at h ⊢
    subst hR
    have hcb : isBlank c = false ∧ isIn c = false ∧ c ≠ 44 := by rcases hc with rfl | rfl | rfl <;> decide
    have e1 := (ha a (by simp)).1 A (c :: R') k h (StopR.cons hcb.2.1) hk
    have h2 : bs s = (A ++ txtT g a) ++ c :: R' := by rw [h, List.append_assoc]
    have e2 := blk_none h2 hcb.1
    have e3 := isAt_no h2 hcb.2.2
    rw [List.length_append] at e2 e3
    rw [sevAt, e1]
    simp only
    rw [e2, e3]
    rfl
  | a :: b :: l, _, ha, acc, m, A, R, k, c, R', hm, h, hR, hc, hk => by
    obtain ⟨m, rfl⟩ : ∃ q, m = q + 1 := ⟨m - 1, by simp at hm; omega⟩
    rw [List.map_cons, List.map_cons, sep_cons] at h ⊢
    rw [← List.map_cons] at h ⊢
    obtain ⟨S, hS⟩ : ∃ S, S = sepBy (44 :: g) (List.map (txtT g) (b :: l)) := ⟨_, rfl⟩
    rw [← hS] at h ⊢
    have h1 : bs s = A ++ (txtT g a ++ (44 :: (g ++ (S ++ R)))) := by rw [h]; simp
    have e1 := (ha a (by simp)).1 A _ k h1 (StopR.cons (by decide)) hk
    have h2 : bs s = (A ++ txtT g a) ++ 44 :: (g ++ (S ++ R)) := by rw [h1, List.append_assoc]
    have e2 := blk_none h2 (by decide)
    have e3 := isAt_yes h2
    obtain ⟨cb, rb, hcb, hhb⟩ := (ha b (by simp)).2
    have hSh : ∃ q, S = cb :: q := by
      rw [hS, List.map_cons, hcb]
      cases l.map (txtT g) with
      | nil => exact ⟨_, rfl⟩
      | cons x y => exact ⟨_, rfl⟩
    obtain ⟨q, hq⟩ := hSh
    have h3 : bs s = (A ++ txtT g a ++ [44]) ++ (g ++ (cb :: (q ++ R))) := by rw [h2, hq]; simp
    have e4 := blk_to h3 hg hhb.1
    have h4 : bs s = (A ++ txtT g a ++ 44 :: g) ++ (S ++ R) := by rw [h2]; simp
    have hl1 : (A ++ txtT g a ++ [44]).length = A.length + (txtT g a).length + 1 := by simp; omega
    have hl2 : (A ++ txtT g a ++ 44 :: g).length = A.length + (txtT g a).length + 1 + g.length := by simp; omega
    rw [hl1] at e4
    rw [List.length_append] at e2 e3
    have e5 := sev_back hg (b :: l) (by simp) (fun x hx => ha x (by simp only [List.mem_cons]; exact .inr (by simpa using hx))) (acc ++ [a]) m (A ++ txtT g a ++ 44 :: g) R (A.length + (txtT g a).length + 1) c R' (by simp at hm ⊢; omega) (by rw [← hS]; exact h4) hR hc (by rw [e4, hl2])
    rw [← hS, hl2] at e5
    rw [sevAt, e1]
    simp only
    rw [e2, e3]
    simp only [if_true]
    rw [e5]
    simp only [Prod.mk.injEq, and_true, List.append_assoc, List.singleton_append, true_and, List.length_append, List.length_cons]
    omega

theorem dropLast_snoc {α : Type} {l : List α} (h : l ≠ []) : ∃ i x, l = i ++ [x] := ⟨l.dropLast, l.getLast h, (List.dropLast_concat_getLast h).symm⟩

/-! ### one term -/
theorem rd_txt {g : List Int} (hg : ∀ x ∈ g, isBlank x = true) (s : ByteArray) (t : Tm) : ∀ (D n m : Int) (d : Nat), (measT t D n m).1 = [] → wfT t = true → 257 ≤ D + d → ReadsTo (rdT s d) s g t := by
  induction t using Tm.ind with
  | h t ih =>
    intro D n m d hm hw hD A R k h hR hk
    obtain ⟨hd1, hf, hml, _, _⟩ := meas_parts hm
    have hok := meas_ok t D n m hm
    obtain ⟨d, rfl⟩ : ∃ q, d = q + 1 := ⟨d - 1, by omega⟩
    have hin : ∀ a ∈ t.args, ReadsTo (rdT s d) s g a ∧ ∃ c r, txtT g a = c :: r ∧ headOk c := by
      intro a ha
      obtain ⟨n', m', hma⟩ := measL_mem hml a ha
      exact ⟨ih a ha (D + 1) n' m' d hma (wfL_mem (wf_args hw) ha) (by omega), txt_head g (meas_parts hma).2.1⟩
    have hlen : t.args.length ≤ s.size ∨ True := .inr trivial
    rw [rdT, hk]
    have hbl : ∀ (l : List Tm) (A R : List Int), bs s = A ++ (sepBy (44 :: g) (l.map (txtT g)) ++ R) → (∀ a ∈ l, ∃ c r, txtT g a = c :: r ∧ headOk c) → l.length ≤ s.size + 1 := by
      intro l A R hh hl
      have hlen : l.length ≤ (sepBy (44 :: g) (l.map (txtT g))).length := by
        clear hh
        induction l with
        | nil => simp
        | cons a l ihl =>
          have i1 := ihl fun x hx => hl x (by simp [hx])
          obtain ⟨c, r, hc, _⟩ := hl a (by simp)
          cases l with
          | nil => simp [sepBy, hc]
          | cons b l =>
            rw [List.map_cons, List.map_cons, sep_cons, ← List.map_cons, hc]
            simp only [List.length_append, List.length_cons] at i1 ⊢
            omega
      have : s.size = A.length + ((sepBy (44 :: g) (l.map (txtT g))).length + R.length) := by rw [← bs_len, hh]; simp
      omega
    rw [txtT_eq] at h ⊢
    rcases form_fields hok with ⟨k1, e⟩ | ⟨k2, e⟩ | ⟨k3, e, hl3⟩ | ⟨k4, e, hl4⟩ | ⟨k5, e⟩ | ⟨k6, e⟩ | ⟨k7, e⟩
    · rw [if_pos k1] at h ⊢
      obtain ⟨b1, b2, b3⟩ := int_back (form_int hf k1) h hR
      unfold begunAt
      rw [if_neg (by omega), if_pos b2, b1]
      rw [e]
      rfl
    · rw [if_neg (by omega), if_pos k2] at h ⊢
      obtain ⟨b1, b2, b3⟩ := atom_back (form_atom hf k2) h hR
      have hc : isDigit (bt s (A.length : Nat)) = false ∧ bt s (A.length : Nat) ≠ 45 ∧ bt s (A.length : Nat) ≠ 123 ∧ bt s (A.length : Nat) ≠ 91 ∧ bt s (A.length : Nat) ≠ 35 ∧ bt s (A.length : Nat) ≠ 60 := by
        unfold isSmall at b2
        unfold isDigit
        simp only [Bool.and_eq_true, decide_eq_true_eq] at b2
        simp
        omega
      unfold begunAt
      rw [if_neg (by omega), if_neg (by rw [hc.1]; simp [hc.2.1]), if_neg hc.2.2.1, if_neg hc.2.2.2.1, if_neg hc.2.2.2.2.1, if_neg hc.2.2.2.2.2, b1]
      simp only [Prod.mk.injEq, and_true]
      exact e.symm
    · rw [if_neg (by omega), if_neg (by omega), if_pos k3] at h ⊢
      have hn := form_node hf (.inl k3)
      have h0 : bs s = A ++ 35 :: (82 :: 101 :: 102 :: 60 :: (bs (quoted t.tx).1 ++ (numsTxt (t.cr :: t.nums) ++ 62 :: R))) := by rw [h]; simp [farTxt, numsTxt]
      obtain ⟨g1, g2, _⟩ := at_list h0
      have h5 : bs s = (A ++ [35, 82, 101, 102, 60]) ++ (bs (quoted t.tx).1 ++ (numsTxt (t.cr :: t.nums) ++ 62 :: R)) := by rw [h0]; simp
      have hmk : markLen s A.length 5 = 5 := by
        have i0 := isAt_yes h0
        have i1 := isAt_yes (s := s) (A := A ++ [35]) (c := 82) (R := 101 :: 102 :: 60 :: (bs (quoted t.tx).1 ++ (numsTxt (t.cr :: t.nums) ++ 62 :: R))) (by rw [h0]; simp)
        have i2 := isAt_yes (s := s) (A := A ++ [35, 82]) (c := 101) (R := 102 :: 60 :: (bs (quoted t.tx).1 ++ (numsTxt (t.cr :: t.nums) ++ 62 :: R))) (by rw [h0]; simp)
        have i3 := isAt_yes (s := s) (A := A ++ [35, 82, 101]) (c := 102) (R := 60 :: (bs (quoted t.tx).1 ++ (numsTxt (t.cr :: t.nums) ++ 62 :: R))) (by rw [h0]; simp)
        have i4 := isAt_yes (s := s) (A := A ++ [35, 82, 101, 102]) (c := 60) (R := bs (quoted t.tx).1 ++ (numsTxt (t.cr :: t.nums) ++ 62 :: R)) (by rw [h0]; simp)
        rw [List.length_append] at i1 i2 i3 i4
        have j1 : isAt s (A.length + 1) 82 = true := i1
        have j2 : isAt s (A.length + 2) 101 = true := i2
        have j3 : isAt s (A.length + 3) 102 = true := i3
        have j4 : isAt s (A.length + 4) 60 = true := i4
        simp [markLen, refMark, j1, j2, j3, j4]
        exact i0
      have e1 := far_back (kd := 3) hn (wf_nums hw) h5
      have hl9 : (A ++ [35, 82, 101, 102, 60]).length = A.length + 5 := by simp
      rw [hl3, hl9] at e1
      unfold begunAt
      rw [if_neg (by omega), if_neg (by rw [g2]; decide), if_neg (by rw [g2]; decide), if_neg (by rw [g2]; decide), if_pos g2, if_pos hmk, e1]
      simp only [Prod.mk.injEq, and_true]
      refine ⟨e.symm, ?_⟩
      simp only [farTxt, numsTxt, List.length_cons, List.length_append, List.length_nil]
      omega
    · rw [if_neg (by omega), if_neg (by omega), if_neg (by omega), if_pos k4] at h ⊢
      have hn := form_node hf (.inr k4)
      have h0 : bs s = A ++ 60 :: (bs (quoted t.tx).1 ++ (numsTxt (t.cr :: t.nums) ++ 62 :: R)) := by rw [h]; simp [farTxt, numsTxt]
      obtain ⟨g1, g2, _⟩ := at_list h0
      have h5 : bs s = (A ++ [60]) ++ (bs (quoted t.tx).1 ++ (numsTxt (t.cr :: t.nums) ++ 62 :: R)) := by rw [h0]; simp
      have e1 := far_back (kd := 4) hn (wf_nums hw) h5
      have hl9 : (A ++ [60]).length = A.length + 1 := by simp
      rw [hl4, hl9] at e1
      unfold begunAt
      rw [if_neg (by omega), if_neg (by rw [g2]; decide), if_neg (by rw [g2]; decide), if_neg (by rw [g2]; decide), if_neg (by rw [g2]; decide), if_pos g2, e1]
      simp only [Prod.mk.injEq, and_true]
      refine ⟨e.symm, ?_⟩
      simp only [farTxt, numsTxt, List.length_cons, List.length_append, List.length_nil]
      omega
    · rw [if_neg (by omega), if_neg (by omega), if_neg (by omega), if_neg (by omega), if_pos k5] at h ⊢
      obtain ⟨S, hS⟩ : ∃ S, S = sepBy (44 :: g) (t.args.map (txtT g)) := ⟨_, rfl⟩
      rw [← hS] at h ⊢
      have h0 : bs s = A ++ 123 :: (g ++ (S ++ 125 :: R)) := by rw [h]; simp
      obtain ⟨g1, g2, _⟩ := at_list h0
      have h1 : bs s = (A ++ [123]) ++ (g ++ (S ++ 125 :: R)) := by rw [h0]; simp
      have h2 : bs s = (A ++ 123 :: g) ++ (S ++ 125 :: R) := by rw [h0]; simp
      have h3 : bs s = (A ++ 123 :: (g ++ S)) ++ 125 :: R := by rw [h0]; simp
      have l1 : (A ++ [123]).length = A.length + 1 := by simp
      have l2 : (A ++ 123 :: g).length = A.length + 1 + g.length := by simp; omega
      have l3 : (A ++ 123 :: (g ++ S)).length = A.length + 1 + g.length + S.length := by simp; omega
      unfold begunAt
      rw [if_neg (by omega), if_neg (by rw [g2]; decide), if_pos g2]
      unfold tupleAt
      have i3 := isAt_yes h3
      rw [l3] at i3
      by_cases hne : t.args = []
      · have hS0 : S = [] := by rw [hS, hne]; rfl
        subst hS0
        have b1 := blk_to (A := A ++ [123]) (G := g) (c := 125) (R := R) (by rw [h1]; simp) hg (by decide)
        rw [l1] at b1
        rw [b1]
        simp only [List.length_nil, Nat.add_zero] at i3
        rw [i3, if_pos rfl]
        simp only [Prod.mk.injEq, and_true]
        refine ⟨by rw [e, hne], ?_⟩
        simp
        omega
      · obtain ⟨a, l, hal⟩ : ∃ a l, t.args = a :: l := by cases h' : t.args with | nil => exact absurd h' hne | cons a l => exact ⟨a, l, rfl⟩
        obtain ⟨c, r, hc, hh⟩ := (hin a (by rw [hal]; simp)).2
        obtain ⟨q, hq⟩ : ∃ q, S = c :: q := by
          rw [hS, hal, List.map_cons, hc]
          cases l.map (txtT g) with
          | nil => exact ⟨_, rfl⟩
          | cons x y => exact ⟨_, rfl⟩
        have b1 := blk_to (A := A ++ [123]) (G := g) (c := c) (R := q ++ 125 :: R) (by rw [h1, hq]; simp) hg hh.1
        rw [l1] at b1
        have n1 := isAt_no (A := A ++ 123 :: g) (d := 125) (c := c) (R := q ++ 125 :: R) (by rw [h2, hq]; simp) hh.2.2.1
        rw [l2] at n1
        have bb := blk_none (c := c) (R := q ++ 125 :: R) (A := A ++ 123 :: g) (by rw [h2, hq]; simp) hh.1
        rw [l2] at bb
        have e5 := sev_back hg t.args hne hin [] (s.size + 1) (A ++ 123 :: g) (125 :: R) (A.length + 1 + g.length) 125 R (hbl t.args (A ++ 123 :: g) (125 :: R) (by rw [← hS]; exact h2) (fun a ha => (hin a ha).2)) (by rw [← hS]; exact h2) rfl (.inl rfl) (by rw [bb, l2])
        rw [← hS, l2, List.nil_append] at e5
        rw [b1, n1, if_neg (by simp), e5]
        simp only
        rw [i3, if_pos rfl]
        simp only [Prod.mk.injEq, and_true]
        refine ⟨e.symm, ?_⟩
        simp
        omega
    · rw [if_neg (by omega), if_neg (by omega), if_neg (by omega), if_neg (by omega), if_neg (by omega), if_pos k6] at h ⊢
      have h0 : bs s = A ++ 91 :: (g ++ 93 :: R) := by rw [h]; simp
      obtain ⟨g1, g2, _⟩ := at_list h0
      have h1 : bs s = (A ++ [91]) ++ (g ++ 93 :: R) := by rw [h0]; simp
      have h3 : bs s = (A ++ 91 :: g) ++ 93 :: R := by rw [h0]; simp
      have l1 : (A ++ [91]).length = A.length + 1 := by simp
      have l3 : (A ++ 91 :: g).length = A.length + 1 + g.length := by simp; omega
      have b1 := blk_to h1 hg (by decide)
      rw [l1] at b1
      have i3 := isAt_yes h3
      rw [l3] at i3
      unfold begunAt
      rw [if_neg (by omega), if_neg (by rw [g2]; decide), if_neg (by rw [g2]; decide), if_pos g2]
      unfold listAt
      rw [b1, i3, if_pos rfl]
      simp only [Prod.mk.injEq, and_true]
      refine ⟨e.symm, ?_⟩
      simp
      omega
    · rw [if_neg (by omega), if_neg (by omega), if_neg (by omega), if_neg (by omega), if_neg (by omega), if_neg (by omega)] at h ⊢
      obtain ⟨hl2, hlk⟩ := shape_list hok k7
      have hne : t.args ≠ [] := fun e => by rw [e] at hl2; simp at hl2
      obtain ⟨i, x, hix⟩ := dropLast_snoc hne
      have hine : i ≠ [] := fun e => by rw [hix, e] at hl2; simp at hl2
      have hlx : lastKd t = x.kd := by
        have := rdTm_last hne
        rw [hix, List.getLast?_concat] at this
        unfold lastKd
        rw [hix, ← Option.some.inj this]
      rw [hlx] at h ⊢ hlk
      rw [hix] at hin
      rw [hix, List.map_append, List.map_singleton, List.dropLast_concat, List.getLastD_concat] at h ⊢
      obtain ⟨S, hS⟩ : ∃ S, S = sepBy (44 :: g) (i.map (txtT g)) := ⟨_, rfl⟩
      rw [← hS] at h ⊢
      obtain ⟨a, l, hal⟩ : ∃ a l, i = a :: l := by cases h' : i with | nil => exact absurd h' hine | cons a l => exact ⟨a, l, rfl⟩
      obtain ⟨c, r, hc, hh⟩ := (hin a (by rw [hal]; simp)).2
      obtain ⟨q, hq⟩ : ∃ q, S = c :: q := by
        rw [hS, hal, List.map_cons, hc]
        cases l.map (txtT g) with
        | nil => exact ⟨_, rfl⟩
        | cons x y => exact ⟨_, rfl⟩
      -- what stands behind the elements
      obtain ⟨T, hT⟩ : ∃ T, T = (if x.kd = 6 then [] else 124 :: (g ++ txtT g x)) ++ [93] := ⟨_, rfl⟩
      rw [← hT] at h ⊢
      have h0 : bs s = A ++ 91 :: (g ++ (S ++ (T ++ R))) := by rw [h]; simp
      obtain ⟨g1, g2, _⟩ := at_list h0
      have h1 : bs s = (A ++ [91]) ++ (g ++ (S ++ (T ++ R))) := by rw [h0]; simp
      have h2 : bs s = (A ++ 91 :: g) ++ (S ++ (T ++ R)) := by rw [h0]; simp
      have l1 : (A ++ [91]).length = A.length + 1 := by simp
      have l2 : (A ++ 91 :: g).length = A.length + 1 + g.length := by simp; omega
      have b1 := blk_to (A := A ++ [91]) (G := g) (c := c) (R := q ++ (T ++ R)) (by rw [h1, hq]; simp) hg hh.1
      rw [l1] at b1
      have n1 := isAt_no (A := A ++ 91 :: g) (d := 93) (c := c) (R := q ++ (T ++ R)) (by rw [h2, hq]; simp) hh.2.1
      rw [l2] at n1
      have bb := blk_none (c := c) (R := q ++ (T ++ R)) (A := A ++ 91 :: g) (by rw [h2, hq]; simp) hh.1
      rw [l2] at bb
      have hTc : ∃ cT T', T ++ R = cT :: T' ∧ (cT = 125 ∨ cT = 93 ∨ cT = 124) := by
        rw [hT]
        split
        · exact ⟨93, R, rfl, by omega⟩
        · exact ⟨124, _, rfl, by omega⟩
      obtain ⟨cT, T', hTT, hcT⟩ := hTc
      have hini : ∀ a ∈ i, ReadsTo (rdT s d) s g a ∧ ∃ c r, txtT g a = c :: r ∧ headOk c := fun a ha => hin a (by simp [ha])
      have e5 := sev_back hg i hine hini [] (s.size + 1) (A ++ 91 :: g) (T ++ R) (A.length + 1 + g.length) cT T' (hbl i (A ++ 91 :: g) (T ++ R) (by rw [← hS]; exact h2) (fun a ha => (hini a ha).2)) (by rw [← hS]; exact h2) hTT hcT (by rw [bb, l2])
      rw [← hS, l2, List.nil_append] at e5
      unfold begunAt
      rw [if_neg (by omega), if_neg (by rw [g2]; decide), if_neg (by rw [g2]; decide), if_pos g2]
      unfold listAt
      rw [b1, n1, if_neg (by simp), e5]
      simp only
      by_cases hx6 : x.kd = 6
      · rw [if_pos hx6] at hT
        subst hT
        have h3 : bs s = (A ++ 91 :: (g ++ S)) ++ 93 :: R := by rw [h0]; simp
        have l3 : (A ++ 91 :: (g ++ S)).length = A.length + 1 + g.length + S.length := by simp; omega
        have i3 := isAt_yes h3
        have i4 := isAt_no (d := 124) h3 (by decide)
        rw [l3] at i3 i4
        rw [i4, if_neg (by simp)]
        unfold listEnd
        rw [i3, if_pos rfl]
        have hxe : x = tmNil := by
          have hokx := okL_mem (ok_args hok) (a := x) (by rw [hix]; simp)
          rcases form_fields hokx with ⟨q1, f⟩ | ⟨q1, f⟩ | ⟨q1, f, _⟩ | ⟨q1, f, _⟩ | ⟨q1, f⟩ | ⟨q1, f⟩ | ⟨q1, f⟩
          all_goals first | (exfalso; omega) | (rw [f]; rfl)
        simp only [Prod.mk.injEq, and_true]
        refine ⟨?_, ?_⟩
        · rw [e, hix, hxe]
          rfl
        · simp
          omega
      · rw [if_neg hx6] at hT
        subst hT
        have h3 : bs s = (A ++ 91 :: (g ++ S)) ++ 124 :: (g ++ (txtT g x ++ 93 :: R)) := by rw [h0]; simp
        have l3 : (A ++ 91 :: (g ++ S)).length = A.length + 1 + g.length + S.length := by simp; omega
        have i3 := isAt_yes h3
        rw [l3] at i3
        rw [i3, if_pos rfl]
        obtain ⟨rx, cx, rx', hcx, hhx⟩ := hin x (by simp)
        have h4 : bs s = (A ++ 91 :: (g ++ (S ++ [124]))) ++ (g ++ cx :: (rx' ++ 93 :: R)) := by rw [h0, hcx]; simp
        have h5 : bs s = (A ++ 91 :: (g ++ (S ++ 124 :: g))) ++ (txtT g x ++ 93 :: R) := by rw [h0]; simp
        have h6 : bs s = (A ++ 91 :: (g ++ (S ++ 124 :: (g ++ txtT g x)))) ++ 93 :: R := by rw [h0]; simp
        have l4 : (A ++ 91 :: (g ++ (S ++ [124]))).length = A.length + 1 + g.length + S.length + 1 := by simp; omega
        have l5 : (A ++ 91 :: (g ++ (S ++ 124 :: g))).length = A.length + 1 + g.length + S.length + 1 + g.length := by simp; omega
        have l6 : (A ++ 91 :: (g ++ (S ++ 124 :: (g ++ txtT g x)))).length = A.length + 1 + g.length + S.length + 1 + g.length + (txtT g x).length := by simp; omega
        have b4 := blk_to h4 hg hhx.1
        rw [l4] at b4
        have e6 := rx (A ++ 91 :: (g ++ (S ++ 124 :: g))) (93 :: R) (A.length + 1 + g.length + S.length + 1) h5 (StopR.cons (by decide)) (by rw [b4, l5])
        rw [l5] at e6
        have b6 := blk_none h6 (by decide)
        have i6 := isAt_yes h6
        rw [l6] at b6 i6
        rw [e6]
        simp only
        rw [b6]
        unfold listEnd
        rw [i6, if_pos rfl]
        simp only [Prod.mk.injEq, and_true]
        refine ⟨?_, ?_⟩
        · rw [e, hix]
          unfold joinT
          rw [if_neg hlk]
        · simp
          omega
end Go.Proofs.YtgapeacflkfmdaaGreatDoor
namespace Go.Proofs.YtgapeacflkfmdaaGreatDoor
open Go.RowKit Go.Proofs.YtgapeacflkfmdaaGreatDoorW.PrintWords

abbrev tyTm : Nat := 27
abbrev tyU32 : Nat := 23
theorem infoTm : (Tryz.prog.info? 27).map (fun i => (i.zero, i.size, i.bytes)) = some (some (.agg #[(.int .i64 0), (.int .i64 0), (.string ⟨#[]⟩), (.int .u32 0), (.slice none 0 0), (.slice none 0 0)]), 6, 88) := by kernel_rfl
theorem infoU32 : (Tryz.prog.info? 23).map (fun i => (i.zero, i.size, i.bytes)) = some (some (.int .u32 0), 1, 4) := by kernel_rfl

def kTmF (d : Kd Tm) : Kd Tm := Kd.iso (Kd.pair (Kd.int .i64) (Kd.pair (Kd.int .i64) (Kd.pair Kd.string (Kd.pair (Kd.int .u32) (Kd.pair (Kd.slice tyU32 (Kd.int .u32)) (Kd.slice tyTm d)))))) (fun x : Tm => (x.kd, x.it, x.tx, x.cr, x.nums, x.args))
theorem kTm_mono : Kd.Mono kTmF := Kd.mono_iso _ (Kd.mono_pair (Kd.mono_const _) (Kd.mono_pair (Kd.mono_const _) (Kd.mono_pair (Kd.mono_const _) (Kd.mono_pair (Kd.mono_const _) (Kd.mono_pair (Kd.mono_const _) (Kd.mono_slice tyTm Kd.mono_id))))))
theorem kTm_sub : Kd.Sub kTmF [tyU32, tyTm] := Kd.sub_iso _ (Kd.sub_pair (Kd.sub_const _ (by decide)) (Kd.sub_pair (Kd.sub_const _ (by decide)) (Kd.sub_pair (Kd.sub_const _ (by decide)) (Kd.sub_pair (Kd.sub_const _ (by decide)) (Kd.sub_pair (Kd.sub_const _ (by decide)) (Kd.sub_slice tyTm (by decide) Kd.sub_id))))))
theorem kTm_sz : ∀ n, (Kd.upto kTmF 6 [tyU32, tyTm] n).sz = 6 := Kd.upto_sz (fun _ => rfl)
def kTm : Kd Tm := Kd.fix kTmF 6 [tyU32, tyTm] kTm_sz (Kd.upto_E kTm_sub)
abbrev kU : Kd Int := Kd.int .u32
theorem kTm_open {w : World} {x : Tm} {cs : List Value} (h : kTm.K w x cs) : ∃ A4 c4 A5 c5, cs = [.int .i64 x.kd, .int .i64 x.it, .string x.tx, .int .u32 x.cr, .slice A4 x.nums.length c4, .slice A5 x.args.length c5] ∧ x.nums.length ≤ c4 ∧ kU.C w A4 x.nums.length x.nums ∧ x.args.length ≤ c5 ∧ kTm.C w A5 x.args.length x.args := by
  obtain ⟨n, h⟩ := h
  cases n with
  | zero => exact h.elim
  | succ n =>
    obtain ⟨_, _, rfl, rfl, ⟨_, _, rfl, rfl, ⟨_, _, rfl, rfl, ⟨_, _, rfl, rfl, ⟨_, _, rfl, ⟨A4, c4, rfl, l4, g4⟩, ⟨A5, c5, rfl, l5, g5⟩⟩⟩⟩⟩⟩ := h
    exact ⟨A4, c4, A5, c5, rfl, l4, g4, l5, Kd.fix_C g5⟩
theorem kTm_mk (w : World) (x : Tm) {A4 : Option Addr} {c4 : Nat} (l4 : x.nums.length ≤ c4) (g4 : kU.C w A4 x.nums.length x.nums) {A5 : Option Addr} {c5 : Nat} (l5 : x.args.length ≤ c5) (g5 : kTm.C w A5 x.args.length x.args) : kTm.K w x [.int .i64 x.kd, .int .i64 x.it, .string x.tx, .int .u32 x.cr, .slice A4 x.nums.length c4, .slice A5 x.args.length c5] := by
  obtain ⟨n5, q5⟩ := Kd.fix_C_back kTm_mono g5
  have r5 := Kd.upto_C_le kTm_mono kTm_sz (show n5 ≤ n5 by omega) q5
  exact ⟨n5 + 1, ⟨[.int .i64 x.kd], [.int .i64 x.it, .string x.tx, .int .u32 x.cr, .slice A4 x.nums.length c4, .slice A5 x.args.length c5], rfl, rfl, ⟨[.int .i64 x.it], [.string x.tx, .int .u32 x.cr, .slice A4 x.nums.length c4, .slice A5 x.args.length c5], rfl, rfl, ⟨[.string x.tx], [.int .u32 x.cr, .slice A4 x.nums.length c4, .slice A5 x.args.length c5], rfl, rfl, ⟨[.int .u32 x.cr], [.slice A4 x.nums.length c4, .slice A5 x.args.length c5], rfl, rfl, ⟨[.slice A4 x.nums.length c4], [.slice A5 x.args.length c5], rfl, ⟨A4, c4, rfl, l4, g4⟩, ⟨A5, c5, rfl, l5, r5⟩⟩⟩⟩⟩⟩⟩
theorem kTm_mkM (w : World) (base : Nat) (ok : Nat → Prop) (x : Tm) {v4 : Value} (g4 : kU.R tyU32 w base ok v4 x.nums) {v5 : Value} (g5 : kTm.R tyTm w base ok v5 x.args) : kTm.M w base ok x [.int .i64 x.kd, .int .i64 x.it, .string x.tx, .int .u32 x.cr, v4, v5] := by
  obtain ⟨n5, q5⟩ := Kd.fix_R_back kTm_mono g5
  have r5 := Kd.upto_R_le kTm_mono kTm_sz (show n5 ≤ n5 by omega) q5
  exact ⟨n5 + 1, ⟨[.int .i64 x.kd], [.int .i64 x.it, .string x.tx, .int .u32 x.cr, v4, v5], rfl, rfl, ⟨[.int .i64 x.it], [.string x.tx, .int .u32 x.cr, v4, v5], rfl, rfl, ⟨[.string x.tx], [.int .u32 x.cr, v4, v5], rfl, rfl, ⟨[.int .u32 x.cr], [v4, v5], rfl, rfl, ⟨[v4], [v5], rfl, ⟨v4, rfl, g4⟩, ⟨v5, rfl, r5⟩⟩⟩⟩⟩⟩⟩

/-- A term as a value. -/
def tmV (t : Tm) (v4 v5 : Value) : Value := .agg #[.int .i64 t.kd, .int .i64 t.it, .string t.tx, .int .u32 t.cr, v4, v5]
/-- What stands behind a term's two slices. -/
structure TmR (W : World) (t : Tm) (A4 : Option Addr) (c4 : Nat) (A5 : Option Addr) (c5 : Nat) : Prop where
  l4 : t.nums.length ≤ c4
  g4 : kU.C W A4 t.nums.length t.nums
  l5 : t.args.length ≤ c5
  g5 : kTm.C W A5 t.args.length t.args
theorem TmR.below {W W' : World} {t : Tm} {A4 A5 : Option Addr} {c4 c5 : Nat} (h : TmR W t A4 c4 A5 c5) (hb : Below W.heap.size W W') : TmR W' t A4 c4 A5 c5 := ⟨h.l4, Kd.C_below h.g4 hb, h.l5, Kd.C_below h.g5 hb⟩
/-- The value 'v' reads as the term 't'. -/
def TmIs (W : World) (t : Tm) (v : Value) : Prop := ∃ A4 c4 A5 c5, v = tmV t (.slice A4 t.nums.length c4) (.slice A5 t.args.length c5) ∧ TmR W t A4 c4 A5 c5
theorem TmIs.below {W W' : World} {t : Tm} {v : Value} (h : TmIs W t v) (hb : Below W.heap.size W W') : TmIs W' t v := by
  obtain ⟨A4, c4, A5, c5, e, h⟩ := h
  exact ⟨A4, c4, A5, c5, e, h.below hb⟩
theorem TmIs.ofK {W : World} {t : Tm} {cs : List Value} (h : kTm.K W t cs) : TmIs W t (.agg cs.toArray) := by
  obtain ⟨A4, c4, A5, c5, rfl, l4, g4, l5, g5⟩ := kTm_open h
  exact ⟨A4, c4, A5, c5, rfl, l4, g4, l5, g5⟩
/-- A term that is made. -/
def TmMade (W : World) (base : Nat) (t : Tm) (v : Value) : Prop := ∃ v4 v5, v = tmV t v4 v5 ∧ kU.R tyU32 W base (fun _ => True) v4 t.nums ∧ kTm.R tyTm W base (fun _ => True) v5 t.args
theorem TmMade.is {W : World} {base : Nat} {t : Tm} {v : Value} (h : TmMade W base t v) : TmIs W t v := by
  obtain ⟨v4, v5, rfl, h4, h5⟩ := h
  obtain ⟨A4, c4, rfl, l4, g4⟩ := Kd.R_reads h4
  obtain ⟨A5, c5, rfl, l5, g5⟩ := Kd.R_reads h5
  exact ⟨A4, c4, A5, c5, rfl, l4, g4, l5, g5⟩
theorem TmMade.below {W W' : World} {base : Nat} {t : Tm} {v : Value} (h : TmMade W base t v) (hb : Below W.heap.size W W') : TmMade W' base t v := by
  obtain ⟨v4, v5, e, h4, h5⟩ := h
  exact ⟨v4, v5, e, Kd.R_below h4 hb, Kd.R_below h5 hb⟩
theorem TmMade.lower {W : World} {base base' : Nat} {t : Tm} {v : Value} (h : TmMade W base t v) (hb : base' ≤ base) : TmMade W base' t v := by
  obtain ⟨v4, v5, e, h4, h5⟩ := h
  exact ⟨v4, v5, e, Kd.R_lower h4 hb, Kd.R_lower h5 hb⟩
/-- A term without numbers and parts. -/
theorem TmMade.flat (W : World) (base : Nat) (kd it : Int) (tx : ByteArray) (cr : Int) : TmMade W base ⟨kd, it, tx, cr, [], []⟩ (.agg #[.int .i64 kd, .int .i64 it, .string tx, .int .u32 cr, .slice none 0 0, .slice none 0 0]) := ⟨_, _, rfl, Kd.R_nil _ _ _ _ _, Kd.R_nil _ _ _ _ _⟩
def vZero : Value := .agg #[.int .i64 0, .int .i64 0, .string ⟨#[]⟩, .int .u32 0, .slice none 0 0, .slice none 0 0]
theorem TmMade.zero (W : World) (base : Nat) : TmMade W base zTm vZero := TmMade.flat W base 0 0 ⟨#[]⟩ 0

/-- An element of a row of terms. -/
theorem atTm {w : World} {A : Option Addr} {n : Nat} {xs : List Tm} (h : Kd.C kTm w A n xs) (i : Int) (h0 : 0 ≤ i) (h1 : i < n) : ∃ ad A4 c4 A5 c5, A = some ad ∧ w.cell? (ad.add (i.toNat * 6)) = some (.int .i64 (rdTm xs i).kd) ∧ w.cell? ⟨(ad.add (i.toNat * 6)).block, (ad.add (i.toNat * 6)).off + 1, none⟩ = some (.int .i64 (rdTm xs i).it) ∧
    w.cell? ⟨(ad.add (i.toNat * 6)).block, (ad.add (i.toNat * 6)).off + 2, none⟩ = some (.string (rdTm xs i).tx) ∧ w.cell? ⟨(ad.add (i.toNat * 6)).block, (ad.add (i.toNat * 6)).off + 3, none⟩ = some (.int .u32 (rdTm xs i).cr) ∧ w.cell? ⟨(ad.add (i.toNat * 6)).block, (ad.add (i.toNat * 6)).off + 4, none⟩ = some (.slice A4 (rdTm xs i).nums.length c4) ∧
    w.cell? ⟨(ad.add (i.toNat * 6)).block, (ad.add (i.toNat * 6)).off + 5, none⟩ = some (.slice A5 (rdTm xs i).args.length c5) ∧ TmR w (rdTm xs i) A4 c4 A5 c5 := by
  obtain ⟨ad, c, e, _, hK, hc0⟩ := Kd.C_get h zTm i h0 h1
  have hc : ∀ j u, c[j]? = some u → w.cell? (ad.add (i.toNat * 6 + j)) = some u := hc0
  obtain ⟨A4, c4, A5, c5, rfl, l4, g4, l5, g5⟩ := kTm_open hK
  exact ⟨ad, A4, c4, A5, c5, e, hc 0 _ rfl, by rw [← add_field _ _ 1 (by omega)]; exact hc 1 _ rfl, by rw [← add_field _ _ 2 (by omega)]; exact hc 2 _ rfl, by rw [← add_field _ _ 3 (by omega)]; exact hc 3 _ rfl, by rw [← add_field _ _ 4 (by omega)]; exact hc 4 _ rfl, by rw [← add_field _ _ 5 (by omega)]; exact hc 5 _ rfl, ⟨l4, g4, l5, g5⟩⟩

/-- A term in a block of its own, which may be written. -/
structure TmAt (W : World) (b : Nat) (t : Tm) (v4 v5 : Value) : Prop where
  c0 : W.cell? ⟨b, 0, none⟩ = some (.int .i64 t.kd)
  c1 : W.cell? ⟨b, 1, none⟩ = some (.int .i64 t.it)
  c2 : W.cell? ⟨b, 2, none⟩ = some (.string t.tx)
  c3 : W.cell? ⟨b, 3, none⟩ = some (.int .u32 t.cr)
  c4 : W.cell? ⟨b, 4, none⟩ = some v4
  c5 : W.cell? ⟨b, 5, none⟩ = some v5
  f0 : W.frozen? ⟨b, 0, none⟩ = false
  f1 : W.frozen? ⟨b, 1, none⟩ = false
  f2 : W.frozen? ⟨b, 2, none⟩ = false
  f3 : W.frozen? ⟨b, 3, none⟩ = false
  f4 : W.frozen? ⟨b, 4, none⟩ = false
  f5 : W.frozen? ⟨b, 5, none⟩ = false
theorem TmAt.lt {W : World} {b : Nat} {t : Tm} {v4 v5 : Value} (h : TmAt W b t v4 v5) : b < W.heap.size := World.block_lt_of_cell? W _ h.c0
theorem TmAt.below {W W' : World} {b n : Nat} {t : Tm} {v4 v5 : Value} (h : TmAt W b t v4 v5) (hb : Below n W W') (hn : b < n) : TmAt W' b t v4 v5 :=
  ⟨(hb.cell hn).trans h.c0, (hb.cell hn).trans h.c1, (hb.cell hn).trans h.c2, (hb.cell hn).trans h.c3, (hb.cell hn).trans h.c4, (hb.cell hn).trans h.c5,
    (hb.frozen hn).trans h.f0, (hb.frozen hn).trans h.f1, (hb.frozen hn).trans h.f2, (hb.frozen hn).trans h.f3, (hb.frozen hn).trans h.f4, (hb.frozen hn).trans h.f5⟩
theorem TmAt.new (w : World) (t : Tm) (v4 v5 : Value) : TmAt (w.alloc (.cells #[.int .i64 t.kd, .int .i64 t.it, .string t.tx, .int .u32 t.cr, v4, v5] 27)) w.heap.size t v4 v5 := by
  constructor <;> simp

/-! ### names, chains -/
/-- The number of a chain's outermost link. -/
def headCo : List Lk → Int
  | [] => 0
  | x :: _ => x.co
end Go.Proofs.YtgapeacflkfmdaaGreatDoor
namespace Go.Proofs.YtgapeacflkfmdaaGreatDoor
open Go.RowKit Go.Proofs.YtgapeacflkfmdaaGreatDoorW.PrintWords

theorem term_fault (at_ code : Int) (u : Value) (w : World) (l : List Lk) (h : ErrIs w l u) :
    Calls Tryz.prog 46 #[.int .i64 at_, .int .i64 code, u] w (ErrPost w (⟨nTerm, at_, code⟩ :: l)) := by
  have H : Hid (ErrPost w (⟨nTerm, at_, code⟩ :: l) (.returned (.iface 125 (.pointer (some ⟨w.heap.size, 0, none⟩)))) (w.alloc (.cells #[.string ⟨#[116, 101, 114, 109]⟩, .int .i64 at_, .int .i64 code, u] 129))) :=
    Lib.hid ⟨_, rfl, errOf_new w ⟨nTerm, at_, code⟩ l u h, below_alloc (Below.refl _ _) _⟩
  have hs := h.shape
  clear h
  rcases hs with rfl | ⟨b, rfl⟩
  · go_enter Tryz.func46, Tryz.ntmps46
    go_wp2_with fail
    go_ret
    exact H.out
  · go_enter Tryz.func46, Tryz.ntmps46
    go_wp2_with fail
    go_ret
    exact H.out

theorem term_code (l : List Lk) (v : Value) (w : World) (h : ErrIs w l v) (hG : Glob w) :
    Calls Tryz.prog 136 #[v] w fun e w' => e = .returned (.int .i64 (headCo l)) ∧ Below w.heap.size w w' := by
  cases l with
  | nil =>
    obtain rfl : v = .nilIface := h
    clear hG
    go_enter Tryz.func136, Tryz.ntmps136
    go_wp2_with fail
    refine (as_nil _ _).mono ?_
    rintro e w1 ⟨rfl, rfl⟩
    go_wp2_with fail
    go_ret
    exact ⟨rfl, below_alloc (Below.refl _ _) _⟩
  | cons x r =>
    obtain ⟨b, u, rfl, h0, h1, h2, h3, h4⟩ := h
    have hlt := World.block_lt_of_cell? w _ h2
    simp only at hlt
    have HC := Lib.hid h2
    have HA := Lib.hid (as_in ⟨b, 0, none⟩ w.heap.size (.pointer none) (w.alloc (.cells #[.pointer none] 125)) (hG.below (below_alloc (Below.refl _ _) _)) (by simp) (by simp))
    clear h0 h1 h2 h3 h4 hG
    go_enter Tryz.func136, Tryz.ntmps136
    go_wp2_with fail
    refine HA.out.mono ?_
    rintro e w1 ⟨rfl, hp, hB, _⟩
    have HB : Hid (Below w.heap.size w w1) := Lib.hid ((below_alloc (Below.refl _ _) _).trans hB)
    have hc := (HB.out.cell hlt).trans HC.out
    clear hB
    go_wp2_with fail
    go_ret
    exact ⟨rfl, HB.out⟩

/-! ### comparisons -/
theorem cmp_kind (a b : Int) (w : World) : Calls Tryz.prog 87 #[.int .i64 a, .int .i64 b] w fun e w' => e = .returned (.int .i64 (cmpI a b)) ∧ w = w' := by
  unfold cmpI
  go_enter Tryz.func87, Tryz.ntmps87
  go_wp2
  all_goals go_ret
  all_goals refine ⟨ei ?_, rfl⟩
  all_goals (repeat' split) <;> first | rfl | (exfalso; simp_all; omega)
theorem cmp_i64 (a b : Int) (w : World) : Calls Tryz.prog 88 #[.int .i64 a, .int .i64 b] w fun e w' => e = .returned (.int .i64 (cmpI a b)) ∧ w = w' := by
  unfold cmpI
  go_enter Tryz.func88, Tryz.ntmps88
  go_wp2
  all_goals go_ret
  all_goals refine ⟨ei ?_, rfl⟩
  all_goals (repeat' split) <;> first | rfl | (exfalso; simp_all; omega)
theorem cmp_int (a b : Int) (w : World) : Calls Tryz.prog 93 #[.int .i64 a, .int .i64 b] w fun e w' => e = .returned (.int .i64 (cmpI a b)) ∧ w = w' := by
  unfold cmpI
  go_enter Tryz.func93, Tryz.ntmps93
  go_wp2
  all_goals go_ret
  all_goals refine ⟨ei ?_, rfl⟩
  all_goals (repeat' split) <;> first | rfl | (exfalso; simp_all; omega)
theorem cmp_u32 (a b : Int) (w : World) : Calls Tryz.prog 91 #[.int .u32 a, .int .u32 b] w fun e w' => e = .returned (.int .i64 (cmpI a b)) ∧ w = w' := by
  unfold cmpI
  go_enter Tryz.func91, Tryz.ntmps91
  go_wp2
  all_goals go_ret
  all_goals refine ⟨ei ?_, rfl⟩
  all_goals (repeat' split) <;> first | rfl | (exfalso; simp_all; omega)
end Go.Proofs.YtgapeacflkfmdaaGreatDoor
