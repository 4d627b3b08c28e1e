/-
  Plain Lean: the order of terms is one. Plain Lean: a term's text is read as that term, with blanks behind its brackets, commas and bars or without. Plain Lean: a term's text is read as that term: the terms within terms; how long a text is. api.Term as a kind of cells: a tree of rows; a term in a block of its own. term: faults, codes, the fields of a part; comparisons of numbers and texts. Names of nodes: heddleref01.Node, atom.Node. strings.Cut at one byte, atom.Node.
-/
import Derived.Test.YtgapeacflkfmdaaGreatDoorG2
import Derived.Test.YtgapeacflkfmdaaGreatDoorG1
import Derived.Lib.IndexLaws
import Derived.Deep.Cut
namespace Go.Proofs.YtgapeacflkfmdaaGreatDoor
open Go.RowKit Go.Proofs.YtgapeacflkfmdaaGreatDoorW.PrintWords

/-! ### terms in form -/
mutual
def okT : Tm → Bool
  | ⟨kd, it, tx, cr, ns, us⟩ => shapeOk ⟨kd, it, tx, cr, ns, us⟩ && okL us
def okL : List Tm → Bool
  | [] => true
  | a :: us => okT a && okL us
end
theorem okT_eq (t : Tm) : okT t = (shapeOk t && okL t.args) := by
  cases t
  rw [okT]
theorem okL_mem : ∀ {l : List Tm} {a : Tm}, okL l = true → a ∈ l → okT a = true
  | b :: l, a, h, hm => by
    rw [okL, Bool.and_eq_true] at h
    rcases List.mem_cons.1 hm with rfl | hm
    · exact h.1
    · exact okL_mem h.2 hm
theorem meas_ok (t : Tm) : ∀ d n m, (measT t d n m).1 = [] → okT t = true := by
  induction t using Tm.ind with
  | h t ih =>
    intro d n m h
    rw [measT_eq] at h
    by_cases h1 : n = 4096
    · rw [if_pos h1] at h
      cases h
    · rw [if_neg h1] at h
      by_cases h2 : 256 < d
      · rw [if_pos h2] at h
        cases h
      · rw [if_neg h2] at h
        have hf : formBad t n = [] := by
          match he : formBad t n with
          | [] => rfl
          | x :: r => rw [he] at h; cases h
        rw [hf] at h
        have hs : shapeOk t = true := by
          cases hs : shapeOk t with
          | true => rfl
          | false => unfold formBad at hf; rw [if_pos hs] at hf; cases hf
        have hl : ∀ (l : List Tm), (∀ a ∈ l, a ∈ t.args) → ∀ d n m, (measL l d n m).1 = [] → okL l = true := by
          intro l
          induction l with
          | nil => intro _ _ _ _ _; rw [okL]
          | cons a l ihl =>
            intro hsub d n m h
            rw [measL] at h
            match he : measT a d n m with
            | ([], n', m') =>
              rw [he] at h
              rw [okL, ih a (hsub a (by simp)) d n m (by rw [he]), ihl (fun b hb => hsub b (by simp [hb])) _ _ _ h]
              rfl
            | (x :: r, n', m') =>
              rw [he] at h
              cases h
        rw [okT_eq, hs, hl t.args (fun _ h => h) _ _ _ h]
        rfl
theorem chk_ok {t : Tm} (h : chk t = []) : okT t = true := meas_ok t 1 0 0 h

/-! ### three numbers that go on from one another -/
def T3 (x y z : Int) : Prop := (x ≤ 0 → y ≤ 0 → z ≤ 0) ∧ (x < 0 → y ≤ 0 → z < 0) ∧ (x ≤ 0 → y < 0 → z < 0) ∧ (x = 0 → y = 0 → z = 0)
theorem T3.orI {x y z x' y' z' : Int} (h : T3 x y z) (h' : x = 0 → y = 0 → T3 x' y' z') : T3 (orI x x') (orI y y') (orI z z') := by
  obtain ⟨h1, h2, h3, h4⟩ := h
  unfold Go.Proofs.YtgapeacflkfmdaaGreatDoor.orI
  by_cases hx : x = 0
  · by_cases hy : y = 0
    · have hz := h4 hx hy
      rw [if_pos hx, if_pos hy, if_pos hz]
      exact h' hx hy
    · rw [if_pos hx, if_neg hy]
      unfold T3
      by_cases hy0 : y < 0
      · have := h3 (by omega) hy0
        rw [if_neg (by omega)]
        omega
      · omega
  · rw [if_neg hx]
    unfold T3
    by_cases hx0 : x < 0
    · by_cases hy0 : y ≤ 0
      · have := h2 hx0 hy0
        rw [if_neg (show ¬ z = 0 by omega)]
        split <;> omega
      · rw [if_neg (show ¬ y = 0 by omega)]
        omega
    · omega
theorem T3.cmpI (a b c : Int) : T3 (cmpI a b) (cmpI b c) (cmpI a c) := by
  unfold T3 Go.Proofs.YtgapeacflkfmdaaGreatDoor.cmpI
  repeat' split
  all_goals omega
theorem T3.zero : T3 0 0 0 := by
  unfold T3
  omega
theorem T3.cmpL : ∀ a b c : List Int, T3 (cmpL a b) (cmpL b c) (cmpL a c)
  | [], [], [] => by simp [Go.Proofs.YtgapeacflkfmdaaGreatDoor.cmpL, T3]
  | [], [], _ :: _ => by simp [Go.Proofs.YtgapeacflkfmdaaGreatDoor.cmpL, T3]
  | [], _ :: _, [] => by simp [Go.Proofs.YtgapeacflkfmdaaGreatDoor.cmpL, T3]
  | _ :: _, [], [] => by simp [Go.Proofs.YtgapeacflkfmdaaGreatDoor.cmpL, T3]
  | _ :: _, [], _ :: _ => by simp [Go.Proofs.YtgapeacflkfmdaaGreatDoor.cmpL, T3]
  | [], x :: xs, y :: ys => by
    simp only [Go.Proofs.YtgapeacflkfmdaaGreatDoor.cmpL, T3]
    omega
  | x :: xs, y :: ys, [] => by
    simp only [Go.Proofs.YtgapeacflkfmdaaGreatDoor.cmpL, T3]
    omega
  | x :: xs, y :: ys, z :: zs => by
    have h := T3.cmpL xs ys zs
    simp only [Go.Proofs.YtgapeacflkfmdaaGreatDoor.cmpL]
    have e : ∀ (a b : Int) (r : Int), (if a < b then -1 else if b < a then 1 else r) = Go.Proofs.YtgapeacflkfmdaaGreatDoor.orI (Go.Proofs.YtgapeacflkfmdaaGreatDoor.cmpI a b) r := by
      intro a b r
      unfold Go.Proofs.YtgapeacflkfmdaaGreatDoor.orI Go.Proofs.YtgapeacflkfmdaaGreatDoor.cmpI
      repeat' split
      all_goals omega
    rw [e, e, e]
    exact T3.orI (T3.cmpI x y z) fun _ _ => h

theorem cmpI_zero {a b : Int} : cmpI a b = 0 ↔ a = b := by
  unfold cmpI
  repeat' split
  all_goals omega
theorem cmpI_anti (a b : Int) : cmpI b a = - cmpI a b := by
  unfold cmpI
  repeat' split
  all_goals omega
theorem cmpI_range (a b : Int) : -1 ≤ cmpI a b ∧ cmpI a b ≤ 1 := by
  unfold cmpI
  repeat' split
  all_goals omega
theorem cmpL_eq (x y : Int) (xs ys : List Int) : cmpL (x :: xs) (y :: ys) = orI (cmpI x y) (cmpL xs ys) := by
  rw [cmpL]
  unfold orI cmpI
  repeat' split
  all_goals omega
theorem orI_zero {a b : Int} : orI a b = 0 ↔ a = 0 ∧ b = 0 := by
  unfold orI
  split <;> omega
theorem orI_neg (a b : Int) : orI (-a) (-b) = - orI a b := by
  unfold orI
  split <;> split <;> omega
theorem orI_range {a b : Int} (ha : -1 ≤ a ∧ a ≤ 1) (hb : -1 ≤ b ∧ b ≤ 1) : -1 ≤ orI a b ∧ orI a b ≤ 1 := by
  unfold orI
  split <;> omega
theorem cmpL_zero : ∀ {a b : List Int}, cmpL a b = 0 ↔ a = b
  | [], [] => by simp [cmpL]
  | [], _ :: _ => by simp [cmpL]
  | _ :: _, [] => by simp [cmpL]
  | x :: xs, y :: ys => by
    rw [cmpL_eq, orI_zero, cmpI_zero, cmpL_zero]
    simp
theorem cmpL_anti : ∀ a b : List Int, cmpL b a = - cmpL a b
  | [], [] => by simp [cmpL]
  | [], _ :: _ => by simp [cmpL]
  | _ :: _, [] => by simp [cmpL]
  | x :: xs, y :: ys => by rw [cmpL_eq, cmpL_eq, cmpI_anti, cmpL_anti xs ys, orI_neg]
theorem cmpL_range : ∀ a b : List Int, -1 ≤ cmpL a b ∧ cmpL a b ≤ 1
  | [], [] => by simp [cmpL]
  | [], _ :: _ => by simp [cmpL]
  | _ :: _, [] => by simp [cmpL]
  | x :: xs, y :: ys => by
    rw [cmpL_eq]
    exact orI_range (cmpI_range _ _) (cmpL_range xs ys)

/-! ### the order, its kind first -/
def ordK (a b : Tm) : Int :=
  if a.kd = 1 then cmpI a.it b.it
  else if a.kd = 2 then cmpS a.tx b.tx
  else if a.kd = 3 ∨ a.kd = 4 then orI (cmpS a.tx b.tx) (orI (cmpI a.cr b.cr) (cmpL a.nums b.nums))
  else if a.kd = 5 then orI (cmpI a.args.length b.args.length) (ordP a.args b.args)
  else if a.kd = 7 then ordL a.args b.args
  else 0
theorem ordT_orI (a b : Tm) : ordT a b = orI (cmpI a.kd b.kd) (ordK a b) := by
  rw [ordT_eq]
  by_cases h : a.kd = b.kd
  · rw [if_neg (by simp [h])]
    unfold orI
    rw [if_pos (cmpI_zero.2 h)]
    rfl
  · rw [if_pos h]
    unfold orI
    rw [if_neg (fun e => h (cmpI_zero.1 e))]

theorem shape_kd {t : Tm} (h : okT t = true) : 1 ≤ t.kd ∧ t.kd ≤ 7 := by
  rw [okT_eq, Bool.and_eq_true] at h
  have h := h.1
  unfold shapeOk at h
  repeat' split at h
  all_goals first | omega | cases h
theorem shape_list {t : Tm} (h : okT t = true) (hk : t.kd = 7) : 2 ≤ t.args.length ∧ lastKd t ≠ 7 := by
  rw [okT_eq, Bool.and_eq_true] at h
  have h := h.1
  unfold shapeOk at h
  rw [if_neg (by omega), if_neg (by omega), if_neg (by omega), if_neg (by omega), if_neg (by omega), if_neg (by omega), if_pos hk] at h
  simp only [Bool.and_eq_true, decide_eq_true_eq] at h
  exact ⟨h.1.2, h.2⟩
theorem ok_args {t : Tm} (h : okT t = true) : okL t.args = true := by
  rw [okT_eq, Bool.and_eq_true] at h
  exact h.2

/-- A list's elements and tail, some of them left behind. -/
def tailOk (l : List Tm) : Prop := l ≠ [] ∧ ∀ a, l.getLast? = some a → a.kd ≠ 7
theorem rdTm_last {l : List Tm} (h : l ≠ []) : l.getLast? = some (rdTm l ((l.length : Int) - 1)) := by
  have hp := List.length_pos_iff.2 h
  rw [List.getLast?_eq_getElem?]
  unfold rdTm
  rw [show ((l.length : Int) - 1).toNat = l.length - 1 by omega, List.getD_eq_getElem?_getD, List.getElem?_eq_getElem (by omega)]
  rfl
theorem tail_of {t : Tm} (h : okT t = true) (hk : t.kd = 7) : tailOk t.args := by
  obtain ⟨h1, h2⟩ := shape_list h hk
  have hne : t.args ≠ [] := fun e => by rw [e] at h1; simp at h1
  refine ⟨hne, fun a ha => ?_⟩
  rw [rdTm_last hne] at ha
  obtain rfl := Option.some.inj ha
  exact h2
theorem tailOk.one {a : Tm} (h : tailOk [a]) : a.kd ≠ 7 := h.2 a rfl
theorem tailOk.rest {a b : Tm} {l : List Tm} (h : tailOk (a :: b :: l)) : tailOk (b :: l) := ⟨by simp, fun x hx => h.2 x (by rw [List.getLast?_cons_cons]; exact hx)⟩

/-! ### antisymmetry, bounds, equality, transitivity -/
theorem ordP_anti : ∀ (us bs : List Tm), (∀ a ∈ us, ∀ b, ordT b a = - ordT a b) → ordP bs us = - ordP us bs
  | [], [], _ => by simp [ordP]
  | [], _ :: _, _ => by simp [ordP]
  | _ :: _, [], _ => by simp [ordP]
  | a :: us, b :: bs, h => by rw [ordP, ordP, h a (by simp) b, ordP_anti us bs (fun x hx => h x (by simp [hx])), orI_neg]
theorem ordL_anti : ∀ (us bs : List Tm), (∀ a ∈ us, ∀ b, ordT b a = - ordT a b) → ordL bs us = - ordL us bs
  | [], [], _ => by simp [ordL]
  | [], [_], _ => by simp [ordL]
  | [], _ :: _ :: _, _ => by simp [ordL]
  | [_], [], _ => by simp [ordL]
  | _ :: _ :: _, [], _ => by simp [ordL]
  | [a], [b], h => by rw [ordL, ordL]; exact h a (by simp) b
  | [a], b :: y :: ys, _ => by rw [ordL, ordL]; exact cmpI_anti _ _
  | a :: x :: xs, [b], _ => by rw [ordL, ordL]; exact cmpI_anti _ _
  | a :: x :: xs, b :: y :: ys, h => by rw [ordL, ordL, h a (by simp) b, ordL_anti (x :: xs) (y :: ys) (fun z hz => h z (by simp only [List.mem_cons]; exact .inr (by simpa using hz))), orI_neg]
theorem ordT_anti (a : Tm) : ∀ b, ordT b a = - ordT a b := by
  induction a using Tm.ind with
  | h a ih =>
    intro b
    rw [ordT_orI, ordT_orI]
    by_cases hk : a.kd = b.kd
    · have : ordK b a = - ordK a b := by
        unfold ordK
        rw [← hk]
        repeat' split
        · exact cmpI_anti _ _
        · exact cmpL_anti _ _
        · rw [show cmpS b.tx a.tx = - cmpS a.tx b.tx from cmpL_anti _ _, cmpI_anti, cmpL_anti, orI_neg, orI_neg]
        · rw [cmpI_anti, ordP_anti _ _ ih, orI_neg]
        · exact ordL_anti _ _ ih
        · rfl
      rw [this, cmpI_anti, orI_neg]
    · have h1 : cmpI a.kd b.kd ≠ 0 := fun e => hk (cmpI_zero.1 e)
      have h2 : cmpI b.kd a.kd ≠ 0 := fun e => hk (cmpI_zero.1 e).symm
      unfold orI
      rw [if_neg h1, if_neg h2, cmpI_anti]

theorem ordP_range : ∀ (us bs : List Tm), (∀ a ∈ us, ∀ b, -1 ≤ ordT a b ∧ ordT a b ≤ 1) → -1 ≤ ordP us bs ∧ ordP us bs ≤ 1
  | [], [], _ => by simp [ordP]
  | [], _ :: _, _ => by simp [ordP]
  | _ :: _, [], _ => by simp [ordP]
  | a :: us, b :: bs, h => by
    rw [ordP]
    exact orI_range (h a (by simp) b) (ordP_range us bs fun x hx => h x (by simp [hx]))
theorem ordL_range : ∀ (us bs : List Tm), (∀ a ∈ us, ∀ b, -1 ≤ ordT a b ∧ ordT a b ≤ 1) → -1 ≤ ordL us bs ∧ ordL us bs ≤ 1
  | [], _, _ => by simp [ordL]
  | [_], [], _ => by simp [ordL]
  | _ :: _ :: _, [], _ => by simp [ordL]
  | [a], [b], h => by rw [ordL]; exact h a (by simp) b
  | [a], b :: y :: ys, _ => by rw [ordL]; exact cmpI_range _ _
  | a :: x :: xs, [b], _ => by rw [ordL]; exact cmpI_range _ _
  | a :: x :: xs, b :: y :: ys, h => by
    rw [ordL]
    exact orI_range (h a (by simp) b) (ordL_range (x :: xs) (y :: ys) fun z hz => h z (by simp only [List.mem_cons]; exact .inr (by simpa using hz)))
theorem ordT_range (a : Tm) : ∀ b, -1 ≤ ordT a b ∧ ordT a b ≤ 1 := by
  induction a using Tm.ind with
  | h a ih =>
    intro b
    rw [ordT_orI]
    refine orI_range (cmpI_range _ _) ?_
    unfold ordK
    repeat' split
    · exact cmpI_range _ _
    · exact cmpL_range _ _
    · exact orI_range (cmpL_range _ _) (orI_range (cmpI_range _ _) (cmpL_range _ _))
    · exact orI_range (cmpI_range _ _) (ordP_range _ _ ih)
    · exact ordL_range _ _ ih
    · omega

theorem bs_inj {a b : ByteArray} (h : bs a = bs b) : a = b := by
  obtain ⟨⟨x⟩⟩ := a
  obtain ⟨⟨y⟩⟩ := b
  have h' : x.map (fun c => (c.toNat : Int)) = y.map (fun c => (c.toNat : Int)) := h
  have : x = y := by
    refine List.map_inj_right (f := fun c : UInt8 => (c.toNat : Int)) ?_ |>.1 h'
    intro c d hcd
    exact UInt8.toNat_inj.1 (Int.ofNat.inj hcd)
  rw [this]
theorem cmpS_zero {a b : ByteArray} : cmpS a b = 0 ↔ a = b := by
  unfold cmpS
  rw [cmpL_zero]
  exact ⟨bs_inj, fun e => by rw [e]⟩
theorem size_zero {s : ByteArray} (h : s.size = 0) : s = ⟨#[]⟩ := by
  obtain ⟨⟨x⟩⟩ := s
  cases x with
  | nil => rfl
  | cons a l => simp [ByteArray.size] at h

theorem empty_fields {t : Tm} {text nums args : Bool} (h : emptyOk t text nums args = true) :
    (text = false → t.tx = ⟨#[]⟩) ∧ (nums = false → t.nums = [] ∧ t.cr = 0) ∧ (args = false → t.args = []) ∧ (t.kd ≠ 1 → t.it = 0) := by
  unfold emptyOk at h
  simp only [Bool.and_eq_true, Bool.or_eq_true, decide_eq_true_eq] at h
  obtain ⟨⟨⟨h1, h2⟩, h3⟩, h4⟩ := h
  refine ⟨fun e => ?_, fun e => ?_, fun e => ?_, fun e => ?_⟩
  · rcases h1 with h1 | h1
    · rw [e] at h1; cases h1
    · exact size_zero h1
  · rcases h2 with h2 | h2
    · rw [e] at h2; cases h2
    · exact ⟨List.eq_nil_of_length_eq_zero h2.1, h2.2⟩
  · rcases h3 with h3 | h3
    · rw [e] at h3; cases h3
    · exact List.eq_nil_of_length_eq_zero h3
  · exact h4.resolve_left e
/-- What a term in form has, by its kind. -/
theorem form_fields {t : Tm} (h : okT t = true) :
    (t.kd = 1 ∧ t = ⟨1, t.it, ⟨#[]⟩, 0, [], []⟩) ∨ (t.kd = 2 ∧ t = ⟨2, 0, t.tx, 0, [], []⟩) ∨ (t.kd = 3 ∧ t = ⟨3, 0, t.tx, t.cr, t.nums, []⟩ ∧ t.nums.length = 3) ∨
    (t.kd = 4 ∧ t = ⟨4, 0, t.tx, t.cr, t.nums, []⟩ ∧ t.nums.length = 2) ∨ (t.kd = 5 ∧ t = ⟨5, 0, ⟨#[]⟩, 0, [], t.args⟩) ∨ (t.kd = 6 ∧ t = ⟨6, 0, ⟨#[]⟩, 0, [], []⟩) ∨ (t.kd = 7 ∧ t = ⟨7, 0, ⟨#[]⟩, 0, [], t.args⟩) := by
  rw [okT_eq, Bool.and_eq_true] at h
  have h := h.1
  obtain ⟨kd, it, tx, cr, ns, us⟩ := t
  unfold shapeOk at h
  simp only at h ⊢
  by_cases h1 : kd = 1
  · rw [if_pos h1] at h
    obtain ⟨e1, e2, e3, e4⟩ := empty_fields h
    obtain ⟨e2, e5⟩ := e2 rfl
    obtain rfl := e1 rfl
    obtain rfl := e3 rfl
    simp only at e2 e5
    subst e2 e5 h1
    exact .inl ⟨rfl, rfl⟩
  rw [if_neg h1] at h
  by_cases h2 : kd = 2
  · rw [if_pos h2] at h
    obtain ⟨e1, e2, e3, e4⟩ := empty_fields h
    obtain ⟨e2, e5⟩ := e2 rfl
    obtain rfl := e3 rfl
    have e6 := e4 h1
    simp only at e2 e5 e6
    subst e2 e5 e6 h2
    exact .inr (.inl ⟨rfl, rfl⟩)
  rw [if_neg h2] at h
  by_cases h3 : kd = 3
  · rw [if_pos h3, Bool.and_eq_true, decide_eq_true_eq] at h
    obtain ⟨e1, e2, e3, e4⟩ := empty_fields h.1
    obtain rfl := e3 rfl
    have e6 := e4 h1
    simp only at e6
    subst e6 h3
    exact .inr (.inr (.inl ⟨rfl, rfl, h.2⟩))
  rw [if_neg h3] at h
  by_cases h4 : kd = 4
  · rw [if_pos h4, Bool.and_eq_true, decide_eq_true_eq] at h
    obtain ⟨e1, e2, e3, e4⟩ := empty_fields h.1
    obtain rfl := e3 rfl
    have e6 := e4 h1
    simp only at e6
    subst e6 h4
    exact .inr (.inr (.inr (.inl ⟨rfl, rfl, h.2⟩)))
  rw [if_neg h4] at h
  by_cases h5 : kd = 5
  · rw [if_pos h5] at h
    obtain ⟨e1, e2, e3, e4⟩ := empty_fields h
    obtain ⟨e2, e5⟩ := e2 rfl
    obtain rfl := e1 rfl
    have e6 := e4 h1
    simp only at e2 e5 e6
    subst e2 e5 e6 h5
    exact .inr (.inr (.inr (.inr (.inl ⟨rfl, rfl⟩))))
  rw [if_neg h5] at h
  by_cases h6 : kd = 6
  · rw [if_pos h6] at h
    obtain ⟨e1, e2, e3, e4⟩ := empty_fields h
    obtain ⟨e2, e5⟩ := e2 rfl
    obtain rfl := e1 rfl
    obtain rfl := e3 rfl
    have e6 := e4 h1
    simp only at e2 e5 e6
    subst e2 e5 e6 h6
    exact .inr (.inr (.inr (.inr (.inr (.inl ⟨rfl, rfl⟩)))))
  rw [if_neg h6] at h
  by_cases h7 : kd = 7
  · rw [if_pos h7, Bool.and_eq_true, Bool.and_eq_true] at h
    obtain ⟨e1, e2, e3, e4⟩ := empty_fields h.1.1
    obtain ⟨e2, e5⟩ := e2 rfl
    obtain rfl := e1 rfl
    have e6 := e4 h1
    simp only at e2 e5 e6
    subst e2 e5 e6 h7
    exact .inr (.inr (.inr (.inr (.inr (.inr ⟨rfl, rfl⟩)))))
  rw [if_neg h7] at h
  cases h

theorem ordP_zero : ∀ (us bs : List Tm), (∀ a ∈ us, ∀ b, okT b = true → (ordT a b = 0 ↔ a = b)) → okL bs = true → (ordP us bs = 0 ↔ us = bs)
  | [], [], _, _ => by simp [ordP]
  | [], _ :: _, _, _ => by simp [ordP]
  | _ :: _, [], _, _ => by simp [ordP]
  | a :: us, b :: bs, h, hb => by
    rw [okL, Bool.and_eq_true] at hb
    rw [ordP, orI_zero, h a (by simp) b hb.1, ordP_zero us bs (fun x hx => h x (by simp [hx])) hb.2]
    simp
theorem ordL_zero : ∀ (us bs : List Tm), (∀ a ∈ us, ∀ b, okT b = true → (ordT a b = 0 ↔ a = b)) → okL bs = true → tailOk us → tailOk bs → (ordL us bs = 0 ↔ us = bs)
  | [], _, _, _, ha, _ => absurd rfl ha.1
  | _ :: _, [], _, _, _, hb => absurd rfl hb.1
  | [a], [b], h, hb, _, _ => by
    rw [okL, Bool.and_eq_true] at hb
    rw [ordL, h a (by simp) b hb.1]
    simp
  | [a], b :: y :: ys, _, _, ha, _ => by
    rw [ordL, cmpI_zero]
    simp [ha.one]
  | a :: x :: xs, [b], _, _, _, hb => by
    rw [ordL, cmpI_zero]
    have := hb.one
    simp
    omega
  | a :: x :: xs, b :: y :: ys, h, hb, ha', hb' => by
    rw [okL, Bool.and_eq_true] at hb
    rw [ordL, orI_zero, h a (by simp) b hb.1, ordL_zero (x :: xs) (y :: ys) (fun z hz => h z (by simp only [List.mem_cons]; exact .inr (by simpa using hz))) hb.2 ha'.rest hb'.rest]
    simp
theorem ordT_zero (a : Tm) : ∀ b, okT a = true → okT b = true → (ordT a b = 0 ↔ a = b) := by
  induction a using Tm.ind with
  | h a ih =>
    intro b ha hb
    rw [ordT_orI, orI_zero, cmpI_zero]
    constructor
    · rintro ⟨hk, h⟩
      have ih' : ∀ x ∈ a.args, ∀ y, okT y = true → (ordT x y = 0 ↔ x = y) := fun x hx y hy => ih x hx y (okL_mem (ok_args ha) hx) hy
      unfold ordK at h
      rcases form_fields ha with ⟨k, e⟩ | ⟨k, e⟩ | ⟨k, e, _⟩ | ⟨k, e, _⟩ | ⟨k, e⟩ | ⟨k, e⟩ | ⟨k, e⟩ <;>
      rcases form_fields hb with ⟨q, f⟩ | ⟨q, f⟩ | ⟨q, f, _⟩ | ⟨q, f, _⟩ | ⟨q, f⟩ | ⟨q, f⟩ | ⟨q, f⟩ <;>
      first
      | (exfalso; omega)
      | skip
      · rw [if_pos k] at h
        rw [e, f, cmpI_zero.1 h]
      · rw [if_neg (by omega), if_pos k] at h
        rw [e, f, cmpS_zero.1 h]
      · rw [if_neg (by omega), if_neg (by omega), if_pos (by omega), orI_zero, orI_zero] at h
        rw [e, f, cmpS_zero.1 h.1, cmpI_zero.1 h.2.1, cmpL_zero.1 h.2.2]
      · rw [if_neg (by omega), if_neg (by omega), if_pos (by omega), orI_zero, orI_zero] at h
        rw [e, f, cmpS_zero.1 h.1, cmpI_zero.1 h.2.1, cmpL_zero.1 h.2.2]
      · rw [if_neg (by omega), if_neg (by omega), if_neg (by omega), if_pos k, orI_zero, ordP_zero _ _ ih' (ok_args hb)] at h
        rw [e, f, h.2]
      · rw [e, f]
      · rw [if_neg (by omega), if_neg (by omega), if_neg (by omega), if_neg (by omega), if_pos k, ordL_zero _ _ ih' (ok_args hb) (tail_of ha k) (tail_of hb q)] at h
        rw [e, f, h]
    · rintro rfl
      have hP : ∀ l : List Tm, (∀ x ∈ l, x ∈ a.args) → ordP l l = 0 := by
        intro l hl
        refine (ordP_zero l l (fun x hx y hy => ih x (hl x hx) y (okL_mem (ok_args ha) (hl x hx)) hy) ?_).2 rfl
        clear hb
        induction l with
        | nil => rw [okL]
        | cons x l ihl => rw [okL, okL_mem (ok_args ha) (hl x (by simp)), ihl fun y hy => hl y (by simp [hy])]; rfl
      have ih' : ∀ x ∈ a.args, ∀ y, okT y = true → (ordT x y = 0 ↔ x = y) := fun x hx y hy => ih x hx y (okL_mem (ok_args ha) hx) hy
      refine ⟨rfl, ?_⟩
      unfold ordK
      repeat' split
      · exact cmpI_zero.2 rfl
      · exact cmpS_zero.2 rfl
      · exact orI_zero.2 ⟨cmpS_zero.2 rfl, orI_zero.2 ⟨cmpI_zero.2 rfl, cmpL_zero.2 rfl⟩⟩
      · exact orI_zero.2 ⟨cmpI_zero.2 rfl, hP _ fun _ h => h⟩
      · rename_i hk
        exact (ordL_zero _ _ ih' (ok_args hb) (tail_of ha hk) (tail_of ha hk)).2 rfl
      · rfl

theorem ordP_T3 : ∀ (us bs cs : List Tm), (∀ a ∈ us, ∀ b c, okT b = true → okT c = true → T3 (ordT a b) (ordT b c) (ordT a c)) → okL bs = true → okL cs = true → T3 (ordP us bs) (ordP bs cs) (ordP us cs)
  | [], [], [], _, _, _ => by simp [ordP, T3]
  | [], [], _ :: _, _, _, _ => by simp [ordP, T3]
  | [], _ :: _, [], _, _, _ => by simp [ordP, T3]
  | _ :: _, [], [], _, _, _ => by simp [ordP, T3]
  | _ :: _, [], _ :: _, _, _, _ => by simp [ordP, T3]
  | [], b :: bs, c :: cs, _, _, _ => by
    simp only [ordP, T3]
    omega
  | a :: us, b :: bs, [], _, _, _ => by
    simp only [ordP, T3]
    omega
  | a :: us, b :: bs, c :: cs, h, hb, hc => by
    rw [okL, Bool.and_eq_true] at hb hc
    rw [ordP, ordP, ordP]
    exact T3.orI (h a (by simp) b c hb.1 hc.1) fun _ _ => ordP_T3 us bs cs (fun x hx => h x (by simp [hx])) hb.2 hc.2
theorem ordL_T3 : ∀ (us bs cs : List Tm), (∀ a ∈ us, ∀ b c, okT b = true → okT c = true → T3 (ordT a b) (ordT b c) (ordT a c)) → okL us = true → okL bs = true → okL cs = true → tailOk us → tailOk bs → tailOk cs →
    T3 (ordL us bs) (ordL bs cs) (ordL us cs)
  | [], _, _, _, _, _, _, ha, _, _ => absurd rfl ha.1
  | _ :: _, [], _, _, _, _, _, _, hb, _ => absurd rfl hb.1
  | _ :: _, _ :: _, [], _, _, _, _, _, _, hc => absurd rfl hc.1
  | [a], [b], [c], h, _, hb, hc, _, _, _ => by
    rw [okL, Bool.and_eq_true] at hb hc
    rw [ordL, ordL, ordL]
    exact h a (by simp) b c hb.1 hc.1
  | [a], [b], c :: z :: zs, _, hA, hB, _, ha, hb, _ => by
    rw [ordL, ordL, ordL]
    rw [okL, Bool.and_eq_true] at hA hB
    have ka := shape_kd hA.1
    have kb := shape_kd hB.1
    have na := ha.one
    have nb := hb.one
    have ea : cmpI a.kd 7 = -1 := by unfold cmpI; rw [if_pos (by omega)]
    have eb : cmpI b.kd 7 = -1 := by unfold cmpI; rw [if_pos (by omega)]
    rw [ea, eb]
    unfold T3
    omega
  | [a], b :: y :: ys, [c], _, hA, _, hC, ha, _, hc => by
    rw [ordL, ordL, ordL]
    rw [okL, Bool.and_eq_true] at hA hC
    have kc := shape_kd hC.1
    have nc := hc.one
    have ec : cmpI 7 c.kd = 1 := by unfold cmpI; rw [if_neg (by omega), if_pos (by omega)]
    rw [ec]
    unfold T3
    omega
  | [a], b :: y :: ys, c :: z :: zs, _, hA, _, _, ha, _, _ => by
    rw [ordL, show ordL [a] (c :: z :: zs) = cmpI a.kd 7 by rw [ordL]]
    rw [okL, Bool.and_eq_true] at hA
    have ka := shape_kd hA.1
    have na := ha.one
    have ea : cmpI a.kd 7 = -1 := by unfold cmpI; rw [if_pos (by omega)]
    rw [ea]
    unfold T3
    omega
  | a :: x :: xs, [b], cs, _, _, hB, _, _, hb, _ => by
    rw [show ordL (a :: x :: xs) [b] = cmpI 7 b.kd by rw [ordL]]
    rw [okL, Bool.and_eq_true] at hB
    have kb := shape_kd hB.1
    have nb := hb.one
    have eb : cmpI 7 b.kd = 1 := by unfold cmpI; rw [if_neg (by omega), if_pos (by omega)]
    rw [eb]
    unfold T3
    omega
  | a :: x :: xs, b :: y :: ys, [c], _, _, _, hC, _, _, hc => by
    rw [show ordL (b :: y :: ys) [c] = cmpI 7 c.kd by rw [ordL]]
    rw [okL, Bool.and_eq_true] at hC
    have kc := shape_kd hC.1
    have nc := hc.one
    have ec : cmpI 7 c.kd = 1 := by unfold cmpI; rw [if_neg (by omega), if_pos (by omega)]
    rw [ec]
    unfold T3
    omega
  | a :: x :: xs, b :: y :: ys, c :: z :: zs, h, hA, hB, hC, ha, hb, hc => by
    rw [okL, Bool.and_eq_true] at hA hB hC
    rw [ordL, ordL, ordL]
    exact T3.orI (h a (by simp) b c hB.1 hC.1) fun _ _ => ordL_T3 (x :: xs) (y :: ys) (z :: zs) (fun q hq => h q (by simp only [List.mem_cons]; exact .inr (by simpa using hq))) hA.2 hB.2 hC.2 ha.rest hb.rest hc.rest
theorem ordT_T3 (a : Tm) : ∀ b c, okT a = true → okT b = true → okT c = true → T3 (ordT a b) (ordT b c) (ordT a c) := by
  induction a using Tm.ind with
  | h a ih =>
    intro b c ha hb hc
    have ih' : ∀ x ∈ a.args, ∀ y z, okT y = true → okT z = true → T3 (ordT x y) (ordT y z) (ordT x z) := fun x hx y z hy hz => ih x hx y z (okL_mem (ok_args ha) hx) hy hz
    rw [ordT_orI, ordT_orI, ordT_orI]
    refine T3.orI (T3.cmpI _ _ _) fun h1 h2 => ?_
    have h1 := cmpI_zero.1 h1
    have h2 := cmpI_zero.1 h2
    unfold ordK
    rw [← h1]
    repeat' split
    · exact T3.cmpI _ _ _
    · exact T3.cmpL _ _ _
    · exact T3.orI (T3.cmpL _ _ _) fun _ _ => T3.orI (T3.cmpI _ _ _) fun _ _ => T3.cmpL _ _ _
    · exact T3.orI (T3.cmpI _ _ _) fun _ _ => ordP_T3 _ _ _ ih' (ok_args hb) (ok_args hc)
    · rename_i hk
      exact ordL_T3 _ _ _ ih' (ok_args ha) (ok_args hb) (ok_args hc) (tail_of ha hk) (tail_of hb (by omega)) (tail_of hc (by omega))
    · exact T3.zero
end Go.Proofs.YtgapeacflkfmdaaGreatDoor
namespace Go.Proofs.YtgapeacflkfmdaaGreatDoor
open Go.RowKit Go.Proofs.YtgapeacflkfmdaaGreatDoorW.PrintWords
namespace Tb
theorem tw_all {p : Int → Bool} : ∀ {l : List Int} {i : Nat} (_ : i < tw p l), ∃ c, l[i]? = some c ∧ p c = true := by
  intro l
  induction l with
  | nil => intro i h; simp [tw] at h
  | cons c r ih =>
    intro i h
    by_cases hp : p c = true
    · rw [tw_yes hp] at h
      cases i with
      | zero => exact ⟨c, rfl, hp⟩
      | succ i => simpa using ih (i := i) (by omega)
    · rw [tw_no (by simpa using hp)] at h
      omega
theorem runEnd_in {P : Int → Bool} {s : ByteArray} {k i : Nat} (hk : k ≤ i) (h : i < runEnd P s k) : P (bt s (i : Int)) = true ∧ i < s.size := by
  have h1 : i - k < tw P ((bs s).drop k) := by unfold runEnd at h; omega
  obtain ⟨c, hc, hp⟩ := tw_all h1
  rw [List.getElem?_drop, show k + (i - k) = i by omega] at hc
  obtain ⟨hl, hc'⟩ := List.getElem?_eq_some_iff.1 hc
  have hl2 : i < s.size := by rw [← bs_len]; exact hl
  rw [bs_get s i hl2] at hc'
  exact ⟨by rw [hc']; exact hp, hl2⟩
def decL (u : Nat) : List Int := (Lib.decDigits u).map fun c => (c.toNat : Int)
/-- The first byte and the code point. -/
theorem dec_asc {s : ByteArray} {i : Nat} (h : (s.get! i).toNat < 128) : Utf8.decode s i = ((s.get! i).toNat, 1) := by
  rw [Lib.decode_at]
  simp only [Lib.decodeN, if_pos h]
end Tb
open Tb

/-! ### pieces of a text -/

/-! ### numbers -/
theorem itoa_nat (u : Nat) : itoaI (u : Int) = decL u := by
  unfold itoaI
  rw [Lib.itoa_nonneg]
  rfl
def isU32 (n : Int) : Prop := 0 ≤ n ∧ n ≤ 4294967295
def numsTxt (ns : List Int) : List Int := ns.flatMap fun n => 46 :: itoaI n

/-! ### atoms -/
end Go.Proofs.YtgapeacflkfmdaaGreatDoor
namespace Go.Proofs.YtgapeacflkfmdaaGreatDoor
open Go.RowKit Go.Proofs.YtgapeacflkfmdaaGreatDoorW.PrintWords
open Tb

/-! ### numbers of 32 bits -/
mutual
/-- The numbers within a term are of 32 bits. -/
def wfT : Tm → Bool
  | ⟨_, _, _, cr, ns, us⟩ => decide (0 ≤ cr) && decide (cr ≤ 4294967295) && ns.all (fun n => decide (0 ≤ n) && decide (n ≤ 4294967295)) && wfL us
def wfL : List Tm → Bool
  | [] => true
  | a :: us => wfT a && wfL us
end
theorem wfT_eq (t : Tm) : wfT t = (decide (0 ≤ t.cr) && decide (t.cr ≤ 4294967295) && t.nums.all (fun n => decide (0 ≤ n) && decide (n ≤ 4294967295)) && wfL t.args) := by
  cases t
  rw [wfT]
theorem wfL_mem : ∀ {l : List Tm} {a : Tm}, wfL l = true → a ∈ l → wfT a = true
  | b :: l, a, h, hm => by
    rw [wfL, Bool.and_eq_true] at h
    rcases List.mem_cons.1 hm with rfl | hm
    · exact h.1
    · exact wfL_mem h.2 hm
theorem wf_args {t : Tm} (h : wfT t = true) : wfL t.args = true := by
  rw [wfT_eq, Bool.and_eq_true] at h
  exact h.2
theorem wf_nums {t : Tm} (h : wfT t = true) : ∀ n ∈ t.cr :: t.nums, isU32 n := by
  rw [wfT_eq] at h
  simp only [Bool.and_eq_true, decide_eq_true_eq, List.all_eq_true] at h
  intro n hn
  rcases List.mem_cons.1 hn with rfl | hn
  · exact ⟨h.1.1.1, h.1.1.2⟩
  · exact h.1.2 n hn

/-! ### what Measure says of the parts -/
theorem meas_parts {t : Tm} {d n m : Int} (h : (measT t d n m).1 = []) : d ≤ 256 ∧ formBad t n = [] ∧ (measL t.args (d + 1) (n + 1) (max m d)).1 = [] ∧ measT t d n m = measL t.args (d + 1) (n + 1) (max m d) ∧ n ≠ 4096 := by
  have e := measT_eq t d n m
  rw [e] at h
  by_cases h1 : n = 4096
  · rw [if_pos h1] at h
    cases h
  · rw [if_neg h1] at h e
    by_cases h2 : 256 < d
    · rw [if_pos h2] at h
      cases h
    · rw [if_neg h2] at h e
      cases hf : formBad t n with
      | nil =>
        rw [hf] at h e
        exact ⟨by omega, rfl, h, e, h1⟩
      | cons x r =>
        rw [hf] at h
        cases h
theorem measL_mem : ∀ {l : List Tm} {d n m : Int}, (measL l d n m).1 = [] → ∀ a ∈ l, ∃ n' m', (measT a d n' m').1 = []
  | [], _, _, _, _, a, ha => by cases ha
  | b :: l, d, n, m, h, a, ha => by
    rw [measL] at h
    match he : measT b d n m with
    | ([], n', m') =>
      rw [he] at h
      rcases List.mem_cons.1 ha with rfl | ha
      · exact ⟨n, m, by rw [he]⟩
      · exact measL_mem h a ha
    | (x :: r, n', m') =>
      rw [he] at h
      cases h
theorem form_shape {t : Tm} {n : Int} (h : formBad t n = []) : shapeOk t = true := by
  unfold formBad at h
  cases hs : shapeOk t with
  | true => rfl
  | false => rw [hs, if_pos rfl] at h; cases h
theorem over_none {n : Int} {l : List Lk} (h : overTm n l = []) : l = [] := by
  cases l with
  | nil => rfl
  | cons x r => cases h
theorem form_int {t : Tm} {n : Int} (h : formBad t n = []) (hk : t.kd = 1) : -576460752303423488 ≤ t.it ∧ t.it ≤ 576460752303423487 := by
  have hs := form_shape h
  unfold formBad at h
  rw [hs, if_neg (by simp), if_pos hk] at h
  split at h
  · cases h
  · omega
theorem form_node {t : Tm} {n : Int} (h : formBad t n = []) (hk : t.kd = 3 ∨ t.kd = 4) : nodeOk t.tx = true := by
  have hs := form_shape h
  unfold formBad at h
  rw [hs, if_neg (by simp), if_neg (by omega), if_neg (by omega), if_pos hk] at h
  have := over_none h
  unfold nodeBad at this
  split at this
  · assumption
  · cases this

/-! ### how a text begins -/

/-! ### several terms -/

theorem dropLast_snoc {α : Type} {l : List α} (h : l ≠ []) : ∃ i x, l = i ++ [x] := ⟨l.dropLast, l.getLast h, (List.dropLast_concat_getLast h).symm⟩

/-! ### one term -/
end Go.Proofs.YtgapeacflkfmdaaGreatDoor
namespace Go.Proofs.YtgapeacflkfmdaaGreatDoor
open Go.RowKit Go.Proofs.YtgapeacflkfmdaaGreatDoorW.PrintWords

abbrev tyTm : Nat := 27
abbrev tyU32 : Nat := 23
theorem infoTm : (Tryz.prog.info? 27).map (fun i => (i.zero, i.size, i.bytes)) = some (some (.agg #[(.int .i64 0), (.int .i64 0), (.string ⟨#[]⟩), (.int .u32 0), (.slice none 0 0), (.slice none 0 0)]), 6, 88) := by kernel_rfl
theorem infoU32 : (Tryz.prog.info? 23).map (fun i => (i.zero, i.size, i.bytes)) = some (some (.int .u32 0), 1, 4) := by kernel_rfl

def kTmF (d : Kd Tm) : Kd Tm := Kd.iso (Kd.pair (Kd.int .i64) (Kd.pair (Kd.int .i64) (Kd.pair Kd.string (Kd.pair (Kd.int .u32) (Kd.pair (Kd.slice tyU32 (Kd.int .u32)) (Kd.slice tyTm d)))))) (fun x : Tm => (x.kd, x.it, x.tx, x.cr, x.nums, x.args))
theorem kTm_mono : Kd.Mono kTmF := Kd.mono_iso _ (Kd.mono_pair (Kd.mono_const _) (Kd.mono_pair (Kd.mono_const _) (Kd.mono_pair (Kd.mono_const _) (Kd.mono_pair (Kd.mono_const _) (Kd.mono_pair (Kd.mono_const _) (Kd.mono_slice tyTm Kd.mono_id))))))
theorem kTm_sub : Kd.Sub kTmF [tyU32, tyTm] := Kd.sub_iso _ (Kd.sub_pair (Kd.sub_const _ (by decide)) (Kd.sub_pair (Kd.sub_const _ (by decide)) (Kd.sub_pair (Kd.sub_const _ (by decide)) (Kd.sub_pair (Kd.sub_const _ (by decide)) (Kd.sub_pair (Kd.sub_const _ (by decide)) (Kd.sub_slice tyTm (by decide) Kd.sub_id))))))
theorem kTm_sz : ∀ n, (Kd.upto kTmF 6 [tyU32, tyTm] n).sz = 6 := Kd.upto_sz (fun _ => rfl)
def kTm : Kd Tm := Kd.fix kTmF 6 [tyU32, tyTm] kTm_sz (Kd.upto_E kTm_sub)
abbrev kU : Kd Int := Kd.int .u32
theorem kTm_open {w : World} {x : Tm} {cs : List Value} (h : kTm.K w x cs) : ∃ A4 c4 A5 c5, cs = [.int .i64 x.kd, .int .i64 x.it, .string x.tx, .int .u32 x.cr, .slice A4 x.nums.length c4, .slice A5 x.args.length c5] ∧ x.nums.length ≤ c4 ∧ kU.C w A4 x.nums.length x.nums ∧ x.args.length ≤ c5 ∧ kTm.C w A5 x.args.length x.args := by
  obtain ⟨n, h⟩ := h
  cases n with
  | zero => exact h.elim
  | succ n =>
    obtain ⟨_, _, rfl, rfl, ⟨_, _, rfl, rfl, ⟨_, _, rfl, rfl, ⟨_, _, rfl, rfl, ⟨_, _, rfl, ⟨A4, c4, rfl, l4, g4⟩, ⟨A5, c5, rfl, l5, g5⟩⟩⟩⟩⟩⟩ := h
    exact ⟨A4, c4, A5, c5, rfl, l4, g4, l5, Kd.fix_C g5⟩
theorem kTm_mk (w : World) (x : Tm) {A4 : Option Addr} {c4 : Nat} (l4 : x.nums.length ≤ c4) (g4 : kU.C w A4 x.nums.length x.nums) {A5 : Option Addr} {c5 : Nat} (l5 : x.args.length ≤ c5) (g5 : kTm.C w A5 x.args.length x.args) : kTm.K w x [.int .i64 x.kd, .int .i64 x.it, .string x.tx, .int .u32 x.cr, .slice A4 x.nums.length c4, .slice A5 x.args.length c5] := by
  obtain ⟨n5, q5⟩ := Kd.fix_C_back kTm_mono g5
  have r5 := Kd.upto_C_le kTm_mono kTm_sz (show n5 ≤ n5 by omega) q5
  exact ⟨n5 + 1, ⟨[.int .i64 x.kd], [.int .i64 x.it, .string x.tx, .int .u32 x.cr, .slice A4 x.nums.length c4, .slice A5 x.args.length c5], rfl, rfl, ⟨[.int .i64 x.it], [.string x.tx, .int .u32 x.cr, .slice A4 x.nums.length c4, .slice A5 x.args.length c5], rfl, rfl, ⟨[.string x.tx], [.int .u32 x.cr, .slice A4 x.nums.length c4, .slice A5 x.args.length c5], rfl, rfl, ⟨[.int .u32 x.cr], [.slice A4 x.nums.length c4, .slice A5 x.args.length c5], rfl, rfl, ⟨[.slice A4 x.nums.length c4], [.slice A5 x.args.length c5], rfl, ⟨A4, c4, rfl, l4, g4⟩, ⟨A5, c5, rfl, l5, r5⟩⟩⟩⟩⟩⟩⟩
theorem kTm_mkM (w : World) (base : Nat) (ok : Nat → Prop) (x : Tm) {v4 : Value} (g4 : kU.R tyU32 w base ok v4 x.nums) {v5 : Value} (g5 : kTm.R tyTm w base ok v5 x.args) : kTm.M w base ok x [.int .i64 x.kd, .int .i64 x.it, .string x.tx, .int .u32 x.cr, v4, v5] := by
  obtain ⟨n5, q5⟩ := Kd.fix_R_back kTm_mono g5
  have r5 := Kd.upto_R_le kTm_mono kTm_sz (show n5 ≤ n5 by omega) q5
  exact ⟨n5 + 1, ⟨[.int .i64 x.kd], [.int .i64 x.it, .string x.tx, .int .u32 x.cr, v4, v5], rfl, rfl, ⟨[.int .i64 x.it], [.string x.tx, .int .u32 x.cr, v4, v5], rfl, rfl, ⟨[.string x.tx], [.int .u32 x.cr, v4, v5], rfl, rfl, ⟨[.int .u32 x.cr], [v4, v5], rfl, rfl, ⟨[v4], [v5], rfl, ⟨v4, rfl, g4⟩, ⟨v5, rfl, r5⟩⟩⟩⟩⟩⟩⟩

/-- A term as a value. -/
def tmV (t : Tm) (v4 v5 : Value) : Value := .agg #[.int .i64 t.kd, .int .i64 t.it, .string t.tx, .int .u32 t.cr, v4, v5]
/-- What stands behind a term's two slices. -/
structure TmR (W : World) (t : Tm) (A4 : Option Addr) (c4 : Nat) (A5 : Option Addr) (c5 : Nat) : Prop where
  l4 : t.nums.length ≤ c4
  g4 : kU.C W A4 t.nums.length t.nums
  l5 : t.args.length ≤ c5
  g5 : kTm.C W A5 t.args.length t.args
theorem TmR.below {W W' : World} {t : Tm} {A4 A5 : Option Addr} {c4 c5 : Nat} (h : TmR W t A4 c4 A5 c5) (hb : Below W.heap.size W W') : TmR W' t A4 c4 A5 c5 := ⟨h.l4, Kd.C_below h.g4 hb, h.l5, Kd.C_below h.g5 hb⟩
/-- The value 'v' reads as the term 't'. -/
def TmIs (W : World) (t : Tm) (v : Value) : Prop := ∃ A4 c4 A5 c5, v = tmV t (.slice A4 t.nums.length c4) (.slice A5 t.args.length c5) ∧ TmR W t A4 c4 A5 c5
theorem TmIs.below {W W' : World} {t : Tm} {v : Value} (h : TmIs W t v) (hb : Below W.heap.size W W') : TmIs W' t v := by
  obtain ⟨A4, c4, A5, c5, e, h⟩ := h
  exact ⟨A4, c4, A5, c5, e, h.below hb⟩
theorem TmIs.ofK {W : World} {t : Tm} {cs : List Value} (h : kTm.K W t cs) : TmIs W t (.agg cs.toArray) := by
  obtain ⟨A4, c4, A5, c5, rfl, l4, g4, l5, g5⟩ := kTm_open h
  exact ⟨A4, c4, A5, c5, rfl, l4, g4, l5, g5⟩
/-- A term that is made. -/
def TmMade (W : World) (base : Nat) (t : Tm) (v : Value) : Prop := ∃ v4 v5, v = tmV t v4 v5 ∧ kU.R tyU32 W base (fun _ => True) v4 t.nums ∧ kTm.R tyTm W base (fun _ => True) v5 t.args
theorem TmMade.is {W : World} {base : Nat} {t : Tm} {v : Value} (h : TmMade W base t v) : TmIs W t v := by
  obtain ⟨v4, v5, rfl, h4, h5⟩ := h
  obtain ⟨A4, c4, rfl, l4, g4⟩ := Kd.R_reads h4
  obtain ⟨A5, c5, rfl, l5, g5⟩ := Kd.R_reads h5
  exact ⟨A4, c4, A5, c5, rfl, l4, g4, l5, g5⟩
theorem TmMade.below {W W' : World} {base : Nat} {t : Tm} {v : Value} (h : TmMade W base t v) (hb : Below W.heap.size W W') : TmMade W' base t v := by
  obtain ⟨v4, v5, e, h4, h5⟩ := h
  exact ⟨v4, v5, e, Kd.R_below h4 hb, Kd.R_below h5 hb⟩
theorem TmMade.lower {W : World} {base base' : Nat} {t : Tm} {v : Value} (h : TmMade W base t v) (hb : base' ≤ base) : TmMade W base' t v := by
  obtain ⟨v4, v5, e, h4, h5⟩ := h
  exact ⟨v4, v5, e, Kd.R_lower h4 hb, Kd.R_lower h5 hb⟩
/-- A term without numbers and parts. -/
theorem TmMade.flat (W : World) (base : Nat) (kd it : Int) (tx : ByteArray) (cr : Int) : TmMade W base ⟨kd, it, tx, cr, [], []⟩ (.agg #[.int .i64 kd, .int .i64 it, .string tx, .int .u32 cr, .slice none 0 0, .slice none 0 0]) := ⟨_, _, rfl, Kd.R_nil _ _ _ _ _, Kd.R_nil _ _ _ _ _⟩
def vZero : Value := .agg #[.int .i64 0, .int .i64 0, .string ⟨#[]⟩, .int .u32 0, .slice none 0 0, .slice none 0 0]
theorem TmMade.zero (W : World) (base : Nat) : TmMade W base zTm vZero := TmMade.flat W base 0 0 ⟨#[]⟩ 0

/-- An element of a row of terms. -/
theorem atTm {w : World} {A : Option Addr} {n : Nat} {xs : List Tm} (h : Kd.C kTm w A n xs) (i : Int) (h0 : 0 ≤ i) (h1 : i < n) : ∃ ad A4 c4 A5 c5, A = some ad ∧ w.cell? (ad.add (i.toNat * 6)) = some (.int .i64 (rdTm xs i).kd) ∧ w.cell? ⟨(ad.add (i.toNat * 6)).block, (ad.add (i.toNat * 6)).off + 1, none⟩ = some (.int .i64 (rdTm xs i).it) ∧
    w.cell? ⟨(ad.add (i.toNat * 6)).block, (ad.add (i.toNat * 6)).off + 2, none⟩ = some (.string (rdTm xs i).tx) ∧ w.cell? ⟨(ad.add (i.toNat * 6)).block, (ad.add (i.toNat * 6)).off + 3, none⟩ = some (.int .u32 (rdTm xs i).cr) ∧ w.cell? ⟨(ad.add (i.toNat * 6)).block, (ad.add (i.toNat * 6)).off + 4, none⟩ = some (.slice A4 (rdTm xs i).nums.length c4) ∧
    w.cell? ⟨(ad.add (i.toNat * 6)).block, (ad.add (i.toNat * 6)).off + 5, none⟩ = some (.slice A5 (rdTm xs i).args.length c5) ∧ TmR w (rdTm xs i) A4 c4 A5 c5 := by
  obtain ⟨ad, c, e, _, hK, hc0⟩ := Kd.C_get h zTm i h0 h1
  have hc : ∀ j u, c[j]? = some u → w.cell? (ad.add (i.toNat * 6 + j)) = some u := hc0
  obtain ⟨A4, c4, A5, c5, rfl, l4, g4, l5, g5⟩ := kTm_open hK
  exact ⟨ad, A4, c4, A5, c5, e, hc 0 _ rfl, by rw [← add_field _ _ 1 (by omega)]; exact hc 1 _ rfl, by rw [← add_field _ _ 2 (by omega)]; exact hc 2 _ rfl, by rw [← add_field _ _ 3 (by omega)]; exact hc 3 _ rfl, by rw [← add_field _ _ 4 (by omega)]; exact hc 4 _ rfl, by rw [← add_field _ _ 5 (by omega)]; exact hc 5 _ rfl, ⟨l4, g4, l5, g5⟩⟩

/-- A term in a block of its own, which may be written. -/
structure TmAt (W : World) (b : Nat) (t : Tm) (v4 v5 : Value) : Prop where
  c0 : W.cell? ⟨b, 0, none⟩ = some (.int .i64 t.kd)
  c1 : W.cell? ⟨b, 1, none⟩ = some (.int .i64 t.it)
  c2 : W.cell? ⟨b, 2, none⟩ = some (.string t.tx)
  c3 : W.cell? ⟨b, 3, none⟩ = some (.int .u32 t.cr)
  c4 : W.cell? ⟨b, 4, none⟩ = some v4
  c5 : W.cell? ⟨b, 5, none⟩ = some v5
  f0 : W.frozen? ⟨b, 0, none⟩ = false
  f1 : W.frozen? ⟨b, 1, none⟩ = false
  f2 : W.frozen? ⟨b, 2, none⟩ = false
  f3 : W.frozen? ⟨b, 3, none⟩ = false
  f4 : W.frozen? ⟨b, 4, none⟩ = false
  f5 : W.frozen? ⟨b, 5, none⟩ = false
theorem TmAt.lt {W : World} {b : Nat} {t : Tm} {v4 v5 : Value} (h : TmAt W b t v4 v5) : b < W.heap.size := World.block_lt_of_cell? W _ h.c0
theorem TmAt.below {W W' : World} {b n : Nat} {t : Tm} {v4 v5 : Value} (h : TmAt W b t v4 v5) (hb : Below n W W') (hn : b < n) : TmAt W' b t v4 v5 :=
  ⟨(hb.cell hn).trans h.c0, (hb.cell hn).trans h.c1, (hb.cell hn).trans h.c2, (hb.cell hn).trans h.c3, (hb.cell hn).trans h.c4, (hb.cell hn).trans h.c5,
    (hb.frozen hn).trans h.f0, (hb.frozen hn).trans h.f1, (hb.frozen hn).trans h.f2, (hb.frozen hn).trans h.f3, (hb.frozen hn).trans h.f4, (hb.frozen hn).trans h.f5⟩
theorem TmAt.new (w : World) (t : Tm) (v4 v5 : Value) : TmAt (w.alloc (.cells #[.int .i64 t.kd, .int .i64 t.it, .string t.tx, .int .u32 t.cr, v4, v5] 27)) w.heap.size t v4 v5 := by
  constructor <;> simp

/-! ### names, chains -/
/-- The number of a chain's outermost link. -/
def headCo : List Lk → Int
  | [] => 0
  | x :: _ => x.co
end Go.Proofs.YtgapeacflkfmdaaGreatDoor
namespace Go.Proofs.YtgapeacflkfmdaaGreatDoor
open Go.RowKit Go.Proofs.YtgapeacflkfmdaaGreatDoorW.PrintWords

theorem term_fault (at_ code : Int) (u : Value) (w : World) (l : List Lk) (h : ErrIs w l u) :
    Calls Tryz.prog 46 #[.int .i64 at_, .int .i64 code, u] w (ErrPost w (⟨nTerm, at_, code⟩ :: l)) := by
  have H : Hid (ErrPost w (⟨nTerm, at_, code⟩ :: l) (.returned (.iface 125 (.pointer (some ⟨w.heap.size, 0, none⟩)))) (w.alloc (.cells #[.string ⟨#[116, 101, 114, 109]⟩, .int .i64 at_, .int .i64 code, u] 129))) :=
    Lib.hid ⟨_, rfl, errOf_new w ⟨nTerm, at_, code⟩ l u h, below_alloc (Below.refl _ _) _⟩
  have hs := h.shape
  clear h
  rcases hs with rfl | ⟨b, rfl⟩
  · go_enter Tryz.func46, Tryz.ntmps46
    go_wp2_with fail
    go_ret
    exact H.out
  · go_enter Tryz.func46, Tryz.ntmps46
    go_wp2_with fail
    go_ret
    exact H.out

theorem term_code (l : List Lk) (v : Value) (w : World) (h : ErrIs w l v) (hG : Glob w) :
    Calls Tryz.prog 136 #[v] w fun e w' => e = .returned (.int .i64 (headCo l)) ∧ Below w.heap.size w w' := by
  cases l with
  | nil =>
    obtain rfl : v = .nilIface := h
    clear hG
    go_enter Tryz.func136, Tryz.ntmps136
    go_wp2_with fail
    refine (as_nil _ _).mono ?_
    rintro e w1 ⟨rfl, rfl⟩
    go_wp2_with fail
    go_ret
    exact ⟨rfl, below_alloc (Below.refl _ _) _⟩
  | cons x r =>
    obtain ⟨b, u, rfl, h0, h1, h2, h3, h4⟩ := h
    have hlt := World.block_lt_of_cell? w _ h2
    simp only at hlt
    have HC := Lib.hid h2
    have HA := Lib.hid (as_in ⟨b, 0, none⟩ w.heap.size (.pointer none) (w.alloc (.cells #[.pointer none] 125)) (hG.below (below_alloc (Below.refl _ _) _)) (by simp) (by simp))
    clear h0 h1 h2 h3 h4 hG
    go_enter Tryz.func136, Tryz.ntmps136
    go_wp2_with fail
    refine HA.out.mono ?_
    rintro e w1 ⟨rfl, hp, hB, _⟩
    have HB : Hid (Below w.heap.size w w1) := Lib.hid ((below_alloc (Below.refl _ _) _).trans hB)
    have hc := (HB.out.cell hlt).trans HC.out
    clear hB
    go_wp2_with fail
    go_ret
    exact ⟨rfl, HB.out⟩

/-! ### comparisons -/
theorem cmp_kind (a b : Int) (w : World) : Calls Tryz.prog 87 #[.int .i64 a, .int .i64 b] w fun e w' => e = .returned (.int .i64 (cmpI a b)) ∧ w = w' := by
  unfold cmpI
  go_enter Tryz.func87, Tryz.ntmps87
  go_wp2
  all_goals go_ret
  all_goals refine ⟨ei ?_, rfl⟩
  all_goals (repeat' split) <;> first | rfl | (exfalso; simp_all; omega)
theorem cmp_i64 (a b : Int) (w : World) : Calls Tryz.prog 88 #[.int .i64 a, .int .i64 b] w fun e w' => e = .returned (.int .i64 (cmpI a b)) ∧ w = w' := by
  unfold cmpI
  go_enter Tryz.func88, Tryz.ntmps88
  go_wp2
  all_goals go_ret
  all_goals refine ⟨ei ?_, rfl⟩
  all_goals (repeat' split) <;> first | rfl | (exfalso; simp_all; omega)
theorem cmp_int (a b : Int) (w : World) : Calls Tryz.prog 93 #[.int .i64 a, .int .i64 b] w fun e w' => e = .returned (.int .i64 (cmpI a b)) ∧ w = w' := by
  unfold cmpI
  go_enter Tryz.func93, Tryz.ntmps93
  go_wp2
  all_goals go_ret
  all_goals refine ⟨ei ?_, rfl⟩
  all_goals (repeat' split) <;> first | rfl | (exfalso; simp_all; omega)
theorem cmp_u32 (a b : Int) (w : World) : Calls Tryz.prog 91 #[.int .u32 a, .int .u32 b] w fun e w' => e = .returned (.int .i64 (cmpI a b)) ∧ w = w' := by
  unfold cmpI
  go_enter Tryz.func91, Tryz.ntmps91
  go_wp2
  all_goals go_ret
  all_goals refine ⟨ei ?_, rfl⟩
  all_goals (repeat' split) <;> first | rfl | (exfalso; simp_all; omega)
end Go.Proofs.YtgapeacflkfmdaaGreatDoor
namespace Go.Proofs.YtgapeacflkfmdaaGreatDoor
open Go.RowKit Go.Proofs.YtgapeacflkfmdaaGreatDoorW.PrintWords

/-! ### heddleref01.Node: plain -/
/-- The place of the last '@' and whether all is good. -/
def ndRun : List Int → Int → Int → Bool → Int × Bool
  | [], _, a, g => (a, g)
  | c :: l, i, a, g => if c = 64 then ndRun l (i + 1) i (g && decide (a < 0)) else ndRun l (i + 1) a (g && (isIn c || c == 45 || (c == 46 && decide (a ≥ 0))))
theorem nd_false : ∀ (l : List Int) (i a : Int), (ndRun l i a false).2 = false
  | [], _, _ => rfl
  | c :: l, i, a => by
    rw [ndRun]
    split
    · rw [Bool.false_and]
      exact nd_false l _ _
    · rw [Bool.false_and]
      exact nd_false l _ _
theorem nd_two : ∀ (l : List Int) (i a : Int), 0 ≤ a → ((ndRun l i a true).2 = l.all (fun c => inHost c && c != 64)) ∧ ((ndRun l i a true).2 = true → (ndRun l i a true).1 = a)
  | [], _, _, _ => ⟨rfl, fun _ => rfl⟩
  | c :: l, i, a, ha => by
    rw [ndRun, List.all_cons]
    by_cases c64 : c = 64
    · rw [if_pos c64, decide_eq_false (by omega), Bool.and_false, nd_false]
      subst c64
      exact ⟨by simp, fun h => by cases h⟩
    · rw [if_neg c64, decide_eq_true ha, Bool.true_and, Bool.and_true]
      have hb : (c != 64) = true := bne_iff_ne.2 c64
      rw [hb, Bool.and_true]
      cases hh : (isIn c || c == 45 || c == 46) with
      | true =>
        have := nd_two l (i + 1) a ha
        unfold inHost
        rw [hh, Bool.true_and]
        exact this
      | false =>
        unfold inHost
        rw [hh, nd_false, Bool.false_and]
        exact ⟨rfl, fun h => by cases h⟩
theorem nd_one : ∀ (l : List Int) (i : Int), 0 ≤ i → ((ndRun l i (-1) true).2 = true ∧ nodeLen l < l.length ↔ nodeLen l < l.length ∧ (l.take (nodeLen l)).all inName = true ∧ (l.drop (nodeLen l + 1)).all (fun c => inHost c && c != 64) = true) ∧
    ((ndRun l i (-1) true).2 = true → (ndRun l i (-1) true).1 = if nodeLen l < l.length then i + nodeLen l else -1)
  | [], _, _ => ⟨by simp [nodeLen, tw], fun _ => by simp [nodeLen, tw, ndRun]⟩
  | c :: l, i, hi => by
    rw [ndRun]
    by_cases c64 : c = 64
    · have e : nodeLen (c :: l) = 0 := tw_no (by simp [c64])
      rw [if_pos c64, decide_eq_true (by decide), Bool.true_and, e]
      obtain ⟨h1, h2⟩ := nd_two l (i + 1) i hi
      rw [h1] at h2 ⊢
      refine ⟨by simp, fun h => ?_⟩
      rw [h2 h, if_pos (by simp)]
      simp
    · have e : nodeLen (c :: l) = nodeLen l + 1 := tw_yes (by simp [c64])
      rw [if_neg c64, decide_eq_false (by decide), Bool.and_false, Bool.or_false, Bool.true_and, e]
      have hl : (c :: l).length = l.length + 1 := rfl
      rw [hl, List.take_succ_cons, List.drop_succ_cons, List.all_cons]
      have hlt : nodeLen l + 1 < l.length + 1 ↔ nodeLen l < l.length := by omega
      obtain ⟨h1, h2⟩ := nd_one l (i + 1) (by omega)
      cases hh : (isIn c || c == 45) with
      | true =>
        have hin : inName c = true := hh
        rw [hin, Bool.true_and]
        refine ⟨by rw [hlt]; exact h1, fun h => ?_⟩
        rw [h2 h]
        by_cases h3 : nodeLen l < l.length
        · rw [if_pos h3, if_pos (by omega)]
          omega
        · rw [if_neg h3, if_neg (by omega)]
      | false =>
        have hin : inName c = false := hh
        rw [hin, nd_false, Bool.false_and]
        exact ⟨by simp, fun h => by cases h⟩
def lenOk (s : ByteArray) : Bool := decide ((s.size : Int) ≥ 3) && decide ((s.size : Int) ≤ 64)
theorem nd_ok (s : ByteArray) : nodeOk s = ((ndRun (bs s) 0 (-1) (lenOk s)).2 && !decide ((ndRun (bs s) 0 (-1) (lenOk s)).1 < 1) && !((ndRun (bs s) 0 (-1) (lenOk s)).1 == (s.size : Int) - 1)) := by
  have hsz := bs_len s
  rw [Bool.eq_iff_iff]
  have hlen : lenOk s = true ↔ 3 ≤ s.size ∧ s.size ≤ 64 := by unfold lenOk; simp; omega
  unfold nodeOk nodeOkL
  rw [hsz]
  simp only [Bool.and_eq_true, decide_eq_true_eq, Bool.not_eq_true', decide_eq_false_iff_not, beq_eq_false_iff_ne]
  have hall : ∀ l : List Int, l.contains 64 = false ∧ l.all inHost = true ↔ l.all (fun c => inHost c && c != 64) = true := by
    intro l
    rw [List.contains_eq_any_beq, List.any_eq_false, List.all_eq_true, List.all_eq_true]
    constructor
    · rintro ⟨h1, h2⟩ x hx
      rw [h2 x hx, Bool.true_and, bne_iff_ne]
      rintro rfl
      exact h1 _ hx (by simp)
    · intro h
      refine ⟨fun x hx hh => ?_, fun x hx => ?_⟩
      · have := h x hx
        simp only [Bool.and_eq_true, bne_iff_ne] at this
        exact this.2 (by simpa using (beq_iff_eq.1 hh).symm)
      · have := h x hx
        simp only [Bool.and_eq_true] at this
        exact this.1
  cases hl : lenOk s with
  | false =>
    rw [nd_false]
    have hn : ¬ (3 ≤ s.size ∧ s.size ≤ 64) := fun h => by rw [hlen.2 h] at hl; cases hl
    constructor
    · intro h
      exfalso
      omega
    · intro h
      cases h.1.1
  | true =>
    obtain ⟨h3, h64⟩ := hlen.1 hl
    obtain ⟨h1, h2⟩ := nd_one (bs s) 0 (by omega)
    rw [hsz] at h1 h2
    constructor
    · rintro ⟨⟨⟨⟨⟨⟨a1, a2⟩, a3⟩, a4⟩, a5⟩, a6⟩, a7⟩
      have hg := (h1.2 ⟨a1, a6, (hall _).1 ⟨a5, a7⟩⟩).1
      have hp := h2 hg
      rw [if_pos a1] at hp
      exact ⟨⟨hg, by omega⟩, by omega⟩
    · rintro ⟨⟨hg, hp1⟩, hp2⟩
      have hp := h2 hg
      by_cases a1 : nodeLen (bs s) < s.size
      · rw [if_pos a1] at hp
        obtain ⟨_, a6, a7⟩ := h1.1 ⟨hg, a1⟩
        obtain ⟨a5, a8⟩ := (hall _).2 a7
        exact ⟨⟨⟨⟨⟨⟨a1, by omega⟩, by omega⟩, h64⟩, a5⟩, a6⟩, a8⟩
      · rw [if_neg a1] at hp
        omega

/-! ### heddleref01.Node: walked -/
def NodeR (w : World) (l : List Lk) (e : Ending) (w' : World) : Prop := ∃ (r1 r2 : ByteArray) (v : Value), e = .returned (.tuple #[.string r1, .string r2, v]) ∧ LnIs w' w.heap.size l v ∧ Below w.heap.size w w'
set_option maxRecDepth 100000 in
set_option maxHeartbeats 8000000 in
theorem ref01_Node (s : ByteArray) (hm : s.size ≤ 140737488351232) (w : World) :
    Calls Tryz.prog 83 #[.string s] w (NodeR w (nodeBad s)) := by
  have HNO := Lib.hid (nd_ok s)
  obtain ⟨R, hR⟩ : ∃ R, R = ndRun (bs s) 0 (-1) (lenOk s) := ⟨_, rfl⟩
  rw [← hR] at HNO
  have HR0 : Hid (ndRun ((bs s).drop 0) ((0 : Nat) : Int) (-1) (lenOk s) = R) := Lib.hid hR.symm
  clear hR
  by_cases h3 : (s.size : Int) ≥ 3
  · have d3 : decide ((s.size : Int) ≥ 3) = true := decide_eq_true h3
    by_cases h64 : (s.size : Int) ≤ 64
    · have d64 : decide ((s.size : Int) ≤ 64) = true := decide_eq_true h64
      have hl : lenOk s = true := by unfold lenOk; rw [d3, d64]; rfl
      rw [hl] at HR0
      clear hl
      go_enter Tryz.func83, Tryz.ntmps83
      go_wp2_with fail
      go_loopg [5, 6, 7] s.size (fun gk va vg vi wl => ∃ (k : Nat) (a : Int) (g : Bool), va = .int .i64 a ∧ vg = .bool g ∧ vi = .int .i64 (k : Int) ∧ gk = s.size - k ∧ k ≤ s.size ∧ -1 ≤ a ∧ a < k ∧ Hid (ndRun ((bs s).drop k) (k : Int) a g = R) ∧ wl = w)
      case atStart => exact ⟨0, -1, true, rfl, rfl, rfl, rfl, Nat.zero_le _, by omega, by omega, HR0, rfl⟩
      case round =>
        clear HR0
        obtain ⟨k, a, g, rfl, rfl, rfl, hgk, hk, ha0, ha1, HN, rfl⟩ := hrel
        have HK := Lib.hid hgk
        clear hgk
        by_cases hlt : k < s.size
        · have hx0 : (0 : Int) ≤ (k : Int) := by omega
          have hx1 : (k : Int) < (s.size : Int) := by omega
          have hbk := btk s k
          have hr := bt_range s (k : Int)
          have hn := HN.out
          clear HN
          rw [bs_drop s k hlt] at hn
          simp only [ndRun] at hn
          generalize bt s (k : Int) = c at hbk hr hn
          have HI := Lib.hid (ref01_InWord c)
          by_cases c64 : c = 64
          · rw [if_pos c64] at hn
            have d1 : (c == 64) = true := beq_iff_eq.2 c64
            have HN : Hid (ndRun ((bs s).drop (k + 1)) ((k + 1 : Nat) : Int) k (g && decide (a < 0)) = R) := Lib.hid hn
            clear hn c64
            cases g with
            | true =>
              rw [Bool.true_and] at HN
              by_cases hneg : a < 0
              · rw [decide_eq_true hneg] at HN
                have d2 : decide (a < 0) = true := decide_eq_true hneg
                go_wp2_with fail
                go_roundg (s.size - (k + 1))
                case measure => rw [HK.out]; omega
                case rel => exact ⟨k + 1, k, true, rfl, rfl, by go_num, rfl, by omega, by omega, by omega, Lib.hid HN.out, rfl⟩
              · rw [decide_eq_false hneg] at HN
                have d2 : decide (a < 0) = false := decide_eq_false hneg
                go_wp2_with fail
                go_roundg (s.size - (k + 1))
                case measure => rw [HK.out]; omega
                case rel => exact ⟨k + 1, k, false, rfl, rfl, by go_num, rfl, by omega, by omega, by omega, Lib.hid HN.out, rfl⟩
            | false =>
              rw [Bool.false_and] at HN
              go_wp2_with fail
              go_roundg (s.size - (k + 1))
              case measure => rw [HK.out]; omega
              case rel => exact ⟨k + 1, k, false, rfl, rfl, by go_num, rfl, by omega, by omega, by omega, Lib.hid HN.out, rfl⟩
          · rw [if_neg c64] at hn
            have d1 : (c == 64) = false := beq_eq_false_iff_ne.2 c64
            have HN : Hid (ndRun ((bs s).drop (k + 1)) ((k + 1 : Nat) : Int) a (g && (isIn c || c == 45 || (c == 46 && decide (a ≥ 0)))) = R) := Lib.hid hn
            clear hn c64
            cases g with
            | false =>
              rw [Bool.false_and] at HN
              go_wp2_with fail
              go_roundg (s.size - (k + 1))
              case measure => rw [HK.out]; omega
              case rel => exact ⟨k + 1, a, false, rfl, rfl, by go_num, rfl, by omega, by omega, by omega, Lib.hid HN.out, rfl⟩
            | true =>
              rw [Bool.true_and] at HN
              cases hin : isIn c with
              | true =>
                rw [hin, Bool.true_or, Bool.true_or] at HN
                rw [hin] at HI
                clear hin
                go_wp2_with fail
                refine (HI.out _).mono ?_
                rintro e w' ⟨rfl, rfl⟩
                go_wp2_with fail
                go_roundg (s.size - (k + 1))
                case measure => rw [HK.out]; omega
                case rel => exact ⟨k + 1, a, true, rfl, rfl, by go_num, rfl, by omega, by omega, by omega, Lib.hid HN.out, rfl⟩
              | false =>
                rw [hin, Bool.false_or] at HN
                rw [hin] at HI
                clear hin
                by_cases c45 : c = 45
                · have d2 : (c == 45) = true := beq_iff_eq.2 c45
                  rw [d2, Bool.true_or] at HN
                  clear c45
                  go_wp2_with fail
                  refine (HI.out _).mono ?_
                  rintro e w' ⟨rfl, rfl⟩
                  go_wp2_with fail
                  go_roundg (s.size - (k + 1))
                  case measure => rw [HK.out]; omega
                  case rel => exact ⟨k + 1, a, true, rfl, rfl, by go_num, rfl, by omega, by omega, by omega, Lib.hid HN.out, rfl⟩
                · have d2 : (c == 45) = false := beq_eq_false_iff_ne.2 c45
                  rw [d2, Bool.false_or] at HN
                  clear c45
                  by_cases c46 : c = 46
                  · have d3 : (c == 46) = true := beq_iff_eq.2 c46
                    rw [d3, Bool.true_and] at HN
                    clear c46
                    by_cases hge : a ≥ 0
                    · have d4 : decide (a ≥ 0) = true := decide_eq_true hge
                      rw [d4] at HN
                      go_wp2_with fail
                      refine (HI.out _).mono ?_
                      rintro e w' ⟨rfl, rfl⟩
                      go_wp2_with fail
                      go_roundg (s.size - (k + 1))
                      case measure => rw [HK.out]; omega
                      case rel => exact ⟨k + 1, a, true, rfl, rfl, by go_num, rfl, by omega, by omega, by omega, Lib.hid HN.out, rfl⟩
                    · have d4 : decide (a ≥ 0) = false := decide_eq_false hge
                      rw [d4] at HN
                      go_wp2_with fail
                      refine (HI.out _).mono ?_
                      rintro e w' ⟨rfl, rfl⟩
                      go_wp2_with fail
                      go_roundg (s.size - (k + 1))
                      case measure => rw [HK.out]; omega
                      case rel => exact ⟨k + 1, a, false, rfl, rfl, by go_num, rfl, by omega, by omega, by omega, Lib.hid HN.out, rfl⟩
                  · have d3 : (c == 46) = false := beq_eq_false_iff_ne.2 c46
                    rw [d3, Bool.false_and] at HN
                    clear c46
                    go_wp2_with fail
                    refine (HI.out _).mono ?_
                    rintro e w' ⟨rfl, rfl⟩
                    go_wp2_with fail
                    go_roundg (s.size - (k + 1))
                    case measure => rw [HK.out]; omega
                    case rel => exact ⟨k + 1, a, false, rfl, rfl, by go_num, rfl, by omega, by omega, by omega, Lib.hid HN.out, rfl⟩
        · have hks : k = s.size := by omega
          have hn := HN.out
          rw [bs_end s k (by omega)] at hn
          have hn : (a, g) = R := hn
          rw [← hn] at HNO
          clear hn HN
          have hno := HNO.out
          simp only at hno
          have d0 : decide ((k : Int) < (s.size : Int)) = false := decide_eq_false (by omega)
          cases hok : nodeOk s with
          | true =>
            rw [hok] at hno
            have HB : Hid (nodeBad s = []) := Lib.hid (by unfold nodeBad; rw [hok]; rfl)
            have hg : g = true ∧ ¬ a < 1 ∧ ¬ a = (s.size : Int) - 1 := by
              simpa [Bool.and_assoc] using hno.symm
            obtain ⟨rfl, h1, h2⟩ := hg
            have d1 : decide (a < 1) = false := decide_eq_false h1
            have d2 : (a == (s.size : Int) - 1) = false := beq_eq_false_iff_ne.2 h2
            have y0 : (0 : Int) ≤ a := by omega
            have y1 : a ≤ (s.size : Int) := by omega
            have y2 : (0 : Int) ≤ a + 1 := by omega
            have y3 : a + 1 ≤ (s.size : Int) := by omega
            clear hno h1 h2 hok HNO hks
            go_wp2_with fail
            go_quiet (fail)
            go_wp2_with fail
            go_ret3
            exact ⟨_, _, _, rfl, by rw [HB.out]; exact LnIs.nil _ _, by repeat (first | exact Below.refl _ _ | apply pw_below_drewN)⟩
          | false =>
            rw [hok] at hno
            have HB : Hid (nodeBad s = [⟨nAtom, 0, 24⟩]) := Lib.hid (by unfold nodeBad; rw [hok]; rfl)
            have hcase : g = false ∨ (g = true ∧ a < 1) ∨ (g = true ∧ ¬ a < 1 ∧ a = (s.size : Int) - 1) := by
              cases g with
              | false => exact .inl rfl
              | true =>
                by_cases h1 : a < 1
                · exact .inr (.inl ⟨rfl, h1⟩)
                · refine .inr (.inr ⟨rfl, h1, ?_⟩)
                  by_cases h2 : a = (s.size : Int) - 1
                  · exact h2
                  · rw [decide_eq_false h1, beq_eq_false_iff_ne.2 h2] at hno
                    cases hno
            clear hno hok HNO hks
            rcases hcase with rfl | ⟨rfl, h1⟩ | ⟨rfl, h1, h2⟩
            · go_wp2_with fail
              refine (ref01_no _ _ _).mono ?_
              rintro e w1 ⟨v1, rfl, hL, hB⟩
              have HL := Lib.hid hL
              have HB1 := Lib.hid hB
              clear hL hB
              go_wp2_with fail
              go_ret3
              exact ⟨_, _, _, rfl, by rw [HB.out]; exact HL.out, HB1.out⟩
            · have d1 : decide (a < 1) = true := decide_eq_true h1
              go_wp2_with fail
              refine (ref01_no _ _ _).mono ?_
              rintro e w1 ⟨v1, rfl, hL, hB⟩
              have HL := Lib.hid hL
              have HB1 := Lib.hid hB
              clear hL hB
              go_wp2_with fail
              go_ret3
              exact ⟨_, _, _, rfl, by rw [HB.out]; exact HL.out, HB1.out⟩
            · have d1 : decide (a < 1) = false := decide_eq_false h1
              have d2 : (a == (s.size : Int) - 1) = true := beq_iff_eq.2 h2
              clear h2
              go_wp2_with fail
              refine (ref01_no _ _ _).mono ?_
              rintro e w1 ⟨v1, rfl, hL, hB⟩
              have HL := Lib.hid hL
              have HB1 := Lib.hid hB
              clear hL hB
              go_wp2_with fail
              go_ret3
              exact ⟨_, _, _, rfl, by rw [HB.out]; exact HL.out, HB1.out⟩
    · have d64 : decide ((s.size : Int) ≤ 64) = false := decide_eq_false h64
      have hl : lenOk s = false := by unfold lenOk; rw [d3, d64]; rfl
      rw [hl] at HR0
      clear hl
      go_enter Tryz.func83, Tryz.ntmps83
      go_wp2_with fail
      go_loopg [5, 6, 7] s.size (fun gk va vg vi wl => ∃ (k : Nat) (a : Int) (g : Bool), va = .int .i64 a ∧ vg = .bool g ∧ vi = .int .i64 (k : Int) ∧ gk = s.size - k ∧ k ≤ s.size ∧ -1 ≤ a ∧ a < k ∧ Hid (ndRun ((bs s).drop k) (k : Int) a g = R) ∧ wl = w)
      case atStart => exact ⟨0, -1, false, rfl, rfl, rfl, rfl, Nat.zero_le _, by omega, by omega, HR0, rfl⟩
      case round =>
        clear HR0
        obtain ⟨k, a, g, rfl, rfl, rfl, hgk, hk, ha0, ha1, HN, rfl⟩ := hrel
        have HK := Lib.hid hgk
        clear hgk
        by_cases hlt : k < s.size
        · have hx0 : (0 : Int) ≤ (k : Int) := by omega
          have hx1 : (k : Int) < (s.size : Int) := by omega
          have hbk := btk s k
          have hr := bt_range s (k : Int)
          have hn := HN.out
          clear HN
          rw [bs_drop s k hlt] at hn
          simp only [ndRun] at hn
          generalize bt s (k : Int) = c at hbk hr hn
          have HI := Lib.hid (ref01_InWord c)
          by_cases c64 : c = 64
          · rw [if_pos c64] at hn
            have d1 : (c == 64) = true := beq_iff_eq.2 c64
            have HN : Hid (ndRun ((bs s).drop (k + 1)) ((k + 1 : Nat) : Int) k (g && decide (a < 0)) = R) := Lib.hid hn
            clear hn c64
            cases g with
            | true =>
              rw [Bool.true_and] at HN
              by_cases hneg : a < 0
              · rw [decide_eq_true hneg] at HN
                have d2 : decide (a < 0) = true := decide_eq_true hneg
                go_wp2_with fail
                go_roundg (s.size - (k + 1))
                case measure => rw [HK.out]; omega
                case rel => exact ⟨k + 1, k, true, rfl, rfl, by go_num, rfl, by omega, by omega, by omega, Lib.hid HN.out, rfl⟩
              · rw [decide_eq_false hneg] at HN
                have d2 : decide (a < 0) = false := decide_eq_false hneg
                go_wp2_with fail
                go_roundg (s.size - (k + 1))
                case measure => rw [HK.out]; omega
                case rel => exact ⟨k + 1, k, false, rfl, rfl, by go_num, rfl, by omega, by omega, by omega, Lib.hid HN.out, rfl⟩
            | false =>
              rw [Bool.false_and] at HN
              go_wp2_with fail
              go_roundg (s.size - (k + 1))
              case measure => rw [HK.out]; omega
              case rel => exact ⟨k + 1, k, false, rfl, rfl, by go_num, rfl, by omega, by omega, by omega, Lib.hid HN.out, rfl⟩
          · rw [if_neg c64] at hn
            have d1 : (c == 64) = false := beq_eq_false_iff_ne.2 c64
            have HN : Hid (ndRun ((bs s).drop (k + 1)) ((k + 1 : Nat) : Int) a (g && (isIn c || c == 45 || (c == 46 && decide (a ≥ 0)))) = R) := Lib.hid hn
            clear hn c64
            cases g with
            | false =>
              rw [Bool.false_and] at HN
              go_wp2_with fail
              go_roundg (s.size - (k + 1))
              case measure => rw [HK.out]; omega
              case rel => exact ⟨k + 1, a, false, rfl, rfl, by go_num, rfl, by omega, by omega, by omega, Lib.hid HN.out, rfl⟩
            | true =>
              rw [Bool.true_and] at HN
              cases hin : isIn c with
              | true =>
                rw [hin, Bool.true_or, Bool.true_or] at HN
                rw [hin] at HI
                clear hin
                go_wp2_with fail
                refine (HI.out _).mono ?_
                rintro e w' ⟨rfl, rfl⟩
                go_wp2_with fail
                go_roundg (s.size - (k + 1))
                case measure => rw [HK.out]; omega
                case rel => exact ⟨k + 1, a, true, rfl, rfl, by go_num, rfl, by omega, by omega, by omega, Lib.hid HN.out, rfl⟩
              | false =>
                rw [hin, Bool.false_or] at HN
                rw [hin] at HI
                clear hin
                by_cases c45 : c = 45
                · have d2 : (c == 45) = true := beq_iff_eq.2 c45
                  rw [d2, Bool.true_or] at HN
                  clear c45
                  go_wp2_with fail
                  refine (HI.out _).mono ?_
                  rintro e w' ⟨rfl, rfl⟩
                  go_wp2_with fail
                  go_roundg (s.size - (k + 1))
                  case measure => rw [HK.out]; omega
                  case rel => exact ⟨k + 1, a, true, rfl, rfl, by go_num, rfl, by omega, by omega, by omega, Lib.hid HN.out, rfl⟩
                · have d2 : (c == 45) = false := beq_eq_false_iff_ne.2 c45
                  rw [d2, Bool.false_or] at HN
                  clear c45
                  by_cases c46 : c = 46
                  · have d3 : (c == 46) = true := beq_iff_eq.2 c46
                    rw [d3, Bool.true_and] at HN
                    clear c46
                    by_cases hge : a ≥ 0
                    · have d4 : decide (a ≥ 0) = true := decide_eq_true hge
                      rw [d4] at HN
                      go_wp2_with fail
                      refine (HI.out _).mono ?_
                      rintro e w' ⟨rfl, rfl⟩
                      go_wp2_with fail
                      go_roundg (s.size - (k + 1))
                      case measure => rw [HK.out]; omega
                      case rel => exact ⟨k + 1, a, true, rfl, rfl, by go_num, rfl, by omega, by omega, by omega, Lib.hid HN.out, rfl⟩
                    · have d4 : decide (a ≥ 0) = false := decide_eq_false hge
                      rw [d4] at HN
                      go_wp2_with fail
                      refine (HI.out _).mono ?_
                      rintro e w' ⟨rfl, rfl⟩
                      go_wp2_with fail
                      go_roundg (s.size - (k + 1))
                      case measure => rw [HK.out]; omega
                      case rel => exact ⟨k + 1, a, false, rfl, rfl, by go_num, rfl, by omega, by omega, by omega, Lib.hid HN.out, rfl⟩
                  · have d3 : (c == 46) = false := beq_eq_false_iff_ne.2 c46
                    rw [d3, Bool.false_and] at HN
                    clear c46
                    go_wp2_with fail
                    refine (HI.out _).mono ?_
                    rintro e w' ⟨rfl, rfl⟩
                    go_wp2_with fail
                    go_roundg (s.size - (k + 1))
                    case measure => rw [HK.out]; omega
                    case rel => exact ⟨k + 1, a, false, rfl, rfl, by go_num, rfl, by omega, by omega, by omega, Lib.hid HN.out, rfl⟩
        · have hks : k = s.size := by omega
          have hn := HN.out
          rw [bs_end s k (by omega)] at hn
          have hn : (a, g) = R := hn
          rw [← hn] at HNO
          clear hn HN
          have hno := HNO.out
          simp only at hno
          have d0 : decide ((k : Int) < (s.size : Int)) = false := decide_eq_false (by omega)
          cases hok : nodeOk s with
          | true =>
            rw [hok] at hno
            have HB : Hid (nodeBad s = []) := Lib.hid (by unfold nodeBad; rw [hok]; rfl)
            have hg : g = true ∧ ¬ a < 1 ∧ ¬ a = (s.size : Int) - 1 := by
              simpa [Bool.and_assoc] using hno.symm
            obtain ⟨rfl, h1, h2⟩ := hg
            have d1 : decide (a < 1) = false := decide_eq_false h1
            have d2 : (a == (s.size : Int) - 1) = false := beq_eq_false_iff_ne.2 h2
            have y0 : (0 : Int) ≤ a := by omega
            have y1 : a ≤ (s.size : Int) := by omega
            have y2 : (0 : Int) ≤ a + 1 := by omega
            have y3 : a + 1 ≤ (s.size : Int) := by omega
            clear hno h1 h2 hok HNO hks
            go_wp2_with fail
            go_quiet (fail)
            go_wp2_with fail
            go_ret3
            exact ⟨_, _, _, rfl, by rw [HB.out]; exact LnIs.nil _ _, by repeat (first | exact Below.refl _ _ | apply pw_below_drewN)⟩
          | false =>
            rw [hok] at hno
            have HB : Hid (nodeBad s = [⟨nAtom, 0, 24⟩]) := Lib.hid (by unfold nodeBad; rw [hok]; rfl)
            have hcase : g = false ∨ (g = true ∧ a < 1) ∨ (g = true ∧ ¬ a < 1 ∧ a = (s.size : Int) - 1) := by
              cases g with
              | false => exact .inl rfl
              | true =>
                by_cases h1 : a < 1
                · exact .inr (.inl ⟨rfl, h1⟩)
                · refine .inr (.inr ⟨rfl, h1, ?_⟩)
                  by_cases h2 : a = (s.size : Int) - 1
                  · exact h2
                  · rw [decide_eq_false h1, beq_eq_false_iff_ne.2 h2] at hno
                    cases hno
            clear hno hok HNO hks
            rcases hcase with rfl | ⟨rfl, h1⟩ | ⟨rfl, h1, h2⟩
            · go_wp2_with fail
              refine (ref01_no _ _ _).mono ?_
              rintro e w1 ⟨v1, rfl, hL, hB⟩
              have HL := Lib.hid hL
              have HB1 := Lib.hid hB
              clear hL hB
              go_wp2_with fail
              go_ret3
              exact ⟨_, _, _, rfl, by rw [HB.out]; exact HL.out, HB1.out⟩
            · have d1 : decide (a < 1) = true := decide_eq_true h1
              go_wp2_with fail
              refine (ref01_no _ _ _).mono ?_
              rintro e w1 ⟨v1, rfl, hL, hB⟩
              have HL := Lib.hid hL
              have HB1 := Lib.hid hB
              clear hL hB
              go_wp2_with fail
              go_ret3
              exact ⟨_, _, _, rfl, by rw [HB.out]; exact HL.out, HB1.out⟩
            · have d1 : decide (a < 1) = false := decide_eq_false h1
              have d2 : (a == (s.size : Int) - 1) = true := beq_iff_eq.2 h2
              clear h2
              go_wp2_with fail
              refine (ref01_no _ _ _).mono ?_
              rintro e w1 ⟨v1, rfl, hL, hB⟩
              have HL := Lib.hid hL
              have HB1 := Lib.hid hB
              clear hL hB
              go_wp2_with fail
              go_ret3
              exact ⟨_, _, _, rfl, by rw [HB.out]; exact HL.out, HB1.out⟩
  · have d3 : decide ((s.size : Int) ≥ 3) = false := decide_eq_false h3
    have hl : lenOk s = false := by unfold lenOk; rw [d3]; rfl
    rw [hl] at HR0
    clear hl
    go_enter Tryz.func83, Tryz.ntmps83
    go_wp2_with fail
    go_loopg [5, 6, 7] s.size (fun gk va vg vi wl => ∃ (k : Nat) (a : Int) (g : Bool), va = .int .i64 a ∧ vg = .bool g ∧ vi = .int .i64 (k : Int) ∧ gk = s.size - k ∧ k ≤ s.size ∧ -1 ≤ a ∧ a < k ∧ Hid (ndRun ((bs s).drop k) (k : Int) a g = R) ∧ wl = w)
    case atStart => exact ⟨0, -1, false, rfl, rfl, rfl, rfl, Nat.zero_le _, by omega, by omega, HR0, rfl⟩
    case round =>
      clear HR0
      obtain ⟨k, a, g, rfl, rfl, rfl, hgk, hk, ha0, ha1, HN, rfl⟩ := hrel
      have HK := Lib.hid hgk
      clear hgk
      by_cases hlt : k < s.size
      · have hx0 : (0 : Int) ≤ (k : Int) := by omega
        have hx1 : (k : Int) < (s.size : Int) := by omega
        have hbk := btk s k
        have hr := bt_range s (k : Int)
        have hn := HN.out
        clear HN
        rw [bs_drop s k hlt] at hn
        simp only [ndRun] at hn
        generalize bt s (k : Int) = c at hbk hr hn
        have HI := Lib.hid (ref01_InWord c)
        by_cases c64 : c = 64
        · rw [if_pos c64] at hn
          have d1 : (c == 64) = true := beq_iff_eq.2 c64
          have HN : Hid (ndRun ((bs s).drop (k + 1)) ((k + 1 : Nat) : Int) k (g && decide (a < 0)) = R) := Lib.hid hn
          clear hn c64
          cases g with
          | true =>
            rw [Bool.true_and] at HN
            by_cases hneg : a < 0
            · rw [decide_eq_true hneg] at HN
              have d2 : decide (a < 0) = true := decide_eq_true hneg
              go_wp2_with fail
              go_roundg (s.size - (k + 1))
              case measure => rw [HK.out]; omega
              case rel => exact ⟨k + 1, k, true, rfl, rfl, by go_num, rfl, by omega, by omega, by omega, Lib.hid HN.out, rfl⟩
            · rw [decide_eq_false hneg] at HN
              have d2 : decide (a < 0) = false := decide_eq_false hneg
              go_wp2_with fail
              go_roundg (s.size - (k + 1))
              case measure => rw [HK.out]; omega
              case rel => exact ⟨k + 1, k, false, rfl, rfl, by go_num, rfl, by omega, by omega, by omega, Lib.hid HN.out, rfl⟩
          | false =>
            rw [Bool.false_and] at HN
            go_wp2_with fail
            go_roundg (s.size - (k + 1))
            case measure => rw [HK.out]; omega
            case rel => exact ⟨k + 1, k, false, rfl, rfl, by go_num, rfl, by omega, by omega, by omega, Lib.hid HN.out, rfl⟩
        · rw [if_neg c64] at hn
          have d1 : (c == 64) = false := beq_eq_false_iff_ne.2 c64
          have HN : Hid (ndRun ((bs s).drop (k + 1)) ((k + 1 : Nat) : Int) a (g && (isIn c || c == 45 || (c == 46 && decide (a ≥ 0)))) = R) := Lib.hid hn
          clear hn c64
          cases g with
          | false =>
            rw [Bool.false_and] at HN
            go_wp2_with fail
            go_roundg (s.size - (k + 1))
            case measure => rw [HK.out]; omega
            case rel => exact ⟨k + 1, a, false, rfl, rfl, by go_num, rfl, by omega, by omega, by omega, Lib.hid HN.out, rfl⟩
          | true =>
            rw [Bool.true_and] at HN
            cases hin : isIn c with
            | true =>
              rw [hin, Bool.true_or, Bool.true_or] at HN
              rw [hin] at HI
              clear hin
              go_wp2_with fail
              refine (HI.out _).mono ?_
              rintro e w' ⟨rfl, rfl⟩
              go_wp2_with fail
              go_roundg (s.size - (k + 1))
              case measure => rw [HK.out]; omega
              case rel => exact ⟨k + 1, a, true, rfl, rfl, by go_num, rfl, by omega, by omega, by omega, Lib.hid HN.out, rfl⟩
            | false =>
              rw [hin, Bool.false_or] at HN
              rw [hin] at HI
              clear hin
              by_cases c45 : c = 45
              · have d2 : (c == 45) = true := beq_iff_eq.2 c45
                rw [d2, Bool.true_or] at HN
                clear c45
                go_wp2_with fail
                refine (HI.out _).mono ?_
                rintro e w' ⟨rfl, rfl⟩
                go_wp2_with fail
                go_roundg (s.size - (k + 1))
                case measure => rw [HK.out]; omega
                case rel => exact ⟨k + 1, a, true, rfl, rfl, by go_num, rfl, by omega, by omega, by omega, Lib.hid HN.out, rfl⟩
              · have d2 : (c == 45) = false := beq_eq_false_iff_ne.2 c45
                rw [d2, Bool.false_or] at HN
                clear c45
                by_cases c46 : c = 46
                · have d3 : (c == 46) = true := beq_iff_eq.2 c46
                  rw [d3, Bool.true_and] at HN
                  clear c46
                  by_cases hge : a ≥ 0
                  · have d4 : decide (a ≥ 0) = true := decide_eq_true hge
                    rw [d4] at HN
                    go_wp2_with fail
                    refine (HI.out _).mono ?_
                    rintro e w' ⟨rfl, rfl⟩
                    go_wp2_with fail
                    go_roundg (s.size - (k + 1))
                    case measure => rw [HK.out]; omega
                    case rel => exact ⟨k + 1, a, true, rfl, rfl, by go_num, rfl, by omega, by omega, by omega, Lib.hid HN.out, rfl⟩
                  · have d4 : decide (a ≥ 0) = false := decide_eq_false hge
                    rw [d4] at HN
                    go_wp2_with fail
                    refine (HI.out _).mono ?_
                    rintro e w' ⟨rfl, rfl⟩
                    go_wp2_with fail
                    go_roundg (s.size - (k + 1))
                    case measure => rw [HK.out]; omega
                    case rel => exact ⟨k + 1, a, false, rfl, rfl, by go_num, rfl, by omega, by omega, by omega, Lib.hid HN.out, rfl⟩
                · have d3 : (c == 46) = false := beq_eq_false_iff_ne.2 c46
                  rw [d3, Bool.false_and] at HN
                  clear c46
                  go_wp2_with fail
                  refine (HI.out _).mono ?_
                  rintro e w' ⟨rfl, rfl⟩
                  go_wp2_with fail
                  go_roundg (s.size - (k + 1))
                  case measure => rw [HK.out]; omega
                  case rel => exact ⟨k + 1, a, false, rfl, rfl, by go_num, rfl, by omega, by omega, by omega, Lib.hid HN.out, rfl⟩
      · have hks : k = s.size := by omega
        have hn := HN.out
        rw [bs_end s k (by omega)] at hn
        have hn : (a, g) = R := hn
        rw [← hn] at HNO
        clear hn HN
        have hno := HNO.out
        simp only at hno
        have d0 : decide ((k : Int) < (s.size : Int)) = false := decide_eq_false (by omega)
        cases hok : nodeOk s with
        | true =>
          rw [hok] at hno
          have HB : Hid (nodeBad s = []) := Lib.hid (by unfold nodeBad; rw [hok]; rfl)
          have hg : g = true ∧ ¬ a < 1 ∧ ¬ a = (s.size : Int) - 1 := by
            simpa [Bool.and_assoc] using hno.symm
          obtain ⟨rfl, h1, h2⟩ := hg
          have d1 : decide (a < 1) = false := decide_eq_false h1
          have d2 : (a == (s.size : Int) - 1) = false := beq_eq_false_iff_ne.2 h2
          have y0 : (0 : Int) ≤ a := by omega
          have y1 : a ≤ (s.size : Int) := by omega
          have y2 : (0 : Int) ≤ a + 1 := by omega
          have y3 : a + 1 ≤ (s.size : Int) := by omega
          clear hno h1 h2 hok HNO hks
          go_wp2_with fail
          go_quiet (fail)
          go_wp2_with fail
          go_ret3
          exact ⟨_, _, _, rfl, by rw [HB.out]; exact LnIs.nil _ _, by repeat (first | exact Below.refl _ _ | apply pw_below_drewN)⟩
        | false =>
          rw [hok] at hno
          have HB : Hid (nodeBad s = [⟨nAtom, 0, 24⟩]) := Lib.hid (by unfold nodeBad; rw [hok]; rfl)
          have hcase : g = false ∨ (g = true ∧ a < 1) ∨ (g = true ∧ ¬ a < 1 ∧ a = (s.size : Int) - 1) := by
            cases g with
            | false => exact .inl rfl
            | true =>
              by_cases h1 : a < 1
              · exact .inr (.inl ⟨rfl, h1⟩)
              · refine .inr (.inr ⟨rfl, h1, ?_⟩)
                by_cases h2 : a = (s.size : Int) - 1
                · exact h2
                · rw [decide_eq_false h1, beq_eq_false_iff_ne.2 h2] at hno
                  cases hno
          clear hno hok HNO hks
          rcases hcase with rfl | ⟨rfl, h1⟩ | ⟨rfl, h1, h2⟩
          · go_wp2_with fail
            refine (ref01_no _ _ _).mono ?_
            rintro e w1 ⟨v1, rfl, hL, hB⟩
            have HL := Lib.hid hL
            have HB1 := Lib.hid hB
            clear hL hB
            go_wp2_with fail
            go_ret3
            exact ⟨_, _, _, rfl, by rw [HB.out]; exact HL.out, HB1.out⟩
          · have d1 : decide (a < 1) = true := decide_eq_true h1
            go_wp2_with fail
            refine (ref01_no _ _ _).mono ?_
            rintro e w1 ⟨v1, rfl, hL, hB⟩
            have HL := Lib.hid hL
            have HB1 := Lib.hid hB
            clear hL hB
            go_wp2_with fail
            go_ret3
            exact ⟨_, _, _, rfl, by rw [HB.out]; exact HL.out, HB1.out⟩
          · have d1 : decide (a < 1) = false := decide_eq_false h1
            have d2 : (a == (s.size : Int) - 1) = true := beq_iff_eq.2 h2
            clear h2
            go_wp2_with fail
            refine (ref01_no _ _ _).mono ?_
            rintro e w1 ⟨v1, rfl, hL, hB⟩
            have HL := Lib.hid hL
            have HB1 := Lib.hid hB
            clear hL hB
            go_wp2_with fail
            go_ret3
            exact ⟨_, _, _, rfl, by rw [HB.out]; exact HL.out, HB1.out⟩
end Go.Proofs.YtgapeacflkfmdaaGreatDoor
namespace Go.Proofs.YtgapeacflkfmdaaGreatDoor
open Go.RowKit Go.Proofs.YtgapeacflkfmdaaGreatDoorW.PrintWords

/-! ### strings.Cut at a separator of one byte -/
theorem cut_one (s : ByteArray) (c : UInt8) (hm : s.size ≤ 140737488351232) (w : World) :
    Calls Tryz.prog 205 #[.string s, .string ⟨#[c]⟩] w fun e w' => (∃ k : Nat, Lib.indexByte s.data.toList c = (k : Int) ∧ k < s.size ∧ e = .returned (.tuple #[.string (s.extract 0 k), .string (s.extract (k + 1) s.size), .bool true]) ∨ Lib.indexByte s.data.toList c < 0 ∧ e = .returned (.tuple #[.string s, .string ⟨#[]⟩, .bool false])) ∧ Below w.heap.size w w' := by
  have HI := Lib.hid (Tryz.stringslite_Index_one s c)
  have hge := Lib.indexByte_ge s.data.toList c
  have hlt : ∀ k : Nat, Lib.indexByte s.data.toList c = (k : Int) → k < s.size := by
    intro k hk
    have := (Lib.indexByte_some hk).1
    rw [Lib.size_eq]
    exact (List.getElem?_eq_some_iff.1 this).1
  generalize Lib.indexByte s.data.toList c = I at HI hge hlt ⊢
  by_cases h0 : 0 ≤ I
  · obtain ⟨k, rfl⟩ := Int.eq_ofNat_of_zero_le h0
    have hk := hlt k rfl
    clear hlt hge
    have d0 : decide ((k : Int) ≥ 0) = true := decide_eq_true h0
    have y1 : (k : Int) ≤ (s.size : Int) := by omega
    have y2 : (0 : Int) ≤ (k : Int) + 1 := by omega
    have y3 : (k : Int) + 1 ≤ (s.size : Int) := by omega
    go_enter Tryz.func205, Tryz.ntmps205
    go_wp2_with fail
    refine (HI.out _).mono ?_
    rintro e w1 ⟨rfl, rfl⟩
    go_wp2_with fail
    go_quiet (fail)
    go_wp2_with fail
    go_ret3
    exact ⟨⟨k, .inl ⟨rfl, hk, by simp⟩⟩, by repeat (first | exact Below.refl _ _ | apply pw_below_drewN)⟩
  · have d0 : decide (I ≥ 0) = false := decide_eq_false h0
    clear hlt hge
    go_enter Tryz.func205, Tryz.ntmps205
    go_wp2_with fail
    refine (HI.out _).mono ?_
    rintro e w1 ⟨rfl, rfl⟩
    go_wp2_with fail
    go_ret3
    exact ⟨⟨0, .inr ⟨by omega, rfl⟩⟩, Below.refl _ _⟩

/-- A name's two parts, as they are cut. -/
def CutOk (s N H : ByteArray) (ok : Bool) : Prop :=
  N.size ≤ s.size ∧ H.size ≤ s.size ∧ nodeOk s = (ok && decide (0 < N.size) && decide (0 < H.size) && decide (s.size ≤ 64) && !decide (0 ≤ Lib.indexByte H.data.toList 64) && (bs N).all inName && (bs H).all inHost)
theorem index_len : ∀ (l : List UInt8), (Lib.indexByte l 64 = -1 ∧ nodeLen (l.map fun c => (c.toNat : Int)) = l.length) ∨ (Lib.indexByte l 64 = (nodeLen (l.map fun c => (c.toNat : Int)) : Nat) ∧ nodeLen (l.map fun c => (c.toNat : Int)) < l.length)
  | [] => .inl ⟨rfl, rfl⟩
  | b :: l => by
    by_cases hb : b = 64
    · right
      subst hb
      have e : nodeLen (((64 : UInt8) :: l).map fun c => (c.toNat : Int)) = 0 := tw_no (by decide)
      rw [e]
      exact ⟨rfl, by simp⟩
    · have h64 : ((b.toNat : Int) != 64) = true := by
        rw [bne_iff_ne]
        intro h
        exact hb (UInt8.toNat_inj.1 (by have : b.toNat = 64 := by omega
                                        rw [this]; rfl))
      have e : nodeLen ((b :: l).map fun c => (c.toNat : Int)) = nodeLen (l.map fun c => (c.toNat : Int)) + 1 := tw_yes h64
      have hbe : (b == 64) = false := beq_eq_false_iff_ne.2 hb
      rw [e, Lib.indexByte, hbe]
      simp only [Bool.false_eq_true, if_false]
      rcases index_len l with ⟨h1, h2⟩ | ⟨h1, h2⟩
      · left
        rw [h1]
        exact ⟨rfl, by simp [h2]⟩
      · right
        rw [h1, if_neg (by simp)]
        exact ⟨by simp, by simpa using h2⟩
theorem bs_data' (x : ByteArray) : bs x = x.data.toList.map fun c => (c.toNat : Int) := by
  apply List.ext_getElem
  · rw [bs_len, List.length_map, Lib.size_eq]
  · intro i h1 h2
    rw [bs_len] at h1
    rw [bs_get _ i h1, ← btk _ i h1, List.getElem_map]
    rfl
theorem bs_cut' (s : ByteArray) (a b : Nat) : bs (s.extract a b) = ((bs s).drop a).take (b - a) := by
  rw [bs_data', bs_data', ← List.map_drop, ← List.map_take]
  congr 1
  simp [List.extract_eq_take_drop]
theorem index_has (H : ByteArray) : decide (0 ≤ Lib.indexByte H.data.toList 64) = (bs H).contains 64 := by
  rw [bs_data', Bool.eq_iff_iff, decide_eq_true_eq, List.contains_iff_mem, List.mem_map]
  constructor
  · intro h
    obtain ⟨o, ho⟩ := Int.eq_ofNat_of_zero_le h
    have := (Lib.indexByte_some ho).1
    exact ⟨64, List.mem_of_getElem? this, rfl⟩
  · rintro ⟨c, hc, h⟩
    have : c = 64 := UInt8.toNat_inj.1 (show c.toNat = 64 by omega)
    subst this
    have hge := Lib.indexByte_ge H.data.toList 64
    by_cases h1 : Lib.indexByte H.data.toList 64 = -1
    · obtain ⟨k, hk, he⟩ := List.getElem_of_mem hc
      exact absurd (by rw [List.getElem?_eq_getElem hk, he]) (Lib.indexByte_none h1 k)
    · omega
theorem cutOk_some {s : ByteArray} {k : Nat} (h : Lib.indexByte s.data.toList 64 = (k : Int)) (hk : k < s.size) : CutOk s (s.extract 0 k) (s.extract (k + 1) s.size) true := by
  have hn : nodeLen (bs s) = k := by
    rw [bs_data']
    rcases index_len s.data.toList with ⟨h1, _⟩ | ⟨h1, _⟩
    · omega
    · omega
  have e1 : bs (s.extract 0 k) = (bs s).take k := by rw [bs_cut']; simp
  have e2 : bs (s.extract (k + 1) s.size) = (bs s).drop (k + 1) := by
    rw [bs_cut', List.take_of_length_le (by rw [List.length_drop, bs_len]; omega)]
  have s1 : (s.extract 0 k).size = k := by simp; omega
  have s2 : (s.extract (k + 1) s.size).size = s.size - (k + 1) := by simp
  refine ⟨by omega, by omega, ?_⟩
  rw [index_has, e1, e2, s1, s2]
  unfold nodeOk nodeOkL
  rw [hn, bs_len, Bool.eq_iff_iff]
  simp only [Bool.and_eq_true, decide_eq_true_eq, Bool.true_and]
  constructor
  · rintro ⟨⟨⟨⟨⟨⟨a1, a2⟩, a3⟩, a4⟩, a5⟩, a6⟩, a7⟩
    exact ⟨⟨⟨⟨⟨a2, by omega⟩, a4⟩, a5⟩, a6⟩, a7⟩
  · rintro ⟨⟨⟨⟨⟨a2, a3⟩, a4⟩, a5⟩, a6⟩, a7⟩
    exact ⟨⟨⟨⟨⟨⟨hk, a2⟩, by omega⟩, a4⟩, a5⟩, a6⟩, a7⟩
theorem cutOk_none {s : ByteArray} (h : Lib.indexByte s.data.toList 64 < 0) : CutOk s s ⟨#[]⟩ false := by
  refine ⟨Nat.le_refl _, Nat.zero_le _, ?_⟩
  have hn : ¬ nodeLen (bs s) < s.size := by
    rw [bs_data', Lib.size_eq]
    rcases index_len s.data.toList with ⟨h1, h2⟩ | ⟨h1, _⟩
    · omega
    · omega
  unfold nodeOk nodeOkL
  rw [bs_len]
  simp [hn]
theorem strings_Cut_at (s : ByteArray) (hm : s.size ≤ 140737488351232) (w : World) :
    Calls Tryz.prog 182 #[.string s, .string ⟨#[64]⟩] w fun e w' => (∃ N H ok, e = .returned (.tuple #[.string N, .string H, .bool ok]) ∧ CutOk s N H ok) ∧ Below w.heap.size w w' := by
  have HC := Lib.hid (cut_one s 64 hm)
  go_enter Tryz.func182, Tryz.ntmps182
  go_wp2_with fail
  refine (HC.out _).mono ?_
  rintro e w1 ⟨⟨k, h⟩, hB⟩
  have HB := Lib.hid hB
  clear hB
  rcases h with ⟨h1, h2, rfl⟩ | ⟨h1, rfl⟩
  · have HO := Lib.hid (cutOk_some h1 h2)
    clear h1 h2
    go_wp2_with fail
    go_ret3
    exact ⟨⟨_, _, _, rfl, HO.out⟩, HB.out⟩
  · have HO := Lib.hid (cutOk_none h1)
    clear h1
    go_wp2_with fail
    go_ret3
    exact ⟨⟨_, _, _, rfl, HO.out⟩, HB.out⟩

/-! ### atom.Node -/
def NodePost (w : World) (l : List Lk) (e : Ending) (w' : World) : Prop := ∃ (r1 r2 : ByteArray) (v : Value), e = .returned (.tuple #[.string r1, .string r2, v]) ∧ ErrIs w' l v ∧ Below w.heap.size w w'
def nodeHead (s N H : ByteArray) (ok : Bool) : Bool := ok && decide (0 < N.size) && decide (0 < H.size) && decide (s.size ≤ 64) && !decide (0 ≤ Lib.indexByte H.data.toList 64)
set_option maxRecDepth 100000 in
set_option maxHeartbeats 8000000 in
theorem atom_Node (s : ByteArray) (hm : s.size ≤ 140737488351232) (w : World) :
    Calls Tryz.prog 135 #[.string s] w (NodePost w (nodeBad s)) := by
  have HC := Lib.hid (strings_Cut_at s hm)
  obtain ⟨F2, hF2⟩ : ∃ F, F = nodeBad s := ⟨_, rfl⟩
  rw [← hF2]
  have HF2 := Lib.hid hF2
  clear hF2
  go_enter Tryz.func135, Tryz.ntmps135
  go_wp2_with fail
  refine (HC.out _).mono ?_
  rintro e w1 ⟨⟨N, H, ok, rfl, hO⟩, hB⟩
  have HO := Lib.hid hO
  have HB := Lib.hid hB
  have HCO := Lib.hid (Tryz.strings_Contains_one H 64)
  clear hO hB
  obtain ⟨g0, hg0⟩ : ∃ g, g = nodeHead s N H ok := ⟨_, rfl⟩
  have HG := Lib.hid hg0
  clear hg0
  go_upto_region 2 with (fail)
  go_cut [8] from 13 (fun v8 w' => v8 = .bool g0 ∧ w' = w1)
  case first =>
    cases ok with
    | false =>
      go_wp2_with fail
      go_meet
      case rel => exact ⟨by rw [HG.out]; unfold nodeHead; simp [Bool.false_and], rfl⟩
    | true =>
      by_cases hN : N.size = 0
      · have hN1 := isEmpty_of hN
        have hz : Hid (decide (0 < N.size) = false) := Lib.hid (decide_eq_false (by omega))
        clear hN
        go_wp2_with fail
        go_meet
        case rel => exact ⟨by rw [HG.out]; unfold nodeHead; simp [hz.out], rfl⟩
      · have hN1 := isEmpty_not hN
        have hz : Hid (decide (0 < N.size) = true) := Lib.hid (decide_eq_true (by omega))
        clear hN
        by_cases hH : H.size = 0
        · have hH1 := isEmpty_of hH
          have hy : Hid (decide (0 < H.size) = false) := Lib.hid (decide_eq_false (by omega))
          clear hH
          go_wp2_with fail
          go_meet
          case rel => exact ⟨by rw [HG.out]; unfold nodeHead; simp [hy.out], rfl⟩
        · have hH1 := isEmpty_not hH
          have hy : Hid (decide (0 < H.size) = true) := Lib.hid (decide_eq_true (by omega))
          clear hH
          by_cases hs : (s.size : Int) ≤ 64
          · have d3 : decide ((s.size : Int) ≤ 64) = true := decide_eq_true hs
            have hx : Hid (decide (s.size ≤ 64) = true) := Lib.hid (decide_eq_true (by omega))
            clear hs
            go_wp2_with fail
            refine (HCO.out _).mono ?_
            rintro e w' ⟨rfl, rfl⟩
            go_wp2_with fail
            go_meet
            case rel => exact ⟨by rw [HG.out]; unfold nodeHead; rw [hz.out, hy.out, hx.out]; simp, rfl⟩
          · have d3 : decide ((s.size : Int) ≤ 64) = false := decide_eq_false hs
            have hx : Hid (decide (s.size ≤ 64) = false) := Lib.hid (decide_eq_false (by omega))
            clear hs
            go_wp2_with fail
            go_meet
            case rel => exact ⟨by rw [HG.out]; unfold nodeHead; simp [hx.out], rfl⟩
  case rest =>
    obtain ⟨rfl, rfl⟩ := hcut
    have HFIN : Hid (nodeOk s = ((g0 && ((bs N).drop 0).all inName) && ((bs H).drop 0).all inHost)) := Lib.hid (by rw [HG.out, List.drop_zero, List.drop_zero]; exact HO.out.2.2)
    have hNs : N.size ≤ 140737488351232 := Nat.le_trans HO.out.1 hm
    have hHs : H.size ≤ 140737488351232 := Nat.le_trans HO.out.2.1 hm
    clear HG HO HCO
    obtain ⟨F1, hF1⟩ : ∃ F, F = (g0 && ((bs N).drop 0).all inName) := ⟨_, rfl⟩
    rw [← hF1] at HFIN
    have HS1 : Hid ((g0 && ((bs N).drop 0).all inName) = F1) := Lib.hid hF1.symm
    clear hF1
    have kb := fun W => print_bytes (P := Tryz.prog) 9 49 5 Tryz.underlying9 Tryz.underlying49 Tryz.underlying5 N W
    go_wp2_with fail
    clear kb
    have HBC := Lib.hid (bytes_cell wc 5 N)
    obtain ⟨w0, hw0⟩ : ∃ W, W = Lib.bytesWorld wc 5 N := ⟨_, rfl⟩
    have HB0 : Hid (Below w.heap.size w w0) := Lib.hid (by rw [hw0]; exact trans_below HB.out (Lib.bytesWorld_below wc 5 N))
    rw [← hw0] at HBC
    rw [← hw0]
    clear hw0
    generalize wc.heap.size = bb at HBC ⊢
    generalize grownCap _ _ _ _ = cp0
    clear HB
    go_loopg [8, 41] N.size (fun gk v8 vi wl => ∃ (k : Nat) (g : Bool), v8 = .bool g ∧ vi = .int .i64 (k : Int) ∧ gk = N.size - k ∧ k ≤ N.size ∧ Hid ((g && ((bs N).drop k).all inName) = F1) ∧ wl = w0)
    case atStart => exact ⟨0, g0, rfl, rfl, rfl, Nat.zero_le _, HS1, rfl⟩
    case round =>
      clear HS1
      obtain ⟨k, g, rfl, rfl, hgk, hk, HN, rfl⟩ := hrel
      have HK := Lib.hid hgk
      clear hgk
      by_cases hlt : k < N.size
      · have hx0 : (0 : Int) ≤ (k : Int) := by omega
        have hx1 : (k : Int) < (N.size : Int) := by omega
        have hcell := HBC.out k hlt
        have hr := bt_range N (k : Int)
        have hn := HN.out
        clear HN
        rw [bs_drop N k hlt, List.all_cons] at hn
        generalize bt N (k : Int) = c at hcell hr hn
        have HI := Lib.hid (atom_kind c hr.1 hr.2)
        have HN := Lib.hid hn
        clear hn
        cases g with
        | false =>
          rw [Bool.false_and] at HN
          have HN : Hid ((false && ((bs N).drop (k + 1)).all inName) = F1) := Lib.hid HN.out
          go_wp2_with fail
          go_roundg (N.size - (k + 1))
          case measure => rw [HK.out]; omega
          case rel => exact ⟨k + 1, false, rfl, by go_num, rfl, by omega, Lib.hid HN.out, rfl⟩
        | true =>
          rw [Bool.true_and] at HN
          cases hin : isIn c with
          | true =>
            rw [show inName c = true by unfold inName; rw [hin]; rfl, Bool.true_and] at HN
            have HKD : Hid ((kindOf c != 0) = true) := Lib.hid (by rw [kindOf_in, hin])
            have hkd := HKD.out
            generalize kindOf c = kk at HI hkd
            go_wp2_with fail
            refine (HI.out _).mono ?_
            rintro e w' ⟨rfl, rfl⟩
            go_wp2_with fail
            go_roundg (N.size - (k + 1))
            case measure => rw [HK.out]; omega
            case rel => exact ⟨k + 1, true, rfl, by go_num, rfl, by omega, Lib.hid HN.out, rfl⟩
          | false =>
            have HKD : Hid ((kindOf c != 0) = false) := Lib.hid (by rw [kindOf_in, hin])
            by_cases c45 : c = 45
            · have d2 : (c == 45) = true := beq_iff_eq.2 c45
              rw [show inName c = true by unfold inName; rw [hin, d2]; rfl, Bool.true_and] at HN
              clear hin c45
              have hkd := HKD.out
              generalize kindOf c = kk at HI hkd
              go_wp2_with fail
              refine (HI.out _).mono ?_
              rintro e w' ⟨rfl, rfl⟩
              go_wp2_with fail
              go_roundg (N.size - (k + 1))
              case measure => rw [HK.out]; omega
              case rel => exact ⟨k + 1, true, rfl, by go_num, rfl, by omega, Lib.hid HN.out, rfl⟩
            · have d2 : (c == 45) = false := beq_eq_false_iff_ne.2 c45
              rw [show inName c = false by unfold inName; rw [hin, d2]; rfl, Bool.false_and] at HN
              clear hin c45
              have hkd := HKD.out
              generalize kindOf c = kk at HI hkd
              go_wp2_with fail
              refine (HI.out _).mono ?_
              rintro e w' ⟨rfl, rfl⟩
              go_wp2_with fail
              go_roundg (N.size - (k + 1))
              case measure => rw [HK.out]; omega
              case rel => exact ⟨k + 1, false, rfl, by go_num, rfl, by omega, Lib.hid HN.out, rfl⟩
      ·
        have HE1 : Hid (g = F1) := Lib.hid (by have h := HN.out; rw [bs_end N k (by omega), List.all_nil, Bool.and_true] at h; exact h)
        have HS2 : Hid ((g && ((bs H).drop 0).all inHost) = nodeOk s) := Lib.hid (by rw [HE1.out]; exact HFIN.out.symm)
        have d0 : decide (k < N.size) = false := decide_eq_false hlt
        clear HN HK HBC HE1 HFIN hk hlt
        obtain ⟨F3, hF3⟩ : ∃ F, F = nodeOk s := ⟨_, rfl⟩
        rw [← hF3] at HS2
        have HF3 := Lib.hid hF3
        clear hF3
        have kb := fun W => print_bytes (P := Tryz.prog) 9 49 5 Tryz.underlying9 Tryz.underlying49 Tryz.underlying5 H W
        go_wp2_with fail
        clear kb d0
        have HBC := Lib.hid (bytes_cell wr 5 H)
        obtain ⟨w5, hw5⟩ : ∃ W, W = Lib.bytesWorld wr 5 H := ⟨_, rfl⟩
        have HB5 : Hid (Below w.heap.size w w5) := Lib.hid (by rw [hw5]; exact trans_below HB0.out (Lib.bytesWorld_below wr 5 H))
        rw [← hw5] at HBC
        rw [← hw5]
        clear hw5
        generalize wr.heap.size = b2 at HBC ⊢
        generalize grownCap _ _ _ _ = cp1
        clear HB0
        go_loopg [8, 59] H.size (fun gk v8 vi wl => ∃ (k : Nat) (g : Bool), v8 = .bool g ∧ vi = .int .i64 (k : Int) ∧ gk = H.size - k ∧ k ≤ H.size ∧ Hid ((g && ((bs H).drop k).all inHost) = F3) ∧ wl = w5)
        case atStart => exact ⟨0, g, rfl, rfl, rfl, Nat.zero_le _, HS2, rfl⟩
        case round =>
          clear HS2
          obtain ⟨k, g, rfl, rfl, hgk, hk, HN, rfl⟩ := hrel
          have HK := Lib.hid hgk
          clear hgk
          by_cases hlt : k < H.size
          · have hx0 : (0 : Int) ≤ (k : Int) := by omega
            have hx1 : (k : Int) < (H.size : Int) := by omega
            have hcell := HBC.out k hlt
            have hr := bt_range H (k : Int)
            have hn := HN.out
            clear HN
            rw [bs_drop H k hlt, List.all_cons] at hn
            generalize bt H (k : Int) = c at hcell hr hn
            have HI := Lib.hid (atom_kind c hr.1 hr.2)
            have HN := Lib.hid hn
            clear hn
            cases g with
            | false =>
              rw [Bool.false_and] at HN
              have HN : Hid ((false && ((bs H).drop (k + 1)).all inHost) = F3) := Lib.hid HN.out
              go_wp2_with fail
              go_roundg (H.size - (k + 1))
              case measure => rw [HK.out]; omega
              case rel => exact ⟨k + 1, false, rfl, by go_num, rfl, by omega, Lib.hid HN.out, rfl⟩
            | true =>
              rw [Bool.true_and] at HN
              cases hin : isIn c with
              | true =>
                rw [show inHost c = true by unfold inHost; rw [hin]; rfl, Bool.true_and] at HN
                have HKD : Hid ((kindOf c != 0) = true) := Lib.hid (by rw [kindOf_in, hin])
                have hkd := HKD.out
                generalize kindOf c = kk at HI hkd
                go_wp2_with fail
                refine (HI.out _).mono ?_
                rintro e w' ⟨rfl, rfl⟩
                go_wp2_with fail
                go_roundg (H.size - (k + 1))
                case measure => rw [HK.out]; omega
                case rel => exact ⟨k + 1, true, rfl, by go_num, rfl, by omega, Lib.hid HN.out, rfl⟩
              | false =>
                have HKD : Hid ((kindOf c != 0) = false) := Lib.hid (by rw [kindOf_in, hin])
                by_cases c45 : c = 45
                · have d2 : (c == 45) = true := beq_iff_eq.2 c45
                  rw [show inHost c = true by unfold inHost; rw [hin, d2]; rfl, Bool.true_and] at HN
                  clear hin c45
                  have hkd := HKD.out
                  generalize kindOf c = kk at HI hkd
                  go_wp2_with fail
                  refine (HI.out _).mono ?_
                  rintro e w' ⟨rfl, rfl⟩
                  go_wp2_with fail
                  go_roundg (H.size - (k + 1))
                  case measure => rw [HK.out]; omega
                  case rel => exact ⟨k + 1, true, rfl, by go_num, rfl, by omega, Lib.hid HN.out, rfl⟩
                · have d2 : (c == 45) = false := beq_eq_false_iff_ne.2 c45
                  by_cases c46 : c = 46
                  · have d3 : (c == 46) = true := beq_iff_eq.2 c46
                    rw [show inHost c = true by unfold inHost; rw [hin, d2, d3]; rfl, Bool.true_and] at HN
                    clear hin c45 c46
                    have hkd := HKD.out
                    generalize kindOf c = kk at HI hkd
                    go_wp2_with fail
                    refine (HI.out _).mono ?_
                    rintro e w' ⟨rfl, rfl⟩
                    go_wp2_with fail
                    go_roundg (H.size - (k + 1))
                    case measure => rw [HK.out]; omega
                    case rel => exact ⟨k + 1, true, rfl, by go_num, rfl, by omega, Lib.hid HN.out, rfl⟩
                  · have d3 : (c == 46) = false := beq_eq_false_iff_ne.2 c46
                    rw [show inHost c = false by unfold inHost; rw [hin, d2, d3]; rfl, Bool.false_and] at HN
                    clear hin c45 c46
                    have hkd := HKD.out
                    generalize kindOf c = kk at HI hkd
                    go_wp2_with fail
                    refine (HI.out _).mono ?_
                    rintro e w' ⟨rfl, rfl⟩
                    go_wp2_with fail
                    go_roundg (H.size - (k + 1))
                    case measure => rw [HK.out]; omega
                    case rel => exact ⟨k + 1, false, rfl, by go_num, rfl, by omega, Lib.hid HN.out, rfl⟩
          ·
            have hE : g = F3 := by have h := HN.out; rw [bs_end H k (by omega), List.all_nil, Bool.and_true] at h; exact h
            have d0 : decide (k < H.size) = false := decide_eq_false hlt
            clear HN HK HBC hk hlt
            cases hok : nodeOk s with
            | true =>
              have hb : F2 = [] := by rw [HF2.out]; unfold nodeBad; rw [hok]; rfl
              obtain rfl : g = true := by rw [hE, HF3.out, hok]
              have HBB := Lib.hid hb
              clear hb hE hok HF3 HF2
              go_wp2_with fail
              go_ret3
              exact ⟨_, _, _, rfl, by rw [HBB.out]; rfl, HB5.out⟩
            | false =>
              have hb : F2 = [⟨nAtom, 0, 24⟩] := by rw [HF2.out]; unfold nodeBad; rw [hok]; rfl
              obtain rfl : g = false := by rw [hE, HF3.out, hok]
              have HBB := Lib.hid hb
              clear hb hE hok HF3 HF2
              go_wp2_with fail
              refine (atom_refused _ _ _).mono ?_
              rintro e w6 ⟨v6, rfl, hE6, hB6⟩
              have HE6 := Lib.hid hE6
              have HB6 := Lib.hid (trans_below HB5.out hB6)
              clear hE6 hB6
              go_wp2_with fail
              go_ret3
              exact ⟨_, _, _, rfl, by rw [HBB.out]; exact HE6.out, HB6.out⟩
end Go.Proofs.YtgapeacflkfmdaaGreatDoor
