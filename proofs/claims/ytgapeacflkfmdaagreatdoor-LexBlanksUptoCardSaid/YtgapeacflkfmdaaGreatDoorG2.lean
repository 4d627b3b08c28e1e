/-
  Contracts of the small functions on one byte: lex, heddleref10, heddleref01, atom. Plain Lean: a text's bytes as numbers; runs of bytes of a sort; blanks and comments. No program here. lex: the scanner's runs, blanks and comments. UTF-8: the place of the first code point that is none: atom.strange, heddleref01.UTF.
-/
import Derived.Test.YtgapeacflkfmdaaGreatDoorProg
import Derived.WalkKit
import Derived.WalkSpells
import Derived.Lib.Hide
import Derived.Below
import Derived.Test.YtgapeacflkfmdaaGreatDoorG1
import Derived.Lib.Strings
import Derived.Lib.OthersKept
import Derived.Lib.TrimU
import Derived.Lib.RuneCountTail
namespace Go.Proofs.YtgapeacflkfmdaaGreatDoor
open Go.RowKit

def isBlank (c : Int) : Bool := c == 9 || c == 10 || c == 13 || c == 32
def isDigit (c : Int) : Bool := decide (48 ≤ c) && decide (c ≤ 57)
def isSmall (c : Int) : Bool := decide (97 ≤ c) && decide (c ≤ 122)
def isCapital (c : Int) : Bool := decide (65 ≤ c) && decide (c ≤ 90)
def isUpper (c : Int) : Bool := isCapital c || c == 95
def isIn (c : Int) : Bool := isSmall c || isCapital c || isDigit c || c == 95 || c == 64
/-- The value of a digit or letter; 99: none. -/
def valOf (c : Int) : Int := if isDigit c then c - 48 else if isSmall c then c - 97 + 10 else if isCapital c then c - 65 + 10 else 99
/-- The value of a hexadecimal digit; below 0: none. -/
def hexOf (c : Int) : Int := if isDigit c then c - 48 else if decide (97 ≤ c) && decide (c ≤ 102) then c - 97 + 10 else if decide (65 ≤ c) && decide (c ≤ 70) then c - 65 + 10 else -1
/-- What a byte is for atoms: 1 small, 2 great, 3 digit, 4 under, 0 other. -/
def kindOf (c : Int) : Int := if isSmall c then 1 else if isCapital c then 2 else if isDigit c then 3 else if c == 95 || c == 64 then 4 else 0

theorem eb {a b : Bool} (h : a = b) : Ending.returned (.bool a) = Ending.returned (.bool b) := by rw [h]
theorem ei {k : IntKind} {a b : Int} (h : a = b) : Ending.returned (.int k a) = Ending.returned (.int k b) := by rw [h]

theorem lex_blank (c : Int) (w : World) : Calls Tryz.prog 125 #[.int .u8 c] w fun e w' => e = .returned (.bool (isBlank c)) ∧ w = w' := by
  unfold isBlank
  go_enter Tryz.func125, Tryz.ntmps125
  go_wp2
  all_goals go_ret
  all_goals refine ⟨eb ?_, rfl⟩
  all_goals first | (simp_all; done) | (simp_all; omega) | (rw [Bool.eq_iff_iff]; simp; omega)
theorem lex_digit (c : Int) (w : World) : Calls Tryz.prog 117 #[.int .u8 c] w fun e w' => e = .returned (.bool (isDigit c)) ∧ w = w' := by
  unfold isDigit
  go_enter Tryz.func117, Tryz.ntmps117
  go_wp2
  all_goals go_ret
  all_goals refine ⟨eb ?_, rfl⟩
  all_goals first | (simp_all; done) | (simp_all; omega) | (rw [Bool.eq_iff_iff]; simp; omega)
theorem lex_small (c : Int) (w : World) : Calls Tryz.prog 116 #[.int .u8 c] w fun e w' => e = .returned (.bool (isSmall c)) ∧ w = w' := by
  unfold isSmall
  go_enter Tryz.func116, Tryz.ntmps116
  go_wp2
  all_goals go_ret
  all_goals refine ⟨eb ?_, rfl⟩
  all_goals first | (simp_all; done) | (simp_all; omega) | (rw [Bool.eq_iff_iff]; simp; omega)
theorem ref01_Small (c : Int) (w : World) : Calls Tryz.prog 176 #[.int .u8 c] w fun e w' => e = .returned (.bool (isSmall c)) ∧ w = w' := by
  unfold isSmall
  go_enter Tryz.func176, Tryz.ntmps176
  go_wp2
  all_goals go_ret
  all_goals refine ⟨eb ?_, rfl⟩
  all_goals first | (simp_all; done) | (simp_all; omega) | (rw [Bool.eq_iff_iff]; simp; omega)
theorem lex_capital (c : Int) (w : World) : Calls Tryz.prog 62 #[.int .u8 c] w fun e w' => e = .returned (.bool (isCapital c)) ∧ w = w' := by
  unfold isCapital
  go_enter Tryz.func62, Tryz.ntmps62
  go_wp2
  all_goals go_ret
  all_goals refine ⟨eb ?_, rfl⟩
  all_goals first | (simp_all; done) | (simp_all; omega) | (rw [Bool.eq_iff_iff]; simp; omega)
theorem ref10_upper (c : Int) (w : World) : Calls Tryz.prog 71 #[.int .u8 c] w fun e w' => e = .returned (.bool (isUpper c)) ∧ w = w' := by
  unfold isUpper isCapital
  go_enter Tryz.func71, Tryz.ntmps71
  go_wp2
  all_goals go_ret
  all_goals refine ⟨eb ?_, rfl⟩
  all_goals first | (simp_all; done) | (simp_all; omega) | (rw [Bool.eq_iff_iff]; simp; omega)
theorem lex_inWord (c : Int) (w : World) : Calls Tryz.prog 63 #[.int .u8 c] w fun e w' => e = .returned (.bool (isIn c)) ∧ w = w' := by
  unfold isIn isSmall isCapital isDigit
  go_enter Tryz.func63, Tryz.ntmps63
  go_wp2
  all_goals go_ret
  all_goals refine ⟨eb ?_, rfl⟩
  all_goals first | (simp_all; done) | (simp_all; omega) | (rw [Bool.eq_iff_iff]; simp; omega)
theorem ref01_InWord (c : Int) (w : World) : Calls Tryz.prog 124 #[.int .u8 c] w fun e w' => e = .returned (.bool (isIn c)) ∧ w = w' := by
  unfold isIn isSmall isCapital isDigit
  go_enter Tryz.func124, Tryz.ntmps124
  go_wp2
  all_goals go_ret
  all_goals refine ⟨eb ?_, rfl⟩
  all_goals first | (simp_all; done) | (simp_all; omega) | (rw [Bool.eq_iff_iff]; simp; omega)
theorem ref01_digit (c : Int) (h0 : 0 ≤ c) (h1 : c ≤ 255) (w : World) : Calls Tryz.prog 230 #[.int .u8 c] w fun e w' => e = .returned (.int .i64 (hexOf c)) ∧ w = w' := by
  unfold hexOf isDigit
  go_enter Tryz.func230, Tryz.ntmps230
  go_wp2
  all_goals go_ret
  all_goals refine ⟨ei ?_, rfl⟩
  all_goals try (simp_all; done)
  all_goals first | omega | (simp only [Bool.and_eq_true, decide_eq_true_eq]; (repeat' split) <;> omega) | (repeat' split) <;> simp_all <;> omega
theorem atom_nibble (c : Int) (h0 : 0 ≤ c) (h1 : c ≤ 255) (w : World) : Calls Tryz.prog 223 #[.int .u8 c] w fun e w' => e = .returned (.int .i64 (hexOf c)) ∧ w = w' := by
  unfold hexOf isDigit
  go_enter Tryz.func223, Tryz.ntmps223
  go_wp2
  all_goals go_ret
  all_goals refine ⟨ei ?_, rfl⟩
  all_goals try (simp_all; done)
  all_goals first | omega | (simp only [Bool.and_eq_true, decide_eq_true_eq]; (repeat' split) <;> omega) | (repeat' split) <;> simp_all <;> omega
theorem atom_kind (c : Int) (h0 : 0 ≤ c) (h1 : c ≤ 255) (w : World) : Calls Tryz.prog 167 #[.int .u8 c] w fun e w' => e = .returned (.int .i64 (kindOf c)) ∧ w = w' := by
  unfold kindOf isSmall isCapital isDigit
  go_enter Tryz.func167, Tryz.ntmps167
  go_wp2
  all_goals go_ret
  all_goals refine ⟨ei ?_, rfl⟩
  all_goals try (simp_all; done)
  all_goals first | omega | (simp only [Bool.and_eq_true, decide_eq_true_eq]; (repeat' split) <;> omega) | (repeat' split) <;> simp_all <;> omega
end Go.Proofs.YtgapeacflkfmdaaGreatDoor
namespace Go.Proofs.YtgapeacflkfmdaaGreatDoor
open Go.RowKit Go.Proofs.YtgapeacflkfmdaaGreatDoorW.PrintWords

/-- A text's bytes. -/
abbrev bs (s : ByteArray) : List Int := bytesOf s
theorem bs_len (s : ByteArray) : (bs s).length = s.size := bytesOf_length s
theorem btk (s : ByteArray) (k : Nat) : ∀ h : k < s.size, ((s[k]'h).toNat : Int) = bt s (k : Int) := by
  simpa using bt_at s (k : Int)
theorem bs_get (s : ByteArray) (k : Nat) (h : k < s.size) : (bs s)[k]'(by rw [bs_len]; exact h) = bt s (k : Int) := by
  rw [← btk s k h]
  unfold bs bytesOf
  simp
  rfl
theorem bs_drop (s : ByteArray) (k : Nat) (h : k < s.size) : (bs s).drop k = bt s (k : Int) :: (bs s).drop (k + 1) := by
  rw [List.drop_eq_getElem_cons (by rw [bs_len]; exact h), bs_get s k h]
theorem bs_end (s : ByteArray) (k : Nat) (h : s.size ≤ k) : (bs s).drop k = [] := List.drop_eq_nil_of_le (by rw [bs_len]; exact h)

theorem toList_nil {s : ByteArray} (h : s.size = 0) : s.toList = [] := by
  rw [Lib.toList_data]
  exact List.eq_nil_of_length_eq_zero (by have := Lib.size_eq s; omega)
theorem isEmpty_of {s : ByteArray} (h : s.size = 0) : s.toList.isEmpty = true := by rw [toList_nil h]; rfl
theorem isEmpty_not {s : ByteArray} (h : s.size ≠ 0) : s.toList.isEmpty = false := by
  rw [List.isEmpty_eq_false_iff]
  intro he
  rw [Lib.toList_data] at he
  have := Lib.size_eq s
  rw [he] at this
  exact h this

/-- How many bytes of a sort stand ahead. -/
def tw (p : Int → Bool) (l : List Int) : Nat := (l.takeWhile p).length
theorem tw_nil (p : Int → Bool) : tw p [] = 0 := rfl
theorem tw_yes {p : Int → Bool} {c : Int} {l : List Int} (h : p c = true) : tw p (c :: l) = tw p l + 1 := by simp [tw, h]
theorem tw_no {p : Int → Bool} {c : Int} {l : List Int} (h : p c = false) : tw p (c :: l) = 0 := by simp [tw, h]
theorem tw_le (p : Int → Bool) (l : List Int) : tw p l ≤ l.length := (List.takeWhile_sublist _).length_le
/-- Where the run ends that begins at k. -/
def runEnd (p : Int → Bool) (s : ByteArray) (k : Nat) : Nat := k + tw p ((bs s).drop k)
theorem runEnd_yes {p : Int → Bool} {s : ByteArray} {k : Nat} (h : k < s.size) (hp : p (bt s (k : Int)) = true) : runEnd p s (k + 1) = runEnd p s k := by
  unfold runEnd
  rw [bs_drop s k h, tw_yes hp]
  omega
theorem runEnd_no {p : Int → Bool} {s : ByteArray} {k : Nat} (h : k < s.size) (hp : p (bt s (k : Int)) = false) : runEnd p s k = k := by
  unfold runEnd
  rw [bs_drop s k h, tw_no hp]
  rfl
theorem runEnd_out {p : Int → Bool} {s : ByteArray} {k : Nat} (h : s.size ≤ k) : runEnd p s k = k := by
  unfold runEnd
  rw [bs_end s k h, tw_nil]
  rfl
theorem runEnd_ge (p : Int → Bool) (s : ByteArray) (k : Nat) : k ≤ runEnd p s k := Nat.le_add_right _ _
theorem runEnd_le (p : Int → Bool) (s : ByteArray) (k : Nat) (h : k ≤ s.size) : runEnd p s k ≤ s.size := by
  unfold runEnd
  have := tw_le p ((bs s).drop k)
  rw [List.length_drop, bs_len] at this
  omega
end Go.Proofs.YtgapeacflkfmdaaGreatDoor
namespace Go.Proofs.YtgapeacflkfmdaaGreatDoor
open Go.RowKit Go.Proofs.YtgapeacflkfmdaaGreatDoorW.PrintWords

def nLex : ByteArray := ⟨#[108, 101, 120]⟩
def nAtom : ByteArray := ⟨#[97, 116, 111, 109]⟩
/-- A call that hands back an error value alone. -/
def ErrPost (w : World) (l : List Lk) (e : Ending) (w' : World) : Prop := ∃ v, e = .returned v ∧ ErrIs w' l v ∧ Below w.heap.size w w'

theorem errOf_new (w : World) (x : Lk) (l : List Lk) (u : Value) (h : ErrIs w l u) :
    ErrIs (w.alloc (.cells #[.string x.ly, .int .i64 x.pl, .int .i64 x.co, u] 129)) (x :: l) (.iface 125 (.pointer (some ⟨w.heap.size, 0, none⟩))) :=
  ⟨w.heap.size, u, rfl, by simp, by simp, by simp, by simp, h.below (below_alloc (Below.refl _ _) _)⟩

theorem lex_fault (at_ code : Int) (u : Value) (w : World) (l : List Lk) (h : ErrIs w l u) :
    Calls Tryz.prog 60 #[.int .i64 at_, .int .i64 code, u] w (ErrPost w (⟨nLex, at_, code⟩ :: l)) := by
  have H : Hid (ErrPost w (⟨nLex, at_, code⟩ :: l) (.returned (.iface 125 (.pointer (some ⟨w.heap.size, 0, none⟩)))) (w.alloc (.cells #[.string ⟨#[108, 101, 120]⟩, .int .i64 at_, .int .i64 code, u] 129))) :=
    Lib.hid ⟨_, rfl, errOf_new w ⟨nLex, at_, code⟩ l u h, below_alloc (Below.refl _ _) _⟩
  have hs := h.shape
  clear h
  rcases hs with rfl | ⟨b, rfl⟩
  · go_enter Tryz.func60, Tryz.ntmps60
    go_wp2_with fail
    go_ret
    exact H.out
  · go_enter Tryz.func60, Tryz.ntmps60
    go_wp2_with fail
    go_ret
    exact H.out

theorem atom_refused (at_ code : Int) (w : World) :
    Calls Tryz.prog 113 #[.int .i64 at_, .int .i64 code] w (ErrPost w [⟨nAtom, at_, code⟩]) := by
  have H : Hid (ErrPost w [⟨nAtom, at_, code⟩] (.returned (.iface 125 (.pointer (some ⟨w.heap.size, 0, none⟩)))) (w.alloc (.cells #[.string ⟨#[97, 116, 111, 109]⟩, .int .i64 at_, .int .i64 code, .nilIface] 129))) :=
    Lib.hid ⟨_, rfl, errOf_new w ⟨nAtom, at_, code⟩ [] _ rfl, below_alloc (Below.refl _ _) _⟩
  go_enter Tryz.func113, Tryz.ntmps113
  go_wp2_with fail
  go_ret
  exact H.out

/-- A call of a function that has a Go body: it is entered. -/
theorem callFunc_in {P : Program} {f : FuncId} {fn : Func} {c : Code} (hf : P.funcs[f]? = some fn) (hname : (fn.name == "runtime.NumGoroutine") = false) (hb : fn.body = some c) (args : Array Value) (w : World) :
    (callFunc f args).run P w = .ok (.enter f args) w := by
  have h1 : fn.name ≠ "runtime.NumGoroutine" := by simpa using hname
  simp [callFunc, hf, h1, hb]

set_option maxRecDepth 100000 in
theorem run_any (F : Nat) (p : Int → Bool) (hE : ∀ (x : Array Value) (w : World), (callFunc F x).run Tryz.prog w = .ok (.enter F x) w) (hF : ∀ (c : Int) (w : World), Calls Tryz.prog F #[.int .u8 c] w fun e w' => e = .returned (.bool (p c)) ∧ w = w') (b : Nat) (s : ByteArray) (k0 : Nat) (h0 : k0 ≤ s.size) (hm : s.size ≤ 140737488351232) (w : World) (hs : w.cell? ⟨b, 0, none⟩ = some (.string s)) :
    Calls Tryz.prog 126 #[.pointer (some ⟨b, 0, none⟩), .int .i64 (k0 : Int), .func (.func F) #[] #[]] w fun e w' => e = .returned (.int .i64 (runEnd p s k0 : Nat)) ∧ w = w' := by
  have HF := Lib.hid hF
  clear hF
  go_enter Tryz.func126, Tryz.ntmps126
  go_wp2_with fail
  go_loop [1] (fun i => ∃ k : Nat, i = .int .i64 (k : Int) ∧ k ≤ s.size ∧ Hid (runEnd p s k = runEnd p s k0)) (fun i => s.size - (intOf i).toNat)
  case atStart => exact ⟨k0, rfl, h0, rfl⟩
  case round =>
    obtain ⟨k, rfl, hk, HR⟩ := hrel
    by_cases hlt : k < s.size
    · have hb := btk s k
      by_cases hp : p (bt s (k : Int)) = true
      · have HN : Hid (runEnd p s (k + 1) = runEnd p s k0) := Lib.hid ((runEnd_yes hlt hp).trans HR.out)
        go_wp2_with fail
        refine (HF.out _ _).mono ?_
        rintro e w' ⟨rfl, rfl⟩
        go_wp2_with fail
        go_round
        case rel => exact ⟨k + 1, by go_num, by omega, HN.out⟩
        case measure => simp [intOf]; omega
      · have hp' : p (bt s (k : Int)) = false := by simpa using hp
        have HN : Hid (runEnd p s k0 = k) := Lib.hid (HR.out.symm.trans (runEnd_no hlt hp'))
        clear hp
        go_wp2_with fail
        refine (HF.out _ _).mono ?_
        rintro e w' ⟨rfl, rfl⟩
        go_wp2_with fail
        go_ret
        exact ⟨by rw [HN.out]; rfl, rfl⟩
    · have HN : Hid (runEnd p s k0 = k) := Lib.hid (HR.out.symm.trans (runEnd_out (by omega)))
      go_wp2_with fail
      go_ret
      exact ⟨by rw [HN.out]; rfl, rfl⟩

theorem skip_1 (c : Int) (w : World) : Calls Tryz.prog 127 #[.int .u8 c] w fun e w' => e = .returned (.bool (c != 10)) ∧ w = w' := by
  go_enter Tryz.func127, Tryz.ntmps127
  go_wp2
  go_ret
  exact ⟨rfl, rfl⟩
def isAlnum (c : Int) : Bool := isDigit c || isSmall c || isCapital c
theorem number_1 (c : Int) (w : World) : Calls Tryz.prog 178 #[.int .u8 c] w fun e w' => e = .returned (.bool (isAlnum c)) ∧ w = w' := by
  unfold isAlnum isDigit isSmall isCapital
  go_enter Tryz.func178, Tryz.ntmps178
  go_wp2
  all_goals go_ret
  all_goals refine ⟨eb ?_, rfl⟩
  all_goals first | (simp_all; done) | (simp_all; omega) | (rw [Bool.eq_iff_iff]; simp; omega)

def RunSays (F : Nat) (p : Int → Bool) : Prop := ∀ (b : Nat) (s : ByteArray) (k0 : Nat) (_ : k0 ≤ s.size) (_ : s.size ≤ 140737488351232) (w : World) (_ : w.cell? ⟨b, 0, none⟩ = some (.string s)),
    Calls Tryz.prog 126 #[.pointer (some ⟨b, 0, none⟩), .int .i64 (k0 : Int), .func (.func F) #[] #[]] w fun e w' => e = .returned (.int .i64 (runEnd p s k0 : Nat)) ∧ w = w'
theorem run_inWord : RunSays 63 isIn := run_any _ _ (callFunc_in Tryz.func63 (by kernel_rfl) rfl) lex_inWord
theorem run_skip : RunSays 127 (· != 10) := run_any _ _ (callFunc_in Tryz.func127 (by kernel_rfl) rfl) skip_1
theorem run_digit : RunSays 117 isDigit := run_any _ _ (callFunc_in Tryz.func117 (by kernel_rfl) rfl) lex_digit
theorem run_alnum : RunSays 178 isAlnum := run_any _ _ (callFunc_in Tryz.func178 (by kernel_rfl) rfl) number_1

/-! ### blanks and comments -/
/-- Where the next token begins: behind blanks and comments. -/
def skipEnd (s : ByteArray) (k : Nat) : Nat :=
  if h : k < s.size then
    if isBlank (bt s (k : Int)) then skipEnd s (k + 1)
    else if bt s (k : Int) = 37 then skipEnd s (max (runEnd (· != 10) s k) (k + 1))
    else k
  else k
  termination_by s.size - k
  decreasing_by all_goals omega
theorem skipEnd_out {s : ByteArray} {k : Nat} (h : s.size ≤ k) : skipEnd s k = k := by rw [skipEnd, dif_neg (by omega)]
theorem skipEnd_blank {s : ByteArray} {k : Nat} (h : k < s.size) (hb : isBlank (bt s (k : Int)) = true) : skipEnd s (k + 1) = skipEnd s k := by
  rw [skipEnd.eq_def s k, dif_pos h, if_pos hb]
theorem skipEnd_rem {s : ByteArray} {k : Nat} (h : k < s.size) (hb : bt s (k : Int) = 37) : skipEnd s (runEnd (· != 10) s k) = skipEnd s k := by
  have h1 : runEnd (· != 10) s k = runEnd (· != 10) s (k + 1) := (runEnd_yes h (by rw [hb]; rfl)).symm
  have h2 := runEnd_ge (· != 10) s (k + 1)
  rw [skipEnd.eq_def s k, dif_pos h, if_neg (by rw [hb]; decide), if_pos hb, Nat.max_eq_left (by omega)]
theorem skipEnd_stop {s : ByteArray} {k : Nat} (h : k < s.size) (hb : isBlank (bt s (k : Int)) = false) (hr : bt s (k : Int) ≠ 37) : skipEnd s k = k := by
  rw [skipEnd, dif_pos h, if_neg (by simp [hb]), if_neg hr]
theorem skipEnd_ge (s : ByteArray) (k : Nat) : k ≤ skipEnd s k := by
  induction k using skipEnd.induct (s := s) with
  | case1 k h hb ih => rw [skipEnd, dif_pos h, if_pos hb]; omega
  | case2 k h hb hr ih => rw [skipEnd, dif_pos h, if_neg hb, if_pos hr]; omega
  | case3 k h hb hr => rw [skipEnd, dif_pos h, if_neg hb, if_neg hr]; omega
  | case4 k h => rw [skipEnd, dif_neg h]; omega
theorem skipEnd_le (s : ByteArray) (k : Nat) (hk : k ≤ s.size) : skipEnd s k ≤ s.size := by
  induction k using skipEnd.induct (s := s) with
  | case1 k h hb ih => rw [skipEnd, dif_pos h, if_pos hb]; exact ih (by omega)
  | case2 k h hb hr ih => rw [skipEnd, dif_pos h, if_neg hb, if_pos hr]; exact ih (by have := runEnd_le (· != 10) s k (by omega); omega)
  | case3 k h hb hr => rw [skipEnd, dif_pos h, if_neg hb, if_neg hr]; exact hk
  | case4 k h => rw [skipEnd, dif_neg h]; exact hk

/-- A scanner in a block: its text and its place. -/
def ScanAt (W : World) (b : Nat) (s : ByteArray) (k : Nat) : Prop := W.cell? ⟨b, 0, none⟩ = some (.string s) ∧ W.cell? ⟨b, 1, none⟩ = some (.int .i64 (k : Int)) ∧ W.frozen? ⟨b, 1, none⟩ = false
theorem ScanAt.lt {W : World} {b : Nat} {s : ByteArray} {k : Nat} (h : ScanAt W b s k) : b < W.heap.size := World.block_lt_of_cell? W _ h.1
theorem ScanAt.drewN {W : World} {b : Nat} {s : ByteArray} {k : Nat} (h : ScanAt W b s k) (m : Nat) : ScanAt (W.drewN m) b s k := h
theorem ScanAt.set {W : World} {b : Nat} {s : ByteArray} {k : Nat} (h : ScanAt W b s k) (j : Int) (n : Nat) (hj : j = (n : Int)) : ScanAt (W.setCell ⟨b, 1, none⟩ (.int .i64 j)) b s n := by
  subst hj
  exact ⟨(World.cell?_setCell_other _ _ _ _ (by simp)).trans h.1, World.cell?_setCell_same _ _ _ h.2.1, by rw [World.frozen?_setCell]; exact h.2.2⟩
theorem grown_set (W : World) (b o : Nat) (v : Value) : W.grownBy (W.setCell ⟨b, o, none⟩ v) (some b) := ⟨rfl, rfl, rfl, by simp [World.setCell], fun k _ hne => Below.heap_setCell _ _ _ _ (fun e => hne (by simp [e]))⟩
theorem grown_drewN (W : World) (m : Nat) (r : Option Nat) : W.grownBy (W.drewN m) r := ⟨rfl, rfl, rfl, Nat.le_refl _, fun _ _ _ => rfl⟩
/-- The scanner in block b stands at k now; nothing else has turned. -/
def MovedTo (W : World) (b : Nat) (s : ByteArray) (k : Nat) (W' : World) : Prop := W.grownBy W' (some b) ∧ ScanAt W' b s k
def SkipPost (W : World) (b : Nat) (s : ByteArray) (k : Nat) (e : Ending) (w' : World) : Prop := e = .returned (.tuple #[]) ∧ MovedTo W b s k w'

set_option maxRecDepth 100000 in
set_option maxHeartbeats 1000000 in
theorem skip_any (b : Nat) (s : ByteArray) (k0 : Nat) (h0 : k0 ≤ s.size) (hm : s.size ≤ 140737488351232) (w : World) (hS : ScanAt w b s k0) :
    Calls Tryz.prog 75 #[.pointer (some ⟨b, 0, none⟩)] w (SkipPost w b s (skipEnd s k0)) := by
  go_enter Tryz.func75, Tryz.ntmps75
  go_wp2_with fail
  go_loopg [] (s.size - k0) (fun gk wl => ∃ k : Nat, k ≤ s.size ∧ gk = s.size - k ∧ Hid (skipEnd s k = skipEnd s k0) ∧ MovedTo w b s k wl)
  case atStart => exact ⟨k0, h0, rfl, rfl, World.grownBy.refl _ _, hS⟩
  case round =>
    clear hS
    obtain ⟨k, hk, hgk, HR, hM, hS⟩ := hrel
    have HS := Lib.hid hS
    have HM := Lib.hid hM
    have HK := Lib.hid hgk
    clear hM hgk
    obtain ⟨hs, ha, hf⟩ := hS
    have e1 : (0 : Int) ≤ (k : Int) := by omega
    by_cases hlt : k < s.size
    · have e2 : (k : Int) < (s.size : Int) := by omega
      have hb := btk s k
      have hr := bt_range s (k : Int)
      by_cases hbl : isBlank (bt s (k : Int)) = true
      · have HN : Hid (skipEnd s (k + 1) = skipEnd s k0) := Lib.hid ((skipEnd_blank hlt hbl).trans HR.out)
        go_wp2_with fail
        go_quiet (fail)
        go_wp2_with fail
        go_quiet (fail)
        go_wp2_with fail
        refine (lex_blank _ _).mono ?_
        rintro e w' ⟨rfl, rfl⟩
        go_wp2_with fail
        go_roundg (s.size - (k + 1))
        case measure => rw [HK.out]; omega
        case rel => exact ⟨k + 1, by omega, rfl, HN.out, HM.out.trans ((grown_drewN _ _ _).trans (grown_set _ _ _ _)), (HS.out.drewN _).set _ (k + 1) (by omega)⟩
      · have hbl' : isBlank (bt s (k : Int)) = false := by simpa using hbl
        clear hbl
        by_cases hc : bt s (k : Int) = 37
        · have hge := runEnd_ge (· != 10) s k
          have hle := runEnd_le (· != 10) s k hk
          have hgt : k < runEnd (· != 10) s k := by
            have h1 : runEnd (· != 10) s (k + 1) = runEnd (· != 10) s k := runEnd_yes hlt (by rw [hc]; rfl)
            have := runEnd_ge (· != 10) s (k + 1)
            omega
          have HN : Hid (skipEnd s (runEnd (· != 10) s k) = skipEnd s k0) := Lib.hid ((skipEnd_rem hlt hc).trans HR.out)
          have hcb : (bt s (k : Int) == 37) = true := beq_iff_eq.2 hc
          clear hc
          go_wp2_with fail
          go_quiet (fail)
          go_wp2_with fail
          go_quiet (fail)
          go_wp2_with fail
          refine (lex_blank _ _).mono ?_
          rintro e w' ⟨rfl, rfl⟩
          go_wp2_with fail
          refine (run_skip b s k hk hm (wr.drewN _) hs).mono ?_
          rintro e w' ⟨rfl, rfl⟩
          go_wp2_with fail
          go_roundg (s.size - runEnd (· != 10) s k)
          case measure => rw [HK.out]; omega
          case rel => exact ⟨runEnd (· != 10) s k, hle, rfl, HN.out, HM.out.trans ((grown_drewN _ _ _).trans (grown_set _ _ _ _)), (HS.out.drewN _).set _ _ rfl⟩
        · have HN : Hid (skipEnd s k0 = k) := Lib.hid (HR.out.symm.trans (skipEnd_stop hlt hbl' hc))
          have hcb : (bt s (k : Int) == 37) = false := beq_eq_false_iff_ne.2 hc
          clear hc
          go_wp2_with fail
          go_quiet (fail)
          go_wp2_with fail
          go_quiet (fail)
          go_wp2_with fail
          refine (lex_blank _ _).mono ?_
          rintro e w' ⟨rfl, rfl⟩
          go_wp2_with fail
          go_end0
          exact ⟨rfl, by rw [HN.out]; exact ⟨HM.out.trans (grown_drewN _ _ _), HS.out.drewN _⟩⟩
    · have HN : Hid (skipEnd s k0 = k) := Lib.hid (HR.out.symm.trans (skipEnd_out (by omega)))
      have e2 : ¬ (k : Int) < (s.size : Int) := by omega
      go_wp2_with fail
      go_quiet (fail)
      go_wp2_with fail
      go_end0
      exact ⟨rfl, by rw [HN.out]; exact ⟨HM.out.trans (grown_drewN _ _ _), HS.out.drewN _⟩⟩
end Go.Proofs.YtgapeacflkfmdaaGreatDoor
namespace Go.Proofs.YtgapeacflkfmdaaGreatDoor
open Go.RowKit Go.Proofs.YtgapeacflkfmdaaGreatDoorW.PrintWords

/-- The place of the first code point that is none, from k on; -1: there is none. -/
def utfBad (s : ByteArray) (k : Nat) : Int :=
  if h : k < s.size then if Utf8.decode s k = (65533, 1) then (k : Int) else utfBad s (k + (Utf8.decode s k).2)
  else -1
  termination_by s.size - k
  decreasing_by have := Lib.width_pos s k; omega
theorem utfBad_out {s : ByteArray} {k : Nat} (h : s.size ≤ k) : utfBad s k = -1 := by rw [utfBad, dif_neg (by omega)]
theorem utfBad_here {s : ByteArray} {k : Nat} (h : k < s.size) (hd : Utf8.decode s k = (65533, 1)) : utfBad s k = (k : Int) := by rw [utfBad, dif_pos h, if_pos hd]
theorem utfBad_on {s : ByteArray} {k : Nat} (h : k < s.size) (hd : Utf8.decode s k ≠ (65533, 1)) : utfBad s (k + (Utf8.decode s k).2) = utfBad s k := by rw [utfBad.eq_def s k, dif_pos h, if_neg hd]
theorem utfBad_range (s : ByteArray) (k : Nat) : utfBad s k = -1 ∨ (0 ≤ utfBad s k ∧ utfBad s k < s.size) := by
  induction k using utfBad.induct (s := s) with
  | case1 k h hd => rw [utfBad_here h hd]; omega
  | case2 k h hd ih => rw [← utfBad_on h hd]; exact ih
  | case3 k h => rw [utfBad_out (by omega)]; omega

def IntPost (w : World) (n : Int) (e : Ending) (w' : World) : Prop := e = .returned (.int .i64 n) ∧ Below w.heap.size w w'

set_option maxRecDepth 100000 in
set_option maxHeartbeats 1000000 in
theorem strange_any (s : ByteArray) (w : World) (hG : Glob w) :
    Calls Tryz.prog 114 #[.string s] w (IntPost w (utfBad s 0)) := by
  have HG := Lib.hid hG
  clear hG
  go_enter Tryz.func114, Tryz.ntmps114
  go_wp2_with fail
  go_loopg [] s.size (fun gk wl => ∃ pos : Nat, gk = s.size - pos ∧ wl.heap[w.heap.size]? = some (.stringIter s pos) ∧ Hid (Below w.heap.size w wl) ∧ Hid (utfBad s pos = utfBad s 0))
  case atStart => exact ⟨0, rfl, heap_alloc_new w _, below_alloc (Below.refl _ _) _, rfl⟩
  case round =>
    obtain ⟨pos, hgk, hit, HB, HU⟩ := hrel
    have HK := Lib.hid hgk
    clear hgk
    by_cases hlt : pos < s.size
    · have hnx := fun ty => Lib.run_next_any_at (P := Tryz.prog) wr w.heap.size s pos ty hit hlt
      have hw1 := Lib.width_pos s pos
      have hsz : w.heap.size < wr.heap.size := (Array.getElem?_eq_some_iff.1 hit).1
      have HI := Lib.hid hit
      have HB2 : Hid (Below w.heap.size w (wr.iterAt w.heap.size s (pos + (Utf8.decode s pos).2))) := Lib.hid (Lib.below_iterAt HB.out (Nat.le_refl _) _ _)
      have HI2 : Hid ((wr.iterAt w.heap.size s (pos + (Utf8.decode s pos).2)).heap[w.heap.size]? = some (.stringIter s (pos + (Utf8.decode s pos).2))) := Lib.hid (Lib.iterAt_heap wr _ s pos _ hit)
      clear hit
      by_cases hd : (Utf8.decode s pos).1 = 65533
      · have hcb : (((Utf8.decode s pos).1 : Int) == 65533) = true := beq_iff_eq.2 (by omega)
        have HD := Lib.hid hd
        clear hd
        have hx1 : (pos : Int) < (s.size : Int) := by omega
        have hx0 : (0 : Int) ≤ (pos : Int) := by omega
        go_wp2_with fail
        have hgo : Lib.decodeGo (s.extract pos s.size) = Utf8.decode s pos := by
          unfold Lib.decodeGo
          rw [if_neg (by simp; omega), Lib.tail_decode]
          rfl
        have HGO := Lib.hid hgo
        clear hgo
        refine (Tryz.utf8_DecodeRuneInString (s.extract pos s.size) _ (HG.out.below HB2.out).ut).mono ?_
        rw [HGO.out]
        rintro e w1 ⟨rfl, hb1⟩
        have HB3 : Hid (Below w.heap.size w w1) := Lib.hid (trans_below HB2.out hb1)
        have hsz2 : w.heap.size < (wr.iterAt w.heap.size s (pos + (Utf8.decode s pos).2)).heap.size := by rw [Lib.iterAt_size]; exact hsz
        have hi3 : w1.heap[w.heap.size]? = some (.stringIter s (pos + (Utf8.decode s pos).2)) := (hb1.block _ hsz2).trans HI2.out
        have HI3 := Lib.hid hi3
        clear hb1 hi3 hsz2
        by_cases hn : (Utf8.decode s pos).2 < 2
        · have HE : Hid (utfBad s 0 = (pos : Int)) := Lib.hid (HU.out.symm.trans (utfBad_here hlt (Prod.ext HD.out (by omega))))
          have hcn : decide (((Utf8.decode s pos).2 : Int) < 2) = true := decide_eq_true (by omega)
          clear hn
          go_wp2_with fail
          go_ret
          exact ⟨by rw [HE.out]; rfl, HB3.out⟩
        · have HE : Hid (utfBad s (pos + (Utf8.decode s pos).2) = utfBad s 0) := Lib.hid ((utfBad_on hlt (fun he => by rw [he] at hn; exact hn (by decide))).trans HU.out)
          have hcn : decide (((Utf8.decode s pos).2 : Int) < 2) = false := decide_eq_false (by omega)
          clear hn
          go_wp2_with fail
          go_roundg (s.size - (pos + (Utf8.decode s pos).2))
          case measure => rw [HK.out]; omega
          case rel => exact ⟨_, rfl, HI3.out, HB3, HE⟩
      · have hcb : (((Utf8.decode s pos).1 : Int) == 65533) = false := beq_eq_false_iff_ne.2 (by omega)
        have HE : Hid (utfBad s (pos + (Utf8.decode s pos).2) = utfBad s 0) := Lib.hid ((utfBad_on hlt (fun he => hd (by rw [he]))).trans HU.out)
        clear hd
        go_wp2_with fail
        go_roundg (s.size - (pos + (Utf8.decode s pos).2))
        case measure => rw [HK.out]; omega
        case rel => exact ⟨_, rfl, HI2.out, HB2, HE⟩
    · have hnx := fun ty => Lib.run_next_end_at (P := Tryz.prog) wr w.heap.size s pos ty hit hlt
      have HE : Hid (utfBad s 0 = -1) := Lib.hid (HU.out.symm.trans (utfBad_out (by omega)))
      clear hit
      go_wp2_with fail
      go_ret
      exact ⟨by rw [HE.out]; rfl, HB.out⟩
end Go.Proofs.YtgapeacflkfmdaaGreatDoor
