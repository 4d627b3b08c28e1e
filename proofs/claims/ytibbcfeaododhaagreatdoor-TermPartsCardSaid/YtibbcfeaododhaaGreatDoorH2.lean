/-
 Quoted atoms: atom.quoted, atom.Scan, as they are in plain Lean. strconv.ParseUint, ParseInt at any base from 2 to 36, at 64 bits (and ParseUint at 8 bits): whether there is a number, and which. A token ends behind the place where it begins, and inside its text. heddlemem.Over, heddleref10.signs. heddleref01.point and UTF: by their printed functions, what they answer. Quoted atoms and atoms as the reference reads them: heddleref01.quoted, heddleref01.Scan. Quoted texts of atoms: atom.Quote, heddleref01.Quote. heddleref01.Quote. Plain Lean: terms as trees; their form, size and depth; their order; their text. No program here.
-/
import Derived.Test.YtibbcfeaododhaaGreatDoorH1
import Derived.Lib.ConvBytes
import Derived.Lib.AtoiAllMem
import Derived.Test.YtibbcfeaododhaaGreatDoorJShelf
import Derived.Deep.RegionHeld3
import Derived.Deep.DrawnRows
import Derived.Laws.Runes
import Derived.WalkMore
import Derived.Test.YtibbcfeaododhaaGreatDoorJWTab
import Derived.Test.YtibbcfeaododhaaGreatDoorJWApart
import Derived.Test.YtibbcfeaododhaaGreatDoorJWWords
import Derived.Test.YtibbcfeaododhaaGreatDoorJPUtx1
import Derived.Lib.TrimUEq
namespace Go.Proofs.YtibbcfeaododhaaGreatDoor
open Go.RowKit Go.Proofs.YtibbcfeaododhaaGreatDoorW.PrintWords
theorem escX_le (l : List Int) : (escX l).2 = 0 ∨ ((escX l).2 = 3 ∧ 2 ≤ l.length) := by
 unfold escX
 split
 ·split
  ·right; simp
  ·left; rfl
 ·left; rfl
theorem escOf_le (l : List Int) : (escOf l).2 ≤ l.length := by
 cases l with
 | nil => exact Nat.le_refl _
 | cons c r =>
  have := escX_le r
  simp only [escOf, List.length_cons]
  repeat' split
  all_goals simp
  omega
theorem bs_extract (s : ByteArray) (k : Nat) : bs (s.extract k s.size) = (bs s).drop k := by
 unfold bs bytesOf
 rw [Lib.extract_data, ← List.map_drop, List.take_of_length_le (by rw [List.length_drop, ← Lib.size_eq]; exact Nat.le_refl _)]
theorem infoU8 : (Tryz.prog.info? 5).map (fun i => (i.zero, i.size, i.bytes)) = some (some (.int .u8 0), 1, 1) := by kernel_rfl
/-- What is read: a text, the place behind it, the faults. -/
abbrev Got := ByteArray × Nat × List Lk
def noGot (l : Lk) : Got := (⟨#[]⟩, 0, [l])
/-- The rest of a quoted atom that begins at f: from i on, behind the bytes acc. -/
def qLoop (s : ByteArray) (f i : Nat) (acc : List Int) : Got :=
 if _h : i < s.size then
  if bt s (i : Int) = 39 then
   if acc.length > 255 then noGot ⟨nAtom, f, 4⟩
   else if 0 ≤ utfBad (strOfNums acc) 0 then noGot ⟨nAtom, f, 23⟩
   else (strOfNums acc, i + 1, [])
  else if bt s (i : Int) < 32 ∨ bt s (i : Int) = 127 then noGot ⟨nAtom, f, 21⟩
  else if bt s (i : Int) = 92 then
   if i + 1 = s.size then noGot ⟨nAtom, f, 21⟩
   else if (escOf ((bs s).drop (i + 1))).2 = 0 then noGot ⟨nAtom, i, 22⟩
   else qLoop s f (i + 1 + (escOf ((bs s).drop (i + 1))).2) (acc ++ [(escOf ((bs s).drop (i + 1))).1])
  else qLoop s f (i + 1) (acc ++ [bt s (i : Int)])
 else noGot ⟨nAtom, f, 21⟩
 termination_by s.size - i
 decreasing_by all_goals omega
def GotPost (w : World) (r : Got) (e : Ending) (w' : World) : Prop := ∃ v, e = .returned (.tuple #[.string r.1, .int .i64 (r.2.1 : Int), v]) ∧ ErrIs w' r.2.2 v ∧ Below w.heap.size w w'
set_option maxRecDepth 100000 in
set_option maxHeartbeats 2000000 in
theorem atom_quoted (s : ByteArray) (f : Nat) (hf : f < s.size) (hm : s.size ≤ 140737488351232) (w : World) (hG : Glob w) :
  Calls Tryz.prog 155 #[.string s, .int .i64 (f : Int)] w (GotPost w (qLoop s f (f + 1) [])) := by
 have HG := Lib.hid hG
 clear hG
 obtain ⟨R, hR⟩ : ∃ R, R = qLoop s f (f + 1) [] := ⟨_, rfl⟩
 rw [← hR]
 have HR0 := Lib.hid hR.symm
 clear hR
 go_enter Tryz.func155, Tryz.ntmps155
 go_wp2_with fail
 go_loopg [7, 8] (s.size - (f + 1)) (fun gk vb vi wl => ∃ (k : Nat) (acc : List Int) (v0 : Value), v0 = vb ∧ vi = .int .i64 (k : Int) ∧ gk = s.size - k ∧ k ≤ s.size ∧ acc.length ≤ k ∧ Hid (qLoop s f k acc = R) ∧ Hid (wl.ownsRow w.heap.size 5 1 v0 acc.length (nums .u8 acc)) ∧ Hid (Below w.heap.size w wl))
 case atStart => exact ⟨f + 1, [], _, rfl, by go_num, rfl, by omega, Nat.zero_le _, HR0.out, own_nil _ _ _ _, Below.refl _ _⟩
 case round =>
  clear HR0
  obtain ⟨k, acc, vb, rfl, rfl, hgk, hk, hacc, HR, HO, HB⟩ := hrel
  have HK := Lib.hid hgk
  clear hgk
  have HGr := Lib.hid (HG.out.below HB.out)
  by_cases hlt : k < s.size
  ·have hb := btk s k
   have hr := bt_range s (k : Int)
   have hx0 : (0 : Int) ≤ (k : Int) := by omega
   have hx1 : (k : Int) < (s.size : Int) := by omega
   have hq := HR.out
   rw [qLoop, dif_pos hlt] at hq
   by_cases c0 : bt s (k : Int) = 39
   ·rw [if_pos c0] at hq
    have cb0 : (bt s (k : Int) == 39) = true := beq_iff_eq.2 c0
    clear c0
    by_cases c1 : acc.length > 255
    ·rw [if_pos c1] at hq
     have HQ := Lib.hid hq
     obtain ⟨A0, cp0, rfl, _⟩ := own_reads HO.out
     clear hq
     go_wp2_with fail
     refine (atom_refused _ _ _).mono ?_
     rintro e w1 ⟨ve, rfl, hE, hB1⟩
     have HE := Lib.hid hE
     have HB1 := Lib.hid (trans_below HB.out hB1)
     clear hE hB1
     go_wp2_with fail
     go_ret3
     exact ⟨_, by rw [← HQ.out]; rfl, by rw [← HQ.out]; exact HE.out, HB1.out⟩
    ·rw [if_neg c1] at hq
     obtain ⟨A0, cp0, rfl, _⟩ := own_reads HO.out
     have hcv := own_string (P := Tryz.prog) (src := 104) (dst := 9) Tryz.underlying104 Tryz.underlying5 Tryz.underlying9 HO.out
     have HQ := Lib.hid hq
     clear hq
     go_wp2_with fail
     refine (strange_any _ _ HGr.out).mono ?_
     rintro e w1 ⟨rfl, hB1⟩
     have hcv1 := own_string (P := Tryz.prog) (src := 104) (dst := 9) Tryz.underlying104 Tryz.underlying5 Tryz.underlying9 (pw_own_below HO.out hB1)
     have HB2 := Lib.hid (trans_below HB.out hB1)
     clear hcv hB1
     by_cases c2 : 0 ≤ utfBad (strOfNums acc) 0
     ·have HQ2 := Lib.hid HQ.out
      have hq2 := HQ.out
      rw [if_pos c2] at hq2
      have HQ := Lib.hid hq2
      have hd : decide (utfBad (strOfNums acc) 0 ≥ 0) = true := decide_eq_true c2
      clear hq2 c2 hcv1
      go_wp2_with fail
      refine (atom_refused _ _ _).mono ?_
      rintro e w1 ⟨ve, rfl, hE, hB1⟩
      have HE := Lib.hid hE
      have HB1 := Lib.hid (trans_below HB2.out hB1)
      clear hE hB1
      go_wp2_with fail
      go_ret3
      exact ⟨_, by rw [← HQ.out]; rfl, by rw [← HQ.out]; exact HE.out, HB1.out⟩
     ·have hq2 := HQ.out
      rw [if_neg c2] at hq2
      have HQ := Lib.hid hq2
      have hd : decide (utfBad (strOfNums acc) 0 ≥ 0) = false := decide_eq_false c2
      clear hq2 c2
      go_wp2_with fail
      go_ret3
      exact ⟨_, by rw [← HQ.out]; rfl, by rw [← HQ.out]; rfl, HB2.out⟩
   ·rw [if_neg c0] at hq
    have cb0 : (bt s (k : Int) == 39) = false := beq_eq_false_iff_ne.2 c0
    clear c0
    by_cases c3 : bt s (k : Int) < 32 ∨ bt s (k : Int) = 127
    ·rw [if_pos c3] at hq
     have HQ := Lib.hid hq
     clear hq
     by_cases c4 : bt s (k : Int) < 32
     ·clear c3
      go_wp2_with fail
      refine (atom_refused _ _ _).mono ?_
      rintro e w1 ⟨ve, rfl, hE, hB1⟩
      have HE := Lib.hid hE
      have HB1 := Lib.hid (trans_below HB.out hB1)
      clear hE hB1
      go_wp2_with fail
      go_ret3
      exact ⟨_, by rw [← HQ.out]; rfl, by rw [← HQ.out]; exact HE.out, HB1.out⟩
     ·have cb4 : (bt s (k : Int) == 127) = true := beq_iff_eq.2 (c3.resolve_left c4)
      clear c3
      go_wp2_with fail
      refine (atom_refused _ _ _).mono ?_
      rintro e w1 ⟨ve, rfl, hE, hB1⟩
      have HE := Lib.hid hE
      have HB1 := Lib.hid (trans_below HB.out hB1)
      clear hE hB1
      go_wp2_with fail
      go_ret3
      exact ⟨_, by rw [← HQ.out]; rfl, by rw [← HQ.out]; exact HE.out, HB1.out⟩
    ·rw [if_neg c3] at hq
     have c4 : ¬ bt s (k : Int) < 32 := fun h => c3 (.inl h)
     have cb5 : (bt s (k : Int) == 127) = false := beq_eq_false_iff_ne.2 (fun h => c3 (.inr h))
     clear c3
     by_cases c6 : bt s (k : Int) = 92
     ·rw [if_pos c6] at hq
      have cb6 : (bt s (k : Int) == 92) = true := beq_iff_eq.2 c6
      clear c6
      by_cases c7 : k + 1 = s.size
      ·rw [if_pos c7] at hq
       have HQ := Lib.hid hq
       have cb7 : ((k : Int) + 1 == (s.size : Int)) = true := by simp; omega
       clear hq c7
       go_wp2_with fail
       refine (atom_refused _ _ _).mono ?_
       rintro e w1 ⟨ve, rfl, hE, hB1⟩
       have HE := Lib.hid hE
       have HB1 := Lib.hid (trans_below HB.out hB1)
       clear hE hB1
       go_wp2_with fail
       go_ret3
       exact ⟨_, by rw [← HQ.out]; rfl, by rw [← HQ.out]; exact HE.out, HB1.out⟩
      ·rw [if_neg c7] at hq
       have cb7 : ((k : Int) + 1 == (s.size : Int)) = false := by simp; omega
       have hy : (k : Int) + 1 ≤ (s.size : Int) := by omega
       have hx : bs (s.extract (k + 1) s.size) = (bs s).drop (k + 1) := bs_extract s (k + 1)
       have hle : (escOf ((bs s).drop (k + 1))).2 ≤ s.size - (k + 1) := by have := escOf_le ((bs s).drop (k + 1)); rw [List.length_drop, bs_len] at this; exact this
       obtain ⟨E, hE⟩ : ∃ E, E = escOf ((bs s).drop (k + 1)) := ⟨_, rfl⟩
       rw [← hE] at hq hle
       have HX : Hid (escOf (bs (s.extract (k + 1) s.size)) = E) := Lib.hid (by rw [hx, hE])
       clear hE hx c7
       by_cases c8 : E.2 = 0
       ·rw [if_pos c8] at hq
        have HQ := Lib.hid hq
        have cb8 : ((E.2 : Int) == 0) = true := by simp [c8]
        clear hq c8
        go_wp2_with fail
        refine (atom_escape _ _).mono ?_
        rw [HX.out]
        rintro e w1 ⟨rfl, hD⟩
        have HB2 := Lib.hid (trans_below HB.out hD.below)
        clear hD
        go_wp2_with fail
        refine (atom_refused _ _ _).mono ?_
        rintro e w1 ⟨ve, rfl, hE, hB1⟩
        have HE := Lib.hid hE
        have HB1 := Lib.hid (trans_below HB2.out hB1)
        clear hE hB1
        go_wp2_with fail
        go_ret3
        exact ⟨_, by rw [← HQ.out]; rfl, by rw [← HQ.out]; exact HE.out, HB1.out⟩
       ·rw [if_neg c8] at hq
        have HQ := Lib.hid hq
        have cb8 : ((E.2 : Int) == 0) = false := by simp; omega
        clear hq
        go_wp2_with fail
        refine (atom_escape _ _).mono ?_
        rw [HX.out]
        rintro e w1 ⟨rfl, hD⟩
        have HO2 := Lib.hid (pw_own_below HO.out hD.below)
        have HB2 := Lib.hid (trans_below HB.out hD.below)
        clear hD
        go_wp2_with (at_builtin; refine print_append_num (w0 := w) w.heap.size rfl _ _ 104 5 .u8 1 rfl Tryz.underlying104 infoU8 (by decide) vb acc E.1 rfl rfl HO2.out HB2.out (below_size HB2.out) (by omega) ?_; intro v1 w2 ho hb hg hat)
        have HO3 := Lib.hid ho
        have HB3 := Lib.hid hb
        clear ho hb hg hat
        go_wp2_with fail
        go_roundg (s.size - (k + 1 + E.2))
        case measure => rw [HK.out]; omega
        case rel => exact ⟨k + 1 + E.2, acc ++ [E.1], v1, rfl, by go_num, rfl, by omega, by simp; omega, HQ.out.symm ▸ rfl, HO3.out, HB3.out⟩
     ·rw [if_neg c6] at hq
      have HQ := Lib.hid hq
      have cb6 : (bt s (k : Int) == 92) = false := beq_eq_false_iff_ne.2 c6
      clear c6 hq
      go_wp2_with (at_builtin; refine print_append_num (w0 := w) w.heap.size rfl _ _ 104 5 .u8 1 rfl Tryz.underlying104 infoU8 (by decide) vb acc (bt s (k : Int)) rfl rfl HO.out HB.out (below_size HB.out) (by omega) ?_; intro v1 w2 ho hb hg hat)
      have HO3 := Lib.hid ho
      have HB3 := Lib.hid hb
      clear ho hb hg hat
      go_wp2_with fail
      go_roundg (s.size - (k + 1))
      case measure => rw [HK.out]; omega
      case rel => exact ⟨k + 1, acc ++ [bt s (k : Int)], v1, rfl, by go_num, rfl, by omega, by simp; omega, HQ.out.symm ▸ rfl, HO3.out, HB3.out⟩
  ·have hq := HR.out
   rw [qLoop, dif_neg hlt] at hq
   have HQ := Lib.hid hq
   clear hq
   go_wp2_with fail
   refine (atom_refused _ _ _).mono ?_
   rintro e w1 ⟨ve, rfl, hE, hB1⟩
   have HE := Lib.hid hE
   have HB1 := Lib.hid (trans_below HB.out hB1)
   clear hE hB1
   go_wp2_with fail
   go_ret3
   exact ⟨_, by rw [← HQ.out]; rfl, by rw [← HQ.out]; exact HE.out, HB1.out⟩
/-- The atom that begins at f. -/
def aScan (s : ByteArray) (f : Nat) : Got :=
 if f < s.size ∧ bt s (f : Int) = 39 then qLoop s f (f + 1) []
 else if f = s.size ∨ isSmall (bt s (f : Int)) = false then noGot ⟨nAtom, f, 20⟩
 else if runEnd isIn s f - f > 255 then noGot ⟨nAtom, f, 4⟩
 else if isRes (s.extract f (runEnd isIn s f)) then noGot ⟨nAtom, f, 20⟩
 else (s.extract f (runEnd isIn s f), runEnd isIn s f, [])
set_option maxRecDepth 100000 in
set_option maxHeartbeats 2000000 in
theorem atom_Scan (s : ByteArray) (f : Nat) (hf : f ≤ s.size) (hm : s.size ≤ 140737488351232) (w : World) (hG : Glob w) :
  Calls Tryz.prog 104 #[.string s, .int .i64 (f : Int)] w (GotPost w (aScan s f)) := by
 have d0 : decide ((f : Int) < 0) = false := decide_eq_false (by omega)
 have d1 : decide ((f : Int) > (s.size : Int)) = false := decide_eq_false (by omega)
 by_cases h0 : f = s.size
 ·have HE : Hid (aScan s f = noGot ⟨nAtom, f, 20⟩) := by
   refine Lib.hid ?_
   unfold aScan
   rw [if_neg (by omega), if_pos (.inl h0)]
  have d2 : decide ((f : Int) < (s.size : Int)) = false := decide_eq_false (by omega)
  have d3 : ((f : Int) == (s.size : Int)) = true := by simp [h0]
  rw [HE.out]
  clear h0 hG
  go_enter Tryz.func104, Tryz.ntmps104
  go_wp2_with fail
  refine (atom_refused _ _ _).mono ?_
  rintro e w1 ⟨ve, rfl, hE, hB1⟩
  have HE := Lib.hid hE
  have HB1 := Lib.hid hB1
  clear hE hB1
  go_wp2_with fail
  go_ret3
  exact ⟨_, rfl, HE.out, HB1.out⟩
 ·have hlt : f < s.size := by omega
  have d2 : decide ((f : Int) < (s.size : Int)) = true := decide_eq_true (by omega)
  have d3 : ((f : Int) == (s.size : Int)) = false := by simp; omega
  have hb := btk s f
  have hr := bt_range s (f : Int)
  have hx0 : (0 : Int) ≤ (f : Int) := by omega
  have hx1 : (f : Int) < (s.size : Int) := by omega
  by_cases c0 : bt s (f : Int) = 39
  ·have HE : Hid (aScan s f = qLoop s f (f + 1) []) := by
    refine Lib.hid ?_
    unfold aScan
    rw [if_pos ⟨hlt, c0⟩]
   have cb0 : (bt s (f : Int) == 39) = true := beq_iff_eq.2 c0
   have HQ := Lib.hid (atom_quoted s f hlt hm w hG)
   rw [HE.out]
   clear c0 h0 hG
   go_enter Tryz.func104, Tryz.ntmps104
   go_wp2_with fail
   refine HQ.out.mono ?_
   rintro e w1 ⟨ve, rfl, hE, hB1⟩
   have HE := Lib.hid hE
   have HB1 := Lib.hid hB1
   clear hE hB1
   go_wp2_with fail
   go_ret3
   exact ⟨_, rfl, HE.out, HB1.out⟩
  ·have cb0 : (bt s (f : Int) == 39) = false := beq_eq_false_iff_ne.2 c0
   have hk0 : (kindOf (bt s (f : Int)) != 1) = !isSmall (bt s (f : Int)) := by
    unfold kindOf
    cases isSmall (bt s (f : Int)) <;> simp
    split
    ·simp
    ·split
     ·simp
     ·split <;> simp
   cases h1 : isSmall (bt s (f : Int)) with
   | false =>
    have HE : Hid (aScan s f = noGot ⟨nAtom, f, 20⟩) := by
     refine Lib.hid ?_
     unfold aScan
     rw [if_neg (by omega), if_pos (.inr h1)]
    rw [HE.out]
    rw [h1] at hk0
    simp only [Bool.not_false] at hk0
    clear c0 h0 hG h1
    go_enter Tryz.func104, Tryz.ntmps104
    go_wp2_with fail
    refine (atom_kind _ hr.1 hr.2 _).mono ?_
    rintro e w' ⟨rfl, rfl⟩
    go_wp2_with fail
    refine (atom_refused _ _ _).mono ?_
    rintro e w1 ⟨ve, rfl, hE, hB1⟩
    have HE := Lib.hid hE
    have HB1 := Lib.hid hB1
    clear hE hB1
    go_wp2_with fail
    go_ret3
    exact ⟨_, rfl, HE.out, HB1.out⟩
   | true =>
    have hq : aScan s f = if runEnd isIn s f - f > 255 then noGot ⟨nAtom, f, 4⟩ else if isRes (s.extract f (runEnd isIn s f)) then noGot ⟨nAtom, f, 20⟩ else (s.extract f (runEnd isIn s f), runEnd isIn s f, []) := by
     unfold aScan
     rw [if_neg (by omega), if_neg (by simp [h1]; omega)]
    rw [h1] at hk0
    simp only [Bool.not_true] at hk0
    have hge := runEnd_ge isIn s f
    have hle := runEnd_le isIn s f hf
    obtain ⟨E, hE⟩ : ∃ E, E = runEnd isIn s f := ⟨_, rfl⟩
    have HW := Lib.hid (atom_word s f hf hm w)
    rw [← hE] at hq hge hle HW
    have hy1 : (f : Int) ≤ (E : Int) := by omega
    have hy2 : (E : Int) ≤ (s.size : Int) := by omega
    clear c0 h0 hG h1 hE
    by_cases c1 : E - f > 255
    ·rw [if_pos c1] at hq
     have d4 : decide ((E : Int) - (f : Int) > 255) = true := decide_eq_true (by omega)
     rw [hq]
     clear hq
     go_enter Tryz.func104, Tryz.ntmps104
     go_wp2_with fail
     refine (atom_kind _ hr.1 hr.2 _).mono ?_
     rintro e w' ⟨rfl, rfl⟩
     go_wp2_with fail
     refine HW.out.mono ?_
     rintro e w' ⟨rfl, rfl⟩
     go_wp2_with fail
     refine (atom_refused _ _ _).mono ?_
     rintro e w1 ⟨ve, rfl, hE, hB1⟩
     have HE := Lib.hid hE
     have HB1 := Lib.hid hB1
     clear hE hB1
     go_wp2_with fail
     go_ret3
     exact ⟨_, rfl, HE.out, HB1.out⟩
    ·rw [if_neg c1] at hq
     have hsz : (s.extract f E).size = E - f := by simp; omega
     cases h2 : isRes (s.extract f E) with
     | true =>
      rw [h2, if_pos rfl] at hq
      rw [hq]
      clear hq hsz
      go_enter Tryz.func104, Tryz.ntmps104
      go_wp2_with fail
      refine (atom_kind _ hr.1 hr.2 _).mono ?_
      rintro e w' ⟨rfl, rfl⟩
      go_wp2_with fail
      refine HW.out.mono ?_
      rintro e w' ⟨rfl, rfl⟩
      go_wp2_with fail
      refine (atom_reserved _ _).mono ?_
      rintro e w' ⟨rfl, rfl⟩
      go_wp2_with fail
      refine (atom_refused _ _ _).mono ?_
      rintro e w1 ⟨ve, rfl, hE, hB1⟩
      have HE := Lib.hid hE
      have HB1 := Lib.hid hB1
      clear hE hB1
      go_wp2_with fail
      go_ret3
      exact ⟨_, rfl, HE.out, HB1.out⟩
     | false =>
      rw [h2, if_neg (by simp)] at hq
      rw [hq]
      clear hq hsz
      go_enter Tryz.func104, Tryz.ntmps104
      go_wp2_with fail
      refine (atom_kind _ hr.1 hr.2 _).mono ?_
      rintro e w' ⟨rfl, rfl⟩
      go_wp2_with fail
      refine HW.out.mono ?_
      rintro e w' ⟨rfl, rfl⟩
      go_wp2_with fail
      refine (atom_reserved _ _).mono ?_
      rintro e w' ⟨rfl, rfl⟩
      go_wp2_with fail
      go_ret3
      exact ⟨_, rfl, rfl, Below.refl _ _⟩
/-! ### heddleref01.quoted, heddleref01.Scan -/
def LnPost (w : World) (l : List Lk) (e : Ending) (w' : World) : Prop := ∃ v, e = .returned v ∧ LnIs w' w.heap.size l v ∧ Below w.heap.size w w'
theorem lnOf_new (w : World) (x : Lk) : LnIs (w.alloc (.cells #[.string x.ly, .int .i64 x.pl, .int .i64 x.co] 69)) w.heap.size [x] (.slice (some ⟨w.heap.size, 0, none⟩) 1 1) := by
 refine ⟨⟨fun _ _ => trivial, [.string x.ly, .int .i64 x.pl, .int .i64 x.co], ?_, ?_⟩, fun h => by cases h⟩
 ·exact World.ownsRow_lit (base := w.heap.size) (e := 69) (size := 3) w #[.string x.ly, .int .i64 x.pl, .int .i64 x.co] 1 (Nat.le_refl _) (by decide) (by simp)
 ·exact Reps.c3 (kLk_mkM _ _ _ x) (Reps.none _ _)
theorem mem_One (ly : ByteArray) (at_ co : Int) (w : World) : Calls Tryz.prog 39 #[.string ly, .int .i64 at_, .int .i64 co] w (LnPost w [⟨ly, at_, co⟩]) := by
 have H : Hid (LnPost w [⟨ly, at_, co⟩] (.returned (.slice (some ⟨w.heap.size, 0, none⟩) 1 1)) (w.alloc (.cells #[.string ly, .int .i64 at_, .int .i64 co] 69))) :=
  Lib.hid ⟨_, rfl, lnOf_new w ⟨ly, at_, co⟩, below_alloc (Below.refl _ _) _⟩
 go_enter Tryz.func39, Tryz.ntmps39
 go_wp2_with fail
 go_ret
 exact H.out
theorem ref01_no (at_ co : Int) (w : World) : Calls Tryz.prog 142 #[.int .i64 at_, .int .i64 co] w (LnPost w [⟨nAtom, at_, co⟩]) := by
 go_enter Tryz.func142, Tryz.ntmps142
 go_wp2_with fail
 refine (mem_One _ _ _ _).mono ?_
 rintro e w1 ⟨v, rfl, hL, hB⟩
 have HL := Lib.hid hL
 have HB := Lib.hid hB
 clear hL hB
 go_wp2_with fail
 go_ret
 exact ⟨_, rfl, HL.out, HB.out⟩
end Go.Proofs.YtibbcfeaododhaaGreatDoor
namespace Go.Proofs.YtibbcfeaododhaaGreatDoor
open Go.RowKit Go.Proofs.YtibbcfeaododhaaGreatDoorW.PrintWords
theorem bytesWorld_below (w : World) (e : TypeId) (s : ByteArray) : Below w.heap.size w (Lib.bytesWorld w e s) := bytes_below (Below.refl _ _) (Nat.le_refl _) e s
end Go.Proofs.YtibbcfeaododhaaGreatDoor
namespace Go.Proofs.YtibbcfeaododhaaGreatDoor
open Go.RowKit Go.Proofs.YtibbcfeaododhaaGreatDoorW.PrintWords
theorem qLoop_range (s : ByteArray) (f i : Nat) (acc : List Int) (h : (qLoop s f i acc).2.2 = []) : i < (qLoop s f i acc).2.1 ∧ (qLoop s f i acc).2.1 ≤ s.size := by
 induction i, acc using qLoop.induct (s := s) with
 | case1 i acc h0 h1 h2 => rw [qLoop, dif_pos h0, if_pos h1, if_pos h2] at h; simp [noGot] at h
 | case2 i acc h0 h1 h2 h3 => rw [qLoop, dif_pos h0, if_pos h1, if_neg h2, if_pos h3] at h; simp [noGot] at h
 | case3 i acc h0 h1 h2 h3 => rw [qLoop, dif_pos h0, if_pos h1, if_neg h2, if_neg h3]; simp; omega
 | case4 i acc h0 h1 h2 => rw [qLoop, dif_pos h0, if_neg h1, if_pos h2] at h; simp [noGot] at h
 | case5 i acc h0 h1 h2 h3 h4 => rw [qLoop, dif_pos h0, if_neg h1, if_neg h2, if_pos h3, if_pos h4] at h; simp [noGot] at h
 | case6 i acc h0 h1 h2 h3 h4 h5 => rw [qLoop, dif_pos h0, if_neg h1, if_neg h2, if_pos h3, if_neg h4, if_pos h5] at h; simp [noGot] at h
 | case7 i acc h0 h1 h2 h3 h4 h5 ih =>
  rw [qLoop, dif_pos h0, if_neg h1, if_neg h2, if_pos h3, if_neg h4, if_neg h5] at h ⊢
  have := ih h
  omega
 | case8 i acc h0 h1 h2 h3 ih =>
  rw [qLoop, dif_pos h0, if_neg h1, if_neg h2, if_neg h3] at h ⊢
  have := ih h
  omega
 | case9 i acc h0 => rw [qLoop, dif_neg h0] at h; simp [noGot] at h
theorem run_gt {p : Int → Bool} {s : ByteArray} {k : Nat} (hk : k < s.size) (hp : p (bt s (k : Int)) = true) : k < runEnd p s k := by
 rw [← runEnd_yes hk hp]
 have := runEnd_ge p s (k + 1)
 omega
theorem small_in {c : Int} (h : isSmall c = true) : isIn c = true := by unfold isIn; simp [h]
theorem aScan_range (s : ByteArray) (k : Nat) (hk : k < s.size) (h : (aScan s k).2.2 = []) : k < (aScan s k).2.1 ∧ (aScan s k).2.1 ≤ s.size := by
 unfold aScan at h ⊢
 split at h
 ·rename_i h1
  rw [if_pos h1]
  have := qLoop_range s k (k + 1) [] h
  omega
 ·rename_i h1
  rw [if_neg h1]
  split at h
  ·simp [noGot] at h
  ·rename_i h2
   rw [if_neg h2]
   have hs : isSmall (bt s (k : Int)) = true := by
    cases hx : isSmall (bt s (k : Int)) with
    | true => rfl
    | false => exact absurd (Or.inr hx) h2
   split at h
   ·simp [noGot] at h
   ·rename_i h3
    rw [if_neg h3]
    split at h
    ·simp [noGot] at h
    ·rename_i h4
     rw [if_neg h4]
     exact ⟨run_gt hk (small_in hs), runEnd_le isIn s k (by omega)⟩
end Go.Proofs.YtibbcfeaododhaaGreatDoor
namespace Go.Proofs.YtibbcfeaododhaaGreatDoor
open Go.RowKit Go.Proofs.YtibbcfeaododhaaGreatDoorW.PrintWords
theorem reads_below {w w1 : World} {A : Option Addr} {n : Nat} {l : List Lk} (h : kLk.C w A n l) (hb : Below w.heap.size w w1) : ReadsRow (kLk.K w) kLk.sz w1 A n l :=
 ReadsRow.imp_ h hb (fun _ _ hp => hp)
set_option maxRecDepth 100000 in
set_option maxHeartbeats 2000000 in
theorem mem_Over (ly : ByteArray) (at_ co : Int) (l : List Lk) (hl : l.length ≤ 16) (A : Option Addr) (c : Nat) (w : World) (hC : kLk.C w A l.length l) :
  Calls Tryz.prog 145 #[.string ly, .int .i64 at_, .int .i64 co, .slice A l.length c] w (LnPost w (⟨ly, at_, co⟩ :: l)) := by
 have HC := Lib.hid hC
 clear hC
 go_enter Tryz.func145, Tryz.ntmps145
 go_wp2_with (first
  | (at_builtin; refine Kd.R_append kLk (w0 := w) w.heap.size rfl (.tmp 10) (.tmp 15) 32 69 (.agg #[(.string ⟨#[]⟩), (.int .i64 0), (.int .i64 0)]) 32 rfl Tryz.underlying32 infoLk rfl (by decide) (by omega) (.slice none 0 0) [] ⟨ly, at_, co⟩ [.string ly, .int .i64 at_, .int .i64 co] (fun _ => True) (fun _ => False) ?hs ?hx ?hp ?hok ?hfr ?hO ?hB ?hbs ?hl ?_; (case hs => rfl); (case hx => first | rfl | (simp [Act.eval]; done)); (case hp => exact kLk_mkM _ _ _ ⟨ly, at_, co⟩); (case hok => exact fun _ hk => hk.elim); (case hfr => exact fun _ _ => trivial); (case hO => exact Kd.R_nil _ _ _ _ _); (case hB => exact Below.refl _ _); (case hbs => exact Nat.le_refl _); (case hl => decide); intro v1 w5 ho hb hg hat; have HO := Lib.hid ho; have HB := Lib.hid hb; clear ho hb hg hat)
  | (at_builtin; refine Kd.R_append_rows kLk (Rr := kLk.K w) (w0 := w) w.heap.size rfl (.tmp 17) (.tmp 18) 32 69 (.agg #[(.string ⟨#[]⟩), (.int .i64 0), (.int .i64 0)]) 32 rfl Tryz.underlying32 infoLk rfl (by decide) (by omega) v1 [⟨ly, at_, co⟩] l A l.length c (fun _ => True) (fun _ => False) ?hs ?hx ?hO ?hR ?hKM ?hok ?hfr ?hB ?hbs ?hl ?_; (case hs => rfl); (case hx => rfl); (case hO => exact HO.out); (case hR => exact reads_below HC.out HB.out); (case hKM => exact fun x cs h => by rw [kLk_open h]; exact kLk_mkM _ _ _ x); (case hok => exact fun _ hk => hk.elim); (case hfr => exact fun _ _ => trivial); (case hB => exact HB.out); (case hbs => exact HB.out.size); (case hl => simp; omega); intro v2 w6 ho hb hg hat; have HO2 := Lib.hid ho; have HB2 := Lib.hid hb; clear ho hb hg hat))
 go_ret
 exact ⟨_, rfl, ⟨HO2.out, fun h => by simp at h⟩, HB2.out⟩
end Go.Proofs.YtibbcfeaododhaaGreatDoor
namespace Go.Proofs.YtibbcfeaododhaaGreatDoor
open Go.RowKit Go.Proofs.YtibbcfeaododhaaGreatDoorW.PrintWords Go.Proofs.YtibbcfeaododhaaGreatDoor.PUt
theorem w64 {x : Int} (h0 : -9223372036854775808 ≤ x) (h1 : x ≤ 9223372036854775807) : wrap64 x = x := by unfold wrap64; omega
/-- How many bytes the code point has that begins at k; 0: none does. -/
def ptOf (s : ByteArray) (k : Nat) : Nat := if Utf8.decode s k = (65533, 1) then 0 else (Utf8.decode s k).2
theorem get_bt (s : ByteArray) (k : Nat) (h : k < s.size) : ((s.get! k).toNat : Int) = bt s (k : Int) := by
 rw [← btk s k h]
 have := get_at s k h
 simp at this
 rw [this]
theorem point_step (m : Nat) (s : ByteArray) (k : Nat) (n v j : Int) (hj : j < n) (hj0 : 0 ≤ j) (hn : n ≤ 4) (hk : (k : Int) + j < s.size) (hm : s.size ≤ 140737488351232) (hv0 : 0 ≤ v) (hv : v ≤ 16777216) :
  heddleref01_point.l0 (m + 1) s (k : Int) n v j = if bt s ((k : Int) + j) < 128 ∨ bt s ((k : Int) + j) > 191 then some 0 else heddleref01_point.l0 m s (k : Int) n (v * 64 + bt s ((k : Int) + j) - 128) (j + 1) := by
 have hr := bt_range s ((k : Int) + j)
 simp only [heddleref01_point.l0]
 rw [if_pos hj, w64 (x := (k : Int) + j) (by omega) (by omega), if_pos (by omega), if_pos hk]
 by_cases c1 : bt s ((k : Int) + j) < 128
 ·rw [if_pos c1, if_pos (.inl c1)]
 ·rw [if_neg c1]
  by_cases c2 : bt s ((k : Int) + j) > 191
  ·rw [if_pos c2, if_pos (.inr c2)]
  ·rw [if_neg c2, if_neg (by omega), w64 (x := v * 64) (by omega) (by omega), w64 (x := bt s ((k : Int) + j)) (by omega) (by omega), w64 (x := v * 64 + bt s ((k : Int) + j)) (by omega) (by omega), w64 (x := v * 64 + bt s ((k : Int) + j) - 128) (by omega) (by omega), w64 (x := j + 1) (by omega) (by omega)]
theorem point_end (m : Nat) (s : ByteArray) (k : Nat) (n v : Int) :
  heddleref01_point.l0 (m + 1) s (k : Int) n v n = if n = 3 ∧ (v < 2048 ∨ (55296 ≤ v ∧ v ≤ 57343)) ∨ n = 4 ∧ (v < 65536 ∨ v > 1114111) then some 0 else some n := by
 simp only [heddleref01_point.l0]
 rw [if_neg (by omega)]
 repeat' split
 all_goals first | rfl | (exfalso; omega)
set_option maxRecDepth 100000 in
set_option maxHeartbeats 4000000 in
theorem point_eq (s : ByteArray) (k : Nat) (h : k < s.size) (hm : s.size ≤ 140737488351232) : heddleref01_point.f 10 s (k : Int) = some ((ptOf s k : Nat) : Int) := by
 have hr0 := bt_range s (k : Int)
 have g0 := get_bt s k h
 have e0 : ((s.get! k).toNat : Int) < 256 := by rw [g0]; omega
 have e1 := (s.get! (k + 1)).toNat_lt
 have e2 := (s.get! (k + 2)).toNat_lt
 have e3 := (s.get! (k + 3)).toNat_lt
 unfold ptOf
 rw [Lib.decode_at]
 simp only [heddleref01_point.f]
 rw [if_pos (by omega), if_pos (by omega)]
 generalize hb0 : (s.get! k).toNat = b0 at *
 generalize hb1 : (s.get! (k + 1)).toNat = b1 at *
 generalize hb2 : (s.get! (k + 2)).toNat = b2 at *
 generalize hb3 : (s.get! (k + 3)).toNat = b3 at *
 by_cases c0 : bt s (k : Int) < 128
 ·rw [if_pos c0]
  have : b0 < 128 := by omega
  simp only [Lib.decodeN, if_pos this]
  rw [if_neg (by simp; omega)]
  rfl
 ·rw [if_neg c0]
  have r1 := bt_range s ((k : Int) + 1)
  have r2 := bt_range s ((k : Int) + 2)
  have r3 := bt_range s ((k : Int) + 3)
  have f1 : k + 1 < s.size → (b1 : Int) = bt s ((k : Int) + 1) := fun hh => by rw [← hb1, get_bt s (k + 1) hh]; rfl
  have f2 : k + 2 < s.size → (b2 : Int) = bt s ((k : Int) + 2) := fun hh => by rw [← hb2, get_bt s (k + 2) hh]; rfl
  have f3 : k + 3 < s.size → (b3 : Int) = bt s ((k : Int) + 3) := fun hh => by rw [← hb3, get_bt s (k + 3) hh]; rfl
  clear hb0 hb1 hb2 hb3
  by_cases d2 : 194 ≤ bt s (k : Int) ∧ bt s (k : Int) ≤ 223
  ·rw [if_pos (by omega), show decide (bt s (k : Int) ≤ 223) = true from decide_eq_true d2.2]
   simp only [heddleref01_point.j0, if_true, heddleref01_point.j2]
   rw [w64 (x := bt s (k : Int)) (by omega) (by omega), w64 (x := bt s (k : Int) - 192) (by omega) (by omega), w64 (x := (k : Int) + 2) (by omega) (by omega)]
   by_cases hsz : (k : Int) + 2 > (s.size : Int)
   ·rw [if_pos hsz]
    have : Lib.decodeN (s.size - k) b0 b1 b2 b3 = (65533, 1) := by
     simp only [Lib.decodeN]
     repeat' split
     all_goals first | rfl | (exfalso; omega)
    rw [this]; rfl
   ·rw [if_neg hsz]
    have f1' := f1 (by omega)
    rw [point_step 7 s k 2 (bt s (k : Int) - 192) 1 (by omega) (by omega) (by omega) (by omega) hm (by omega) (by omega)]
    by_cases c1 : bt s ((k : Int) + 1) < 128 ∨ bt s ((k : Int) + 1) > 191
    ·rw [if_pos c1]
     have : Lib.decodeN (s.size - k) b0 b1 b2 b3 = (65533, 1) := by
      simp only [Lib.decodeN]
      repeat' split
      all_goals first | rfl | (exfalso; omega)
     rw [this]; rfl
    ·rw [if_neg c1]
     rw [show (1 : Int) + 1 = 2 from rfl]
     rw [point_end, if_neg (by omega)]
     have : (Lib.decodeN (s.size - k) b0 b1 b2 b3).2 = 2 := by
      simp only [Lib.decodeN]
      repeat' split
      all_goals first | rfl | (exfalso; omega)
     rw [if_neg (fun he => by rw [he] at this; cases this), this]
     rfl
  ·have hj0 : (if bt s (k : Int) ≥ 194 then heddleref01_point.j0 10 s (k : Int) (bt s (k : Int)) (decide (bt s (k : Int) ≤ 223)) else heddleref01_point.j0 10 s (k : Int) (bt s (k : Int)) false) = heddleref01_point.j0 10 s (k : Int) (bt s (k : Int)) false := by
    by_cases c : bt s (k : Int) ≥ 194
    ·rw [if_pos c, show decide (bt s (k : Int) ≤ 223) = false from decide_eq_false (by omega)]
    ·rw [if_neg c]
   rw [hj0]
   clear hj0
   simp only [heddleref01_point.j0, Bool.false_eq_true, if_false]
   by_cases d3 : 224 ≤ bt s (k : Int) ∧ bt s (k : Int) ≤ 239
   ·rw [if_pos (by omega), show decide (bt s (k : Int) ≤ 239) = true from decide_eq_true d3.2]
    simp only [heddleref01_point.j1, if_true, heddleref01_point.j2]
    rw [w64 (x := bt s (k : Int)) (by omega) (by omega), w64 (x := bt s (k : Int) - 224) (by omega) (by omega), w64 (x := (k : Int) + 3) (by omega) (by omega)]
    by_cases hsz : (k : Int) + 3 > (s.size : Int)
    ·rw [if_pos hsz]
     have : Lib.decodeN (s.size - k) b0 b1 b2 b3 = (65533, 1) := by
      simp only [Lib.decodeN]
      repeat' split
      all_goals first | rfl | (exfalso; omega)
     rw [this]; rfl
    ·rw [if_neg hsz]
     have f1' := f1 (by omega)
     have f2' := f2 (by omega)
     rw [point_step 6 s k 3 (bt s (k : Int) - 224) 1 (by omega) (by omega) (by omega) (by omega) hm (by omega) (by omega)]
     by_cases c1 : bt s ((k : Int) + 1) < 128 ∨ bt s ((k : Int) + 1) > 191
     ·rw [if_pos c1]
      have : Lib.decodeN (s.size - k) b0 b1 b2 b3 = (65533, 1) := by
       simp only [Lib.decodeN]
       repeat' split
       all_goals first | rfl | (exfalso; omega)
      rw [this]; rfl
     ·rw [if_neg c1]
      rw [show (1 : Int) + 1 = 2 from rfl]
      rw [point_step 5 s k 3 ((bt s (k : Int) - 224) * 64 + bt s ((k : Int) + 1) - 128) 2 (by omega) (by omega) (by omega) (by omega) hm (by omega) (by omega)]
      by_cases c2 : bt s ((k : Int) + 2) < 128 ∨ bt s ((k : Int) + 2) > 191
      ·rw [if_pos c2]
       have : Lib.decodeN (s.size - k) b0 b1 b2 b3 = (65533, 1) := by
        simp only [Lib.decodeN]
        repeat' split
        all_goals first | rfl | (exfalso; omega)
       rw [this]; rfl
      ·rw [if_neg c2]
       rw [show (2 : Int) + 1 = 3 from rfl]
       rw [point_end]
       by_cases ce : ((((bt s (k : Int) - 224) * 64 + bt s ((k : Int) + 1) - 128) * 64 + bt s ((k : Int) + 2) - 128) < 2048 ∨ (55296 ≤ (((bt s (k : Int) - 224) * 64 + bt s ((k : Int) + 1) - 128) * 64 + bt s ((k : Int) + 2) - 128) ∧ (((bt s (k : Int) - 224) * 64 + bt s ((k : Int) + 1) - 128) * 64 + bt s ((k : Int) + 2) - 128) ≤ 57343))
       ·rw [if_pos (.inl ⟨rfl, ce⟩)]
        have : Lib.decodeN (s.size - k) b0 b1 b2 b3 = (65533, 1) := by
         simp only [Lib.decodeN]
         repeat' split
         all_goals first | rfl | (exfalso; omega)
        rw [this]; rfl
       ·rw [if_neg (by omega)]
        have : (Lib.decodeN (s.size - k) b0 b1 b2 b3).2 = 3 := by
         simp only [Lib.decodeN]
         repeat' split
         all_goals first | rfl | (exfalso; omega)
        rw [if_neg (fun he => by rw [he] at this; cases this), this]
        rfl
   ·have hj1 : (if bt s (k : Int) ≥ 224 then heddleref01_point.j1 9 s (k : Int) (bt s (k : Int)) (decide (bt s (k : Int) ≤ 239)) else heddleref01_point.j1 9 s (k : Int) (bt s (k : Int)) false) = heddleref01_point.j1 9 s (k : Int) (bt s (k : Int)) false := by
     by_cases c : bt s (k : Int) ≥ 224
     ·rw [if_pos c, show decide (bt s (k : Int) ≤ 239) = false from decide_eq_false (by omega)]
     ·rw [if_neg c]
    rw [hj1]
    clear hj1
    simp only [heddleref01_point.j1, Bool.false_eq_true, if_false]
    by_cases d4 : 240 ≤ bt s (k : Int) ∧ bt s (k : Int) ≤ 244
    ·rw [if_pos (by omega), if_pos (by omega)]
     simp only [heddleref01_point.j2]
     rw [w64 (x := bt s (k : Int)) (by omega) (by omega), w64 (x := bt s (k : Int) - 240) (by omega) (by omega), w64 (x := (k : Int) + 4) (by omega) (by omega)]
     by_cases hsz : (k : Int) + 4 > (s.size : Int)
     ·rw [if_pos hsz]
      have : Lib.decodeN (s.size - k) b0 b1 b2 b3 = (65533, 1) := by
       simp only [Lib.decodeN]
       repeat' split
       all_goals first | rfl | (exfalso; omega)
      rw [this]; rfl
     ·rw [if_neg hsz]
      have f1' := f1 (by omega)
      have f2' := f2 (by omega)
      have f3' := f3 (by omega)
      rw [point_step 6 s k 4 (bt s (k : Int) - 240) 1 (by omega) (by omega) (by omega) (by omega) hm (by omega) (by omega)]
      by_cases c1 : bt s ((k : Int) + 1) < 128 ∨ bt s ((k : Int) + 1) > 191
      ·rw [if_pos c1]
       have : Lib.decodeN (s.size - k) b0 b1 b2 b3 = (65533, 1) := by
        simp only [Lib.decodeN]
        repeat' split
        all_goals first | rfl | (exfalso; omega)
       rw [this]; rfl
      ·rw [if_neg c1]
       rw [show (1 : Int) + 1 = 2 from rfl]
       rw [point_step 5 s k 4 ((bt s (k : Int) - 240) * 64 + bt s ((k : Int) + 1) - 128) 2 (by omega) (by omega) (by omega) (by omega) hm (by omega) (by omega)]
       by_cases c2 : bt s ((k : Int) + 2) < 128 ∨ bt s ((k : Int) + 2) > 191
       ·rw [if_pos c2]
        have : Lib.decodeN (s.size - k) b0 b1 b2 b3 = (65533, 1) := by
         simp only [Lib.decodeN]
         repeat' split
         all_goals first | rfl | (exfalso; omega)
        rw [this]; rfl
       ·rw [if_neg c2]
        rw [show (2 : Int) + 1 = 3 from rfl]
        rw [point_step 4 s k 4 (((bt s (k : Int) - 240) * 64 + bt s ((k : Int) + 1) - 128) * 64 + bt s ((k : Int) + 2) - 128) 3 (by omega) (by omega) (by omega) (by omega) hm (by omega) (by omega)]
        by_cases c3 : bt s ((k : Int) + 3) < 128 ∨ bt s ((k : Int) + 3) > 191
        ·rw [if_pos c3]
         have : Lib.decodeN (s.size - k) b0 b1 b2 b3 = (65533, 1) := by
          simp only [Lib.decodeN]
          repeat' split
          all_goals first | rfl | (exfalso; omega)
         rw [this]; rfl
        ·rw [if_neg c3]
         rw [show (3 : Int) + 1 = 4 from rfl]
         rw [point_end]
         by_cases ce : (((((bt s (k : Int) - 240) * 64 + bt s ((k : Int) + 1) - 128) * 64 + bt s ((k : Int) + 2) - 128) * 64 + bt s ((k : Int) + 3) - 128) < 65536 ∨ ((((bt s (k : Int) - 240) * 64 + bt s ((k : Int) + 1) - 128) * 64 + bt s ((k : Int) + 2) - 128) * 64 + bt s ((k : Int) + 3) - 128) > 1114111)
         ·rw [if_pos (.inr ⟨rfl, ce⟩)]
          have : Lib.decodeN (s.size - k) b0 b1 b2 b3 = (65533, 1) := by
           simp only [Lib.decodeN]
           repeat' split
           all_goals first | rfl | (exfalso; omega)
          rw [this]; rfl
         ·rw [if_neg (by omega)]
          have : (Lib.decodeN (s.size - k) b0 b1 b2 b3).2 = 4 := by
           simp only [Lib.decodeN]
           repeat' split
           all_goals first | rfl | (exfalso; omega)
          rw [if_neg (fun he => by rw [he] at this; cases this), this]
          rfl
    ·have hz : (if bt s (k : Int) ≥ 240 then if bt s (k : Int) ≤ 244 then heddleref01_point.j2 8 s (k : Int) 4 (wrap64 (wrap64 (bt s (k : Int)) - 240)) else some 0 else some 0) = some 0 := by
      repeat' split
      all_goals first | rfl | (exfalso; omega)
     rw [hz]
     clear hz
     have : Lib.decodeN (s.size - k) b0 b1 b2 b3 = (65533, 1) := by
      simp only [Lib.decodeN]
      repeat' split
      all_goals first | rfl | (exfalso; omega)
     rw [this]; rfl
theorem leO_up {α : Type} {f : Nat → Option α} (hm : ∀ k, LeO (f k) (f (k + 1))) {k0 : Nat} {r : α} (h : f k0 = some r) : ∀ k, k0 ≤ k → f k = some r := by
 intro k hk
 obtain ⟨d, rfl⟩ : ∃ d, k = k0 + d := ⟨k - k0, by omega⟩
 clear hk
 induction d with
 | zero => exact h
 | succ d ih => exact hm _ _ ih
theorem point_up (s : ByteArray) (k n : Nat) (hn : 10 ≤ n) (h : k < s.size) (hm : s.size ≤ 140737488351232) : heddleref01_point.f n s (k : Int) = some ((ptOf s k : Nat) : Int) :=
 leO_up (f := fun n => heddleref01_point.f n s (k : Int)) (fun n => heddleref01_point.mono _ _ n) (point_eq s k h hm) n hn
theorem ptOf_zero {s : ByteArray} {k : Nat} : ptOf s k = 0 ↔ Utf8.decode s k = (65533, 1) := by
 unfold ptOf
 have := Lib.width_pos s k
 by_cases h : Utf8.decode s k = (65533, 1)
 ·simp [h]
 ·simp [h]; omega
theorem utf_l0 (s : ByteArray) (hm : s.size ≤ 140737488351232) : ∀ (d k n : Nat), s.size - k = d → k ≤ s.size + 4 → d + 11 ≤ n → heddleref01_UTF.l0 n s (k : Int) = some (utfBad s k) := by
 intro d
 induction d using Nat.strongRecOn with
 | _ d ih =>
  intro k n hd hk hn
  obtain ⟨n, rfl⟩ : ∃ m, n = m + 1 := ⟨n - 1, by omega⟩
  simp only [heddleref01_UTF.l0]
  by_cases h : k < s.size
  ·rw [if_pos (by omega), point_up s k n (by omega) h hm]
   simp only [Option.bind_some]
   by_cases hz : Utf8.decode s k = (65533, 1)
   ·rw [if_pos (by rw [ptOf_zero.2 hz]; rfl), utfBad_here h hz]
   ·have hp : ptOf s k = (Utf8.decode s k).2 := by unfold ptOf; rw [if_neg hz]
    have hw := Lib.width_pos s k
    have hw4 : (Utf8.decode s k).2 ≤ 4 := by
     rw [Lib.decode_at]
     simp only [Lib.decodeN]
     repeat' split
     all_goals simp
    rw [hp, if_neg (by omega), w64 (by omega) (by omega)]
    rw [show ((k : Int) + ((Utf8.decode s k).2 : Int)) = ((k + (Utf8.decode s k).2 : Nat) : Int) from by simp]
    rw [ih (s.size - (k + (Utf8.decode s k).2)) (by omega) _ n rfl (by omega) (by omega), utfBad_on h hz]
  ·rw [if_neg (by omega), utfBad_out (by omega)]
theorem UTF_any (s : ByteArray) (hm : s.size ≤ 140737488351232) (w : World) :
  Calls Tryz.prog 143 #[.string s] w fun e w' => e = .returned (.int .i64 (utfBad s 0)) ∧ Drawn0 w w' :=
 heddleref01_UTF.calls (s.size + 11) s (utfBad s 0) w (by
  unfold heddleref01_UTF.f
  exact utf_l0 s hm s.size 0 _ (by omega) (by omega) (by omega))
end Go.Proofs.YtibbcfeaododhaaGreatDoor
namespace Go.Proofs.YtibbcfeaododhaaGreatDoor
open Go.RowKit Go.Proofs.YtibbcfeaododhaaGreatDoorW.PrintWords
theorem strOfNums_size (l : List Int) : (strOfNums l).size = l.length := by
 rw [Lib.size_eq, strOfNums_data, List.length_map]
end Go.Proofs.YtibbcfeaododhaaGreatDoor
namespace Go.Proofs.YtibbcfeaododhaaGreatDoor
open Go.RowKit Go.Proofs.YtibbcfeaododhaaGreatDoorW.PrintWords
def hexD (n : Int) : Int := if n < 10 then 48 + n else 87 + n
/-- A byte as it stands in a quoted atom. -/
def qB (c : Int) : List Int :=
 if c = 39 ∨ c = 92 then [92, c] else if c = 10 then [92, 110] else if c = 9 then [92, 116] else if c = 13 then [92, 114]
 else if c < 32 ∨ c = 127 then [92, 120, hexD (c / 16), hexD (c % 16)] else [c]
def qPre (s : ByteArray) (k : Nat) : List Int := 39 :: ((bs s).take k).flatMap qB
def quoteOf (s : ByteArray) : List Int := 39 :: ((bs s).flatMap qB ++ [39])
def quoted (s : ByteArray) : ByteArray × List Lk :=
 if s.size > 255 then (⟨#[]⟩, [⟨nAtom, 0, 4⟩])
 else if 0 ≤ utfBad s 0 then (⟨#[]⟩, [⟨nAtom, utfBad s 0, 23⟩])
 else if isPlain s then (s, []) else (strOfNums (quoteOf s), [])
def StrPost (w : World) (r : ByteArray × List Lk) (e : Ending) (w' : World) : Prop := ∃ v, e = .returned (.tuple #[.string r.1, v]) ∧ ErrIs w' r.2 v ∧ Below w.heap.size w w'
def StrR (w : World) (r : ByteArray × List Lk) (e : Ending) (w' : World) : Prop := ∃ v, e = .returned (.tuple #[.string r.1, v]) ∧ LnIs w' w.heap.size r.2 v ∧ Below w.heap.size w w'
theorem qB_len (c : Int) : (qB c).length ≤ 4 := by
 unfold qB
 repeat' split
 all_goals simp
theorem flat_len : ∀ l : List Int, (l.flatMap qB).length ≤ 4 * l.length
 | [] => by simp
 | c :: l => by
  have h1 := qB_len c
  have h2 := flat_len l
  simp only [List.flatMap_cons, List.length_append, List.length_cons]
  omega
theorem qPre_len (s : ByteArray) (k : Nat) : (qPre s k).length ≤ 1 + 4 * k := by
 have h1 := flat_len ((bs s).take k)
 have h2 : ((bs s).take k).length ≤ k := List.length_take_le _ _
 unfold qPre
 simp only [List.length_cons]
 omega
theorem qPre_succ {s : ByteArray} {k : Nat} (h : k < s.size) : qPre s (k + 1) = qPre s k ++ qB (bt s (k : Int)) := by
 unfold qPre
 rw [List.take_succ_eq_append_getElem (by rw [bs_len]; exact h), bs_get s k h]
 simp
theorem qPre_end {s : ByteArray} {k : Nat} (h : s.size ≤ k) : qPre s k ++ [39] = quoteOf s := by
 unfold qPre quoteOf
 rw [List.take_of_length_le (by rw [bs_len]; exact h)]
 rfl
section
variable {P : Program} {ops : Array Oper} {rest : List Oper} {o : Oper} {a : Act} {Q : Exit → Act → World → Prop}
/-- append of a literal row of bytes -/
theorem append_lit {w0 W : World} (base : Nat) (hgd : o.guard = none) (s x : Operand) (t e : TypeId)
  (ho : o.op = .call { callee := .builtin .append, args := #[s, x], argTypes := #[t, t] })
  (ht : P.underlying t = some (.slice e)) (hinfo : (P.info? e).map (fun i => (i.zero, i.size, i.bytes)) = some (some (.int .u8 0), 1, 1))
  (v : Value) (xs ys : List Int) (hs : a.eval s = v) (hx : a.eval x = .slice (some ⟨W.heap.size, 0, none⟩) ys.length ys.length)
  (HO : W.ownsRow base e 1 v xs.length (nums .u8 xs)) (HB : Below base w0 W) (hbase : base ≤ W.heap.size) (hl : xs.length + ys.length ≤ 140737488355328)
  (h : ∀ v1 w1, w1.ownsRow base e 1 v1 (xs ++ ys).length (nums .u8 (xs ++ ys)) → Below base w0 w1 → W.grownBy w1 v.ownBlock → wpList P ops Q rest (a.put o.dst v1) w1) :
  wpList P ops Q (o :: rest) a (W.alloc (.cells (nums .u8 ys).toArray e)) :=
 print_append_row base hgd s x t e .u8 1 ho ht hinfo (by decide) v xs ys (some ⟨W.heap.size, 0, none⟩) ys.length ys.length hs hx (HO.alloc _)
  (own_reads' (own_lit W base e .u8 ys hbase (by omega))) (HB.alloc hbase _) (by simp; omega) (by omega)
  fun v1 w1 ho hb hg _ => h v1 w1 ho hb (World.grownBy.trans (World.grownBy_alloc W _ _) hg)
end
theorem ne_marked {w : World} {base : Nat} {e : TypeId} {size n bb : Nat} {v : Value} {xs : List Value} {C : Array Value} {e' m : Nat} (h : w.ownsRow base e size v n xs) (hb : w.heap[bb]? = some (.cells C e' (m, m + 1))) : some bb ≠ v.ownBlock := by
 rcases h.2 with ⟨rfl, _⟩ | ⟨g, cap, cur, rfl, _, hg, _⟩
 ·simp [Value.ownBlock]
 ·intro he
  simp only [Value.ownBlock, Option.some.injEq] at he
  subst he
  rw [hg] at hb
  injection hb with hb
  injection hb with _ _ hm
  injection hm with h1 h2
  omega
theorem grown_heap {w w' : World} {row : Option Nat} {b : Nat} (h : w.grownBy w' row) (hb : b < w.heap.size) (hne : some b ≠ row) : w'.heap[b]? = w.heap[b]? := h.block b hb hne
theorem cell_heap {w w' : World} {b j : Nat} (h : w'.heap[b]? = w.heap[b]?) : w'.cell? ⟨b, j, none⟩ = w.cell? ⟨b, j, none⟩ := by
 simp [World.cell?, h]
theorem bytes_cell (W : World) (e : TypeId) (s : ByteArray) (k : Nat) (h : k < s.size) : (Lib.bytesWorld W e s).cell? ⟨W.heap.size, k, none⟩ = some (.int .u8 (bt s (k : Int))) := by
 rw [Lib.bytesWorld_cell W e s k h]
 have h1 := rd_bytesOf s (k : Int)
 rw [← h1]
 have h' : k < s.data.toList.length := by rw [← Lib.size_eq]; exact h
 simp [rd, bytesOf, List.getD_eq_getElem?_getD, List.getElem?_eq_getElem h']
theorem heap_alloc_old (W : World) (o : Obj) (b : Nat) (h : b < W.heap.size) : (W.alloc o).drew.heap[b]? = W.heap[b]? := by
 show (W.alloc o).heap[b]? = _
 simp only [World.alloc]
 rw [Array.getElem?_push_lt h, Array.getElem?_eq_getElem h]
theorem own_hex {w5 : World} {base : Nat} {e : TypeId} {v : Value} {xs : List Int} {a b : Int} (h : w5.ownsRow base e 1 v (xs.length + 4) (nums .u8 xs ++ [.int .u8 92, .int .u8 120, .int .u8 a, .int .u8 b])) :
  w5.ownsRow base e 1 v (xs ++ [92, 120, a, b]).length (nums .u8 (xs ++ [92, 120, a, b])) := by
 rw [nums_append, List.length_append]
 exact h
theorem one_four (a b : Int) : ∀ u ∈ [Value.int .u8 92, .int .u8 120, .int .u8 a, .int .u8 b], u.oneCell' = true := by
 intro u hu
 simp only [List.mem_cons, List.not_mem_nil, or_false] at hu
 rcases hu with rfl | rfl | rfl | rfl <;> rfl
theorem and_fifteen {c : Int} (h0 : 0 ≤ c) (h1 : c ≤ 255) : bits BinOp.and .u8 c 15 = c % 16 := by
 rw [u8_and c 15 h0 (by omega) (by decide) (by decide)]
 have := Nat.and_two_pow_sub_one_eq_mod c.toNat 4
 simp only [show (2 ^ 4 - 1 : Nat) = 15 from rfl, show (2 ^ 4 : Nat) = 16 from rfl] at this
 rw [show (15 : Int).toNat = 15 from rfl, this]
 omega
theorem hex_index (D : Int) (h0 : 0 ≤ D) (h1 : D < 16) (w : World) : (Instr.index 9 (.string ⟨#[48, 49, 50, 51, 52, 53, 54, 55, 56, 57, 97, 98, 99, 100, 101, 102]⟩) (.int .u8 D)).run Tryz.prog w = .ok (.int .u8 (hexD D)) w := by
 obtain ⟨n, rfl⟩ := Int.eq_ofNat_of_zero_le h0
 have : n < 16 := by omega
 obtain rfl | rfl | rfl | rfl | rfl | rfl | rfl | rfl | rfl | rfl | rfl | rfl | rfl | rfl | rfl | rfl : n = 0 ∨ n = 1 ∨ n = 2 ∨ n = 3 ∨ n = 4 ∨ n = 5 ∨ n = 6 ∨ n = 7 ∨ n = 8 ∨ n = 9 ∨ n = 10 ∨ n = 11 ∨ n = 12 ∨ n = 13 ∨ n = 14 ∨ n = 15 := by omega
 all_goals (show _ = _; kernel_rfl)
set_option maxRecDepth 100000 in
set_option maxHeartbeats 4000000 in
theorem atom_Quote (s : ByteArray) (hm : s.size ≤ 140737488351232) (w : World) (hG : Glob w) :
  Calls Tryz.prog 130 #[.string s] w (StrPost w (quoted s)) := by
 obtain ⟨R, hR⟩ : ∃ R, R = quoted s := ⟨_, rfl⟩
 rw [← hR]
 unfold quoted at hR
 have HST := Lib.hid (strange_any s w hG)
 clear hG
 by_cases hl : s.size > 255
 ·have hd : decide ((s.size : Int) > 255) = true := decide_eq_true (by omega)
  rw [if_pos hl] at hR
  have HQ := Lib.hid hR
  clear hR hl
  go_enter Tryz.func130, Tryz.ntmps130
  go_wp2_with fail
  refine (atom_refused _ _ _).mono ?_
  rintro e w1 ⟨ve, rfl, hE, hB1⟩
  have HE := Lib.hid hE
  have HB1 := Lib.hid hB1
  clear hE hB1
  go_wp2_with fail
  go_ret2
  exact ⟨_, by rw [HQ.out]; rfl, by rw [HQ.out]; exact HE.out, HB1.out⟩
 ·have hd : decide ((s.size : Int) > 255) = false := decide_eq_false (by omega)
  rw [if_neg hl] at hR
  have hs255 : s.size ≤ 255 := by omega
  by_cases hu : 0 ≤ utfBad s 0
  ·have hd2 : decide (utfBad s 0 ≥ 0) = true := decide_eq_true hu
   rw [if_pos hu] at hR
   have HQ := Lib.hid hR
   clear hR hl hu
   go_enter Tryz.func130, Tryz.ntmps130
   go_wp2_with fail
   refine HST.out.mono ?_
   rintro e w1 ⟨rfl, hB0⟩
   have HB0 := Lib.hid hB0
   clear hB0
   go_wp2_with fail
   refine (atom_refused _ _ _).mono ?_
   rintro e w2 ⟨ve, rfl, hE, hB1⟩
   have HE := Lib.hid hE
   have HB1 := Lib.hid (trans_below HB0.out hB1)
   clear hE hB1
   go_wp2_with fail
   go_ret2
   exact ⟨_, by rw [HQ.out]; rfl, by rw [HQ.out]; exact HE.out, HB1.out⟩
  ·have hd2 : decide (utfBad s 0 ≥ 0) = false := decide_eq_false hu
   rw [if_neg hu] at hR
   cases hp : isPlain s with
   | true =>
    rw [hp, if_pos rfl] at hR
    have HQ := Lib.hid hR
    clear hR hl hu
    go_enter Tryz.func130, Tryz.ntmps130
    go_wp2_with fail
    refine HST.out.mono ?_
    rintro e w1 ⟨rfl, hB0⟩
    have HB0 := Lib.hid hB0
    clear hB0
    go_wp2_with fail
    refine (atom_plain _ hm _).mono ?_
    rintro e w' ⟨rfl, rfl⟩
    go_wp2_with fail
    go_ret2
    exact ⟨_, by rw [HQ.out]; rfl, by rw [HQ.out]; rfl, HB0.out⟩
   | false =>
    rw [hp, if_neg (by simp)] at hR
    have HQ := Lib.hid hR
    have kb := fun W => print_bytes (P := Tryz.prog) 9 104 5 Tryz.underlying9 Tryz.underlying104 Tryz.underlying5 s W
    clear hR hl hu
    go_enter Tryz.func130, Tryz.ntmps130
    go_wp2_with fail
    refine HST.out.mono ?_
    rintro e w1 ⟨rfl, hB0⟩
    have HB0 := Lib.hid hB0
    clear hB0
    go_wp2_with fail
    refine (atom_plain _ hm _).mono ?_
    rintro e w' ⟨rfl, rfl⟩
    go_wp2_with fail
    have hb1 : w.heap.size ≤ w1.heap.size := HB0.out.size
    have ho0 := pw_own_below (own_lit w1 w.heap.size 5 .u8 [39] hb1 (by decide)) (Lib.bytesWorld_below (w1.alloc (.cells (nums .u8 [39]).toArray 5)) 5 s)
    have hb0 := trans_below (trans_below HB0.out (below_alloc (Below.refl _ _) (.cells #[.int .u8 39] 5))) (Lib.bytesWorld_below (w1.alloc (.cells #[.int .u8 39] 5)) 5 s)
    have HBC := Lib.hid (bytes_cell (w1.alloc (.cells #[.int .u8 39] 5)) 5 s)
    have HBM := Lib.hid (Lib.bytesWorld_at_new (w1.alloc (.cells #[.int .u8 39] 5)) 5 s)
    have hwsz : (w1.alloc (.cells #[.int .u8 39] 5)).heap.size = w1.heap.size + 1 := by simp
    rw [hwsz] at HBC HBM
    obtain ⟨w0, hw0⟩ : ∃ W, W = Lib.bytesWorld (w1.alloc (.cells #[.int .u8 39] 5)) 5 s := ⟨_, rfl⟩
    have hw0sz : w1.heap.size + 1 < w0.heap.size := by rw [hw0, Lib.bytesWorld_size, hwsz]; omega
    rw [← hw0] at hb0 HBC HBM
    rw [← hw0]
    have ho1 : w0.ownsRow w.heap.size 5 1 (.slice (some ⟨w1.heap.size, 0, none⟩) 1 1) [39].length (nums .u8 [39]) := by rw [hw0]; exact ho0
    have HO0 := Lib.hid ho1
    have HB0 := Lib.hid hb0
    obtain ⟨bb, hbb⟩ : ∃ n, n = w1.heap.size + 1 := ⟨_, rfl⟩
    rw [← hbb] at HBC HBM hw0sz
    rw [← hbb]
    obtain ⟨cp0, hcp0⟩ : ∃ n, n = grownCap (w1.alloc (.cells #[.int .u8 39] 5)) s.size 0 5 := ⟨_, rfl⟩
    rw [← hcp0]
    have HW0 := Lib.hid hw0sz
    clear hw0 hb0 ho0 ho1 hwsz hbb hcp0 hw0sz kb hb1
    go_loopg [5, 25] s.size (fun gk vb vi wl => ∃ (k : Nat) (v0 : Value), v0 = vb ∧ vi = .int .i64 (k : Int) ∧ gk = s.size - k ∧ k ≤ s.size ∧ Hid (wl.ownsRow w.heap.size 5 1 v0 (qPre s k).length (nums .u8 (qPre s k))) ∧ Hid (Below w.heap.size w wl) ∧ Hid (wl.heap[bb]? = w0.heap[bb]?))
    case atStart => exact ⟨0, _, rfl, rfl, rfl, Nat.zero_le _, HO0.out, HB0.out, rfl⟩
    case round =>
     clear HO0 HB0
     obtain ⟨k, vb, rfl, rfl, hgk, hk, HO, HB, HI⟩ := hrel
     have HK := Lib.hid hgk
     clear hgk
     have hqn := qPre_len s k
     have HLE : Hid (∀ n, n ≤ 4 → (qPre s k).length + n ≤ 140737488355328) := Lib.hid fun n hn => by omega
     clear hqn
     by_cases hlt : k < s.size
     ·have hx0 : (0 : Int) ≤ (k : Int) := by omega
      have hx1 : (k : Int) < (s.size : Int) := by omega
      have hcell : wr.cell? ⟨bb, k, none⟩ = some (.int .u8 (bt s (k : Int))) := (cell_heap HI.out).trans (HBC.out k hlt)
      have HNB : Hid (some bb ≠ vb.ownBlock) := Lib.hid (ne_marked HO.out (HI.out.trans HBM.out))
      have HLT : Hid (bb < wr.heap.size) := Lib.hid (World.block_lt_of_cell? wr _ hcell)
      have hr := bt_range s (k : Int)
      have hqs := qPre_succ hlt
      generalize bt s (k : Int) = c at hcell hr hqs
      by_cases c0 : c = 39 ∨ c = 92
      ·have HS : Hid (qPre s (k + 1) = qPre s k ++ [92, c]) := Lib.hid (by rw [hqs]; unfold qB; rw [if_pos c0])
       clear hqs
       by_cases c39 : c = 39
       ·have d0 : (c == 39) = true := beq_iff_eq.2 c39
        clear c0 c39
        go_wp2_with (at_builtin; refine append_lit (w0 := w) w.heap.size rfl (.tmp 52) (.tmp 54) 104 5 rfl Tryz.underlying104 infoU8 vb (qPre s k) [92, c] rfl ?hx ?hO ?hB ?hbs ?hl ?_; (case hx => first | rfl | (simp [Act.eval]; done)); (case hO => exact HO.out); (case hB => exact HB.out); (case hbs => exact HB.out.size); (case hl => exact HLE.out _ (by first | decide | simp)); intro v1 w5 ho hb hg; have HO5 := Lib.hid ho; have HB5 := Lib.hid hb; have HI5 : Hid (w5.heap[bb]? = w0.heap[bb]?) := Lib.hid ((grown_heap hg HLT.out HNB.out).trans HI.out); clear ho hb hg)
        go_wp2_with fail
        go_roundg (s.size - (k + 1))
        case measure => rw [HK.out]; omega
        case rel => exact ⟨k + 1, _, rfl, by go_num, rfl, by omega, by rw [HS.out]; exact HO5.out, HB5.out, HI5.out⟩
       ·have d0 : (c == 39) = false := beq_eq_false_iff_ne.2 c39
        have d1 : (c == 92) = true := beq_iff_eq.2 (c0.resolve_left c39)
        clear c0 c39
        go_wp2_with (at_builtin; refine append_lit (w0 := w) w.heap.size rfl (.tmp 52) (.tmp 54) 104 5 rfl Tryz.underlying104 infoU8 vb (qPre s k) [92, c] rfl ?hx ?hO ?hB ?hbs ?hl ?_; (case hx => first | rfl | (simp [Act.eval]; done)); (case hO => exact HO.out); (case hB => exact HB.out); (case hbs => exact HB.out.size); (case hl => exact HLE.out _ (by first | decide | simp)); intro v1 w5 ho hb hg; have HO5 := Lib.hid ho; have HB5 := Lib.hid hb; have HI5 : Hid (w5.heap[bb]? = w0.heap[bb]?) := Lib.hid ((grown_heap hg HLT.out HNB.out).trans HI.out); clear ho hb hg)
        go_wp2_with fail
        go_roundg (s.size - (k + 1))
        case measure => rw [HK.out]; omega
        case rel => exact ⟨k + 1, _, rfl, by go_num, rfl, by omega, by rw [HS.out]; exact HO5.out, HB5.out, HI5.out⟩
      ·have d0 : (c == 39) = false := beq_eq_false_iff_ne.2 fun h => c0 (.inl h)
       have d1 : (c == 92) = false := beq_eq_false_iff_ne.2 fun h => c0 (.inr h)
       by_cases c10 : c = 10
       ·have d2 : (c == 10) = true := beq_iff_eq.2 c10
        have HS : Hid (qPre s (k + 1) = qPre s k ++ bytesOf ⟨#[92, 110]⟩) := Lib.hid (by rw [hqs]; unfold qB; rw [if_neg c0, if_pos c10]; rfl)
        clear hqs c0 c10
        go_wp2_with (at_builtin; refine print_append_str (w0 := w) w.heap.size rfl (.tmp 58) _ 104 9 5 rfl Tryz.underlying104 Tryz.underlying9 infoU8 vb (qPre s k) ⟨#[92, 110]⟩ rfl rfl ?hO ?hB ?hbs ?hl ?_; (case hO => exact HO.out); (case hB => exact HB.out); (case hbs => exact HB.out.size); (case hl => exact HLE.out _ (by first | decide | simp)); intro v1 w5 ho hb hg; have HO5 := Lib.hid ho; have HB5 := Lib.hid hb; have HI5 : Hid (w5.heap[bb]? = w0.heap[bb]?) := Lib.hid ((grown_heap hg HLT.out HNB.out).trans HI.out); clear ho hb hg)
        go_wp2_with fail
        go_roundg (s.size - (k + 1))
        case measure => rw [HK.out]; omega
        case rel => exact ⟨k + 1, _, rfl, by go_num, rfl, by omega, by rw [HS.out]; exact HO5.out, HB5.out, HI5.out⟩
       ·have d2 : (c == 10) = false := beq_eq_false_iff_ne.2 c10
        by_cases c9 : c = 9
        ·have d3 : (c == 9) = true := beq_iff_eq.2 c9
         have HS : Hid (qPre s (k + 1) = qPre s k ++ bytesOf ⟨#[92, 116]⟩) := Lib.hid (by rw [hqs]; unfold qB; rw [if_neg c0, if_neg c10, if_pos c9]; rfl)
         clear hqs c0 c10 c9
         go_wp2_with (at_builtin; refine print_append_str (w0 := w) w.heap.size rfl (.tmp 62) _ 104 9 5 rfl Tryz.underlying104 Tryz.underlying9 infoU8 vb (qPre s k) ⟨#[92, 116]⟩ rfl rfl ?hO ?hB ?hbs ?hl ?_; (case hO => exact HO.out); (case hB => exact HB.out); (case hbs => exact HB.out.size); (case hl => exact HLE.out _ (by first | decide | simp)); intro v1 w5 ho hb hg; have HO5 := Lib.hid ho; have HB5 := Lib.hid hb; have HI5 : Hid (w5.heap[bb]? = w0.heap[bb]?) := Lib.hid ((grown_heap hg HLT.out HNB.out).trans HI.out); clear ho hb hg)
         go_wp2_with fail
         go_roundg (s.size - (k + 1))
         case measure => rw [HK.out]; omega
         case rel => exact ⟨k + 1, _, rfl, by go_num, rfl, by omega, by rw [HS.out]; exact HO5.out, HB5.out, HI5.out⟩
        ·have d3 : (c == 9) = false := beq_eq_false_iff_ne.2 c9
         by_cases c13 : c = 13
         ·have d4 : (c == 13) = true := beq_iff_eq.2 c13
          have HS : Hid (qPre s (k + 1) = qPre s k ++ bytesOf ⟨#[92, 114]⟩) := Lib.hid (by rw [hqs]; unfold qB; rw [if_neg c0, if_neg c10, if_neg c9, if_pos c13]; rfl)
          clear hqs c0 c10 c9 c13
          go_wp2_with (at_builtin; refine print_append_str (w0 := w) w.heap.size rfl (.tmp 66) _ 104 9 5 rfl Tryz.underlying104 Tryz.underlying9 infoU8 vb (qPre s k) ⟨#[92, 114]⟩ rfl rfl ?hO ?hB ?hbs ?hl ?_; (case hO => exact HO.out); (case hB => exact HB.out); (case hbs => exact HB.out.size); (case hl => exact HLE.out _ (by first | decide | simp)); intro v1 w5 ho hb hg; have HO5 := Lib.hid ho; have HB5 := Lib.hid hb; have HI5 : Hid (w5.heap[bb]? = w0.heap[bb]?) := Lib.hid ((grown_heap hg HLT.out HNB.out).trans HI.out); clear ho hb hg)
          go_wp2_with fail
          go_roundg (s.size - (k + 1))
          case measure => rw [HK.out]; omega
          case rel => exact ⟨k + 1, _, rfl, by go_num, rfl, by omega, by rw [HS.out]; exact HO5.out, HB5.out, HI5.out⟩
         ·have d4 : (c == 13) = false := beq_eq_false_iff_ne.2 c13
          by_cases chx : c < 32 ∨ c = 127
          ·have HS : Hid (qPre s (k + 1) = qPre s k ++ [92, 120, hexD (c / 16), hexD (c % 16)]) := Lib.hid (by rw [hqs]; unfold qB; rw [if_neg c0, if_neg c10, if_neg c9, if_neg c13, if_pos chx])
           clear hqs c0 c10 c9 c13
           by_cases c32 : c < 32
           ·have d5 : decide (c < 32) = true := decide_eq_true c32
            clear chx c32
            obtain ⟨D1, hD1⟩ : ∃ D, D = c / 16 := ⟨_, rfl⟩
            obtain ⟨D2, hD2⟩ : ∃ D, D = c % 16 := ⟨_, rfl⟩
            have hc16 := hD1.symm
            have hcr := hD2.symm
            have hand : bits BinOp.and .u8 c 15 = D2 := by rw [and_fifteen hr.1 hr.2, hcr]
            have x10 : (0 : Int) ≤ D1 := by omega
            have x11 : D1 < 16 := by omega
            have x20 : (0 : Int) ≤ D2 := by omega
            have x21 : D2 < 16 := by omega
            have hi1 := hex_index D1 x10 x11
            have hi2 := hex_index D2 x20 x21
            rw [hc16, hcr] at HS
            clear hD1 hD2
            go_wp2_with fail
            obtain ⟨i0, hi0, hz0, hz1, hz2⟩ := info_parts infoU8
            obtain ⟨O, hOO⟩ : ∃ o : Obj, o = .cells #[.int .u8 92, .int .u8 120, .int .u8 (hexD D1), .int .u8 (hexD D2)] 5 := ⟨_, rfl⟩
            have HOA := Lib.hid ((HO.out.alloc O).drew)
            have HBA := Lib.hid ((below_alloc HB.out O).drew)
            have HIA := Lib.hid ((heap_alloc_old wr O bb HLT.out).trans HI.out)
            have HNW := Lib.hid (World.news_of_block (w := (wr.alloc O).drew) (B := wr.heap.size) (show (wr.alloc O).drew.heap[wr.heap.size]? = _ by rw [hOO]; exact heap_alloc_new wr _))
            have HZ9 : Hid ((wr.alloc O).drew.heap.size = wr.heap.size + 1) := Lib.hid (by show (wr.alloc O).heap.size = _; simp)
            rw [hOO] at HOA HBA HIA HNW HZ9
            have HON : Hid (∀ u ∈ [Value.int .u8 92, .int .u8 120, .int .u8 (hexD D1), .int .u8 (hexD D2)], u.oneCell' = true) := Lib.hid (one_four _ _)
            have HL63 : Hid ((qPre s k).length + 4 ≤ maxLen) := Lib.hid (by unfold maxLen; have := HLE.out 4 (by decide); omega)
            have HLBY : Hid (((qPre s k).length + 4) * 1 ≤ 140737488355328) := Lib.hid (by have := HLE.out 4 (by decide); omega)
            clear hOO
            go_region_held3 (fun _ => True) (trivial) (first | ((refine step_append_lies _ (by rfl) (.tmp 36) (.tmp 43) 104 (by rfl) w.heap.size 5 i0 (.int .u8 0) 1 1 Tryz.underlying104 hi0 hz0 hz1 hz2 rfl (by decide) vb (qPre s k).length (nums .u8 (qPre s k)) (by rfl) HOA.out ⟨wr.heap.size, 0, none⟩ 4 4 [.int .u8 92, .int .u8 120, .int .u8 (hexD D1), .int .u8 (hexD D2)] (by rfl) rfl HNW.out HON.out (by decide) HL63.out HLBY.out HBA.out.size (wr.heap.size + 1) HZ9.out ?_; intro g cap w5 hown hgrow _ _; have HO5 := Lib.hid (own_hex hown); have HB5 : Hid (Below w.heap.size w w5) := Lib.hid (HBA.out.grown hgrow HBA.out.size (own_base HO.out)); have HI5 : Hid (w5.heap[bb]? = w0.heap[bb]?) := Lib.hid ((grown_heap hgrow (by rw [HZ9.out]; exact Nat.lt_succ_of_lt HLT.out) HNB.out).trans HIA.out); clear hown hgrow)))
            all_goals
             go_wp2_with fail
             go_roundg (s.size - (k + 1))
             case measure => rw [HK.out]; omega
             case rel => exact ⟨k + 1, _, rfl, by go_num, rfl, by omega, by rw [HS.out]; exact HO5.out, HB5.out, HI5.out⟩
           ·have d5 : decide (c < 32) = false := decide_eq_false c32
            have d6 : (c == 127) = true := beq_iff_eq.2 (chx.resolve_left c32)
            clear chx c32
            obtain ⟨D1, hD1⟩ : ∃ D, D = c / 16 := ⟨_, rfl⟩
            obtain ⟨D2, hD2⟩ : ∃ D, D = c % 16 := ⟨_, rfl⟩
            have hc16 := hD1.symm
            have hcr := hD2.symm
            have hand : bits BinOp.and .u8 c 15 = D2 := by rw [and_fifteen hr.1 hr.2, hcr]
            have x10 : (0 : Int) ≤ D1 := by omega
            have x11 : D1 < 16 := by omega
            have x20 : (0 : Int) ≤ D2 := by omega
            have x21 : D2 < 16 := by omega
            have hi1 := hex_index D1 x10 x11
            have hi2 := hex_index D2 x20 x21
            rw [hc16, hcr] at HS
            clear hD1 hD2
            go_wp2_with fail
            obtain ⟨i0, hi0, hz0, hz1, hz2⟩ := info_parts infoU8
            obtain ⟨O, hOO⟩ : ∃ o : Obj, o = .cells #[.int .u8 92, .int .u8 120, .int .u8 (hexD D1), .int .u8 (hexD D2)] 5 := ⟨_, rfl⟩
            have HOA := Lib.hid ((HO.out.alloc O).drew)
            have HBA := Lib.hid ((below_alloc HB.out O).drew)
            have HIA := Lib.hid ((heap_alloc_old wr O bb HLT.out).trans HI.out)
            have HNW := Lib.hid (World.news_of_block (w := (wr.alloc O).drew) (B := wr.heap.size) (show (wr.alloc O).drew.heap[wr.heap.size]? = _ by rw [hOO]; exact heap_alloc_new wr _))
            have HZ9 : Hid ((wr.alloc O).drew.heap.size = wr.heap.size + 1) := Lib.hid (by show (wr.alloc O).heap.size = _; simp)
            rw [hOO] at HOA HBA HIA HNW HZ9
            have HON : Hid (∀ u ∈ [Value.int .u8 92, .int .u8 120, .int .u8 (hexD D1), .int .u8 (hexD D2)], u.oneCell' = true) := Lib.hid (one_four _ _)
            have HL63 : Hid ((qPre s k).length + 4 ≤ maxLen) := Lib.hid (by unfold maxLen; have := HLE.out 4 (by decide); omega)
            have HLBY : Hid (((qPre s k).length + 4) * 1 ≤ 140737488355328) := Lib.hid (by have := HLE.out 4 (by decide); omega)
            clear hOO
            go_region_held3 (fun _ => True) (trivial) (first | ((refine step_append_lies _ (by rfl) (.tmp 36) (.tmp 43) 104 (by rfl) w.heap.size 5 i0 (.int .u8 0) 1 1 Tryz.underlying104 hi0 hz0 hz1 hz2 rfl (by decide) vb (qPre s k).length (nums .u8 (qPre s k)) (by rfl) HOA.out ⟨wr.heap.size, 0, none⟩ 4 4 [.int .u8 92, .int .u8 120, .int .u8 (hexD D1), .int .u8 (hexD D2)] (by rfl) rfl HNW.out HON.out (by decide) HL63.out HLBY.out HBA.out.size (wr.heap.size + 1) HZ9.out ?_; intro g cap w5 hown hgrow _ _; have HO5 := Lib.hid (own_hex hown); have HB5 : Hid (Below w.heap.size w w5) := Lib.hid (HBA.out.grown hgrow HBA.out.size (own_base HO.out)); have HI5 : Hid (w5.heap[bb]? = w0.heap[bb]?) := Lib.hid ((grown_heap hgrow (by rw [HZ9.out]; exact Nat.lt_succ_of_lt HLT.out) HNB.out).trans HIA.out); clear hown hgrow)))
            all_goals
             go_wp2_with fail
             go_roundg (s.size - (k + 1))
             case measure => rw [HK.out]; omega
             case rel => exact ⟨k + 1, _, rfl, by go_num, rfl, by omega, by rw [HS.out]; exact HO5.out, HB5.out, HI5.out⟩
          ·have d5 : decide (c < 32) = false := decide_eq_false fun h => chx (.inl h)
           have d6 : (c == 127) = false := beq_eq_false_iff_ne.2 fun h => chx (.inr h)
           have HS : Hid (qPre s (k + 1) = qPre s k ++ [c]) := Lib.hid (by rw [hqs]; unfold qB; rw [if_neg c0, if_neg c10, if_neg c9, if_neg c13, if_neg chx])
           clear hqs c0 c10 c9 c13 chx
           go_wp2_with (at_builtin; refine append_lit (w0 := w) w.heap.size rfl (.tmp 45) (.tmp 47) 104 5 rfl Tryz.underlying104 infoU8 vb (qPre s k) [c] rfl ?hx ?hO ?hB ?hbs ?hl ?_; (case hx => first | rfl | (simp [Act.eval]; done)); (case hO => exact HO.out); (case hB => exact HB.out); (case hbs => exact HB.out.size); (case hl => exact HLE.out _ (by first | decide | simp)); intro v1 w5 ho hb hg; have HO5 := Lib.hid ho; have HB5 := Lib.hid hb; have HI5 : Hid (w5.heap[bb]? = w0.heap[bb]?) := Lib.hid ((grown_heap hg HLT.out HNB.out).trans HI.out); clear ho hb hg)
           go_wp2_with fail
           go_roundg (s.size - (k + 1))
           case measure => rw [HK.out]; omega
           case rel => exact ⟨k + 1, _, rfl, by go_num, rfl, by omega, by rw [HS.out]; exact HO5.out, HB5.out, HI5.out⟩
     ·have d0 : decide ((k : Int) < (s.size : Int)) = false := decide_eq_false (by omega)
      have HS : Hid (qPre s k ++ [39] = quoteOf s) := Lib.hid (qPre_end (by omega))
      go_wp2_with (at_builtin; refine append_lit (w0 := w) w.heap.size rfl (.tmp 69) (.tmp 70) 104 5 rfl Tryz.underlying104 infoU8 vb (qPre s k) [39] rfl ?hx ?hO ?hB ?hbs ?hl ?_; (case hx => first | rfl | (simp [Act.eval]; done)); (case hO => exact HO.out); (case hB => exact HB.out); (case hbs => exact HB.out.size); (case hl => exact HLE.out _ (by first | decide | simp)); intro v1 w5 ho hb hg; have hcv := own_string (P := Tryz.prog) (src := 104) (dst := 9) Tryz.underlying104 Tryz.underlying5 Tryz.underlying9 ho; have HB5 := Lib.hid hb; clear ho hb hg)
      go_ret2
      exact ⟨_, by rw [HQ.out, ← HS.out]; rfl, by rw [HQ.out]; rfl, HB5.out⟩
end Go.Proofs.YtibbcfeaododhaaGreatDoor
namespace Go.Proofs.YtibbcfeaododhaaGreatDoor
open Go.RowKit Go.Proofs.YtibbcfeaododhaaGreatDoorW.PrintWords
set_option maxRecDepth 100000 in
set_option maxHeartbeats 4000000 in
theorem ref01_Quote (s : ByteArray) (hm : s.size ≤ 140737488351232) (w : World) :
  Calls Tryz.prog 94 #[.string s] w (StrR w (quoted s)) := by
 obtain ⟨R, hR⟩ : ∃ R, R = quoted s := ⟨_, rfl⟩
 rw [← hR]
 unfold quoted at hR
 have HST := Lib.hid (UTF_any s hm)
 by_cases hl : s.size > 255
 ·have hd : decide ((s.size : Int) > 255) = true := decide_eq_true (by omega)
  rw [if_pos hl] at hR
  have HQ := Lib.hid hR
  have HB0 := Lib.hid (Below.refl w.heap.size w)
  clear hR hl
  go_enter Tryz.func94, Tryz.ntmps94
  go_wp2_with fail
  refine (ref01_no _ _ _).mono ?_
  rintro e w2 ⟨ve, rfl, hE, hB1⟩
  have HE := Lib.hid hE
  have HB1 := Lib.hid (trans_below HB0.out hB1)
  clear hE hB1
  go_wp2_with fail
  go_ret2
  exact ⟨_, by rw [HQ.out]; rfl, by rw [HQ.out]; exact HE.out.lower HB0.out.size, HB1.out⟩
 ·have hd : decide ((s.size : Int) > 255) = false := decide_eq_false (by omega)
  rw [if_neg hl] at hR
  have hs255 : s.size ≤ 255 := by omega
  by_cases hu : 0 ≤ utfBad s 0
  ·have hd2 : decide (utfBad s 0 ≥ 0) = true := decide_eq_true hu
   rw [if_pos hu] at hR
   have HQ := Lib.hid hR
   clear hR hl hu
   go_enter Tryz.func94, Tryz.ntmps94
   go_wp2_with fail
   refine (HST.out _).mono ?_
   rintro e w1 ⟨rfl, hB0⟩
   have HB0 := Lib.hid hB0.below
   clear hB0
   go_wp2_with fail
   refine (ref01_no _ _ _).mono ?_
   rintro e w2 ⟨ve, rfl, hE, hB1⟩
   have HE := Lib.hid hE
   have HB1 := Lib.hid (trans_below HB0.out hB1)
   clear hE hB1
   go_wp2_with fail
   go_ret2
   exact ⟨_, by rw [HQ.out]; rfl, by rw [HQ.out]; exact HE.out.lower HB0.out.size, HB1.out⟩
  ·have hd2 : decide (utfBad s 0 ≥ 0) = false := decide_eq_false hu
   rw [if_neg hu] at hR
   cases hp : isPlain s with
   | true =>
    rw [hp, if_pos rfl] at hR
    have HQ := Lib.hid hR
    clear hR hl hu
    go_enter Tryz.func94, Tryz.ntmps94
    go_wp2_with fail
    refine (HST.out _).mono ?_
    rintro e w1 ⟨rfl, hB0⟩
    have HB0 := Lib.hid hB0.below
    clear hB0
    go_wp2_with fail
    refine (ref01_plain _ hm _).mono ?_
    rw [hp]
    rintro e w2 ⟨rfl, hB⟩
    have HB2 := Lib.hid (trans_below HB0.out hB)
    clear hB
    go_wp2_with fail
    go_ret2
    exact ⟨_, by rw [HQ.out]; rfl, by rw [HQ.out]; exact LnIs.nil _ _, HB2.out⟩
   | false =>
    rw [hp, if_neg (by simp)] at hR
    have HQ := Lib.hid hR
    clear hR hl hu
    go_enter Tryz.func94, Tryz.ntmps94
    go_wp2_with fail
    refine (HST.out _).mono ?_
    rintro e w1 ⟨rfl, hB0⟩
    have HB0 := Lib.hid hB0.below
    clear hB0
    go_wp2_with fail
    refine (ref01_plain _ hm _).mono ?_
    rw [hp]
    rintro e w2 ⟨rfl, hB⟩
    have HB2 := Lib.hid (trans_below HB0.out hB)
    clear hB
    go_wp2_with fail
    have HO0 := Lib.hid (own_lit w2 w.heap.size 5 .u8 [39] HB2.out.size (by decide))
    have HB3 := Lib.hid (below_alloc HB2.out (.cells #[.int .u8 39] 5))
    go_loopg [5, 6] s.size (fun gk vb vi wl => ∃ (k : Nat) (v0 : Value), v0 = vb ∧ vi = .int .i64 (k : Int) ∧ gk = s.size - k ∧ k ≤ s.size ∧ Hid (wl.ownsRow w.heap.size 5 1 v0 (qPre s k).length (nums .u8 (qPre s k))) ∧ Hid (Below w.heap.size w wl))
    case atStart => exact ⟨0, _, rfl, rfl, rfl, Nat.zero_le _, HO0.out, HB3.out⟩
    case round =>
     clear HO0 HB0 HB2 HB3
     obtain ⟨k, vb, rfl, rfl, hgk, hk, HO, HB⟩ := hrel
     have HK := Lib.hid hgk
     clear hgk
     have hqn := qPre_len s k
     have HLE : Hid (∀ n, n ≤ 4 → (qPre s k).length + n ≤ 140737488355328) := Lib.hid fun n hn => by omega
     clear hqn
     by_cases hlt : k < s.size
     ·have hx0 : (0 : Int) ≤ (k : Int) := by omega
      have hx1 : (k : Int) < (s.size : Int) := by omega
      have hb := btk s k
      have hr := bt_range s (k : Int)
      have hqs := qPre_succ hlt
      generalize bt s (k : Int) = c at hb hr hqs
      by_cases c0 : c = 39 ∨ c = 92
      ·have HS : Hid (qPre s (k + 1) = qPre s k ++ [92, c]) := Lib.hid (by rw [hqs]; unfold qB; rw [if_pos c0])
       clear hqs
       by_cases c39 : c = 39
       ·have d0 : (c == 39) = true := beq_iff_eq.2 c39
        clear c0 c39
        go_wp2_with (at_builtin; refine append_lit (w0 := w) w.heap.size rfl (.tmp 42) (.tmp 44) 104 5 rfl Tryz.underlying104 infoU8 vb (qPre s k) [92, c] rfl ?hx ?hO ?hB ?hbs ?hl ?_; (case hx => first | rfl | (simp [Act.eval]; done)); (case hO => exact HO.out); (case hB => exact HB.out); (case hbs => exact HB.out.size); (case hl => exact HLE.out _ (by first | decide | simp)); intro v1 w5 ho hb hg; have HO5 := Lib.hid ho; have HB5 := Lib.hid hb; clear ho hb hg)
        go_wp2_with fail
        go_roundg (s.size - (k + 1))
        case measure => rw [HK.out]; omega
        case rel => exact ⟨k + 1, _, rfl, by go_num, rfl, by omega, by rw [HS.out]; exact HO5.out, HB5.out⟩
       ·have d0 : (c == 39) = false := beq_eq_false_iff_ne.2 c39
        have d1 : (c == 92) = true := beq_iff_eq.2 (c0.resolve_left c39)
        clear c0 c39
        go_wp2_with (at_builtin; refine append_lit (w0 := w) w.heap.size rfl (.tmp 42) (.tmp 44) 104 5 rfl Tryz.underlying104 infoU8 vb (qPre s k) [92, c] rfl ?hx ?hO ?hB ?hbs ?hl ?_; (case hx => first | rfl | (simp [Act.eval]; done)); (case hO => exact HO.out); (case hB => exact HB.out); (case hbs => exact HB.out.size); (case hl => exact HLE.out _ (by first | decide | simp)); intro v1 w5 ho hb hg; have HO5 := Lib.hid ho; have HB5 := Lib.hid hb; clear ho hb hg)
        go_wp2_with fail
        go_roundg (s.size - (k + 1))
        case measure => rw [HK.out]; omega
        case rel => exact ⟨k + 1, _, rfl, by go_num, rfl, by omega, by rw [HS.out]; exact HO5.out, HB5.out⟩
      ·have d0 : (c == 39) = false := beq_eq_false_iff_ne.2 fun h => c0 (.inl h)
       have d1 : (c == 92) = false := beq_eq_false_iff_ne.2 fun h => c0 (.inr h)
       by_cases c10 : c = 10
       ·have d2 : (c == 10) = true := beq_iff_eq.2 c10
        have HS : Hid (qPre s (k + 1) = qPre s k ++ [92, 110]) := Lib.hid (by rw [hqs]; unfold qB; rw [if_neg c0, if_pos c10])
        clear hqs c0 c10
        go_wp2_with (at_builtin; refine append_lit (w0 := w) w.heap.size rfl (.tmp 49) (.tmp 50) 104 5 rfl Tryz.underlying104 infoU8 vb (qPre s k) [92, 110] rfl ?hx ?hO ?hB ?hbs ?hl ?_; (case hx => first | rfl | (simp [Act.eval]; done)); (case hO => exact HO.out); (case hB => exact HB.out); (case hbs => exact HB.out.size); (case hl => exact HLE.out _ (by first | decide | simp)); intro v1 w5 ho hb hg; have HO5 := Lib.hid ho; have HB5 := Lib.hid hb; clear ho hb hg)
        go_wp2_with fail
        go_roundg (s.size - (k + 1))
        case measure => rw [HK.out]; omega
        case rel => exact ⟨k + 1, _, rfl, by go_num, rfl, by omega, by rw [HS.out]; exact HO5.out, HB5.out⟩
       ·have d2 : (c == 10) = false := beq_eq_false_iff_ne.2 c10
        by_cases c9 : c = 9
        ·have d3 : (c == 9) = true := beq_iff_eq.2 c9
         have HS : Hid (qPre s (k + 1) = qPre s k ++ [92, 116]) := Lib.hid (by rw [hqs]; unfold qB; rw [if_neg c0, if_neg c10, if_pos c9])
         clear hqs c0 c10 c9
         go_wp2_with (at_builtin; refine append_lit (w0 := w) w.heap.size rfl (.tmp 55) (.tmp 56) 104 5 rfl Tryz.underlying104 infoU8 vb (qPre s k) [92, 116] rfl ?hx ?hO ?hB ?hbs ?hl ?_; (case hx => first | rfl | (simp [Act.eval]; done)); (case hO => exact HO.out); (case hB => exact HB.out); (case hbs => exact HB.out.size); (case hl => exact HLE.out _ (by first | decide | simp)); intro v1 w5 ho hb hg; have HO5 := Lib.hid ho; have HB5 := Lib.hid hb; clear ho hb hg)
         go_wp2_with fail
         go_roundg (s.size - (k + 1))
         case measure => rw [HK.out]; omega
         case rel => exact ⟨k + 1, _, rfl, by go_num, rfl, by omega, by rw [HS.out]; exact HO5.out, HB5.out⟩
        ·have d3 : (c == 9) = false := beq_eq_false_iff_ne.2 c9
         by_cases c13 : c = 13
         ·have d4 : (c == 13) = true := beq_iff_eq.2 c13
          have HS : Hid (qPre s (k + 1) = qPre s k ++ [92, 114]) := Lib.hid (by rw [hqs]; unfold qB; rw [if_neg c0, if_neg c10, if_neg c9, if_pos c13])
          clear hqs c0 c10 c9 c13
          go_wp2_with (at_builtin; refine append_lit (w0 := w) w.heap.size rfl (.tmp 61) (.tmp 62) 104 5 rfl Tryz.underlying104 infoU8 vb (qPre s k) [92, 114] rfl ?hx ?hO ?hB ?hbs ?hl ?_; (case hx => first | rfl | (simp [Act.eval]; done)); (case hO => exact HO.out); (case hB => exact HB.out); (case hbs => exact HB.out.size); (case hl => exact HLE.out _ (by first | decide | simp)); intro v1 w5 ho hb hg; have HO5 := Lib.hid ho; have HB5 := Lib.hid hb; clear ho hb hg)
          go_wp2_with fail
          go_roundg (s.size - (k + 1))
          case measure => rw [HK.out]; omega
          case rel => exact ⟨k + 1, _, rfl, by go_num, rfl, by omega, by rw [HS.out]; exact HO5.out, HB5.out⟩
         ·have d4 : (c == 13) = false := beq_eq_false_iff_ne.2 c13
          by_cases chx : c < 32 ∨ c = 127
          ·have HS : Hid (qPre s (k + 1) = qPre s k ++ [92, 120, hexD (c / 16), hexD (c % 16)]) := Lib.hid (by rw [hqs]; unfold qB; rw [if_neg c0, if_neg c10, if_neg c9, if_neg c13, if_pos chx])
           clear hqs c0 c10 c9 c13
           by_cases c32 : c < 32
           ·have d5 : decide (c < 32) = true := decide_eq_true c32
            clear chx c32
            obtain ⟨D1, hD1⟩ : ∃ D, D = c / 16 := ⟨_, rfl⟩
            obtain ⟨D2, hD2⟩ : ∃ D, D = c % 16 := ⟨_, rfl⟩
            have hc16 := hD1.symm
            have hcr := hD2.symm
            have htd : IntKind.u8.wrap (c.tdiv 16) = D1 := by
             rw [Int.tdiv_eq_ediv_of_nonneg hr.1, hc16]
             exact (show ∀ x : Int, 0 ≤ x → x < 16 → IntKind.u8.wrap x = x from fun x h0 h1 => by show x % 256 = x; omega) D1 (by omega) (by omega)
            have htr : c.tmod 16 = D2 := by rw [Int.tmod_eq_emod_of_nonneg hr.1, hcr]
            have x10 : (0 : Int) ≤ D1 := by omega
            have x11 : D1 < 16 := by omega
            have x20 : (0 : Int) ≤ D2 := by omega
            have x21 : D2 < 16 := by omega
            have hi1 := hex_index D1 x10 x11
            have hi2 := hex_index D2 x20 x21
            rw [hc16, hcr] at HS
            clear hD1 hD2
            have hr0 := hr.1
            have hr1 := hr.2
            go_wp2_with fail
            obtain ⟨i0, hi0, hz0, hz1, hz2⟩ := info_parts infoU8
            obtain ⟨O, hOO⟩ : ∃ o : Obj, o = .cells #[.int .u8 92, .int .u8 120, .int .u8 (hexD D1), .int .u8 (hexD D2)] 5 := ⟨_, rfl⟩
            have HOA := Lib.hid ((HO.out.alloc O).drew)
            have HBA := Lib.hid ((below_alloc HB.out O).drew)
            have HNW := Lib.hid (World.news_of_block (w := (wr.alloc O).drew) (B := wr.heap.size) (show (wr.alloc O).drew.heap[wr.heap.size]? = _ by rw [hOO]; exact heap_alloc_new wr _))
            have HZ9 : Hid ((wr.alloc O).drew.heap.size = wr.heap.size + 1) := Lib.hid (by show (wr.alloc O).heap.size = _; simp)
            rw [hOO] at HOA HBA HNW HZ9
            have HON : Hid (∀ u ∈ [Value.int .u8 92, .int .u8 120, .int .u8 (hexD D1), .int .u8 (hexD D2)], u.oneCell' = true) := Lib.hid (one_four _ _)
            have HL63 : Hid ((qPre s k).length + 4 ≤ maxLen) := Lib.hid (by unfold maxLen; have := HLE.out 4 (by decide); omega)
            have HLBY : Hid (((qPre s k).length + 4) * 1 ≤ 140737488355328) := Lib.hid (by have := HLE.out 4 (by decide); omega)
            clear hOO
            go_region_held3 (fun _ => True) (trivial) (first | ((refine step_append_lies _ (by rfl) (.tmp 71) (.tmp 78) 104 (by rfl) w.heap.size 5 i0 (.int .u8 0) 1 1 Tryz.underlying104 hi0 hz0 hz1 hz2 rfl (by decide) vb (qPre s k).length (nums .u8 (qPre s k)) (by rfl) HOA.out ⟨wr.heap.size, 0, none⟩ 4 4 [.int .u8 92, .int .u8 120, .int .u8 (hexD D1), .int .u8 (hexD D2)] (by rfl) rfl HNW.out HON.out (by decide) HL63.out HLBY.out HBA.out.size (wr.heap.size + 1) HZ9.out ?_; intro g cap w5 hown hgrow _ _; have HO5 := Lib.hid (own_hex hown); have HB5 : Hid (Below w.heap.size w w5) := Lib.hid (HBA.out.grown hgrow HBA.out.size (own_base HO.out)); clear hown hgrow)))
            all_goals
             go_wp2_with fail
             go_roundg (s.size - (k + 1))
             case measure => rw [HK.out]; omega
             case rel => exact ⟨k + 1, _, rfl, by go_num, rfl, by omega, by rw [HS.out]; exact HO5.out, HB5.out⟩
           ·have d5 : decide (c < 32) = false := decide_eq_false c32
            have d6 : (c == 127) = true := beq_iff_eq.2 (chx.resolve_left c32)
            clear chx c32
            obtain ⟨D1, hD1⟩ : ∃ D, D = c / 16 := ⟨_, rfl⟩
            obtain ⟨D2, hD2⟩ : ∃ D, D = c % 16 := ⟨_, rfl⟩
            have hc16 := hD1.symm
            have hcr := hD2.symm
            have htd : IntKind.u8.wrap (c.tdiv 16) = D1 := by
             rw [Int.tdiv_eq_ediv_of_nonneg hr.1, hc16]
             exact (show ∀ x : Int, 0 ≤ x → x < 16 → IntKind.u8.wrap x = x from fun x h0 h1 => by show x % 256 = x; omega) D1 (by omega) (by omega)
            have htr : c.tmod 16 = D2 := by rw [Int.tmod_eq_emod_of_nonneg hr.1, hcr]
            have x10 : (0 : Int) ≤ D1 := by omega
            have x11 : D1 < 16 := by omega
            have x20 : (0 : Int) ≤ D2 := by omega
            have x21 : D2 < 16 := by omega
            have hi1 := hex_index D1 x10 x11
            have hi2 := hex_index D2 x20 x21
            rw [hc16, hcr] at HS
            clear hD1 hD2
            have hr0 := hr.1
            have hr1 := hr.2
            go_wp2_with fail
            obtain ⟨i0, hi0, hz0, hz1, hz2⟩ := info_parts infoU8
            obtain ⟨O, hOO⟩ : ∃ o : Obj, o = .cells #[.int .u8 92, .int .u8 120, .int .u8 (hexD D1), .int .u8 (hexD D2)] 5 := ⟨_, rfl⟩
            have HOA := Lib.hid ((HO.out.alloc O).drew)
            have HBA := Lib.hid ((below_alloc HB.out O).drew)
            have HNW := Lib.hid (World.news_of_block (w := (wr.alloc O).drew) (B := wr.heap.size) (show (wr.alloc O).drew.heap[wr.heap.size]? = _ by rw [hOO]; exact heap_alloc_new wr _))
            have HZ9 : Hid ((wr.alloc O).drew.heap.size = wr.heap.size + 1) := Lib.hid (by show (wr.alloc O).heap.size = _; simp)
            rw [hOO] at HOA HBA HNW HZ9
            have HON : Hid (∀ u ∈ [Value.int .u8 92, .int .u8 120, .int .u8 (hexD D1), .int .u8 (hexD D2)], u.oneCell' = true) := Lib.hid (one_four _ _)
            have HL63 : Hid ((qPre s k).length + 4 ≤ maxLen) := Lib.hid (by unfold maxLen; have := HLE.out 4 (by decide); omega)
            have HLBY : Hid (((qPre s k).length + 4) * 1 ≤ 140737488355328) := Lib.hid (by have := HLE.out 4 (by decide); omega)
            clear hOO
            go_region_held3 (fun _ => True) (trivial) (first | ((refine step_append_lies _ (by rfl) (.tmp 71) (.tmp 78) 104 (by rfl) w.heap.size 5 i0 (.int .u8 0) 1 1 Tryz.underlying104 hi0 hz0 hz1 hz2 rfl (by decide) vb (qPre s k).length (nums .u8 (qPre s k)) (by rfl) HOA.out ⟨wr.heap.size, 0, none⟩ 4 4 [.int .u8 92, .int .u8 120, .int .u8 (hexD D1), .int .u8 (hexD D2)] (by rfl) rfl HNW.out HON.out (by decide) HL63.out HLBY.out HBA.out.size (wr.heap.size + 1) HZ9.out ?_; intro g cap w5 hown hgrow _ _; have HO5 := Lib.hid (own_hex hown); have HB5 : Hid (Below w.heap.size w w5) := Lib.hid (HBA.out.grown hgrow HBA.out.size (own_base HO.out)); clear hown hgrow)))
            all_goals
             go_wp2_with fail
             go_roundg (s.size - (k + 1))
             case measure => rw [HK.out]; omega
             case rel => exact ⟨k + 1, _, rfl, by go_num, rfl, by omega, by rw [HS.out]; exact HO5.out, HB5.out⟩
          ·have d5 : decide (c < 32) = false := decide_eq_false fun h => chx (.inl h)
           have d6 : (c == 127) = false := beq_eq_false_iff_ne.2 fun h => chx (.inr h)
           have HS : Hid (qPre s (k + 1) = qPre s k ++ [c]) := Lib.hid (by rw [hqs]; unfold qB; rw [if_neg c0, if_neg c10, if_neg c9, if_neg c13, if_neg chx])
           clear hqs c0 c10 c9 c13 chx
           go_wp2_with (at_builtin; refine append_lit (w0 := w) w.heap.size rfl (.tmp 31) (.tmp 33) 104 5 rfl Tryz.underlying104 infoU8 vb (qPre s k) [c] rfl ?hx ?hO ?hB ?hbs ?hl ?_; (case hx => first | rfl | (simp [Act.eval]; done)); (case hO => exact HO.out); (case hB => exact HB.out); (case hbs => exact HB.out.size); (case hl => exact HLE.out _ (by first | decide | simp)); intro v1 w5 ho hb hg; have HO5 := Lib.hid ho; have HB5 := Lib.hid hb; clear ho hb hg)
           go_wp2_with fail
           go_roundg (s.size - (k + 1))
           case measure => rw [HK.out]; omega
           case rel => exact ⟨k + 1, _, rfl, by go_num, rfl, by omega, by rw [HS.out]; exact HO5.out, HB5.out⟩
     ·have d0 : decide ((k : Int) < (s.size : Int)) = false := decide_eq_false (by omega)
      have HS : Hid (qPre s k ++ [39] = quoteOf s) := Lib.hid (qPre_end (by omega))
      go_wp2_with (at_builtin; refine append_lit (w0 := w) w.heap.size rfl (.tmp 80) (.tmp 81) 104 5 rfl Tryz.underlying104 infoU8 vb (qPre s k) [39] rfl ?hx ?hO ?hB ?hbs ?hl ?_; (case hx => first | rfl | (simp [Act.eval]; done)); (case hO => exact HO.out); (case hB => exact HB.out); (case hbs => exact HB.out.size); (case hl => exact HLE.out _ (by first | decide | simp)); intro v1 w5 ho hb hg; have hcv := own_string (P := Tryz.prog) (src := 104) (dst := 9) Tryz.underlying104 Tryz.underlying5 Tryz.underlying9 ho; have HB5 := Lib.hid hb; clear ho hb hg)
      go_ret2
      exact ⟨_, by rw [HQ.out, ← HS.out]; rfl, by rw [HQ.out]; exact LnIs.nil _ _, HB5.out⟩
end Go.Proofs.YtibbcfeaododhaaGreatDoor
namespace Go.Proofs.YtibbcfeaododhaaGreatDoor
open Go.RowKit Go.Proofs.YtibbcfeaododhaaGreatDoorW.PrintWords
structure Tm where
 kd : Int
 it : Int
 tx : ByteArray
 cr : Int
 nums : List Int
 args : List Tm
def zTm : Tm := ⟨0, 0, ⟨#[]⟩, 0, [], []⟩
theorem Tm.ind {P : Tm → Prop} (h : ∀ t : Tm, (∀ a ∈ t.args, P a) → P t) (t : Tm) : P t := by
 refine Tm.rec (motive_1 := P) (motive_2 := fun l => ∀ a ∈ l, P a) ?_ ?_ ?_ t
 ·intro kd it tx cr nums args ih
  exact h _ ih
 ·intro a ha
  cases ha
 ·intro a l ih1 ih2 x hx
  rcases List.mem_cons.1 hx with rfl | hm
  ·exact ih1
  ·exact ih2 _ hm
def rdTm (xs : List Tm) (i : Int) : Tm := xs.getD i.toNat zTm
def nTerm : ByteArray := ⟨#[116, 101, 114, 109]⟩
/-! ### names of nodes -/
def inName (c : Int) : Bool := isIn c || c == 45
def inHost (c : Int) : Bool := isIn c || c == 45 || c == 46
def nodeLen (l : List Int) : Nat := tw (fun c => c != 64) l
def nodeOkL (l : List Int) : Bool :=
 decide (nodeLen l < l.length) && decide (0 < nodeLen l) && decide (nodeLen l + 1 < l.length) && decide (l.length ≤ 64) && !(l.drop (nodeLen l + 1)).contains 64 &&
  (l.take (nodeLen l)).all inName && (l.drop (nodeLen l + 1)).all inHost
def nodeOk (s : ByteArray) : Bool := nodeOkL (bs s)
/-- The chain of faults of a node's name. -/
def nodeBad (s : ByteArray) : List Lk := if nodeOk s then [] else [⟨nAtom, 0, 24⟩]
/-! ### the form of one part -/
/-- Are the fields that a kind does not name zero? -/
def emptyOk (t : Tm) (text nums args : Bool) : Bool :=
 (text || decide (t.tx.size = 0)) && (nums || decide (t.nums.length = 0) && decide (t.cr = 0)) && (args || decide (t.args.length = 0)) && (decide (t.kd = 1) || decide (t.it = 0))
def lastKd (t : Tm) : Int := (rdTm t.args ((t.args.length : Int) - 1)).kd
def shapeOk (t : Tm) : Bool :=
 if t.kd = 1 then emptyOk t false false false
 else if t.kd = 2 then emptyOk t true false false
 else if t.kd = 3 then emptyOk t true true false && decide (t.nums.length = 3)
 else if t.kd = 4 then emptyOk t true true false && decide (t.nums.length = 2)
 else if t.kd = 5 then emptyOk t false false true
 else if t.kd = 6 then emptyOk t false false false
 else if t.kd = 7 then emptyOk t false false true && decide (2 ≤ t.args.length) && decide (lastKd t ≠ 7)
 else false
/-- A fault of a lower layer, with its number. -/
def overTm (at_ : Int) : List Lk → List Lk
 | [] => []
 | x :: r => ⟨nTerm, at_, x.co⟩ :: x :: r
def formBad (t : Tm) (at_ : Int) : List Lk :=
 if shapeOk t = false then [⟨nTerm, at_, 40⟩]
 else if t.kd = 1 then (if t.it < -576460752303423488 ∨ 576460752303423487 < t.it then [⟨nTerm, at_, 2⟩] else [])
 else if t.kd = 2 then overTm at_ (quoted t.tx).2
 else if t.kd = 3 ∨ t.kd = 4 then overTm at_ (nodeBad t.tx)
 else []
/-! ### size and depth -/
abbrev Meas := List Lk × Int × Int
mutual
/-- A part at a depth, so many parts and so deep before it. -/
def measT : Tm → Int → Int → Int → Meas
 | ⟨kd, it, tx, cr, ns, us⟩, d, n, m =>
  if n = 4096 then ([⟨nTerm, n, 5⟩], 0, 0)
  else if 256 < d then ([⟨nTerm, n, 9⟩], 0, 0)
  else match formBad ⟨kd, it, tx, cr, ns, us⟩ n with
   | [] => measL us (d + 1) (n + 1) (max m d)
   | l => (l, 0, 0)
def measL : List Tm → Int → Int → Int → Meas
 | [], _, n, m => ([], n, m)
 | a :: us, d, n, m => match measT a d n m with
  | ([], n', m') => measL us d n' m'
  | r => r
end
theorem measT_eq (t : Tm) (d n m : Int) : measT t d n m = if n = 4096 then ([⟨nTerm, n, 5⟩], 0, 0)
  else if 256 < d then ([⟨nTerm, n, 9⟩], 0, 0)
  else match formBad t n with
   | [] => measL t.args (d + 1) (n + 1) (max m d)
   | l => (l, 0, 0) := by
 cases t
 rw [measT]
/-- term.Measure, heddleref02.Measure. -/
def measure (t : Tm) : Meas := measT t 1 0 0
/-- term.Check, heddleref02.Check. -/
def chk (t : Tm) : List Lk := (measure t).1
/-! ### order -/
def cmpI (a b : Int) : Int := if a < b then -1 else if b < a then 1 else 0
def cmpL : List Int → List Int → Int
 | [], [] => 0
 | [], _ :: _ => -1
 | _ :: _, [] => 1
 | x :: xs, y :: ys => if x < y then -1 else if y < x then 1 else cmpL xs ys
def cmpS (a b : ByteArray) : Int := cmpL (bs a) (bs b)
/-- The first that is not 0. -/
def orI (a b : Int) : Int := if a = 0 then b else a
mutual
def ordT : Tm → Tm → Int
 | ⟨kd, it, tx, cr, ns, us⟩, b =>
  if kd ≠ b.kd then cmpI kd b.kd
  else if kd = 1 then cmpI it b.it
  else if kd = 2 then cmpS tx b.tx
  else if kd = 3 ∨ kd = 4 then orI (cmpS tx b.tx) (orI (cmpI cr b.cr) (cmpL ns b.nums))
  else if kd = 5 then orI (cmpI us.length b.args.length) (ordP us b.args)
  else if kd = 7 then ordL us b.args
  else 0
/-- Tuples' parts, one by one. -/
def ordP : List Tm → List Tm → Int
 | [], [] => 0
 | [], _ :: _ => -1
 | _ :: _, [] => 1
 | a :: us, b :: bs => orI (ordT a b) (ordP us bs)
/-- Lists' elements and tails. -/
def ordL : List Tm → List Tm → Int
 | [], _ => 0
 | _ :: _, [] => 0
 | [a], [b] => ordT a b
 | [a], _ :: _ :: _ => cmpI a.kd 7
 | _ :: _ :: _, [b] => cmpI 7 b.kd
 | a :: x :: xs, b :: y :: ys => orI (ordT a b) (ordL (x :: xs) (y :: ys))
end
theorem ordT_eq (a b : Tm) : ordT a b = if a.kd ≠ b.kd then cmpI a.kd b.kd
  else if a.kd = 1 then cmpI a.it b.it
  else if a.kd = 2 then cmpS a.tx b.tx
  else if a.kd = 3 ∨ a.kd = 4 then orI (cmpS a.tx b.tx) (orI (cmpI a.cr b.cr) (cmpL a.nums b.nums))
  else if a.kd = 5 then orI (cmpI a.args.length b.args.length) (ordP a.args b.args)
  else if a.kd = 7 then ordL a.args b.args
  else 0 := by
 cases a
 rw [ordT]
/-- term.Compare, heddleref02.Compare. -/
def compareT (a b : Tm) : Int := if chk a ≠ [] ∨ chk b ≠ [] then 0 else ordT a b
/-! ### text -/
def itoaI (n : Int) : List Int := (Lib.itoa n).map fun c => (c.toNat : Int)
/-- Texts with something between. -/
def sepBy (c : List Int) : List (List Int) → List Int
 | [] => []
 | [a] => a
 | a :: b :: l => a ++ (c ++ sepBy c (b :: l))
/-- A pid's text. -/
def farTxt (tx : ByteArray) (ns : List Int) : List Int := 60 :: (bs (quoted tx).1 ++ (ns.flatMap (fun n => 46 :: itoaI n) ++ [62]))
mutual
/-- A term's text, with blanks 'g' behind each opening bracket, comma and bar. -/
def txtT (g : List Int) : Tm → List Int
 | ⟨kd, it, tx, cr, ns, us⟩ =>
  if kd = 1 then itoaI it
  else if kd = 2 then bs (quoted tx).1
  else if kd = 3 then 35 :: 82 :: 101 :: 102 :: farTxt tx (cr :: ns)
  else if kd = 4 then farTxt tx (cr :: ns)
  else if kd = 5 then 123 :: (g ++ (sepBy (44 :: g) (txtS g us) ++ [125]))
  else if kd = 6 then 91 :: (g ++ [93])
  else 91 :: (g ++ (sepBy (44 :: g) (txtS g us).dropLast ++ ((if (rdTm us ((us.length : Int) - 1)).kd = 6 then [] else 124 :: (g ++ (txtS g us).getLastD [])) ++ [93])))
def txtS (g : List Int) : List Tm → List (List Int)
 | [] => []
 | a :: us => txtT g a :: txtS g us
end
theorem txtS_map (g : List Int) : ∀ l : List Tm, txtS g l = l.map (txtT g)
 | [] => by rw [txtS]; rfl
 | a :: l => by rw [txtS, txtS_map g l]; rfl
theorem txtT_eq (g : List Int) (t : Tm) : txtT g t = if t.kd = 1 then itoaI t.it
  else if t.kd = 2 then bs (quoted t.tx).1
  else if t.kd = 3 then 35 :: 82 :: 101 :: 102 :: farTxt t.tx (t.cr :: t.nums)
  else if t.kd = 4 then farTxt t.tx (t.cr :: t.nums)
  else if t.kd = 5 then 123 :: (g ++ (sepBy (44 :: g) (t.args.map (txtT g)) ++ [125]))
  else if t.kd = 6 then 91 :: (g ++ [93])
  else 91 :: (g ++ (sepBy (44 :: g) (t.args.map (txtT g)).dropLast ++ ((if lastKd t = 6 then [] else 124 :: (g ++ (t.args.map (txtT g)).getLastD [])) ++ [93]))) := by
 cases t
 rw [txtT, txtS_map]
 rfl
/-- term.Print, heddleref02.Print. -/
def printT (t : Tm) : ByteArray × List Lk := if chk t = [] then (strOfNums (txtT [] t), []) else (⟨#[]⟩, chk t)
/-! ### what a text says -/
abbrev Rd := Tm × Nat × List Lk
def rdNo (at_ : Nat) (co : Int) : Rd := (zTm, 0, [⟨nTerm, at_, co⟩])
def isAt (s : ByteArray) (k : Nat) (c : Int) : Bool := decide (k < s.size) && decide (bt s (k : Int) = c)
/-- Behind blanks. -/
def blk (s : ByteArray) (k : Nat) : Nat := runEnd isBlank s k
/-- Behind a number's digits. -/
def digEnd (s : ByteArray) (k : Nat) : Nat := if bt s (k : Int) = 48 then k + 1 else runEnd isDigit s k
def decV (l : List Int) : Int := l.foldl (fun a c => a * 10 + (c - 48)) 0
def decAt (s : ByteArray) (k e : Nat) : Int := decV (((bs s).drop k).take (e - k))
def isDig (s : ByteArray) (k : Nat) : Bool := decide (k < s.size) && isDigit (bt s (k : Int))
/-- A number of at most 32 bits. -/
def numAt (s : ByteArray) (k : Nat) : Int × Nat × List Lk :=
 if isDig s k = false then (0, 0, [⟨nTerm, k, 41⟩])
 else if 4294967295 < decAt s k (digEnd s k) then (0, 0, [⟨nTerm, k, 41⟩])
 else (decAt s k (digEnd s k), digEnd s k, [])
def tmInt (n : Int) : Tm := ⟨1, n, ⟨#[]⟩, 0, [], []⟩
/-- An int: its digits begin at j. -/
def intAt (s : ByteArray) (k j : Nat) (sg : Int) : Rd :=
 if isDig s j = false then rdNo j 41
 else if sg * decAt s j (digEnd s j) < -576460752303423488 ∨ 576460752303423487 < sg * decAt s j (digEnd s j) then rdNo k 2
 else (tmInt (sg * decAt s j (digEnd s j)), digEnd s j, [])
def wholeAt (s : ByteArray) (k : Nat) : Rd :=
 if bt s (k : Int) = 45 then (if isAt s (k + 1) 48 then rdNo (k + 1) 41 else intAt s k (k + 1) (-1)) else intAt s k k 1
def begAtom (s : ByteArray) (k : Nat) : Bool := decide (k < s.size) && (decide (bt s (k : Int) = 39) || isSmall (bt s (k : Int)))
def atomAt (s : ByteArray) (k : Nat) : ByteArray × Nat × List Lk :=
 if begAtom s k = false then (⟨#[]⟩, 0, [⟨nTerm, k, 41⟩])
 else match (aScan s k).2.2 with
  | [] => ((aScan s k).1, (aScan s k).2.1, [])
  | l => (⟨#[]⟩, 0, overTm k l)
/-- A pid's or reference's numbers, each behind its point. -/
def numsAt (s : ByteArray) : Nat → Nat → List Int × Nat × List Lk
 | 0, k => ([], k, [])
 | n + 1, k =>
  if isAt s k 46 = false then ([], 0, [⟨nTerm, k, 41⟩])
  else match numAt s (k + 1) with
   | (v, e, []) => (match numsAt s n e with
    | (vs, e', []) => (v :: vs, e', [])
    | (_, _, l) => ([], 0, l))
   | (_, _, l) => ([], 0, l)
def farAt (s : ByteArray) (k : Nat) (kd : Int) (many : Nat) : Rd :=
 match atomAt s k with
 | (nm, e, []) =>
  if nodeOk nm = false then (zTm, 0, overTm k (nodeBad nm))
  else (match numsAt s (many + 1) e with
   | (vs, e2, []) => if isAt s e2 62 = false then rdNo e2 41 else (⟨kd, 0, nm, vs.headD 0, vs.tail, []⟩, e2 + 1, [])
   | (_, _, l) => (zTm, 0, l))
 | (_, _, l) => (zTm, 0, l)
def refMark : List Int := [35, 82, 101, 102, 60]
/-- How many signs of '#Ref<' stand here. -/
def markLen (s : ByteArray) (k : Nat) : Nat → Nat
 | 0 => 0
 | n + 1 => if isAt s (k + (5 - (n + 1))) (refMark.getD (5 - (n + 1)) 0) then markLen s k n + 1 else 0
/-- Terms with commas between; 'f' reads one. -/
def sevAt (f : Nat → Rd) (s : ByteArray) : Nat → Nat → List Tm → List Tm × Nat × List Lk
 | 0, _, _ => ([], 0, [])
 | m + 1, k, acc => match f k with
  | (t, e, []) => if isAt s (blk s e) 44 then sevAt f s m (blk s e + 1) (acc ++ [t]) else (acc ++ [t], blk s e, [])
  | (_, _, l) => ([], 0, l)
def tupleAt (f : Nat → Rd) (s : ByteArray) (k : Nat) : Rd :=
 if isAt s (blk s k) 125 then (⟨5, 0, ⟨#[]⟩, 0, [], []⟩, blk s k + 1, [])
 else match sevAt f s (s.size + 1) (blk s k) [] with
  | (l, e, []) => if isAt s e 125 then (⟨5, 0, ⟨#[]⟩, 0, [], l⟩, e + 1, []) else rdNo e 41
  | (_, _, l) => (zTm, 0, l)
def tmNil : Tm := ⟨6, 0, ⟨#[]⟩, 0, [], []⟩
def joinT (l : List Tm) (t : Tm) : Tm := ⟨7, 0, ⟨#[]⟩, 0, [], if t.kd = 7 then l ++ t.args else l ++ [t]⟩
/-- A list behind its elements 'l' and perhaps a tail 't'. -/
def listEnd (s : ByteArray) (l : List Tm) (t : Tm) (k : Nat) : Rd := if isAt s k 93 then (joinT l t, k + 1, []) else rdNo k 41
def listAt (f : Nat → Rd) (s : ByteArray) (k : Nat) : Rd :=
 if isAt s (blk s k) 93 then (tmNil, blk s k + 1, [])
 else match sevAt f s (s.size + 1) (blk s k) [] with
  | (l, e, []) => if isAt s e 124 then (match f (e + 1) with
    | (t, e2, []) => listEnd s l t (blk s e2)
    | (_, _, l) => (zTm, 0, l)) else listEnd s l tmNil e
  | (_, _, l) => (zTm, 0, l)
def begunAt (f : Nat → Rd) (s : ByteArray) (k : Nat) : Rd :=
 if s.size ≤ k then rdNo k 41
 else if isDigit (bt s (k : Int)) ∨ bt s (k : Int) = 45 then wholeAt s k
 else if bt s (k : Int) = 123 then tupleAt f s (k + 1)
 else if bt s (k : Int) = 91 then listAt f s (k + 1)
 else if bt s (k : Int) = 35 then (if markLen s k 5 = 5 then farAt s (k + 5) 3 3 else rdNo (k + markLen s k 5) 41)
 else if bt s (k : Int) = 60 then farAt s (k + 1) 4 2
 else match atomAt s k with
  | (a, e, []) => (⟨2, 0, a, 0, [], []⟩, e, [])
  | (_, _, l) => (zTm, 0, l)
/-- A term, so many more of which may be nested. -/
def rdT (s : ByteArray) : Nat → Nat → Rd
 | 0, k => rdNo (blk s k) 9
 | d + 1, k => begunAt (rdT s d) s (blk s k)
def rdEnd (s : ByteArray) (t : Tm) (k : Nat) : Tm × List Lk :=
 if k < s.size then (zTm, [⟨nTerm, k, 41⟩]) else if chk t = [] then (t, []) else (zTm, chk t)
/-- term.Read, heddleref02.Read. -/
def rdAll (s : ByteArray) : Tm × List Lk :=
 if 4194304 < s.size then (zTm, [⟨nTerm, 0, 4⟩])
 else match rdT s 256 0 with
  | (t, e, []) => rdEnd s t (blk s e)
  | (_, _, l) => (zTm, l)
end Go.Proofs.YtibbcfeaododhaaGreatDoor
