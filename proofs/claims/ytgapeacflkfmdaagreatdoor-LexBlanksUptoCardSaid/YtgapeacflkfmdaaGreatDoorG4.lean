/-
  Quoted atoms: atom.quoted, atom.Scan, as they are in plain Lean. Quoted atoms and atoms as the reference reads them: heddleref01.quoted, heddleref01.Scan.
-/
import Derived.Test.YtgapeacflkfmdaaGreatDoorG3
namespace Go.Proofs.YtgapeacflkfmdaaGreatDoor
open Go.RowKit Go.Proofs.YtgapeacflkfmdaaGreatDoorW.PrintWords

theorem escX_le (l : List Int) : (escX l).2 = 0 ∨ ((escX l).2 = 3 ∧ 2 ≤ l.length) := by
  unfold escX
  split
  · split
    · right; simp
    · left; rfl
  · left; rfl
theorem escOf_le (l : List Int) : (escOf l).2 ≤ l.length := by
  cases l with
  | nil => exact Nat.le_refl _
  | cons c r =>
    have := escX_le r
    simp only [escOf, List.length_cons]
    repeat' split
    all_goals simp
    omega
theorem bs_extract (s : ByteArray) (k : Nat) : bs (s.extract k s.size) = (bs s).drop k := by
  unfold bs bytesOf
  rw [Lib.extract_data, ← List.map_drop, List.take_of_length_le (by rw [List.length_drop, ← Lib.size_eq]; exact Nat.le_refl _)]
theorem infoU8 : (Tryz.prog.info? 5).map (fun i => (i.zero, i.size, i.bytes)) = some (some (.int .u8 0), 1, 1) := by kernel_rfl

/-- What is read: a text, the place behind it, the faults. -/
abbrev Got := ByteArray × Nat × List Lk
def noGot (l : Lk) : Got := (⟨#[]⟩, 0, [l])
/-- The rest of a quoted atom that begins at f: from i on, behind the bytes acc. -/
def qLoop (s : ByteArray) (f i : Nat) (acc : List Int) : Got :=
  if _h : i < s.size then
    if bt s (i : Int) = 39 then
      if acc.length > 255 then noGot ⟨nAtom, f, 4⟩
      else if 0 ≤ utfBad (strOfNums acc) 0 then noGot ⟨nAtom, f, 23⟩
      else (strOfNums acc, i + 1, [])
    else if bt s (i : Int) < 32 ∨ bt s (i : Int) = 127 then noGot ⟨nAtom, f, 21⟩
    else if bt s (i : Int) = 92 then
      if i + 1 = s.size then noGot ⟨nAtom, f, 21⟩
      else if (escOf ((bs s).drop (i + 1))).2 = 0 then noGot ⟨nAtom, i, 22⟩
      else qLoop s f (i + 1 + (escOf ((bs s).drop (i + 1))).2) (acc ++ [(escOf ((bs s).drop (i + 1))).1])
    else qLoop s f (i + 1) (acc ++ [bt s (i : Int)])
  else noGot ⟨nAtom, f, 21⟩
  termination_by s.size - i
  decreasing_by all_goals omega

def GotPost (w : World) (r : Got) (e : Ending) (w' : World) : Prop := ∃ v, e = .returned (.tuple #[.string r.1, .int .i64 (r.2.1 : Int), v]) ∧ ErrIs w' r.2.2 v ∧ Below w.heap.size w w'

set_option maxRecDepth 100000 in
set_option maxHeartbeats 2000000 in
theorem atom_quoted (s : ByteArray) (f : Nat) (hf : f < s.size) (hm : s.size ≤ 140737488351232) (w : World) (hG : Glob w) :
    Calls Tryz.prog 189 #[.string s, .int .i64 (f : Int)] w (GotPost w (qLoop s f (f + 1) [])) := by
  have HG := Lib.hid hG
  clear hG
  obtain ⟨R, hR⟩ : ∃ R, R = qLoop s f (f + 1) [] := ⟨_, rfl⟩
  rw [← hR]
  have HR0 := Lib.hid hR.symm
  clear hR
  go_enter Tryz.func189, Tryz.ntmps189
  go_wp2_with fail
  go_loopg [7, 8] (s.size - (f + 1)) (fun gk vb vi wl => ∃ (k : Nat) (acc : List Int) (v0 : Value), v0 = vb ∧ vi = .int .i64 (k : Int) ∧ gk = s.size - k ∧ k ≤ s.size ∧ acc.length ≤ k ∧ Hid (qLoop s f k acc = R) ∧ Hid (wl.ownsRow w.heap.size 5 1 v0 acc.length (nums .u8 acc)) ∧ Hid (Below w.heap.size w wl))
  case atStart => exact ⟨f + 1, [], _, rfl, by go_num, rfl, by omega, Nat.zero_le _, HR0.out, own_nil _ _ _ _, Below.refl _ _⟩
  case round =>
    clear HR0
    obtain ⟨k, acc, vb, rfl, rfl, hgk, hk, hacc, HR, HO, HB⟩ := hrel
    have HK := Lib.hid hgk
    clear hgk
    have HGr := Lib.hid (HG.out.below HB.out)
    by_cases hlt : k < s.size
    · have hb := btk s k
      have hr := bt_range s (k : Int)
      have hx0 : (0 : Int) ≤ (k : Int) := by omega
      have hx1 : (k : Int) < (s.size : Int) := by omega
      have hq := HR.out
      rw [qLoop, dif_pos hlt] at hq
      by_cases c0 : bt s (k : Int) = 39
      · rw [if_pos c0] at hq
        have cb0 : (bt s (k : Int) == 39) = true := beq_iff_eq.2 c0
        clear c0
        by_cases c1 : acc.length > 255
        · rw [if_pos c1] at hq
          have HQ := Lib.hid hq
          obtain ⟨A0, cp0, rfl, _⟩ := own_reads HO.out
          clear hq
          go_wp2_with fail
          refine (atom_refused _ _ _).mono ?_
          rintro e w1 ⟨ve, rfl, hE, hB1⟩
          have HE := Lib.hid hE
          have HB1 := Lib.hid (trans_below HB.out hB1)
          clear hE hB1
          go_wp2_with fail
          go_ret3
          exact ⟨_, by rw [← HQ.out]; rfl, by rw [← HQ.out]; exact HE.out, HB1.out⟩
        · rw [if_neg c1] at hq
          obtain ⟨A0, cp0, rfl, _⟩ := own_reads HO.out
          have hcv := own_string (P := Tryz.prog) (src := 49) (dst := 9) Tryz.underlying49 Tryz.underlying5 Tryz.underlying9 HO.out
          have HQ := Lib.hid hq
          clear hq
          go_wp2_with fail
          refine (strange_any _ _ HGr.out).mono ?_
          rintro e w1 ⟨rfl, hB1⟩
          have hcv1 := own_string (P := Tryz.prog) (src := 49) (dst := 9) Tryz.underlying49 Tryz.underlying5 Tryz.underlying9 (pw_own_below HO.out hB1)
          have HB2 := Lib.hid (trans_below HB.out hB1)
          clear hcv hB1
          by_cases c2 : 0 ≤ utfBad (strOfNums acc) 0
          · have HQ2 := Lib.hid HQ.out
            have hq2 := HQ.out
            rw [if_pos c2] at hq2
            have HQ := Lib.hid hq2
            have hd : decide (utfBad (strOfNums acc) 0 ≥ 0) = true := decide_eq_true c2
            clear hq2 c2 hcv1
            go_wp2_with fail
            refine (atom_refused _ _ _).mono ?_
            rintro e w1 ⟨ve, rfl, hE, hB1⟩
            have HE := Lib.hid hE
            have HB1 := Lib.hid (trans_below HB2.out hB1)
            clear hE hB1
            go_wp2_with fail
            go_ret3
            exact ⟨_, by rw [← HQ.out]; rfl, by rw [← HQ.out]; exact HE.out, HB1.out⟩
          · have hq2 := HQ.out
            rw [if_neg c2] at hq2
            have HQ := Lib.hid hq2
            have hd : decide (utfBad (strOfNums acc) 0 ≥ 0) = false := decide_eq_false c2
            clear hq2 c2
            go_wp2_with fail
            go_ret3
            exact ⟨_, by rw [← HQ.out]; rfl, by rw [← HQ.out]; rfl, HB2.out⟩
      · rw [if_neg c0] at hq
        have cb0 : (bt s (k : Int) == 39) = false := beq_eq_false_iff_ne.2 c0
        clear c0
        by_cases c3 : bt s (k : Int) < 32 ∨ bt s (k : Int) = 127
        · rw [if_pos c3] at hq
          have HQ := Lib.hid hq
          clear hq
          by_cases c4 : bt s (k : Int) < 32
          · clear c3
            go_wp2_with fail
            refine (atom_refused _ _ _).mono ?_
            rintro e w1 ⟨ve, rfl, hE, hB1⟩
            have HE := Lib.hid hE
            have HB1 := Lib.hid (trans_below HB.out hB1)
            clear hE hB1
            go_wp2_with fail
            go_ret3
            exact ⟨_, by rw [← HQ.out]; rfl, by rw [← HQ.out]; exact HE.out, HB1.out⟩
          · have cb4 : (bt s (k : Int) == 127) = true := beq_iff_eq.2 (c3.resolve_left c4)
            clear c3
            go_wp2_with fail
            refine (atom_refused _ _ _).mono ?_
            rintro e w1 ⟨ve, rfl, hE, hB1⟩
            have HE := Lib.hid hE
            have HB1 := Lib.hid (trans_below HB.out hB1)
            clear hE hB1
            go_wp2_with fail
            go_ret3
            exact ⟨_, by rw [← HQ.out]; rfl, by rw [← HQ.out]; exact HE.out, HB1.out⟩
        · rw [if_neg c3] at hq
          have c4 : ¬ bt s (k : Int) < 32 := fun h => c3 (.inl h)
          have cb5 : (bt s (k : Int) == 127) = false := beq_eq_false_iff_ne.2 (fun h => c3 (.inr h))
          clear c3
          by_cases c6 : bt s (k : Int) = 92
          · rw [if_pos c6] at hq
            have cb6 : (bt s (k : Int) == 92) = true := beq_iff_eq.2 c6
            clear c6
            by_cases c7 : k + 1 = s.size
            · rw [if_pos c7] at hq
              have HQ := Lib.hid hq
              have cb7 : ((k : Int) + 1 == (s.size : Int)) = true := by simp; omega
              clear hq c7
              go_wp2_with fail
              refine (atom_refused _ _ _).mono ?_
              rintro e w1 ⟨ve, rfl, hE, hB1⟩
              have HE := Lib.hid hE
              have HB1 := Lib.hid (trans_below HB.out hB1)
              clear hE hB1
              go_wp2_with fail
              go_ret3
              exact ⟨_, by rw [← HQ.out]; rfl, by rw [← HQ.out]; exact HE.out, HB1.out⟩
            · rw [if_neg c7] at hq
              have cb7 : ((k : Int) + 1 == (s.size : Int)) = false := by simp; omega
              have hy : (k : Int) + 1 ≤ (s.size : Int) := by omega
              have hx : bs (s.extract (k + 1) s.size) = (bs s).drop (k + 1) := bs_extract s (k + 1)
              have hle : (escOf ((bs s).drop (k + 1))).2 ≤ s.size - (k + 1) := by have := escOf_le ((bs s).drop (k + 1)); rw [List.length_drop, bs_len] at this; exact this
              obtain ⟨E, hE⟩ : ∃ E, E = escOf ((bs s).drop (k + 1)) := ⟨_, rfl⟩
              rw [← hE] at hq hle
              have HX : Hid (escOf (bs (s.extract (k + 1) s.size)) = E) := Lib.hid (by rw [hx, hE])
              clear hE hx c7
              by_cases c8 : E.2 = 0
              · rw [if_pos c8] at hq
                have HQ := Lib.hid hq
                have cb8 : ((E.2 : Int) == 0) = true := by simp [c8]
                clear hq c8
                go_wp2_with fail
                refine (atom_escape _ _).mono ?_
                rw [HX.out]
                rintro e w1 ⟨rfl, hD⟩
                have HB2 := Lib.hid (trans_below HB.out hD.below)
                clear hD
                go_wp2_with fail
                refine (atom_refused _ _ _).mono ?_
                rintro e w1 ⟨ve, rfl, hE, hB1⟩
                have HE := Lib.hid hE
                have HB1 := Lib.hid (trans_below HB2.out hB1)
                clear hE hB1
                go_wp2_with fail
                go_ret3
                exact ⟨_, by rw [← HQ.out]; rfl, by rw [← HQ.out]; exact HE.out, HB1.out⟩
              · rw [if_neg c8] at hq
                have HQ := Lib.hid hq
                have cb8 : ((E.2 : Int) == 0) = false := by simp; omega
                clear hq
                go_wp2_with fail
                refine (atom_escape _ _).mono ?_
                rw [HX.out]
                rintro e w1 ⟨rfl, hD⟩
                have HO2 := Lib.hid (pw_own_below HO.out hD.below)
                have HB2 := Lib.hid (trans_below HB.out hD.below)
                clear hD
                go_wp2_with (at_builtin; refine print_append_num (w0 := w) w.heap.size rfl _ _ 49 5 .u8 1 rfl Tryz.underlying49 infoU8 (by decide) vb acc E.1 rfl rfl HO2.out HB2.out (below_size HB2.out) (by omega) ?_; intro v1 w2 ho hb hg hat)
                have HO3 := Lib.hid ho
                have HB3 := Lib.hid hb
                clear ho hb hg hat
                go_wp2_with fail
                go_roundg (s.size - (k + 1 + E.2))
                case measure => rw [HK.out]; omega
                case rel => exact ⟨k + 1 + E.2, acc ++ [E.1], v1, rfl, by go_num, rfl, by omega, by simp; omega, HQ.out.symm ▸ rfl, HO3.out, HB3.out⟩
          · rw [if_neg c6] at hq
            have HQ := Lib.hid hq
            have cb6 : (bt s (k : Int) == 92) = false := beq_eq_false_iff_ne.2 c6
            clear c6 hq
            go_wp2_with (at_builtin; refine print_append_num (w0 := w) w.heap.size rfl _ _ 49 5 .u8 1 rfl Tryz.underlying49 infoU8 (by decide) vb acc (bt s (k : Int)) rfl rfl HO.out HB.out (below_size HB.out) (by omega) ?_; intro v1 w2 ho hb hg hat)
            have HO3 := Lib.hid ho
            have HB3 := Lib.hid hb
            clear ho hb hg hat
            go_wp2_with fail
            go_roundg (s.size - (k + 1))
            case measure => rw [HK.out]; omega
            case rel => exact ⟨k + 1, acc ++ [bt s (k : Int)], v1, rfl, by go_num, rfl, by omega, by simp; omega, HQ.out.symm ▸ rfl, HO3.out, HB3.out⟩
    · have hq := HR.out
      rw [qLoop, dif_neg hlt] at hq
      have HQ := Lib.hid hq
      clear hq
      go_wp2_with fail
      refine (atom_refused _ _ _).mono ?_
      rintro e w1 ⟨ve, rfl, hE, hB1⟩
      have HE := Lib.hid hE
      have HB1 := Lib.hid (trans_below HB.out hB1)
      clear hE hB1
      go_wp2_with fail
      go_ret3
      exact ⟨_, by rw [← HQ.out]; rfl, by rw [← HQ.out]; exact HE.out, HB1.out⟩

/-- The atom that begins at f. -/
def aScan (s : ByteArray) (f : Nat) : Got :=
  if f < s.size ∧ bt s (f : Int) = 39 then qLoop s f (f + 1) []
  else if f = s.size ∨ isSmall (bt s (f : Int)) = false then noGot ⟨nAtom, f, 20⟩
  else if runEnd isIn s f - f > 255 then noGot ⟨nAtom, f, 4⟩
  else if isRes (s.extract f (runEnd isIn s f)) then noGot ⟨nAtom, f, 20⟩
  else (s.extract f (runEnd isIn s f), runEnd isIn s f, [])

set_option maxRecDepth 100000 in
set_option maxHeartbeats 2000000 in
theorem atom_Scan (s : ByteArray) (f : Nat) (hf : f ≤ s.size) (hm : s.size ≤ 140737488351232) (w : World) (hG : Glob w) :
    Calls Tryz.prog 153 #[.string s, .int .i64 (f : Int)] w (GotPost w (aScan s f)) := by
  have d0 : decide ((f : Int) < 0) = false := decide_eq_false (by omega)
  have d1 : decide ((f : Int) > (s.size : Int)) = false := decide_eq_false (by omega)
  by_cases h0 : f = s.size
  · have HE : Hid (aScan s f = noGot ⟨nAtom, f, 20⟩) := by
      refine Lib.hid ?_
      unfold aScan
      rw [if_neg (by omega), if_pos (.inl h0)]
    have d2 : decide ((f : Int) < (s.size : Int)) = false := decide_eq_false (by omega)
    have d3 : ((f : Int) == (s.size : Int)) = true := by simp [h0]
    rw [HE.out]
    clear h0 hG
    go_enter Tryz.func153, Tryz.ntmps153
    go_wp2_with fail
    refine (atom_refused _ _ _).mono ?_
    rintro e w1 ⟨ve, rfl, hE, hB1⟩
    have HE := Lib.hid hE
    have HB1 := Lib.hid hB1
    clear hE hB1
    go_wp2_with fail
    go_ret3
    exact ⟨_, rfl, HE.out, HB1.out⟩
  · have hlt : f < s.size := by omega
    have d2 : decide ((f : Int) < (s.size : Int)) = true := decide_eq_true (by omega)
    have d3 : ((f : Int) == (s.size : Int)) = false := by simp; omega
    have hb := btk s f
    have hr := bt_range s (f : Int)
    have hx0 : (0 : Int) ≤ (f : Int) := by omega
    have hx1 : (f : Int) < (s.size : Int) := by omega
    by_cases c0 : bt s (f : Int) = 39
    · have HE : Hid (aScan s f = qLoop s f (f + 1) []) := by
        refine Lib.hid ?_
        unfold aScan
        rw [if_pos ⟨hlt, c0⟩]
      have cb0 : (bt s (f : Int) == 39) = true := beq_iff_eq.2 c0
      have HQ := Lib.hid (atom_quoted s f hlt hm w hG)
      rw [HE.out]
      clear c0 h0 hG
      go_enter Tryz.func153, Tryz.ntmps153
      go_wp2_with fail
      refine HQ.out.mono ?_
      rintro e w1 ⟨ve, rfl, hE, hB1⟩
      have HE := Lib.hid hE
      have HB1 := Lib.hid hB1
      clear hE hB1
      go_wp2_with fail
      go_ret3
      exact ⟨_, rfl, HE.out, HB1.out⟩
    · have cb0 : (bt s (f : Int) == 39) = false := beq_eq_false_iff_ne.2 c0
      have hk0 : (kindOf (bt s (f : Int)) != 1) = !isSmall (bt s (f : Int)) := by
        unfold kindOf
        cases isSmall (bt s (f : Int)) <;> simp
        split
        · simp
        · split
          · simp
          · split <;> simp
      cases h1 : isSmall (bt s (f : Int)) with
      | false =>
        have HE : Hid (aScan s f = noGot ⟨nAtom, f, 20⟩) := by
          refine Lib.hid ?_
          unfold aScan
          rw [if_neg (by omega), if_pos (.inr h1)]
        rw [HE.out]
        rw [h1] at hk0
        simp only [Bool.not_false] at hk0
        clear c0 h0 hG h1
        go_enter Tryz.func153, Tryz.ntmps153
        go_wp2_with fail
        refine (atom_kind _ hr.1 hr.2 _).mono ?_
        rintro e w' ⟨rfl, rfl⟩
        go_wp2_with fail
        refine (atom_refused _ _ _).mono ?_
        rintro e w1 ⟨ve, rfl, hE, hB1⟩
        have HE := Lib.hid hE
        have HB1 := Lib.hid hB1
        clear hE hB1
        go_wp2_with fail
        go_ret3
        exact ⟨_, rfl, HE.out, HB1.out⟩
      | true =>
        have hq : aScan s f = if runEnd isIn s f - f > 255 then noGot ⟨nAtom, f, 4⟩ else if isRes (s.extract f (runEnd isIn s f)) then noGot ⟨nAtom, f, 20⟩ else (s.extract f (runEnd isIn s f), runEnd isIn s f, []) := by
          unfold aScan
          rw [if_neg (by omega), if_neg (by simp [h1]; omega)]
        rw [h1] at hk0
        simp only [Bool.not_true] at hk0
        have hge := runEnd_ge isIn s f
        have hle := runEnd_le isIn s f hf
        obtain ⟨E, hE⟩ : ∃ E, E = runEnd isIn s f := ⟨_, rfl⟩
        have HW := Lib.hid (atom_word s f hf hm w)
        rw [← hE] at hq hge hle HW
        have hy1 : (f : Int) ≤ (E : Int) := by omega
        have hy2 : (E : Int) ≤ (s.size : Int) := by omega
        clear c0 h0 hG h1 hE
        by_cases c1 : E - f > 255
        · rw [if_pos c1] at hq
          have d4 : decide ((E : Int) - (f : Int) > 255) = true := decide_eq_true (by omega)
          rw [hq]
          clear hq
          go_enter Tryz.func153, Tryz.ntmps153
          go_wp2_with fail
          refine (atom_kind _ hr.1 hr.2 _).mono ?_
          rintro e w' ⟨rfl, rfl⟩
          go_wp2_with fail
          refine HW.out.mono ?_
          rintro e w' ⟨rfl, rfl⟩
          go_wp2_with fail
          refine (atom_refused _ _ _).mono ?_
          rintro e w1 ⟨ve, rfl, hE, hB1⟩
          have HE := Lib.hid hE
          have HB1 := Lib.hid hB1
          clear hE hB1
          go_wp2_with fail
          go_ret3
          exact ⟨_, rfl, HE.out, HB1.out⟩
        · rw [if_neg c1] at hq
          have hsz : (s.extract f E).size = E - f := by simp; omega
          cases h2 : isRes (s.extract f E) with
          | true =>
            rw [h2, if_pos rfl] at hq
            rw [hq]
            clear hq hsz
            go_enter Tryz.func153, Tryz.ntmps153
            go_wp2_with fail
            refine (atom_kind _ hr.1 hr.2 _).mono ?_
            rintro e w' ⟨rfl, rfl⟩
            go_wp2_with fail
            refine HW.out.mono ?_
            rintro e w' ⟨rfl, rfl⟩
            go_wp2_with fail
            refine (atom_reserved _ _).mono ?_
            rintro e w' ⟨rfl, rfl⟩
            go_wp2_with fail
            refine (atom_refused _ _ _).mono ?_
            rintro e w1 ⟨ve, rfl, hE, hB1⟩
            have HE := Lib.hid hE
            have HB1 := Lib.hid hB1
            clear hE hB1
            go_wp2_with fail
            go_ret3
            exact ⟨_, rfl, HE.out, HB1.out⟩
          | false =>
            rw [h2, if_neg (by simp)] at hq
            rw [hq]
            clear hq hsz
            go_enter Tryz.func153, Tryz.ntmps153
            go_wp2_with fail
            refine (atom_kind _ hr.1 hr.2 _).mono ?_
            rintro e w' ⟨rfl, rfl⟩
            go_wp2_with fail
            refine HW.out.mono ?_
            rintro e w' ⟨rfl, rfl⟩
            go_wp2_with fail
            refine (atom_reserved _ _).mono ?_
            rintro e w' ⟨rfl, rfl⟩
            go_wp2_with fail
            go_ret3
            exact ⟨_, rfl, rfl, Below.refl _ _⟩

/-! ### heddleref01.quoted, heddleref01.Scan -/
def GotR (w : World) (r : Got) (e : Ending) (w' : World) : Prop := ∃ v, e = .returned (.tuple #[.string r.1, .int .i64 (r.2.1 : Int), v]) ∧ LnIs w' w.heap.size r.2.2 v ∧ Below w.heap.size w w'
def LnPost (w : World) (l : List Lk) (e : Ending) (w' : World) : Prop := ∃ v, e = .returned v ∧ LnIs w' w.heap.size l v ∧ Below w.heap.size w w'

theorem lnOf_new (w : World) (x : Lk) : LnIs (w.alloc (.cells #[.string x.ly, .int .i64 x.pl, .int .i64 x.co] 83)) w.heap.size [x] (.slice (some ⟨w.heap.size, 0, none⟩) 1 1) := by
  refine ⟨⟨fun _ _ => trivial, [.string x.ly, .int .i64 x.pl, .int .i64 x.co], ?_, ?_⟩, fun h => by cases h⟩
  · exact World.ownsRow_lit (base := w.heap.size) (e := 83) (size := 3) w #[.string x.ly, .int .i64 x.pl, .int .i64 x.co] 1 (Nat.le_refl _) (by decide) (by simp)
  · exact Reps.c3 (kLk_mkM _ _ _ x) (Reps.none _ _)
theorem mem_One (ly : ByteArray) (at_ co : Int) (w : World) : Calls Tryz.prog 44 #[.string ly, .int .i64 at_, .int .i64 co] w (LnPost w [⟨ly, at_, co⟩]) := by
  have H : Hid (LnPost w [⟨ly, at_, co⟩] (.returned (.slice (some ⟨w.heap.size, 0, none⟩) 1 1)) (w.alloc (.cells #[.string ly, .int .i64 at_, .int .i64 co] 83))) :=
    Lib.hid ⟨_, rfl, lnOf_new w ⟨ly, at_, co⟩, below_alloc (Below.refl _ _) _⟩
  go_enter Tryz.func44, Tryz.ntmps44
  go_wp2_with fail
  go_ret
  exact H.out
theorem ref01_no (at_ co : Int) (w : World) : Calls Tryz.prog 121 #[.int .i64 at_, .int .i64 co] w (LnPost w [⟨nAtom, at_, co⟩]) := by
  go_enter Tryz.func121, Tryz.ntmps121
  go_wp2_with fail
  refine (mem_One _ _ _ _).mono ?_
  rintro e w1 ⟨v, rfl, hL, hB⟩
  have HL := Lib.hid hL
  have HB := Lib.hid hB
  clear hL hB
  go_wp2_with fail
  go_ret
  exact ⟨_, rfl, HL.out, HB.out⟩
theorem ref10_no (at_ co : Int) (w : World) : Calls Tryz.prog 69 #[.int .i64 at_, .int .i64 co] w (LnPost w [⟨nLex, at_, co⟩]) := by
  go_enter Tryz.func69, Tryz.ntmps69
  go_wp2_with fail
  refine (mem_One _ _ _ _).mono ?_
  rintro e w1 ⟨v, rfl, hL, hB⟩
  have HL := Lib.hid hL
  have HB := Lib.hid hB
  clear hL hB
  go_wp2_with fail
  go_ret
  exact ⟨_, rfl, HL.out, HB.out⟩
end Go.Proofs.YtgapeacflkfmdaaGreatDoor
namespace Go.Proofs.YtgapeacflkfmdaaGreatDoor
open Go.RowKit Go.Proofs.YtgapeacflkfmdaaGreatDoorW.PrintWords

theorem strOfNums_size (l : List Int) : (strOfNums l).size = l.length := by
  rw [Lib.size_eq, strOfNums_data, List.length_map]

set_option maxRecDepth 100000 in
set_option maxHeartbeats 2000000 in
theorem ref01_quoted (s : ByteArray) (f : Nat) (hf : f < s.size) (hm : s.size ≤ 140737488351232) (w : World) :
    Calls Tryz.prog 212 #[.string s, .int .i64 (f : Int)] w (GotR w (qLoop s f (f + 1) [])) := by
  obtain ⟨R, hR⟩ : ∃ R, R = qLoop s f (f + 1) [] := ⟨_, rfl⟩
  rw [← hR]
  have HR0 := Lib.hid hR.symm
  clear hR
  go_enter Tryz.func212, Tryz.ntmps212
  go_wp2_with fail
  go_loopg [7, 8] (s.size - (f + 1)) (fun gk vb vi wl => ∃ (k : Nat) (acc : List Int) (v0 : Value), v0 = vb ∧ vi = .int .i64 (k : Int) ∧ gk = s.size - k ∧ k ≤ s.size ∧ acc.length ≤ k ∧ Hid (qLoop s f k acc = R) ∧ Hid (wl.ownsRow w.heap.size 5 1 v0 acc.length (nums .u8 acc)) ∧ Hid (Below w.heap.size w wl))
  case atStart => exact ⟨f + 1, [], _, rfl, by go_num, rfl, by omega, Nat.zero_le _, HR0.out, own_nil _ _ _ _, Below.refl _ _⟩
  case round =>
    clear HR0
    obtain ⟨k, acc, vb, rfl, rfl, hgk, hk, hacc, HR, HO, HB⟩ := hrel
    have HK := Lib.hid hgk
    clear hgk
    by_cases hlt : k < s.size
    · have hb := btk s k
      have hr := bt_range s (k : Int)
      have hx0 : (0 : Int) ≤ (k : Int) := by omega
      have hx1 : (k : Int) < (s.size : Int) := by omega
      have hq := HR.out
      rw [qLoop, dif_pos hlt] at hq
      by_cases c0 : bt s (k : Int) = 39
      · rw [if_pos c0] at hq
        have cb0 : (bt s (k : Int) == 39) = true := beq_iff_eq.2 c0
        have cn0 : (bt s (k : Int) != 39) = false := by simp [c0]
        clear c0
        by_cases c1 : acc.length > 255
        · rw [if_pos c1] at hq
          have HQ := Lib.hid hq
          obtain ⟨A0, cp0, rfl, _⟩ := own_reads HO.out
          clear hq
          go_wp2_with fail
          have HB0 := Lib.hid HB.out
          refine (ref01_no _ _ _).mono ?_
          rintro e w1 ⟨ve, rfl, hE, hB1⟩
          have HE := Lib.hid hE
          have HB1 := Lib.hid (trans_below HB.out hB1)
          clear hE hB1
          go_wp2_with fail
          go_ret3
          exact ⟨_, by rw [← HQ.out]; rfl, by rw [← HQ.out]; exact HE.out.lower (below_size HB0.out), HB1.out⟩
        · rw [if_neg c1] at hq
          obtain ⟨A0, cp0, rfl, _⟩ := own_reads HO.out
          have hcv := own_string (P := Tryz.prog) (src := 49) (dst := 9) Tryz.underlying49 Tryz.underlying5 Tryz.underlying9 HO.out
          have HQ := Lib.hid hq
          clear hq
          go_wp2_with fail
          refine (UTF_any _ (by rw [strOfNums_size]; omega) _).mono ?_
          rintro e w1 ⟨rfl, hD1⟩
          have hB1 := hD1.below
          clear hD1
          have hcv1 := own_string (P := Tryz.prog) (src := 49) (dst := 9) Tryz.underlying49 Tryz.underlying5 Tryz.underlying9 (pw_own_below HO.out hB1)
          have HB2 := Lib.hid (trans_below HB.out hB1)
          clear hcv hB1
          by_cases c2 : 0 ≤ utfBad (strOfNums acc) 0
          · have HQ2 := Lib.hid HQ.out
            have hq2 := HQ.out
            rw [if_pos c2] at hq2
            have HQ := Lib.hid hq2
            have hd : decide (utfBad (strOfNums acc) 0 ≥ 0) = true := decide_eq_true c2
            clear hq2 c2 hcv1
            go_wp2_with fail
            have HB0 := Lib.hid HB2.out
            refine (ref01_no _ _ _).mono ?_
            rintro e w1 ⟨ve, rfl, hE, hB1⟩
            have HE := Lib.hid hE
            have HB1 := Lib.hid (trans_below HB2.out hB1)
            clear hE hB1
            go_wp2_with fail
            go_ret3
            exact ⟨_, by rw [← HQ.out]; rfl, by rw [← HQ.out]; exact HE.out.lower (below_size HB0.out), HB1.out⟩
          · have hq2 := HQ.out
            rw [if_neg c2] at hq2
            have HQ := Lib.hid hq2
            have hd : decide (utfBad (strOfNums acc) 0 ≥ 0) = false := decide_eq_false c2
            clear hq2 c2
            go_wp2_with fail
            go_ret3
            exact ⟨_, by rw [← HQ.out]; rfl, by rw [← HQ.out]; exact LnIs.nil _ _, HB2.out⟩
      · rw [if_neg c0] at hq
        have cb0 : (bt s (k : Int) == 39) = false := beq_eq_false_iff_ne.2 c0
        have cn0 : (bt s (k : Int) != 39) = true := by simp [c0]
        clear c0
        by_cases c3 : bt s (k : Int) < 32 ∨ bt s (k : Int) = 127
        · rw [if_pos c3] at hq
          have HQ := Lib.hid hq
          clear hq
          by_cases c4 : bt s (k : Int) < 32
          · clear c3
            go_wp2_with fail
            have HB0 := Lib.hid HB.out
            refine (ref01_no _ _ _).mono ?_
            rintro e w1 ⟨ve, rfl, hE, hB1⟩
            have HE := Lib.hid hE
            have HB1 := Lib.hid (trans_below HB.out hB1)
            clear hE hB1
            go_wp2_with fail
            go_ret3
            exact ⟨_, by rw [← HQ.out]; rfl, by rw [← HQ.out]; exact HE.out.lower (below_size HB0.out), HB1.out⟩
          · have cb4 : (bt s (k : Int) == 127) = true := beq_iff_eq.2 (c3.resolve_left c4)
            clear c3
            go_wp2_with fail
            have HB0 := Lib.hid HB.out
            refine (ref01_no _ _ _).mono ?_
            rintro e w1 ⟨ve, rfl, hE, hB1⟩
            have HE := Lib.hid hE
            have HB1 := Lib.hid (trans_below HB.out hB1)
            clear hE hB1
            go_wp2_with fail
            go_ret3
            exact ⟨_, by rw [← HQ.out]; rfl, by rw [← HQ.out]; exact HE.out.lower (below_size HB0.out), HB1.out⟩
        · rw [if_neg c3] at hq
          have c4 : ¬ bt s (k : Int) < 32 := fun h => c3 (.inl h)
          have cb5 : (bt s (k : Int) == 127) = false := beq_eq_false_iff_ne.2 (fun h => c3 (.inr h))
          clear c3
          by_cases c6 : bt s (k : Int) = 92
          · rw [if_pos c6] at hq
            have cb6 : (bt s (k : Int) == 92) = true := beq_iff_eq.2 c6
            have cn6 : (bt s (k : Int) != 92) = false := by simp [c6]
            clear c6
            by_cases c7 : k + 1 = s.size
            · rw [if_pos c7] at hq
              have HQ := Lib.hid hq
              have cb7 : ((k : Int) + 1 == (s.size : Int)) = true := by simp; omega
              clear hq c7
              go_wp2_with fail
              have HB0 := Lib.hid HB.out
              refine (ref01_no _ _ _).mono ?_
              rintro e w1 ⟨ve, rfl, hE, hB1⟩
              have HE := Lib.hid hE
              have HB1 := Lib.hid (trans_below HB.out hB1)
              clear hE hB1
              go_wp2_with fail
              go_ret3
              exact ⟨_, by rw [← HQ.out]; rfl, by rw [← HQ.out]; exact HE.out.lower (below_size HB0.out), HB1.out⟩
            · rw [if_neg c7] at hq
              have cb7 : ((k : Int) + 1 == (s.size : Int)) = false := by simp; omega
              have hy : (k : Int) + 1 ≤ (s.size : Int) := by omega
              have hle : (escOf ((bs s).drop (k + 1))).2 ≤ s.size - (k + 1) := by have := escOf_le ((bs s).drop (k + 1)); rw [List.length_drop, bs_len] at this; exact this
              obtain ⟨E, hE⟩ : ∃ E, E = escOf ((bs s).drop (k + 1)) := ⟨_, rfl⟩
              rw [← hE] at hq hle
              have HX : Hid (escOf ((bs s).drop (k + 1)) = E) := Lib.hid hE.symm
              clear hE c7
              by_cases c8 : E.2 = 0
              · rw [if_pos c8] at hq
                have HQ := Lib.hid hq
                have cb8 : ((E.2 : Int) == 0) = true := by simp [c8]
                clear hq c8
                go_wp2_with fail
                refine (ref01_escape s (k + 1) (by omega) hm _).mono ?_
                rw [HX.out]
                rintro e w1 ⟨rfl, hD⟩
                have HB2 := Lib.hid (trans_below HB.out hD.below)
                clear hD
                go_wp2_with fail
                have HB0 := Lib.hid HB2.out
                refine (ref01_no _ _ _).mono ?_
                rintro e w1 ⟨ve, rfl, hE, hB1⟩
                have HE := Lib.hid hE
                have HB1 := Lib.hid (trans_below HB2.out hB1)
                clear hE hB1
                go_wp2_with fail
                go_ret3
                exact ⟨_, by rw [← HQ.out]; rfl, by rw [← HQ.out]; exact HE.out.lower (below_size HB0.out), HB1.out⟩
              · rw [if_neg c8] at hq
                have HQ := Lib.hid hq
                have cb8 : ((E.2 : Int) == 0) = false := by simp; omega
                clear hq
                go_wp2_with fail
                refine (ref01_escape s (k + 1) (by omega) hm _).mono ?_
                rw [HX.out]
                rintro e w1 ⟨rfl, hD⟩
                have HO2 := Lib.hid (pw_own_below HO.out hD.below)
                have HB2 := Lib.hid (trans_below HB.out hD.below)
                clear hD
                go_wp2_with (at_builtin; refine print_append_num (w0 := w) w.heap.size rfl _ _ 49 5 .u8 1 rfl Tryz.underlying49 infoU8 (by decide) vb acc E.1 rfl rfl HO2.out HB2.out (below_size HB2.out) (by omega) ?_; intro v1 w2 ho hb hg hat)
                have HO3 := Lib.hid ho
                have HB3 := Lib.hid hb
                clear ho hb hg hat
                go_wp2_with fail
                go_roundg (s.size - (k + 1 + E.2))
                case measure => rw [HK.out]; omega
                case rel => exact ⟨k + 1 + E.2, acc ++ [E.1], v1, rfl, by go_num, rfl, by omega, by simp; omega, HQ.out.symm ▸ rfl, HO3.out, HB3.out⟩
          · rw [if_neg c6] at hq
            have HQ := Lib.hid hq
            have cb6 : (bt s (k : Int) == 92) = false := beq_eq_false_iff_ne.2 c6
            have cn6 : (bt s (k : Int) != 92) = true := by simp [c6]
            clear c6 hq
            go_wp2_with (at_builtin; refine print_append_num (w0 := w) w.heap.size rfl _ _ 49 5 .u8 1 rfl Tryz.underlying49 infoU8 (by decide) vb acc (bt s (k : Int)) rfl rfl HO.out HB.out (below_size HB.out) (by omega) ?_; intro v1 w2 ho hb hg hat)
            have HO3 := Lib.hid ho
            have HB3 := Lib.hid hb
            clear ho hb hg hat
            go_wp2_with fail
            go_roundg (s.size - (k + 1))
            case measure => rw [HK.out]; omega
            case rel => exact ⟨k + 1, acc ++ [bt s (k : Int)], v1, rfl, by go_num, rfl, by omega, by simp; omega, HQ.out.symm ▸ rfl, HO3.out, HB3.out⟩
    · have hq := HR.out
      rw [qLoop, dif_neg hlt] at hq
      have HQ := Lib.hid hq
      clear hq
      go_wp2_with fail
      have HB0 := Lib.hid HB.out
      refine (ref01_no _ _ _).mono ?_
      rintro e w1 ⟨ve, rfl, hE, hB1⟩
      have HE := Lib.hid hE
      have HB1 := Lib.hid (trans_below HB.out hB1)
      clear hE hB1
      go_wp2_with fail
      go_ret3
      exact ⟨_, by rw [← HQ.out]; rfl, by rw [← HQ.out]; exact HE.out.lower (below_size HB0.out), HB1.out⟩

set_option maxRecDepth 100000 in
set_option maxHeartbeats 2000000 in
theorem ref01_Scan (s : ByteArray) (f : Nat) (hf : f ≤ s.size) (hm : s.size ≤ 140737488351232) (w : World) :
    Calls Tryz.prog 190 #[.string s, .int .i64 (f : Int)] w (GotR w (aScan s f)) := by
  have d0 : decide ((f : Int) < 0) = false := decide_eq_false (by omega)
  have d1 : decide ((f : Int) > (s.size : Int)) = false := decide_eq_false (by omega)
  by_cases h0 : f = s.size
  · have HE : Hid (aScan s f = noGot ⟨nAtom, f, 20⟩) := by
      refine Lib.hid ?_
      unfold aScan
      rw [if_neg (by omega), if_pos (.inl h0)]
    have d3 : ((f : Int) == (s.size : Int)) = true := by simp [h0]
    rw [HE.out]
    clear h0
    go_enter Tryz.func190, Tryz.ntmps190
    go_wp2_with fail
    refine (ref01_no _ _ _).mono ?_
    rintro e w1 ⟨ve, rfl, hE, hB1⟩
    have HE := Lib.hid hE
    have HB1 := Lib.hid hB1
    clear hE hB1
    go_wp2_with fail
    go_ret3
    exact ⟨_, rfl, HE.out, HB1.out⟩
  · have hlt : f < s.size := by omega
    have d3 : ((f : Int) == (s.size : Int)) = false := by simp; omega
    have hb := btk s f
    have hr := bt_range s (f : Int)
    have hx0 : (0 : Int) ≤ (f : Int) := by omega
    have hx1 : (f : Int) < (s.size : Int) := by omega
    by_cases c0 : bt s (f : Int) = 39
    · have HE : Hid (aScan s f = qLoop s f (f + 1) []) := by
        refine Lib.hid ?_
        unfold aScan
        rw [if_pos ⟨hlt, c0⟩]
      have hsm : isSmall (bt s (f : Int)) = false := by rw [c0]; decide
      have cb0 : (bt s (f : Int) == 39) = true := beq_iff_eq.2 c0
      have cn0 : (bt s (f : Int) != 39) = false := by simp [c0]
      have HQ := Lib.hid (ref01_quoted s f hlt hm w)
      rw [HE.out]
      clear c0 h0
      go_enter Tryz.func190, Tryz.ntmps190
      go_wp2_with fail
      refine (ref01_Small _ _).mono ?_
      rintro e w' ⟨rfl, rfl⟩
      go_wp2_with fail
      refine HQ.out.mono ?_
      rintro e w1 ⟨ve, rfl, hE, hB1⟩
      have HE := Lib.hid hE
      have HB1 := Lib.hid hB1
      clear hE hB1
      go_wp2_with fail
      go_ret3
      exact ⟨_, rfl, HE.out, HB1.out⟩
    · have cb0 : (bt s (f : Int) == 39) = false := beq_eq_false_iff_ne.2 c0
      have cn0 : (bt s (f : Int) != 39) = true := by simp [c0]
      cases h1 : isSmall (bt s (f : Int)) with
      | false =>
        have HE : Hid (aScan s f = noGot ⟨nAtom, f, 20⟩) := by
          refine Lib.hid ?_
          unfold aScan
          rw [if_neg (by omega), if_pos (.inr h1)]
        rw [HE.out]
        clear c0 h0
        go_enter Tryz.func190, Tryz.ntmps190
        go_wp2_with fail
        refine (ref01_Small _ _).mono ?_
        rintro e w' ⟨rfl, rfl⟩
        go_wp2_with fail
        refine (ref01_no _ _ _).mono ?_
        rintro e w1 ⟨ve, rfl, hE, hB1⟩
        have HE := Lib.hid hE
        have HB1 := Lib.hid hB1
        clear hE hB1
        go_wp2_with fail
        go_ret3
        exact ⟨_, rfl, HE.out, HB1.out⟩
      | true =>
        have hq : aScan s f = if runEnd isIn s f - f > 255 then noGot ⟨nAtom, f, 4⟩ else if isRes (s.extract f (runEnd isIn s f)) then noGot ⟨nAtom, f, 20⟩ else (s.extract f (runEnd isIn s f), runEnd isIn s f, []) := by
          unfold aScan
          rw [if_neg (by omega), if_neg (by simp [h1]; omega)]
        have HQ0 := Lib.hid hq
        clear c0 h0 hq
        go_enter Tryz.func190, Tryz.ntmps190
        go_wp2_with fail
        refine (ref01_Small _ _).mono ?_
        rintro e w' ⟨rfl, rfl⟩
        go_wp2_with fail
        go_loop [7] (fun i => ∃ k : Nat, i = .int .i64 (k : Int) ∧ f ≤ k ∧ k ≤ s.size ∧ Hid (runEnd isIn s k = runEnd isIn s f)) (fun i => s.size - (intOf i).toNat)
        case atStart => exact ⟨f, rfl, Nat.le_refl _, hf, rfl⟩
        case round =>
          obtain ⟨k, rfl, hfk, hk, HR⟩ := hrel
          by_cases hlk : k < s.size
          · have hbk := btk s k
            have hz0 : (0 : Int) ≤ (k : Int) := by omega
            have hz1 : (k : Int) < (s.size : Int) := by omega
            cases hp : isIn (bt s (k : Int)) with
            | true =>
              have HN : Hid (runEnd isIn s (k + 1) = runEnd isIn s f) := Lib.hid ((runEnd_yes hlk hp).trans HR.out)
              go_wp2_with fail
              refine (ref01_InWord _ _).mono ?_
              rintro e w' ⟨rfl, rfl⟩
              go_wp2_with fail
              go_round
              case rel => exact ⟨k + 1, by go_num, by omega, by omega, HN.out⟩
              case measure => simp [intOf]; omega
            | false =>
              have HN : Hid (runEnd isIn s f = k) := Lib.hid (HR.out.symm.trans (runEnd_no hlk hp))
              have hy1 : (f : Int) ≤ (k : Int) := by omega
              have hy2 : (k : Int) ≤ (s.size : Int) := by omega
              have hq := HQ0.out
              rw [HN.out] at hq
              by_cases c1 : k - f > 255
              · rw [if_pos c1] at hq
                have HQ := Lib.hid hq
                clear hq
                go_wp2_with fail
                refine (ref01_InWord _ _).mono ?_
                rintro e w' ⟨rfl, rfl⟩
                go_wp2_with fail
                refine (ref01_no _ _ _).mono ?_
                rintro e w1 ⟨ve, rfl, hE, hB1⟩
                have HE := Lib.hid hE
                have HB1 := Lib.hid hB1
                clear hE hB1
                go_wp2_with fail
                go_ret3
                exact ⟨_, by rw [HQ.out]; rfl, by rw [HQ.out]; exact HE.out, HB1.out⟩
              · rw [if_neg c1] at hq
                cases h2 : isRes (s.extract f k) with
                | true =>
                  rw [h2, if_pos rfl] at hq
                  have HQ := Lib.hid hq
                  clear hq
                  go_wp2_with fail
                  refine (ref01_InWord _ _).mono ?_
                  rintro e w' ⟨rfl, rfl⟩
                  go_wp2_with fail
                  refine (ref01_Reserved _ _).mono ?_
                  rintro e w2 ⟨rfl, hB2⟩
                  have HB2 := Lib.hid hB2
                  clear hB2
                  go_wp2_with fail
                  refine (ref01_no _ _ _).mono ?_
                  rintro e w1 ⟨ve, rfl, hE, hB1⟩
                  have HE := Lib.hid hE
                  have HB1 := Lib.hid (trans_below HB2.out hB1)
                  clear hE hB1
                  go_wp2_with fail
                  go_ret3
                  exact ⟨_, by rw [HQ.out]; rfl, by rw [HQ.out]; exact HE.out.lower (below_size HB2.out), HB1.out⟩
                | false =>
                  rw [h2, if_neg (by simp)] at hq
                  have HQ := Lib.hid hq
                  clear hq
                  go_wp2_with fail
                  refine (ref01_InWord _ _).mono ?_
                  rintro e w' ⟨rfl, rfl⟩
                  go_wp2_with fail
                  refine (ref01_Reserved _ _).mono ?_
                  rintro e w2 ⟨rfl, hB2⟩
                  have HB2 := Lib.hid hB2
                  clear hB2
                  go_wp2_with fail
                  go_ret3
                  exact ⟨_, by rw [HQ.out]; rfl, by rw [HQ.out]; exact LnIs.nil _ _, HB2.out⟩
          · have HN : Hid (runEnd isIn s f = k) := Lib.hid (HR.out.symm.trans (runEnd_out (by omega)))
            have hy1 : (f : Int) ≤ (k : Int) := by omega
            have hy2 : (k : Int) ≤ (s.size : Int) := by omega
            have hq := HQ0.out
            rw [HN.out] at hq
            by_cases c1 : k - f > 255
            · rw [if_pos c1] at hq
              have HQ := Lib.hid hq
              clear hq
              go_wp2_with fail
              refine (ref01_no _ _ _).mono ?_
              rintro e w1 ⟨ve, rfl, hE, hB1⟩
              have HE := Lib.hid hE
              have HB1 := Lib.hid hB1
              clear hE hB1
              go_wp2_with fail
              go_ret3
              exact ⟨_, by rw [HQ.out]; rfl, by rw [HQ.out]; exact HE.out, HB1.out⟩
            · rw [if_neg c1] at hq
              cases h2 : isRes (s.extract f k) with
              | true =>
                rw [h2, if_pos rfl] at hq
                have HQ := Lib.hid hq
                clear hq
                go_wp2_with fail
                refine (ref01_Reserved _ _).mono ?_
                rintro e w2 ⟨rfl, hB2⟩
                have HB2 := Lib.hid hB2
                clear hB2
                go_wp2_with fail
                refine (ref01_no _ _ _).mono ?_
                rintro e w1 ⟨ve, rfl, hE, hB1⟩
                have HE := Lib.hid hE
                have HB1 := Lib.hid (trans_below HB2.out hB1)
                clear hE hB1
                go_wp2_with fail
                go_ret3
                exact ⟨_, by rw [HQ.out]; rfl, by rw [HQ.out]; exact HE.out.lower (below_size HB2.out), HB1.out⟩
              | false =>
                rw [h2, if_neg (by simp)] at hq
                have HQ := Lib.hid hq
                clear hq
                go_wp2_with fail
                refine (ref01_Reserved _ _).mono ?_
                rintro e w2 ⟨rfl, hB2⟩
                have HB2 := Lib.hid hB2
                clear hB2
                go_wp2_with fail
                go_ret3
                exact ⟨_, by rw [HQ.out]; rfl, by rw [HQ.out]; exact LnIs.nil _ _, HB2.out⟩
end Go.Proofs.YtgapeacflkfmdaaGreatDoor
