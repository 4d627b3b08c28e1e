/-
  Names of nodes: heddleref01.Node, atom.Node. strings.Cut at one byte, atom.Node. term.empty, term.form. term: walk, Measure, Check. Plain Lean: how long a term's text is; where a part's text stands in it.
-/
import Derived.Test.YtgapeacflkfmdaaGreatDoorG3
import Derived.Test.YtgapeacflkfmdaaGreatDoorG2
import Derived.Lib.IndexLaws
import Derived.Deep.Cut
import Derived.Lib.ItoaLen
namespace Go.Proofs.YtgapeacflkfmdaaGreatDoor
open Go.RowKit Go.Proofs.YtgapeacflkfmdaaGreatDoorW.PrintWords

/-! ### heddleref01.Node: plain -/
/-- The place of the last '@' and whether all is good. -/
def ndRun : List Int → Int → Int → Bool → Int × Bool
  | [], _, a, g => (a, g)
  | c :: l, i, a, g => if c = 64 then ndRun l (i + 1) i (g && decide (a < 0)) else ndRun l (i + 1) a (g && (isIn c || c == 45 || (c == 46 && decide (a ≥ 0))))
theorem nd_false : ∀ (l : List Int) (i a : Int), (ndRun l i a false).2 = false
  | [], _, _ => rfl
  | c :: l, i, a => by
    rw [ndRun]
    split
    · rw [Bool.false_and]
      exact nd_false l _ _
    · rw [Bool.false_and]
      exact nd_false l _ _
theorem nd_two : ∀ (l : List Int) (i a : Int), 0 ≤ a → ((ndRun l i a true).2 = l.all (fun c => inHost c && c != 64)) ∧ ((ndRun l i a true).2 = true → (ndRun l i a true).1 = a)
  | [], _, _, _ => ⟨rfl, fun _ => rfl⟩
  | c :: l, i, a, ha => by
    rw [ndRun, List.all_cons]
    by_cases c64 : c = 64
    · rw [if_pos c64, decide_eq_false (by omega), Bool.and_false, nd_false]
      subst c64
      exact ⟨by simp, fun h => by cases h⟩
    · rw [if_neg c64, decide_eq_true ha, Bool.true_and, Bool.and_true]
      have hb : (c != 64) = true := bne_iff_ne.2 c64
      rw [hb, Bool.and_true]
      cases hh : (isIn c || c == 45 || c == 46) with
      | true =>
        have := nd_two l (i + 1) a ha
        unfold inHost
        rw [hh, Bool.true_and]
        exact this
      | false =>
        unfold inHost
        rw [hh, nd_false, Bool.false_and]
        exact ⟨rfl, fun h => by cases h⟩
theorem nd_one : ∀ (l : List Int) (i : Int), 0 ≤ i → ((ndRun l i (-1) true).2 = true ∧ nodeLen l < l.length ↔ nodeLen l < l.length ∧ (l.take (nodeLen l)).all inName = true ∧ (l.drop (nodeLen l + 1)).all (fun c => inHost c && c != 64) = true) ∧
    ((ndRun l i (-1) true).2 = true → (ndRun l i (-1) true).1 = if nodeLen l < l.length then i + nodeLen l else -1)
  | [], _, _ => ⟨by simp [nodeLen, tw], fun _ => by simp [nodeLen, tw, ndRun]⟩
  | c :: l, i, hi => by
    rw [ndRun]
    by_cases c64 : c = 64
    · have e : nodeLen (c :: l) = 0 := tw_no (by simp [c64])
      rw [if_pos c64, decide_eq_true (by decide), Bool.true_and, e]
      obtain ⟨h1, h2⟩ := nd_two l (i + 1) i hi
      rw [h1] at h2 ⊢
      refine ⟨by simp, fun h => ?_⟩
      rw [h2 h, if_pos (by simp)]
      simp
    · have e : nodeLen (c :: l) = nodeLen l + 1 := tw_yes (by simp [c64])
      rw [if_neg c64, decide_eq_false (by decide), Bool.and_false, Bool.or_false, Bool.true_and, e]
      have hl : (c :: l).length = l.length + 1 := rfl
      rw [hl, List.take_succ_cons, List.drop_succ_cons, List.all_cons]
      have hlt : nodeLen l + 1 < l.length + 1 ↔ nodeLen l < l.length := by omega
      obtain ⟨h1, h2⟩ := nd_one l (i + 1) (by omega)
      cases hh : (isIn c || c == 45) with
      | true =>
        have hin : inName c = true := hh
        rw [hin, Bool.true_and]
        refine ⟨by rw [hlt]; exact h1, fun h => ?_⟩
        rw [h2 h]
        by_cases h3 : nodeLen l < l.length
        · rw [if_pos h3, if_pos (by omega)]
          omega
        · rw [if_neg h3, if_neg (by omega)]
      | false =>
        have hin : inName c = false := hh
        rw [hin, nd_false, Bool.false_and]
        exact ⟨by simp, fun h => by cases h⟩
def lenOk (s : ByteArray) : Bool := decide ((s.size : Int) ≥ 3) && decide ((s.size : Int) ≤ 64)
theorem nd_ok (s : ByteArray) : nodeOk s = ((ndRun (bs s) 0 (-1) (lenOk s)).2 && !decide ((ndRun (bs s) 0 (-1) (lenOk s)).1 < 1) && !((ndRun (bs s) 0 (-1) (lenOk s)).1 == (s.size : Int) - 1)) := by
  have hsz := bs_len s
  rw [Bool.eq_iff_iff]
  have hlen : lenOk s = true ↔ 3 ≤ s.size ∧ s.size ≤ 64 := by unfold lenOk; simp; omega
  unfold nodeOk nodeOkL
  rw [hsz]
  simp only [Bool.and_eq_true, decide_eq_true_eq, Bool.not_eq_true', decide_eq_false_iff_not, beq_eq_false_iff_ne]
  have hall : ∀ l : List Int, l.contains 64 = false ∧ l.all inHost = true ↔ l.all (fun c => inHost c && c != 64) = true := by
    intro l
    rw [List.contains_eq_any_beq, List.any_eq_false, List.all_eq_true, List.all_eq_true]
    constructor
    · rintro ⟨h1, h2⟩ x hx
      rw [h2 x hx, Bool.true_and, bne_iff_ne]
      rintro rfl
      exact h1 _ hx (by simp)
    · intro h
      refine ⟨fun x hx hh => ?_, fun x hx => ?_⟩
      · have := h x hx
        simp only [Bool.and_eq_true, bne_iff_ne] at this
        exact this.2 (by simpa using (beq_iff_eq.1 hh).symm)
      · have := h x hx
        simp only [Bool.and_eq_true] at this
        exact this.1
  cases hl : lenOk s with
  | false =>
    rw [nd_false]
    have hn : ¬ (3 ≤ s.size ∧ s.size ≤ 64) := fun h => by rw [hlen.2 h] at hl; cases hl
    constructor
    · intro h
      exfalso
      omega
    · intro h
      cases h.1.1
  | true =>
    obtain ⟨h3, h64⟩ := hlen.1 hl
    obtain ⟨h1, h2⟩ := nd_one (bs s) 0 (by omega)
    rw [hsz] at h1 h2
    constructor
    · rintro ⟨⟨⟨⟨⟨⟨a1, a2⟩, a3⟩, a4⟩, a5⟩, a6⟩, a7⟩
      have hg := (h1.2 ⟨a1, a6, (hall _).1 ⟨a5, a7⟩⟩).1
      have hp := h2 hg
      rw [if_pos a1] at hp
      exact ⟨⟨hg, by omega⟩, by omega⟩
    · rintro ⟨⟨hg, hp1⟩, hp2⟩
      have hp := h2 hg
      by_cases a1 : nodeLen (bs s) < s.size
      · rw [if_pos a1] at hp
        obtain ⟨_, a6, a7⟩ := h1.1 ⟨hg, a1⟩
        obtain ⟨a5, a8⟩ := (hall _).2 a7
        exact ⟨⟨⟨⟨⟨⟨a1, by omega⟩, by omega⟩, h64⟩, a5⟩, a6⟩, a8⟩
      · rw [if_neg a1] at hp
        omega

/-! ### heddleref01.Node: walked -/
def NodeR (w : World) (l : List Lk) (e : Ending) (w' : World) : Prop := ∃ (r1 r2 : ByteArray) (v : Value), e = .returned (.tuple #[.string r1, .string r2, v]) ∧ LnIs w' w.heap.size l v ∧ Below w.heap.size w w'
set_option maxRecDepth 100000 in
set_option maxHeartbeats 8000000 in
theorem ref01_Node (s : ByteArray) (hm : s.size ≤ 140737488351232) (w : World) :
    Calls Tryz.prog 83 #[.string s] w (NodeR w (nodeBad s)) := by
  have HNO := Lib.hid (nd_ok s)
  obtain ⟨R, hR⟩ : ∃ R, R = ndRun (bs s) 0 (-1) (lenOk s) := ⟨_, rfl⟩
  rw [← hR] at HNO
  have HR0 : Hid (ndRun ((bs s).drop 0) ((0 : Nat) : Int) (-1) (lenOk s) = R) := Lib.hid hR.symm
  clear hR
  by_cases h3 : (s.size : Int) ≥ 3
  · have d3 : decide ((s.size : Int) ≥ 3) = true := decide_eq_true h3
    by_cases h64 : (s.size : Int) ≤ 64
    · have d64 : decide ((s.size : Int) ≤ 64) = true := decide_eq_true h64
      have hl : lenOk s = true := by unfold lenOk; rw [d3, d64]; rfl
      rw [hl] at HR0
      clear hl
      go_enter Tryz.func83, Tryz.ntmps83
      go_wp2_with fail
      go_loopg [5, 6, 7] s.size (fun gk va vg vi wl => ∃ (k : Nat) (a : Int) (g : Bool), va = .int .i64 a ∧ vg = .bool g ∧ vi = .int .i64 (k : Int) ∧ gk = s.size - k ∧ k ≤ s.size ∧ -1 ≤ a ∧ a < k ∧ Hid (ndRun ((bs s).drop k) (k : Int) a g = R) ∧ wl = w)
      case atStart => exact ⟨0, -1, true, rfl, rfl, rfl, rfl, Nat.zero_le _, by omega, by omega, HR0, rfl⟩
      case round =>
        clear HR0
        obtain ⟨k, a, g, rfl, rfl, rfl, hgk, hk, ha0, ha1, HN, rfl⟩ := hrel
        have HK := Lib.hid hgk
        clear hgk
        by_cases hlt : k < s.size
        · have hx0 : (0 : Int) ≤ (k : Int) := by omega
          have hx1 : (k : Int) < (s.size : Int) := by omega
          have hbk := btk s k
          have hr := bt_range s (k : Int)
          have hn := HN.out
          clear HN
          rw [bs_drop s k hlt] at hn
          simp only [ndRun] at hn
          generalize bt s (k : Int) = c at hbk hr hn
          have HI := Lib.hid (ref01_InWord c)
          by_cases c64 : c = 64
          · rw [if_pos c64] at hn
            have d1 : (c == 64) = true := beq_iff_eq.2 c64
            have HN : Hid (ndRun ((bs s).drop (k + 1)) ((k + 1 : Nat) : Int) k (g && decide (a < 0)) = R) := Lib.hid hn
            clear hn c64
            cases g with
            | true =>
              rw [Bool.true_and] at HN
              by_cases hneg : a < 0
              · rw [decide_eq_true hneg] at HN
                have d2 : decide (a < 0) = true := decide_eq_true hneg
                go_wp2_with fail
                go_roundg (s.size - (k + 1))
                case measure => rw [HK.out]; omega
                case rel => exact ⟨k + 1, k, true, rfl, rfl, by go_num, rfl, by omega, by omega, by omega, Lib.hid HN.out, rfl⟩
              · rw [decide_eq_false hneg] at HN
                have d2 : decide (a < 0) = false := decide_eq_false hneg
                go_wp2_with fail
                go_roundg (s.size - (k + 1))
                case measure => rw [HK.out]; omega
                case rel => exact ⟨k + 1, k, false, rfl, rfl, by go_num, rfl, by omega, by omega, by omega, Lib.hid HN.out, rfl⟩
            | false =>
              rw [Bool.false_and] at HN
              go_wp2_with fail
              go_roundg (s.size - (k + 1))
              case measure => rw [HK.out]; omega
              case rel => exact ⟨k + 1, k, false, rfl, rfl, by go_num, rfl, by omega, by omega, by omega, Lib.hid HN.out, rfl⟩
          · rw [if_neg c64] at hn
            have d1 : (c == 64) = false := beq_eq_false_iff_ne.2 c64
            have HN : Hid (ndRun ((bs s).drop (k + 1)) ((k + 1 : Nat) : Int) a (g && (isIn c || c == 45 || (c == 46 && decide (a ≥ 0)))) = R) := Lib.hid hn
            clear hn c64
            cases g with
            | false =>
              rw [Bool.false_and] at HN
              go_wp2_with fail
              go_roundg (s.size - (k + 1))
              case measure => rw [HK.out]; omega
              case rel => exact ⟨k + 1, a, false, rfl, rfl, by go_num, rfl, by omega, by omega, by omega, Lib.hid HN.out, rfl⟩
            | true =>
              rw [Bool.true_and] at HN
              cases hin : isIn c with
              | true =>
                rw [hin, Bool.true_or, Bool.true_or] at HN
                rw [hin] at HI
                clear hin
                go_wp2_with fail
                refine (HI.out _).mono ?_
                rintro e w' ⟨rfl, rfl⟩
                go_wp2_with fail
                go_roundg (s.size - (k + 1))
                case measure => rw [HK.out]; omega
                case rel => exact ⟨k + 1, a, true, rfl, rfl, by go_num, rfl, by omega, by omega, by omega, Lib.hid HN.out, rfl⟩
              | false =>
                rw [hin, Bool.false_or] at HN
                rw [hin] at HI
                clear hin
                by_cases c45 : c = 45
                · have d2 : (c == 45) = true := beq_iff_eq.2 c45
                  rw [d2, Bool.true_or] at HN
                  clear c45
                  go_wp2_with fail
                  refine (HI.out _).mono ?_
                  rintro e w' ⟨rfl, rfl⟩
                  go_wp2_with fail
                  go_roundg (s.size - (k + 1))
                  case measure => rw [HK.out]; omega
                  case rel => exact ⟨k + 1, a, true, rfl, rfl, by go_num, rfl, by omega, by omega, by omega, Lib.hid HN.out, rfl⟩
                · have d2 : (c == 45) = false := beq_eq_false_iff_ne.2 c45
                  rw [d2, Bool.false_or] at HN
                  clear c45
                  by_cases c46 : c = 46
                  · have d3 : (c == 46) = true := beq_iff_eq.2 c46
                    rw [d3, Bool.true_and] at HN
                    clear c46
                    by_cases hge : a ≥ 0
                    · have d4 : decide (a ≥ 0) = true := decide_eq_true hge
                      rw [d4] at HN
                      go_wp2_with fail
                      refine (HI.out _).mono ?_
                      rintro e w' ⟨rfl, rfl⟩
                      go_wp2_with fail
                      go_roundg (s.size - (k + 1))
                      case measure => rw [HK.out]; omega
                      case rel => exact ⟨k + 1, a, true, rfl, rfl, by go_num, rfl, by omega, by omega, by omega, Lib.hid HN.out, rfl⟩
                    · have d4 : decide (a ≥ 0) = false := decide_eq_false hge
                      rw [d4] at HN
                      go_wp2_with fail
                      refine (HI.out _).mono ?_
                      rintro e w' ⟨rfl, rfl⟩
                      go_wp2_with fail
                      go_roundg (s.size - (k + 1))
                      case measure => rw [HK.out]; omega
                      case rel => exact ⟨k + 1, a, false, rfl, rfl, by go_num, rfl, by omega, by omega, by omega, Lib.hid HN.out, rfl⟩
                  · have d3 : (c == 46) = false := beq_eq_false_iff_ne.2 c46
                    rw [d3, Bool.false_and] at HN
                    clear c46
                    go_wp2_with fail
                    refine (HI.out _).mono ?_
                    rintro e w' ⟨rfl, rfl⟩
                    go_wp2_with fail
                    go_roundg (s.size - (k + 1))
                    case measure => rw [HK.out]; omega
                    case rel => exact ⟨k + 1, a, false, rfl, rfl, by go_num, rfl, by omega, by omega, by omega, Lib.hid HN.out, rfl⟩
        · have hks : k = s.size := by omega
          have hn := HN.out
          rw [bs_end s k (by omega)] at hn
          have hn : (a, g) = R := hn
          rw [← hn] at HNO
          clear hn HN
          have hno := HNO.out
          simp only at hno
          have d0 : decide ((k : Int) < (s.size : Int)) = false := decide_eq_false (by omega)
          cases hok : nodeOk s with
          | true =>
            rw [hok] at hno
            have HB : Hid (nodeBad s = []) := Lib.hid (by unfold nodeBad; rw [hok]; rfl)
            have hg : g = true ∧ ¬ a < 1 ∧ ¬ a = (s.size : Int) - 1 := by
              simpa [Bool.and_assoc] using hno.symm
            obtain ⟨rfl, h1, h2⟩ := hg
            have d1 : decide (a < 1) = false := decide_eq_false h1
            have d2 : (a == (s.size : Int) - 1) = false := beq_eq_false_iff_ne.2 h2
            have y0 : (0 : Int) ≤ a := by omega
            have y1 : a ≤ (s.size : Int) := by omega
            have y2 : (0 : Int) ≤ a + 1 := by omega
            have y3 : a + 1 ≤ (s.size : Int) := by omega
            clear hno h1 h2 hok HNO hks
            go_wp2_with fail
            go_quiet (fail)
            go_wp2_with fail
            go_ret3
            exact ⟨_, _, _, rfl, by rw [HB.out]; exact LnIs.nil _ _, by repeat (first | exact Below.refl _ _ | apply pw_below_drewN)⟩
          | false =>
            rw [hok] at hno
            have HB : Hid (nodeBad s = [⟨nAtom, 0, 24⟩]) := Lib.hid (by unfold nodeBad; rw [hok]; rfl)
            have hcase : g = false ∨ (g = true ∧ a < 1) ∨ (g = true ∧ ¬ a < 1 ∧ a = (s.size : Int) - 1) := by
              cases g with
              | false => exact .inl rfl
              | true =>
                by_cases h1 : a < 1
                · exact .inr (.inl ⟨rfl, h1⟩)
                · refine .inr (.inr ⟨rfl, h1, ?_⟩)
                  by_cases h2 : a = (s.size : Int) - 1
                  · exact h2
                  · rw [decide_eq_false h1, beq_eq_false_iff_ne.2 h2] at hno
                    cases hno
            clear hno hok HNO hks
            rcases hcase with rfl | ⟨rfl, h1⟩ | ⟨rfl, h1, h2⟩
            · go_wp2_with fail
              refine (ref01_no _ _ _).mono ?_
              rintro e w1 ⟨v1, rfl, hL, hB⟩
              have HL := Lib.hid hL
              have HB1 := Lib.hid hB
              clear hL hB
              go_wp2_with fail
              go_ret3
              exact ⟨_, _, _, rfl, by rw [HB.out]; exact HL.out, HB1.out⟩
            · have d1 : decide (a < 1) = true := decide_eq_true h1
              go_wp2_with fail
              refine (ref01_no _ _ _).mono ?_
              rintro e w1 ⟨v1, rfl, hL, hB⟩
              have HL := Lib.hid hL
              have HB1 := Lib.hid hB
              clear hL hB
              go_wp2_with fail
              go_ret3
              exact ⟨_, _, _, rfl, by rw [HB.out]; exact HL.out, HB1.out⟩
            · have d1 : decide (a < 1) = false := decide_eq_false h1
              have d2 : (a == (s.size : Int) - 1) = true := beq_iff_eq.2 h2
              clear h2
              go_wp2_with fail
              refine (ref01_no _ _ _).mono ?_
              rintro e w1 ⟨v1, rfl, hL, hB⟩
              have HL := Lib.hid hL
              have HB1 := Lib.hid hB
              clear hL hB
              go_wp2_with fail
              go_ret3
              exact ⟨_, _, _, rfl, by rw [HB.out]; exact HL.out, HB1.out⟩
    · have d64 : decide ((s.size : Int) ≤ 64) = false := decide_eq_false h64
      have hl : lenOk s = false := by unfold lenOk; rw [d3, d64]; rfl
      rw [hl] at HR0
      clear hl
      go_enter Tryz.func83, Tryz.ntmps83
      go_wp2_with fail
      go_loopg [5, 6, 7] s.size (fun gk va vg vi wl => ∃ (k : Nat) (a : Int) (g : Bool), va = .int .i64 a ∧ vg = .bool g ∧ vi = .int .i64 (k : Int) ∧ gk = s.size - k ∧ k ≤ s.size ∧ -1 ≤ a ∧ a < k ∧ Hid (ndRun ((bs s).drop k) (k : Int) a g = R) ∧ wl = w)
      case atStart => exact ⟨0, -1, false, rfl, rfl, rfl, rfl, Nat.zero_le _, by omega, by omega, HR0, rfl⟩
      case round =>
        clear HR0
        obtain ⟨k, a, g, rfl, rfl, rfl, hgk, hk, ha0, ha1, HN, rfl⟩ := hrel
        have HK := Lib.hid hgk
        clear hgk
        by_cases hlt : k < s.size
        · have hx0 : (0 : Int) ≤ (k : Int) := by omega
          have hx1 : (k : Int) < (s.size : Int) := by omega
          have hbk := btk s k
          have hr := bt_range s (k : Int)
          have hn := HN.out
          clear HN
          rw [bs_drop s k hlt] at hn
          simp only [ndRun] at hn
          generalize bt s (k : Int) = c at hbk hr hn
          have HI := Lib.hid (ref01_InWord c)
          by_cases c64 : c = 64
          · rw [if_pos c64] at hn
            have d1 : (c == 64) = true := beq_iff_eq.2 c64
            have HN : Hid (ndRun ((bs s).drop (k + 1)) ((k + 1 : Nat) : Int) k (g && decide (a < 0)) = R) := Lib.hid hn
            clear hn c64
            cases g with
            | true =>
              rw [Bool.true_and] at HN
              by_cases hneg : a < 0
              · rw [decide_eq_true hneg] at HN
                have d2 : decide (a < 0) = true := decide_eq_true hneg
                go_wp2_with fail
                go_roundg (s.size - (k + 1))
                case measure => rw [HK.out]; omega
                case rel => exact ⟨k + 1, k, true, rfl, rfl, by go_num, rfl, by omega, by omega, by omega, Lib.hid HN.out, rfl⟩
              · rw [decide_eq_false hneg] at HN
                have d2 : decide (a < 0) = false := decide_eq_false hneg
                go_wp2_with fail
                go_roundg (s.size - (k + 1))
                case measure => rw [HK.out]; omega
                case rel => exact ⟨k + 1, k, false, rfl, rfl, by go_num, rfl, by omega, by omega, by omega, Lib.hid HN.out, rfl⟩
            | false =>
              rw [Bool.false_and] at HN
              go_wp2_with fail
              go_roundg (s.size - (k + 1))
              case measure => rw [HK.out]; omega
              case rel => exact ⟨k + 1, k, false, rfl, rfl, by go_num, rfl, by omega, by omega, by omega, Lib.hid HN.out, rfl⟩
          · rw [if_neg c64] at hn
            have d1 : (c == 64) = false := beq_eq_false_iff_ne.2 c64
            have HN : Hid (ndRun ((bs s).drop (k + 1)) ((k + 1 : Nat) : Int) a (g && (isIn c || c == 45 || (c == 46 && decide (a ≥ 0)))) = R) := Lib.hid hn
            clear hn c64
            cases g with
            | false =>
              rw [Bool.false_and] at HN
              go_wp2_with fail
              go_roundg (s.size - (k + 1))
              case measure => rw [HK.out]; omega
              case rel => exact ⟨k + 1, a, false, rfl, rfl, by go_num, rfl, by omega, by omega, by omega, Lib.hid HN.out, rfl⟩
            | true =>
              rw [Bool.true_and] at HN
              cases hin : isIn c with
              | true =>
                rw [hin, Bool.true_or, Bool.true_or] at HN
                rw [hin] at HI
                clear hin
                go_wp2_with fail
                refine (HI.out _).mono ?_
                rintro e w' ⟨rfl, rfl⟩
                go_wp2_with fail
                go_roundg (s.size - (k + 1))
                case measure => rw [HK.out]; omega
                case rel => exact ⟨k + 1, a, true, rfl, rfl, by go_num, rfl, by omega, by omega, by omega, Lib.hid HN.out, rfl⟩
              | false =>
                rw [hin, Bool.false_or] at HN
                rw [hin] at HI
                clear hin
                by_cases c45 : c = 45
                · have d2 : (c == 45) = true := beq_iff_eq.2 c45
                  rw [d2, Bool.true_or] at HN
                  clear c45
                  go_wp2_with fail
                  refine (HI.out _).mono ?_
                  rintro e w' ⟨rfl, rfl⟩
                  go_wp2_with fail
                  go_roundg (s.size - (k + 1))
                  case measure => rw [HK.out]; omega
                  case rel => exact ⟨k + 1, a, true, rfl, rfl, by go_num, rfl, by omega, by omega, by omega, Lib.hid HN.out, rfl⟩
                · have d2 : (c == 45) = false := beq_eq_false_iff_ne.2 c45
                  rw [d2, Bool.false_or] at HN
                  clear c45
                  by_cases c46 : c = 46
                  · have d3 : (c == 46) = true := beq_iff_eq.2 c46
                    rw [d3, Bool.true_and] at HN
                    clear c46
                    by_cases hge : a ≥ 0
                    · have d4 : decide (a ≥ 0) = true := decide_eq_true hge
                      rw [d4] at HN
                      go_wp2_with fail
                      refine (HI.out _).mono ?_
                      rintro e w' ⟨rfl, rfl⟩
                      go_wp2_with fail
                      go_roundg (s.size - (k + 1))
                      case measure => rw [HK.out]; omega
                      case rel => exact ⟨k + 1, a, true, rfl, rfl, by go_num, rfl, by omega, by omega, by omega, Lib.hid HN.out, rfl⟩
                    · have d4 : decide (a ≥ 0) = false := decide_eq_false hge
                      rw [d4] at HN
                      go_wp2_with fail
                      refine (HI.out _).mono ?_
                      rintro e w' ⟨rfl, rfl⟩
                      go_wp2_with fail
                      go_roundg (s.size - (k + 1))
                      case measure => rw [HK.out]; omega
                      case rel => exact ⟨k + 1, a, false, rfl, rfl, by go_num, rfl, by omega, by omega, by omega, Lib.hid HN.out, rfl⟩
                  · have d3 : (c == 46) = false := beq_eq_false_iff_ne.2 c46
                    rw [d3, Bool.false_and] at HN
                    clear c46
                    go_wp2_with fail
                    refine (HI.out _).mono ?_
                    rintro e w' ⟨rfl, rfl⟩
                    go_wp2_with fail
                    go_roundg (s.size - (k + 1))
                    case measure => rw [HK.out]; omega
                    case rel => exact ⟨k + 1, a, false, rfl, rfl, by go_num, rfl, by omega, by omega, by omega, Lib.hid HN.out, rfl⟩
        · have hks : k = s.size := by omega
          have hn := HN.out
          rw [bs_end s k (by omega)] at hn
          have hn : (a, g) = R := hn
          rw [← hn] at HNO
          clear hn HN
          have hno := HNO.out
          simp only at hno
          have d0 : decide ((k : Int) < (s.size : Int)) = false := decide_eq_false (by omega)
          cases hok : nodeOk s with
          | true =>
            rw [hok] at hno
            have HB : Hid (nodeBad s = []) := Lib.hid (by unfold nodeBad; rw [hok]; rfl)
            have hg : g = true ∧ ¬ a < 1 ∧ ¬ a = (s.size : Int) - 1 := by
              simpa [Bool.and_assoc] using hno.symm
            obtain ⟨rfl, h1, h2⟩ := hg
            have d1 : decide (a < 1) = false := decide_eq_false h1
            have d2 : (a == (s.size : Int) - 1) = false := beq_eq_false_iff_ne.2 h2
            have y0 : (0 : Int) ≤ a := by omega
            have y1 : a ≤ (s.size : Int) := by omega
            have y2 : (0 : Int) ≤ a + 1 := by omega
            have y3 : a + 1 ≤ (s.size : Int) := by omega
            clear hno h1 h2 hok HNO hks
            go_wp2_with fail
            go_quiet (fail)
            go_wp2_with fail
            go_ret3
            exact ⟨_, _, _, rfl, by rw [HB.out]; exact LnIs.nil _ _, by repeat (first | exact Below.refl _ _ | apply pw_below_drewN)⟩
          | false =>
            rw [hok] at hno
            have HB : Hid (nodeBad s = [⟨nAtom, 0, 24⟩]) := Lib.hid (by unfold nodeBad; rw [hok]; rfl)
            have hcase : g = false ∨ (g = true ∧ a < 1) ∨ (g = true ∧ ¬ a < 1 ∧ a = (s.size : Int) - 1) := by
              cases g with
              | false => exact .inl rfl
              | true =>
                by_cases h1 : a < 1
                · exact .inr (.inl ⟨rfl, h1⟩)
                · refine .inr (.inr ⟨rfl, h1, ?_⟩)
                  by_cases h2 : a = (s.size : Int) - 1
                  · exact h2
                  · rw [decide_eq_false h1, beq_eq_false_iff_ne.2 h2] at hno
                    cases hno
            clear hno hok HNO hks
            rcases hcase with rfl | ⟨rfl, h1⟩ | ⟨rfl, h1, h2⟩
            · go_wp2_with fail
              refine (ref01_no _ _ _).mono ?_
              rintro e w1 ⟨v1, rfl, hL, hB⟩
              have HL := Lib.hid hL
              have HB1 := Lib.hid hB
              clear hL hB
              go_wp2_with fail
              go_ret3
              exact ⟨_, _, _, rfl, by rw [HB.out]; exact HL.out, HB1.out⟩
            · have d1 : decide (a < 1) = true := decide_eq_true h1
              go_wp2_with fail
              refine (ref01_no _ _ _).mono ?_
              rintro e w1 ⟨v1, rfl, hL, hB⟩
              have HL := Lib.hid hL
              have HB1 := Lib.hid hB
              clear hL hB
              go_wp2_with fail
              go_ret3
              exact ⟨_, _, _, rfl, by rw [HB.out]; exact HL.out, HB1.out⟩
            · have d1 : decide (a < 1) = false := decide_eq_false h1
              have d2 : (a == (s.size : Int) - 1) = true := beq_iff_eq.2 h2
              clear h2
              go_wp2_with fail
              refine (ref01_no _ _ _).mono ?_
              rintro e w1 ⟨v1, rfl, hL, hB⟩
              have HL := Lib.hid hL
              have HB1 := Lib.hid hB
              clear hL hB
              go_wp2_with fail
              go_ret3
              exact ⟨_, _, _, rfl, by rw [HB.out]; exact HL.out, HB1.out⟩
  · have d3 : decide ((s.size : Int) ≥ 3) = false := decide_eq_false h3
    have hl : lenOk s = false := by unfold lenOk; rw [d3]; rfl
    rw [hl] at HR0
    clear hl
    go_enter Tryz.func83, Tryz.ntmps83
    go_wp2_with fail
    go_loopg [5, 6, 7] s.size (fun gk va vg vi wl => ∃ (k : Nat) (a : Int) (g : Bool), va = .int .i64 a ∧ vg = .bool g ∧ vi = .int .i64 (k : Int) ∧ gk = s.size - k ∧ k ≤ s.size ∧ -1 ≤ a ∧ a < k ∧ Hid (ndRun ((bs s).drop k) (k : Int) a g = R) ∧ wl = w)
    case atStart => exact ⟨0, -1, false, rfl, rfl, rfl, rfl, Nat.zero_le _, by omega, by omega, HR0, rfl⟩
    case round =>
      clear HR0
      obtain ⟨k, a, g, rfl, rfl, rfl, hgk, hk, ha0, ha1, HN, rfl⟩ := hrel
      have HK := Lib.hid hgk
      clear hgk
      by_cases hlt : k < s.size
      · have hx0 : (0 : Int) ≤ (k : Int) := by omega
        have hx1 : (k : Int) < (s.size : Int) := by omega
        have hbk := btk s k
        have hr := bt_range s (k : Int)
        have hn := HN.out
        clear HN
        rw [bs_drop s k hlt] at hn
        simp only [ndRun] at hn
        generalize bt s (k : Int) = c at hbk hr hn
        have HI := Lib.hid (ref01_InWord c)
        by_cases c64 : c = 64
        · rw [if_pos c64] at hn
          have d1 : (c == 64) = true := beq_iff_eq.2 c64
          have HN : Hid (ndRun ((bs s).drop (k + 1)) ((k + 1 : Nat) : Int) k (g && decide (a < 0)) = R) := Lib.hid hn
          clear hn c64
          cases g with
          | true =>
            rw [Bool.true_and] at HN
            by_cases hneg : a < 0
            · rw [decide_eq_true hneg] at HN
              have d2 : decide (a < 0) = true := decide_eq_true hneg
              go_wp2_with fail
              go_roundg (s.size - (k + 1))
              case measure => rw [HK.out]; omega
              case rel => exact ⟨k + 1, k, true, rfl, rfl, by go_num, rfl, by omega, by omega, by omega, Lib.hid HN.out, rfl⟩
            · rw [decide_eq_false hneg] at HN
              have d2 : decide (a < 0) = false := decide_eq_false hneg
              go_wp2_with fail
              go_roundg (s.size - (k + 1))
              case measure => rw [HK.out]; omega
              case rel => exact ⟨k + 1, k, false, rfl, rfl, by go_num, rfl, by omega, by omega, by omega, Lib.hid HN.out, rfl⟩
          | false =>
            rw [Bool.false_and] at HN
            go_wp2_with fail
            go_roundg (s.size - (k + 1))
            case measure => rw [HK.out]; omega
            case rel => exact ⟨k + 1, k, false, rfl, rfl, by go_num, rfl, by omega, by omega, by omega, Lib.hid HN.out, rfl⟩
        · rw [if_neg c64] at hn
          have d1 : (c == 64) = false := beq_eq_false_iff_ne.2 c64
          have HN : Hid (ndRun ((bs s).drop (k + 1)) ((k + 1 : Nat) : Int) a (g && (isIn c || c == 45 || (c == 46 && decide (a ≥ 0)))) = R) := Lib.hid hn
          clear hn c64
          cases g with
          | false =>
            rw [Bool.false_and] at HN
            go_wp2_with fail
            go_roundg (s.size - (k + 1))
            case measure => rw [HK.out]; omega
            case rel => exact ⟨k + 1, a, false, rfl, rfl, by go_num, rfl, by omega, by omega, by omega, Lib.hid HN.out, rfl⟩
          | true =>
            rw [Bool.true_and] at HN
            cases hin : isIn c with
            | true =>
              rw [hin, Bool.true_or, Bool.true_or] at HN
              rw [hin] at HI
              clear hin
              go_wp2_with fail
              refine (HI.out _).mono ?_
              rintro e w' ⟨rfl, rfl⟩
              go_wp2_with fail
              go_roundg (s.size - (k + 1))
              case measure => rw [HK.out]; omega
              case rel => exact ⟨k + 1, a, true, rfl, rfl, by go_num, rfl, by omega, by omega, by omega, Lib.hid HN.out, rfl⟩
            | false =>
              rw [hin, Bool.false_or] at HN
              rw [hin] at HI
              clear hin
              by_cases c45 : c = 45
              · have d2 : (c == 45) = true := beq_iff_eq.2 c45
                rw [d2, Bool.true_or] at HN
                clear c45
                go_wp2_with fail
                refine (HI.out _).mono ?_
                rintro e w' ⟨rfl, rfl⟩
                go_wp2_with fail
                go_roundg (s.size - (k + 1))
                case measure => rw [HK.out]; omega
                case rel => exact ⟨k + 1, a, true, rfl, rfl, by go_num, rfl, by omega, by omega, by omega, Lib.hid HN.out, rfl⟩
              · have d2 : (c == 45) = false := beq_eq_false_iff_ne.2 c45
                rw [d2, Bool.false_or] at HN
                clear c45
                by_cases c46 : c = 46
                · have d3 : (c == 46) = true := beq_iff_eq.2 c46
                  rw [d3, Bool.true_and] at HN
                  clear c46
                  by_cases hge : a ≥ 0
                  · have d4 : decide (a ≥ 0) = true := decide_eq_true hge
                    rw [d4] at HN
                    go_wp2_with fail
                    refine (HI.out _).mono ?_
                    rintro e w' ⟨rfl, rfl⟩
                    go_wp2_with fail
                    go_roundg (s.size - (k + 1))
                    case measure => rw [HK.out]; omega
                    case rel => exact ⟨k + 1, a, true, rfl, rfl, by go_num, rfl, by omega, by omega, by omega, Lib.hid HN.out, rfl⟩
                  · have d4 : decide (a ≥ 0) = false := decide_eq_false hge
                    rw [d4] at HN
                    go_wp2_with fail
                    refine (HI.out _).mono ?_
                    rintro e w' ⟨rfl, rfl⟩
                    go_wp2_with fail
                    go_roundg (s.size - (k + 1))
                    case measure => rw [HK.out]; omega
                    case rel => exact ⟨k + 1, a, false, rfl, rfl, by go_num, rfl, by omega, by omega, by omega, Lib.hid HN.out, rfl⟩
                · have d3 : (c == 46) = false := beq_eq_false_iff_ne.2 c46
                  rw [d3, Bool.false_and] at HN
                  clear c46
                  go_wp2_with fail
                  refine (HI.out _).mono ?_
                  rintro e w' ⟨rfl, rfl⟩
                  go_wp2_with fail
                  go_roundg (s.size - (k + 1))
                  case measure => rw [HK.out]; omega
                  case rel => exact ⟨k + 1, a, false, rfl, rfl, by go_num, rfl, by omega, by omega, by omega, Lib.hid HN.out, rfl⟩
      · have hks : k = s.size := by omega
        have hn := HN.out
        rw [bs_end s k (by omega)] at hn
        have hn : (a, g) = R := hn
        rw [← hn] at HNO
        clear hn HN
        have hno := HNO.out
        simp only at hno
        have d0 : decide ((k : Int) < (s.size : Int)) = false := decide_eq_false (by omega)
        cases hok : nodeOk s with
        | true =>
          rw [hok] at hno
          have HB : Hid (nodeBad s = []) := Lib.hid (by unfold nodeBad; rw [hok]; rfl)
          have hg : g = true ∧ ¬ a < 1 ∧ ¬ a = (s.size : Int) - 1 := by
            simpa [Bool.and_assoc] using hno.symm
          obtain ⟨rfl, h1, h2⟩ := hg
          have d1 : decide (a < 1) = false := decide_eq_false h1
          have d2 : (a == (s.size : Int) - 1) = false := beq_eq_false_iff_ne.2 h2
          have y0 : (0 : Int) ≤ a := by omega
          have y1 : a ≤ (s.size : Int) := by omega
          have y2 : (0 : Int) ≤ a + 1 := by omega
          have y3 : a + 1 ≤ (s.size : Int) := by omega
          clear hno h1 h2 hok HNO hks
          go_wp2_with fail
          go_quiet (fail)
          go_wp2_with fail
          go_ret3
          exact ⟨_, _, _, rfl, by rw [HB.out]; exact LnIs.nil _ _, by repeat (first | exact Below.refl _ _ | apply pw_below_drewN)⟩
        | false =>
          rw [hok] at hno
          have HB : Hid (nodeBad s = [⟨nAtom, 0, 24⟩]) := Lib.hid (by unfold nodeBad; rw [hok]; rfl)
          have hcase : g = false ∨ (g = true ∧ a < 1) ∨ (g = true ∧ ¬ a < 1 ∧ a = (s.size : Int) - 1) := by
            cases g with
            | false => exact .inl rfl
            | true =>
              by_cases h1 : a < 1
              · exact .inr (.inl ⟨rfl, h1⟩)
              · refine .inr (.inr ⟨rfl, h1, ?_⟩)
                by_cases h2 : a = (s.size : Int) - 1
                · exact h2
                · rw [decide_eq_false h1, beq_eq_false_iff_ne.2 h2] at hno
                  cases hno
          clear hno hok HNO hks
          rcases hcase with rfl | ⟨rfl, h1⟩ | ⟨rfl, h1, h2⟩
          · go_wp2_with fail
            refine (ref01_no _ _ _).mono ?_
            rintro e w1 ⟨v1, rfl, hL, hB⟩
            have HL := Lib.hid hL
            have HB1 := Lib.hid hB
            clear hL hB
            go_wp2_with fail
            go_ret3
            exact ⟨_, _, _, rfl, by rw [HB.out]; exact HL.out, HB1.out⟩
          · have d1 : decide (a < 1) = true := decide_eq_true h1
            go_wp2_with fail
            refine (ref01_no _ _ _).mono ?_
            rintro e w1 ⟨v1, rfl, hL, hB⟩
            have HL := Lib.hid hL
            have HB1 := Lib.hid hB
            clear hL hB
            go_wp2_with fail
            go_ret3
            exact ⟨_, _, _, rfl, by rw [HB.out]; exact HL.out, HB1.out⟩
          · have d1 : decide (a < 1) = false := decide_eq_false h1
            have d2 : (a == (s.size : Int) - 1) = true := beq_iff_eq.2 h2
            clear h2
            go_wp2_with fail
            refine (ref01_no _ _ _).mono ?_
            rintro e w1 ⟨v1, rfl, hL, hB⟩
            have HL := Lib.hid hL
            have HB1 := Lib.hid hB
            clear hL hB
            go_wp2_with fail
            go_ret3
            exact ⟨_, _, _, rfl, by rw [HB.out]; exact HL.out, HB1.out⟩
end Go.Proofs.YtgapeacflkfmdaaGreatDoor
namespace Go.Proofs.YtgapeacflkfmdaaGreatDoor
open Go.RowKit Go.Proofs.YtgapeacflkfmdaaGreatDoorW.PrintWords

/-! ### strings.Cut at a separator of one byte -/
theorem cut_one (s : ByteArray) (c : UInt8) (hm : s.size ≤ 140737488351232) (w : World) :
    Calls Tryz.prog 205 #[.string s, .string ⟨#[c]⟩] w fun e w' => (∃ k : Nat, Lib.indexByte s.data.toList c = (k : Int) ∧ k < s.size ∧ e = .returned (.tuple #[.string (s.extract 0 k), .string (s.extract (k + 1) s.size), .bool true]) ∨ Lib.indexByte s.data.toList c < 0 ∧ e = .returned (.tuple #[.string s, .string ⟨#[]⟩, .bool false])) ∧ Below w.heap.size w w' := by
  have HI := Lib.hid (Tryz.stringslite_Index_one s c)
  have hge := Lib.indexByte_ge s.data.toList c
  have hlt : ∀ k : Nat, Lib.indexByte s.data.toList c = (k : Int) → k < s.size := by
    intro k hk
    have := (Lib.indexByte_some hk).1
    rw [Lib.size_eq]
    exact (List.getElem?_eq_some_iff.1 this).1
  generalize Lib.indexByte s.data.toList c = I at HI hge hlt ⊢
  by_cases h0 : 0 ≤ I
  · obtain ⟨k, rfl⟩ := Int.eq_ofNat_of_zero_le h0
    have hk := hlt k rfl
    clear hlt hge
    have d0 : decide ((k : Int) ≥ 0) = true := decide_eq_true h0
    have y1 : (k : Int) ≤ (s.size : Int) := by omega
    have y2 : (0 : Int) ≤ (k : Int) + 1 := by omega
    have y3 : (k : Int) + 1 ≤ (s.size : Int) := by omega
    go_enter Tryz.func205, Tryz.ntmps205
    go_wp2_with fail
    refine (HI.out _).mono ?_
    rintro e w1 ⟨rfl, rfl⟩
    go_wp2_with fail
    go_quiet (fail)
    go_wp2_with fail
    go_ret3
    exact ⟨⟨k, .inl ⟨rfl, hk, by simp⟩⟩, by repeat (first | exact Below.refl _ _ | apply pw_below_drewN)⟩
  · have d0 : decide (I ≥ 0) = false := decide_eq_false h0
    clear hlt hge
    go_enter Tryz.func205, Tryz.ntmps205
    go_wp2_with fail
    refine (HI.out _).mono ?_
    rintro e w1 ⟨rfl, rfl⟩
    go_wp2_with fail
    go_ret3
    exact ⟨⟨0, .inr ⟨by omega, rfl⟩⟩, Below.refl _ _⟩

/-- A name's two parts, as they are cut. -/
def CutOk (s N H : ByteArray) (ok : Bool) : Prop :=
  N.size ≤ s.size ∧ H.size ≤ s.size ∧ nodeOk s = (ok && decide (0 < N.size) && decide (0 < H.size) && decide (s.size ≤ 64) && !decide (0 ≤ Lib.indexByte H.data.toList 64) && (bs N).all inName && (bs H).all inHost)
theorem index_len : ∀ (l : List UInt8), (Lib.indexByte l 64 = -1 ∧ nodeLen (l.map fun c => (c.toNat : Int)) = l.length) ∨ (Lib.indexByte l 64 = (nodeLen (l.map fun c => (c.toNat : Int)) : Nat) ∧ nodeLen (l.map fun c => (c.toNat : Int)) < l.length)
  | [] => .inl ⟨rfl, rfl⟩
  | b :: l => by
    by_cases hb : b = 64
    · right
      subst hb
      have e : nodeLen (((64 : UInt8) :: l).map fun c => (c.toNat : Int)) = 0 := tw_no (by decide)
      rw [e]
      exact ⟨rfl, by simp⟩
    · have h64 : ((b.toNat : Int) != 64) = true := by
        rw [bne_iff_ne]
        intro h
        exact hb (UInt8.toNat_inj.1 (by have : b.toNat = 64 := by omega
                                        rw [this]; rfl))
      have e : nodeLen ((b :: l).map fun c => (c.toNat : Int)) = nodeLen (l.map fun c => (c.toNat : Int)) + 1 := tw_yes h64
      have hbe : (b == 64) = false := beq_eq_false_iff_ne.2 hb
      rw [e, Lib.indexByte, hbe]
      simp only [Bool.false_eq_true, if_false]
      rcases index_len l with ⟨h1, h2⟩ | ⟨h1, h2⟩
      · left
        rw [h1]
        exact ⟨rfl, by simp [h2]⟩
      · right
        rw [h1, if_neg (by simp)]
        exact ⟨by simp, by simpa using h2⟩
theorem bs_data' (x : ByteArray) : bs x = x.data.toList.map fun c => (c.toNat : Int) := by
  apply List.ext_getElem
  · rw [bs_len, List.length_map, Lib.size_eq]
  · intro i h1 h2
    rw [bs_len] at h1
    rw [bs_get _ i h1, ← btk _ i h1, List.getElem_map]
    rfl
theorem bs_cut' (s : ByteArray) (a b : Nat) : bs (s.extract a b) = ((bs s).drop a).take (b - a) := by
  rw [bs_data', bs_data', ← List.map_drop, ← List.map_take]
  congr 1
  simp [List.extract_eq_take_drop]
theorem index_has (H : ByteArray) : decide (0 ≤ Lib.indexByte H.data.toList 64) = (bs H).contains 64 := by
  rw [bs_data', Bool.eq_iff_iff, decide_eq_true_eq, List.contains_iff_mem, List.mem_map]
  constructor
  · intro h
    obtain ⟨o, ho⟩ := Int.eq_ofNat_of_zero_le h
    have := (Lib.indexByte_some ho).1
    exact ⟨64, List.mem_of_getElem? this, rfl⟩
  · rintro ⟨c, hc, h⟩
    have : c = 64 := UInt8.toNat_inj.1 (show c.toNat = 64 by omega)
    subst this
    have hge := Lib.indexByte_ge H.data.toList 64
    by_cases h1 : Lib.indexByte H.data.toList 64 = -1
    · obtain ⟨k, hk, he⟩ := List.getElem_of_mem hc
      exact absurd (by rw [List.getElem?_eq_getElem hk, he]) (Lib.indexByte_none h1 k)
    · omega
theorem cutOk_some {s : ByteArray} {k : Nat} (h : Lib.indexByte s.data.toList 64 = (k : Int)) (hk : k < s.size) : CutOk s (s.extract 0 k) (s.extract (k + 1) s.size) true := by
  have hn : nodeLen (bs s) = k := by
    rw [bs_data']
    rcases index_len s.data.toList with ⟨h1, _⟩ | ⟨h1, _⟩
    · omega
    · omega
  have e1 : bs (s.extract 0 k) = (bs s).take k := by rw [bs_cut']; simp
  have e2 : bs (s.extract (k + 1) s.size) = (bs s).drop (k + 1) := by
    rw [bs_cut', List.take_of_length_le (by rw [List.length_drop, bs_len]; omega)]
  have s1 : (s.extract 0 k).size = k := by simp; omega
  have s2 : (s.extract (k + 1) s.size).size = s.size - (k + 1) := by simp
  refine ⟨by omega, by omega, ?_⟩
  rw [index_has, e1, e2, s1, s2]
  unfold nodeOk nodeOkL
  rw [hn, bs_len, Bool.eq_iff_iff]
  simp only [Bool.and_eq_true, decide_eq_true_eq, Bool.true_and]
  constructor
  · rintro ⟨⟨⟨⟨⟨⟨a1, a2⟩, a3⟩, a4⟩, a5⟩, a6⟩, a7⟩
    exact ⟨⟨⟨⟨⟨a2, by omega⟩, a4⟩, a5⟩, a6⟩, a7⟩
  · rintro ⟨⟨⟨⟨⟨a2, a3⟩, a4⟩, a5⟩, a6⟩, a7⟩
    exact ⟨⟨⟨⟨⟨⟨hk, a2⟩, by omega⟩, a4⟩, a5⟩, a6⟩, a7⟩
theorem cutOk_none {s : ByteArray} (h : Lib.indexByte s.data.toList 64 < 0) : CutOk s s ⟨#[]⟩ false := by
  refine ⟨Nat.le_refl _, Nat.zero_le _, ?_⟩
  have hn : ¬ nodeLen (bs s) < s.size := by
    rw [bs_data', Lib.size_eq]
    rcases index_len s.data.toList with ⟨h1, h2⟩ | ⟨h1, _⟩
    · omega
    · omega
  unfold nodeOk nodeOkL
  rw [bs_len]
  simp [hn]
theorem strings_Cut_at (s : ByteArray) (hm : s.size ≤ 140737488351232) (w : World) :
    Calls Tryz.prog 182 #[.string s, .string ⟨#[64]⟩] w fun e w' => (∃ N H ok, e = .returned (.tuple #[.string N, .string H, .bool ok]) ∧ CutOk s N H ok) ∧ Below w.heap.size w w' := by
  have HC := Lib.hid (cut_one s 64 hm)
  go_enter Tryz.func182, Tryz.ntmps182
  go_wp2_with fail
  refine (HC.out _).mono ?_
  rintro e w1 ⟨⟨k, h⟩, hB⟩
  have HB := Lib.hid hB
  clear hB
  rcases h with ⟨h1, h2, rfl⟩ | ⟨h1, rfl⟩
  · have HO := Lib.hid (cutOk_some h1 h2)
    clear h1 h2
    go_wp2_with fail
    go_ret3
    exact ⟨⟨_, _, _, rfl, HO.out⟩, HB.out⟩
  · have HO := Lib.hid (cutOk_none h1)
    clear h1
    go_wp2_with fail
    go_ret3
    exact ⟨⟨_, _, _, rfl, HO.out⟩, HB.out⟩

/-! ### atom.Node -/
def NodePost (w : World) (l : List Lk) (e : Ending) (w' : World) : Prop := ∃ (r1 r2 : ByteArray) (v : Value), e = .returned (.tuple #[.string r1, .string r2, v]) ∧ ErrIs w' l v ∧ Below w.heap.size w w'
def nodeHead (s N H : ByteArray) (ok : Bool) : Bool := ok && decide (0 < N.size) && decide (0 < H.size) && decide (s.size ≤ 64) && !decide (0 ≤ Lib.indexByte H.data.toList 64)
set_option maxRecDepth 100000 in
set_option maxHeartbeats 8000000 in
theorem atom_Node (s : ByteArray) (hm : s.size ≤ 140737488351232) (w : World) :
    Calls Tryz.prog 135 #[.string s] w (NodePost w (nodeBad s)) := by
  have HC := Lib.hid (strings_Cut_at s hm)
  obtain ⟨F2, hF2⟩ : ∃ F, F = nodeBad s := ⟨_, rfl⟩
  rw [← hF2]
  have HF2 := Lib.hid hF2
  clear hF2
  go_enter Tryz.func135, Tryz.ntmps135
  go_wp2_with fail
  refine (HC.out _).mono ?_
  rintro e w1 ⟨⟨N, H, ok, rfl, hO⟩, hB⟩
  have HO := Lib.hid hO
  have HB := Lib.hid hB
  have HCO := Lib.hid (Tryz.strings_Contains_one H 64)
  clear hO hB
  obtain ⟨g0, hg0⟩ : ∃ g, g = nodeHead s N H ok := ⟨_, rfl⟩
  have HG := Lib.hid hg0
  clear hg0
  go_upto_region 2 with (fail)
  go_cut [8] from 13 (fun v8 w' => v8 = .bool g0 ∧ w' = w1)
  case first =>
    cases ok with
    | false =>
      go_wp2_with fail
      go_meet
      case rel => exact ⟨by rw [HG.out]; unfold nodeHead; simp [Bool.false_and], rfl⟩
    | true =>
      by_cases hN : N.size = 0
      · have hN1 := isEmpty_of hN
        have hz : Hid (decide (0 < N.size) = false) := Lib.hid (decide_eq_false (by omega))
        clear hN
        go_wp2_with fail
        go_meet
        case rel => exact ⟨by rw [HG.out]; unfold nodeHead; simp [hz.out], rfl⟩
      · have hN1 := isEmpty_not hN
        have hz : Hid (decide (0 < N.size) = true) := Lib.hid (decide_eq_true (by omega))
        clear hN
        by_cases hH : H.size = 0
        · have hH1 := isEmpty_of hH
          have hy : Hid (decide (0 < H.size) = false) := Lib.hid (decide_eq_false (by omega))
          clear hH
          go_wp2_with fail
          go_meet
          case rel => exact ⟨by rw [HG.out]; unfold nodeHead; simp [hy.out], rfl⟩
        · have hH1 := isEmpty_not hH
          have hy : Hid (decide (0 < H.size) = true) := Lib.hid (decide_eq_true (by omega))
          clear hH
          by_cases hs : (s.size : Int) ≤ 64
          · have d3 : decide ((s.size : Int) ≤ 64) = true := decide_eq_true hs
            have hx : Hid (decide (s.size ≤ 64) = true) := Lib.hid (decide_eq_true (by omega))
            clear hs
            go_wp2_with fail
            refine (HCO.out _).mono ?_
            rintro e w' ⟨rfl, rfl⟩
            go_wp2_with fail
            go_meet
            case rel => exact ⟨by rw [HG.out]; unfold nodeHead; rw [hz.out, hy.out, hx.out]; simp, rfl⟩
          · have d3 : decide ((s.size : Int) ≤ 64) = false := decide_eq_false hs
            have hx : Hid (decide (s.size ≤ 64) = false) := Lib.hid (decide_eq_false (by omega))
            clear hs
            go_wp2_with fail
            go_meet
            case rel => exact ⟨by rw [HG.out]; unfold nodeHead; simp [hx.out], rfl⟩
  case rest =>
    obtain ⟨rfl, rfl⟩ := hcut
    have HFIN : Hid (nodeOk s = ((g0 && ((bs N).drop 0).all inName) && ((bs H).drop 0).all inHost)) := Lib.hid (by rw [HG.out, List.drop_zero, List.drop_zero]; exact HO.out.2.2)
    have hNs : N.size ≤ 140737488351232 := Nat.le_trans HO.out.1 hm
    have hHs : H.size ≤ 140737488351232 := Nat.le_trans HO.out.2.1 hm
    clear HG HO HCO
    obtain ⟨F1, hF1⟩ : ∃ F, F = (g0 && ((bs N).drop 0).all inName) := ⟨_, rfl⟩
    rw [← hF1] at HFIN
    have HS1 : Hid ((g0 && ((bs N).drop 0).all inName) = F1) := Lib.hid hF1.symm
    clear hF1
    have kb := fun W => print_bytes (P := Tryz.prog) 9 49 5 Tryz.underlying9 Tryz.underlying49 Tryz.underlying5 N W
    go_wp2_with fail
    clear kb
    have HBC := Lib.hid (bytes_cell wc 5 N)
    obtain ⟨w0, hw0⟩ : ∃ W, W = Lib.bytesWorld wc 5 N := ⟨_, rfl⟩
    have HB0 : Hid (Below w.heap.size w w0) := Lib.hid (by rw [hw0]; exact trans_below HB.out (Lib.bytesWorld_below wc 5 N))
    rw [← hw0] at HBC
    rw [← hw0]
    clear hw0
    generalize wc.heap.size = bb at HBC ⊢
    generalize grownCap _ _ _ _ = cp0
    clear HB
    go_loopg [8, 41] N.size (fun gk v8 vi wl => ∃ (k : Nat) (g : Bool), v8 = .bool g ∧ vi = .int .i64 (k : Int) ∧ gk = N.size - k ∧ k ≤ N.size ∧ Hid ((g && ((bs N).drop k).all inName) = F1) ∧ wl = w0)
    case atStart => exact ⟨0, g0, rfl, rfl, rfl, Nat.zero_le _, HS1, rfl⟩
    case round =>
      clear HS1
      obtain ⟨k, g, rfl, rfl, hgk, hk, HN, rfl⟩ := hrel
      have HK := Lib.hid hgk
      clear hgk
      by_cases hlt : k < N.size
      · have hx0 : (0 : Int) ≤ (k : Int) := by omega
        have hx1 : (k : Int) < (N.size : Int) := by omega
        have hcell := HBC.out k hlt
        have hr := bt_range N (k : Int)
        have hn := HN.out
        clear HN
        rw [bs_drop N k hlt, List.all_cons] at hn
        generalize bt N (k : Int) = c at hcell hr hn
        have HI := Lib.hid (atom_kind c hr.1 hr.2)
        have HN := Lib.hid hn
        clear hn
        cases g with
        | false =>
          rw [Bool.false_and] at HN
          have HN : Hid ((false && ((bs N).drop (k + 1)).all inName) = F1) := Lib.hid HN.out
          go_wp2_with fail
          go_roundg (N.size - (k + 1))
          case measure => rw [HK.out]; omega
          case rel => exact ⟨k + 1, false, rfl, by go_num, rfl, by omega, Lib.hid HN.out, rfl⟩
        | true =>
          rw [Bool.true_and] at HN
          cases hin : isIn c with
          | true =>
            rw [show inName c = true by unfold inName; rw [hin]; rfl, Bool.true_and] at HN
            have HKD : Hid ((kindOf c != 0) = true) := Lib.hid (by rw [kindOf_in, hin])
            have hkd := HKD.out
            generalize kindOf c = kk at HI hkd
            go_wp2_with fail
            refine (HI.out _).mono ?_
            rintro e w' ⟨rfl, rfl⟩
            go_wp2_with fail
            go_roundg (N.size - (k + 1))
            case measure => rw [HK.out]; omega
            case rel => exact ⟨k + 1, true, rfl, by go_num, rfl, by omega, Lib.hid HN.out, rfl⟩
          | false =>
            have HKD : Hid ((kindOf c != 0) = false) := Lib.hid (by rw [kindOf_in, hin])
            by_cases c45 : c = 45
            · have d2 : (c == 45) = true := beq_iff_eq.2 c45
              rw [show inName c = true by unfold inName; rw [hin, d2]; rfl, Bool.true_and] at HN
              clear hin c45
              have hkd := HKD.out
              generalize kindOf c = kk at HI hkd
              go_wp2_with fail
              refine (HI.out _).mono ?_
              rintro e w' ⟨rfl, rfl⟩
              go_wp2_with fail
              go_roundg (N.size - (k + 1))
              case measure => rw [HK.out]; omega
              case rel => exact ⟨k + 1, true, rfl, by go_num, rfl, by omega, Lib.hid HN.out, rfl⟩
            · have d2 : (c == 45) = false := beq_eq_false_iff_ne.2 c45
              rw [show inName c = false by unfold inName; rw [hin, d2]; rfl, Bool.false_and] at HN
              clear hin c45
              have hkd := HKD.out
              generalize kindOf c = kk at HI hkd
              go_wp2_with fail
              refine (HI.out _).mono ?_
              rintro e w' ⟨rfl, rfl⟩
              go_wp2_with fail
              go_roundg (N.size - (k + 1))
              case measure => rw [HK.out]; omega
              case rel => exact ⟨k + 1, false, rfl, by go_num, rfl, by omega, Lib.hid HN.out, rfl⟩
      ·
        have HE1 : Hid (g = F1) := Lib.hid (by have h := HN.out; rw [bs_end N k (by omega), List.all_nil, Bool.and_true] at h; exact h)
        have HS2 : Hid ((g && ((bs H).drop 0).all inHost) = nodeOk s) := Lib.hid (by rw [HE1.out]; exact HFIN.out.symm)
        have d0 : decide (k < N.size) = false := decide_eq_false hlt
        clear HN HK HBC HE1 HFIN hk hlt
        obtain ⟨F3, hF3⟩ : ∃ F, F = nodeOk s := ⟨_, rfl⟩
        rw [← hF3] at HS2
        have HF3 := Lib.hid hF3
        clear hF3
        have kb := fun W => print_bytes (P := Tryz.prog) 9 49 5 Tryz.underlying9 Tryz.underlying49 Tryz.underlying5 H W
        go_wp2_with fail
        clear kb d0
        have HBC := Lib.hid (bytes_cell wr 5 H)
        obtain ⟨w5, hw5⟩ : ∃ W, W = Lib.bytesWorld wr 5 H := ⟨_, rfl⟩
        have HB5 : Hid (Below w.heap.size w w5) := Lib.hid (by rw [hw5]; exact trans_below HB0.out (Lib.bytesWorld_below wr 5 H))
        rw [← hw5] at HBC
        rw [← hw5]
        clear hw5
        generalize wr.heap.size = b2 at HBC ⊢
        generalize grownCap _ _ _ _ = cp1
        clear HB0
        go_loopg [8, 59] H.size (fun gk v8 vi wl => ∃ (k : Nat) (g : Bool), v8 = .bool g ∧ vi = .int .i64 (k : Int) ∧ gk = H.size - k ∧ k ≤ H.size ∧ Hid ((g && ((bs H).drop k).all inHost) = F3) ∧ wl = w5)
        case atStart => exact ⟨0, g, rfl, rfl, rfl, Nat.zero_le _, HS2, rfl⟩
        case round =>
          clear HS2
          obtain ⟨k, g, rfl, rfl, hgk, hk, HN, rfl⟩ := hrel
          have HK := Lib.hid hgk
          clear hgk
          by_cases hlt : k < H.size
          · have hx0 : (0 : Int) ≤ (k : Int) := by omega
            have hx1 : (k : Int) < (H.size : Int) := by omega
            have hcell := HBC.out k hlt
            have hr := bt_range H (k : Int)
            have hn := HN.out
            clear HN
            rw [bs_drop H k hlt, List.all_cons] at hn
            generalize bt H (k : Int) = c at hcell hr hn
            have HI := Lib.hid (atom_kind c hr.1 hr.2)
            have HN := Lib.hid hn
            clear hn
            cases g with
            | false =>
              rw [Bool.false_and] at HN
              have HN : Hid ((false && ((bs H).drop (k + 1)).all inHost) = F3) := Lib.hid HN.out
              go_wp2_with fail
              go_roundg (H.size - (k + 1))
              case measure => rw [HK.out]; omega
              case rel => exact ⟨k + 1, false, rfl, by go_num, rfl, by omega, Lib.hid HN.out, rfl⟩
            | true =>
              rw [Bool.true_and] at HN
              cases hin : isIn c with
              | true =>
                rw [show inHost c = true by unfold inHost; rw [hin]; rfl, Bool.true_and] at HN
                have HKD : Hid ((kindOf c != 0) = true) := Lib.hid (by rw [kindOf_in, hin])
                have hkd := HKD.out
                generalize kindOf c = kk at HI hkd
                go_wp2_with fail
                refine (HI.out _).mono ?_
                rintro e w' ⟨rfl, rfl⟩
                go_wp2_with fail
                go_roundg (H.size - (k + 1))
                case measure => rw [HK.out]; omega
                case rel => exact ⟨k + 1, true, rfl, by go_num, rfl, by omega, Lib.hid HN.out, rfl⟩
              | false =>
                have HKD : Hid ((kindOf c != 0) = false) := Lib.hid (by rw [kindOf_in, hin])
                by_cases c45 : c = 45
                · have d2 : (c == 45) = true := beq_iff_eq.2 c45
                  rw [show inHost c = true by unfold inHost; rw [hin, d2]; rfl, Bool.true_and] at HN
                  clear hin c45
                  have hkd := HKD.out
                  generalize kindOf c = kk at HI hkd
                  go_wp2_with fail
                  refine (HI.out _).mono ?_
                  rintro e w' ⟨rfl, rfl⟩
                  go_wp2_with fail
                  go_roundg (H.size - (k + 1))
                  case measure => rw [HK.out]; omega
                  case rel => exact ⟨k + 1, true, rfl, by go_num, rfl, by omega, Lib.hid HN.out, rfl⟩
                · have d2 : (c == 45) = false := beq_eq_false_iff_ne.2 c45
                  by_cases c46 : c = 46
                  · have d3 : (c == 46) = true := beq_iff_eq.2 c46
                    rw [show inHost c = true by unfold inHost; rw [hin, d2, d3]; rfl, Bool.true_and] at HN
                    clear hin c45 c46
                    have hkd := HKD.out
                    generalize kindOf c = kk at HI hkd
                    go_wp2_with fail
                    refine (HI.out _).mono ?_
                    rintro e w' ⟨rfl, rfl⟩
                    go_wp2_with fail
                    go_roundg (H.size - (k + 1))
                    case measure => rw [HK.out]; omega
                    case rel => exact ⟨k + 1, true, rfl, by go_num, rfl, by omega, Lib.hid HN.out, rfl⟩
                  · have d3 : (c == 46) = false := beq_eq_false_iff_ne.2 c46
                    rw [show inHost c = false by unfold inHost; rw [hin, d2, d3]; rfl, Bool.false_and] at HN
                    clear hin c45 c46
                    have hkd := HKD.out
                    generalize kindOf c = kk at HI hkd
                    go_wp2_with fail
                    refine (HI.out _).mono ?_
                    rintro e w' ⟨rfl, rfl⟩
                    go_wp2_with fail
                    go_roundg (H.size - (k + 1))
                    case measure => rw [HK.out]; omega
                    case rel => exact ⟨k + 1, false, rfl, by go_num, rfl, by omega, Lib.hid HN.out, rfl⟩
          ·
            have hE : g = F3 := by have h := HN.out; rw [bs_end H k (by omega), List.all_nil, Bool.and_true] at h; exact h
            have d0 : decide (k < H.size) = false := decide_eq_false hlt
            clear HN HK HBC hk hlt
            cases hok : nodeOk s with
            | true =>
              have hb : F2 = [] := by rw [HF2.out]; unfold nodeBad; rw [hok]; rfl
              obtain rfl : g = true := by rw [hE, HF3.out, hok]
              have HBB := Lib.hid hb
              clear hb hE hok HF3 HF2
              go_wp2_with fail
              go_ret3
              exact ⟨_, _, _, rfl, by rw [HBB.out]; rfl, HB5.out⟩
            | false =>
              have hb : F2 = [⟨nAtom, 0, 24⟩] := by rw [HF2.out]; unfold nodeBad; rw [hok]; rfl
              obtain rfl : g = false := by rw [hE, HF3.out, hok]
              have HBB := Lib.hid hb
              clear hb hE hok HF3 HF2
              go_wp2_with fail
              refine (atom_refused _ _ _).mono ?_
              rintro e w6 ⟨v6, rfl, hE6, hB6⟩
              have HE6 := Lib.hid hE6
              have HB6 := Lib.hid (trans_below HB5.out hB6)
              clear hE6 hB6
              go_wp2_with fail
              go_ret3
              exact ⟨_, _, _, rfl, by rw [HBB.out]; exact HE6.out, HB6.out⟩
end Go.Proofs.YtgapeacflkfmdaaGreatDoor
namespace Go.Proofs.YtgapeacflkfmdaaGreatDoor
open Go.RowKit Go.Proofs.YtgapeacflkfmdaaGreatDoorW.PrintWords

theorem tl_nil (s : ByteArray) : s.toList = [] ↔ s.size = 0 := by
  rw [Lib.toList_data, Lib.size_eq]
  exact List.length_eq_zero_iff.symm
set_option maxRecDepth 100000 in
set_option maxHeartbeats 2000000 in
theorem term_empty (t : Tm) (A4 A5 : Option Addr) (c4 c5 : Nat) (b1 b2 b3 : Bool) (w : World) :
    Calls Tryz.prog 134 #[tmV t (.slice A4 t.nums.length c4) (.slice A5 t.args.length c5), .bool b1, .bool b2, .bool b3] w fun e w' => e = .returned (.bool (emptyOk t b1 b2 b3)) ∧ Below w.heap.size w w' := by
  obtain ⟨kd, it, tx, cr, ns, us⟩ := t
  unfold tmV
  simp only
  go_enter Tryz.func134, Tryz.ntmps134
  go_wp2
  all_goals go_ret
  all_goals refine ⟨eb ?_, below_alloc (Below.refl _ _) _⟩
  all_goals simp only [emptyOk]
  all_goals simp_all [tl_nil]
  all_goals (rw [Bool.eq_iff_iff]; simp_all; done)

set_option maxRecDepth 100000 in
set_option maxHeartbeats 8000000 in
theorem term_form (t : Tm) (A4 A5 : Option Addr) (c4 c5 : Nat) (at_ : Int) (w : World) (hR : TmR w t A4 c4 A5 c5) (hm : t.tx.size ≤ 140737488351232) (hG : Glob w) :
    Calls Tryz.prog 80 #[tmV t (.slice A4 t.nums.length c4) (.slice A5 t.args.length c5), .int .i64 at_] w (ErrPost w (formBad t at_)) := by
  unfold tmV
  have HR := Lib.hid hR
  have HG := Lib.hid hG
  have HM := Lib.hid hm
  obtain ⟨F, hF⟩ : ∃ F, F = formBad t at_ := ⟨_, rfl⟩
  rw [← hF]
  have HF := Lib.hid hF
  obtain ⟨S, hS⟩ : ∃ S, S = shapeOk t := ⟨_, rfl⟩
  have HS := Lib.hid hS
  have hlen := hR.g5.2.1
  clear hR hG hm hF
  go_enter Tryz.func80, Tryz.ntmps80
  go_upto_block 0 with (fail)
  go_cut [5] from 7 (fun v5 w' => v5 = .bool S ∧ TmAt w' w.heap.size t (.slice A4 t.nums.length c4) (.slice A5 t.args.length c5) ∧ Below w.heap.size w w')
  case first =>
    unfold shapeOk at hS
    by_cases k1 : t.kd = 1
    · have d1 : (t.kd == 1) = true := beq_iff_eq.2 k1
      rw [if_pos k1] at hS
      have HQ := Lib.hid hS
      clear hS k1
      go_wp2_with fail
      refine (term_empty t A4 A5 c4 c5 false false false _).mono ?_
      rintro e w1 ⟨rfl, hB⟩
      have HT := Lib.hid ((TmAt.new w t (.slice A4 t.nums.length c4) (.slice A5 t.args.length c5)).below hB (by simp))
      have HB := Lib.hid (trans_below (below_alloc (Below.refl _ _) _) hB)
      clear hB
      go_wp2_with fail
      go_meet
      case rel => exact ⟨by rw [HQ.out], HT.out, HB.out⟩
    · have d1 : (t.kd == 1) = false := beq_eq_false_iff_ne.2 k1
      rw [if_neg k1] at hS
      clear k1
      by_cases k2 : t.kd = 2
      · have d2 : (t.kd == 2) = true := beq_iff_eq.2 k2
        rw [if_pos k2] at hS
        have HQ := Lib.hid hS
        clear hS k2
        go_wp2_with fail
        refine (term_empty t A4 A5 c4 c5 true false false _).mono ?_
        rintro e w1 ⟨rfl, hB⟩
        have HT := Lib.hid ((TmAt.new w t (.slice A4 t.nums.length c4) (.slice A5 t.args.length c5)).below hB (by simp))
        have HB := Lib.hid (trans_below (below_alloc (Below.refl _ _) _) hB)
        clear hB
        go_wp2_with fail
        go_meet
        case rel => exact ⟨by rw [HQ.out], HT.out, HB.out⟩
      · have d2 : (t.kd == 2) = false := beq_eq_false_iff_ne.2 k2
        rw [if_neg k2] at hS
        clear k2
        by_cases k3 : t.kd = 3
        · have d3 : (t.kd == 3) = true := beq_iff_eq.2 k3
          rw [if_pos k3] at hS
          have HQ := Lib.hid hS
          clear hS k3
          go_wp2_with fail
          refine (term_empty t A4 A5 c4 c5 true true false _).mono ?_
          rintro e w1 ⟨rfl, hB⟩
          have HT := Lib.hid ((TmAt.new w t (.slice A4 t.nums.length c4) (.slice A5 t.args.length c5)).below hB (by simp))
          have HB := Lib.hid (trans_below (below_alloc (Below.refl _ _) _) hB)
          clear hB
          generalize hE : emptyOk t true true false = E at HQ
          clear hE
          cases E with
          | false =>
            rw [Bool.false_and] at HQ
            go_wp2_with fail
            go_meet
            case rel => exact ⟨by rw [HQ.out], HT.out, HB.out⟩
          | true =>
            rw [Bool.true_and] at HQ
            have r4 := HT.out.c4
            by_cases hn : t.nums.length = 3
            · have dn : ((t.nums.length : Int) == 3) = true := beq_iff_eq.2 (by omega)
              rw [decide_eq_true hn] at HQ
              clear hn
              go_wp2_with fail
              go_meet
              case rel => exact ⟨by rw [HQ.out], HT.out, HB.out⟩
            · have dn : ((t.nums.length : Int) == 3) = false := beq_eq_false_iff_ne.2 (by omega)
              rw [decide_eq_false hn] at HQ
              clear hn
              go_wp2_with fail
              go_meet
              case rel => exact ⟨by rw [HQ.out], HT.out, HB.out⟩
        · have d3 : (t.kd == 3) = false := beq_eq_false_iff_ne.2 k3
          rw [if_neg k3] at hS
          clear k3
          by_cases k4 : t.kd = 4
          · have d4 : (t.kd == 4) = true := beq_iff_eq.2 k4
            rw [if_pos k4] at hS
            have HQ := Lib.hid hS
            clear hS k4
            go_wp2_with fail
            refine (term_empty t A4 A5 c4 c5 true true false _).mono ?_
            rintro e w1 ⟨rfl, hB⟩
            have HT := Lib.hid ((TmAt.new w t (.slice A4 t.nums.length c4) (.slice A5 t.args.length c5)).below hB (by simp))
            have HB := Lib.hid (trans_below (below_alloc (Below.refl _ _) _) hB)
            clear hB
            generalize hE : emptyOk t true true false = E at HQ
            clear hE
            cases E with
            | false =>
              rw [Bool.false_and] at HQ
              go_wp2_with fail
              go_meet
              case rel => exact ⟨by rw [HQ.out], HT.out, HB.out⟩
            | true =>
              rw [Bool.true_and] at HQ
              have r4 := HT.out.c4
              by_cases hn : t.nums.length = 2
              · have dn : ((t.nums.length : Int) == 2) = true := beq_iff_eq.2 (by omega)
                rw [decide_eq_true hn] at HQ
                clear hn
                go_wp2_with fail
                go_meet
                case rel => exact ⟨by rw [HQ.out], HT.out, HB.out⟩
              · have dn : ((t.nums.length : Int) == 2) = false := beq_eq_false_iff_ne.2 (by omega)
                rw [decide_eq_false hn] at HQ
                clear hn
                go_wp2_with fail
                go_meet
                case rel => exact ⟨by rw [HQ.out], HT.out, HB.out⟩
          · have d4 : (t.kd == 4) = false := beq_eq_false_iff_ne.2 k4
            rw [if_neg k4] at hS
            clear k4
            by_cases k5 : t.kd = 5
            · have d5 : (t.kd == 5) = true := beq_iff_eq.2 k5
              rw [if_pos k5] at hS
              have HQ := Lib.hid hS
              clear hS k5
              go_wp2_with fail
              refine (term_empty t A4 A5 c4 c5 false false true _).mono ?_
              rintro e w1 ⟨rfl, hB⟩
              have HT := Lib.hid ((TmAt.new w t (.slice A4 t.nums.length c4) (.slice A5 t.args.length c5)).below hB (by simp))
              have HB := Lib.hid (trans_below (below_alloc (Below.refl _ _) _) hB)
              clear hB
              go_wp2_with fail
              go_meet
              case rel => exact ⟨by rw [HQ.out], HT.out, HB.out⟩
            · have d5 : (t.kd == 5) = false := beq_eq_false_iff_ne.2 k5
              rw [if_neg k5] at hS
              clear k5
              by_cases k6 : t.kd = 6
              · have d6 : (t.kd == 6) = true := beq_iff_eq.2 k6
                rw [if_pos k6] at hS
                have HQ := Lib.hid hS
                clear hS k6
                go_wp2_with fail
                refine (term_empty t A4 A5 c4 c5 false false false _).mono ?_
                rintro e w1 ⟨rfl, hB⟩
                have HT := Lib.hid ((TmAt.new w t (.slice A4 t.nums.length c4) (.slice A5 t.args.length c5)).below hB (by simp))
                have HB := Lib.hid (trans_below (below_alloc (Below.refl _ _) _) hB)
                clear hB
                go_wp2_with fail
                go_meet
                case rel => exact ⟨by rw [HQ.out], HT.out, HB.out⟩
              · have d6 : (t.kd == 6) = false := beq_eq_false_iff_ne.2 k6
                rw [if_neg k6] at hS
                clear k6
                by_cases k7 : t.kd = 7
                · have d7 : (t.kd == 7) = true := beq_iff_eq.2 k7
                  rw [if_pos k7] at hS
                  have HQ := Lib.hid hS
                  clear hS k7
                  go_wp2_with fail
                  refine (term_empty t A4 A5 c4 c5 false false true _).mono ?_
                  rintro e w1 ⟨rfl, hB⟩
                  have HT := Lib.hid ((TmAt.new w t (.slice A4 t.nums.length c4) (.slice A5 t.args.length c5)).below hB (by simp))
                  have HB := Lib.hid (trans_below (below_alloc (Below.refl _ _) _) hB)
                  clear hB
                  generalize hE : emptyOk t false false true = E at HQ
                  clear hE
                  cases E with
                  | false =>
                    rw [Bool.false_and, Bool.false_and] at HQ
                    go_wp2_with fail
                    go_meet
                    case rel => exact ⟨by rw [HQ.out], HT.out, HB.out⟩
                  | true =>
                    rw [Bool.true_and] at HQ
                    have r5 := HT.out.c5
                    by_cases hn : (t.args.length : Int) ≥ 2
                    · have dn : decide ((t.args.length : Int) ≥ 2) = true := decide_eq_true hn
                      rw [decide_eq_true (show 2 ≤ t.args.length by omega), Bool.true_and] at HQ
                      obtain ⟨ad, A4', c4', A5', c5', rfl, a0, _⟩ := atTm (HR.out.below HB.out).g5 ((t.args.length : Int) - 1) (by omega) (by omega)
                      have ek : ((t.args.length : Int) - 1).toNat = t.args.length - 1 := by omega
                      have hlk : (rdTm t.args ((t.args.length : Int) - 1)).kd = lastKd t := rfl
                      rw [hlk] at a0
                      simp only [ek] at a0
                      have y0 : (0 : Int) ≤ (t.args.length : Int) - 1 := by omega
                      have y1 : (t.args.length : Int) - 1 < (t.args.length : Int) := by omega
                      generalize lastKd t = K at a0 HQ
                      clear ek hlk
                      by_cases h7 : K = 7
                      · have d8 : (K != 7) = false := by simp [h7]
                        rw [decide_eq_false (by simp [h7])] at HQ
                        clear h7
                        go_wp2_with fail
                        go_meet
                        case rel => exact ⟨by rw [HQ.out], HT.out, HB.out⟩
                      · have d8 : (K != 7) = true := by simp [h7]
                        rw [decide_eq_true h7] at HQ
                        clear h7
                        go_wp2_with fail
                        go_meet
                        case rel => exact ⟨by rw [HQ.out], HT.out, HB.out⟩
                    · have dn : decide ((t.args.length : Int) ≥ 2) = false := decide_eq_false hn
                      rw [decide_eq_false (show ¬ 2 ≤ t.args.length by omega), Bool.false_and] at HQ
                      go_wp2_with fail
                      go_meet
                      case rel => exact ⟨by rw [HQ.out], HT.out, HB.out⟩
                · have d7 : (t.kd == 7) = false := beq_eq_false_iff_ne.2 k7
                  rw [if_neg k7] at hS
                  have HQ := Lib.hid hS
                  clear hS k7
                  have HT := Lib.hid (TmAt.new w t (.slice A4 t.nums.length c4) (.slice A5 t.args.length c5))
                  have HB := Lib.hid (below_alloc (Below.refl w.heap.size w) (.cells #[.int .i64 t.kd, .int .i64 t.it, .string t.tx, .int .u32 t.cr, .slice A4 t.nums.length c4, .slice A5 t.args.length c5] 27))
                  go_wp2_with fail
                  go_meet
                  case rel => exact ⟨by rw [HQ.out], HT.out, HB.out⟩
  case rest =>
    obtain ⟨rfl, hT, hB⟩ := hcut
    have HT := Lib.hid hT
    have HB := Lib.hid hB
    have hf := HF.out
    unfold formBad at hf
    rw [← hS] at hf
    clear hT hB hS HF HS hlen
    cases S with
    | false =>
      rw [if_pos rfl] at hf
      have HQ := Lib.hid hf
      clear hf
      go_wp2_with fail
      refine (term_fault _ _ _ _ [] rfl).mono ?_
      rintro e w2 ⟨ve, rfl, hE, hB2⟩
      have HE2 := Lib.hid hE
      have HB2 := Lib.hid (trans_below HB.out hB2)
      clear hE hB2
      go_wp2_with fail
      go_ret
      exact ⟨_, rfl, by rw [HQ.out]; exact HE2.out, HB2.out⟩
    | true =>
      rw [if_neg (by simp)] at hf
      have r0 := HT.out.c0
      have r1 := HT.out.c1
      have r2 := HT.out.c2
      go_upto_block 1 with (fail)
      go_cut [6] from 7 (fun v6 w' => ∃ l2, ErrIs w' l2 v6 ∧ F = overTm at_ l2 ∧ Below w.heap.size w w')
      case first =>
        by_cases k1 : t.kd = 1
        · have d1 : (t.kd == 1) = true := beq_iff_eq.2 k1
          rw [if_pos k1] at hf
          clear k1
          by_cases hlo : t.it < -576460752303423488
          · have e1 : decide (t.it < -576460752303423488) = true := decide_eq_true hlo
            rw [if_pos (.inl hlo)] at hf
            have HQ := Lib.hid hf
            clear hf
            go_wp2_with fail
            refine (term_fault _ _ _ _ [] rfl).mono ?_
            rintro e w2 ⟨ve, rfl, hE, hB2⟩
            have HE2 := Lib.hid hE
            have HB2 := Lib.hid (trans_below HB.out hB2)
            clear hE hB2
            go_wp2_with fail
            go_ret
            exact ⟨_, rfl, by rw [HQ.out]; exact HE2.out, HB2.out⟩
          · have e1 : decide (t.it < -576460752303423488) = false := decide_eq_false hlo
            by_cases hhi : t.it > 576460752303423487
            · have e2 : decide (t.it > 576460752303423487) = true := decide_eq_true hhi
              rw [if_pos (.inr hhi)] at hf
              have HQ := Lib.hid hf
              clear hf
              go_wp2_with fail
              refine (term_fault _ _ _ _ [] rfl).mono ?_
              rintro e w2 ⟨ve, rfl, hE, hB2⟩
              have HE2 := Lib.hid hE
              have HB2 := Lib.hid (trans_below HB.out hB2)
              clear hE hB2
              go_wp2_with fail
              go_ret
              exact ⟨_, rfl, by rw [HQ.out]; exact HE2.out, HB2.out⟩
            · have e2 : decide (t.it > 576460752303423487) = false := decide_eq_false hhi
              rw [if_neg (by omega)] at hf
              have HQ := Lib.hid hf
              clear hf
              go_wp2_with fail
              go_meet
              case rel => exact ⟨[], rfl, HQ.out, HB.out⟩
        · have d1 : (t.kd == 1) = false := beq_eq_false_iff_ne.2 k1
          rw [if_neg k1] at hf
          clear k1
          by_cases k2 : t.kd = 2
          · have d2 : (t.kd == 2) = true := beq_iff_eq.2 k2
            rw [if_pos k2] at hf
            have HQ := Lib.hid hf
            clear hf k2
            go_wp2_with fail
            refine (atom_Quote t.tx HM.out _ (HG.out.below HB.out)).mono ?_
            rintro e w2 ⟨ve, rfl, hE, hB2⟩
            have HE2 := Lib.hid hE
            have HB2 := Lib.hid (trans_below HB.out hB2)
            clear hE hB2
            go_wp2_with fail
            go_meet
            case rel => exact ⟨_, HE2.out, HQ.out, HB2.out⟩
          · have d2 : (t.kd == 2) = false := beq_eq_false_iff_ne.2 k2
            rw [if_neg k2] at hf
            clear k2
            by_cases k3 : t.kd = 3
            · have d3 : (t.kd == 3) = true := beq_iff_eq.2 k3
              rw [if_pos (.inl k3)] at hf
              have HQ := Lib.hid hf
              clear hf k3
              go_wp2_with fail
              refine (atom_Node t.tx HM.out _).mono ?_
              rintro e w2 ⟨q1, q2, ve, rfl, hE, hB2⟩
              have HE2 := Lib.hid hE
              have HB2 := Lib.hid (trans_below HB.out hB2)
              clear hE hB2
              go_wp2_with fail
              go_meet
              case rel => exact ⟨_, HE2.out, HQ.out, HB2.out⟩
            · have d3 : (t.kd == 3) = false := beq_eq_false_iff_ne.2 k3
              by_cases k4 : t.kd = 4
              · have d4 : (t.kd == 4) = true := beq_iff_eq.2 k4
                rw [if_pos (.inr k4)] at hf
                have HQ := Lib.hid hf
                clear hf k3 k4
                go_wp2_with fail
                refine (atom_Node t.tx HM.out _).mono ?_
                rintro e w2 ⟨q1, q2, ve, rfl, hE, hB2⟩
                have HE2 := Lib.hid hE
                have HB2 := Lib.hid (trans_below HB.out hB2)
                clear hE hB2
                go_wp2_with fail
                go_meet
                case rel => exact ⟨_, HE2.out, HQ.out, HB2.out⟩
              · have d4 : (t.kd == 4) = false := beq_eq_false_iff_ne.2 k4
                rw [if_neg (by omega)] at hf
                have HQ := Lib.hid hf
                clear hf k3 k4
                go_wp2_with fail
                go_meet
                case rel => exact ⟨[], rfl, HQ.out, HB.out⟩
      case rest =>
        clear hf r0 r1 r2 HT HB
        obtain ⟨l2, hE, hQ, hB⟩ := hcut
        have HE := Lib.hid hE
        have HQ := Lib.hid hQ
        have HB := Lib.hid hB
        cases l2 with
        | nil =>
          obtain rfl : u6 = .nilIface := hE
          clear hQ hB
          go_wp2_with fail
          go_ret
          exact ⟨_, rfl, by rw [HQ.out]; rfl, HB.out⟩
        | cons x r =>
          obtain ⟨eb, u, rfl, _⟩ := hE
          clear hQ hB
          go_wp2_with fail
          refine (term_code (x :: r) _ _ HE.out (HG.out.below HB.out)).mono ?_
          rintro e w2 ⟨rfl, hB2⟩
          have HB2 := Lib.hid (trans_below HB.out hB2)
          have HE2 := Lib.hid (HE.out.below hB2)
          clear hB2
          go_wp2_with fail
          refine (term_fault _ _ _ _ (x :: r) HE2.out).mono ?_
          rintro e w3 ⟨ve, rfl, hE, hB3⟩
          have HE3 := Lib.hid hE
          have HB3 := Lib.hid (trans_below HB2.out hB3)
          clear hE hB3
          go_wp2_with fail
          go_ret
          exact ⟨_, rfl, by rw [HQ.out]; exact HE3.out, HB3.out⟩
end Go.Proofs.YtgapeacflkfmdaaGreatDoor
namespace Go.Proofs.YtgapeacflkfmdaaGreatDoor
open Go.RowKit Go.Proofs.YtgapeacflkfmdaaGreatDoorW.PrintWords

mutual
/-- The texts within a term are of a size that a machine can hold. -/
def smT : Tm → Bool
  | ⟨_, _, tx, _, _, us⟩ => decide (tx.size ≤ 140737488351232) && smL us
def smL : List Tm → Bool
  | [] => true
  | a :: us => smT a && smL us
end
theorem smT_eq (t : Tm) : smT t = (decide (t.tx.size ≤ 140737488351232) && smL t.args) := by
  cases t
  rw [smT]
theorem sm_tx {t : Tm} (h : smT t = true) : t.tx.size ≤ 140737488351232 := by
  rw [smT_eq, Bool.and_eq_true, decide_eq_true_eq] at h
  exact h.1
theorem sm_args {t : Tm} (h : smT t = true) : smL t.args = true := by
  rw [smT_eq, Bool.and_eq_true] at h
  exact h.2
theorem smL_mem : ∀ {l : List Tm} {a : Tm}, smL l = true → a ∈ l → smT a = true
  | b :: l, a, h, hm => by
    rw [smL, Bool.and_eq_true] at h
    rcases List.mem_cons.1 hm with rfl | hm
    · exact h.1
    · exact smL_mem h.2 hm
theorem rdTm_mem {l : List Tm} {k : Nat} (h : k < l.length) : rdTm l (k : Int) = l[k] ∧ rdTm l (k : Int) ∈ l := by
  have e : rdTm l (k : Int) = l[k] := by
    unfold rdTm
    rw [Int.toNat_natCast, List.getD_eq_getElem?_getD, List.getElem?_eq_getElem h]
    rfl
  exact ⟨e, by rw [e]; exact List.getElem_mem _⟩
theorem meas_range (t : Tm) : ∀ d n m, 0 ≤ n → n ≤ 4096 → 0 ≤ m → m ≤ 256 → 0 ≤ d → (measT t d n m).1 = [] → 0 ≤ (measT t d n m).2.1 ∧ (measT t d n m).2.1 ≤ 4096 ∧ 0 ≤ (measT t d n m).2.2 ∧ (measT t d n m).2.2 ≤ 256 := by
  induction t using Tm.ind with
  | h t ih =>
    intro d n m hn0 hn1 hm0 hm1 hd h
    rw [measT_eq] at h ⊢
    by_cases h1 : n = 4096
    · rw [if_pos h1] at h
      cases h
    rw [if_neg h1] at h ⊢
    by_cases h2 : 256 < d
    · rw [if_pos h2] at h
      cases h
    rw [if_neg h2] at h ⊢
    cases hf : formBad t n with
    | cons x r => rw [hf] at h; cases h
    | nil =>
      rw [hf] at h
      simp only at h ⊢
      have hl : ∀ (l : List Tm), (∀ a ∈ l, a ∈ t.args) → ∀ n m, 0 ≤ n → n ≤ 4096 → 0 ≤ m → m ≤ 256 → (measL l (d + 1) n m).1 = [] → 0 ≤ (measL l (d + 1) n m).2.1 ∧ (measL l (d + 1) n m).2.1 ≤ 4096 ∧ 0 ≤ (measL l (d + 1) n m).2.2 ∧ (measL l (d + 1) n m).2.2 ≤ 256 := by
        intro l
        induction l with
        | nil => intro _ n m a1 a2 a3 a4 _; rw [measL]; exact ⟨a1, a2, a3, a4⟩
        | cons a l ihl =>
          intro hs n m a1 a2 a3 a4 h
          rw [measL] at h ⊢
          match he : measT a (d + 1) n m with
          | ([], n', m') =>
            rw [he] at h
            simp only at h ⊢
            have hb := ih a (hs a (by simp)) (d + 1) n m a1 a2 a3 a4 (by omega) (by rw [he])
            rw [he] at hb
            exact ihl (fun x hx => hs x (by simp [hx])) n' m' hb.1 hb.2.1 hb.2.2.1 hb.2.2.2 h
          | (x :: r, n', m') => rw [he] at h; cases h
      exact hl t.args (fun _ h => h) _ _ (by omega) (by omega) (by omega) (by omega) h

/-- The walker: how many parts, how deep. -/
structure WkAt (W : World) (b : Nat) (n m : Int) : Prop where
  c0 : W.cell? ⟨b, 0, none⟩ = some (.int .i64 n)
  c1 : W.cell? ⟨b, 1, none⟩ = some (.int .i64 m)
  f0 : W.frozen? ⟨b, 0, none⟩ = false
  f1 : W.frozen? ⟨b, 1, none⟩ = false
theorem WkAt.lt {W : World} {b : Nat} {n m : Int} (h : WkAt W b n m) : b < W.heap.size := World.block_lt_of_cell? W _ h.c0
theorem WkAt.below {W W' : World} {b k : Nat} {n m : Int} (h : WkAt W b n m) (hb : Below k W W') (hk : b < k) : WkAt W' b n m :=
  ⟨(hb.cell hk).trans h.c0, (hb.cell hk).trans h.c1, (hb.frozen hk).trans h.f0, (hb.frozen hk).trans h.f1⟩
theorem WkAt.put {W : World} {b : Nat} {n m : Int} (h : WkAt W b n m) (n' m' : Int) : WkAt ((W.setCell ⟨b, 0, none⟩ (.int .i64 n')).setCell ⟨b, 1, none⟩ (.int .i64 m')) b n' m' := by
  obtain ⟨c0, c1, f0, f1⟩ := h
  constructor <;> simp [World.cell?_setCell_other, World.cell?_setCell_same, World.frozen?_setCell, *]
/-- What a part's walk leaves. -/
def WalkPost (w : World) (b : Nat) (r : Meas) (e : Ending) (w' : World) : Prop := ∃ v, e = .returned v ∧ ErrIs w' r.1 v ∧ Below b w w' ∧ (r.1 = [] → WkAt w' b r.2.1 r.2.2)

set_option maxRecDepth 100000 in
set_option maxHeartbeats 8000000 in
theorem term_walk (w0 : World) (hG0 : Glob w0) (b : Nat) (hb0 : w0.heap.size ≤ b) (t : Tm) : ∀ (A4 A5 : Option Addr) (c4 c5 : Nat) (d n m : Int) (w : World), TmR w0 t A4 c4 A5 c5 → Below w0.heap.size w0 w → WkAt w b n m → smT t = true →
    0 ≤ n → n ≤ 4096 → 0 ≤ m → m ≤ 256 → 1 ≤ d → d ≤ 257 →
    Calls Tryz.prog 40 #[.pointer (some ⟨b, 0, none⟩), tmV t (.slice A4 t.nums.length c4) (.slice A5 t.args.length c5), .int .i64 d] w (WalkPost w b (measT t d n m)) := by
  induction t using Tm.ind with
  | h t ih =>
    intro A4 A5 c4 c5 d n m w hR hB hW hsm hn0 hn1 hm0 hm1 hd0 hd1
    have HIH := Lib.hid ih
    have HR := Lib.hid hR
    have HB := Lib.hid hB
    have HW := Lib.hid hW
    have HG0 := Lib.hid hG0
    have HSM := Lib.hid hsm
    have hr := measT_eq t d n m
    generalize measT t d n m = R at hr ⊢
    have hW1 : WkAt (w.alloc (.cells #[.int .i64 t.kd, .int .i64 t.it, .string t.tx, .int .u32 t.cr, .slice A4 t.nums.length c4, .slice A5 t.args.length c5] 27)) b n m := hW.below (below_alloc (Below.refl _ _) _) hW.lt
    have HT1 := Lib.hid (TmAt.new w t (.slice A4 t.nums.length c4) (.slice A5 t.args.length c5))
    have hbw : b ≤ w.heap.size := Nat.le_of_lt hW.lt
    have HB1 := Lib.hid (below_alloc (Below.refl w.heap.size w) (.cells #[.int .i64 t.kd, .int .i64 t.it, .string t.tx, .int .u32 t.cr, .slice A4 t.nums.length c4, .slice A5 t.args.length c5] 27))
    have hlt1 : b < w.heap.size := hW.lt
    clear ih hR hB hW hG0 hsm
    unfold tmV
    go_enter Tryz.func40, Tryz.ntmps40
    go_upto_region 1 with (fail)
    obtain ⟨w1, hw1⟩ : ∃ W, W = w.alloc (.cells #[.int .i64 t.kd, .int .i64 t.it, .string t.tx, .int .u32 t.cr, .slice A4 t.nums.length c4, .slice A5 t.args.length c5] 27) := ⟨_, rfl⟩
    rw [← hw1] at hW1 HT1 HB1
    rw [← hw1]
    clear hw1
    have hlt2 : w.heap.size < w1.heap.size := HT1.out.lt
    have HBA : Hid (Below b w w1) := Lib.hid (HB1.out.mono hbw)
    have r0 := hW1.c0
    have r1 := hW1.c1
    have g0 := hW1.f0
    have g1 := hW1.f1
    have HW1 := Lib.hid hW1
    clear hW1
    by_cases h1 : n = 4096
    · have d1 : (n == 4096) = true := beq_iff_eq.2 h1
      rw [if_pos h1] at hr
      have HQ := Lib.hid hr
      clear hr h1
      go_wp2_with fail
      refine (term_fault _ _ _ _ [] rfl).mono ?_
      rintro e w2 ⟨ve, rfl, hE, hB2⟩
      have HE2 := Lib.hid hE
      have HB2 : Hid (Below b w w2) := Lib.hid (HBA.out.trans (hB2.mono (by omega)))
      clear hE hB2
      go_wp2_with fail
      go_ret
      exact ⟨_, rfl, by rw [HQ.out]; exact HE2.out, HB2.out, fun h => by rw [HQ.out] at h; cases h⟩
    · have d1 : (n == 4096) = false := beq_eq_false_iff_ne.2 h1
      rw [if_neg h1] at hr
      by_cases h2 : 256 < d
      · have d2 : decide (d > 256) = true := decide_eq_true h2
        rw [if_pos h2] at hr
        have HQ := Lib.hid hr
        clear hr h1
        go_wp2_with fail
        refine (term_fault _ _ _ _ [] rfl).mono ?_
        rintro e w2 ⟨ve, rfl, hE, hB2⟩
        have HE2 := Lib.hid hE
        have HB2 : Hid (Below b w w2) := Lib.hid (HBA.out.trans (hB2.mono (by omega)))
        clear hE hB2
        go_wp2_with fail
        go_ret
        exact ⟨_, rfl, by rw [HQ.out]; exact HE2.out, HB2.out, fun h => by rw [HQ.out] at h; cases h⟩
      · have d2 : decide (d > 256) = false := decide_eq_false h2
        rw [if_neg h2] at hr
        have t0 := HT1.out.c0
        have t1 := HT1.out.c1
        have t2 := HT1.out.c2
        have t3 := HT1.out.c3
        have t4 := HT1.out.c4
        have t5 := HT1.out.c5
        have HBW : Hid (Below w0.heap.size w0 w1) := Lib.hid (trans_below HB.out HB1.out)
        have HR0 := Lib.hid hr
        clear hr
        go_wp2_with fail
        refine (term_form t A4 A5 c4 c5 n w1 (HR.out.below HBW.out) (sm_tx HSM.out) (HG0.out.below HBW.out)).mono ?_
        rintro e w2 ⟨ve, rfl, hE, hB2⟩
        clear t0 t1 t2 t3 t4 t5
        have hr := HR0.out
        clear HR0
        cases hf : formBad t n with
        | cons x r =>
          rw [hf] at hr hE
          have HQ := Lib.hid hr
          have HE := Lib.hid hE
          obtain ⟨eb, u, rfl, _⟩ := hE
          have HB2 : Hid (Below b w w2) := Lib.hid (HBA.out.trans (hB2.mono (by omega)))
          clear hr hf hB2
          go_wp2_with fail
          go_ret
          exact ⟨_, rfl, by rw [HQ.out]; exact HE.out, HB2.out, fun h => by rw [HQ.out] at h; cases h⟩
        | nil =>
          rw [hf] at hr hE
          obtain rfl : ve = .nilIface := hE
          simp only at hr
          have HB2 := Lib.hid hB2
          have HW2 := Lib.hid (HW1.out.below HB2.out (by omega))
          have HT2 := Lib.hid (HT1.out.below HB2.out hlt2)
          have HBB : Hid (Below b w w2) := Lib.hid (HBA.out.trans (HB2.out.mono (by omega)))
          have hsz2 : w1.heap.size ≤ w2.heap.size := HB2.out.size
          have r0 := HW2.out.c0
          have r1 := HW2.out.c1
          have g0 := HW2.out.f0
          have g1 := HW2.out.f1
          have t5 := HT2.out.c5
          have HQ := Lib.hid hr
          clear hr hf hB2
          go_wp2_with fail
          have hW3 : WkAt ((w2.setCell ⟨b, 0, none⟩ (.int .i64 (n + 1))).setCell ⟨b, 1, none⟩ (.int .i64 (max m d))) b (n + 1) (max m d) := HW2.out.put _ _
          have HB3 : Hid (Below b w ((w2.setCell ⟨b, 0, none⟩ (.int .i64 (n + 1))).setCell ⟨b, 1, none⟩ (.int .i64 (max m d)))) := Lib.hid ((HBB.out.setCell (Nat.le_refl _) _).setCell (Nat.le_refl _) _)
          have hsz3 : ((w2.setCell ⟨b, 0, none⟩ (.int .i64 (n + 1))).setCell ⟨b, 1, none⟩ (.int .i64 (max m d))).heap.size = w2.heap.size := by simp
          obtain ⟨w3, hw3⟩ : ∃ W, W = (w2.setCell ⟨b, 0, none⟩ (.int .i64 (n + 1))).setCell ⟨b, 1, none⟩ (.int .i64 (max m d)) := ⟨_, rfl⟩
          rw [← hw3] at hW3 HB3 hsz3
          rw [← hw3]
          clear hw3
          have HW3 := Lib.hid hW3
          have hk0 := HR.out.g5.2.1
          clear hW3 r0 r1 g0 g1 t5
          have HS : Hid (measL (t.args.drop 0) (d + 1) (n + 1) (max m d) = R) := Lib.hid HQ.out.symm
          have hb1 : 0 ≤ max m d ∧ max m d ≤ 256 := by omega
          clear HQ
          go_loopg [51] t.args.length (fun gk vi wl => ∃ (k : Nat) (n' m' : Int), vi = .int .i64 (k : Int) ∧ gk = t.args.length - k ∧ k ≤ t.args.length ∧ 0 ≤ n' ∧ n' ≤ 4096 ∧ 0 ≤ m' ∧ m' ≤ 256 ∧ Hid (measL (t.args.drop k) (d + 1) n' m' = R) ∧ Hid (WkAt wl b n' m') ∧ Hid (Below b w wl) ∧ b < wl.heap.size)
          case atStart => exact ⟨0, _, _, rfl, rfl, Nat.zero_le _, by omega, by omega, hb1.1, hb1.2, HS, HW3, HB3, by omega⟩
          case round =>
            clear HS HW3 HB3 hb1 HW2 HT2 HBB
            obtain ⟨k, n', m', rfl, hgk, hk, a0, a1, a2, a3, HS, HWl, HBl, hbl⟩ := hrel
            have HK := Lib.hid hgk
            clear hgk
            by_cases hlt : k < t.args.length
            · have HBWl : Hid (Below w0.heap.size w0 wr) := Lib.hid (HB.out.trans (HBl.out.mono hb0))
              obtain ⟨ad, A4', c4', A5', c5', hA, q0, q1, q2, q3, q4, q5, hTR⟩ := atTm HR.out.g5 (k : Int) (by omega) (by omega)
              subst hA
              simp only [Int.toNat_natCast] at q0 q1 q2 q3 q4 q5
              replace q0 := (HBWl.out.cell (World.block_lt_of_cell? w0 _ q0)).trans q0
              replace q1 := (HBWl.out.cell (World.block_lt_of_cell? w0 _ q1)).trans q1
              replace q2 := (HBWl.out.cell (World.block_lt_of_cell? w0 _ q2)).trans q2
              replace q3 := (HBWl.out.cell (World.block_lt_of_cell? w0 _ q3)).trans q3
              replace q4 := (HBWl.out.cell (World.block_lt_of_cell? w0 _ q4)).trans q4
              replace q5 := (HBWl.out.cell (World.block_lt_of_cell? w0 _ q5)).trans q5
              obtain ⟨hge, hmem⟩ := rdTm_mem hlt
              have hs := HS.out
              rw [List.drop_eq_getElem_cons hlt, measL, ← hge] at hs
              generalize rdTm t.args (k : Int) = a at q0 q1 q2 q3 q4 q5 hTR hs hmem
              have HTR := Lib.hid hTR
              have HSS := Lib.hid hs
              have HMEM := Lib.hid hmem
              have y0 : (0 : Int) ≤ (k : Int) := by omega
              have y1 : (k : Int) < (t.args.length : Int) := by omega
              clear hTR hs hmem hge HS
              go_wp2_with fail
              have hB4 := below_alloc (Below.refl wr.heap.size wr) (.cells #[.int .i64 a.kd, .int .i64 a.it, .string a.tx, .int .u32 a.cr, .slice A4' a.nums.length c4', .slice A5' a.args.length c5'] 27)
              refine (HIH.out a HMEM.out A4' A5' c4' c5' (d + 1) n' m' _ HTR.out (HBWl.out.trans (hB4.mono HBWl.out.size)) (HWl.out.below hB4 hbl) (smL_mem (sm_args HSM.out) HMEM.out) a0 a1 a2 a3 (by omega) (by omega)).mono ?_
              rintro e w5 ⟨ve, rfl, hE, hB5, hW5⟩
              have HB5 : Hid (Below b w w5) := Lib.hid ((HBl.out.trans (hB4.mono (by omega))).trans hB5)
              have hs := HSS.out
              clear hB4 hB5 q0 q1 q2 q3 q4 q5
              have hrg := meas_range a (d + 1) n' m' a0 a1 a2 a3 (by omega)
              generalize measT a (d + 1) n' m' = ra at hE hW5 hs hrg
              obtain ⟨la, na, ma⟩ := ra
              cases la with
              | cons x r =>
                have HQ := Lib.hid hs.symm
                have HE := Lib.hid hE
                obtain ⟨eb, u, rfl, _⟩ := hE
                clear hs hW5 hrg
                go_wp2_with fail
                go_ret
                exact ⟨_, rfl, by rw [HQ.out]; exact HE.out, HB5.out, fun h => by rw [HQ.out] at h; cases h⟩
              | nil =>
                obtain rfl : ve = .nilIface := hE
                have HW5 := Lib.hid (hW5 rfl)
                have hg9 := hrg rfl
                clear hrg
                have HSN : Hid (measL (t.args.drop (k + 1)) (d + 1) na ma = R) := Lib.hid hs
                simp only at hg9
                have hl5 := HW5.out.lt
                clear hs hW5
                go_wp2_with fail
                go_roundg (t.args.length - (k + 1))
                case measure => rw [HK.out]; omega
                case rel => exact ⟨k + 1, na, ma, by go_num, rfl, by omega, hg9.1, hg9.2.1, hg9.2.2.1, hg9.2.2.2, HSN, HW5, HB5, hl5⟩
            · have hs := HS.out
              rw [List.drop_eq_nil_of_le (by omega), measL] at hs
              have HQ := Lib.hid hs.symm
              have d0 : decide (k < t.args.length) = false := decide_eq_false hlt
              clear hs HS
              go_wp2_with fail
              go_ret
              exact ⟨_, rfl, by rw [HQ.out]; rfl, HBl.out, fun _ => by rw [HQ.out]; exact HWl.out⟩

/-! ### Measure, Check -/
theorem WkAt.new (w : World) : WkAt (w.alloc (.cells #[.int .i64 0, .int .i64 0] 74)) w.heap.size 0 0 := by
  constructor <;> simp
def MeasPost (w : World) (r : Meas) (e : Ending) (w' : World) : Prop := ∃ v, e = .returned (.tuple #[.int .i64 (if r.1 = [] then r.2.1 else 0), .int .i64 (if r.1 = [] then r.2.2 else 0), v]) ∧ ErrIs w' r.1 v ∧ Below w.heap.size w w'
set_option maxRecDepth 100000 in
set_option maxHeartbeats 2000000 in
theorem term_Measure (t : Tm) (A4 A5 : Option Addr) (c4 c5 : Nat) (w : World) (hR : TmR w t A4 c4 A5 c5) (hsm : smT t = true) (hG : Glob w) :
    Calls Tryz.prog 15 #[tmV t (.slice A4 t.nums.length c4) (.slice A5 t.args.length c5)] w (MeasPost w (measure t)) := by
  have HT1 := Lib.hid (TmAt.new w t (.slice A4 t.nums.length c4) (.slice A5 t.args.length c5))
  have hB1 := below_alloc (Below.refl w.heap.size w) (.cells #[.int .i64 t.kd, .int .i64 t.it, .string t.tx, .int .u32 t.cr, .slice A4 t.nums.length c4, .slice A5 t.args.length c5] 27)
  obtain ⟨R, hr⟩ : ∃ R, R = measure t := ⟨_, rfl⟩
  rw [← hr]
  have HQ := Lib.hid hr
  clear hr
  unfold tmV
  go_enter Tryz.func15, Tryz.ntmps15
  go_upto_region 1 with (fail)
  obtain ⟨w1, hw1⟩ : ∃ W, W = w.alloc (.cells #[.int .i64 t.kd, .int .i64 t.it, .string t.tx, .int .u32 t.cr, .slice A4 t.nums.length c4, .slice A5 t.args.length c5] 27) := ⟨_, rfl⟩
  rw [← hw1] at HT1 hB1
  rw [← hw1]
  clear hw1
  have hB2 := below_alloc (Below.refl w1.heap.size w1) (.cells #[.int .i64 0, .int .i64 0] 74)
  have hW2 := WkAt.new w1
  have hT2 := HT1.out.below hB2 HT1.out.lt
  have hsz2 : w.heap.size < w1.heap.size := HT1.out.lt
  go_upto_region 2 with (fail)
  obtain ⟨w2, hw2⟩ : ∃ W, W = w1.alloc (.cells #[.int .i64 0, .int .i64 0] 74) := ⟨_, rfl⟩
  rw [← hw2] at hB2 hW2 hT2
  rw [← hw2]
  clear hw2
  have HB2 : Hid (Below w.heap.size w w2) := Lib.hid (trans_below hB1 hB2)
  have HW := Lib.hid (term_walk w hG w1.heap.size (Nat.le_of_lt hsz2) t A4 A5 c4 c5 1 0 0 w2 hR HB2.out hW2 hsm (by decide) (by decide) (by decide) (by decide) (by decide) (by decide))
  have t0 := hT2.c0
  have t1 := hT2.c1
  have t2 := hT2.c2
  have t3 := hT2.c3
  have t4 := hT2.c4
  have t5 := hT2.c5
  have hBA : Below w.heap.size w w1 := hB1
  have HBA := Lib.hid hBA
  clear hR hsm hG HT1 hB1 hB2 hW2 hT2 hBA
  go_wp2_with fail
  refine HW.out.mono ?_
  rintro e w3 ⟨ve, rfl, hE, hB3, hW3⟩
  have HB3 : Hid (Below w.heap.size w w3) := Lib.hid (HB2.out.trans (hB3.mono (by omega)))
  rw [show measT t 1 0 0 = R from HQ.out.symm] at hE hW3
  clear HQ hB3 t0 t1 t2 t3 t4 t5 HW
  obtain ⟨l, n, m⟩ := R
  cases l with
  | cons x r =>
    have HE := Lib.hid hE
    obtain ⟨eb, u, rfl, _⟩ := hE
    clear hW3
    go_wp2_with fail
    go_ret3
    exact ⟨_, rfl, HE.out, HB3.out⟩
  | nil =>
    obtain rfl : ve = .nilIface := hE
    have r0 := (hW3 rfl).c0
    have r1 := (hW3 rfl).c1
    simp only at r0 r1
    clear hW3
    go_wp2_with fail
    go_quiet (fail)
    go_wp2_with fail
    go_ret3
    exact ⟨_, rfl, rfl, trans_below HB3.out (by repeat (first | exact Below.refl _ _ | apply pw_below_drewN))⟩
set_option maxRecDepth 100000 in
theorem term_Check (t : Tm) (A4 A5 : Option Addr) (c4 c5 : Nat) (w : World) (hR : TmR w t A4 c4 A5 c5) (hsm : smT t = true) (hG : Glob w) :
    Calls Tryz.prog 18 #[tmV t (.slice A4 t.nums.length c4) (.slice A5 t.args.length c5)] w (ErrPost w (chk t)) := by
  have HT1 := TmAt.new w t (.slice A4 t.nums.length c4) (.slice A5 t.args.length c5)
  have hB1 := below_alloc (Below.refl w.heap.size w) (.cells #[.int .i64 t.kd, .int .i64 t.it, .string t.tx, .int .u32 t.cr, .slice A4 t.nums.length c4, .slice A5 t.args.length c5] 27)
  have HW := Lib.hid (term_Measure t A4 A5 c4 c5 _ (hR.below hB1) hsm (hG.below hB1))
  have HB1 := Lib.hid hB1
  clear hR hsm hG hB1 HT1
  unfold tmV
  unfold tmV at HW
  go_enter Tryz.func18, Tryz.ntmps18
  go_wp2_with fail
  refine HW.out.mono ?_
  rintro e w3 ⟨ve, rfl, hE, hB3⟩
  have HE := Lib.hid hE
  have HB3 := Lib.hid (trans_below HB1.out hB3)
  clear hE hB3 HW HB1
  generalize (if (measure t).1 = [] then (measure t).2.1 else 0) = i1
  generalize (if (measure t).1 = [] then (measure t).2.2 else 0) = i2
  go_wp2_with fail
  go_ret
  exact ⟨_, rfl, HE.out, HB3.out⟩
end Go.Proofs.YtgapeacflkfmdaaGreatDoor
namespace Go.Proofs.YtgapeacflkfmdaaGreatDoor
open Go.RowKit Go.Proofs.YtgapeacflkfmdaaGreatDoorW.PrintWords

theorem strOf_size (l : List Int) : (strOfNums l).size = l.length := by
  unfold strOfNums
  simp [ByteArray.size]
theorem quoteOf_len (s : ByteArray) : (quoteOf s).length ≤ 2 + 4 * s.size := by
  have h1 := flat_len (bs s)
  rw [bs_len] at h1
  unfold quoteOf
  simp only [List.length_cons, List.length_append, List.length_nil]
  omega
theorem quoted_size (s : ByteArray) : (quoted s).1.size ≤ 1022 := by
  have h := quoteOf_len s
  unfold quoted
  split
  · exact Nat.zero_le 1022
  · split
    · exact Nat.zero_le 1022
    · split
      · simp only
        omega
      · simp only
        rw [strOf_size]
        omega
theorem quoted_small (s : ByteArray) : (quoted s).1.size ≤ 2 + 4 * s.size := by
  have h := quoteOf_len s
  unfold quoted
  split
  · exact Nat.zero_le _
  · split
    · exact Nat.zero_le _
    · split
      · simp only
        omega
      · simp only
        rw [strOf_size]
        exact h
theorem itoaI_len {n : Int} (h0 : -9223372036854775808 ≤ n) (h1 : n ≤ 9223372036854775807) : (itoaI n).length ≤ 21 := by
  unfold itoaI
  rw [List.length_map]
  exact Lib.itoa_length_le n h0 h1
/-! ### where a part's text stands -/
def sepPre (c : List Int) (l : List (List Int)) : List Int := if l = [] then [] else sepBy c l ++ c
def sepPost (c : List Int) (l : List (List Int)) : List Int := if l = [] then [] else c ++ sepBy c l
theorem sepBy_cons (c a : List Int) (l : List (List Int)) : sepBy c (a :: l) = a ++ sepPost c l := by
  cases l with
  | nil => simp [sepBy, sepPost]
  | cons b l => simp [sepBy, sepPost]
theorem sepBy_split (c a : List Int) : ∀ (l r : List (List Int)), sepBy c (l ++ a :: r) = sepPre c l ++ (a ++ sepPost c r)
  | [], r => by rw [List.nil_append, sepBy_cons]; rfl
  | b :: l, r => by
    rw [List.cons_append, sepBy_cons]
    have h : sepPost c (l ++ a :: r) = c ++ sepBy c (l ++ a :: r) := by
      unfold sepPost
      rw [if_neg (fun e => by have := congrArg List.length e; simp at this)]
    have h2 : sepPre c (b :: l) = b ++ (sepPost c l ++ c) := by
      unfold sepPre
      rw [if_neg (fun e => by cases e), sepBy_cons, List.append_assoc]
    rw [h, sepBy_split c a l r, h2]
    cases l with
    | nil => simp [sepPre, sepPost]
    | cons d l => simp [sepPre, sepPost]
theorem sepBy_snoc (c a : List Int) (l : List (List Int)) : sepBy c (l ++ [a]) = sepPre c l ++ a := by
  rw [sepBy_split]
  simp [sepPost]
/-! ### how many parts -/
mutual
def cntT : Tm → Nat
  | ⟨_, _, _, _, _, us⟩ => 1 + cntL us
def cntL : List Tm → Nat
  | [] => 0
  | a :: us => cntT a + cntL us
end
theorem cntT_eq (t : Tm) : cntT t = 1 + cntL t.args := by
  cases t
  rw [cntT]
theorem meas_cnt (t : Tm) : ∀ d n m, (measT t d n m).1 = [] → (measT t d n m).2.1 = n + cntT t := by
  induction t using Tm.ind with
  | h t ih =>
    intro d n m h
    obtain ⟨_, _, h3, h4, _⟩ := meas_parts h
    rw [h4, cntT_eq]
    have hl : ∀ (l : List Tm), (∀ a ∈ l, a ∈ t.args) → ∀ d n m, (measL l d n m).1 = [] → (measL l d n m).2.1 = n + cntL l := by
      intro l
      induction l with
      | nil => intro _ d n m _; rw [measL, cntL]; simp
      | cons a l ihl =>
        intro hs d n m h
        rw [measL] at h ⊢
        match he : measT a d n m with
        | ([], n', m') =>
          rw [he] at h
          simp only at h ⊢
          have h1 := ih a (hs a (by simp)) d n m (by rw [he])
          rw [he] at h1
          simp only at h1
          rw [ihl (fun x hx => hs x (by simp [hx])) d n' m' h, h1, cntL]
          omega
        | (x :: r, n', m') => rw [he] at h; cases h
    rw [hl t.args (fun _ h => h) _ _ _ h3]
    omega
theorem chk_cnt {t : Tm} (h : chk t = []) : cntT t ≤ 4096 := by
  have h1 := meas_cnt t 1 0 0 h
  have h2 := meas_range t 1 0 0 (by decide) (by decide) (by decide) (by decide) (by decide) h
  omega
theorem sepBy_len (c : List Int) (hc : c.length ≤ 1) : ∀ (l : List (List Int)), (sepBy c l).length ≤ (l.map List.length).sum + l.length
  | [] => by simp [sepBy]
  | a :: l => by
    rw [sepBy_cons, List.length_append, List.map_cons, List.sum_cons, List.length_cons]
    have h := sepBy_len c hc l
    unfold sepPost
    split
    · simp; omega
    · rw [List.length_append]; omega
theorem nums_len : ∀ (l : List Int), (∀ n ∈ l, isU32 n) → (numsTxt l).length ≤ 22 * l.length
  | [], _ => by simp [numsTxt]
  | n :: l, h => by
    have h1 := nums_len l (fun x hx => h x (by simp [hx]))
    have h2 := itoaI_len (n := n) (by have := (h n (by simp)).1; omega) (by have := (h n (by simp)).2; omega)
    unfold numsTxt at h1 ⊢
    simp only [List.flatMap_cons, List.length_append, List.length_cons]
    omega
theorem shape_of {t : Tm} (h : okT t = true) : shapeOk t = true := by
  rw [okT_eq, Bool.and_eq_true] at h
  exact h.1
theorem shape_ref {t : Tm} (h : okT t = true) (hk : t.kd = 3) : t.nums.length = 3 := by
  have h3 := shape_of h
  unfold shapeOk at h3
  rw [if_neg (by omega), if_neg (by omega), if_pos hk] at h3
  simp at h3
  exact h3.2
theorem shape_pid {t : Tm} (h : okT t = true) (hk : t.kd = 4) : t.nums.length = 2 := by
  have h3 := shape_of h
  unfold shapeOk at h3
  rw [if_neg (by omega), if_neg (by omega), if_neg (by omega), if_pos hk] at h3
  simp at h3
  exact h3.2
def small64 (n : Int) : Prop := -9223372036854775808 ≤ n ∧ n ≤ 9223372036854775807
theorem txt_len (t : Tm) : okT t = true → wfT t = true → (t.kd = 1 → small64 t.it) → (t.kd = 3 ∨ t.kd = 4 → t.tx.size ≤ 64) → (∀ a, a ∈ t.args → (txtT [] a).length + 2 ≤ 1024 * cntT a) → (txtT [] t).length + 2 ≤ 1024 * cntT t := by
  intro hok hwf hit hnd ih
  have hqs := quoted_small t.tx
  have hqls : (bs (quoted t.tx).1).length ≤ 2 + 4 * t.tx.size := by rw [bs_len]; exact hqs
  have hkd := shape_kd hok
  have hq := quoted_size t.tx
  have hql : (bs (quoted t.tx).1).length ≤ 1022 := by rw [bs_len]; exact hq
  have hc := cntT_eq t
  have hal : ∀ l : List Tm, (∀ a ∈ l, (txtT [] a).length + 2 ≤ 1024 * cntT a) → ((l.map (txtT [])).map List.length).sum + l.length ≤ 1024 * cntL l := by
    intro l
    induction l with
    | nil => intro _; simp
    | cons a l ihl =>
      intro h
      have h1 := h a (by simp)
      have h2 := ihl (fun x hx => h x (by simp [hx]))
      rw [cntL]
      simp only [List.map_cons, List.sum_cons, List.length_cons]
      omega
  have hal2 := hal t.args ih
  rw [txtT_eq]
  rcases (show t.kd = 1 ∨ t.kd = 2 ∨ t.kd = 3 ∨ t.kd = 4 ∨ t.kd = 5 ∨ t.kd = 6 ∨ t.kd = 7 by omega) with hk | hk | hk | hk | hk | hk | hk
  · rw [if_pos hk]
    have := itoaI_len (hit hk).1 (hit hk).2
    omega
  · rw [if_neg (by omega), if_pos hk]
    omega
  · rw [if_neg (by omega), if_neg (by omega), if_pos hk]
    have hn := shape_ref hok hk
    have hn64 := hnd (.inl hk)
    have h2 := nums_len (t.cr :: t.nums) (wf_nums hwf)
    unfold farTxt
    unfold numsTxt at h2
    simp only [List.length_cons, List.length_append, List.length_nil] at h2 ⊢
    omega
  · rw [if_neg (by omega), if_neg (by omega), if_neg (by omega), if_pos hk]
    have hn := shape_pid hok hk
    have hn64 := hnd (.inr hk)
    have h2 := nums_len (t.cr :: t.nums) (wf_nums hwf)
    unfold farTxt
    unfold numsTxt at h2
    simp only [List.length_cons, List.length_append, List.length_nil] at h2 ⊢
    omega
  · rw [if_neg (by omega), if_neg (by omega), if_neg (by omega), if_neg (by omega), if_pos hk]
    have h1 := sepBy_len [44] (by simp) (t.args.map (txtT []))
    rw [List.length_map] at h1
    simp only [List.nil_append, List.length_cons, List.length_append, List.length_nil]
    omega
  · rw [if_neg (by omega), if_neg (by omega), if_neg (by omega), if_neg (by omega), if_neg (by omega), if_pos hk]
    simp only [List.nil_append, List.length_cons, List.length_nil]
    omega
  · rw [if_neg (by omega), if_neg (by omega), if_neg (by omega), if_neg (by omega), if_neg (by omega), if_neg (by omega)]
    obtain ⟨hl2, _⟩ := shape_list hok hk
    obtain ⟨i, x, hix⟩ := dropLast_snoc (l := t.args) (by intro e; rw [e] at hl2; simp at hl2)
    rw [hix] at hal2 hc ⊢
    have h1 := sepBy_len [44] (by simp) (i.map (txtT []))
    rw [List.length_map] at h1
    rw [List.map_append, List.map_append] at hal2
    simp only [List.map_cons, List.map_nil, List.sum_append, List.sum_cons, List.sum_nil, List.length_append, List.length_cons, List.length_nil] at hal2
    simp only [List.nil_append, List.map_append, List.map_cons, List.map_nil, List.dropLast_concat, List.getLastD_concat, List.length_cons, List.length_append, List.length_nil]
    split
    · simp only [List.length_nil]; omega
    · simp only [List.length_cons]; omega
theorem txt_size (t : Tm) : ∀ D n m, (measT t D n m).1 = [] → wfT t = true → (txtT [] t).length + 2 ≤ 1024 * cntT t := by
  induction t using Tm.ind with
  | h t ih =>
    intro D n m h hwf
    have hok := meas_ok t D n m h
    obtain ⟨_, hf, h3, _, _⟩ := meas_parts h
    refine txt_len t hok hwf (fun hk => ?_) (fun hk => ?_) (fun a ha => ?_)
    · have := form_int hf hk
      unfold small64
      omega
    · have h := form_node hf hk
      unfold nodeOk nodeOkL at h
      simp only [Bool.and_eq_true, decide_eq_true_eq] at h
      have := h.1.1.1.2
      rw [bs_len] at this
      exact this
    · obtain ⟨n', m', h4⟩ := measL_mem h3 a ha
      exact ih a ha _ n' m' h4 (wfL_mem (wf_args hwf) ha)
theorem chk_txt {t : Tm} (h : chk t = []) (hw : wfT t = true) : (txtT [] t).length ≤ 4194302 := by
  have h1 := txt_size t 1 0 0 h hw
  have h2 := chk_cnt h
  omega
end Go.Proofs.YtgapeacflkfmdaaGreatDoor
