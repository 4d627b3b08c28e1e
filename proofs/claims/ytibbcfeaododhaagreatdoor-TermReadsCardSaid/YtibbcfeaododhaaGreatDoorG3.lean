/-
 heddleref01.Quote. Plain Lean: terms as trees; their form, size and depth; their order; their text. No program here. api.Term as a kind of cells: a tree of rows; a term in a block of its own. term: faults, codes, the fields of a part; comparisons of numbers and texts. Names of nodes: heddleref01.Node, atom.Node. strings.Cut at one byte, atom.Node.
-/
import Derived.Test.YtibbcfeaododhaaGreatDoorG2
import Derived.Test.YtibbcfeaododhaaGreatDoorG1
import Derived.Lib.IndexLaws
import Derived.Deep.Cut
namespace Go.Proofs.YtibbcfeaododhaaGreatDoor
open Go.RowKit Go.Proofs.YtibbcfeaododhaaGreatDoorW.PrintWords
set_option maxRecDepth 100000 in
set_option maxHeartbeats 4000000 in
theorem ref01_Quote (s : ByteArray) (hm : s.size ≤ 140737488351232) (w : World) :
  Calls Tryz.prog 94 #[.string s] w (StrR w (quoted s)) := by
 obtain ⟨R, hR⟩ : ∃ R, R = quoted s := ⟨_, rfl⟩
 rw [← hR]
 unfold quoted at hR
 have HST := Lib.hid (UTF_any s hm)
 by_cases hl : s.size > 255
 ·have hd : decide ((s.size : Int) > 255) = true := decide_eq_true (by omega)
  rw [if_pos hl] at hR
  have HQ := Lib.hid hR
  have HB0 := Lib.hid (Below.refl w.heap.size w)
  clear hR hl
  go_enter Tryz.func94, Tryz.ntmps94
  go_wp2_with fail
  refine (ref01_no _ _ _).mono ?_
  rintro e w2 ⟨ve, rfl, hE, hB1⟩
  have HE := Lib.hid hE
  have HB1 := Lib.hid (trans_below HB0.out hB1)
  clear hE hB1
  go_wp2_with fail
  go_ret2
  exact ⟨_, by rw [HQ.out]; rfl, by rw [HQ.out]; exact HE.out.lower HB0.out.size, HB1.out⟩
 ·have hd : decide ((s.size : Int) > 255) = false := decide_eq_false (by omega)
  rw [if_neg hl] at hR
  have hs255 : s.size ≤ 255 := by omega
  by_cases hu : 0 ≤ utfBad s 0
  ·have hd2 : decide (utfBad s 0 ≥ 0) = true := decide_eq_true hu
   rw [if_pos hu] at hR
   have HQ := Lib.hid hR
   clear hR hl hu
   go_enter Tryz.func94, Tryz.ntmps94
   go_wp2_with fail
   refine (HST.out _).mono ?_
   rintro e w1 ⟨rfl, hB0⟩
   have HB0 := Lib.hid hB0.below
   clear hB0
   go_wp2_with fail
   refine (ref01_no _ _ _).mono ?_
   rintro e w2 ⟨ve, rfl, hE, hB1⟩
   have HE := Lib.hid hE
   have HB1 := Lib.hid (trans_below HB0.out hB1)
   clear hE hB1
   go_wp2_with fail
   go_ret2
   exact ⟨_, by rw [HQ.out]; rfl, by rw [HQ.out]; exact HE.out.lower HB0.out.size, HB1.out⟩
  ·have hd2 : decide (utfBad s 0 ≥ 0) = false := decide_eq_false hu
   rw [if_neg hu] at hR
   cases hp : isPlain s with
   | true =>
    rw [hp, if_pos rfl] at hR
    have HQ := Lib.hid hR
    clear hR hl hu
    go_enter Tryz.func94, Tryz.ntmps94
    go_wp2_with fail
    refine (HST.out _).mono ?_
    rintro e w1 ⟨rfl, hB0⟩
    have HB0 := Lib.hid hB0.below
    clear hB0
    go_wp2_with fail
    refine (ref01_plain _ hm _).mono ?_
    rw [hp]
    rintro e w2 ⟨rfl, hB⟩
    have HB2 := Lib.hid (trans_below HB0.out hB)
    clear hB
    go_wp2_with fail
    go_ret2
    exact ⟨_, by rw [HQ.out]; rfl, by rw [HQ.out]; exact LnIs.nil _ _, HB2.out⟩
   | false =>
    rw [hp, if_neg (by simp)] at hR
    have HQ := Lib.hid hR
    clear hR hl hu
    go_enter Tryz.func94, Tryz.ntmps94
    go_wp2_with fail
    refine (HST.out _).mono ?_
    rintro e w1 ⟨rfl, hB0⟩
    have HB0 := Lib.hid hB0.below
    clear hB0
    go_wp2_with fail
    refine (ref01_plain _ hm _).mono ?_
    rw [hp]
    rintro e w2 ⟨rfl, hB⟩
    have HB2 := Lib.hid (trans_below HB0.out hB)
    clear hB
    go_wp2_with fail
    have HO0 := Lib.hid (own_lit w2 w.heap.size 5 .u8 [39] HB2.out.size (by decide))
    have HB3 := Lib.hid (below_alloc HB2.out (.cells #[.int .u8 39] 5))
    go_loopg [5, 6] s.size (fun gk vb vi wl => ∃ (k : Nat) (v0 : Value), v0 = vb ∧ vi = .int .i64 (k : Int) ∧ gk = s.size - k ∧ k ≤ s.size ∧ Hid (wl.ownsRow w.heap.size 5 1 v0 (qPre s k).length (nums .u8 (qPre s k))) ∧ Hid (Below w.heap.size w wl))
    case atStart => exact ⟨0, _, rfl, rfl, rfl, Nat.zero_le _, HO0.out, HB3.out⟩
    case round =>
     clear HO0 HB0 HB2 HB3
     obtain ⟨k, vb, rfl, rfl, hgk, hk, HO, HB⟩ := hrel
     have HK := Lib.hid hgk
     clear hgk
     have hqn := qPre_len s k
     have HLE : Hid (∀ n, n ≤ 4 → (qPre s k).length + n ≤ 140737488355328) := Lib.hid fun n hn => by omega
     clear hqn
     by_cases hlt : k < s.size
     ·have hx0 : (0 : Int) ≤ (k : Int) := by omega
      have hx1 : (k : Int) < (s.size : Int) := by omega
      have hb := btk s k
      have hr := bt_range s (k : Int)
      have hqs := qPre_succ hlt
      generalize bt s (k : Int) = c at hb hr hqs
      by_cases c0 : c = 39 ∨ c = 92
      ·have HS : Hid (qPre s (k + 1) = qPre s k ++ [92, c]) := Lib.hid (by rw [hqs]; unfold qB; rw [if_pos c0])
       clear hqs
       by_cases c39 : c = 39
       ·have d0 : (c == 39) = true := beq_iff_eq.2 c39
        clear c0 c39
        go_wp2_with (at_builtin; refine append_lit (w0 := w) w.heap.size rfl (.tmp 42) (.tmp 44) 104 5 rfl Tryz.underlying104 infoU8 vb (qPre s k) [92, c] rfl ?hx ?hO ?hB ?hbs ?hl ?_; (case hx => first | rfl | (simp [Act.eval]; done)); (case hO => exact HO.out); (case hB => exact HB.out); (case hbs => exact HB.out.size); (case hl => exact HLE.out _ (by first | decide | simp)); intro v1 w5 ho hb hg; have HO5 := Lib.hid ho; have HB5 := Lib.hid hb; clear ho hb hg)
        go_wp2_with fail
        go_roundg (s.size - (k + 1))
        case measure => rw [HK.out]; omega
        case rel => exact ⟨k + 1, _, rfl, by go_num, rfl, by omega, by rw [HS.out]; exact HO5.out, HB5.out⟩
       ·have d0 : (c == 39) = false := beq_eq_false_iff_ne.2 c39
        have d1 : (c == 92) = true := beq_iff_eq.2 (c0.resolve_left c39)
        clear c0 c39
        go_wp2_with (at_builtin; refine append_lit (w0 := w) w.heap.size rfl (.tmp 42) (.tmp 44) 104 5 rfl Tryz.underlying104 infoU8 vb (qPre s k) [92, c] rfl ?hx ?hO ?hB ?hbs ?hl ?_; (case hx => first | rfl | (simp [Act.eval]; done)); (case hO => exact HO.out); (case hB => exact HB.out); (case hbs => exact HB.out.size); (case hl => exact HLE.out _ (by first | decide | simp)); intro v1 w5 ho hb hg; have HO5 := Lib.hid ho; have HB5 := Lib.hid hb; clear ho hb hg)
        go_wp2_with fail
        go_roundg (s.size - (k + 1))
        case measure => rw [HK.out]; omega
        case rel => exact ⟨k + 1, _, rfl, by go_num, rfl, by omega, by rw [HS.out]; exact HO5.out, HB5.out⟩
      ·have d0 : (c == 39) = false := beq_eq_false_iff_ne.2 fun h => c0 (.inl h)
       have d1 : (c == 92) = false := beq_eq_false_iff_ne.2 fun h => c0 (.inr h)
       by_cases c10 : c = 10
       ·have d2 : (c == 10) = true := beq_iff_eq.2 c10
        have HS : Hid (qPre s (k + 1) = qPre s k ++ [92, 110]) := Lib.hid (by rw [hqs]; unfold qB; rw [if_neg c0, if_pos c10])
        clear hqs c0 c10
        go_wp2_with (at_builtin; refine append_lit (w0 := w) w.heap.size rfl (.tmp 49) (.tmp 50) 104 5 rfl Tryz.underlying104 infoU8 vb (qPre s k) [92, 110] rfl ?hx ?hO ?hB ?hbs ?hl ?_; (case hx => first | rfl | (simp [Act.eval]; done)); (case hO => exact HO.out); (case hB => exact HB.out); (case hbs => exact HB.out.size); (case hl => exact HLE.out _ (by first | decide | simp)); intro v1 w5 ho hb hg; have HO5 := Lib.hid ho; have HB5 := Lib.hid hb; clear ho hb hg)
        go_wp2_with fail
        go_roundg (s.size - (k + 1))
        case measure => rw [HK.out]; omega
        case rel => exact ⟨k + 1, _, rfl, by go_num, rfl, by omega, by rw [HS.out]; exact HO5.out, HB5.out⟩
       ·have d2 : (c == 10) = false := beq_eq_false_iff_ne.2 c10
        by_cases c9 : c = 9
        ·have d3 : (c == 9) = true := beq_iff_eq.2 c9
         have HS : Hid (qPre s (k + 1) = qPre s k ++ [92, 116]) := Lib.hid (by rw [hqs]; unfold qB; rw [if_neg c0, if_neg c10, if_pos c9])
         clear hqs c0 c10 c9
         go_wp2_with (at_builtin; refine append_lit (w0 := w) w.heap.size rfl (.tmp 55) (.tmp 56) 104 5 rfl Tryz.underlying104 infoU8 vb (qPre s k) [92, 116] rfl ?hx ?hO ?hB ?hbs ?hl ?_; (case hx => first | rfl | (simp [Act.eval]; done)); (case hO => exact HO.out); (case hB => exact HB.out); (case hbs => exact HB.out.size); (case hl => exact HLE.out _ (by first | decide | simp)); intro v1 w5 ho hb hg; have HO5 := Lib.hid ho; have HB5 := Lib.hid hb; clear ho hb hg)
         go_wp2_with fail
         go_roundg (s.size - (k + 1))
         case measure => rw [HK.out]; omega
         case rel => exact ⟨k + 1, _, rfl, by go_num, rfl, by omega, by rw [HS.out]; exact HO5.out, HB5.out⟩
        ·have d3 : (c == 9) = false := beq_eq_false_iff_ne.2 c9
         by_cases c13 : c = 13
         ·have d4 : (c == 13) = true := beq_iff_eq.2 c13
          have HS : Hid (qPre s (k + 1) = qPre s k ++ [92, 114]) := Lib.hid (by rw [hqs]; unfold qB; rw [if_neg c0, if_neg c10, if_neg c9, if_pos c13])
          clear hqs c0 c10 c9 c13
          go_wp2_with (at_builtin; refine append_lit (w0 := w) w.heap.size rfl (.tmp 61) (.tmp 62) 104 5 rfl Tryz.underlying104 infoU8 vb (qPre s k) [92, 114] rfl ?hx ?hO ?hB ?hbs ?hl ?_; (case hx => first | rfl | (simp [Act.eval]; done)); (case hO => exact HO.out); (case hB => exact HB.out); (case hbs => exact HB.out.size); (case hl => exact HLE.out _ (by first | decide | simp)); intro v1 w5 ho hb hg; have HO5 := Lib.hid ho; have HB5 := Lib.hid hb; clear ho hb hg)
          go_wp2_with fail
          go_roundg (s.size - (k + 1))
          case measure => rw [HK.out]; omega
          case rel => exact ⟨k + 1, _, rfl, by go_num, rfl, by omega, by rw [HS.out]; exact HO5.out, HB5.out⟩
         ·have d4 : (c == 13) = false := beq_eq_false_iff_ne.2 c13
          by_cases chx : c < 32 ∨ c = 127
          ·have HS : Hid (qPre s (k + 1) = qPre s k ++ [92, 120, hexD (c / 16), hexD (c % 16)]) := Lib.hid (by rw [hqs]; unfold qB; rw [if_neg c0, if_neg c10, if_neg c9, if_neg c13, if_pos chx])
           clear hqs c0 c10 c9 c13
           by_cases c32 : c < 32
           ·have d5 : decide (c < 32) = true := decide_eq_true c32
            clear chx c32
            obtain ⟨D1, hD1⟩ : ∃ D, D = c / 16 := ⟨_, rfl⟩
            obtain ⟨D2, hD2⟩ : ∃ D, D = c % 16 := ⟨_, rfl⟩
            have hc16 := hD1.symm
            have hcr := hD2.symm
            have htd : IntKind.u8.wrap (c.tdiv 16) = D1 := by
             rw [Int.tdiv_eq_ediv_of_nonneg hr.1, hc16]
             exact (show ∀ x : Int, 0 ≤ x → x < 16 → IntKind.u8.wrap x = x from fun x h0 h1 => by show x % 256 = x; omega) D1 (by omega) (by omega)
            have htr : c.tmod 16 = D2 := by rw [Int.tmod_eq_emod_of_nonneg hr.1, hcr]
            have x10 : (0 : Int) ≤ D1 := by omega
            have x11 : D1 < 16 := by omega
            have x20 : (0 : Int) ≤ D2 := by omega
            have x21 : D2 < 16 := by omega
            have hi1 := hex_index D1 x10 x11
            have hi2 := hex_index D2 x20 x21
            rw [hc16, hcr] at HS
            clear hD1 hD2
            have hr0 := hr.1
            have hr1 := hr.2
            go_wp2_with fail
            obtain ⟨i0, hi0, hz0, hz1, hz2⟩ := info_parts infoU8
            obtain ⟨O, hOO⟩ : ∃ o : Obj, o = .cells #[.int .u8 92, .int .u8 120, .int .u8 (hexD D1), .int .u8 (hexD D2)] 5 := ⟨_, rfl⟩
            have HOA := Lib.hid ((HO.out.alloc O).drew)
            have HBA := Lib.hid ((below_alloc HB.out O).drew)
            have HNW := Lib.hid (World.news_of_block (w := (wr.alloc O).drew) (B := wr.heap.size) (show (wr.alloc O).drew.heap[wr.heap.size]? = _ by rw [hOO]; exact heap_alloc_new wr _))
            have HZ9 : Hid ((wr.alloc O).drew.heap.size = wr.heap.size + 1) := Lib.hid (by show (wr.alloc O).heap.size = _; simp)
            rw [hOO] at HOA HBA HNW HZ9
            have HON : Hid (∀ u ∈ [Value.int .u8 92, .int .u8 120, .int .u8 (hexD D1), .int .u8 (hexD D2)], u.oneCell' = true) := Lib.hid (one_four _ _)
            have HL63 : Hid ((qPre s k).length + 4 ≤ maxLen) := Lib.hid (by unfold maxLen; have := HLE.out 4 (by decide); omega)
            have HLBY : Hid (((qPre s k).length + 4) * 1 ≤ 140737488355328) := Lib.hid (by have := HLE.out 4 (by decide); omega)
            clear hOO
            go_region_held3 (fun _ => True) (trivial) (first | ((refine step_append_lies _ (by rfl) (.tmp 71) (.tmp 78) 104 (by rfl) w.heap.size 5 i0 (.int .u8 0) 1 1 Tryz.underlying104 hi0 hz0 hz1 hz2 rfl (by decide) vb (qPre s k).length (nums .u8 (qPre s k)) (by rfl) HOA.out ⟨wr.heap.size, 0, none⟩ 4 4 [.int .u8 92, .int .u8 120, .int .u8 (hexD D1), .int .u8 (hexD D2)] (by rfl) rfl HNW.out HON.out (by decide) HL63.out HLBY.out HBA.out.size (wr.heap.size + 1) HZ9.out ?_; intro g cap w5 hown hgrow _ _; have HO5 := Lib.hid (own_hex hown); have HB5 : Hid (Below w.heap.size w w5) := Lib.hid (HBA.out.grown hgrow HBA.out.size (own_base HO.out)); clear hown hgrow)))
            all_goals
             go_wp2_with fail
             go_roundg (s.size - (k + 1))
             case measure => rw [HK.out]; omega
             case rel => exact ⟨k + 1, _, rfl, by go_num, rfl, by omega, by rw [HS.out]; exact HO5.out, HB5.out⟩
           ·have d5 : decide (c < 32) = false := decide_eq_false c32
            have d6 : (c == 127) = true := beq_iff_eq.2 (chx.resolve_left c32)
            clear chx c32
            obtain ⟨D1, hD1⟩ : ∃ D, D = c / 16 := ⟨_, rfl⟩
            obtain ⟨D2, hD2⟩ : ∃ D, D = c % 16 := ⟨_, rfl⟩
            have hc16 := hD1.symm
            have hcr := hD2.symm
            have htd : IntKind.u8.wrap (c.tdiv 16) = D1 := by
             rw [Int.tdiv_eq_ediv_of_nonneg hr.1, hc16]
             exact (show ∀ x : Int, 0 ≤ x → x < 16 → IntKind.u8.wrap x = x from fun x h0 h1 => by show x % 256 = x; omega) D1 (by omega) (by omega)
            have htr : c.tmod 16 = D2 := by rw [Int.tmod_eq_emod_of_nonneg hr.1, hcr]
            have x10 : (0 : Int) ≤ D1 := by omega
            have x11 : D1 < 16 := by omega
            have x20 : (0 : Int) ≤ D2 := by omega
            have x21 : D2 < 16 := by omega
            have hi1 := hex_index D1 x10 x11
            have hi2 := hex_index D2 x20 x21
            rw [hc16, hcr] at HS
            clear hD1 hD2
            have hr0 := hr.1
            have hr1 := hr.2
            go_wp2_with fail
            obtain ⟨i0, hi0, hz0, hz1, hz2⟩ := info_parts infoU8
            obtain ⟨O, hOO⟩ : ∃ o : Obj, o = .cells #[.int .u8 92, .int .u8 120, .int .u8 (hexD D1), .int .u8 (hexD D2)] 5 := ⟨_, rfl⟩
            have HOA := Lib.hid ((HO.out.alloc O).drew)
            have HBA := Lib.hid ((below_alloc HB.out O).drew)
            have HNW := Lib.hid (World.news_of_block (w := (wr.alloc O).drew) (B := wr.heap.size) (show (wr.alloc O).drew.heap[wr.heap.size]? = _ by rw [hOO]; exact heap_alloc_new wr _))
            have HZ9 : Hid ((wr.alloc O).drew.heap.size = wr.heap.size + 1) := Lib.hid (by show (wr.alloc O).heap.size = _; simp)
            rw [hOO] at HOA HBA HNW HZ9
            have HON : Hid (∀ u ∈ [Value.int .u8 92, .int .u8 120, .int .u8 (hexD D1), .int .u8 (hexD D2)], u.oneCell' = true) := Lib.hid (one_four _ _)
            have HL63 : Hid ((qPre s k).length + 4 ≤ maxLen) := Lib.hid (by unfold maxLen; have := HLE.out 4 (by decide); omega)
            have HLBY : Hid (((qPre s k).length + 4) * 1 ≤ 140737488355328) := Lib.hid (by have := HLE.out 4 (by decide); omega)
            clear hOO
            go_region_held3 (fun _ => True) (trivial) (first | ((refine step_append_lies _ (by rfl) (.tmp 71) (.tmp 78) 104 (by rfl) w.heap.size 5 i0 (.int .u8 0) 1 1 Tryz.underlying104 hi0 hz0 hz1 hz2 rfl (by decide) vb (qPre s k).length (nums .u8 (qPre s k)) (by rfl) HOA.out ⟨wr.heap.size, 0, none⟩ 4 4 [.int .u8 92, .int .u8 120, .int .u8 (hexD D1), .int .u8 (hexD D2)] (by rfl) rfl HNW.out HON.out (by decide) HL63.out HLBY.out HBA.out.size (wr.heap.size + 1) HZ9.out ?_; intro g cap w5 hown hgrow _ _; have HO5 := Lib.hid (own_hex hown); have HB5 : Hid (Below w.heap.size w w5) := Lib.hid (HBA.out.grown hgrow HBA.out.size (own_base HO.out)); clear hown hgrow)))
            all_goals
             go_wp2_with fail
             go_roundg (s.size - (k + 1))
             case measure => rw [HK.out]; omega
             case rel => exact ⟨k + 1, _, rfl, by go_num, rfl, by omega, by rw [HS.out]; exact HO5.out, HB5.out⟩
          ·have d5 : decide (c < 32) = false := decide_eq_false fun h => chx (.inl h)
           have d6 : (c == 127) = false := beq_eq_false_iff_ne.2 fun h => chx (.inr h)
           have HS : Hid (qPre s (k + 1) = qPre s k ++ [c]) := Lib.hid (by rw [hqs]; unfold qB; rw [if_neg c0, if_neg c10, if_neg c9, if_neg c13, if_neg chx])
           clear hqs c0 c10 c9 c13 chx
           go_wp2_with (at_builtin; refine append_lit (w0 := w) w.heap.size rfl (.tmp 31) (.tmp 33) 104 5 rfl Tryz.underlying104 infoU8 vb (qPre s k) [c] rfl ?hx ?hO ?hB ?hbs ?hl ?_; (case hx => first | rfl | (simp [Act.eval]; done)); (case hO => exact HO.out); (case hB => exact HB.out); (case hbs => exact HB.out.size); (case hl => exact HLE.out _ (by first | decide | simp)); intro v1 w5 ho hb hg; have HO5 := Lib.hid ho; have HB5 := Lib.hid hb; clear ho hb hg)
           go_wp2_with fail
           go_roundg (s.size - (k + 1))
           case measure => rw [HK.out]; omega
           case rel => exact ⟨k + 1, _, rfl, by go_num, rfl, by omega, by rw [HS.out]; exact HO5.out, HB5.out⟩
     ·have d0 : decide ((k : Int) < (s.size : Int)) = false := decide_eq_false (by omega)
      have HS : Hid (qPre s k ++ [39] = quoteOf s) := Lib.hid (qPre_end (by omega))
      go_wp2_with (at_builtin; refine append_lit (w0 := w) w.heap.size rfl (.tmp 80) (.tmp 81) 104 5 rfl Tryz.underlying104 infoU8 vb (qPre s k) [39] rfl ?hx ?hO ?hB ?hbs ?hl ?_; (case hx => first | rfl | (simp [Act.eval]; done)); (case hO => exact HO.out); (case hB => exact HB.out); (case hbs => exact HB.out.size); (case hl => exact HLE.out _ (by first | decide | simp)); intro v1 w5 ho hb hg; have hcv := own_string (P := Tryz.prog) (src := 104) (dst := 9) Tryz.underlying104 Tryz.underlying5 Tryz.underlying9 ho; have HB5 := Lib.hid hb; clear ho hb hg)
      go_ret2
      exact ⟨_, by rw [HQ.out, ← HS.out]; rfl, by rw [HQ.out]; exact LnIs.nil _ _, HB5.out⟩
end Go.Proofs.YtibbcfeaododhaaGreatDoor
namespace Go.Proofs.YtibbcfeaododhaaGreatDoor
open Go.RowKit Go.Proofs.YtibbcfeaododhaaGreatDoorW.PrintWords
structure Tm where
 kd : Int
 it : Int
 tx : ByteArray
 cr : Int
 nums : List Int
 args : List Tm
def zTm : Tm := ⟨0, 0, ⟨#[]⟩, 0, [], []⟩
theorem Tm.ind {P : Tm → Prop} (h : ∀ t : Tm, (∀ a ∈ t.args, P a) → P t) (t : Tm) : P t := by
 refine Tm.rec (motive_1 := P) (motive_2 := fun l => ∀ a ∈ l, P a) ?_ ?_ ?_ t
 ·intro kd it tx cr nums args ih
  exact h _ ih
 ·intro a ha
  cases ha
 ·intro a l ih1 ih2 x hx
  rcases List.mem_cons.1 hx with rfl | hm
  ·exact ih1
  ·exact ih2 _ hm
def rdTm (xs : List Tm) (i : Int) : Tm := xs.getD i.toNat zTm
def nTerm : ByteArray := ⟨#[116, 101, 114, 109]⟩
/-! ### names of nodes -/
def inName (c : Int) : Bool := isIn c || c == 45
def inHost (c : Int) : Bool := isIn c || c == 45 || c == 46
def nodeLen (l : List Int) : Nat := tw (fun c => c != 64) l
def nodeOkL (l : List Int) : Bool :=
 decide (nodeLen l < l.length) && decide (0 < nodeLen l) && decide (nodeLen l + 1 < l.length) && decide (l.length ≤ 64) && !(l.drop (nodeLen l + 1)).contains 64 &&
  (l.take (nodeLen l)).all inName && (l.drop (nodeLen l + 1)).all inHost
def nodeOk (s : ByteArray) : Bool := nodeOkL (bs s)
/-- The chain of faults of a node's name. -/
def nodeBad (s : ByteArray) : List Lk := if nodeOk s then [] else [⟨nAtom, 0, 24⟩]
/-! ### the form of one part -/
/-- Are the fields that a kind does not name zero? -/
def emptyOk (t : Tm) (text nums args : Bool) : Bool :=
 (text || decide (t.tx.size = 0)) && (nums || decide (t.nums.length = 0) && decide (t.cr = 0)) && (args || decide (t.args.length = 0)) && (decide (t.kd = 1) || decide (t.it = 0))
def lastKd (t : Tm) : Int := (rdTm t.args ((t.args.length : Int) - 1)).kd
def shapeOk (t : Tm) : Bool :=
 if t.kd = 1 then emptyOk t false false false
 else if t.kd = 2 then emptyOk t true false false
 else if t.kd = 3 then emptyOk t true true false && decide (t.nums.length = 3)
 else if t.kd = 4 then emptyOk t true true false && decide (t.nums.length = 2)
 else if t.kd = 5 then emptyOk t false false true
 else if t.kd = 6 then emptyOk t false false false
 else if t.kd = 7 then emptyOk t false false true && decide (2 ≤ t.args.length) && decide (lastKd t ≠ 7)
 else false
/-- A fault of a lower layer, with its number. -/
def overTm (at_ : Int) : List Lk → List Lk
 | [] => []
 | x :: r => ⟨nTerm, at_, x.co⟩ :: x :: r
def formBad (t : Tm) (at_ : Int) : List Lk :=
 if shapeOk t = false then [⟨nTerm, at_, 40⟩]
 else if t.kd = 1 then (if t.it < -576460752303423488 ∨ 576460752303423487 < t.it then [⟨nTerm, at_, 2⟩] else [])
 else if t.kd = 2 then overTm at_ (quoted t.tx).2
 else if t.kd = 3 ∨ t.kd = 4 then overTm at_ (nodeBad t.tx)
 else []
/-! ### size and depth -/
abbrev Meas := List Lk × Int × Int
mutual
/-- A part at a depth, so many parts and so deep before it. -/
def measT : Tm → Int → Int → Int → Meas
 | ⟨kd, it, tx, cr, ns, us⟩, d, n, m =>
  if n = 4096 then ([⟨nTerm, n, 5⟩], 0, 0)
  else if 256 < d then ([⟨nTerm, n, 9⟩], 0, 0)
  else match formBad ⟨kd, it, tx, cr, ns, us⟩ n with
   | [] => measL us (d + 1) (n + 1) (max m d)
   | l => (l, 0, 0)
def measL : List Tm → Int → Int → Int → Meas
 | [], _, n, m => ([], n, m)
 | a :: us, d, n, m => match measT a d n m with
  | ([], n', m') => measL us d n' m'
  | r => r
end
theorem measT_eq (t : Tm) (d n m : Int) : measT t d n m = if n = 4096 then ([⟨nTerm, n, 5⟩], 0, 0)
  else if 256 < d then ([⟨nTerm, n, 9⟩], 0, 0)
  else match formBad t n with
   | [] => measL t.args (d + 1) (n + 1) (max m d)
   | l => (l, 0, 0) := by
 cases t
 rw [measT]
/-- term.Measure, heddleref02.Measure. -/
def measure (t : Tm) : Meas := measT t 1 0 0
/-- term.Check, heddleref02.Check. -/
def chk (t : Tm) : List Lk := (measure t).1
/-! ### order -/
def cmpI (a b : Int) : Int := if a < b then -1 else if b < a then 1 else 0
def cmpL : List Int → List Int → Int
 | [], [] => 0
 | [], _ :: _ => -1
 | _ :: _, [] => 1
 | x :: xs, y :: ys => if x < y then -1 else if y < x then 1 else cmpL xs ys
def cmpS (a b : ByteArray) : Int := cmpL (bs a) (bs b)
/-- The first that is not 0. -/
def orI (a b : Int) : Int := if a = 0 then b else a
mutual
def ordT : Tm → Tm → Int
 | ⟨kd, it, tx, cr, ns, us⟩, b =>
  if kd ≠ b.kd then cmpI kd b.kd
  else if kd = 1 then cmpI it b.it
  else if kd = 2 then cmpS tx b.tx
  else if kd = 3 ∨ kd = 4 then orI (cmpS tx b.tx) (orI (cmpI cr b.cr) (cmpL ns b.nums))
  else if kd = 5 then orI (cmpI us.length b.args.length) (ordP us b.args)
  else if kd = 7 then ordL us b.args
  else 0
/-- Tuples' parts, one by one. -/
def ordP : List Tm → List Tm → Int
 | [], [] => 0
 | [], _ :: _ => -1
 | _ :: _, [] => 1
 | a :: us, b :: bs => orI (ordT a b) (ordP us bs)
/-- Lists' elements and tails. -/
def ordL : List Tm → List Tm → Int
 | [], _ => 0
 | _ :: _, [] => 0
 | [a], [b] => ordT a b
 | [a], _ :: _ :: _ => cmpI a.kd 7
 | _ :: _ :: _, [b] => cmpI 7 b.kd
 | a :: x :: xs, b :: y :: ys => orI (ordT a b) (ordL (x :: xs) (y :: ys))
end
theorem ordT_eq (a b : Tm) : ordT a b = if a.kd ≠ b.kd then cmpI a.kd b.kd
  else if a.kd = 1 then cmpI a.it b.it
  else if a.kd = 2 then cmpS a.tx b.tx
  else if a.kd = 3 ∨ a.kd = 4 then orI (cmpS a.tx b.tx) (orI (cmpI a.cr b.cr) (cmpL a.nums b.nums))
  else if a.kd = 5 then orI (cmpI a.args.length b.args.length) (ordP a.args b.args)
  else if a.kd = 7 then ordL a.args b.args
  else 0 := by
 cases a
 rw [ordT]
/-- term.Compare, heddleref02.Compare. -/
def compareT (a b : Tm) : Int := if chk a ≠ [] ∨ chk b ≠ [] then 0 else ordT a b
/-! ### text -/
def itoaI (n : Int) : List Int := (Lib.itoa n).map fun c => (c.toNat : Int)
/-- Texts with something between. -/
def sepBy (c : List Int) : List (List Int) → List Int
 | [] => []
 | [a] => a
 | a :: b :: l => a ++ (c ++ sepBy c (b :: l))
/-- A pid's text. -/
def farTxt (tx : ByteArray) (ns : List Int) : List Int := 60 :: (bs (quoted tx).1 ++ (ns.flatMap (fun n => 46 :: itoaI n) ++ [62]))
mutual
/-- A term's text, with blanks 'g' behind each opening bracket, comma and bar. -/
def txtT (g : List Int) : Tm → List Int
 | ⟨kd, it, tx, cr, ns, us⟩ =>
  if kd = 1 then itoaI it
  else if kd = 2 then bs (quoted tx).1
  else if kd = 3 then 35 :: 82 :: 101 :: 102 :: farTxt tx (cr :: ns)
  else if kd = 4 then farTxt tx (cr :: ns)
  else if kd = 5 then 123 :: (g ++ (sepBy (44 :: g) (txtS g us) ++ [125]))
  else if kd = 6 then 91 :: (g ++ [93])
  else 91 :: (g ++ (sepBy (44 :: g) (txtS g us).dropLast ++ ((if (rdTm us ((us.length : Int) - 1)).kd = 6 then [] else 124 :: (g ++ (txtS g us).getLastD [])) ++ [93])))
def txtS (g : List Int) : List Tm → List (List Int)
 | [] => []
 | a :: us => txtT g a :: txtS g us
end
theorem txtS_map (g : List Int) : ∀ l : List Tm, txtS g l = l.map (txtT g)
 | [] => by rw [txtS]; rfl
 | a :: l => by rw [txtS, txtS_map g l]; rfl
theorem txtT_eq (g : List Int) (t : Tm) : txtT g t = if t.kd = 1 then itoaI t.it
  else if t.kd = 2 then bs (quoted t.tx).1
  else if t.kd = 3 then 35 :: 82 :: 101 :: 102 :: farTxt t.tx (t.cr :: t.nums)
  else if t.kd = 4 then farTxt t.tx (t.cr :: t.nums)
  else if t.kd = 5 then 123 :: (g ++ (sepBy (44 :: g) (t.args.map (txtT g)) ++ [125]))
  else if t.kd = 6 then 91 :: (g ++ [93])
  else 91 :: (g ++ (sepBy (44 :: g) (t.args.map (txtT g)).dropLast ++ ((if lastKd t = 6 then [] else 124 :: (g ++ (t.args.map (txtT g)).getLastD [])) ++ [93]))) := by
 cases t
 rw [txtT, txtS_map]
 rfl
/-- term.Print, heddleref02.Print. -/
def printT (t : Tm) : ByteArray × List Lk := if chk t = [] then (strOfNums (txtT [] t), []) else (⟨#[]⟩, chk t)
/-! ### what a text says -/
abbrev Rd := Tm × Nat × List Lk
def rdNo (at_ : Nat) (co : Int) : Rd := (zTm, 0, [⟨nTerm, at_, co⟩])
def isAt (s : ByteArray) (k : Nat) (c : Int) : Bool := decide (k < s.size) && decide (bt s (k : Int) = c)
/-- Behind blanks. -/
def blk (s : ByteArray) (k : Nat) : Nat := runEnd isBlank s k
/-- Behind a number's digits. -/
def digEnd (s : ByteArray) (k : Nat) : Nat := if bt s (k : Int) = 48 then k + 1 else runEnd isDigit s k
def decV (l : List Int) : Int := l.foldl (fun a c => a * 10 + (c - 48)) 0
def decAt (s : ByteArray) (k e : Nat) : Int := decV (((bs s).drop k).take (e - k))
def isDig (s : ByteArray) (k : Nat) : Bool := decide (k < s.size) && isDigit (bt s (k : Int))
/-- A number of at most 32 bits. -/
def numAt (s : ByteArray) (k : Nat) : Int × Nat × List Lk :=
 if isDig s k = false then (0, 0, [⟨nTerm, k, 41⟩])
 else if 4294967295 < decAt s k (digEnd s k) then (0, 0, [⟨nTerm, k, 41⟩])
 else (decAt s k (digEnd s k), digEnd s k, [])
def tmInt (n : Int) : Tm := ⟨1, n, ⟨#[]⟩, 0, [], []⟩
/-- An int: its digits begin at j. -/
def intAt (s : ByteArray) (k j : Nat) (sg : Int) : Rd :=
 if isDig s j = false then rdNo j 41
 else if sg * decAt s j (digEnd s j) < -576460752303423488 ∨ 576460752303423487 < sg * decAt s j (digEnd s j) then rdNo k 2
 else (tmInt (sg * decAt s j (digEnd s j)), digEnd s j, [])
def wholeAt (s : ByteArray) (k : Nat) : Rd :=
 if bt s (k : Int) = 45 then (if isAt s (k + 1) 48 then rdNo (k + 1) 41 else intAt s k (k + 1) (-1)) else intAt s k k 1
def begAtom (s : ByteArray) (k : Nat) : Bool := decide (k < s.size) && (decide (bt s (k : Int) = 39) || isSmall (bt s (k : Int)))
def atomAt (s : ByteArray) (k : Nat) : ByteArray × Nat × List Lk :=
 if begAtom s k = false then (⟨#[]⟩, 0, [⟨nTerm, k, 41⟩])
 else match (aScan s k).2.2 with
  | [] => ((aScan s k).1, (aScan s k).2.1, [])
  | l => (⟨#[]⟩, 0, overTm k l)
/-- A pid's or reference's numbers, each behind its point. -/
def numsAt (s : ByteArray) : Nat → Nat → List Int × Nat × List Lk
 | 0, k => ([], k, [])
 | n + 1, k =>
  if isAt s k 46 = false then ([], 0, [⟨nTerm, k, 41⟩])
  else match numAt s (k + 1) with
   | (v, e, []) => (match numsAt s n e with
    | (vs, e', []) => (v :: vs, e', [])
    | (_, _, l) => ([], 0, l))
   | (_, _, l) => ([], 0, l)
def farAt (s : ByteArray) (k : Nat) (kd : Int) (many : Nat) : Rd :=
 match atomAt s k with
 | (nm, e, []) =>
  if nodeOk nm = false then (zTm, 0, overTm k (nodeBad nm))
  else (match numsAt s (many + 1) e with
   | (vs, e2, []) => if isAt s e2 62 = false then rdNo e2 41 else (⟨kd, 0, nm, vs.headD 0, vs.tail, []⟩, e2 + 1, [])
   | (_, _, l) => (zTm, 0, l))
 | (_, _, l) => (zTm, 0, l)
def refMark : List Int := [35, 82, 101, 102, 60]
/-- How many signs of '#Ref<' stand here. -/
def markLen (s : ByteArray) (k : Nat) : Nat → Nat
 | 0 => 0
 | n + 1 => if isAt s (k + (5 - (n + 1))) (refMark.getD (5 - (n + 1)) 0) then markLen s k n + 1 else 0
/-- Terms with commas between; 'f' reads one. -/
def sevAt (f : Nat → Rd) (s : ByteArray) : Nat → Nat → List Tm → List Tm × Nat × List Lk
 | 0, _, _ => ([], 0, [])
 | m + 1, k, acc => match f k with
  | (t, e, []) => if isAt s (blk s e) 44 then sevAt f s m (blk s e + 1) (acc ++ [t]) else (acc ++ [t], blk s e, [])
  | (_, _, l) => ([], 0, l)
def tupleAt (f : Nat → Rd) (s : ByteArray) (k : Nat) : Rd :=
 if isAt s (blk s k) 125 then (⟨5, 0, ⟨#[]⟩, 0, [], []⟩, blk s k + 1, [])
 else match sevAt f s (s.size + 1) (blk s k) [] with
  | (l, e, []) => if isAt s e 125 then (⟨5, 0, ⟨#[]⟩, 0, [], l⟩, e + 1, []) else rdNo e 41
  | (_, _, l) => (zTm, 0, l)
def tmNil : Tm := ⟨6, 0, ⟨#[]⟩, 0, [], []⟩
def joinT (l : List Tm) (t : Tm) : Tm := ⟨7, 0, ⟨#[]⟩, 0, [], if t.kd = 7 then l ++ t.args else l ++ [t]⟩
/-- A list behind its elements 'l' and perhaps a tail 't'. -/
def listEnd (s : ByteArray) (l : List Tm) (t : Tm) (k : Nat) : Rd := if isAt s k 93 then (joinT l t, k + 1, []) else rdNo k 41
def listAt (f : Nat → Rd) (s : ByteArray) (k : Nat) : Rd :=
 if isAt s (blk s k) 93 then (tmNil, blk s k + 1, [])
 else match sevAt f s (s.size + 1) (blk s k) [] with
  | (l, e, []) => if isAt s e 124 then (match f (e + 1) with
    | (t, e2, []) => listEnd s l t (blk s e2)
    | (_, _, l) => (zTm, 0, l)) else listEnd s l tmNil e
  | (_, _, l) => (zTm, 0, l)
def begunAt (f : Nat → Rd) (s : ByteArray) (k : Nat) : Rd :=
 if s.size ≤ k then rdNo k 41
 else if isDigit (bt s (k : Int)) ∨ bt s (k : Int) = 45 then wholeAt s k
 else if bt s (k : Int) = 123 then tupleAt f s (k + 1)
 else if bt s (k : Int) = 91 then listAt f s (k + 1)
 else if bt s (k : Int) = 35 then (if markLen s k 5 = 5 then farAt s (k + 5) 3 3 else rdNo (k + markLen s k 5) 41)
 else if bt s (k : Int) = 60 then farAt s (k + 1) 4 2
 else match atomAt s k with
  | (a, e, []) => (⟨2, 0, a, 0, [], []⟩, e, [])
  | (_, _, l) => (zTm, 0, l)
/-- A term, so many more of which may be nested. -/
def rdT (s : ByteArray) : Nat → Nat → Rd
 | 0, k => rdNo (blk s k) 9
 | d + 1, k => begunAt (rdT s d) s (blk s k)
def rdEnd (s : ByteArray) (t : Tm) (k : Nat) : Tm × List Lk :=
 if k < s.size then (zTm, [⟨nTerm, k, 41⟩]) else if chk t = [] then (t, []) else (zTm, chk t)
/-- term.Read, heddleref02.Read. -/
def rdAll (s : ByteArray) : Tm × List Lk :=
 if 4194304 < s.size then (zTm, [⟨nTerm, 0, 4⟩])
 else match rdT s 256 0 with
  | (t, e, []) => rdEnd s t (blk s e)
  | (_, _, l) => (zTm, l)
end Go.Proofs.YtibbcfeaododhaaGreatDoor
namespace Go.Proofs.YtibbcfeaododhaaGreatDoor
open Go.RowKit Go.Proofs.YtibbcfeaododhaaGreatDoorW.PrintWords
abbrev tyTm : Nat := 27
abbrev tyU32 : Nat := 23
theorem infoTm : (Tryz.prog.info? 27).map (fun i => (i.zero, i.size, i.bytes)) = some (some (.agg #[(.int .i64 0), (.int .i64 0), (.string ⟨#[]⟩), (.int .u32 0), (.slice none 0 0), (.slice none 0 0)]), 6, 88) := by kernel_rfl
theorem infoU32 : (Tryz.prog.info? 23).map (fun i => (i.zero, i.size, i.bytes)) = some (some (.int .u32 0), 1, 4) := by kernel_rfl
def kTmF (d : Kd Tm) : Kd Tm := Kd.iso (Kd.pair (Kd.int .i64) (Kd.pair (Kd.int .i64) (Kd.pair Kd.string (Kd.pair (Kd.int .u32) (Kd.pair (Kd.slice tyU32 (Kd.int .u32)) (Kd.slice tyTm d)))))) (fun x : Tm => (x.kd, x.it, x.tx, x.cr, x.nums, x.args))
theorem kTm_mono : Kd.Mono kTmF := Kd.mono_iso _ (Kd.mono_pair (Kd.mono_const _) (Kd.mono_pair (Kd.mono_const _) (Kd.mono_pair (Kd.mono_const _) (Kd.mono_pair (Kd.mono_const _) (Kd.mono_pair (Kd.mono_const _) (Kd.mono_slice tyTm Kd.mono_id))))))
theorem kTm_sub : Kd.Sub kTmF [tyU32, tyTm] := Kd.sub_iso _ (Kd.sub_pair (Kd.sub_const _ (by decide)) (Kd.sub_pair (Kd.sub_const _ (by decide)) (Kd.sub_pair (Kd.sub_const _ (by decide)) (Kd.sub_pair (Kd.sub_const _ (by decide)) (Kd.sub_pair (Kd.sub_const _ (by decide)) (Kd.sub_slice tyTm (by decide) Kd.sub_id))))))
theorem kTm_sz : ∀ n, (Kd.upto kTmF 6 [tyU32, tyTm] n).sz = 6 := Kd.upto_sz (fun _ => rfl)
def kTm : Kd Tm := Kd.fix kTmF 6 [tyU32, tyTm] kTm_sz (Kd.upto_E kTm_sub)
abbrev kU : Kd Int := Kd.int .u32
theorem kTm_open {w : World} {x : Tm} {cs : List Value} (h : kTm.K w x cs) : ∃ A4 c4 A5 c5, cs = [.int .i64 x.kd, .int .i64 x.it, .string x.tx, .int .u32 x.cr, .slice A4 x.nums.length c4, .slice A5 x.args.length c5] ∧ x.nums.length ≤ c4 ∧ kU.C w A4 x.nums.length x.nums ∧ x.args.length ≤ c5 ∧ kTm.C w A5 x.args.length x.args := by
 obtain ⟨n, h⟩ := h
 cases n with
 | zero => exact h.elim
 | succ n =>
  obtain ⟨_, _, rfl, rfl, ⟨_, _, rfl, rfl, ⟨_, _, rfl, rfl, ⟨_, _, rfl, rfl, ⟨_, _, rfl, ⟨A4, c4, rfl, l4, g4⟩, ⟨A5, c5, rfl, l5, g5⟩⟩⟩⟩⟩⟩ := h
  exact ⟨A4, c4, A5, c5, rfl, l4, g4, l5, Kd.fix_C g5⟩
theorem kTm_mkM (w : World) (base : Nat) (ok : Nat → Prop) (x : Tm) {v4 : Value} (g4 : kU.R tyU32 w base ok v4 x.nums) {v5 : Value} (g5 : kTm.R tyTm w base ok v5 x.args) : kTm.M w base ok x [.int .i64 x.kd, .int .i64 x.it, .string x.tx, .int .u32 x.cr, v4, v5] := by
 obtain ⟨n5, q5⟩ := Kd.fix_R_back kTm_mono g5
 have r5 := Kd.upto_R_le kTm_mono kTm_sz (show n5 ≤ n5 by omega) q5
 exact ⟨n5 + 1, ⟨[.int .i64 x.kd], [.int .i64 x.it, .string x.tx, .int .u32 x.cr, v4, v5], rfl, rfl, ⟨[.int .i64 x.it], [.string x.tx, .int .u32 x.cr, v4, v5], rfl, rfl, ⟨[.string x.tx], [.int .u32 x.cr, v4, v5], rfl, rfl, ⟨[.int .u32 x.cr], [v4, v5], rfl, rfl, ⟨[v4], [v5], rfl, ⟨v4, rfl, g4⟩, ⟨v5, rfl, r5⟩⟩⟩⟩⟩⟩⟩
/-- A term as a value. -/
def tmV (t : Tm) (v4 v5 : Value) : Value := .agg #[.int .i64 t.kd, .int .i64 t.it, .string t.tx, .int .u32 t.cr, v4, v5]
/-- What stands behind a term's two slices. -/
structure TmR (W : World) (t : Tm) (A4 : Option Addr) (c4 : Nat) (A5 : Option Addr) (c5 : Nat) : Prop where
 l4 : t.nums.length ≤ c4
 g4 : kU.C W A4 t.nums.length t.nums
 l5 : t.args.length ≤ c5
 g5 : kTm.C W A5 t.args.length t.args
theorem TmR.below {W W' : World} {t : Tm} {A4 A5 : Option Addr} {c4 c5 : Nat} (h : TmR W t A4 c4 A5 c5) (hb : Below W.heap.size W W') : TmR W' t A4 c4 A5 c5 := ⟨h.l4, Kd.C_below h.g4 hb, h.l5, Kd.C_below h.g5 hb⟩
/-- The value 'v' reads as the term 't'. -/
def TmIs (W : World) (t : Tm) (v : Value) : Prop := ∃ A4 c4 A5 c5, v = tmV t (.slice A4 t.nums.length c4) (.slice A5 t.args.length c5) ∧ TmR W t A4 c4 A5 c5
theorem TmIs.below {W W' : World} {t : Tm} {v : Value} (h : TmIs W t v) (hb : Below W.heap.size W W') : TmIs W' t v := by
 obtain ⟨A4, c4, A5, c5, e, h⟩ := h
 exact ⟨A4, c4, A5, c5, e, h.below hb⟩
/-- A term that is made. -/
def TmMade (W : World) (base : Nat) (t : Tm) (v : Value) : Prop := ∃ v4 v5, v = tmV t v4 v5 ∧ kU.R tyU32 W base (fun _ => True) v4 t.nums ∧ kTm.R tyTm W base (fun _ => True) v5 t.args
theorem TmMade.is {W : World} {base : Nat} {t : Tm} {v : Value} (h : TmMade W base t v) : TmIs W t v := by
 obtain ⟨v4, v5, rfl, h4, h5⟩ := h
 obtain ⟨A4, c4, rfl, l4, g4⟩ := Kd.R_reads h4
 obtain ⟨A5, c5, rfl, l5, g5⟩ := Kd.R_reads h5
 exact ⟨A4, c4, A5, c5, rfl, l4, g4, l5, g5⟩
theorem TmMade.below {W W' : World} {base : Nat} {t : Tm} {v : Value} (h : TmMade W base t v) (hb : Below W.heap.size W W') : TmMade W' base t v := by
 obtain ⟨v4, v5, e, h4, h5⟩ := h
 exact ⟨v4, v5, e, Kd.R_below h4 hb, Kd.R_below h5 hb⟩
theorem TmMade.lower {W : World} {base base' : Nat} {t : Tm} {v : Value} (h : TmMade W base t v) (hb : base' ≤ base) : TmMade W base' t v := by
 obtain ⟨v4, v5, e, h4, h5⟩ := h
 exact ⟨v4, v5, e, Kd.R_lower h4 hb, Kd.R_lower h5 hb⟩
/-- A term without numbers and parts. -/
theorem TmMade.flat (W : World) (base : Nat) (kd it : Int) (tx : ByteArray) (cr : Int) : TmMade W base ⟨kd, it, tx, cr, [], []⟩ (.agg #[.int .i64 kd, .int .i64 it, .string tx, .int .u32 cr, .slice none 0 0, .slice none 0 0]) := ⟨_, _, rfl, Kd.R_nil _ _ _ _ _, Kd.R_nil _ _ _ _ _⟩
def vZero : Value := .agg #[.int .i64 0, .int .i64 0, .string ⟨#[]⟩, .int .u32 0, .slice none 0 0, .slice none 0 0]
theorem TmMade.zero (W : World) (base : Nat) : TmMade W base zTm vZero := TmMade.flat W base 0 0 ⟨#[]⟩ 0
/-- An element of a row of terms. -/
theorem atTm {w : World} {A : Option Addr} {n : Nat} {xs : List Tm} (h : Kd.C kTm w A n xs) (i : Int) (h0 : 0 ≤ i) (h1 : i < n) : ∃ ad A4 c4 A5 c5, A = some ad ∧ w.cell? (ad.add (i.toNat * 6)) = some (.int .i64 (rdTm xs i).kd) ∧ w.cell? ⟨(ad.add (i.toNat * 6)).block, (ad.add (i.toNat * 6)).off + 1, none⟩ = some (.int .i64 (rdTm xs i).it) ∧
  w.cell? ⟨(ad.add (i.toNat * 6)).block, (ad.add (i.toNat * 6)).off + 2, none⟩ = some (.string (rdTm xs i).tx) ∧ w.cell? ⟨(ad.add (i.toNat * 6)).block, (ad.add (i.toNat * 6)).off + 3, none⟩ = some (.int .u32 (rdTm xs i).cr) ∧ w.cell? ⟨(ad.add (i.toNat * 6)).block, (ad.add (i.toNat * 6)).off + 4, none⟩ = some (.slice A4 (rdTm xs i).nums.length c4) ∧
  w.cell? ⟨(ad.add (i.toNat * 6)).block, (ad.add (i.toNat * 6)).off + 5, none⟩ = some (.slice A5 (rdTm xs i).args.length c5) ∧ TmR w (rdTm xs i) A4 c4 A5 c5 := by
 obtain ⟨ad, c, e, _, hK, hc0⟩ := Kd.C_get h zTm i h0 h1
 have hc : ∀ j u, c[j]? = some u → w.cell? (ad.add (i.toNat * 6 + j)) = some u := hc0
 obtain ⟨A4, c4, A5, c5, rfl, l4, g4, l5, g5⟩ := kTm_open hK
 exact ⟨ad, A4, c4, A5, c5, e, hc 0 _ rfl, by rw [← add_field _ _ 1 (by omega)]; exact hc 1 _ rfl, by rw [← add_field _ _ 2 (by omega)]; exact hc 2 _ rfl, by rw [← add_field _ _ 3 (by omega)]; exact hc 3 _ rfl, by rw [← add_field _ _ 4 (by omega)]; exact hc 4 _ rfl, by rw [← add_field _ _ 5 (by omega)]; exact hc 5 _ rfl, ⟨l4, g4, l5, g5⟩⟩
/-- The six cells of a term, at an address. -/
structure TmCells (W : World) (b o : Nat) (t : Tm) (v4 v5 : Value) : Prop where
 c0 : W.cell? ⟨b, o, none⟩ = some (.int .i64 t.kd)
 c1 : W.cell? ⟨b, o + 1, none⟩ = some (.int .i64 t.it)
 c2 : W.cell? ⟨b, o + 2, none⟩ = some (.string t.tx)
 c3 : W.cell? ⟨b, o + 3, none⟩ = some (.int .u32 t.cr)
 c4 : W.cell? ⟨b, o + 4, none⟩ = some v4
 c5 : W.cell? ⟨b, o + 5, none⟩ = some v5
/-- A term in a block of its own, which may be written. -/
structure TmAt (W : World) (b : Nat) (t : Tm) (v4 v5 : Value) : Prop where
 c0 : W.cell? ⟨b, 0, none⟩ = some (.int .i64 t.kd)
 c1 : W.cell? ⟨b, 1, none⟩ = some (.int .i64 t.it)
 c2 : W.cell? ⟨b, 2, none⟩ = some (.string t.tx)
 c3 : W.cell? ⟨b, 3, none⟩ = some (.int .u32 t.cr)
 c4 : W.cell? ⟨b, 4, none⟩ = some v4
 c5 : W.cell? ⟨b, 5, none⟩ = some v5
 f0 : W.frozen? ⟨b, 0, none⟩ = false
 f1 : W.frozen? ⟨b, 1, none⟩ = false
 f2 : W.frozen? ⟨b, 2, none⟩ = false
 f3 : W.frozen? ⟨b, 3, none⟩ = false
 f4 : W.frozen? ⟨b, 4, none⟩ = false
 f5 : W.frozen? ⟨b, 5, none⟩ = false
theorem TmAt.lt {W : World} {b : Nat} {t : Tm} {v4 v5 : Value} (h : TmAt W b t v4 v5) : b < W.heap.size := World.block_lt_of_cell? W _ h.c0
theorem TmAt.below {W W' : World} {b n : Nat} {t : Tm} {v4 v5 : Value} (h : TmAt W b t v4 v5) (hb : Below n W W') (hn : b < n) : TmAt W' b t v4 v5 :=
 ⟨(hb.cell hn).trans h.c0, (hb.cell hn).trans h.c1, (hb.cell hn).trans h.c2, (hb.cell hn).trans h.c3, (hb.cell hn).trans h.c4, (hb.cell hn).trans h.c5,
  (hb.frozen hn).trans h.f0, (hb.frozen hn).trans h.f1, (hb.frozen hn).trans h.f2, (hb.frozen hn).trans h.f3, (hb.frozen hn).trans h.f4, (hb.frozen hn).trans h.f5⟩
theorem TmAt.new (w : World) (t : Tm) (v4 v5 : Value) : TmAt (w.alloc (.cells #[.int .i64 t.kd, .int .i64 t.it, .string t.tx, .int .u32 t.cr, v4, v5] 27)) w.heap.size t v4 v5 := by
 constructor <;> simp
/-! ### names, chains -/
/-- The number of a chain's outermost link. -/
def headCo : List Lk → Int
 | [] => 0
 | x :: _ => x.co
end Go.Proofs.YtibbcfeaododhaaGreatDoor
namespace Go.Proofs.YtibbcfeaododhaaGreatDoor
open Go.RowKit Go.Proofs.YtibbcfeaododhaaGreatDoorW.PrintWords
theorem term_fault (at_ code : Int) (u : Value) (w : World) (l : List Lk) (h : ErrIs w l u) :
  Calls Tryz.prog 24 #[.int .i64 at_, .int .i64 code, u] w (ErrPost w (⟨nTerm, at_, code⟩ :: l)) := by
 have H : Hid (ErrPost w (⟨nTerm, at_, code⟩ :: l) (.returned (.iface 92 (.pointer (some ⟨w.heap.size, 0, none⟩)))) (w.alloc (.cells #[.string ⟨#[116, 101, 114, 109]⟩, .int .i64 at_, .int .i64 code, u] 94))) :=
  Lib.hid ⟨_, rfl, errOf_new w ⟨nTerm, at_, code⟩ l u h, below_alloc (Below.refl _ _) _⟩
 have hs := h.shape
 clear h
 rcases hs with rfl | ⟨b, rfl⟩
 ·go_enter Tryz.func24, Tryz.ntmps24
  go_wp2_with fail
  go_ret
  exact H.out
 ·go_enter Tryz.func24, Tryz.ntmps24
  go_wp2_with fail
  go_ret
  exact H.out
theorem term_code (l : List Lk) (v : Value) (w : World) (h : ErrIs w l v) (hG : Glob w) :
  Calls Tryz.prog 102 #[v] w fun e w' => e = .returned (.int .i64 (headCo l)) ∧ Below w.heap.size w w' := by
 cases l with
 | nil =>
  obtain rfl : v = .nilIface := h
  clear hG
  go_enter Tryz.func102, Tryz.ntmps102
  go_wp2_with fail
  refine (as_nil _ _).mono ?_
  rintro e w1 ⟨rfl, rfl⟩
  go_wp2_with fail
  go_ret
  exact ⟨rfl, below_alloc (Below.refl _ _) _⟩
 | cons x r =>
  obtain ⟨b, u, rfl, h0, h1, h2, h3, h4⟩ := h
  have hlt := World.block_lt_of_cell? w _ h2
  simp only at hlt
  have HC := Lib.hid h2
  have HA := Lib.hid (as_in ⟨b, 0, none⟩ w.heap.size (.pointer none) (w.alloc (.cells #[.pointer none] 92)) (hG.below (below_alloc (Below.refl _ _) _)) (by simp) (by simp))
  clear h0 h1 h2 h3 h4 hG
  go_enter Tryz.func102, Tryz.ntmps102
  go_wp2_with fail
  refine HA.out.mono ?_
  rintro e w1 ⟨rfl, hp, hB, _⟩
  have HB : Hid (Below w.heap.size w w1) := Lib.hid ((below_alloc (Below.refl _ _) _).trans hB)
  have hc := (HB.out.cell hlt).trans HC.out
  clear hB
  go_wp2_with fail
  go_ret
  exact ⟨rfl, HB.out⟩
/-! ### comparisons -/
theorem cmp_kind (a b : Int) (w : World) : Calls Tryz.prog 67 #[.int .i64 a, .int .i64 b] w fun e w' => e = .returned (.int .i64 (cmpI a b)) ∧ w = w' := by
 unfold cmpI
 go_enter Tryz.func67, Tryz.ntmps67
 go_wp2
 all_goals go_ret
 all_goals refine ⟨ei ?_, rfl⟩
 all_goals (repeat' split) <;> first | rfl | (exfalso; simp_all; omega)
theorem cmp_i64 (a b : Int) (w : World) : Calls Tryz.prog 68 #[.int .i64 a, .int .i64 b] w fun e w' => e = .returned (.int .i64 (cmpI a b)) ∧ w = w' := by
 unfold cmpI
 go_enter Tryz.func68, Tryz.ntmps68
 go_wp2
 all_goals go_ret
 all_goals refine ⟨ei ?_, rfl⟩
 all_goals (repeat' split) <;> first | rfl | (exfalso; simp_all; omega)
theorem cmp_int (a b : Int) (w : World) : Calls Tryz.prog 73 #[.int .i64 a, .int .i64 b] w fun e w' => e = .returned (.int .i64 (cmpI a b)) ∧ w = w' := by
 unfold cmpI
 go_enter Tryz.func73, Tryz.ntmps73
 go_wp2
 all_goals go_ret
 all_goals refine ⟨ei ?_, rfl⟩
 all_goals (repeat' split) <;> first | rfl | (exfalso; simp_all; omega)
theorem cmp_u32 (a b : Int) (w : World) : Calls Tryz.prog 71 #[.int .u32 a, .int .u32 b] w fun e w' => e = .returned (.int .i64 (cmpI a b)) ∧ w = w' := by
 unfold cmpI
 go_enter Tryz.func71, Tryz.ntmps71
 go_wp2
 all_goals go_ret
 all_goals refine ⟨ei ?_, rfl⟩
 all_goals (repeat' split) <;> first | rfl | (exfalso; simp_all; omega)
end Go.Proofs.YtibbcfeaododhaaGreatDoor
namespace Go.Proofs.YtibbcfeaododhaaGreatDoor
open Go.RowKit Go.Proofs.YtibbcfeaododhaaGreatDoorW.PrintWords
/-! ### heddleref01.Node: plain -/
/-- The place of the last '@' and whether all is good. -/
def ndRun : List Int → Int → Int → Bool → Int × Bool
 | [], _, a, g => (a, g)
 | c :: l, i, a, g => if c = 64 then ndRun l (i + 1) i (g && decide (a < 0)) else ndRun l (i + 1) a (g && (isIn c || c == 45 || (c == 46 && decide (a ≥ 0))))
theorem nd_false : ∀ (l : List Int) (i a : Int), (ndRun l i a false).2 = false
 | [], _, _ => rfl
 | c :: l, i, a => by
  rw [ndRun]
  split
  ·rw [Bool.false_and]
   exact nd_false l _ _
  ·rw [Bool.false_and]
   exact nd_false l _ _
theorem nd_two : ∀ (l : List Int) (i a : Int), 0 ≤ a → ((ndRun l i a true).2 = l.all (fun c => inHost c && c != 64)) ∧ ((ndRun l i a true).2 = true → (ndRun l i a true).1 = a)
 | [], _, _, _ => ⟨rfl, fun _ => rfl⟩
 | c :: l, i, a, ha => by
  rw [ndRun, List.all_cons]
  by_cases c64 : c = 64
  ·rw [if_pos c64, decide_eq_false (by omega), Bool.and_false, nd_false]
   subst c64
   exact ⟨by simp, fun h => by cases h⟩
  ·rw [if_neg c64, decide_eq_true ha, Bool.true_and, Bool.and_true]
   have hb : (c != 64) = true := bne_iff_ne.2 c64
   rw [hb, Bool.and_true]
   cases hh : (isIn c || c == 45 || c == 46) with
   | true =>
    have := nd_two l (i + 1) a ha
    unfold inHost
    rw [hh, Bool.true_and]
    exact this
   | false =>
    unfold inHost
    rw [hh, nd_false, Bool.false_and]
    exact ⟨rfl, fun h => by cases h⟩
theorem nd_one : ∀ (l : List Int) (i : Int), 0 ≤ i → ((ndRun l i (-1) true).2 = true ∧ nodeLen l < l.length ↔ nodeLen l < l.length ∧ (l.take (nodeLen l)).all inName = true ∧ (l.drop (nodeLen l + 1)).all (fun c => inHost c && c != 64) = true) ∧
  ((ndRun l i (-1) true).2 = true → (ndRun l i (-1) true).1 = if nodeLen l < l.length then i + nodeLen l else -1)
 | [], _, _ => ⟨by simp [nodeLen, tw], fun _ => by simp [nodeLen, tw, ndRun]⟩
 | c :: l, i, hi => by
  rw [ndRun]
  by_cases c64 : c = 64
  ·have e : nodeLen (c :: l) = 0 := tw_no (by simp [c64])
   rw [if_pos c64, decide_eq_true (by decide), Bool.true_and, e]
   obtain ⟨h1, h2⟩ := nd_two l (i + 1) i hi
   rw [h1] at h2 ⊢
   refine ⟨by simp, fun h => ?_⟩
   rw [h2 h, if_pos (by simp)]
   simp
  ·have e : nodeLen (c :: l) = nodeLen l + 1 := tw_yes (by simp [c64])
   rw [if_neg c64, decide_eq_false (by decide), Bool.and_false, Bool.or_false, Bool.true_and, e]
   have hl : (c :: l).length = l.length + 1 := rfl
   rw [hl, List.take_succ_cons, List.drop_succ_cons, List.all_cons]
   have hlt : nodeLen l + 1 < l.length + 1 ↔ nodeLen l < l.length := by omega
   obtain ⟨h1, h2⟩ := nd_one l (i + 1) (by omega)
   cases hh : (isIn c || c == 45) with
   | true =>
    have hin : inName c = true := hh
    rw [hin, Bool.true_and]
    refine ⟨by rw [hlt]; exact h1, fun h => ?_⟩
    rw [h2 h]
    by_cases h3 : nodeLen l < l.length
    ·rw [if_pos h3, if_pos (by omega)]
     omega
    ·rw [if_neg h3, if_neg (by omega)]
   | false =>
    have hin : inName c = false := hh
    rw [hin, nd_false, Bool.false_and]
    exact ⟨by simp, fun h => by cases h⟩
def lenOk (s : ByteArray) : Bool := decide ((s.size : Int) ≥ 3) && decide ((s.size : Int) ≤ 64)
theorem nd_ok (s : ByteArray) : nodeOk s = ((ndRun (bs s) 0 (-1) (lenOk s)).2 && !decide ((ndRun (bs s) 0 (-1) (lenOk s)).1 < 1) && !((ndRun (bs s) 0 (-1) (lenOk s)).1 == (s.size : Int) - 1)) := by
 have hsz := bs_len s
 rw [Bool.eq_iff_iff]
 have hlen : lenOk s = true ↔ 3 ≤ s.size ∧ s.size ≤ 64 := by unfold lenOk; simp; omega
 unfold nodeOk nodeOkL
 rw [hsz]
 simp only [Bool.and_eq_true, decide_eq_true_eq, Bool.not_eq_true', decide_eq_false_iff_not, beq_eq_false_iff_ne]
 have hall : ∀ l : List Int, l.contains 64 = false ∧ l.all inHost = true ↔ l.all (fun c => inHost c && c != 64) = true := by
  intro l
  rw [List.contains_eq_any_beq, List.any_eq_false, List.all_eq_true, List.all_eq_true]
  constructor
  ·rintro ⟨h1, h2⟩ x hx
   rw [h2 x hx, Bool.true_and, bne_iff_ne]
   rintro rfl
   exact h1 _ hx (by simp)
  ·intro h
   refine ⟨fun x hx hh => ?_, fun x hx => ?_⟩
   ·have := h x hx
    simp only [Bool.and_eq_true, bne_iff_ne] at this
    exact this.2 (by simpa using (beq_iff_eq.1 hh).symm)
   ·have := h x hx
    simp only [Bool.and_eq_true] at this
    exact this.1
 cases hl : lenOk s with
 | false =>
  rw [nd_false]
  have hn : ¬ (3 ≤ s.size ∧ s.size ≤ 64) := fun h => by rw [hlen.2 h] at hl; cases hl
  constructor
  ·intro h
   exfalso
   omega
  ·intro h
   cases h.1.1
 | true =>
  obtain ⟨h3, h64⟩ := hlen.1 hl
  obtain ⟨h1, h2⟩ := nd_one (bs s) 0 (by omega)
  rw [hsz] at h1 h2
  constructor
  ·rintro ⟨⟨⟨⟨⟨⟨a1, a2⟩, a3⟩, a4⟩, a5⟩, a6⟩, a7⟩
   have hg := (h1.2 ⟨a1, a6, (hall _).1 ⟨a5, a7⟩⟩).1
   have hp := h2 hg
   rw [if_pos a1] at hp
   exact ⟨⟨hg, by omega⟩, by omega⟩
  ·rintro ⟨⟨hg, hp1⟩, hp2⟩
   have hp := h2 hg
   by_cases a1 : nodeLen (bs s) < s.size
   ·rw [if_pos a1] at hp
    obtain ⟨_, a6, a7⟩ := h1.1 ⟨hg, a1⟩
    obtain ⟨a5, a8⟩ := (hall _).2 a7
    exact ⟨⟨⟨⟨⟨⟨a1, by omega⟩, by omega⟩, h64⟩, a5⟩, a6⟩, a8⟩
   ·rw [if_neg a1] at hp
    omega
/-! ### heddleref01.Node: walked -/
def NodeR (w : World) (l : List Lk) (e : Ending) (w' : World) : Prop := ∃ (r1 r2 : ByteArray) (v : Value), e = .returned (.tuple #[.string r1, .string r2, v]) ∧ LnIs w' w.heap.size l v ∧ Below w.heap.size w w'
set_option maxRecDepth 100000 in
set_option maxHeartbeats 8000000 in
theorem ref01_Node (s : ByteArray) (hm : s.size ≤ 140737488351232) (w : World) :
  Calls Tryz.prog 96 #[.string s] w (NodeR w (nodeBad s)) := by
 have HNO := Lib.hid (nd_ok s)
 obtain ⟨R, hR⟩ : ∃ R, R = ndRun (bs s) 0 (-1) (lenOk s) := ⟨_, rfl⟩
 rw [← hR] at HNO
 have HR0 : Hid (ndRun ((bs s).drop 0) ((0 : Nat) : Int) (-1) (lenOk s) = R) := Lib.hid hR.symm
 clear hR
 by_cases h3 : (s.size : Int) ≥ 3
 ·have d3 : decide ((s.size : Int) ≥ 3) = true := decide_eq_true h3
  by_cases h64 : (s.size : Int) ≤ 64
  ·have d64 : decide ((s.size : Int) ≤ 64) = true := decide_eq_true h64
   have hl : lenOk s = true := by unfold lenOk; rw [d3, d64]; rfl
   rw [hl] at HR0
   clear hl
   go_enter Tryz.func96, Tryz.ntmps96
   go_wp2_with fail
   go_loopg [5, 6, 7] s.size (fun gk va vg vi wl => ∃ (k : Nat) (a : Int) (g : Bool), va = .int .i64 a ∧ vg = .bool g ∧ vi = .int .i64 (k : Int) ∧ gk = s.size - k ∧ k ≤ s.size ∧ -1 ≤ a ∧ a < k ∧ Hid (ndRun ((bs s).drop k) (k : Int) a g = R) ∧ wl = w)
   case atStart => exact ⟨0, -1, true, rfl, rfl, rfl, rfl, Nat.zero_le _, by omega, by omega, HR0, rfl⟩
   case round =>
    clear HR0
    obtain ⟨k, a, g, rfl, rfl, rfl, hgk, hk, ha0, ha1, HN, rfl⟩ := hrel
    have HK := Lib.hid hgk
    clear hgk
    by_cases hlt : k < s.size
    ·have hx0 : (0 : Int) ≤ (k : Int) := by omega
     have hx1 : (k : Int) < (s.size : Int) := by omega
     have hbk := btk s k
     have hr := bt_range s (k : Int)
     have hn := HN.out
     clear HN
     rw [bs_drop s k hlt] at hn
     simp only [ndRun] at hn
     generalize bt s (k : Int) = c at hbk hr hn
     have HI := Lib.hid (ref01_InWord c)
     by_cases c64 : c = 64
     ·rw [if_pos c64] at hn
      have d1 : (c == 64) = true := beq_iff_eq.2 c64
      have HN : Hid (ndRun ((bs s).drop (k + 1)) ((k + 1 : Nat) : Int) k (g && decide (a < 0)) = R) := Lib.hid hn
      clear hn c64
      cases g with
      | true =>
       rw [Bool.true_and] at HN
       by_cases hneg : a < 0
       ·rw [decide_eq_true hneg] at HN
        have d2 : decide (a < 0) = true := decide_eq_true hneg
        go_wp2_with fail
        go_roundg (s.size - (k + 1))
        case measure => rw [HK.out]; omega
        case rel => exact ⟨k + 1, k, true, rfl, rfl, by go_num, rfl, by omega, by omega, by omega, Lib.hid HN.out, rfl⟩
       ·rw [decide_eq_false hneg] at HN
        have d2 : decide (a < 0) = false := decide_eq_false hneg
        go_wp2_with fail
        go_roundg (s.size - (k + 1))
        case measure => rw [HK.out]; omega
        case rel => exact ⟨k + 1, k, false, rfl, rfl, by go_num, rfl, by omega, by omega, by omega, Lib.hid HN.out, rfl⟩
      | false =>
       rw [Bool.false_and] at HN
       go_wp2_with fail
       go_roundg (s.size - (k + 1))
       case measure => rw [HK.out]; omega
       case rel => exact ⟨k + 1, k, false, rfl, rfl, by go_num, rfl, by omega, by omega, by omega, Lib.hid HN.out, rfl⟩
     ·rw [if_neg c64] at hn
      have d1 : (c == 64) = false := beq_eq_false_iff_ne.2 c64
      have HN : Hid (ndRun ((bs s).drop (k + 1)) ((k + 1 : Nat) : Int) a (g && (isIn c || c == 45 || (c == 46 && decide (a ≥ 0)))) = R) := Lib.hid hn
      clear hn c64
      cases g with
      | false =>
       rw [Bool.false_and] at HN
       go_wp2_with fail
       go_roundg (s.size - (k + 1))
       case measure => rw [HK.out]; omega
       case rel => exact ⟨k + 1, a, false, rfl, rfl, by go_num, rfl, by omega, by omega, by omega, Lib.hid HN.out, rfl⟩
      | true =>
       rw [Bool.true_and] at HN
       cases hin : isIn c with
       | true =>
        rw [hin, Bool.true_or, Bool.true_or] at HN
        rw [hin] at HI
        clear hin
        go_wp2_with fail
        refine (HI.out _).mono ?_
        rintro e w' ⟨rfl, rfl⟩
        go_wp2_with fail
        go_roundg (s.size - (k + 1))
        case measure => rw [HK.out]; omega
        case rel => exact ⟨k + 1, a, true, rfl, rfl, by go_num, rfl, by omega, by omega, by omega, Lib.hid HN.out, rfl⟩
       | false =>
        rw [hin, Bool.false_or] at HN
        rw [hin] at HI
        clear hin
        by_cases c45 : c = 45
        ·have d2 : (c == 45) = true := beq_iff_eq.2 c45
         rw [d2, Bool.true_or] at HN
         clear c45
         go_wp2_with fail
         refine (HI.out _).mono ?_
         rintro e w' ⟨rfl, rfl⟩
         go_wp2_with fail
         go_roundg (s.size - (k + 1))
         case measure => rw [HK.out]; omega
         case rel => exact ⟨k + 1, a, true, rfl, rfl, by go_num, rfl, by omega, by omega, by omega, Lib.hid HN.out, rfl⟩
        ·have d2 : (c == 45) = false := beq_eq_false_iff_ne.2 c45
         rw [d2, Bool.false_or] at HN
         clear c45
         by_cases c46 : c = 46
         ·have d3 : (c == 46) = true := beq_iff_eq.2 c46
          rw [d3, Bool.true_and] at HN
          clear c46
          by_cases hge : a ≥ 0
          ·have d4 : decide (a ≥ 0) = true := decide_eq_true hge
           rw [d4] at HN
           go_wp2_with fail
           refine (HI.out _).mono ?_
           rintro e w' ⟨rfl, rfl⟩
           go_wp2_with fail
           go_roundg (s.size - (k + 1))
           case measure => rw [HK.out]; omega
           case rel => exact ⟨k + 1, a, true, rfl, rfl, by go_num, rfl, by omega, by omega, by omega, Lib.hid HN.out, rfl⟩
          ·have d4 : decide (a ≥ 0) = false := decide_eq_false hge
           rw [d4] at HN
           go_wp2_with fail
           refine (HI.out _).mono ?_
           rintro e w' ⟨rfl, rfl⟩
           go_wp2_with fail
           go_roundg (s.size - (k + 1))
           case measure => rw [HK.out]; omega
           case rel => exact ⟨k + 1, a, false, rfl, rfl, by go_num, rfl, by omega, by omega, by omega, Lib.hid HN.out, rfl⟩
         ·have d3 : (c == 46) = false := beq_eq_false_iff_ne.2 c46
          rw [d3, Bool.false_and] at HN
          clear c46
          go_wp2_with fail
          refine (HI.out _).mono ?_
          rintro e w' ⟨rfl, rfl⟩
          go_wp2_with fail
          go_roundg (s.size - (k + 1))
          case measure => rw [HK.out]; omega
          case rel => exact ⟨k + 1, a, false, rfl, rfl, by go_num, rfl, by omega, by omega, by omega, Lib.hid HN.out, rfl⟩
    ·have hks : k = s.size := by omega
     have hn := HN.out
     rw [bs_end s k (by omega)] at hn
     have hn : (a, g) = R := hn
     rw [← hn] at HNO
     clear hn HN
     have hno := HNO.out
     simp only at hno
     have d0 : decide ((k : Int) < (s.size : Int)) = false := decide_eq_false (by omega)
     cases hok : nodeOk s with
     | true =>
      rw [hok] at hno
      have HB : Hid (nodeBad s = []) := Lib.hid (by unfold nodeBad; rw [hok]; rfl)
      have hg : g = true ∧ ¬ a < 1 ∧ ¬ a = (s.size : Int) - 1 := by
       simpa [Bool.and_assoc] using hno.symm
      obtain ⟨rfl, h1, h2⟩ := hg
      have d1 : decide (a < 1) = false := decide_eq_false h1
      have d2 : (a == (s.size : Int) - 1) = false := beq_eq_false_iff_ne.2 h2
      have y0 : (0 : Int) ≤ a := by omega
      have y1 : a ≤ (s.size : Int) := by omega
      have y2 : (0 : Int) ≤ a + 1 := by omega
      have y3 : a + 1 ≤ (s.size : Int) := by omega
      clear hno h1 h2 hok HNO hks
      go_wp2_with fail
      go_quiet (fail)
      go_wp2_with fail
      go_ret3
      exact ⟨_, _, _, rfl, by rw [HB.out]; exact LnIs.nil _ _, by repeat (first | exact Below.refl _ _ | apply pw_below_drewN)⟩
     | false =>
      rw [hok] at hno
      have HB : Hid (nodeBad s = [⟨nAtom, 0, 24⟩]) := Lib.hid (by unfold nodeBad; rw [hok]; rfl)
      have hcase : g = false ∨ (g = true ∧ a < 1) ∨ (g = true ∧ ¬ a < 1 ∧ a = (s.size : Int) - 1) := by
       cases g with
       | false => exact .inl rfl
       | true =>
        by_cases h1 : a < 1
        ·exact .inr (.inl ⟨rfl, h1⟩)
        ·refine .inr (.inr ⟨rfl, h1, ?_⟩)
         by_cases h2 : a = (s.size : Int) - 1
         ·exact h2
         ·rw [decide_eq_false h1, beq_eq_false_iff_ne.2 h2] at hno
          cases hno
      clear hno hok HNO hks
      rcases hcase with rfl | ⟨rfl, h1⟩ | ⟨rfl, h1, h2⟩
      ·go_wp2_with fail
       refine (ref01_no _ _ _).mono ?_
       rintro e w1 ⟨v1, rfl, hL, hB⟩
       have HL := Lib.hid hL
       have HB1 := Lib.hid hB
       clear hL hB
       go_wp2_with fail
       go_ret3
       exact ⟨_, _, _, rfl, by rw [HB.out]; exact HL.out, HB1.out⟩
      ·have d1 : decide (a < 1) = true := decide_eq_true h1
       go_wp2_with fail
       refine (ref01_no _ _ _).mono ?_
       rintro e w1 ⟨v1, rfl, hL, hB⟩
       have HL := Lib.hid hL
       have HB1 := Lib.hid hB
       clear hL hB
       go_wp2_with fail
       go_ret3
       exact ⟨_, _, _, rfl, by rw [HB.out]; exact HL.out, HB1.out⟩
      ·have d1 : decide (a < 1) = false := decide_eq_false h1
       have d2 : (a == (s.size : Int) - 1) = true := beq_iff_eq.2 h2
       clear h2
       go_wp2_with fail
       refine (ref01_no _ _ _).mono ?_
       rintro e w1 ⟨v1, rfl, hL, hB⟩
       have HL := Lib.hid hL
       have HB1 := Lib.hid hB
       clear hL hB
       go_wp2_with fail
       go_ret3
       exact ⟨_, _, _, rfl, by rw [HB.out]; exact HL.out, HB1.out⟩
  ·have d64 : decide ((s.size : Int) ≤ 64) = false := decide_eq_false h64
   have hl : lenOk s = false := by unfold lenOk; rw [d3, d64]; rfl
   rw [hl] at HR0
   clear hl
   go_enter Tryz.func96, Tryz.ntmps96
   go_wp2_with fail
   go_loopg [5, 6, 7] s.size (fun gk va vg vi wl => ∃ (k : Nat) (a : Int) (g : Bool), va = .int .i64 a ∧ vg = .bool g ∧ vi = .int .i64 (k : Int) ∧ gk = s.size - k ∧ k ≤ s.size ∧ -1 ≤ a ∧ a < k ∧ Hid (ndRun ((bs s).drop k) (k : Int) a g = R) ∧ wl = w)
   case atStart => exact ⟨0, -1, false, rfl, rfl, rfl, rfl, Nat.zero_le _, by omega, by omega, HR0, rfl⟩
   case round =>
    clear HR0
    obtain ⟨k, a, g, rfl, rfl, rfl, hgk, hk, ha0, ha1, HN, rfl⟩ := hrel
    have HK := Lib.hid hgk
    clear hgk
    by_cases hlt : k < s.size
    ·have hx0 : (0 : Int) ≤ (k : Int) := by omega
     have hx1 : (k : Int) < (s.size : Int) := by omega
     have hbk := btk s k
     have hr := bt_range s (k : Int)
     have hn := HN.out
     clear HN
     rw [bs_drop s k hlt] at hn
     simp only [ndRun] at hn
     generalize bt s (k : Int) = c at hbk hr hn
     have HI := Lib.hid (ref01_InWord c)
     by_cases c64 : c = 64
     ·rw [if_pos c64] at hn
      have d1 : (c == 64) = true := beq_iff_eq.2 c64
      have HN : Hid (ndRun ((bs s).drop (k + 1)) ((k + 1 : Nat) : Int) k (g && decide (a < 0)) = R) := Lib.hid hn
      clear hn c64
      cases g with
      | true =>
       rw [Bool.true_and] at HN
       by_cases hneg : a < 0
       ·rw [decide_eq_true hneg] at HN
        have d2 : decide (a < 0) = true := decide_eq_true hneg
        go_wp2_with fail
        go_roundg (s.size - (k + 1))
        case measure => rw [HK.out]; omega
        case rel => exact ⟨k + 1, k, true, rfl, rfl, by go_num, rfl, by omega, by omega, by omega, Lib.hid HN.out, rfl⟩
       ·rw [decide_eq_false hneg] at HN
        have d2 : decide (a < 0) = false := decide_eq_false hneg
        go_wp2_with fail
        go_roundg (s.size - (k + 1))
        case measure => rw [HK.out]; omega
        case rel => exact ⟨k + 1, k, false, rfl, rfl, by go_num, rfl, by omega, by omega, by omega, Lib.hid HN.out, rfl⟩
      | false =>
       rw [Bool.false_and] at HN
       go_wp2_with fail
       go_roundg (s.size - (k + 1))
       case measure => rw [HK.out]; omega
       case rel => exact ⟨k + 1, k, false, rfl, rfl, by go_num, rfl, by omega, by omega, by omega, Lib.hid HN.out, rfl⟩
     ·rw [if_neg c64] at hn
      have d1 : (c == 64) = false := beq_eq_false_iff_ne.2 c64
      have HN : Hid (ndRun ((bs s).drop (k + 1)) ((k + 1 : Nat) : Int) a (g && (isIn c || c == 45 || (c == 46 && decide (a ≥ 0)))) = R) := Lib.hid hn
      clear hn c64
      cases g with
      | false =>
       rw [Bool.false_and] at HN
       go_wp2_with fail
       go_roundg (s.size - (k + 1))
       case measure => rw [HK.out]; omega
       case rel => exact ⟨k + 1, a, false, rfl, rfl, by go_num, rfl, by omega, by omega, by omega, Lib.hid HN.out, rfl⟩
      | true =>
       rw [Bool.true_and] at HN
       cases hin : isIn c with
       | true =>
        rw [hin, Bool.true_or, Bool.true_or] at HN
        rw [hin] at HI
        clear hin
        go_wp2_with fail
        refine (HI.out _).mono ?_
        rintro e w' ⟨rfl, rfl⟩
        go_wp2_with fail
        go_roundg (s.size - (k + 1))
        case measure => rw [HK.out]; omega
        case rel => exact ⟨k + 1, a, true, rfl, rfl, by go_num, rfl, by omega, by omega, by omega, Lib.hid HN.out, rfl⟩
       | false =>
        rw [hin, Bool.false_or] at HN
        rw [hin] at HI
        clear hin
        by_cases c45 : c = 45
        ·have d2 : (c == 45) = true := beq_iff_eq.2 c45
         rw [d2, Bool.true_or] at HN
         clear c45
         go_wp2_with fail
         refine (HI.out _).mono ?_
         rintro e w' ⟨rfl, rfl⟩
         go_wp2_with fail
         go_roundg (s.size - (k + 1))
         case measure => rw [HK.out]; omega
         case rel => exact ⟨k + 1, a, true, rfl, rfl, by go_num, rfl, by omega, by omega, by omega, Lib.hid HN.out, rfl⟩
        ·have d2 : (c == 45) = false := beq_eq_false_iff_ne.2 c45
         rw [d2, Bool.false_or] at HN
         clear c45
         by_cases c46 : c = 46
         ·have d3 : (c == 46) = true := beq_iff_eq.2 c46
          rw [d3, Bool.true_and] at HN
          clear c46
          by_cases hge : a ≥ 0
          ·have d4 : decide (a ≥ 0) = true := decide_eq_true hge
           rw [d4] at HN
           go_wp2_with fail
           refine (HI.out _).mono ?_
           rintro e w' ⟨rfl, rfl⟩
           go_wp2_with fail
           go_roundg (s.size - (k + 1))
           case measure => rw [HK.out]; omega
           case rel => exact ⟨k + 1, a, true, rfl, rfl, by go_num, rfl, by omega, by omega, by omega, Lib.hid HN.out, rfl⟩
          ·have d4 : decide (a ≥ 0) = false := decide_eq_false hge
           rw [d4] at HN
           go_wp2_with fail
           refine (HI.out _).mono ?_
           rintro e w' ⟨rfl, rfl⟩
           go_wp2_with fail
           go_roundg (s.size - (k + 1))
           case measure => rw [HK.out]; omega
           case rel => exact ⟨k + 1, a, false, rfl, rfl, by go_num, rfl, by omega, by omega, by omega, Lib.hid HN.out, rfl⟩
         ·have d3 : (c == 46) = false := beq_eq_false_iff_ne.2 c46
          rw [d3, Bool.false_and] at HN
          clear c46
          go_wp2_with fail
          refine (HI.out _).mono ?_
          rintro e w' ⟨rfl, rfl⟩
          go_wp2_with fail
          go_roundg (s.size - (k + 1))
          case measure => rw [HK.out]; omega
          case rel => exact ⟨k + 1, a, false, rfl, rfl, by go_num, rfl, by omega, by omega, by omega, Lib.hid HN.out, rfl⟩
    ·have hks : k = s.size := by omega
     have hn := HN.out
     rw [bs_end s k (by omega)] at hn
     have hn : (a, g) = R := hn
     rw [← hn] at HNO
     clear hn HN
     have hno := HNO.out
     simp only at hno
     have d0 : decide ((k : Int) < (s.size : Int)) = false := decide_eq_false (by omega)
     cases hok : nodeOk s with
     | true =>
      rw [hok] at hno
      have HB : Hid (nodeBad s = []) := Lib.hid (by unfold nodeBad; rw [hok]; rfl)
      have hg : g = true ∧ ¬ a < 1 ∧ ¬ a = (s.size : Int) - 1 := by
       simpa [Bool.and_assoc] using hno.symm
      obtain ⟨rfl, h1, h2⟩ := hg
      have d1 : decide (a < 1) = false := decide_eq_false h1
      have d2 : (a == (s.size : Int) - 1) = false := beq_eq_false_iff_ne.2 h2
      have y0 : (0 : Int) ≤ a := by omega
      have y1 : a ≤ (s.size : Int) := by omega
      have y2 : (0 : Int) ≤ a + 1 := by omega
      have y3 : a + 1 ≤ (s.size : Int) := by omega
      clear hno h1 h2 hok HNO hks
      go_wp2_with fail
      go_quiet (fail)
      go_wp2_with fail
      go_ret3
      exact ⟨_, _, _, rfl, by rw [HB.out]; exact LnIs.nil _ _, by repeat (first | exact Below.refl _ _ | apply pw_below_drewN)⟩
     | false =>
      rw [hok] at hno
      have HB : Hid (nodeBad s = [⟨nAtom, 0, 24⟩]) := Lib.hid (by unfold nodeBad; rw [hok]; rfl)
      have hcase : g = false ∨ (g = true ∧ a < 1) ∨ (g = true ∧ ¬ a < 1 ∧ a = (s.size : Int) - 1) := by
       cases g with
       | false => exact .inl rfl
       | true =>
        by_cases h1 : a < 1
        ·exact .inr (.inl ⟨rfl, h1⟩)
        ·refine .inr (.inr ⟨rfl, h1, ?_⟩)
         by_cases h2 : a = (s.size : Int) - 1
         ·exact h2
         ·rw [decide_eq_false h1, beq_eq_false_iff_ne.2 h2] at hno
          cases hno
      clear hno hok HNO hks
      rcases hcase with rfl | ⟨rfl, h1⟩ | ⟨rfl, h1, h2⟩
      ·go_wp2_with fail
       refine (ref01_no _ _ _).mono ?_
       rintro e w1 ⟨v1, rfl, hL, hB⟩
       have HL := Lib.hid hL
       have HB1 := Lib.hid hB
       clear hL hB
       go_wp2_with fail
       go_ret3
       exact ⟨_, _, _, rfl, by rw [HB.out]; exact HL.out, HB1.out⟩
      ·have d1 : decide (a < 1) = true := decide_eq_true h1
       go_wp2_with fail
       refine (ref01_no _ _ _).mono ?_
       rintro e w1 ⟨v1, rfl, hL, hB⟩
       have HL := Lib.hid hL
       have HB1 := Lib.hid hB
       clear hL hB
       go_wp2_with fail
       go_ret3
       exact ⟨_, _, _, rfl, by rw [HB.out]; exact HL.out, HB1.out⟩
      ·have d1 : decide (a < 1) = false := decide_eq_false h1
       have d2 : (a == (s.size : Int) - 1) = true := beq_iff_eq.2 h2
       clear h2
       go_wp2_with fail
       refine (ref01_no _ _ _).mono ?_
       rintro e w1 ⟨v1, rfl, hL, hB⟩
       have HL := Lib.hid hL
       have HB1 := Lib.hid hB
       clear hL hB
       go_wp2_with fail
       go_ret3
       exact ⟨_, _, _, rfl, by rw [HB.out]; exact HL.out, HB1.out⟩
 ·have d3 : decide ((s.size : Int) ≥ 3) = false := decide_eq_false h3
  have hl : lenOk s = false := by unfold lenOk; rw [d3]; rfl
  rw [hl] at HR0
  clear hl
  go_enter Tryz.func96, Tryz.ntmps96
  go_wp2_with fail
  go_loopg [5, 6, 7] s.size (fun gk va vg vi wl => ∃ (k : Nat) (a : Int) (g : Bool), va = .int .i64 a ∧ vg = .bool g ∧ vi = .int .i64 (k : Int) ∧ gk = s.size - k ∧ k ≤ s.size ∧ -1 ≤ a ∧ a < k ∧ Hid (ndRun ((bs s).drop k) (k : Int) a g = R) ∧ wl = w)
  case atStart => exact ⟨0, -1, false, rfl, rfl, rfl, rfl, Nat.zero_le _, by omega, by omega, HR0, rfl⟩
  case round =>
   clear HR0
   obtain ⟨k, a, g, rfl, rfl, rfl, hgk, hk, ha0, ha1, HN, rfl⟩ := hrel
   have HK := Lib.hid hgk
   clear hgk
   by_cases hlt : k < s.size
   ·have hx0 : (0 : Int) ≤ (k : Int) := by omega
    have hx1 : (k : Int) < (s.size : Int) := by omega
    have hbk := btk s k
    have hr := bt_range s (k : Int)
    have hn := HN.out
    clear HN
    rw [bs_drop s k hlt] at hn
    simp only [ndRun] at hn
    generalize bt s (k : Int) = c at hbk hr hn
    have HI := Lib.hid (ref01_InWord c)
    by_cases c64 : c = 64
    ·rw [if_pos c64] at hn
     have d1 : (c == 64) = true := beq_iff_eq.2 c64
     have HN : Hid (ndRun ((bs s).drop (k + 1)) ((k + 1 : Nat) : Int) k (g && decide (a < 0)) = R) := Lib.hid hn
     clear hn c64
     cases g with
     | true =>
      rw [Bool.true_and] at HN
      by_cases hneg : a < 0
      ·rw [decide_eq_true hneg] at HN
       have d2 : decide (a < 0) = true := decide_eq_true hneg
       go_wp2_with fail
       go_roundg (s.size - (k + 1))
       case measure => rw [HK.out]; omega
       case rel => exact ⟨k + 1, k, true, rfl, rfl, by go_num, rfl, by omega, by omega, by omega, Lib.hid HN.out, rfl⟩
      ·rw [decide_eq_false hneg] at HN
       have d2 : decide (a < 0) = false := decide_eq_false hneg
       go_wp2_with fail
       go_roundg (s.size - (k + 1))
       case measure => rw [HK.out]; omega
       case rel => exact ⟨k + 1, k, false, rfl, rfl, by go_num, rfl, by omega, by omega, by omega, Lib.hid HN.out, rfl⟩
     | false =>
      rw [Bool.false_and] at HN
      go_wp2_with fail
      go_roundg (s.size - (k + 1))
      case measure => rw [HK.out]; omega
      case rel => exact ⟨k + 1, k, false, rfl, rfl, by go_num, rfl, by omega, by omega, by omega, Lib.hid HN.out, rfl⟩
    ·rw [if_neg c64] at hn
     have d1 : (c == 64) = false := beq_eq_false_iff_ne.2 c64
     have HN : Hid (ndRun ((bs s).drop (k + 1)) ((k + 1 : Nat) : Int) a (g && (isIn c || c == 45 || (c == 46 && decide (a ≥ 0)))) = R) := Lib.hid hn
     clear hn c64
     cases g with
     | false =>
      rw [Bool.false_and] at HN
      go_wp2_with fail
      go_roundg (s.size - (k + 1))
      case measure => rw [HK.out]; omega
      case rel => exact ⟨k + 1, a, false, rfl, rfl, by go_num, rfl, by omega, by omega, by omega, Lib.hid HN.out, rfl⟩
     | true =>
      rw [Bool.true_and] at HN
      cases hin : isIn c with
      | true =>
       rw [hin, Bool.true_or, Bool.true_or] at HN
       rw [hin] at HI
       clear hin
       go_wp2_with fail
       refine (HI.out _).mono ?_
       rintro e w' ⟨rfl, rfl⟩
       go_wp2_with fail
       go_roundg (s.size - (k + 1))
       case measure => rw [HK.out]; omega
       case rel => exact ⟨k + 1, a, true, rfl, rfl, by go_num, rfl, by omega, by omega, by omega, Lib.hid HN.out, rfl⟩
      | false =>
       rw [hin, Bool.false_or] at HN
       rw [hin] at HI
       clear hin
       by_cases c45 : c = 45
       ·have d2 : (c == 45) = true := beq_iff_eq.2 c45
        rw [d2, Bool.true_or] at HN
        clear c45
        go_wp2_with fail
        refine (HI.out _).mono ?_
        rintro e w' ⟨rfl, rfl⟩
        go_wp2_with fail
        go_roundg (s.size - (k + 1))
        case measure => rw [HK.out]; omega
        case rel => exact ⟨k + 1, a, true, rfl, rfl, by go_num, rfl, by omega, by omega, by omega, Lib.hid HN.out, rfl⟩
       ·have d2 : (c == 45) = false := beq_eq_false_iff_ne.2 c45
        rw [d2, Bool.false_or] at HN
        clear c45
        by_cases c46 : c = 46
        ·have d3 : (c == 46) = true := beq_iff_eq.2 c46
         rw [d3, Bool.true_and] at HN
         clear c46
         by_cases hge : a ≥ 0
         ·have d4 : decide (a ≥ 0) = true := decide_eq_true hge
          rw [d4] at HN
          go_wp2_with fail
          refine (HI.out _).mono ?_
          rintro e w' ⟨rfl, rfl⟩
          go_wp2_with fail
          go_roundg (s.size - (k + 1))
          case measure => rw [HK.out]; omega
          case rel => exact ⟨k + 1, a, true, rfl, rfl, by go_num, rfl, by omega, by omega, by omega, Lib.hid HN.out, rfl⟩
         ·have d4 : decide (a ≥ 0) = false := decide_eq_false hge
          rw [d4] at HN
          go_wp2_with fail
          refine (HI.out _).mono ?_
          rintro e w' ⟨rfl, rfl⟩
          go_wp2_with fail
          go_roundg (s.size - (k + 1))
          case measure => rw [HK.out]; omega
          case rel => exact ⟨k + 1, a, false, rfl, rfl, by go_num, rfl, by omega, by omega, by omega, Lib.hid HN.out, rfl⟩
        ·have d3 : (c == 46) = false := beq_eq_false_iff_ne.2 c46
         rw [d3, Bool.false_and] at HN
         clear c46
         go_wp2_with fail
         refine (HI.out _).mono ?_
         rintro e w' ⟨rfl, rfl⟩
         go_wp2_with fail
         go_roundg (s.size - (k + 1))
         case measure => rw [HK.out]; omega
         case rel => exact ⟨k + 1, a, false, rfl, rfl, by go_num, rfl, by omega, by omega, by omega, Lib.hid HN.out, rfl⟩
   ·have hks : k = s.size := by omega
    have hn := HN.out
    rw [bs_end s k (by omega)] at hn
    have hn : (a, g) = R := hn
    rw [← hn] at HNO
    clear hn HN
    have hno := HNO.out
    simp only at hno
    have d0 : decide ((k : Int) < (s.size : Int)) = false := decide_eq_false (by omega)
    cases hok : nodeOk s with
    | true =>
     rw [hok] at hno
     have HB : Hid (nodeBad s = []) := Lib.hid (by unfold nodeBad; rw [hok]; rfl)
     have hg : g = true ∧ ¬ a < 1 ∧ ¬ a = (s.size : Int) - 1 := by
      simpa [Bool.and_assoc] using hno.symm
     obtain ⟨rfl, h1, h2⟩ := hg
     have d1 : decide (a < 1) = false := decide_eq_false h1
     have d2 : (a == (s.size : Int) - 1) = false := beq_eq_false_iff_ne.2 h2
     have y0 : (0 : Int) ≤ a := by omega
     have y1 : a ≤ (s.size : Int) := by omega
     have y2 : (0 : Int) ≤ a + 1 := by omega
     have y3 : a + 1 ≤ (s.size : Int) := by omega
     clear hno h1 h2 hok HNO hks
     go_wp2_with fail
     go_quiet (fail)
     go_wp2_with fail
     go_ret3
     exact ⟨_, _, _, rfl, by rw [HB.out]; exact LnIs.nil _ _, by repeat (first | exact Below.refl _ _ | apply pw_below_drewN)⟩
    | false =>
     rw [hok] at hno
     have HB : Hid (nodeBad s = [⟨nAtom, 0, 24⟩]) := Lib.hid (by unfold nodeBad; rw [hok]; rfl)
     have hcase : g = false ∨ (g = true ∧ a < 1) ∨ (g = true ∧ ¬ a < 1 ∧ a = (s.size : Int) - 1) := by
      cases g with
      | false => exact .inl rfl
      | true =>
       by_cases h1 : a < 1
       ·exact .inr (.inl ⟨rfl, h1⟩)
       ·refine .inr (.inr ⟨rfl, h1, ?_⟩)
        by_cases h2 : a = (s.size : Int) - 1
        ·exact h2
        ·rw [decide_eq_false h1, beq_eq_false_iff_ne.2 h2] at hno
         cases hno
     clear hno hok HNO hks
     rcases hcase with rfl | ⟨rfl, h1⟩ | ⟨rfl, h1, h2⟩
     ·go_wp2_with fail
      refine (ref01_no _ _ _).mono ?_
      rintro e w1 ⟨v1, rfl, hL, hB⟩
      have HL := Lib.hid hL
      have HB1 := Lib.hid hB
      clear hL hB
      go_wp2_with fail
      go_ret3
      exact ⟨_, _, _, rfl, by rw [HB.out]; exact HL.out, HB1.out⟩
     ·have d1 : decide (a < 1) = true := decide_eq_true h1
      go_wp2_with fail
      refine (ref01_no _ _ _).mono ?_
      rintro e w1 ⟨v1, rfl, hL, hB⟩
      have HL := Lib.hid hL
      have HB1 := Lib.hid hB
      clear hL hB
      go_wp2_with fail
      go_ret3
      exact ⟨_, _, _, rfl, by rw [HB.out]; exact HL.out, HB1.out⟩
     ·have d1 : decide (a < 1) = false := decide_eq_false h1
      have d2 : (a == (s.size : Int) - 1) = true := beq_iff_eq.2 h2
      clear h2
      go_wp2_with fail
      refine (ref01_no _ _ _).mono ?_
      rintro e w1 ⟨v1, rfl, hL, hB⟩
      have HL := Lib.hid hL
      have HB1 := Lib.hid hB
      clear hL hB
      go_wp2_with fail
      go_ret3
      exact ⟨_, _, _, rfl, by rw [HB.out]; exact HL.out, HB1.out⟩
end Go.Proofs.YtibbcfeaododhaaGreatDoor
namespace Go.Proofs.YtibbcfeaododhaaGreatDoor
open Go.RowKit Go.Proofs.YtibbcfeaododhaaGreatDoorW.PrintWords
/-! ### strings.Cut at a separator of one byte -/
theorem cut_one (s : ByteArray) (c : UInt8) (hm : s.size ≤ 140737488351232) (w : World) :
  Calls Tryz.prog 183 #[.string s, .string ⟨#[c]⟩] w fun e w' => (∃ k : Nat, Lib.indexByte s.data.toList c = (k : Int) ∧ k < s.size ∧ e = .returned (.tuple #[.string (s.extract 0 k), .string (s.extract (k + 1) s.size), .bool true]) ∨ Lib.indexByte s.data.toList c < 0 ∧ e = .returned (.tuple #[.string s, .string ⟨#[]⟩, .bool false])) ∧ Below w.heap.size w w' := by
 have HI := Lib.hid (Tryz.stringslite_Index_one s c)
 have hge := Lib.indexByte_ge s.data.toList c
 have hlt : ∀ k : Nat, Lib.indexByte s.data.toList c = (k : Int) → k < s.size := by
  intro k hk
  have := (Lib.indexByte_some hk).1
  rw [Lib.size_eq]
  exact (List.getElem?_eq_some_iff.1 this).1
 generalize Lib.indexByte s.data.toList c = I at HI hge hlt ⊢
 by_cases h0 : 0 ≤ I
 ·obtain ⟨k, rfl⟩ := Int.eq_ofNat_of_zero_le h0
  have hk := hlt k rfl
  clear hlt hge
  have d0 : decide ((k : Int) ≥ 0) = true := decide_eq_true h0
  have y1 : (k : Int) ≤ (s.size : Int) := by omega
  have y2 : (0 : Int) ≤ (k : Int) + 1 := by omega
  have y3 : (k : Int) + 1 ≤ (s.size : Int) := by omega
  go_enter Tryz.func183, Tryz.ntmps183
  go_wp2_with fail
  refine (HI.out _).mono ?_
  rintro e w1 ⟨rfl, rfl⟩
  go_wp2_with fail
  go_quiet (fail)
  go_wp2_with fail
  go_ret3
  exact ⟨⟨k, .inl ⟨rfl, hk, by simp⟩⟩, by repeat (first | exact Below.refl _ _ | apply pw_below_drewN)⟩
 ·have d0 : decide (I ≥ 0) = false := decide_eq_false h0
  clear hlt hge
  go_enter Tryz.func183, Tryz.ntmps183
  go_wp2_with fail
  refine (HI.out _).mono ?_
  rintro e w1 ⟨rfl, rfl⟩
  go_wp2_with fail
  go_ret3
  exact ⟨⟨0, .inr ⟨by omega, rfl⟩⟩, Below.refl _ _⟩
/-- A name's two parts, as they are cut. -/
def CutOk (s N H : ByteArray) (ok : Bool) : Prop :=
 N.size ≤ s.size ∧ H.size ≤ s.size ∧ nodeOk s = (ok && decide (0 < N.size) && decide (0 < H.size) && decide (s.size ≤ 64) && !decide (0 ≤ Lib.indexByte H.data.toList 64) && (bs N).all inName && (bs H).all inHost)
theorem index_len : ∀ (l : List UInt8), (Lib.indexByte l 64 = -1 ∧ nodeLen (l.map fun c => (c.toNat : Int)) = l.length) ∨ (Lib.indexByte l 64 = (nodeLen (l.map fun c => (c.toNat : Int)) : Nat) ∧ nodeLen (l.map fun c => (c.toNat : Int)) < l.length)
  | [] => .inl ⟨rfl, rfl⟩
  | b :: l => by
    by_cases hb : b = 64
    · right
      subst hb
      have e : nodeLen (((64 : UInt8) :: l).map fun c => (c.toNat : Int)) = 0 := tw_no (by decide)
      rw [e]
      exact ⟨rfl, by simp⟩
    · have h64 : ((b.toNat : Int) != 64) = true := by
        rw [bne_iff_ne]
        intro h
        exact hb (UInt8.toNat_inj.1 (by have : b.toNat = 64 := by omega
                                        rw [this]; rfl))
      have e : nodeLen ((b :: l).map fun c => (c.toNat : Int)) = nodeLen (l.map fun c => (c.toNat : Int)) + 1 := tw_yes h64
      have hbe : (b == 64) = false := beq_eq_false_iff_ne.2 hb
      rw [e, Lib.indexByte, hbe]
      simp only [Bool.false_eq_true, if_false]
      rcases index_len l with ⟨h1, h2⟩ | ⟨h1, h2⟩
      · left
        rw [h1]
        exact ⟨rfl, by simp [h2]⟩
      · right
        rw [h1, if_neg (by simp)]
        exact ⟨by simp, by simpa using h2⟩
theorem bs_data' (x : ByteArray) : bs x = x.data.toList.map fun c => (c.toNat : Int) := by
 apply List.ext_getElem
 ·rw [bs_len, List.length_map, Lib.size_eq]
 ·intro i h1 h2
  rw [bs_len] at h1
  rw [bs_get _ i h1, ← btk _ i h1, List.getElem_map]
  rfl
theorem bs_cut' (s : ByteArray) (a b : Nat) : bs (s.extract a b) = ((bs s).drop a).take (b - a) := by
 rw [bs_data', bs_data', ← List.map_drop, ← List.map_take]
 congr 1
 simp [List.extract_eq_take_drop]
theorem index_has (H : ByteArray) : decide (0 ≤ Lib.indexByte H.data.toList 64) = (bs H).contains 64 := by
 rw [bs_data', Bool.eq_iff_iff, decide_eq_true_eq, List.contains_iff_mem, List.mem_map]
 constructor
 ·intro h
  obtain ⟨o, ho⟩ := Int.eq_ofNat_of_zero_le h
  have := (Lib.indexByte_some ho).1
  exact ⟨64, List.mem_of_getElem? this, rfl⟩
 ·rintro ⟨c, hc, h⟩
  have : c = 64 := UInt8.toNat_inj.1 (show c.toNat = 64 by omega)
  subst this
  have hge := Lib.indexByte_ge H.data.toList 64
  by_cases h1 : Lib.indexByte H.data.toList 64 = -1
  ·obtain ⟨k, hk, he⟩ := List.getElem_of_mem hc
   exact absurd (by rw [List.getElem?_eq_getElem hk, he]) (Lib.indexByte_none h1 k)
  ·omega
theorem cutOk_some {s : ByteArray} {k : Nat} (h : Lib.indexByte s.data.toList 64 = (k : Int)) (hk : k < s.size) : CutOk s (s.extract 0 k) (s.extract (k + 1) s.size) true := by
 have hn : nodeLen (bs s) = k := by
  rw [bs_data']
  rcases index_len s.data.toList with ⟨h1, _⟩ | ⟨h1, _⟩
  ·omega
  ·omega
 have e1 : bs (s.extract 0 k) = (bs s).take k := by rw [bs_cut']; simp
 have e2 : bs (s.extract (k + 1) s.size) = (bs s).drop (k + 1) := by
  rw [bs_cut', List.take_of_length_le (by rw [List.length_drop, bs_len]; omega)]
 have s1 : (s.extract 0 k).size = k := by simp; omega
 have s2 : (s.extract (k + 1) s.size).size = s.size - (k + 1) := by simp
 refine ⟨by omega, by omega, ?_⟩
 rw [index_has, e1, e2, s1, s2]
 unfold nodeOk nodeOkL
 rw [hn, bs_len, Bool.eq_iff_iff]
 simp only [Bool.and_eq_true, decide_eq_true_eq, Bool.true_and]
 constructor
 ·rintro ⟨⟨⟨⟨⟨⟨a1, a2⟩, a3⟩, a4⟩, a5⟩, a6⟩, a7⟩
  exact ⟨⟨⟨⟨⟨a2, by omega⟩, a4⟩, a5⟩, a6⟩, a7⟩
 ·rintro ⟨⟨⟨⟨⟨a2, a3⟩, a4⟩, a5⟩, a6⟩, a7⟩
  exact ⟨⟨⟨⟨⟨⟨hk, a2⟩, by omega⟩, a4⟩, a5⟩, a6⟩, a7⟩
theorem cutOk_none {s : ByteArray} (h : Lib.indexByte s.data.toList 64 < 0) : CutOk s s ⟨#[]⟩ false := by
 refine ⟨Nat.le_refl _, Nat.zero_le _, ?_⟩
 have hn : ¬ nodeLen (bs s) < s.size := by
  rw [bs_data', Lib.size_eq]
  rcases index_len s.data.toList with ⟨h1, h2⟩ | ⟨h1, _⟩
  ·omega
  ·omega
 unfold nodeOk nodeOkL
 rw [bs_len]
 simp [hn]
theorem strings_Cut_at (s : ByteArray) (hm : s.size ≤ 140737488351232) (w : World) :
  Calls Tryz.prog 150 #[.string s, .string ⟨#[64]⟩] w fun e w' => (∃ N H ok, e = .returned (.tuple #[.string N, .string H, .bool ok]) ∧ CutOk s N H ok) ∧ Below w.heap.size w w' := by
 have HC := Lib.hid (cut_one s 64 hm)
 go_enter Tryz.func150, Tryz.ntmps150
 go_wp2_with fail
 refine (HC.out _).mono ?_
 rintro e w1 ⟨⟨k, h⟩, hB⟩
 have HB := Lib.hid hB
 clear hB
 rcases h with ⟨h1, h2, rfl⟩ | ⟨h1, rfl⟩
 ·have HO := Lib.hid (cutOk_some h1 h2)
  clear h1 h2
  go_wp2_with fail
  go_ret3
  exact ⟨⟨_, _, _, rfl, HO.out⟩, HB.out⟩
 ·have HO := Lib.hid (cutOk_none h1)
  clear h1
  go_wp2_with fail
  go_ret3
  exact ⟨⟨_, _, _, rfl, HO.out⟩, HB.out⟩
/-! ### atom.Node -/
def NodePost (w : World) (l : List Lk) (e : Ending) (w' : World) : Prop := ∃ (r1 r2 : ByteArray) (v : Value), e = .returned (.tuple #[.string r1, .string r2, v]) ∧ ErrIs w' l v ∧ Below w.heap.size w w'
def nodeHead (s N H : ByteArray) (ok : Bool) : Bool := ok && decide (0 < N.size) && decide (0 < H.size) && decide (s.size ≤ 64) && !decide (0 ≤ Lib.indexByte H.data.toList 64)
set_option maxRecDepth 100000 in
set_option maxHeartbeats 8000000 in
theorem atom_Node (s : ByteArray) (hm : s.size ≤ 140737488351232) (w : World) :
  Calls Tryz.prog 101 #[.string s] w (NodePost w (nodeBad s)) := by
 have HC := Lib.hid (strings_Cut_at s hm)
 obtain ⟨F2, hF2⟩ : ∃ F, F = nodeBad s := ⟨_, rfl⟩
 rw [← hF2]
 have HF2 := Lib.hid hF2
 clear hF2
 go_enter Tryz.func101, Tryz.ntmps101
 go_wp2_with fail
 refine (HC.out _).mono ?_
 rintro e w1 ⟨⟨N, H, ok, rfl, hO⟩, hB⟩
 have HO := Lib.hid hO
 have HB := Lib.hid hB
 have HCO := Lib.hid (Tryz.strings_Contains_one H 64)
 clear hO hB
 obtain ⟨g0, hg0⟩ : ∃ g, g = nodeHead s N H ok := ⟨_, rfl⟩
 have HG := Lib.hid hg0
 clear hg0
 go_upto_region 2 with (fail)
 go_cut [8] from 13 (fun v8 w' => v8 = .bool g0 ∧ w' = w1)
 case first =>
  cases ok with
  | false =>
   go_wp2_with fail
   go_meet
   case rel => exact ⟨by rw [HG.out]; unfold nodeHead; simp [Bool.false_and], rfl⟩
  | true =>
   by_cases hN : N.size = 0
   ·have hN1 := isEmpty_of hN
    have hz : Hid (decide (0 < N.size) = false) := Lib.hid (decide_eq_false (by omega))
    clear hN
    go_wp2_with fail
    go_meet
    case rel => exact ⟨by rw [HG.out]; unfold nodeHead; simp [hz.out], rfl⟩
   ·have hN1 := isEmpty_not hN
    have hz : Hid (decide (0 < N.size) = true) := Lib.hid (decide_eq_true (by omega))
    clear hN
    by_cases hH : H.size = 0
    ·have hH1 := isEmpty_of hH
     have hy : Hid (decide (0 < H.size) = false) := Lib.hid (decide_eq_false (by omega))
     clear hH
     go_wp2_with fail
     go_meet
     case rel => exact ⟨by rw [HG.out]; unfold nodeHead; simp [hy.out], rfl⟩
    ·have hH1 := isEmpty_not hH
     have hy : Hid (decide (0 < H.size) = true) := Lib.hid (decide_eq_true (by omega))
     clear hH
     by_cases hs : (s.size : Int) ≤ 64
     ·have d3 : decide ((s.size : Int) ≤ 64) = true := decide_eq_true hs
      have hx : Hid (decide (s.size ≤ 64) = true) := Lib.hid (decide_eq_true (by omega))
      clear hs
      go_wp2_with fail
      refine (HCO.out _).mono ?_
      rintro e w' ⟨rfl, rfl⟩
      go_wp2_with fail
      go_meet
      case rel => exact ⟨by rw [HG.out]; unfold nodeHead; rw [hz.out, hy.out, hx.out]; simp, rfl⟩
     ·have d3 : decide ((s.size : Int) ≤ 64) = false := decide_eq_false hs
      have hx : Hid (decide (s.size ≤ 64) = false) := Lib.hid (decide_eq_false (by omega))
      clear hs
      go_wp2_with fail
      go_meet
      case rel => exact ⟨by rw [HG.out]; unfold nodeHead; simp [hx.out], rfl⟩
 case rest =>
  obtain ⟨rfl, rfl⟩ := hcut
  have HFIN : Hid (nodeOk s = ((g0 && ((bs N).drop 0).all inName) && ((bs H).drop 0).all inHost)) := Lib.hid (by rw [HG.out, List.drop_zero, List.drop_zero]; exact HO.out.2.2)
  have hNs : N.size ≤ 140737488351232 := Nat.le_trans HO.out.1 hm
  have hHs : H.size ≤ 140737488351232 := Nat.le_trans HO.out.2.1 hm
  clear HG HO HCO
  obtain ⟨F1, hF1⟩ : ∃ F, F = (g0 && ((bs N).drop 0).all inName) := ⟨_, rfl⟩
  rw [← hF1] at HFIN
  have HS1 : Hid ((g0 && ((bs N).drop 0).all inName) = F1) := Lib.hid hF1.symm
  clear hF1
  have kb := fun W => print_bytes (P := Tryz.prog) 9 104 5 Tryz.underlying9 Tryz.underlying104 Tryz.underlying5 N W
  go_wp2_with fail
  clear kb
  have HBC := Lib.hid (bytes_cell wc 5 N)
  obtain ⟨w0, hw0⟩ : ∃ W, W = Lib.bytesWorld wc 5 N := ⟨_, rfl⟩
  have HB0 : Hid (Below w.heap.size w w0) := Lib.hid (by rw [hw0]; exact trans_below HB.out (Lib.bytesWorld_below wc 5 N))
  rw [← hw0] at HBC
  rw [← hw0]
  clear hw0
  generalize wc.heap.size = bb at HBC ⊢
  generalize grownCap _ _ _ _ = cp0
  clear HB
  go_loopg [8, 41] N.size (fun gk v8 vi wl => ∃ (k : Nat) (g : Bool), v8 = .bool g ∧ vi = .int .i64 (k : Int) ∧ gk = N.size - k ∧ k ≤ N.size ∧ Hid ((g && ((bs N).drop k).all inName) = F1) ∧ wl = w0)
  case atStart => exact ⟨0, g0, rfl, rfl, rfl, Nat.zero_le _, HS1, rfl⟩
  case round =>
   clear HS1
   obtain ⟨k, g, rfl, rfl, hgk, hk, HN, rfl⟩ := hrel
   have HK := Lib.hid hgk
   clear hgk
   by_cases hlt : k < N.size
   ·have hx0 : (0 : Int) ≤ (k : Int) := by omega
    have hx1 : (k : Int) < (N.size : Int) := by omega
    have hcell := HBC.out k hlt
    have hr := bt_range N (k : Int)
    have hn := HN.out
    clear HN
    rw [bs_drop N k hlt, List.all_cons] at hn
    generalize bt N (k : Int) = c at hcell hr hn
    have HI := Lib.hid (atom_kind c hr.1 hr.2)
    have HN := Lib.hid hn
    clear hn
    cases g with
    | false =>
     rw [Bool.false_and] at HN
     have HN : Hid ((false && ((bs N).drop (k + 1)).all inName) = F1) := Lib.hid HN.out
     go_wp2_with fail
     go_roundg (N.size - (k + 1))
     case measure => rw [HK.out]; omega
     case rel => exact ⟨k + 1, false, rfl, by go_num, rfl, by omega, Lib.hid HN.out, rfl⟩
    | true =>
     rw [Bool.true_and] at HN
     cases hin : isIn c with
     | true =>
      rw [show inName c = true by unfold inName; rw [hin]; rfl, Bool.true_and] at HN
      have HKD : Hid ((kindOf c != 0) = true) := Lib.hid (by rw [kindOf_in, hin])
      have hkd := HKD.out
      generalize kindOf c = kk at HI hkd
      go_wp2_with fail
      refine (HI.out _).mono ?_
      rintro e w' ⟨rfl, rfl⟩
      go_wp2_with fail
      go_roundg (N.size - (k + 1))
      case measure => rw [HK.out]; omega
      case rel => exact ⟨k + 1, true, rfl, by go_num, rfl, by omega, Lib.hid HN.out, rfl⟩
     | false =>
      have HKD : Hid ((kindOf c != 0) = false) := Lib.hid (by rw [kindOf_in, hin])
      by_cases c45 : c = 45
      ·have d2 : (c == 45) = true := beq_iff_eq.2 c45
       rw [show inName c = true by unfold inName; rw [hin, d2]; rfl, Bool.true_and] at HN
       clear hin c45
       have hkd := HKD.out
       generalize kindOf c = kk at HI hkd
       go_wp2_with fail
       refine (HI.out _).mono ?_
       rintro e w' ⟨rfl, rfl⟩
       go_wp2_with fail
       go_roundg (N.size - (k + 1))
       case measure => rw [HK.out]; omega
       case rel => exact ⟨k + 1, true, rfl, by go_num, rfl, by omega, Lib.hid HN.out, rfl⟩
      ·have d2 : (c == 45) = false := beq_eq_false_iff_ne.2 c45
       rw [show inName c = false by unfold inName; rw [hin, d2]; rfl, Bool.false_and] at HN
       clear hin c45
       have hkd := HKD.out
       generalize kindOf c = kk at HI hkd
       go_wp2_with fail
       refine (HI.out _).mono ?_
       rintro e w' ⟨rfl, rfl⟩
       go_wp2_with fail
       go_roundg (N.size - (k + 1))
       case measure => rw [HK.out]; omega
       case rel => exact ⟨k + 1, false, rfl, by go_num, rfl, by omega, Lib.hid HN.out, rfl⟩
   ·
    have HE1 : Hid (g = F1) := Lib.hid (by have h := HN.out; rw [bs_end N k (by omega), List.all_nil, Bool.and_true] at h; exact h)
    have HS2 : Hid ((g && ((bs H).drop 0).all inHost) = nodeOk s) := Lib.hid (by rw [HE1.out]; exact HFIN.out.symm)
    have d0 : decide (k < N.size) = false := decide_eq_false hlt
    clear HN HK HBC HE1 HFIN hk hlt
    obtain ⟨F3, hF3⟩ : ∃ F, F = nodeOk s := ⟨_, rfl⟩
    rw [← hF3] at HS2
    have HF3 := Lib.hid hF3
    clear hF3
    have kb := fun W => print_bytes (P := Tryz.prog) 9 104 5 Tryz.underlying9 Tryz.underlying104 Tryz.underlying5 H W
    go_wp2_with fail
    clear kb d0
    have HBC := Lib.hid (bytes_cell wr 5 H)
    obtain ⟨w5, hw5⟩ : ∃ W, W = Lib.bytesWorld wr 5 H := ⟨_, rfl⟩
    have HB5 : Hid (Below w.heap.size w w5) := Lib.hid (by rw [hw5]; exact trans_below HB0.out (Lib.bytesWorld_below wr 5 H))
    rw [← hw5] at HBC
    rw [← hw5]
    clear hw5
    generalize wr.heap.size = b2 at HBC ⊢
    generalize grownCap _ _ _ _ = cp1
    clear HB0
    go_loopg [8, 59] H.size (fun gk v8 vi wl => ∃ (k : Nat) (g : Bool), v8 = .bool g ∧ vi = .int .i64 (k : Int) ∧ gk = H.size - k ∧ k ≤ H.size ∧ Hid ((g && ((bs H).drop k).all inHost) = F3) ∧ wl = w5)
    case atStart => exact ⟨0, g, rfl, rfl, rfl, Nat.zero_le _, HS2, rfl⟩
    case round =>
     clear HS2
     obtain ⟨k, g, rfl, rfl, hgk, hk, HN, rfl⟩ := hrel
     have HK := Lib.hid hgk
     clear hgk
     by_cases hlt : k < H.size
     ·have hx0 : (0 : Int) ≤ (k : Int) := by omega
      have hx1 : (k : Int) < (H.size : Int) := by omega
      have hcell := HBC.out k hlt
      have hr := bt_range H (k : Int)
      have hn := HN.out
      clear HN
      rw [bs_drop H k hlt, List.all_cons] at hn
      generalize bt H (k : Int) = c at hcell hr hn
      have HI := Lib.hid (atom_kind c hr.1 hr.2)
      have HN := Lib.hid hn
      clear hn
      cases g with
      | false =>
       rw [Bool.false_and] at HN
       have HN : Hid ((false && ((bs H).drop (k + 1)).all inHost) = F3) := Lib.hid HN.out
       go_wp2_with fail
       go_roundg (H.size - (k + 1))
       case measure => rw [HK.out]; omega
       case rel => exact ⟨k + 1, false, rfl, by go_num, rfl, by omega, Lib.hid HN.out, rfl⟩
      | true =>
       rw [Bool.true_and] at HN
       cases hin : isIn c with
       | true =>
        rw [show inHost c = true by unfold inHost; rw [hin]; rfl, Bool.true_and] at HN
        have HKD : Hid ((kindOf c != 0) = true) := Lib.hid (by rw [kindOf_in, hin])
        have hkd := HKD.out
        generalize kindOf c = kk at HI hkd
        go_wp2_with fail
        refine (HI.out _).mono ?_
        rintro e w' ⟨rfl, rfl⟩
        go_wp2_with fail
        go_roundg (H.size - (k + 1))
        case measure => rw [HK.out]; omega
        case rel => exact ⟨k + 1, true, rfl, by go_num, rfl, by omega, Lib.hid HN.out, rfl⟩
       | false =>
        have HKD : Hid ((kindOf c != 0) = false) := Lib.hid (by rw [kindOf_in, hin])
        by_cases c45 : c = 45
        ·have d2 : (c == 45) = true := beq_iff_eq.2 c45
         rw [show inHost c = true by unfold inHost; rw [hin, d2]; rfl, Bool.true_and] at HN
         clear hin c45
         have hkd := HKD.out
         generalize kindOf c = kk at HI hkd
         go_wp2_with fail
         refine (HI.out _).mono ?_
         rintro e w' ⟨rfl, rfl⟩
         go_wp2_with fail
         go_roundg (H.size - (k + 1))
         case measure => rw [HK.out]; omega
         case rel => exact ⟨k + 1, true, rfl, by go_num, rfl, by omega, Lib.hid HN.out, rfl⟩
        ·have d2 : (c == 45) = false := beq_eq_false_iff_ne.2 c45
         by_cases c46 : c = 46
         ·have d3 : (c == 46) = true := beq_iff_eq.2 c46
          rw [show inHost c = true by unfold inHost; rw [hin, d2, d3]; rfl, Bool.true_and] at HN
          clear hin c45 c46
          have hkd := HKD.out
          generalize kindOf c = kk at HI hkd
          go_wp2_with fail
          refine (HI.out _).mono ?_
          rintro e w' ⟨rfl, rfl⟩
          go_wp2_with fail
          go_roundg (H.size - (k + 1))
          case measure => rw [HK.out]; omega
          case rel => exact ⟨k + 1, true, rfl, by go_num, rfl, by omega, Lib.hid HN.out, rfl⟩
         ·have d3 : (c == 46) = false := beq_eq_false_iff_ne.2 c46
          rw [show inHost c = false by unfold inHost; rw [hin, d2, d3]; rfl, Bool.false_and] at HN
          clear hin c45 c46
          have hkd := HKD.out
          generalize kindOf c = kk at HI hkd
          go_wp2_with fail
          refine (HI.out _).mono ?_
          rintro e w' ⟨rfl, rfl⟩
          go_wp2_with fail
          go_roundg (H.size - (k + 1))
          case measure => rw [HK.out]; omega
          case rel => exact ⟨k + 1, false, rfl, by go_num, rfl, by omega, Lib.hid HN.out, rfl⟩
     ·
      have hE : g = F3 := by have h := HN.out; rw [bs_end H k (by omega), List.all_nil, Bool.and_true] at h; exact h
      have d0 : decide (k < H.size) = false := decide_eq_false hlt
      clear HN HK HBC hk hlt
      cases hok : nodeOk s with
      | true =>
       have hb : F2 = [] := by rw [HF2.out]; unfold nodeBad; rw [hok]; rfl
       obtain rfl : g = true := by rw [hE, HF3.out, hok]
       have HBB := Lib.hid hb
       clear hb hE hok HF3 HF2
       go_wp2_with fail
       go_ret3
       exact ⟨_, _, _, rfl, by rw [HBB.out]; rfl, HB5.out⟩
      | false =>
       have hb : F2 = [⟨nAtom, 0, 24⟩] := by rw [HF2.out]; unfold nodeBad; rw [hok]; rfl
       obtain rfl : g = false := by rw [hE, HF3.out, hok]
       have HBB := Lib.hid hb
       clear hb hE hok HF3 HF2
       go_wp2_with fail
       refine (atom_refused _ _ _).mono ?_
       rintro e w6 ⟨v6, rfl, hE6, hB6⟩
       have HE6 := Lib.hid hE6
       have HB6 := Lib.hid (trans_below HB5.out hB6)
       clear hE6 hB6
       go_wp2_with fail
       go_ret3
       exact ⟨_, _, _, rfl, by rw [HBB.out]; exact HE6.out, HB6.out⟩
end Go.Proofs.YtibbcfeaododhaaGreatDoor
