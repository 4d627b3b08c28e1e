/-
  Comparisons: texts, rows of numbers; the first that is not 0. term: order, lists; slices.CompareFunc at order. term: lists, order. term: order, Compare, Equal. term: Compare, Equal. term: quoted, write: a term's text behind a row of bytes.
-/
import Derived.Test.YtgapeacflkfmdaaGreatDoorG4
import Derived.Test.YtgapeacflkfmdaaGreatDoorG3
import Derived.Laws.Cover1
import Derived.Deep.Cut
import Derived.Lib.QuietBelow
import Derived.Orders
import Derived.OrdersHeld
import Derived.Lib.OthersKept
namespace Go.Proofs.YtgapeacflkfmdaaGreatDoor
open Go.RowKit Go.Proofs.YtgapeacflkfmdaaGreatDoorW.PrintWords

theorem isNaN_string (a : ByteArray) (w : World) : Calls Tryz.prog 145 #[.string a] w fun e w' => e = .returned (.bool false) ∧ w = w' := by
  go_enter Tryz.func145, Tryz.ntmps145
  go_wp2_with fail
  go_ret
  exact ⟨eb (by simp), rfl⟩
theorem less_cmp : ∀ (x y : List UInt8), cmpL (x.map fun c => (c.toNat : Int)) (y.map fun c => (c.toNat : Int)) = if Op.bytesLess x y then -1 else if !(Op.bytesLess x y || x == y) then 1 else 0
  | [], [] => rfl
  | [], _ :: _ => rfl
  | _ :: _, [] => rfl
  | a :: x, b :: y => by
    have h := less_cmp x y
    rw [List.map_cons, List.map_cons, cmpL, h, Op.bytesLess]
    have hlt : ((a.toNat : Int) < (b.toNat : Int)) ↔ a < b := by rw [UInt8.lt_iff_toNat_lt]; omega
    have hgt : ((b.toNat : Int) < (a.toNat : Int)) ↔ b < a := by rw [UInt8.lt_iff_toNat_lt]; omega
    by_cases h1 : a < b
    · rw [if_pos (hlt.2 h1)]
      simp [h1]
    · rw [if_neg (fun hh => h1 (hlt.1 hh))]
      by_cases h2 : b < a
      · have hne : (a == b) = false := beq_eq_false_iff_ne.2 (fun e => by subst e; exact h1 h2)
        rw [if_pos (hgt.2 h2)]
        have hc : ((a :: x) == (b :: y)) = false := by rw [List.cons_beq_cons, hne]; rfl
        rw [hne, hc]
        simp [h1]
      · have he : a = b := by
          rw [UInt8.lt_iff_toNat_lt] at h1 h2
          exact UInt8.toNat_inj.1 (by omega)
        subst he
        rw [if_neg (fun hh => h2 (hgt.1 hh))]
        have hc : ((a :: x) == (a :: y)) = (x == y) := by rw [List.cons_beq_cons]; simp
        rw [hc]
        simp [h1]
theorem cmp_string (a b : ByteArray) (w : World) : Calls Tryz.prog 89 #[.string a, .string b] w fun e w' => e = .returned (.int .i64 (cmpS a b)) ∧ w = w' := by
  have h := less_cmp a.data.toList b.data.toList
  rw [← bs_data', ← bs_data', ← Lib.toList_data, ← Lib.toList_data] at h
  have h : cmpS a b = _ := h
  generalize cmpS a b = C at h ⊢
  have H := Lib.hid h
  clear h
  go_enter Tryz.func89, Tryz.ntmps89
  go_wp2_with fail
  refine (isNaN_string _ _).mono ?_
  rintro e w' ⟨rfl, rfl⟩
  go_wp2_with fail
  refine (isNaN_string _ _).mono ?_
  rintro e w' ⟨rfl, rfl⟩
  go_wp2_with fail
  all_goals go_ret
  all_goals refine ⟨ei ?_, rfl⟩
  all_goals rw [H.out]
  all_goals clear H
  all_goals simp_all

/-! ### cmp.Or -/
theorem cmp_Or (l : List Int) (g n c : Nat) (w : World) (hl : l.length = n) (hn : n ≤ 8) (hc : ∀ j, j < n → w.cell? ⟨g, j, none⟩ = some (.int .i64 (l.getD j 0))) :
    Calls Tryz.prog 90 #[.slice (some ⟨g, 0, none⟩) n c] w fun e w' => e = .returned (.int .i64 (l.foldr orI 0)) ∧ w = w' := by
  subst hl
  obtain ⟨R, hR⟩ : ∃ R, R = l.foldr orI 0 := ⟨_, rfl⟩
  rw [← hR]
  have H0 : Hid ((l.drop 0).foldr orI 0 = R) := Lib.hid hR.symm
  have HC := Lib.hid hc
  clear hR hc
  go_enter Tryz.func90, Tryz.ntmps90
  go_wp2_with fail
  go_loopg [8] l.length (fun gk vi wl => ∃ k : Nat, vi = .int .i64 (k : Int) ∧ gk = l.length - k ∧ k ≤ l.length ∧ Hid ((l.drop k).foldr orI 0 = R) ∧ wl = w)
  case atStart => exact ⟨0, rfl, rfl, Nat.zero_le _, H0, rfl⟩
  case round =>
    clear H0
    obtain ⟨k, rfl, hgk, hk, HR, hw⟩ := hrel
    subst hw
    have HK := Lib.hid hgk
    clear hgk
    by_cases hlt : k < l.length
    · have hcell := HC.out k hlt
      have hr := HR.out
      rw [List.drop_eq_getElem_cons hlt, List.foldr_cons] at hr
      have e : l.getD k 0 = l[k] := by rw [List.getD_eq_getElem?_getD, List.getElem?_eq_getElem hlt]; rfl
      rw [e] at hcell
      generalize l[k] = x at hr hcell
      have y0 : (0 : Int) ≤ (k : Int) := by omega
      have y1 : (k : Int) < (l.length : Int) := by omega
      clear e HR
      unfold orI at hr
      by_cases hx : x = 0
      · have d1 : (x != 0) = false := by simp [hx]
        rw [if_pos hx] at hr
        have HR := Lib.hid hr
        clear hr hx
        go_wp2_with fail
        go_roundg (l.length - (k + 1))
        case measure => rw [HK.out]; omega
        case rel => exact ⟨k + 1, by go_num, rfl, by omega, Lib.hid HR.out, rfl⟩
      · have d1 : (x != 0) = true := by simp [hx]
        rw [if_neg hx] at hr
        have HR := Lib.hid hr
        clear hr hx
        go_wp2_with fail
        go_ret
        exact ⟨ei HR.out, rfl⟩
    · have d0 : decide (k < l.length) = false := decide_eq_false hlt
      have hr := HR.out
      rw [List.drop_eq_nil_of_le (by omega)] at hr
      have HQ := Lib.hid hr
      clear hr HR
      go_wp2_with fail
      go_ret
      exact ⟨ei HQ.out, rfl⟩

/-! ### slices.Compare of numbers -/
theorem numsAt_cell {w : World} {A : Option Addr} {l : List Int} (h : kU.C w A l.length l) (k : Nat) (hk : k < l.length) : ∃ ad, A = some ad ∧ w.cell? (ad.add k) = some (.int .u32 l[k]) := by
  have hr := Kd.reads_of_C (d := (0 : Int)) h
  obtain ⟨ad, rfl, hh⟩ := hr.2.2 (by omega)
  refine ⟨ad, rfl, ?_⟩
  rw [hh k hk, List.getD_eq_getElem?_getD, List.getElem?_eq_getElem hk]
  rfl
set_option maxRecDepth 100000 in
set_option maxHeartbeats 2000000 in
theorem slices_Compare (a b : List Int) (A B : Option Addr) (c d : Nat) (w : World) (hA : kU.C w A a.length a) (hB : kU.C w B b.length b) :
    Calls Tryz.prog 92 #[.slice A a.length c, .slice B b.length d] w fun e w' => e = .returned (.int .i64 (cmpL a b)) ∧ w = w' := by
  obtain ⟨R, hR⟩ : ∃ R, R = cmpL a b := ⟨_, rfl⟩
  rw [← hR]
  have H0 : Hid (cmpL (a.drop 0) (b.drop 0) = R) := Lib.hid hR.symm
  have HA := Lib.hid hA
  have HB := Lib.hid hB
  have hla := hA.2.1
  have hlb := hB.2.1
  clear hR hA hB
  go_enter Tryz.func92, Tryz.ntmps92
  go_wp2_with fail
  go_loopg [11] a.length (fun gk vi wl => ∃ k : Nat, vi = .int .i64 (k : Int) ∧ gk = a.length - k ∧ k ≤ a.length ∧ k ≤ b.length ∧ Hid (cmpL (a.drop k) (b.drop k) = R) ∧ wl = w)
  case atStart => exact ⟨0, rfl, rfl, Nat.zero_le _, Nat.zero_le _, H0, rfl⟩
  case round =>
    clear H0
    obtain ⟨k, rfl, hgk, hk, hkb, HR, hw⟩ := hrel
    subst hw
    have HK := Lib.hid hgk
    clear hgk
    by_cases hlt : k < a.length
    · obtain ⟨ad, rfl, hca⟩ := numsAt_cell HA.out k hlt
      have y0 : (0 : Int) ≤ (k : Int) := by omega
      have y1 : (k : Int) < (a.length : Int) := by omega
      have hr := HR.out
      rw [List.drop_eq_getElem_cons hlt] at hr
      by_cases hlt2 : k < b.length
      · obtain ⟨bd, rfl, hcb⟩ := numsAt_cell HB.out k hlt2
        have y2 : (k : Int) < (b.length : Int) := by omega
        have d1 : decide (k ≥ b.length) = false := decide_eq_false (by omega)
        rw [List.drop_eq_getElem_cons hlt2, cmpL_eq] at hr
        generalize a[k] = x at hr hca
        generalize b[k] = y at hr hcb
        have HCM := Lib.hid (cmp_u32 x y)
        generalize cmpI x y = z at hr HCM
        unfold orI at hr
        clear HR
        by_cases hz : z = 0
        · have d2 : (z != 0) = false := by simp [hz]
          rw [if_pos hz] at hr
          have HR := Lib.hid hr
          clear hr hz
          go_wp2_with fail
          refine (HCM.out _).mono ?_
          rintro e w' ⟨rfl, rfl⟩
          go_wp2_with fail
          go_roundg (a.length - (k + 1))
          case measure => rw [HK.out]; omega
          case rel => exact ⟨k + 1, by go_num, rfl, by omega, by omega, Lib.hid HR.out, rfl⟩
        · have d2 : (z != 0) = true := by simp [hz]
          rw [if_neg hz] at hr
          have HR := Lib.hid hr
          clear hr hz
          go_wp2_with fail
          refine (HCM.out _).mono ?_
          rintro e w' ⟨rfl, rfl⟩
          go_wp2_with fail
          go_ret
          exact ⟨ei HR.out, rfl⟩
      · have d1 : decide (k ≥ b.length) = true := decide_eq_true (by omega)
        rw [List.drop_eq_nil_of_le (show b.length ≤ k by omega), cmpL] at hr
        have HQ := Lib.hid hr
        clear hr HR
        go_wp2_with fail
        go_ret
        exact ⟨ei HQ.out, rfl⟩
    · have d0 : decide (k < a.length) = false := decide_eq_false hlt
      have hr := HR.out
      rw [List.drop_eq_nil_of_le (show a.length ≤ k by omega)] at hr
      by_cases hlt2 : k < b.length
      · rw [List.drop_eq_getElem_cons hlt2, cmpL] at hr
        have d1 : decide (a.length < b.length) = true := decide_eq_true (by omega)
        have HQ := Lib.hid hr
        clear hr HR
        go_wp2_with fail
        go_ret
        exact ⟨ei HQ.out, rfl⟩
      · rw [List.drop_eq_nil_of_le (show b.length ≤ k by omega), cmpL] at hr
        have d1 : decide (a.length < b.length) = false := decide_eq_false (by omega)
        have HQ := Lib.hid hr
        clear hr HR
        go_wp2_with fail
        go_ret
        exact ⟨ei HQ.out, rfl⟩
end Go.Proofs.YtgapeacflkfmdaaGreatDoor
namespace Go.Proofs.YtgapeacflkfmdaaGreatDoor
open Go.RowKit Go.Proofs.YtgapeacflkfmdaaGreatDoorW.PrintWords

def OrdPost (w : World) (r : Int) (e : Ending) (w' : World) : Prop := e = .returned (.int .i64 r) ∧ Below w.heap.size w w'
/-- The two terms in blocks of their own. -/
theorem two_boxes (w : World) (a b : Tm) (v4 v5 u4 u5 : Value) :
    ∃ w1, w1 = (w.alloc (.cells #[.int .i64 a.kd, .int .i64 a.it, .string a.tx, .int .u32 a.cr, v4, v5] 27)).alloc (.cells #[.int .i64 b.kd, .int .i64 b.it, .string b.tx, .int .u32 b.cr, u4, u5] 27) ∧
      TmAt w1 w.heap.size a v4 v5 ∧ TmAt w1 (w.heap.size + 1) b u4 u5 ∧ Below w.heap.size w w1 := by
  refine ⟨_, rfl, ?_, ?_, below_alloc (below_alloc (Below.refl _ _) _) _⟩
  · exact (TmAt.new w a v4 v5).below (below_alloc (Below.refl _ _) _) (by simp)
  · have h := TmAt.new (w.alloc (.cells #[.int .i64 a.kd, .int .i64 a.it, .string a.tx, .int .u32 a.cr, v4, v5] 27)) b u4 u5
    simpa using h
/-- Terms of different kinds. -/
theorem order_ne (a b : Tm) (A4 A5 B4 B5 : Option Addr) (c4 c5 d4 d5 : Nat) (w : World) (h : a.kd ≠ b.kd) :
    Calls Tryz.prog 45 #[tmV a (.slice A4 a.nums.length c4) (.slice A5 a.args.length c5), tmV b (.slice B4 b.nums.length d4) (.slice B5 b.args.length d5)] w (OrdPost w (ordT a b)) := by
  have e : ordT a b = cmpI a.kd b.kd := by rw [ordT_eq, if_pos h]
  rw [e]
  have HC := Lib.hid (cmp_kind a.kd b.kd)
  generalize cmpI a.kd b.kd = C at HC ⊢
  have dn : (a.kd != b.kd) = true := bne_iff_ne.2 h
  clear e
  obtain ⟨w1, hw1, hTa, hTb, hB1⟩ := two_boxes w a b (.slice A4 a.nums.length c4) (.slice A5 a.args.length c5) (.slice B4 b.nums.length d4) (.slice B5 b.args.length d5)
  unfold tmV
  go_enter Tryz.func45, Tryz.ntmps45
  go_upto_region 1 with (fail)
  rw [← hw1]
  have hsz1 : w.heap.size + 1 < w1.heap.size := hTb.lt
  clear hw1
  have HTa := Lib.hid hTa
  have HTb := Lib.hid hTb
  have HB1 := Lib.hid hB1
  clear hTa hTb hB1
  have a0 := HTa.out.c0
  have b0 := HTb.out.c0
  go_wp2_with fail
  refine (HC.out _).mono ?_
  rintro e w' ⟨rfl, rfl⟩
  go_wp2_with fail
  go_ret
  exact ⟨rfl, HB1.out⟩

/-- What order says of a term held against any other. -/
def OrdSays (a : Tm) : Prop := ∀ (b : Tm) (A4 A5 B4 B5 : Option Addr) (c4 c5 d4 d5 : Nat) (w : World), TmR w a A4 c4 A5 c5 → TmR w b B4 d4 B5 d5 → okT a = true → okT b = true →
  Calls Tryz.prog 45 #[tmV a (.slice A4 a.nums.length c4) (.slice A5 a.args.length c5), tmV b (.slice B4 b.nums.length d4) (.slice B5 b.args.length d5)] w (OrdPost w (ordT a b))
/-- An element's cells, in a later world. -/
theorem elem_at {w W : World} (hB : Below w.heap.size w W) {A : Option Addr} {l : List Tm} (h : kTm.C w A l.length l) (k : Nat) (hk : k < l.length) :
    ∃ ad A4 c4 A5 c5, A = some ad ∧ W.cell? (ad.add (k * 6)) = some (.int .i64 l[k].kd) ∧ W.cell? ⟨(ad.add (k * 6)).block, (ad.add (k * 6)).off + 1, none⟩ = some (.int .i64 l[k].it) ∧
    W.cell? ⟨(ad.add (k * 6)).block, (ad.add (k * 6)).off + 2, none⟩ = some (.string l[k].tx) ∧ W.cell? ⟨(ad.add (k * 6)).block, (ad.add (k * 6)).off + 3, none⟩ = some (.int .u32 l[k].cr) ∧ W.cell? ⟨(ad.add (k * 6)).block, (ad.add (k * 6)).off + 4, none⟩ = some (.slice A4 l[k].nums.length c4) ∧
    W.cell? ⟨(ad.add (k * 6)).block, (ad.add (k * 6)).off + 5, none⟩ = some (.slice A5 l[k].args.length c5) ∧ TmR W l[k] A4 c4 A5 c5 := by
  obtain ⟨ad, A4, c4, A5, c5, hA, q0, q1, q2, q3, q4, q5, hTR⟩ := atTm (Kd.C_below h hB) (k : Int) (by omega) (by omega)
  rw [(rdTm_mem hk).1] at q0 q1 q2 q3 q4 q5 hTR
  simp only [Int.toNat_natCast] at q0 q1 q2 q3 q4 q5
  exact ⟨ad, A4, c4, A5, c5, hA, q0, q1, q2, q3, q4, q5, hTR⟩
set_option maxRecDepth 100000 in
set_option maxHeartbeats 4000000 in
theorem compareFunc (l m : List Tm) (A B : Option Addr) (c d : Nat) (w : World) (hA : kTm.C w A l.length l) (hB : kTm.C w B m.length m) (hIH : ∀ x ∈ l, OrdSays x) (hl : okL l = true) (hm : okL m = true) :
    Calls Tryz.prog 94 #[.slice A l.length c, .slice B m.length d, .func (.func 45) #[] #[]] w (OrdPost w (ordP l m)) := by
  have hE := callFunc_in Tryz.func45 (by kernel_rfl) rfl
  obtain ⟨R, hR⟩ : ∃ R, R = ordP l m := ⟨_, rfl⟩
  rw [← hR]
  have H0 : Hid (ordP (l.drop 0) (m.drop 0) = R) := Lib.hid hR.symm
  have HA := Lib.hid hA
  have HB := Lib.hid hB
  have HI := Lib.hid hIH
  have HL := Lib.hid hl
  have HM := Lib.hid hm
  have hla := hA.2.1
  have hlb := hB.2.1
  clear hR hA hB hIH hl hm
  go_enter Tryz.func94, Tryz.ntmps94
  go_wp2_with fail
  go_loopg [13] l.length (fun gk vi wl => ∃ k : Nat, vi = .int .i64 (k : Int) ∧ gk = l.length - k ∧ k ≤ l.length ∧ k ≤ m.length ∧ Hid (ordP (l.drop k) (m.drop k) = R) ∧ Hid (Below w.heap.size w wl))
  case atStart => exact ⟨0, rfl, rfl, Nat.zero_le _, Nat.zero_le _, H0, Lib.hid (Below.refl _ _)⟩
  case round =>
    clear H0
    obtain ⟨k, rfl, hgk, hk, hkb, HR, HW⟩ := hrel
    have HK := Lib.hid hgk
    clear hgk
    by_cases hlt : k < l.length
    · have y0 : (0 : Int) ≤ (k : Int) := by omega
      have y1 : (k : Int) < (l.length : Int) := by omega
      have hr := HR.out
      rw [List.drop_eq_getElem_cons hlt] at hr
      obtain ⟨ad, A4, c4, A5, c5, rfl, a0, a1, a2, a3, a4, a5, hTa⟩ := elem_at HW.out HA.out k hlt
      have HXM := Lib.hid (HI.out l[k] (List.getElem_mem _))
      have HXO := Lib.hid (okL_mem HL.out (List.getElem_mem hlt))
      obtain ⟨w5, hw5⟩ : ∃ W, W = wr.alloc (.cells #[.int .i64 l[k].kd, .int .i64 l[k].it, .string l[k].tx, .int .u32 l[k].cr, .slice A4 l[k].nums.length c4, .slice A5 l[k].args.length c5] 27) := ⟨_, rfl⟩
      have hB5 : Below wr.heap.size wr w5 := by rw [hw5]; exact below_alloc (Below.refl _ _) _
      have HW5 : Hid (Below w.heap.size w w5) := Lib.hid (trans_below HW.out hB5)
      have hX5 : TmAt w5 wr.heap.size l[k] (.slice A4 l[k].nums.length c4) (.slice A5 l[k].args.length c5) := by rw [hw5]; exact TmAt.new _ _ _ _
      have HX5 := Lib.hid hX5
      have hT5 := hTa.below hB5
      have HE5 := Lib.hid hw5
      clear hX5 hTa hw5
      by_cases hlt2 : k < m.length
      · obtain ⟨bd, B4, d4, B5, d5, rfl, b0, b1, b2, b3, b4, b5, hTb⟩ := elem_at HW5.out HB.out k hlt2
        have HYO := Lib.hid (okL_mem HM.out (List.getElem_mem hlt2))
        have y2 : (k : Int) < (m.length : Int) := by omega
        have d1 : decide (k ≥ m.length) = false := decide_eq_false (by omega)
        rw [List.drop_eq_getElem_cons hlt2, ordP] at hr
        generalize l[k] = x at hr a0 a1 a2 a3 a4 a5 hT5 HXM HXO HX5 HE5
        generalize m[k] = y at hr b0 b1 b2 b3 b4 b5 hTb HYO
        have HRR := Lib.hid hr
        obtain ⟨w6, hw6⟩ : ∃ W, W = w5.alloc (.cells #[.int .i64 y.kd, .int .i64 y.it, .string y.tx, .int .u32 y.cr, .slice B4 y.nums.length d4, .slice B5 y.args.length d5] 27) := ⟨_, rfl⟩
        have hB6 : Below w5.heap.size w5 w6 := by rw [hw6]; exact below_alloc (Below.refl _ _) _
        have hX6 := HX5.out.below hB6 HX5.out.lt
        have hY6 : TmAt w6 w5.heap.size y (.slice B4 y.nums.length d4) (.slice B5 y.args.length d5) := by rw [hw6]; exact TmAt.new _ _ _ _
        have HT6 := Lib.hid (hT5.below hB6)
        have HU6 := Lib.hid (hTb.below hB6)
        have HW6 : Hid (Below w.heap.size w w6) := Lib.hid (trans_below HW5.out hB6)
        have HE6 := Lib.hid hw6
        clear hT5 hTb hr HR hB5 hB6 hw6
        go_upto_region 6 with (fail)
        rw [← HE5.out]
        clear a0 a1 a2 a3 a4 a5
        go_upto_region 7 with (fail)
        rw [← HE6.out]
        clear b0 b1 b2 b3 b4 b5
        have p0 := hX6.c0
        have p1 := hX6.c1
        have p2 := hX6.c2
        have p3 := hX6.c3
        have p4 := hX6.c4
        have p5 := hX6.c5
        have q0 := hY6.c0
        have q1 := hY6.c1
        have q2 := hY6.c2
        have q3 := hY6.c3
        have q4 := hY6.c4
        have q5 := hY6.c5
        clear hX6 hY6 HX5
        go_wp2_with fail
        refine (HXM.out y A4 A5 B4 B5 c4 c5 d4 d5 _ HT6.out HU6.out HXO.out HYO.out).mono ?_
        rintro e w7 ⟨rfl, hB7⟩
        have HW7 : Hid (Below w.heap.size w w7) := Lib.hid (trans_below HW6.out hB7)
        have hr := HRR.out
        clear hB7 p0 p1 p2 p3 p4 p5 q0 q1 q2 q3 q4 q5 HRR
        generalize ordT x y = z at hr ⊢
        unfold orI at hr
        by_cases hz : z = 0
        · have d2 : (z != 0) = false := by simp [hz]
          rw [if_pos hz] at hr
          have HR := Lib.hid hr
          clear hr hz
          go_wp2_with fail
          go_roundg (l.length - (k + 1))
          case measure => rw [HK.out]; omega
          case rel => exact ⟨k + 1, by go_num, rfl, by omega, by omega, Lib.hid HR.out, HW7⟩
        · have d2 : (z != 0) = true := by simp [hz]
          rw [if_neg hz] at hr
          have HR := Lib.hid hr
          clear hr hz
          go_wp2_with fail
          go_ret
          exact ⟨ei HR.out, HW7.out⟩
      · have d1 : decide (k ≥ m.length) = true := decide_eq_true (by omega)
        rw [List.drop_eq_nil_of_le (show m.length ≤ k by omega), ordP] at hr
        have HQ := Lib.hid hr
        clear hr HR
        go_upto_region 4 with (fail)
        rw [← HE5.out]
        clear a0 a1 a2 a3 a4 a5
        go_wp2_with fail
        go_ret
        exact ⟨ei HQ.out, HW5.out⟩
    · have d0 : decide (k < l.length) = false := decide_eq_false hlt
      have hr := HR.out
      rw [List.drop_eq_nil_of_le (show l.length ≤ k by omega)] at hr
      by_cases hlt2 : k < m.length
      · rw [List.drop_eq_getElem_cons hlt2, ordP] at hr
        have d1 : decide (l.length < m.length) = true := decide_eq_true (by omega)
        have HQ := Lib.hid hr
        clear hr HR
        go_wp2_with fail
        go_ret
        exact ⟨ei HQ.out, HW.out⟩
      · rw [List.drop_eq_nil_of_le (show m.length ≤ k by omega), ordP] at hr
        have d1 : decide (l.length < m.length) = false := decide_eq_false (by omega)
        have HQ := Lib.hid hr
        clear hr HR
        go_wp2_with fail
        go_ret
        exact ⟨ei HQ.out, HW.out⟩
end Go.Proofs.YtgapeacflkfmdaaGreatDoor
namespace Go.Proofs.YtgapeacflkfmdaaGreatDoor
open Go.RowKit Go.Sort Go.Proofs.YtgapeacflkfmdaaGreatDoorW.PrintWords

/-- What is left of a list: its only element, or a list. -/
def leftT (l : List Tm) : Tm := if l.length = 1 then rdTm l 0 else ⟨7, 0, ⟨#[]⟩, 0, [], l⟩
def LeftPost (w : World) (t : Tm) (e : Ending) (w' : World) : Prop := ∃ v, e = .returned v ∧ TmIs w' t v ∧ Below w.heap.size w w'
theorem resTm {f : Func} {p : Tmp} (hr : f.results = #[.cell p 27]) (tmps : Array Value) (W : World) (rb : Nat) (t : Tm) (v4 v5 : Value) (hp : tmps.getD p undef = .pointer (some ⟨rb, 0, none⟩)) (h : TmAt W rb t v4 v5) :
    (results f tmps).run Tryz.prog W = .ok (tmV t v4 v5) W := by
  have hp' : tmps[p]?.getD undef = .pointer (some ⟨rb, 0, none⟩) := by simpa using hp
  obtain ⟨c0, c1, c2, c3, c4, c5, _, _, _, _, _, _⟩ := h
  simp [results, hr, hp', asAddr, go_sem, c0, c1, c2, c3, c4, c5, tmV]
theorem TmAt.put {W : World} {b : Nat} {t : Tm} {v4 v5 : Value} (h : TmAt W b t v4 v5) (x : Tm) (u4 u5 : Value) :
    TmAt ((((((W.setCell ⟨b, 0, none⟩ (.int .i64 x.kd)).setCell ⟨b, 1, none⟩ (.int .i64 x.it)).setCell ⟨b, 2, none⟩ (.string x.tx)).setCell ⟨b, 3, none⟩ (.int .u32 x.cr)).setCell ⟨b, 4, none⟩ u4).setCell ⟨b, 5, none⟩ u5) b x u4 u5 := by
  obtain ⟨c0, c1, c2, c3, c4, c5, f0, f1, f2, f3, f4, f5⟩ := h
  constructor <;> simp [World.cell?_setCell_other, World.cell?_setCell_same, World.frozen?_setCell, *]
set_option maxRecDepth 100000 in
theorem left_any (l : List Tm) (A : Option Addr) (c : Nat) (w : World) (hA : kTm.C w A l.length l) (hc : l.length ≤ c) :
    Calls Tryz.prog 148 #[.slice A l.length c] w (LeftPost w (leftT l)) := by
  have hB0 := below_alloc (Below.refl w.heap.size w) (.cells #[.int .i64 0, .int .i64 0, .string ⟨#[]⟩, .int .u32 0, .slice none 0 0, .slice none 0 0] 27)
  have HA := Lib.hid hA
  have HC := Lib.hid hc
  by_cases h1 : l.length = 1
  · have e : leftT l = rdTm l 0 := by unfold leftT; rw [if_pos h1]
    rw [e]
    have d1 : ((l.length : Int) == 1) = true := beq_iff_eq.2 (by omega)
    obtain ⟨ad, A4, c4, A5, c5, rfl, q0, q1, q2, q3, q4, q5, hT⟩ := atTm hA 0 (by decide) (by omega)
    have ez : ad.add 0 = ad := by simp [Addr.add]
    simp only [Int.toNat_zero, Nat.zero_mul, ez] at q0 q1 q2 q3 q4 q5
    replace q0 := (hB0.cell (World.block_lt_of_cell? w _ q0)).trans q0
    replace q1 := (hB0.cell (World.block_lt_of_cell? w _ q1)).trans q1
    replace q2 := (hB0.cell (World.block_lt_of_cell? w _ q2)).trans q2
    replace q3 := (hB0.cell (World.block_lt_of_cell? w _ q3)).trans q3
    replace q4 := (hB0.cell (World.block_lt_of_cell? w _ q4)).trans q4
    replace q5 := (hB0.cell (World.block_lt_of_cell? w _ q5)).trans q5
    generalize rdTm l 0 = x at q0 q1 q2 q3 q4 q5 hT
    have y0 : (0 : Int) < (l.length : Int) := by omega
    have HT := Lib.hid hT
    clear e ez hT hA hc hB0
    go_enter Tryz.func148, Tryz.ntmps148
    go_wp2_with fail
    refine bodyPost_ret (resTm rfl _ _ w.heap.size x _ _ (by rfl) (TmAt.new w x _ _)) rfl ?_
    exact ⟨_, rfl, ⟨A4, c4, A5, c5, rfl, HT.out.below (below_alloc (Below.refl _ _) _)⟩, below_alloc (Below.refl _ _) _⟩
  · have e : leftT l = ⟨7, 0, ⟨#[]⟩, 0, [], l⟩ := by unfold leftT; rw [if_neg h1]
    rw [e]
    have d1 : ((l.length : Int) == 1) = false := beq_eq_false_iff_ne.2 (by omega)
    have HT : Hid (TmR w ⟨7, 0, ⟨#[]⟩, 0, [], l⟩ none 0 A c) := Lib.hid ⟨Nat.le_refl _, ⟨rfl, by simp, fun h => absurd h (Nat.lt_irrefl 0)⟩, hc, hA⟩
    clear e hA hc hB0
    go_enter Tryz.func148, Tryz.ntmps148
    go_wp2_with fail
    refine bodyPost_ret (resTm rfl _ _ w.heap.size ⟨7, 0, ⟨#[]⟩, 0, [], l⟩ _ _ (by rfl) (TmAt.new w ⟨7, 0, ⟨#[]⟩, 0, [], l⟩ _ _)) rfl ?_
    exact ⟨_, rfl, ⟨none, 0, A, c, rfl, HT.out.below (below_alloc (Below.refl _ _) _)⟩, below_alloc (Below.refl _ _) _⟩

/-! ### lists -/
theorem ordL_step {l m : List Tm} (h1 : 1 < l.length) (h2 : 1 < m.length) : ordL l m = orI (ordT (rdTm l 0) (rdTm m 0)) (ordL (l.drop 1) (m.drop 1)) := by
  match l, m, h1, h2 with
  | a :: x :: xs, b :: y :: ys, _, _ => rw [ordL]; rfl
theorem ordL_left {l m : List Tm} (hl : tailOk l) (hm : tailOk m) (h : ¬ (1 < l.length ∧ 1 < m.length)) : ordL l m = ordT (leftT l) (leftT m) := by
  match l, m with
  | [], _ => exact absurd rfl hl.1
  | _ :: _, [] => exact absurd rfl hm.1
  | [a], [b] => rw [ordL]; rfl
  | [a], b :: y :: ys =>
    have e1 : leftT [a] = a := rfl
    have e2 : leftT (b :: y :: ys) = ⟨7, 0, ⟨#[]⟩, 0, [], b :: y :: ys⟩ := by unfold leftT; rw [if_neg (by simp)]
    rw [ordL, e1, e2, ordT_eq, if_pos (show a.kd ≠ 7 from hl.one)]
  | a :: x :: xs, [b] =>
    have e1 : leftT [b] = b := rfl
    have e2 : leftT (a :: x :: xs) = ⟨7, 0, ⟨#[]⟩, 0, [], a :: x :: xs⟩ := by unfold leftT; rw [if_neg (by simp)]
    rw [ordL, e1, e2, ordT_eq, if_pos (show (7 : Int) ≠ b.kd from fun e => hm.one e.symm)]
  | a :: x :: xs, b :: y :: ys => exact absurd ⟨by simp, by simp⟩ h
theorem tailOk.drop {l : List Tm} (h : tailOk l) (h1 : 1 < l.length) : tailOk (l.drop 1) := by
  match l, h1 with
  | a :: x :: xs, _ => exact h.rest
theorem okL_drop {l : List Tm} (h : okL l = true) : okL (l.drop 1) = true := by
  cases l with
  | nil => exact h
  | cons a l => rw [okL, Bool.and_eq_true] at h; exact h.2
theorem calls_grow {w : World} {f : FuncId} {args : Array Value} {r : Int} (h : ∀ W, Below w.heap.size w W → Calls Tryz.prog f args W (OrdPost W r)) (d : Nat) (os : Array Obj) :
    Calls Tryz.prog f args (grow (redrawn w d) os) fun e w'' => e = .returned (.int .i64 r) ∧ ∃ p : Regrown, w'' = grow (redrawn w p.d) p.os := Calls.regrown_of (h _ (below_regrown w d os))
theorem left_order (l m : List Tm) (hI : ∀ x ∈ l, OrdSays x) (hlo : okL l = true) (hmo : okL m = true) (htl : tailOk l) (htm : tailOk m) (h : ¬ (1 < l.length ∧ 1 < m.length)) (v u : Value) (W : World) (hv : TmIs W (leftT l) v) (hu : TmIs W (leftT m) u) :
    Calls Tryz.prog 45 #[v, u] W (OrdPost W (ordL l m)) := by
  obtain ⟨A4, c4, A5, c5, rfl, hT⟩ := hv
  obtain ⟨B4, d4, B5, d5, rfl, hU⟩ := hu
  rw [ordL_left htl htm h]
  match l, m with
  | [], _ => exact absurd rfl htl.1
  | _ :: _, [] => exact absurd rfl htm.1
  | [a], [b] => exact hI a (by simp) b A4 A5 B4 B5 c4 c5 d4 d5 W hT hU (okL_mem hlo (by simp)) (okL_mem hmo (by simp))
  | [a], b :: y :: ys =>
    have e2 : leftT (b :: y :: ys) = ⟨7, 0, ⟨#[]⟩, 0, [], b :: y :: ys⟩ := by unfold leftT; rw [if_neg (by simp)]
    exact order_ne _ _ A4 A5 B4 B5 c4 c5 d4 d5 W (by rw [e2]; exact htl.one)
  | a :: x :: xs, [b] =>
    have e2 : leftT (a :: x :: xs) = ⟨7, 0, ⟨#[]⟩, 0, [], a :: x :: xs⟩ := by unfold leftT; rw [if_neg (by simp)]
    exact order_ne _ _ A4 A5 B4 B5 c4 c5 d4 d5 W (by rw [e2]; exact fun e => htm.one e.symm)
  | a :: x :: xs, b :: y :: ys => exact absurd ⟨by simp, by simp⟩ h
set_option maxRecDepth 100000 in
set_option maxHeartbeats 8000000 in
theorem lists_any (l0 m0 : List Tm) (A0 B0 : Option Addr) (c0 d0 : Nat) (w : World) (hA : kTm.C w A0 l0.length l0) (hc : l0.length ≤ c0) (hB : kTm.C w B0 m0.length m0) (hd : m0.length ≤ d0) (hIH : ∀ x ∈ l0, OrdSays x) (hl : okL l0 = true) (hm : okL m0 = true) (htl : tailOk l0) (htm : tailOk m0) :
    Calls Tryz.prog 95 #[.slice A0 l0.length c0, .slice B0 m0.length d0] w (OrdPost w (ordL l0 m0)) := by
  obtain ⟨R, hR⟩ : ∃ R, R = ordL l0 m0 := ⟨_, rfl⟩
  rw [← hR]
  have H0 : Hid (ordL l0 m0 = R ∧ kTm.C w A0 l0.length l0 ∧ kTm.C w B0 m0.length m0 ∧ (∀ x ∈ l0, OrdSays x) ∧ okL l0 = true ∧ okL m0 = true ∧ tailOk l0 ∧ tailOk m0) := Lib.hid ⟨hR.symm, hA, hB, hIH, hl, hm, htl, htm⟩
  clear hR hA hB hIH hl hm htl htm
  go_enter Tryz.func95, Tryz.ntmps95
  go_wp2_with fail
  go_loopg [0, 1] l0.length (fun gk va vb wl => ∃ (l m : List Tm) (A B : Option Addr) (c d : Nat), va = .slice A l.length c ∧ vb = .slice B m.length d ∧ gk = l.length ∧ l.length ≤ c ∧ m.length ≤ d ∧ Hid (ordL l m = R ∧ kTm.C w A l.length l ∧ kTm.C w B m.length m ∧ (∀ x ∈ l, OrdSays x) ∧ okL l = true ∧ okL m = true ∧ tailOk l ∧ tailOk m) ∧ Hid (Below w.heap.size w wl))
  case atStart => exact ⟨l0, m0, A0, B0, c0, d0, rfl, rfl, rfl, hc, hd, H0, Lib.hid (Below.refl _ _)⟩
  case round =>
    clear H0 hc hd
    obtain ⟨l, m, A, B, c, d, rfl, rfl, hgk, hc, hd, HI, HW⟩ := hrel
    have HK := Lib.hid hgk
    clear hgk
    by_cases h1 : (l.length : Int) > 1
    · have d1 : decide ((l.length : Int) > 1) = true := decide_eq_true h1
      by_cases h2 : (m.length : Int) > 1
      · have d2 : decide ((m.length : Int) > 1) = true := decide_eq_true h2
        obtain ⟨ho, hA, hB, hI, hlo, hmo, htl, htm⟩ := HI.out
        rw [ordL_step (by omega) (by omega)] at ho
        have hA' := Kd.C_below hA HW.out
        have hB' := Kd.C_below hB HW.out
        obtain ⟨ad, A4, c4, A5, c5, rfl, a0, a1, a2, a3, a4, a5, hTa⟩ := atTm hA' 0 (by decide) (by omega)
        obtain ⟨bd, B4, d4, B5, d5, rfl, b0, b1, b2, b3, b4, b5, hTb⟩ := atTm hB' 0 (by decide) (by omega)
        have ez : ad.add 0 = ad := by simp [Addr.add]
        have ey : bd.add 0 = bd := by simp [Addr.add]
        simp only [Int.toNat_zero, Nat.zero_mul, ez, ey] at a0 a1 a2 a3 a4 a5 b0 b1 b2 b3 b4 b5
        have hxm : rdTm l 0 ∈ l := (rdTm_mem (l := l) (k := 0) (by omega)).2
        have hym : rdTm m 0 ∈ m := (rdTm_mem (l := m) (k := 0) (by omega)).2
        have HX := Lib.hid (hI _ hxm)
        have HXO := Lib.hid (okL_mem hlo hxm)
        have HYO := Lib.hid (okL_mem hmo hym)
        clear ez ey hxm hym
        generalize rdTm l 0 = x at a0 a1 a2 a3 a4 a5 hTa HX HXO ho
        generalize rdTm m 0 = y at b0 b1 b2 b3 b4 b5 hTb HYO ho
        have HCC := Lib.hid fun dd os => calls_grow (w := wr) (f := 45) (args := #[tmV x (.slice A4 x.nums.length c4) (.slice A5 x.args.length c5), tmV y (.slice B4 y.nums.length d4) (.slice B5 y.args.length d5)]) (r := ordT x y) (fun W hW => HX.out y A4 A5 B4 B5 c4 c5 d4 d5 W (hTa.below hW) (hTb.below hW) HXO.out HYO.out) dd os
        have HO := Lib.hid ho
        have y0 : (0 : Int) < (l.length : Int) := by omega
        have y1 : (0 : Int) < (m.length : Int) := by omega
        have k0 := cell_regrown a0
        have k1 := cell_regrown a1
        have k2 := cell_regrown a2
        have k3 := cell_regrown a3
        have k4 := cell_regrown a4
        have k5 := cell_regrown a5
        have q0 := cell_regrown b0
        have q1 := cell_regrown b1
        have q2 := cell_regrown b2
        have q3 := cell_regrown b3
        have q4 := cell_regrown b4
        have q5 := cell_regrown b5
        clear a0 a1 a2 a3 a4 a5 b0 b1 b2 b3 b4 b5 hTa hTb ho hA hB hA' hB' hI hlo hmo htl htm
        go_wp2_with fail
        refine wp_region_quiet_below (by kernel_rfl) (by kernel_rfl) ?_
        repeat (go_big_quiet_step (exact HCC.out _ _))
        refine wpQuiet_nil ?_
        intro _ hw'
        obtain ⟨⟨dq, osq⟩, hw''⟩ := hw'
        subst hw''
        have hwq := below_regrown wr dq osq
        generalize grow (redrawn wr dq) osq = wq at hwq ⊢
        have HWQ : Hid (Below w.heap.size w wq) := Lib.hid (trans_below HW.out hwq)
        have ho := HO.out
        clear k0 k1 k2 k3 k4 k5 q0 q1 q2 q3 q4 q5 HO HCC HXO HYO HX hwq
        generalize ordT x y = z at ho ⊢
        unfold orI at ho
        by_cases hz : z = 0
        · have d3 : (z != 0) = false := by simp [hz]
          rw [if_pos hz] at ho
          obtain ⟨_, hA, hB, hI, hlo, hmo, htl, htm⟩ := HI.out
          have HN : Hid (ordL (l.drop 1) (m.drop 1) = R ∧ kTm.C w (if c = 1 then some ad else (some ad).map (·.add (1 * kTm.sz))) (l.drop 1).length (l.drop 1) ∧ kTm.C w (if d = 1 then some bd else (some bd).map (·.add (1 * kTm.sz))) (m.drop 1).length (m.drop 1) ∧ (∀ x ∈ l.drop 1, OrdSays x) ∧ okL (l.drop 1) = true ∧ okL (m.drop 1) = true ∧ tailOk (l.drop 1) ∧ tailOk (m.drop 1)) := Lib.hid ⟨ho, Kd.C_drop hA (by omega) hc, Kd.C_drop hB (by omega) hd, fun x hx => hI x (List.mem_of_mem_drop hx), okL_drop hlo, okL_drop hmo, htl.drop (by omega), htm.drop (by omega)⟩
          clear hA hB hI hlo hmo htl htm HI ho hz
          go_wp2_with fail
          go_quiet (fail)
          rw [if_neg (show ¬ c = 1 by omega), if_neg (show ¬ d = 1 by omega)] at HN
          go_wp2_with fail
          go_roundg (l.length - 1)
          case measure => rw [HK.out]; omega
          case rel => exact ⟨l.drop 1, m.drop 1, _, _, c - 1, d - 1, by rw [List.length_drop]; rfl, by rw [List.length_drop]; rfl, by rw [List.length_drop], by rw [List.length_drop]; omega, by rw [List.length_drop]; omega, HN, Lib.hid (pw_below_drewN HWQ.out _)⟩
        · have d3 : (z != 0) = true := bne_iff_ne.2 hz
          rw [if_neg hz] at ho
          subst ho
          go_wp2_with fail
          go_ret
          exact ⟨rfl, HWQ.out⟩
      · have d2 : decide ((m.length : Int) > 1) = false := decide_eq_false h2
        obtain ⟨ho, hA, hB, hI, hlo, hmo, htl, htm⟩ := HI.out
        have HLA := Lib.hid (left_any l A c _ (Kd.C_below hA HW.out) hc)
        have HLB := Lib.hid fun W (hW : Below wr.heap.size wr W) => left_any m B d W (Kd.C_below (Kd.C_below hB HW.out) hW) hd
        have HOR := Lib.hid (left_order l m hI hlo hmo htl htm (by omega))
        rw [ho] at HOR
        clear ho hA hB hI hlo hmo htl htm HI
        go_wp2_with fail
        refine (HLA.out).mono ?_
        rintro e W1 ⟨v1, rfl, hv1, hb1⟩
        have HV1 := Lib.hid hv1
        have HB1 := Lib.hid hb1
        clear hv1 hb1
        go_wp2_with fail
        refine (HLB.out W1 HB1.out).mono ?_
        rintro e W2 ⟨v2, rfl, hv2, hb2⟩
        have HV2 := Lib.hid hv2
        have HB2 := Lib.hid hb2
        clear hv2 hb2
        go_wp2_with fail
        refine (HOR.out v1 v2 W2 (HV1.out.below HB2.out) HV2.out).mono ?_
        rintro e W3 ⟨rfl, hb3⟩
        have HB3 : Hid (Below w.heap.size w W3) := Lib.hid (trans_below (trans_below (trans_below HW.out HB1.out) HB2.out) hb3)
        clear hb3
        go_wp2_with fail
        go_ret
        exact ⟨rfl, HB3.out⟩
    · have d1 : decide ((l.length : Int) > 1) = false := decide_eq_false h1
      obtain ⟨ho, hA, hB, hI, hlo, hmo, htl, htm⟩ := HI.out
      have HLA := Lib.hid (left_any l A c _ (Kd.C_below hA HW.out) hc)
      have HLB := Lib.hid fun W (hW : Below wr.heap.size wr W) => left_any m B d W (Kd.C_below (Kd.C_below hB HW.out) hW) hd
      have HOR := Lib.hid (left_order l m hI hlo hmo htl htm (by omega))
      rw [ho] at HOR
      clear ho hA hB hI hlo hmo htl htm HI
      go_wp2_with fail
      refine (HLA.out).mono ?_
      rintro e W1 ⟨v1, rfl, hv1, hb1⟩
      have HV1 := Lib.hid hv1
      have HB1 := Lib.hid hb1
      clear hv1 hb1
      go_wp2_with fail
      refine (HLB.out W1 HB1.out).mono ?_
      rintro e W2 ⟨v2, rfl, hv2, hb2⟩
      have HV2 := Lib.hid hv2
      have HB2 := Lib.hid hb2
      clear hv2 hb2
      go_wp2_with fail
      refine (HOR.out v1 v2 W2 (HV1.out.below HB2.out) HV2.out).mono ?_
      rintro e W3 ⟨rfl, hb3⟩
      have HB3 : Hid (Below w.heap.size w W3) := Lib.hid (trans_below (trans_below (trans_below HW.out HB1.out) HB2.out) hb3)
      clear hb3
      go_wp2_with fail
      go_ret
      exact ⟨rfl, HB3.out⟩
end Go.Proofs.YtgapeacflkfmdaaGreatDoor
set_option linter.unusedSimpArgs false
namespace Go.Proofs.YtgapeacflkfmdaaGreatDoor
open Go.RowKit Go.Sort Go.Proofs.YtgapeacflkfmdaaGreatDoorW.PrintWords

theorem orI_right (x : Int) : orI x 0 = x := by unfold orI; split <;> simp_all
theorem cmp_Or2 (x y : Int) (W : World) (c : Nat) :
    Calls Tryz.prog 90 #[.slice (some ⟨W.heap.size, 0, none⟩) 2 c] (W.alloc (.cells #[.int .i64 x, .int .i64 y] 3)) fun e w' => e = .returned (.int .i64 (orI x y)) ∧ W.alloc (.cells #[.int .i64 x, .int .i64 y] 3) = w' := by
  have h := cmp_Or [x, y] W.heap.size 2 c (W.alloc (.cells #[.int .i64 x, .int .i64 y] 3)) rfl (by decide) (by
    intro j hj
    match j, hj with
    | 0, _ => simp
    | 1, _ => simp)
  rw [show [x, y].foldr orI 0 = orI x y by simp [orI_right]] at h
  exact h
theorem cmp_Or3 (x y z : Int) (W : World) (c : Nat) :
    Calls Tryz.prog 90 #[.slice (some ⟨W.heap.size, 0, none⟩) 3 c] (W.alloc (.cells #[.int .i64 x, .int .i64 y, .int .i64 z] 3)) fun e w' => e = .returned (.int .i64 (orI x (orI y z))) ∧ W.alloc (.cells #[.int .i64 x, .int .i64 y, .int .i64 z] 3) = w' := by
  have h := cmp_Or [x, y, z] W.heap.size 3 c (W.alloc (.cells #[.int .i64 x, .int .i64 y, .int .i64 z] 3)) rfl (by decide) (by
    intro j hj
    match j, hj with
    | 0, _ => simp
    | 1, _ => simp
    | 2, _ => simp)
  rw [show [x, y, z].foldr orI 0 = orI x (orI y z) by simp [orI_right]] at h
  exact h
set_option maxRecDepth 100000 in
theorem order_one (a b : Tm) (A4 A5 B4 B5 : Option Addr) (c4 c5 d4 d5 : Nat) (w : World) (hk : a.kd = b.kd) (k1 : a.kd = 1) :
    Calls Tryz.prog 45 #[tmV a (.slice A4 a.nums.length c4) (.slice A5 a.args.length c5), tmV b (.slice B4 b.nums.length d4) (.slice B5 b.args.length d5)] w (OrdPost w (ordT a b)) := by
  have e : ordT a b = ordK a b := by rw [ordT_orI, cmpI_zero.2 hk]; rfl
  have k2 : b.kd = 1 := by omega
  rw [e]
  unfold ordK
  simp only [k1, Int.reduceEq, if_true, if_false, true_or, or_true, or_false, false_or, reduceIte]
  have K1 := Lib.hid k1
  have K2 := Lib.hid k2
  clear e hk k1 k2
  obtain ⟨w1, hw1, hTa, hTb, hB1⟩ := two_boxes w a b (.slice A4 a.nums.length c4) (.slice A5 a.args.length c5) (.slice B4 b.nums.length d4) (.slice B5 b.args.length d5)
  unfold tmV
  go_enter Tryz.func45, Tryz.ntmps45
  go_upto_region 1 with (fail)
  rw [← hw1]
  have hsz1 : w.heap.size + 1 < w1.heap.size := hTb.lt
  clear hw1
  have HTa := Lib.hid hTa
  have HTb := Lib.hid hTb
  have HB1 := Lib.hid hB1
  clear hTa hTb hB1
  have a0 := HTa.out.c0
  have b0 := HTb.out.c0
  rw [K1.out] at a0
  rw [K2.out] at b0
  clear K1 K2
  have a1 := HTa.out.c1
  have b1 := HTb.out.c1
  go_wp2_with fail
  refine (cmp_i64 _ _ _).mono ?_
  rintro e w' ⟨rfl, rfl⟩
  go_wp2_with fail
  go_ret
  exact ⟨rfl, HB1.out⟩
set_option maxRecDepth 100000 in
theorem order_two (a b : Tm) (A4 A5 B4 B5 : Option Addr) (c4 c5 d4 d5 : Nat) (w : World) (hk : a.kd = b.kd) (k1 : a.kd = 2) :
    Calls Tryz.prog 45 #[tmV a (.slice A4 a.nums.length c4) (.slice A5 a.args.length c5), tmV b (.slice B4 b.nums.length d4) (.slice B5 b.args.length d5)] w (OrdPost w (ordT a b)) := by
  have e : ordT a b = ordK a b := by rw [ordT_orI, cmpI_zero.2 hk]; rfl
  have k2 : b.kd = 2 := by omega
  rw [e]
  unfold ordK
  simp only [k1, Int.reduceEq, if_true, if_false, true_or, or_true, or_false, false_or, reduceIte]
  have K1 := Lib.hid k1
  have K2 := Lib.hid k2
  clear e hk k1 k2
  obtain ⟨w1, hw1, hTa, hTb, hB1⟩ := two_boxes w a b (.slice A4 a.nums.length c4) (.slice A5 a.args.length c5) (.slice B4 b.nums.length d4) (.slice B5 b.args.length d5)
  unfold tmV
  go_enter Tryz.func45, Tryz.ntmps45
  go_upto_region 1 with (fail)
  rw [← hw1]
  have hsz1 : w.heap.size + 1 < w1.heap.size := hTb.lt
  clear hw1
  have HTa := Lib.hid hTa
  have HTb := Lib.hid hTb
  have HB1 := Lib.hid hB1
  clear hTa hTb hB1
  have a0 := HTa.out.c0
  have b0 := HTb.out.c0
  rw [K1.out] at a0
  rw [K2.out] at b0
  clear K1 K2
  have a2 := HTa.out.c2
  have b2 := HTb.out.c2
  go_wp2_with fail
  refine (cmp_string _ _ _).mono ?_
  rintro e w' ⟨rfl, rfl⟩
  go_wp2_with fail
  go_ret
  exact ⟨rfl, HB1.out⟩
set_option maxRecDepth 100000 in
theorem order_six (a b : Tm) (A4 A5 B4 B5 : Option Addr) (c4 c5 d4 d5 : Nat) (w : World) (hk : a.kd = b.kd) (k1 : a.kd = 6) :
    Calls Tryz.prog 45 #[tmV a (.slice A4 a.nums.length c4) (.slice A5 a.args.length c5), tmV b (.slice B4 b.nums.length d4) (.slice B5 b.args.length d5)] w (OrdPost w (ordT a b)) := by
  have e : ordT a b = ordK a b := by rw [ordT_orI, cmpI_zero.2 hk]; rfl
  have k2 : b.kd = 6 := by omega
  rw [e]
  unfold ordK
  simp only [k1, Int.reduceEq, if_true, if_false, true_or, or_true, or_false, false_or, reduceIte]
  have K1 := Lib.hid k1
  have K2 := Lib.hid k2
  clear e hk k1 k2
  obtain ⟨w1, hw1, hTa, hTb, hB1⟩ := two_boxes w a b (.slice A4 a.nums.length c4) (.slice A5 a.args.length c5) (.slice B4 b.nums.length d4) (.slice B5 b.args.length d5)
  unfold tmV
  go_enter Tryz.func45, Tryz.ntmps45
  go_upto_region 1 with (fail)
  rw [← hw1]
  have hsz1 : w.heap.size + 1 < w1.heap.size := hTb.lt
  clear hw1
  have HTa := Lib.hid hTa
  have HTb := Lib.hid hTb
  have HB1 := Lib.hid hB1
  clear hTa hTb hB1
  have a0 := HTa.out.c0
  have b0 := HTb.out.c0
  rw [K1.out] at a0
  rw [K2.out] at b0
  clear K1 K2
  go_wp2_with fail
  go_ret
  exact ⟨rfl, HB1.out⟩
set_option maxRecDepth 100000 in
theorem order_seven (a b : Tm) (A4 A5 B4 B5 : Option Addr) (c4 c5 d4 d5 : Nat) (w : World) (hk : a.kd = b.kd) (k1 : a.kd = 7) (hT : TmR w a A4 c4 A5 c5) (hU : TmR w b B4 d4 B5 d5) (hI : ∀ x ∈ a.args, OrdSays x) (ha : okT a = true) (hb : okT b = true) :
    Calls Tryz.prog 45 #[tmV a (.slice A4 a.nums.length c4) (.slice A5 a.args.length c5), tmV b (.slice B4 b.nums.length d4) (.slice B5 b.args.length d5)] w (OrdPost w (ordT a b)) := by
  have HL := Lib.hid fun W (hW : Below w.heap.size w W) => lists_any a.args b.args A5 B5 c5 d5 W (hT.below hW).g5 hT.l5 (hU.below hW).g5 hU.l5 hI (ok_args ha) (ok_args hb) (tail_of ha k1) (tail_of hb (by omega))
  clear hT hU hI ha hb
  have e : ordT a b = ordK a b := by rw [ordT_orI, cmpI_zero.2 hk]; rfl
  have k2 : b.kd = 7 := by omega
  rw [e]
  unfold ordK
  simp only [k1, Int.reduceEq, if_true, if_false, true_or, or_true, or_false, false_or, reduceIte]
  have K1 := Lib.hid k1
  have K2 := Lib.hid k2
  clear e hk k1 k2
  obtain ⟨w1, hw1, hTa, hTb, hB1⟩ := two_boxes w a b (.slice A4 a.nums.length c4) (.slice A5 a.args.length c5) (.slice B4 b.nums.length d4) (.slice B5 b.args.length d5)
  unfold tmV
  go_enter Tryz.func45, Tryz.ntmps45
  go_upto_region 1 with (fail)
  rw [← hw1]
  have hsz1 : w.heap.size + 1 < w1.heap.size := hTb.lt
  clear hw1
  have HTa := Lib.hid hTa
  have HTb := Lib.hid hTb
  have HB1 := Lib.hid hB1
  clear hTa hTb hB1
  have a0 := HTa.out.c0
  have b0 := HTb.out.c0
  rw [K1.out] at a0
  rw [K2.out] at b0
  clear K1 K2
  have a5 := HTa.out.c5
  have b5 := HTb.out.c5
  go_wp2_with fail
  refine (HL.out _ HB1.out).mono ?_
  rintro e w' ⟨rfl, hB⟩
  have HB := Lib.hid hB
  clear hB
  go_wp2_with fail
  go_ret
  exact ⟨rfl, trans_below HB1.out HB.out⟩
set_option maxRecDepth 100000 in
set_option maxHeartbeats 4000000 in
theorem order_five (a b : Tm) (A4 A5 B4 B5 : Option Addr) (c4 c5 d4 d5 : Nat) (w : World) (hk : a.kd = b.kd) (k1 : a.kd = 5) (hT : TmR w a A4 c4 A5 c5) (hU : TmR w b B4 d4 B5 d5) (hI : ∀ x ∈ a.args, OrdSays x) (ha : okT a = true) (hb : okT b = true) :
    Calls Tryz.prog 45 #[tmV a (.slice A4 a.nums.length c4) (.slice A5 a.args.length c5), tmV b (.slice B4 b.nums.length d4) (.slice B5 b.args.length d5)] w (OrdPost w (ordT a b)) := by
  have HP := Lib.hid fun W (hW : Below w.heap.size w W) => compareFunc a.args b.args A5 B5 c5 d5 W (hT.below hW).g5 (hU.below hW).g5 hI (ok_args ha) (ok_args hb)
  clear hT hU hI ha hb
  have e : ordT a b = ordK a b := by rw [ordT_orI, cmpI_zero.2 hk]; rfl
  have k2 : b.kd = 5 := by omega
  rw [e]
  unfold ordK
  simp only [k1, Int.reduceEq, if_true, if_false, true_or, or_true, or_false, false_or, reduceIte]
  have K1 := Lib.hid k1
  have K2 := Lib.hid k2
  clear e hk k1 k2
  obtain ⟨w1, hw1, hTa, hTb, hB1⟩ := two_boxes w a b (.slice A4 a.nums.length c4) (.slice A5 a.args.length c5) (.slice B4 b.nums.length d4) (.slice B5 b.args.length d5)
  unfold tmV
  go_enter Tryz.func45, Tryz.ntmps45
  go_upto_region 1 with (fail)
  rw [← hw1]
  have hsz1 : w.heap.size + 1 < w1.heap.size := hTb.lt
  clear hw1
  have HTa := Lib.hid hTa
  have HTb := Lib.hid hTb
  have HB1 := Lib.hid hB1
  clear hTa hTb hB1
  have a0 := HTa.out.c0
  have b0 := HTb.out.c0
  rw [K1.out] at a0
  rw [K2.out] at b0
  clear K1 K2
  have a5 := HTa.out.c5
  have b5 := HTb.out.c5
  go_wp2_with fail
  have HS : Hid (∀ W, Below w1.heap.size w1 W → (Below w1.heap.size w1 W ∧ W.cell? ⟨w.heap.size, 5, none⟩ = some (.slice A5 a.args.length c5) ∧ W.cell? ⟨w.heap.size + 1, 5, none⟩ = some (.slice B5 b.args.length d5))) := Lib.hid fun W hW => ⟨hW, (hW.cell HTa.out.lt).trans HTa.out.c5, (hW.cell HTb.out.lt).trans HTb.out.c5⟩
  go_region_held3 (fun W => Below w1.heap.size w1 W ∧ W.cell? ⟨w.heap.size, 5, none⟩ = some (.slice A5 a.args.length c5) ∧ W.cell? ⟨w.heap.size + 1, 5, none⟩ = some (.slice B5 b.args.length d5)) ((refine HS.out _ ?_; first | assumption | exact Below.refl _ _ | exact (Below.refl _ _).drew | exact below_alloc (by assumption) _ | exact below_alloc (Below.refl _ _).drew _))
    ((first
      | (go_at_call 93; refine (cmp_int _ _ _).mono ?_; rintro e w9 ⟨rfl, rfl⟩)
      | (go_at_call 94; refine (HP.out w1.drew (trans_below HB1.out (Below.refl _ _).drew)).mono ?_; rintro e w9 ⟨rfl, hB9⟩; have hB8 : Below w1.heap.size w1 w9 := trans_below (Below.refl _ _).drew hB9)
      | (go_at_call 90; refine (cmp_Or2 _ _ _ _).mono ?_; rintro e w9 ⟨rfl, rfl⟩)))
  go_wp2_with fail
  go_ret
  exact ⟨rfl, trans_below HB1.out (below_alloc (by assumption) _)⟩
set_option maxRecDepth 100000 in
set_option maxHeartbeats 4000000 in
theorem order_three (a b : Tm) (A4 A5 B4 B5 : Option Addr) (c4 c5 d4 d5 : Nat) (w : World) (hk : a.kd = b.kd) (k1 : a.kd = 3) (hT : TmR w a A4 c4 A5 c5) (hU : TmR w b B4 d4 B5 d5) :
    Calls Tryz.prog 45 #[tmV a (.slice A4 a.nums.length c4) (.slice A5 a.args.length c5), tmV b (.slice B4 b.nums.length d4) (.slice B5 b.args.length d5)] w (OrdPost w (ordT a b)) := by
  have HP := Lib.hid fun W (hW : Below w.heap.size w W) => slices_Compare a.nums b.nums A4 B4 c4 d4 W (hT.below hW).g4 (hU.below hW).g4
  clear hT hU
  have e : ordT a b = ordK a b := by rw [ordT_orI, cmpI_zero.2 hk]; rfl
  have k2 : b.kd = 3 := by omega
  rw [e]
  unfold ordK
  simp only [k1, Int.reduceEq, if_true, if_false, true_or, or_true, or_false, false_or, reduceIte]
  have K1 := Lib.hid k1
  have K2 := Lib.hid k2
  clear e hk k1 k2
  obtain ⟨w1, hw1, hTa, hTb, hB1⟩ := two_boxes w a b (.slice A4 a.nums.length c4) (.slice A5 a.args.length c5) (.slice B4 b.nums.length d4) (.slice B5 b.args.length d5)
  unfold tmV
  go_enter Tryz.func45, Tryz.ntmps45
  go_upto_region 1 with (fail)
  rw [← hw1]
  have hsz1 : w.heap.size + 1 < w1.heap.size := hTb.lt
  clear hw1
  have HTa := Lib.hid hTa
  have HTb := Lib.hid hTb
  have HB1 := Lib.hid hB1
  clear hTa hTb hB1
  have a0 := HTa.out.c0
  have b0 := HTb.out.c0
  rw [K1.out] at a0
  rw [K2.out] at b0
  clear K1 K2
  have a2 := HTa.out.c2
  have b2 := HTb.out.c2
  have a3 := HTa.out.c3
  have b3 := HTb.out.c3
  have a4 := HTa.out.c4
  have b4 := HTb.out.c4
  go_wp2_with fail
  have HS : Hid (∀ W, Below w1.heap.size w1 W → (Below w1.heap.size w1 W ∧ W.cell? ⟨w.heap.size, 2, none⟩ = some (.string a.tx) ∧ W.cell? ⟨w.heap.size + 1, 2, none⟩ = some (.string b.tx) ∧ W.cell? ⟨w.heap.size, 3, none⟩ = some (.int .u32 a.cr) ∧ W.cell? ⟨w.heap.size + 1, 3, none⟩ = some (.int .u32 b.cr) ∧ W.cell? ⟨w.heap.size, 4, none⟩ = some (.slice A4 a.nums.length c4) ∧ W.cell? ⟨w.heap.size + 1, 4, none⟩ = some (.slice B4 b.nums.length d4))) := Lib.hid fun W hW => ⟨hW, (hW.cell HTa.out.lt).trans HTa.out.c2, (hW.cell HTb.out.lt).trans HTb.out.c2, (hW.cell HTa.out.lt).trans HTa.out.c3, (hW.cell HTb.out.lt).trans HTb.out.c3, (hW.cell HTa.out.lt).trans HTa.out.c4, (hW.cell HTb.out.lt).trans HTb.out.c4⟩
  go_region_held3 (fun W => Below w1.heap.size w1 W ∧ W.cell? ⟨w.heap.size, 2, none⟩ = some (.string a.tx) ∧ W.cell? ⟨w.heap.size + 1, 2, none⟩ = some (.string b.tx) ∧ W.cell? ⟨w.heap.size, 3, none⟩ = some (.int .u32 a.cr) ∧ W.cell? ⟨w.heap.size + 1, 3, none⟩ = some (.int .u32 b.cr) ∧ W.cell? ⟨w.heap.size, 4, none⟩ = some (.slice A4 a.nums.length c4) ∧ W.cell? ⟨w.heap.size + 1, 4, none⟩ = some (.slice B4 b.nums.length d4)) ((refine HS.out _ ?_; first | assumption | exact Below.refl _ _ | exact (Below.refl _ _).drew | exact below_alloc (by assumption) _ | exact below_alloc (Below.refl _ _).drew _))
    ((first
      | (go_at_call 89; refine (cmp_string _ _ _).mono ?_; rintro e w9 ⟨rfl, rfl⟩)
      | (go_at_call 91; refine (cmp_u32 _ _ _).mono ?_; rintro e w9 ⟨rfl, rfl⟩)
      | (go_at_call 92; refine (HP.out w1.drew (trans_below HB1.out (Below.refl _ _).drew)).mono ?_; rintro e w9 ⟨rfl, rfl⟩)
      | (go_at_call 90; refine (cmp_Or3 _ _ _ w1.drew _).mono ?_; rintro e w9 ⟨rfl, rfl⟩)))
  go_wp2_with fail
  go_ret
  exact ⟨rfl, trans_below HB1.out (below_alloc (Below.refl _ _).drew _)⟩
set_option maxRecDepth 100000 in
set_option maxHeartbeats 4000000 in
theorem order_four (a b : Tm) (A4 A5 B4 B5 : Option Addr) (c4 c5 d4 d5 : Nat) (w : World) (hk : a.kd = b.kd) (k1 : a.kd = 4) (hT : TmR w a A4 c4 A5 c5) (hU : TmR w b B4 d4 B5 d5) :
    Calls Tryz.prog 45 #[tmV a (.slice A4 a.nums.length c4) (.slice A5 a.args.length c5), tmV b (.slice B4 b.nums.length d4) (.slice B5 b.args.length d5)] w (OrdPost w (ordT a b)) := by
  have HP := Lib.hid fun W (hW : Below w.heap.size w W) => slices_Compare a.nums b.nums A4 B4 c4 d4 W (hT.below hW).g4 (hU.below hW).g4
  clear hT hU
  have e : ordT a b = ordK a b := by rw [ordT_orI, cmpI_zero.2 hk]; rfl
  have k2 : b.kd = 4 := by omega
  rw [e]
  unfold ordK
  simp only [k1, Int.reduceEq, if_true, if_false, true_or, or_true, or_false, false_or, reduceIte]
  have K1 := Lib.hid k1
  have K2 := Lib.hid k2
  clear e hk k1 k2
  obtain ⟨w1, hw1, hTa, hTb, hB1⟩ := two_boxes w a b (.slice A4 a.nums.length c4) (.slice A5 a.args.length c5) (.slice B4 b.nums.length d4) (.slice B5 b.args.length d5)
  unfold tmV
  go_enter Tryz.func45, Tryz.ntmps45
  go_upto_region 1 with (fail)
  rw [← hw1]
  have hsz1 : w.heap.size + 1 < w1.heap.size := hTb.lt
  clear hw1
  have HTa := Lib.hid hTa
  have HTb := Lib.hid hTb
  have HB1 := Lib.hid hB1
  clear hTa hTb hB1
  have a0 := HTa.out.c0
  have b0 := HTb.out.c0
  rw [K1.out] at a0
  rw [K2.out] at b0
  clear K1 K2
  have a2 := HTa.out.c2
  have b2 := HTb.out.c2
  have a3 := HTa.out.c3
  have b3 := HTb.out.c3
  have a4 := HTa.out.c4
  have b4 := HTb.out.c4
  go_wp2_with fail
  have HS : Hid (∀ W, Below w1.heap.size w1 W → (Below w1.heap.size w1 W ∧ W.cell? ⟨w.heap.size, 2, none⟩ = some (.string a.tx) ∧ W.cell? ⟨w.heap.size + 1, 2, none⟩ = some (.string b.tx) ∧ W.cell? ⟨w.heap.size, 3, none⟩ = some (.int .u32 a.cr) ∧ W.cell? ⟨w.heap.size + 1, 3, none⟩ = some (.int .u32 b.cr) ∧ W.cell? ⟨w.heap.size, 4, none⟩ = some (.slice A4 a.nums.length c4) ∧ W.cell? ⟨w.heap.size + 1, 4, none⟩ = some (.slice B4 b.nums.length d4))) := Lib.hid fun W hW => ⟨hW, (hW.cell HTa.out.lt).trans HTa.out.c2, (hW.cell HTb.out.lt).trans HTb.out.c2, (hW.cell HTa.out.lt).trans HTa.out.c3, (hW.cell HTb.out.lt).trans HTb.out.c3, (hW.cell HTa.out.lt).trans HTa.out.c4, (hW.cell HTb.out.lt).trans HTb.out.c4⟩
  go_region_held3 (fun W => Below w1.heap.size w1 W ∧ W.cell? ⟨w.heap.size, 2, none⟩ = some (.string a.tx) ∧ W.cell? ⟨w.heap.size + 1, 2, none⟩ = some (.string b.tx) ∧ W.cell? ⟨w.heap.size, 3, none⟩ = some (.int .u32 a.cr) ∧ W.cell? ⟨w.heap.size + 1, 3, none⟩ = some (.int .u32 b.cr) ∧ W.cell? ⟨w.heap.size, 4, none⟩ = some (.slice A4 a.nums.length c4) ∧ W.cell? ⟨w.heap.size + 1, 4, none⟩ = some (.slice B4 b.nums.length d4)) ((refine HS.out _ ?_; first | assumption | exact Below.refl _ _ | exact (Below.refl _ _).drew | exact below_alloc (by assumption) _ | exact below_alloc (Below.refl _ _).drew _))
    ((first
      | (go_at_call 89; refine (cmp_string _ _ _).mono ?_; rintro e w9 ⟨rfl, rfl⟩)
      | (go_at_call 91; refine (cmp_u32 _ _ _).mono ?_; rintro e w9 ⟨rfl, rfl⟩)
      | (go_at_call 92; refine (HP.out w1.drew (trans_below HB1.out (Below.refl _ _).drew)).mono ?_; rintro e w9 ⟨rfl, rfl⟩)
      | (go_at_call 90; refine (cmp_Or3 _ _ _ w1.drew _).mono ?_; rintro e w9 ⟨rfl, rfl⟩)))
  go_wp2_with fail
  go_ret
  exact ⟨rfl, trans_below HB1.out (below_alloc (Below.refl _ _).drew _)⟩
theorem order_any : ∀ a : Tm, OrdSays a := by
  intro a
  induction a using Tm.ind with
  | h a ih =>
    intro b A4 A5 B4 B5 c4 c5 d4 d5 w hT hU ha hb
    by_cases hk : a.kd = b.kd
    · have h := shape_kd ha
      have : a.kd = 1 ∨ a.kd = 2 ∨ a.kd = 3 ∨ a.kd = 4 ∨ a.kd = 5 ∨ a.kd = 6 ∨ a.kd = 7 := by omega
      rcases this with k | k | k | k | k | k | k
      · exact order_one a b _ _ _ _ _ _ _ _ w hk k
      · exact order_two a b _ _ _ _ _ _ _ _ w hk k
      · exact order_three a b _ _ _ _ _ _ _ _ w hk k hT hU
      · exact order_four a b _ _ _ _ _ _ _ _ w hk k hT hU
      · exact order_five a b _ _ _ _ _ _ _ _ w hk k hT hU ih ha hb
      · exact order_six a b _ _ _ _ _ _ _ _ w hk k
      · exact order_seven a b _ _ _ _ _ _ _ _ w hk k hT hU ih ha hb
    · exact order_ne a b _ _ _ _ _ _ _ _ w hk
theorem term_order {a b : Tm} {v u : Value} {w : World} (hv : TmIs w a v) (hu : TmIs w b u) (ha : okT a = true) (hb : okT b = true) : Calls Tryz.prog 45 #[v, u] w (OrdPost w (ordT a b)) := by
  obtain ⟨A4, c4, A5, c5, rfl, hT⟩ := hv
  obtain ⟨B4, d4, B5, d5, rfl, hU⟩ := hu
  exact order_any a b _ _ _ _ _ _ _ _ w hT hU ha hb
end Go.Proofs.YtgapeacflkfmdaaGreatDoor
set_option linter.unusedSimpArgs false
namespace Go.Proofs.YtgapeacflkfmdaaGreatDoor
open Go.RowKit Go.Sort Go.Proofs.YtgapeacflkfmdaaGreatDoorW.PrintWords

set_option maxRecDepth 100000 in
set_option maxHeartbeats 2000000 in
theorem term_Compare (a b : Tm) (v u : Value) (w : World) (hv : TmIs w a v) (hu : TmIs w b u) (hsa : smT a = true) (hsb : smT b = true) (hG : Glob w) :
    Calls Tryz.prog 21 #[v, u] w (OrdPost w (compareT a b)) := by
  obtain ⟨R, hR⟩ : ∃ R, R = compareT a b := ⟨_, rfl⟩
  rw [← hR]
  have HR := Lib.hid hR
  clear hR
  obtain ⟨A4, c4, A5, c5, rfl, hT⟩ := hv
  obtain ⟨B4, d4, B5, d5, rfl, hU⟩ := hu
  obtain ⟨w1, hw1, hTa, hTb, hB1⟩ := two_boxes w a b (.slice A4 a.nums.length c4) (.slice A5 a.args.length c5) (.slice B4 b.nums.length d4) (.slice B5 b.args.length d5)
  have HCa := Lib.hid fun W (hW : Below w.heap.size w W) => term_Check a A4 A5 c4 c5 W (hT.below hW) hsa (hG.below hW)
  have HCb := Lib.hid fun W (hW : Below w.heap.size w W) => term_Check b B4 B5 d4 d5 W (hU.below hW) hsb (hG.below hW)
  have HO := Lib.hid fun W (hW : Below w.heap.size w W) => term_order (a := a) (b := b) (TmIs.below ⟨A4, c4, A5, c5, rfl, hT⟩ hW) (TmIs.below ⟨B4, d4, B5, d5, rfl, hU⟩ hW)
  clear hT hU hsa hsb hG
  unfold tmV at HCa HCb HO ⊢
  go_enter Tryz.func21, Tryz.ntmps21
  go_upto_region 1 with (fail)
  rw [← hw1]
  clear hw1
  have HTa := Lib.hid hTa
  have HTb := Lib.hid hTb
  have HB1 := Lib.hid hB1
  clear hTa hTb hB1
  have p0 := HTa.out.c0
  have p1 := HTa.out.c1
  have p2 := HTa.out.c2
  have p3 := HTa.out.c3
  have p4 := HTa.out.c4
  have p5 := HTa.out.c5
  have q0 := HTb.out.c0
  have q1 := HTb.out.c1
  have q2 := HTb.out.c2
  have q3 := HTb.out.c3
  have q4 := HTb.out.c4
  have q5 := HTb.out.c5
  go_wp2_with fail
  refine (HCa.out _ HB1.out).mono ?_
  rintro e w2 ⟨ve, rfl, hE, hB2⟩
  replace HTa := Lib.hid (HTa.out.below hB2 HTa.out.lt)
  replace HTb := Lib.hid (HTb.out.below hB2 HTb.out.lt)
  have HB2 : Hid (Below w.heap.size w w2) := Lib.hid (trans_below HB1.out hB2)
  clear p0 p1 p2 p3 p4 p5 q0 q1 q2 q3 q4 q5
  clear HB1 hB2
  cases ha : chk a with
  | cons x r =>
    rw [ha] at hE
    obtain rfl : R = _ := HR.out.trans (show compareT a b = 0 by unfold compareT; rw [if_pos (Or.inl (by rw [ha]; simp))])
    clear HR
    obtain ⟨eb, u, rfl, _⟩ := hE
    clear ha
    go_wp2_with fail
    go_ret
    exact ⟨rfl, HB2.out⟩
  | nil =>
    rw [ha] at hE
    obtain rfl : ve = .nilIface := hE
    have p0 := HTa.out.c0
    have p1 := HTa.out.c1
    have p2 := HTa.out.c2
    have p3 := HTa.out.c3
    have p4 := HTa.out.c4
    have p5 := HTa.out.c5
    have q0 := HTb.out.c0
    have q1 := HTb.out.c1
    have q2 := HTb.out.c2
    have q3 := HTb.out.c3
    have q4 := HTb.out.c4
    have q5 := HTb.out.c5
    have HA := Lib.hid ha
    clear ha
    go_wp2_with fail
    refine (HCb.out _ HB2.out).mono ?_
    rintro e w3 ⟨vf, rfl, hF, hB3⟩
    replace HTa := Lib.hid (HTa.out.below hB3 HTa.out.lt)
    replace HTb := Lib.hid (HTb.out.below hB3 HTb.out.lt)
    have HB3 : Hid (Below w.heap.size w w3) := Lib.hid (trans_below HB2.out hB3)
    clear p0 p1 p2 p3 p4 p5 q0 q1 q2 q3 q4 q5
    clear HB2 hB3
    cases hb : chk b with
    | cons x r =>
      rw [hb] at hF
      obtain rfl : R = _ := HR.out.trans (show compareT a b = 0 by unfold compareT; rw [if_pos (Or.inr (by rw [hb]; simp))])
      clear HR
      obtain ⟨eb, u, rfl, _⟩ := hF
      clear hb
      go_wp2_with fail
      go_ret
      exact ⟨rfl, HB3.out⟩
    | nil =>
      rw [hb] at hF
      obtain rfl : vf = .nilIface := hF
      obtain rfl : R = _ := HR.out.trans (show compareT a b = ordT a b by unfold compareT; rw [if_neg (by rw [HA.out, hb]; simp)])
      clear HR
      have HBb := Lib.hid hb
      have p0 := HTa.out.c0
      have p1 := HTa.out.c1
      have p2 := HTa.out.c2
      have p3 := HTa.out.c3
      have p4 := HTa.out.c4
      have p5 := HTa.out.c5
      have q0 := HTb.out.c0
      have q1 := HTb.out.c1
      have q2 := HTb.out.c2
      have q3 := HTb.out.c3
      have q4 := HTb.out.c4
      have q5 := HTb.out.c5
      clear hb
      go_wp2_with fail
      refine (HO.out _ HB3.out (chk_ok HA.out) (chk_ok HBb.out)).mono ?_
      rintro e w4 ⟨rfl, hB4⟩
      have HB4 : Hid (Below w.heap.size w w4) := Lib.hid (trans_below HB3.out hB4)
      clear p0 p1 p2 p3 p4 p5 q0 q1 q2 q3 q4 q5
      clear hB4
      go_wp2_with fail
      go_ret
      exact ⟨rfl, HB4.out⟩
end Go.Proofs.YtgapeacflkfmdaaGreatDoor
set_option linter.unusedSimpArgs false
namespace Go.Proofs.YtgapeacflkfmdaaGreatDoor
open Go.RowKit Go.Sort Go.Proofs.YtgapeacflkfmdaaGreatDoorW.PrintWords Tb

abbrev tyU8 : Nat := 5
/-- A row of bytes that reads 'l' is handed back; what lies below B, and what is no row of bytes, is as it was. -/
def WrPost (w : World) (B : Nat) (l : List Int) (e : Ending) (w' : World) : Prop :=
  ∃ v, e = .returned v ∧ w'.ownsRow B tyU8 1 v l.length (nums .u8 l) ∧ Below B w w' ∧ Lib.OthersKept tyU8 none w w'
theorem own_keep {w w' : World} {B e sz n : Nat} {v : Value} {xs : List Value} (h : w.ownsRow B e sz v n xs) (hb : Below w.heap.size w w') : w'.ownsRow B e sz v n xs :=
  h.kept (row := none) (grown_of_below hb none) (Classical.em _)
theorem own_kind {w : World} {B e sz n : Nat} {v : Value} {xs : List Value} (h : w.ownsRow B e sz v n xs) : ∀ g, v.ownBlock = some g → ∃ c fz, w.heap[g]? = some (.cells c e fz) := by
  intro g hg
  obtain ⟨c, hc⟩ := own_typed h g hg
  exact ⟨c, _, hc⟩
theorem othersBelow {w W W' : World} (h : Lib.OthersKept tyU8 none w W) (hb : Below W.heap.size W W') : Lib.OthersKept tyU8 none w W' :=
  h.grown (row := none) (grown_of_below hb none) (fun g hg => by cases hg)
theorem othersOf {W W' : World} (hb : Below W.heap.size W W') : Lib.OthersKept tyU8 none W W' := othersBelow (Lib.OthersKept.refl _ _ _) hb
/-- A row of another type stays. -/
theorem own_others {w w' : World} {B e sz n : Nat} {v : Value} {xs : List Value} (h : w.ownsRow B e sz v n xs) (he : e ≠ tyU8) (ho : Lib.OthersKept tyU8 none w w') : w'.ownsRow B e sz v n xs := by
  refine own_move h fun k hk => ?_
  obtain ⟨c, fz, hc⟩ := own_kind h k hk
  rw [hc]
  exact ho k _ hc (by simp) (fun c' fz' e' => by injection e' with _ e2; exact he e2)
/-- write's walk: the row 'v' reads 'l'; the term's box. -/
structure WrS (w W : World) (B : Nat) (t : Tm) (v4 v5 : Value) (l : List Int) (v : Value) : Prop where
  own : W.ownsRow B tyU8 1 v l.length (nums .u8 l)
  below : Below B w W
  others : Lib.OthersKept tyU8 none w W
  box : W.heap[w.heap.size]? = some (.cells #[.int .i64 t.kd, .int .i64 t.it, .string t.tx, .int .u32 t.cr, v4, v5] tyTm (0, 0))
  base : B ≤ W.heap.size
theorem WrS.tm {w W : World} {B : Nat} {t : Tm} {v4 v5 : Value} {l : List Int} {v : Value} (h : WrS w W B t v4 v5 l v) : TmAt W w.heap.size t v4 v5 := by
  have e := h.box
  constructor <;> simp [World.cell?, World.frozen?, e]
theorem WrS.start {w : World} {B : Nat} {l : List Int} {v : Value} (t : Tm) (v4 v5 : Value) (h : w.ownsRow B tyU8 1 v l.length (nums .u8 l)) (hB : B ≤ w.heap.size) :
    WrS w (w.alloc (.cells #[.int .i64 t.kd, .int .i64 t.it, .string t.tx, .int .u32 t.cr, v4, v5] 27)) B t v4 v5 l v :=
  ⟨h.alloc _, (Below.refl _ _).alloc hB _, (Lib.OthersKept.refl _ _ _).alloc _, heap_alloc_new w _, by simp; omega⟩
theorem WrS.app {w W w1 : World} {B : Nat} {t : Tm} {v4 v5 : Value} {l m : List Int} {v v1 : Value} (h : WrS w W B t v4 v5 l v) (ho : w1.ownsRow B tyU8 1 v1 (l ++ m).length (nums .u8 (l ++ m))) (hb : Below B W w1) (hg : W.grownBy w1 v.ownBlock) : WrS w w1 B t v4 v5 (l ++ m) v1 := by
  have hlt : w.heap.size < W.heap.size := (Array.getElem?_eq_some_iff.1 h.box).1
  refine ⟨ho, h.below.trans hb, h.others.grown hg (own_kind h.own), ?_, Nat.le_trans h.base hb.size⟩
  rw [hg.block _ hlt ?_]
  · exact h.box
  · intro hk
    obtain ⟨c, fz, hc⟩ := own_kind h.own _ hk.symm
    rw [h.box] at hc
    injection hc with hc
    injection hc with _ hc
    exact absurd hc (by decide)
theorem WrS.call {w W w1 : World} {B : Nat} {t : Tm} {v4 v5 : Value} {l m : List Int} {v v1 : Value} (h : WrS w W B t v4 v5 l v) (ho : w1.ownsRow B tyU8 1 v1 m.length (nums .u8 m)) (hb : Below B W w1) (hk : Lib.OthersKept tyU8 none W w1) : WrS w w1 B t v4 v5 m v1 :=
  ⟨ho, h.below.trans hb, h.others.trans hk, hk _ _ h.box (by simp) (fun c fz e => by injection e with _ e2; exact absurd e2 (by decide)), Nat.le_trans h.base hb.size⟩
theorem WrS.step {w W W' : World} {B : Nat} {t : Tm} {v4 v5 : Value} {l : List Int} {v : Value} (h : WrS w W B t v4 v5 l v) (hb : Below W.heap.size W W') : WrS w W' B t v4 v5 l v :=
  ⟨own_keep h.own hb, h.below.trans (hb.mono h.base), othersBelow h.others hb, (hb.block _ (Array.getElem?_eq_some_iff.1 h.box).1).trans h.box, Nat.le_trans h.base hb.size⟩
theorem WrS.done {w W : World} {B : Nat} {t : Tm} {v4 v5 : Value} {l : List Int} {v : Value} (h : WrS w W B t v4 v5 l v) : WrPost w B l (.returned v) W := ⟨v, rfl, h.own, h.below, h.others⟩
theorem drewN_below (W : World) (n : Nat) : Below W.heap.size W (W.drewN n) := by repeat (first | exact Below.refl _ _ | apply pw_below_drewN)

/-- What holds of the library's variables from here on. -/
def GlobB (w : World) (B : Nat) : Prop := ∀ W, Below B w W → Glob W
theorem GlobB.trans {w W : World} {B : Nat} (h : GlobB w B) (hb : Below B w W) : GlobB W B := fun W' h' => h W' (hb.trans h')
theorem GlobB.now {w : World} {B : Nat} (h : GlobB w B) : Glob w := h w (Below.refl _ _)
theorem GlobB.up {w0 w : World} {B : Nat} (h : Glob w0) (hb : Below w0.heap.size w0 w) (hB : w0.heap.size ≤ B) : GlobB w B := fun _ hW => h.below (hb.trans (hW.mono hB))

theorem nums_itoa (i : Int) : nums .u8 (itoaI i) = Lib.byteCells (Lib.itoa i) := by
  unfold nums itoaI Lib.byteCells
  rw [List.map_map]
  rfl
theorem nums_decL (u : Nat) : nums .u8 (decL u) = Lib.byteCells (Lib.decDigits u) := by
  unfold nums decL Lib.byteCells
  rw [List.map_map]
  rfl
theorem app_int {W : World} {B : Nat} {l : List Int} {v : Value} (i : Int) (h0 : -9223372036854775808 ≤ i) (h1 : i ≤ 9223372036854775807) (ho : W.ownsRow B tyU8 1 v l.length (nums .u8 l)) (hB : B ≤ W.heap.size) (hG : GlobB W B) (hl : l.length + 21 ≤ 140737488355328) :
    Calls Tryz.prog 105 #[v, .int .i64 i, .int .i64 10] W (WrPost W B (l ++ itoaI i)) := by
  refine (Tryz.strconv_AppendInt_10 B l.length i h0 h1 v _ W ho hB hl (fun W' hW => (hG W' hW).pw)).mono ?_
  rintro e w' ⟨v', rfl, h2, h3, h4⟩
  refine ⟨v', rfl, ?_, h3, h4⟩
  rw [nums_append, nums_itoa, List.length_append, itoaI, List.length_map]
  exact h2
theorem app_uint {W : World} {B : Nat} {l : List Int} {v : Value} (i : Int) (h0 : 0 ≤ i) (h1 : i ≤ 4294967295) (ho : W.ownsRow B tyU8 1 v l.length (nums .u8 l)) (hB : B ≤ W.heap.size) (hG : GlobB W B) (hl : l.length + 20 ≤ 140737488355328) :
    Calls Tryz.prog 107 #[v, .int .u64 i, .int .i64 10] W (WrPost W B (l ++ itoaI i)) := by
  obtain ⟨u, rfl⟩ := Int.eq_ofNat_of_zero_le h0
  have HC := Lib.hid (Tryz.internal_strconv_AppendUint_10 B l.length u (by omega) v _ W ho hB hl hG.now.pw)
  have hv : ∃ A c, v = .slice A l.length c := by
    obtain ⟨A, c, h, _⟩ := own_reads ho
    exact ⟨A, c, h⟩
  obtain ⟨A, c, rfl⟩ := hv
  clear ho hB hG hl h0 h1
  go_enter Tryz.func107, Tryz.ntmps107
  go_wp2_with fail
  refine HC.out.mono ?_
  rintro e w' ⟨v', rfl, h2, h3, h4⟩
  have H2 := Lib.hid h2
  have H3 := Lib.hid h3
  have H4 := Lib.hid h4
  clear h2 h3 h4 HC
  go_wp2_with fail
  go_ret
  refine ⟨v', rfl, ?_, H3.out, H4.out⟩
  have h2 := H2.out
  change w'.ownsRow B tyU8 1 v' _ _
  rw [itoa_nat, nums_append, nums_decL, List.length_append, decL, List.length_map]
  exact h2
set_option maxRecDepth 100000 in
theorem term_quoted {W : World} {B : Nat} {l : List Int} {v : Value} (s : ByteArray) (hm : s.size ≤ 140737488351232) (ho : W.ownsRow B tyU8 1 v l.length (nums .u8 l)) (hB : B ≤ W.heap.size) (hG : GlobB W B) (hl : l.length + 1022 ≤ 140737488355328) :
    Calls Tryz.prog 106 #[v, .string s] W (WrPost W B (l ++ bs (quoted s).1)) := by
  have HQ := Lib.hid (atom_Quote s hm W hG.now)
  have HO := Lib.hid ho
  have HSZ := Lib.hid (quoted_size s)
  generalize quoted s = q at HQ HSZ ⊢
  clear ho hG
  go_enter Tryz.func106, Tryz.ntmps106
  go_wp2_with fail
  refine HQ.out.mono ?_
  rintro e w1 ⟨ev, rfl, hE, hB1⟩
  have HO1 := Lib.hid (own_keep HO.out hB1)
  have HB1 := Lib.hid hB1
  have HHB : Hid (B ≤ w1.heap.size) := Lib.hid (Nat.le_trans hB hB1.size)
  have HB2 : Hid (Below B W w1) := Lib.hid (hB1.mono hB)
  have HL : Hid (l.length + q.1.size ≤ 140737488355328) := Lib.hid (by have := HSZ.out; omega)
  clear hE hB1 HQ
  go_wp2_with (at_builtin; refine print_append_str (w0 := W) B rfl (.tmp 12) (.tmp 13) 49 9 5 rfl Tryz.underlying49 Tryz.underlying9 infoU8 v l q.1 rfl rfl ?hO ?hB ?hbs ?hl ?_; (case hO => exact HO1.out); (case hB => exact HB2.out); (case hbs => exact HHB.out); (case hl => exact HL.out); intro v1 w5 ho hb hg; have HO5 := Lib.hid ho; have HB5 := Lib.hid hb; have HK5 := Lib.hid ((othersOf HB1.out).grown hg (own_kind HO1.out)); clear ho hb hg)
  go_ret
  exact ⟨v1, rfl, HO5.out, HB5.out, HK5.out⟩
end Go.Proofs.YtgapeacflkfmdaaGreatDoor
