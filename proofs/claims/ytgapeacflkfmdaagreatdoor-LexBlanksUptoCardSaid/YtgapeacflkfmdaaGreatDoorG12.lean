/-
  lex.Write. heddleref10.Write. heddlelaw10.awake. heddleref10.Same; how long a chain of faults is. The walks of LexScans and LexWrites.
-/
import Derived.Test.YtgapeacflkfmdaaGreatDoorG11
import Derived.Lib.QuietBelow
import Derived.Test.YtgapeacflkfmdaaGreatDoorKPSmx1
namespace Go.Proofs.YtgapeacflkfmdaaGreatDoor
open Go.RowKit Go.Sort Go.Proofs.YtgapeacflkfmdaaGreatDoorW.PrintWords

def badArg : ByteArray × List Lk := (⟨#[]⟩, [⟨nLex, 0, 1⟩])
def isVar (s : ByteArray) : Bool := decide (0 < s.size) && decide (s.size ≤ 255) && isUpper (bt s 0) && decide (runEnd isIn s 0 = s.size)
/-- A token's text. -/
def wrTok (t : Tk) : ByteArray × List Lk :=
  if t.kd = 1 then (if t.nm = 0 ∧ (quoted t.tx).2 = [] then ((quoted t.tx).1, []) else badArg)
  else if t.kd = 3 then (if t.tx.size = 0 ∧ 0 ≤ t.nm ∧ t.nm ≤ 576460752303423487 then (⟨(Lib.itoa t.nm).toArray⟩, []) else badArg)
  else if t.kd = 6 then (if t.tx.size = 0 ∧ t.nm = 0 then (⟨#[46]⟩, []) else badArg)
  else if t.nm ≠ 0 then badArg
  else if t.kd = 2 then (if isVar t.tx then (t.tx, []) else badArg)
  else if t.kd = 4 then (if isRes t.tx then (t.tx, []) else badArg)
  else if t.kd = 5 then (if Lib.containsS signList t.tx then (t.tx, []) else badArg)
  else badArg

theorem fmt_int (n : Int) (h0 : -9223372036854775808 ≤ n) (h1 : n ≤ 9223372036854775807) (w : World) (hG : Glob w) :
    Calls Tryz.prog 64 #[.int .i64 n, .int .i64 10] w fun e w' => e = .returned (.string ⟨(Lib.itoa n).toArray⟩) ∧ Below w.heap.size w w' := by
  refine (Tryz.strconv_FormatInt_10 n h0 h1 w hG.pw).mono ?_
  rintro e w' ⟨rfl, k, os, rfl⟩
  exact ⟨rfl, Lib.below_grow _ _ (Nat.le_refl _) _ _⟩

/-- The frame: the token's box, the refusal that is at hand. -/
structure WrFrame (w W : World) (t : Tk) (wv : Value) : Prop where
  tk : TkAt W w.heap.size t
  bl : Below w.heap.size w W
  er : ErrIs W [⟨nLex, 0, 1⟩] wv
  g : Glob W
theorem WrFrame.step {w W W' : World} {t : Tk} {wv : Value} (h : WrFrame w W t wv) (hb : Below W.heap.size W W') : WrFrame w W' t wv :=
  ⟨h.tk.below hb (World.block_lt_of_cell? W _ h.tk.c0), trans_below h.bl hb, h.er.below hb, h.g.below hb⟩
theorem WrFrame.drewN {w W : World} {t : Tk} {wv : Value} (h : WrFrame w W t wv) (n : Nat) : WrFrame w (W.drewN n) t wv := h.step (below_drewN _ _ _)
theorem WrFrame.bad {w W : World} {t : Tk} {wv : Value} (h : WrFrame w W t wv) : StrPost w badArg (.returned (.tuple #[.string ⟨#[]⟩, wv])) W := ⟨_, rfl, h.er, h.bl⟩
theorem WrFrame.good {w W : World} {t : Tk} {wv : Value} (h : WrFrame w W t wv) (s : ByteArray) : StrPost w (s, []) (.returned (.tuple #[.string s, .nilIface])) W := ⟨_, rfl, rfl, h.bl⟩

theorem tw_step {p : Int → Bool} : ∀ {l : List Int} {i : Nat} (hl : i < l.length) (_ : i ≤ tw p l), (i + 1 ≤ tw p l) ↔ p (l[i]) = true
  | [], _, hl, _ => by simp at hl
  | c :: l, i, hl, h => by
    cases hc : p c with
    | true =>
      rw [tw_yes hc] at h ⊢
      cases i with
      | zero => simp [hc]
      | succ i =>
        simp only [List.getElem_cons_succ]
        rw [← tw_step (l := l) (i := i) (by simpa using hl) (by omega)]
        omega
    | false =>
      rw [tw_no hc] at h ⊢
      obtain rfl : i = 0 := by omega
      simp [hc]
theorem run_step {p : Int → Bool} {s : ByteArray} {i : Nat} (hi : i < s.size) (h : i ≤ runEnd p s 0) : (i + 1 ≤ runEnd p s 0) ↔ p (bt s (i : Int)) = true := by
  have h0 : runEnd p s 0 = tw p (bs s) := by unfold runEnd; simp
  rw [h0] at h ⊢
  rw [← bs_get s i hi]
  exact tw_step _ h
theorem res_space {s : ByteArray} (h : isRes s = true) : Lib.indexByte s.data.toList 32 = -1 := by
  obtain ⟨r, hr, rfl⟩ := isRes_yes h
  have key : ∀ r ∈ resList, Lib.indexByte r 32 = -1 := by decide
  exact key r hr
theorem isVar_eq (s : ByteArray) : isVar s = ((decide (0 < s.size) && decide (s.size ≤ 255) && isUpper (bt s 0)) && decide (s.size ≤ runEnd isIn s 0)) := by
  unfold isVar
  congr 1
  have := runEnd_le isIn s 0 (Nat.zero_le _)
  exact decide_eq_decide.2 ⟨fun h => by omega, fun h => by omega⟩

set_option maxRecDepth 100000 in
set_option maxHeartbeats 4000000 in
theorem lex_Write (t : Tk) (hm : t.tx.size ≤ 140737488351232) (hn0 : -9223372036854775808 ≤ t.nm) (hn1 : t.nm ≤ 9223372036854775807) (w : World) (hG : Glob w) :
    Calls Tryz.prog 33 #[tkV t] w (StrPost w (wrTok t)) := by
  obtain ⟨kd, tx, nm, at_⟩ := t
  simp only [tkV] at *
  have hTk0 : TkAt (w.alloc (.cells #[.int .i64 kd, .string tx, .int .i64 nm, .int .i64 at_] 63)) w.heap.size ⟨kd, tx, nm, at_⟩ := by constructor <;> simp
  have hG0 := hG.below (below_alloc (Below.refl _ _) (.cells #[.int .i64 kd, .string tx, .int .i64 nm, .int .i64 at_] 63))
  obtain ⟨R, hR⟩ : ∃ R, R = wrTok ⟨kd, tx, nm, at_⟩ := ⟨_, rfl⟩
  rw [← hR]
  unfold wrTok at hR
  simp only at hR
  clear hG
  by_cases k1 : kd = 1
  · subst k1
    rw [if_pos rfl] at hR
    by_cases hn : nm = 0
    · subst hn
      have HR := Lib.hid hR
      clear hR hn0 hn1
      go_enter Tryz.func33, Tryz.ntmps33
      go_wp2_with fail
      refine (lex_fault _ _ _ _ [] rfl).mono ?_
      rintro e w2 ⟨wv, rfl, hE, hB⟩
      have HF := Lib.hid (WrFrame.mk (w := w) (hTk0.below hB (by simp)) (trans_below (below_alloc (Below.refl _ _) _) hB) hE (hG0.below hB))
      obtain ⟨t0, t1, t2, t3, _, _, _, _⟩ := HF.out.tk
      simp only at t0 t1 t2 t3
      clear hE hB hTk0 hG0
      go_wp2_with fail
      refine (atom_Quote tx hm _ HF.out.g).mono ?_
      rintro e w3 ⟨v, rfl, hE3, hB3⟩
      replace HF := Lib.hid (HF.out.step hB3)
      clear t0 t1 t2 t3
      cases hq : (quoted tx).2 with
      | nil =>
        have HQ : Hid (R = ((quoted tx).1, [])) := Lib.hid (by rw [HR.out, if_pos ⟨trivial, hq⟩])
        rw [hq] at hE3
        obtain rfl : v = .nilIface := hE3
        clear hB3 hq
        go_wp2_with fail
        go_quiet (fail)
        go_wp2_with fail
        replace HF := Lib.hid (HF.out.drewN nq)
        go_ret2
        rw [HQ.out]
        exact HF.out.good (quoted tx).1
      | cons x r =>
        have HQ : Hid (R = badArg) := Lib.hid (by rw [HR.out, if_neg (by rw [hq]; simp)])
        rw [hq] at hE3
        obtain ⟨be, u, rfl, _⟩ := hE3
        clear hB3 hq
        go_wp2_with fail
        go_quiet (fail)
        go_wp2_with fail
        replace HF := Lib.hid (HF.out.drewN nq)
        go_ret2
        rw [HQ.out]
        exact HF.out.bad
    · have hnb : (nm != 0) = true := by simp [hn]
      have HQ : Hid (R = badArg) := Lib.hid (by rw [hR, if_neg (fun h => hn h.1)])
      clear hR hn
      go_enter Tryz.func33, Tryz.ntmps33
      go_wp2_with fail
      refine (lex_fault _ _ _ _ [] rfl).mono ?_
      rintro e w2 ⟨wv, rfl, hE, hB⟩
      have HF := Lib.hid (WrFrame.mk (w := w) (hTk0.below hB (by simp)) (trans_below (below_alloc (Below.refl _ _) _) hB) hE (hG0.below hB))
      obtain ⟨t0, t1, t2, t3, _, _, _, _⟩ := HF.out.tk
      simp only at t0 t1 t2 t3
      clear hE hB hTk0 hG0
      go_wp2_with fail
      go_ret2
      rw [HQ.out]
      exact HF.out.bad
  · rw [if_neg k1] at hR
    have d1 : (kd == 1) = false := beq_eq_false_iff_ne.2 k1
    by_cases k3 : kd = 3
    · subst k3
      rw [if_pos rfl] at hR
      clear k1 d1
      by_cases h0 : tx.size = 0
      · have hl := isEmpty_of h0
        have HQ0 : Hid ((0 ≤ nm ∧ nm ≤ 576460752303423487 → R = (⟨(Lib.itoa nm).toArray⟩, [])) ∧ (¬ (0 ≤ nm ∧ nm ≤ 576460752303423487) → R = badArg)) := Lib.hid ⟨fun h => by rw [hR, if_pos ⟨h0, h⟩], fun h => by rw [hR, if_neg (fun g => h g.2)]⟩
        have HFI := Lib.hid (fmt_int nm hn0 hn1)
        clear hR h0
        by_cases hneg : nm ≥ 0
        · have dn : decide (nm ≥ 0) = true := decide_eq_true hneg
          by_cases hbig : nm ≤ 576460752303423487
          · have db : decide (nm ≤ 576460752303423487) = true := decide_eq_true hbig
            have HQ : Hid (R = (⟨(Lib.itoa nm).toArray⟩, [])) := Lib.hid (HQ0.out.1 ⟨hneg, hbig⟩)
            clear hn0 hn1 hbig hneg
            go_enter Tryz.func33, Tryz.ntmps33
            go_wp2_with fail
            refine (lex_fault _ _ _ _ [] rfl).mono ?_
            rintro e w2 ⟨wv, rfl, hE, hB⟩
            have HF := Lib.hid (WrFrame.mk (w := w) (hTk0.below hB (by simp)) (trans_below (below_alloc (Below.refl _ _) _) hB) hE (hG0.below hB))
            obtain ⟨t0, t1, t2, t3, _, _, _, _⟩ := HF.out.tk
            simp only at t0 t1 t2 t3
            clear hE hB hTk0 hG0
            go_wp2_with fail
            have HB2 := Lib.hid (World.block_lt_of_cell? w2 _ t2)
            have cF : ∀ d os, Calls Tryz.prog 64 #[.int .i64 nm, .int .i64 10] (grow (redrawn w2 d) os) fun e w'' => e = .returned (.string ⟨(Lib.itoa nm).toArray⟩) ∧ ∃ p : Regrown, w'' = grow (redrawn w2 p.d) p.os := fun d os => Calls.regrown_of (HFI.out _ (HF.out.g.below (below_regrown w2 d os)))
            have HCF := Lib.hid cF
            have k2 := cell_regrown t2
            clear cF
            refine wp_region_quiet_below (by kernel_rfl) (by kernel_rfl) ?_
            repeat (go_big_quiet_step (exact HCF.out _ _))
            refine wpQuiet_nil ?_
            intro _ hw'
            obtain ⟨⟨dq, osq⟩, hw''⟩ := hw'
            subst hw''
            have hwq := below_regrown w2 dq osq
            generalize grow (redrawn w2 dq) osq = wq at hwq ⊢
            replace HF := Lib.hid (HF.out.step hwq)
            clear hwq k2
            go_wp2_with fail
            go_ret2
            rw [HQ.out]
            exact HF.out.good ⟨(Lib.itoa nm).toArray⟩
          · have db : decide (nm ≤ 576460752303423487) = false := decide_eq_false hbig
            have HQ : Hid (R = badArg) := Lib.hid (HQ0.out.2 fun h => hbig h.2)
            clear hn0 hn1 hbig hneg
            go_enter Tryz.func33, Tryz.ntmps33
            go_wp2_with fail
            refine (lex_fault _ _ _ _ [] rfl).mono ?_
            rintro e w2 ⟨wv, rfl, hE, hB⟩
            have HF := Lib.hid (WrFrame.mk (w := w) (hTk0.below hB (by simp)) (trans_below (below_alloc (Below.refl _ _) _) hB) hE (hG0.below hB))
            obtain ⟨t0, t1, t2, t3, _, _, _, _⟩ := HF.out.tk
            simp only at t0 t1 t2 t3
            clear hE hB hTk0 hG0
            go_wp2_with fail
            have HB2 := Lib.hid (World.block_lt_of_cell? w2 _ t2)
            have cF : ∀ d os, Calls Tryz.prog 64 #[.int .i64 nm, .int .i64 10] (grow (redrawn w2 d) os) fun e w'' => e = .returned (.string ⟨(Lib.itoa nm).toArray⟩) ∧ ∃ p : Regrown, w'' = grow (redrawn w2 p.d) p.os := fun d os => Calls.regrown_of (HFI.out _ (HF.out.g.below (below_regrown w2 d os)))
            have HCF := Lib.hid cF
            have k2 := cell_regrown t2
            clear cF
            refine wp_region_quiet_below (by kernel_rfl) (by kernel_rfl) ?_
            repeat (go_big_quiet_step (exact HCF.out _ _))
            refine wpQuiet_nil ?_
            intro _ hw'
            obtain ⟨⟨dq, osq⟩, hw''⟩ := hw'
            subst hw''
            have hwq := below_regrown w2 dq osq
            generalize grow (redrawn w2 dq) osq = wq at hwq ⊢
            replace HF := Lib.hid (HF.out.step hwq)
            clear hwq k2
            go_wp2_with fail
            go_ret2
            rw [HQ.out]
            exact HF.out.bad
        · have dn : decide (nm ≥ 0) = false := decide_eq_false hneg
          have HQ : Hid (R = badArg) := Lib.hid (HQ0.out.2 fun h => hneg h.1)
          clear hn0 hn1 hneg
          go_enter Tryz.func33, Tryz.ntmps33
          go_wp2_with fail
          refine (lex_fault _ _ _ _ [] rfl).mono ?_
          rintro e w2 ⟨wv, rfl, hE, hB⟩
          have HF := Lib.hid (WrFrame.mk (w := w) (hTk0.below hB (by simp)) (trans_below (below_alloc (Below.refl _ _) _) hB) hE (hG0.below hB))
          obtain ⟨t0, t1, t2, t3, _, _, _, _⟩ := HF.out.tk
          simp only at t0 t1 t2 t3
          clear hE hB hTk0 hG0
          go_wp2_with fail
          have HB2 := Lib.hid (World.block_lt_of_cell? w2 _ t2)
          have cF : ∀ d os, Calls Tryz.prog 64 #[.int .i64 nm, .int .i64 10] (grow (redrawn w2 d) os) fun e w'' => e = .returned (.string ⟨(Lib.itoa nm).toArray⟩) ∧ ∃ p : Regrown, w'' = grow (redrawn w2 p.d) p.os := fun d os => Calls.regrown_of (HFI.out _ (HF.out.g.below (below_regrown w2 d os)))
          have HCF := Lib.hid cF
          have k2 := cell_regrown t2
          clear cF
          refine wp_region_quiet_below (by kernel_rfl) (by kernel_rfl) ?_
          repeat (go_big_quiet_step (exact HCF.out _ _))
          refine wpQuiet_nil ?_
          intro _ hw'
          obtain ⟨⟨dq, osq⟩, hw''⟩ := hw'
          subst hw''
          have hwq := below_regrown w2 dq osq
          generalize grow (redrawn w2 dq) osq = wq at hwq ⊢
          replace HF := Lib.hid (HF.out.step hwq)
          clear hwq k2
          go_wp2_with fail
          go_ret2
          rw [HQ.out]
          exact HF.out.bad
      · have hl := isEmpty_not h0
        have HQ : Hid (R = badArg) := Lib.hid (by rw [hR, if_neg (fun h => h0 h.1)])
        clear hR h0
        go_enter Tryz.func33, Tryz.ntmps33
        go_wp2_with fail
        refine (lex_fault _ _ _ _ [] rfl).mono ?_
        rintro e w2 ⟨wv, rfl, hE, hB⟩
        have HF := Lib.hid (WrFrame.mk (w := w) (hTk0.below hB (by simp)) (trans_below (below_alloc (Below.refl _ _) _) hB) hE (hG0.below hB))
        obtain ⟨t0, t1, t2, t3, _, _, _, _⟩ := HF.out.tk
        simp only at t0 t1 t2 t3
        clear hE hB hTk0 hG0
        go_wp2_with fail
        go_ret2
        rw [HQ.out]
        exact HF.out.bad
    · rw [if_neg k3] at hR
      have d3 : (kd == 3) = false := beq_eq_false_iff_ne.2 k3
      have d3n : (kd != 3) = true := by simp [k3]
      by_cases k6 : kd = 6
      · subst k6
        rw [if_pos rfl] at hR
        clear k1 k3 d1 d3 d3n
        by_cases hn : nm = 0
        · subst hn
          by_cases h0 : tx.size = 0
          · have hl := isEmpty_of h0
            have HQ : Hid (R = (⟨#[46]⟩, [])) := Lib.hid (by rw [hR, if_pos ⟨h0, rfl⟩])
            clear hR h0
            go_enter Tryz.func33, Tryz.ntmps33
            go_wp2_with fail
            refine (lex_fault _ _ _ _ [] rfl).mono ?_
            rintro e w2 ⟨wv, rfl, hE, hB⟩
            have HF := Lib.hid (WrFrame.mk (w := w) (hTk0.below hB (by simp)) (trans_below (below_alloc (Below.refl _ _) _) hB) hE (hG0.below hB))
            obtain ⟨t0, t1, t2, t3, _, _, _, _⟩ := HF.out.tk
            simp only at t0 t1 t2 t3
            clear hE hB hTk0 hG0
            go_wp2_with fail
            go_ret2
            rw [HQ.out]
            exact HF.out.good ⟨#[46]⟩
          · have hl := isEmpty_not h0
            have HQ : Hid (R = badArg) := Lib.hid (by rw [hR, if_neg (fun h => h0 h.1)])
            clear hR h0
            go_enter Tryz.func33, Tryz.ntmps33
            go_wp2_with fail
            refine (lex_fault _ _ _ _ [] rfl).mono ?_
            rintro e w2 ⟨wv, rfl, hE, hB⟩
            have HF := Lib.hid (WrFrame.mk (w := w) (hTk0.below hB (by simp)) (trans_below (below_alloc (Below.refl _ _) _) hB) hE (hG0.below hB))
            obtain ⟨t0, t1, t2, t3, _, _, _, _⟩ := HF.out.tk
            simp only at t0 t1 t2 t3
            clear hE hB hTk0 hG0
            go_wp2_with fail
            go_ret2
            rw [HQ.out]
            exact HF.out.bad
        · have hnb : (nm != 0) = true := by simp [hn]
          have HQ : Hid (R = badArg) := Lib.hid (by rw [hR, if_neg (fun h => hn h.2)])
          clear hR hn
          go_enter Tryz.func33, Tryz.ntmps33
          go_wp2_with fail
          refine (lex_fault _ _ _ _ [] rfl).mono ?_
          rintro e w2 ⟨wv, rfl, hE, hB⟩
          have HF := Lib.hid (WrFrame.mk (w := w) (hTk0.below hB (by simp)) (trans_below (below_alloc (Below.refl _ _) _) hB) hE (hG0.below hB))
          obtain ⟨t0, t1, t2, t3, _, _, _, _⟩ := HF.out.tk
          simp only at t0 t1 t2 t3
          clear hE hB hTk0 hG0
          go_wp2_with fail
          go_ret2
          rw [HQ.out]
          exact HF.out.bad
      · rw [if_neg k6] at hR
        have d6 : (kd == 6) = false := beq_eq_false_iff_ne.2 k6
        by_cases hn : nm = 0
        · subst hn
          rw [if_neg (by simp)] at hR
          clear k1 k3 k6 hn0 hn1
          by_cases k2 : kd = 2
          · subst k2
            rw [if_pos rfl] at hR
            clear d1 d3 d3n d6
            have hvq := isVar_eq tx
            by_cases h0 : tx.size = 0
            · have hl := isEmpty_of h0
              have HQ : Hid (R = badArg) := Lib.hid (by rw [hR, if_neg (by unfold isVar; simp [h0])])
              have hz : decide (0 < tx.size) = false := decide_eq_false (by omega)
              have hz2 : decide ((0 : Int) < (tx.size : Int)) = false := decide_eq_false (by omega)
              clear hR h0 hvq
              go_enter Tryz.func33, Tryz.ntmps33
              go_wp2_with fail
              refine (lex_fault _ _ _ _ [] rfl).mono ?_
              rintro e w2 ⟨wv, rfl, hE, hB⟩
              have HF := Lib.hid (WrFrame.mk (w := w) (hTk0.below hB (by simp)) (trans_below (below_alloc (Below.refl _ _) _) hB) hE (hG0.below hB))
              obtain ⟨t0, t1, t2, t3, _, _, _, _⟩ := HF.out.tk
              simp only at t0 t1 t2 t3
              clear hE hB hTk0 hG0
              go_wp2_with fail
              go_loopg [5, 70] 0 (fun gk vk vi wl => vk = .bool false ∧ vi = .int .i64 0 ∧ gk = 0 ∧ wl = w2)
              case atStart => exact ⟨rfl, rfl, rfl, rfl⟩
              case round =>
                obtain ⟨rfl, rfl, rfl, rfl⟩ := hrel
                go_wp2_with fail
                go_ret2
                rw [HQ.out]
                exact HF.out.bad
            · have hl := isEmpty_not h0
              have hb0 := btk tx 0
              have hr0 := bt_range tx 0
              have hx1 : (0 : Int) < (tx.size : Int) := by omega
              obtain ⟨k0, hk0⟩ : ∃ k0, k0 = (decide (tx.size ≤ 255) && isUpper (bt tx 0)) := ⟨_, rfl⟩
              have HQ : Hid (R = if k0 && decide (tx.size ≤ runEnd isIn tx 0) then (tx, []) else badArg) := Lib.hid (by
                rw [hR, hvq, hk0, decide_eq_true (show 0 < tx.size by omega), Bool.true_and])
              have HK0 := Lib.hid hk0
              clear hR hvq hk0
              by_cases h255 : tx.size ≤ 255
              · have d255 : decide ((tx.size : Int) ≤ 255) = true := decide_eq_true (by omega)
                have HK1 : Hid (k0 = isUpper (bt tx 0)) := Lib.hid (by rw [HK0.out, decide_eq_true h255, Bool.true_and])
                clear h255
                cases hcp : isCapital (bt tx 0) with
                | true =>
                  have HK : Hid (k0 = true) := Lib.hid (by rw [HK1.out]; unfold isUpper; rw [hcp]; rfl)
                  go_enter Tryz.func33, Tryz.ntmps33
                  go_wp2_with fail
                  refine (lex_fault _ _ _ _ [] rfl).mono ?_
                  rintro e w2 ⟨wv, rfl, hE, hB⟩
                  have HF := Lib.hid (WrFrame.mk (w := w) (hTk0.below hB (by simp)) (trans_below (below_alloc (Below.refl _ _) _) hB) hE (hG0.below hB))
                  obtain ⟨t0, t1, t2, t3, _, _, _, _⟩ := HF.out.tk
                  simp only at t0 t1 t2 t3
                  clear hE hB hTk0 hG0
                  go_wp2_with fail
                  refine (lex_capital _ _).mono ?_
                  rintro e w' ⟨rfl, rfl⟩
                  go_wp2_with fail
                  have HST := Lib.hid (fun i => @run_step isIn tx i)
                  clear t0 t1 t2 t3
                  go_loopg [5, 70] tx.size (fun gk vk vi wl => ∃ i : Nat, vi = .int .i64 (i : Int) ∧ gk = tx.size - i ∧ i ≤ tx.size ∧ vk = .bool (k0 && decide (i ≤ runEnd isIn tx 0)) ∧ wl = w2)
                  case atStart => exact ⟨0, rfl, rfl, Nat.zero_le _, by rw [HK.out]; rfl, rfl⟩
                  case round =>
                    obtain ⟨i, rfl, hgk, hi, rfl, rfl⟩ := hrel
                    have HM := Lib.hid hgk
                    clear hgk
                    have hk := HK.out
                    by_cases hlt : i < tx.size
                    · have hbi := btk tx i
                      have hi0 : (0 : Int) ≤ (i : Int) := by omega
                      have hi1 : (i : Int) < (tx.size : Int) := by omega
                      cases hok : (k0 && decide (i ≤ runEnd isIn tx 0)) with
                      | true =>
                        have hle : i ≤ runEnd isIn tx 0 := by
                          rw [Bool.and_eq_true] at hok
                          exact of_decide_eq_true hok.2
                        have HN : Hid ((k0 && decide (i + 1 ≤ runEnd isIn tx 0)) = isIn (bt tx (i : Int))) := Lib.hid (by
                          rw [Bool.and_eq_true] at hok
                          rw [hok.1, Bool.true_and, Bool.eq_iff_iff, decide_eq_true_eq]
                          exact HST.out _ hlt hle)
                        clear hk hle
                        go_wp2_with fail
                        refine (lex_inWord _ _).mono ?_
                        rintro e w' ⟨rfl, rfl⟩
                        go_wp2_with fail
                        go_roundg (tx.size - (i + 1))
                        case measure => rw [HM.out]; omega
                        case rel => exact ⟨i + 1, by go_num, rfl, by omega, by rw [HN.out], rfl⟩
                      | false =>
                        have HN : Hid ((k0 && decide (i + 1 ≤ runEnd isIn tx 0)) = false) := Lib.hid (by
                          rw [Bool.and_eq_false_iff] at hok ⊢
                          rcases hok with h | h
                          · exact .inl h
                          · refine .inr (decide_eq_false ?_)
                            have := of_decide_eq_false h
                            omega)
                        clear hk
                        go_wp2_with fail
                        go_roundg (tx.size - (i + 1))
                        case measure => rw [HM.out]; omega
                        case rel => exact ⟨i + 1, by go_num, rfl, by omega, by rw [HN.out], rfl⟩
                    · have d9 : decide ((i : Int) < (tx.size : Int)) = false := decide_eq_false (by omega)
                      have hie : i = tx.size := by omega
                      have HKE : Hid ((k0 && decide (tx.size ≤ runEnd isIn tx 0)) = (k0 && decide (i ≤ runEnd isIn tx 0))) := Lib.hid (by rw [hie])
                      rw [HKE.out] at HQ
                      clear hk hie
                      cases hok : (k0 && decide (i ≤ runEnd isIn tx 0)) with
                      | true =>
                        rw [hok, if_pos rfl] at HQ
                        go_wp2_with fail
                        go_ret2
                        rw [HQ.out]
                        exact HF.out.good tx
                      | false =>
                        rw [hok, if_neg (by simp)] at HQ
                        go_wp2_with fail
                        go_ret2
                        rw [HQ.out]
                        exact HF.out.bad
                | false =>
                  cases h95 : (bt tx 0 == 95) with
                  | true =>
                    have HK : Hid (k0 = true) := Lib.hid (by rw [HK1.out]; unfold isUpper; rw [hcp, h95]; rfl)
                    go_enter Tryz.func33, Tryz.ntmps33
                    go_wp2_with fail
                    refine (lex_fault _ _ _ _ [] rfl).mono ?_
                    rintro e w2 ⟨wv, rfl, hE, hB⟩
                    have HF := Lib.hid (WrFrame.mk (w := w) (hTk0.below hB (by simp)) (trans_below (below_alloc (Below.refl _ _) _) hB) hE (hG0.below hB))
                    obtain ⟨t0, t1, t2, t3, _, _, _, _⟩ := HF.out.tk
                    simp only at t0 t1 t2 t3
                    clear hE hB hTk0 hG0
                    go_wp2_with fail
                    refine (lex_capital _ _).mono ?_
                    rintro e w' ⟨rfl, rfl⟩
                    go_wp2_with fail
                    have HST := Lib.hid (fun i => @run_step isIn tx i)
                    clear t0 t1 t2 t3
                    go_loopg [5, 70] tx.size (fun gk vk vi wl => ∃ i : Nat, vi = .int .i64 (i : Int) ∧ gk = tx.size - i ∧ i ≤ tx.size ∧ vk = .bool (k0 && decide (i ≤ runEnd isIn tx 0)) ∧ wl = w2)
                    case atStart => exact ⟨0, rfl, rfl, Nat.zero_le _, by rw [HK.out]; rfl, rfl⟩
                    case round =>
                      obtain ⟨i, rfl, hgk, hi, rfl, rfl⟩ := hrel
                      have HM := Lib.hid hgk
                      clear hgk
                      have hk := HK.out
                      by_cases hlt : i < tx.size
                      · have hbi := btk tx i
                        have hi0 : (0 : Int) ≤ (i : Int) := by omega
                        have hi1 : (i : Int) < (tx.size : Int) := by omega
                        cases hok : (k0 && decide (i ≤ runEnd isIn tx 0)) with
                        | true =>
                          have hle : i ≤ runEnd isIn tx 0 := by
                            rw [Bool.and_eq_true] at hok
                            exact of_decide_eq_true hok.2
                          have HN : Hid ((k0 && decide (i + 1 ≤ runEnd isIn tx 0)) = isIn (bt tx (i : Int))) := Lib.hid (by
                            rw [Bool.and_eq_true] at hok
                            rw [hok.1, Bool.true_and, Bool.eq_iff_iff, decide_eq_true_eq]
                            exact HST.out _ hlt hle)
                          clear hk hle
                          go_wp2_with fail
                          refine (lex_inWord _ _).mono ?_
                          rintro e w' ⟨rfl, rfl⟩
                          go_wp2_with fail
                          go_roundg (tx.size - (i + 1))
                          case measure => rw [HM.out]; omega
                          case rel => exact ⟨i + 1, by go_num, rfl, by omega, by rw [HN.out], rfl⟩
                        | false =>
                          have HN : Hid ((k0 && decide (i + 1 ≤ runEnd isIn tx 0)) = false) := Lib.hid (by
                            rw [Bool.and_eq_false_iff] at hok ⊢
                            rcases hok with h | h
                            · exact .inl h
                            · refine .inr (decide_eq_false ?_)
                              have := of_decide_eq_false h
                              omega)
                          clear hk
                          go_wp2_with fail
                          go_roundg (tx.size - (i + 1))
                          case measure => rw [HM.out]; omega
                          case rel => exact ⟨i + 1, by go_num, rfl, by omega, by rw [HN.out], rfl⟩
                      · have d9 : decide ((i : Int) < (tx.size : Int)) = false := decide_eq_false (by omega)
                        have hie : i = tx.size := by omega
                        have HKE : Hid ((k0 && decide (tx.size ≤ runEnd isIn tx 0)) = (k0 && decide (i ≤ runEnd isIn tx 0))) := Lib.hid (by rw [hie])
                        rw [HKE.out] at HQ
                        clear hk hie
                        cases hok : (k0 && decide (i ≤ runEnd isIn tx 0)) with
                        | true =>
                          rw [hok, if_pos rfl] at HQ
                          go_wp2_with fail
                          go_ret2
                          rw [HQ.out]
                          exact HF.out.good tx
                        | false =>
                          rw [hok, if_neg (by simp)] at HQ
                          go_wp2_with fail
                          go_ret2
                          rw [HQ.out]
                          exact HF.out.bad
                  | false =>
                    have HK : Hid (k0 = false) := Lib.hid (by rw [HK1.out]; unfold isUpper; rw [hcp, h95]; rfl)
                    go_enter Tryz.func33, Tryz.ntmps33
                    go_wp2_with fail
                    refine (lex_fault _ _ _ _ [] rfl).mono ?_
                    rintro e w2 ⟨wv, rfl, hE, hB⟩
                    have HF := Lib.hid (WrFrame.mk (w := w) (hTk0.below hB (by simp)) (trans_below (below_alloc (Below.refl _ _) _) hB) hE (hG0.below hB))
                    obtain ⟨t0, t1, t2, t3, _, _, _, _⟩ := HF.out.tk
                    simp only at t0 t1 t2 t3
                    clear hE hB hTk0 hG0
                    go_wp2_with fail
                    refine (lex_capital _ _).mono ?_
                    rintro e w' ⟨rfl, rfl⟩
                    go_wp2_with fail
                    have HST := Lib.hid (fun i => @run_step isIn tx i)
                    clear t0 t1 t2 t3
                    go_loopg [5, 70] tx.size (fun gk vk vi wl => ∃ i : Nat, vi = .int .i64 (i : Int) ∧ gk = tx.size - i ∧ i ≤ tx.size ∧ vk = .bool (k0 && decide (i ≤ runEnd isIn tx 0)) ∧ wl = w2)
                    case atStart => exact ⟨0, rfl, rfl, Nat.zero_le _, by rw [HK.out]; rfl, rfl⟩
                    case round =>
                      obtain ⟨i, rfl, hgk, hi, rfl, rfl⟩ := hrel
                      have HM := Lib.hid hgk
                      clear hgk
                      have hk := HK.out
                      by_cases hlt : i < tx.size
                      · have hbi := btk tx i
                        have hi0 : (0 : Int) ≤ (i : Int) := by omega
                        have hi1 : (i : Int) < (tx.size : Int) := by omega
                        cases hok : (k0 && decide (i ≤ runEnd isIn tx 0)) with
                        | true =>
                          have hle : i ≤ runEnd isIn tx 0 := by
                            rw [Bool.and_eq_true] at hok
                            exact of_decide_eq_true hok.2
                          have HN : Hid ((k0 && decide (i + 1 ≤ runEnd isIn tx 0)) = isIn (bt tx (i : Int))) := Lib.hid (by
                            rw [Bool.and_eq_true] at hok
                            rw [hok.1, Bool.true_and, Bool.eq_iff_iff, decide_eq_true_eq]
                            exact HST.out _ hlt hle)
                          clear hk hle
                          go_wp2_with fail
                          refine (lex_inWord _ _).mono ?_
                          rintro e w' ⟨rfl, rfl⟩
                          go_wp2_with fail
                          go_roundg (tx.size - (i + 1))
                          case measure => rw [HM.out]; omega
                          case rel => exact ⟨i + 1, by go_num, rfl, by omega, by rw [HN.out], rfl⟩
                        | false =>
                          have HN : Hid ((k0 && decide (i + 1 ≤ runEnd isIn tx 0)) = false) := Lib.hid (by
                            rw [Bool.and_eq_false_iff] at hok ⊢
                            rcases hok with h | h
                            · exact .inl h
                            · refine .inr (decide_eq_false ?_)
                              have := of_decide_eq_false h
                              omega)
                          clear hk
                          go_wp2_with fail
                          go_roundg (tx.size - (i + 1))
                          case measure => rw [HM.out]; omega
                          case rel => exact ⟨i + 1, by go_num, rfl, by omega, by rw [HN.out], rfl⟩
                      · have d9 : decide ((i : Int) < (tx.size : Int)) = false := decide_eq_false (by omega)
                        have hie : i = tx.size := by omega
                        have HKE : Hid ((k0 && decide (tx.size ≤ runEnd isIn tx 0)) = (k0 && decide (i ≤ runEnd isIn tx 0))) := Lib.hid (by rw [hie])
                        rw [HKE.out] at HQ
                        clear hk hie
                        cases hok : (k0 && decide (i ≤ runEnd isIn tx 0)) with
                        | true =>
                          rw [hok, if_pos rfl] at HQ
                          go_wp2_with fail
                          go_ret2
                          rw [HQ.out]
                          exact HF.out.good tx
                        | false =>
                          rw [hok, if_neg (by simp)] at HQ
                          go_wp2_with fail
                          go_ret2
                          rw [HQ.out]
                          exact HF.out.bad
              · have d255 : decide ((tx.size : Int) ≤ 255) = false := decide_eq_false (by omega)
                have HK : Hid (k0 = false) := Lib.hid (by rw [HK0.out, decide_eq_false h255, Bool.false_and])
                clear h255
                go_enter Tryz.func33, Tryz.ntmps33
                go_wp2_with fail
                refine (lex_fault _ _ _ _ [] rfl).mono ?_
                rintro e w2 ⟨wv, rfl, hE, hB⟩
                have HF := Lib.hid (WrFrame.mk (w := w) (hTk0.below hB (by simp)) (trans_below (below_alloc (Below.refl _ _) _) hB) hE (hG0.below hB))
                obtain ⟨t0, t1, t2, t3, _, _, _, _⟩ := HF.out.tk
                simp only at t0 t1 t2 t3
                clear hE hB hTk0 hG0
                go_wp2_with fail
                have HST := Lib.hid (fun i => @run_step isIn tx i)
                clear t0 t1 t2 t3
                go_loopg [5, 70] tx.size (fun gk vk vi wl => ∃ i : Nat, vi = .int .i64 (i : Int) ∧ gk = tx.size - i ∧ i ≤ tx.size ∧ vk = .bool (k0 && decide (i ≤ runEnd isIn tx 0)) ∧ wl = w2)
                case atStart => exact ⟨0, rfl, rfl, Nat.zero_le _, by rw [HK.out]; rfl, rfl⟩
                case round =>
                  obtain ⟨i, rfl, hgk, hi, rfl, rfl⟩ := hrel
                  have HM := Lib.hid hgk
                  clear hgk
                  have hk := HK.out
                  by_cases hlt : i < tx.size
                  · have hbi := btk tx i
                    have hi0 : (0 : Int) ≤ (i : Int) := by omega
                    have hi1 : (i : Int) < (tx.size : Int) := by omega
                    cases hok : (k0 && decide (i ≤ runEnd isIn tx 0)) with
                    | true =>
                      have hle : i ≤ runEnd isIn tx 0 := by
                        rw [Bool.and_eq_true] at hok
                        exact of_decide_eq_true hok.2
                      have HN : Hid ((k0 && decide (i + 1 ≤ runEnd isIn tx 0)) = isIn (bt tx (i : Int))) := Lib.hid (by
                        rw [Bool.and_eq_true] at hok
                        rw [hok.1, Bool.true_and, Bool.eq_iff_iff, decide_eq_true_eq]
                        exact HST.out _ hlt hle)
                      clear hk hle
                      go_wp2_with fail
                      refine (lex_inWord _ _).mono ?_
                      rintro e w' ⟨rfl, rfl⟩
                      go_wp2_with fail
                      go_roundg (tx.size - (i + 1))
                      case measure => rw [HM.out]; omega
                      case rel => exact ⟨i + 1, by go_num, rfl, by omega, by rw [HN.out], rfl⟩
                    | false =>
                      have HN : Hid ((k0 && decide (i + 1 ≤ runEnd isIn tx 0)) = false) := Lib.hid (by
                        rw [Bool.and_eq_false_iff] at hok ⊢
                        rcases hok with h | h
                        · exact .inl h
                        · refine .inr (decide_eq_false ?_)
                          have := of_decide_eq_false h
                          omega)
                      clear hk
                      go_wp2_with fail
                      go_roundg (tx.size - (i + 1))
                      case measure => rw [HM.out]; omega
                      case rel => exact ⟨i + 1, by go_num, rfl, by omega, by rw [HN.out], rfl⟩
                  · have d9 : decide ((i : Int) < (tx.size : Int)) = false := decide_eq_false (by omega)
                    have hie : i = tx.size := by omega
                    have HKE : Hid ((k0 && decide (tx.size ≤ runEnd isIn tx 0)) = (k0 && decide (i ≤ runEnd isIn tx 0))) := Lib.hid (by rw [hie])
                    rw [HKE.out] at HQ
                    clear hk hie
                    cases hok : (k0 && decide (i ≤ runEnd isIn tx 0)) with
                    | true =>
                      rw [hok, if_pos rfl] at HQ
                      go_wp2_with fail
                      go_ret2
                      rw [HQ.out]
                      exact HF.out.good tx
                    | false =>
                      rw [hok, if_neg (by simp)] at HQ
                      go_wp2_with fail
                      go_ret2
                      rw [HQ.out]
                      exact HF.out.bad
          · rw [if_neg k2] at hR
            have d2 : (kd == 2) = false := beq_eq_false_iff_ne.2 k2
            by_cases k4 : kd = 4
            · subst k4
              rw [if_pos rfl] at hR
              clear d1 d3 d3n d6 k2 d2
              have HIR := Lib.hid (lex_isReserved tx hm)
              have HCO := Lib.hid (Tryz.strings_Contains_one tx 32)
              by_cases hsp : 0 ≤ Lib.indexByte tx.data.toList 32
              · have HQ : Hid (R = badArg) := Lib.hid (by
                  rw [hR, if_neg (fun h => by rw [res_space h] at hsp; omega)])
                rw [decide_eq_true hsp] at HCO
                clear hR hsp
                cases hb : isResB tx with
                | true =>
                  rw [hb] at HIR
                  go_enter Tryz.func33, Tryz.ntmps33
                  go_wp2_with fail
                  refine (lex_fault _ _ _ _ [] rfl).mono ?_
                  rintro e w2 ⟨wv, rfl, hE, hB⟩
                  have HF := Lib.hid (WrFrame.mk (w := w) (hTk0.below hB (by simp)) (trans_below (below_alloc (Below.refl _ _) _) hB) hE (hG0.below hB))
                  obtain ⟨t0, t1, t2, t3, _, _, _, _⟩ := HF.out.tk
                  simp only at t0 t1 t2 t3
                  clear hE hB hTk0 hG0
                  go_wp2_with fail
                  refine (HIR.out _ HF.out.g).mono ?_
                  rintro e w' ⟨rfl, rfl⟩
                  go_wp2_with fail
                  refine (HCO.out _).mono ?_
                  rintro e w' ⟨rfl, rfl⟩
                  go_wp2_with fail
                  go_ret2
                  rw [HQ.out]
                  exact HF.out.bad
                | false =>
                  rw [hb] at HIR
                  go_enter Tryz.func33, Tryz.ntmps33
                  go_wp2_with fail
                  refine (lex_fault _ _ _ _ [] rfl).mono ?_
                  rintro e w2 ⟨wv, rfl, hE, hB⟩
                  have HF := Lib.hid (WrFrame.mk (w := w) (hTk0.below hB (by simp)) (trans_below (below_alloc (Below.refl _ _) _) hB) hE (hG0.below hB))
                  obtain ⟨t0, t1, t2, t3, _, _, _, _⟩ := HF.out.tk
                  simp only at t0 t1 t2 t3
                  clear hE hB hTk0 hG0
                  go_wp2_with fail
                  refine (HIR.out _ HF.out.g).mono ?_
                  rintro e w' ⟨rfl, rfl⟩
                  go_wp2_with fail
                  go_ret2
                  rw [HQ.out]
                  exact HF.out.bad
              · have hno : ∀ c ∈ tx.data.toList, c ≠ 32 := by
                  intro c hc he
                  subst he
                  have h1 := Lib.indexByte_ge tx.data.toList 32
                  obtain ⟨j, hj⟩ := List.mem_iff_getElem?.1 hc
                  have h2 : Lib.indexByte tx.data.toList 32 ≠ -1 := fun h => Lib.indexByte_none h j hj
                  omega
                rw [decide_eq_false hsp] at HCO
                rw [isResB_eq tx hno] at HIR
                clear hsp hno
                cases hb : isRes tx with
                | true =>
                  rw [hb] at HIR hR
                  have HQ : Hid (R = (tx, [])) := Lib.hid hR
                  clear hR
                  go_enter Tryz.func33, Tryz.ntmps33
                  go_wp2_with fail
                  refine (lex_fault _ _ _ _ [] rfl).mono ?_
                  rintro e w2 ⟨wv, rfl, hE, hB⟩
                  have HF := Lib.hid (WrFrame.mk (w := w) (hTk0.below hB (by simp)) (trans_below (below_alloc (Below.refl _ _) _) hB) hE (hG0.below hB))
                  obtain ⟨t0, t1, t2, t3, _, _, _, _⟩ := HF.out.tk
                  simp only at t0 t1 t2 t3
                  clear hE hB hTk0 hG0
                  go_wp2_with fail
                  refine (HIR.out _ HF.out.g).mono ?_
                  rintro e w' ⟨rfl, rfl⟩
                  go_wp2_with fail
                  refine (HCO.out _).mono ?_
                  rintro e w' ⟨rfl, rfl⟩
                  go_wp2_with fail
                  go_ret2
                  rw [HQ.out]
                  exact HF.out.good tx
                | false =>
                  rw [hb, if_neg (by simp)] at hR
                  rw [hb] at HIR
                  have HQ : Hid (R = badArg) := Lib.hid hR
                  clear hR
                  go_enter Tryz.func33, Tryz.ntmps33
                  go_wp2_with fail
                  refine (lex_fault _ _ _ _ [] rfl).mono ?_
                  rintro e w2 ⟨wv, rfl, hE, hB⟩
                  have HF := Lib.hid (WrFrame.mk (w := w) (hTk0.below hB (by simp)) (trans_below (below_alloc (Below.refl _ _) _) hB) hE (hG0.below hB))
                  obtain ⟨t0, t1, t2, t3, _, _, _, _⟩ := HF.out.tk
                  simp only at t0 t1 t2 t3
                  clear hE hB hTk0 hG0
                  go_wp2_with fail
                  refine (HIR.out _ HF.out.g).mono ?_
                  rintro e w' ⟨rfl, rfl⟩
                  go_wp2_with fail
                  go_ret2
                  rw [HQ.out]
                  exact HF.out.bad
            · rw [if_neg k4] at hR
              have d4 : (kd == 4) = false := beq_eq_false_iff_ne.2 k4
              by_cases k5 : kd = 5
              · subst k5
                rw [if_pos rfl] at hR
                clear d1 d3 d3n d6 k2 d2 k4 d4
                cases hb : Lib.containsS signList tx with
                | true =>
                  rw [hb, if_pos rfl] at hR
                  have HQ : Hid (R = (tx, [])) := Lib.hid hR
                  clear hR
                  go_enter Tryz.func33, Tryz.ntmps33
                  go_wp2_with fail
                  refine (lex_fault _ _ _ _ [] rfl).mono ?_
                  rintro e w2 ⟨wv, rfl, hE, hB⟩
                  have HF := Lib.hid (WrFrame.mk (w := w) (hTk0.below hB (by simp)) (trans_below (below_alloc (Below.refl _ _) _) hB) hE (hG0.below hB))
                  obtain ⟨t0, t1, t2, t3, _, _, _, _⟩ := HF.out.tk
                  simp only at t0 t1 t2 t3
                  clear hE hB hTk0 hG0
                  go_wp2_with fail
                  refine (lex_signs _).mono ?_
                  rintro e w5 ⟨rfl, hcell, hsb, hB5⟩
                  replace HF := Lib.hid (HF.out.step hB5)
                  have HCS := Lib.hid (Tryz.slices_Contains_string w2.heap.size 0 27 27 signList tx w5 (by decide) (by decide) (fun j hj => by rw [Nat.zero_add]; exact hcell j hj))
                  rw [show signList.take 27 = signList from rfl, hb] at HCS
                  clear hcell hsb hB5 t0 t1 t2 t3
                  go_wp2_with fail
                  refine HCS.out.mono ?_
                  rintro e w' ⟨rfl, rfl⟩
                  go_wp2_with fail
                  go_ret2
                  rw [HQ.out]
                  exact HF.out.good tx
                | false =>
                  rw [hb, if_neg (by simp)] at hR
                  have HQ : Hid (R = badArg) := Lib.hid hR
                  clear hR
                  go_enter Tryz.func33, Tryz.ntmps33
                  go_wp2_with fail
                  refine (lex_fault _ _ _ _ [] rfl).mono ?_
                  rintro e w2 ⟨wv, rfl, hE, hB⟩
                  have HF := Lib.hid (WrFrame.mk (w := w) (hTk0.below hB (by simp)) (trans_below (below_alloc (Below.refl _ _) _) hB) hE (hG0.below hB))
                  obtain ⟨t0, t1, t2, t3, _, _, _, _⟩ := HF.out.tk
                  simp only at t0 t1 t2 t3
                  clear hE hB hTk0 hG0
                  go_wp2_with fail
                  refine (lex_signs _).mono ?_
                  rintro e w5 ⟨rfl, hcell, hsb, hB5⟩
                  replace HF := Lib.hid (HF.out.step hB5)
                  have HCS := Lib.hid (Tryz.slices_Contains_string w2.heap.size 0 27 27 signList tx w5 (by decide) (by decide) (fun j hj => by rw [Nat.zero_add]; exact hcell j hj))
                  rw [show signList.take 27 = signList from rfl, hb] at HCS
                  clear hcell hsb hB5 t0 t1 t2 t3
                  go_wp2_with fail
                  refine HCS.out.mono ?_
                  rintro e w' ⟨rfl, rfl⟩
                  go_wp2_with fail
                  go_ret2
                  rw [HQ.out]
                  exact HF.out.bad
              · rw [if_neg k5] at hR
                have d5 : (kd == 5) = false := beq_eq_false_iff_ne.2 k5
                have HQ := Lib.hid hR
                clear hR k2 k4 k5
                go_enter Tryz.func33, Tryz.ntmps33
                go_wp2_with fail
                refine (lex_fault _ _ _ _ [] rfl).mono ?_
                rintro e w2 ⟨wv, rfl, hE, hB⟩
                have HF := Lib.hid (WrFrame.mk (w := w) (hTk0.below hB (by simp)) (trans_below (below_alloc (Below.refl _ _) _) hB) hE (hG0.below hB))
                obtain ⟨t0, t1, t2, t3, _, _, _, _⟩ := HF.out.tk
                simp only at t0 t1 t2 t3
                clear hE hB hTk0 hG0
                go_wp2_with fail
                go_ret2
                rw [HQ.out]
                exact HF.out.bad
        · have hnb : (nm != 0) = true := by simp [hn]
          have HQ : Hid (R = badArg) := Lib.hid (by rw [hR, if_pos hn])
          clear hR hn k1 k3 k6
          go_enter Tryz.func33, Tryz.ntmps33
          go_wp2_with fail
          refine (lex_fault _ _ _ _ [] rfl).mono ?_
          rintro e w2 ⟨wv, rfl, hE, hB⟩
          have HF := Lib.hid (WrFrame.mk (w := w) (hTk0.below hB (by simp)) (trans_below (below_alloc (Below.refl _ _) _) hB) hE (hG0.below hB))
          obtain ⟨t0, t1, t2, t3, _, _, _, _⟩ := HF.out.tk
          simp only at t0 t1 t2 t3
          clear hE hB hTk0 hG0
          go_wp2_with fail
          go_ret2
          rw [HQ.out]
          exact HF.out.bad
end Go.Proofs.YtgapeacflkfmdaaGreatDoor
namespace Go.Proofs.YtgapeacflkfmdaaGreatDoor
open Go.RowKit Go.Sort Go.Proofs.YtgapeacflkfmdaaGreatDoorW.PrintWords

structure WrRef (w W : World) (t : Tk) (wv : Value) : Prop where
  tk : TkAt W w.heap.size t
  bl : Below w.heap.size w W
  er : LnIs W w.heap.size [⟨nLex, 0, 1⟩] wv
theorem WrRef.step {w W W' : World} {t : Tk} {wv : Value} (h : WrRef w W t wv) (hb : Below W.heap.size W W') : WrRef w W' t wv :=
  ⟨h.tk.below hb (World.block_lt_of_cell? W _ h.tk.c0), trans_below h.bl hb, h.er.below hb⟩
theorem WrRef.drewN {w W : World} {t : Tk} {wv : Value} (h : WrRef w W t wv) (n : Nat) : WrRef w (W.drewN n) t wv := h.step (below_drewN _ _ _)
theorem WrRef.bad {w W : World} {t : Tk} {wv : Value} (h : WrRef w W t wv) : StrR w badArg (.returned (.tuple #[.string ⟨#[]⟩, wv])) W := ⟨_, rfl, h.er, h.bl⟩
theorem WrRef.good {w W : World} {t : Tk} {wv : Value} (h : WrRef w W t wv) (s : ByteArray) : StrR w (s, []) (.returned (.tuple #[.string s, .slice none 0 0])) W := ⟨_, rfl, LnIs.nil _ _, h.bl⟩
theorem Calls.regrown_same {P : Program} {f : FuncId} {args : Array Value} {w : World} {d : Nat} {os : Array Obj} {v : Value}
    (h : Calls P f args (grow (redrawn w d) os) fun e w' => e = .returned v ∧ grow (redrawn w d) os = w') : Calls P f args (grow (redrawn w d) os) fun e w'' => e = .returned v ∧ ∃ p : Regrown, w'' = grow (redrawn w p.d) p.os :=
  h.mono fun _ _ ⟨he, hb⟩ => ⟨he, ⟨d, os⟩, hb.symm⟩

set_option maxRecDepth 100000 in
set_option maxHeartbeats 4000000 in
theorem ref10_Write (t : Tk) (hm : t.tx.size ≤ 140737488351232) (hn0 : -9223372036854775808 ≤ t.nm) (hn1 : t.nm ≤ 9223372036854775807) (w : World) (hG : Glob w) :
    Calls Tryz.prog 34 #[tkV t] w (StrR w (wrTok t)) := by
  obtain ⟨kd, tx, nm, at_⟩ := t
  simp only [tkV] at *
  have hTk0 : TkAt (w.alloc (.cells #[.int .i64 kd, .string tx, .int .i64 nm, .int .i64 at_] 63)) w.heap.size ⟨kd, tx, nm, at_⟩ := by constructor <;> simp
  obtain ⟨R, hR⟩ : ∃ R, R = wrTok ⟨kd, tx, nm, at_⟩ := ⟨_, rfl⟩
  rw [← hR]
  unfold wrTok at hR
  simp only at hR
  have HG := Lib.hid hG
  have hne := fun (w : World) (a : Option Addr) (n c : Nat) => run_neq_slice_nil_any (P := Tryz.prog) w 32 83 a n c 0 0 Tryz.underlying32
  clear hG
  by_cases k1 : kd = 1
  · subst k1
    rw [if_pos rfl] at hR
    clear hn0 hn1
    have HRQ := Lib.hid (ref01_Quote tx hm)
    cases hq : (quoted tx).2 with
    | nil =>
      by_cases hn : nm = 0
      · have hnb : (nm != 0) = false := by simp [hn]
        have HQ : Hid (R = ((quoted tx).1, [])) := Lib.hid (by rw [hR, if_pos ⟨hn, hq⟩])
        clear hR hn
        go_enter Tryz.func34, Tryz.ntmps34
        go_wp2_with fail
        refine (ref10_no _ _ _).mono ?_
        rintro e w2 ⟨wv, rfl, hE, hB⟩
        obtain ⟨gg, cc, rfl, _⟩ := hE.head
        have HF := Lib.hid (WrRef.mk (w := w) (hTk0.below hB (by simp)) (trans_below (below_alloc (Below.refl _ _) _) hB) (hE.lower (by simp)))
        obtain ⟨t0, t1, t2, t3, _, _, _, _⟩ := HF.out.tk
        simp only at t0 t1 t2 t3
        clear hE hB hTk0
        go_wp2_with fail
        refine (HRQ.out _).mono ?_
        rintro e w3 ⟨v, rfl, hE3, hB3⟩
        replace HF := Lib.hid (HF.out.step hB3)
        rw [hq] at hE3
        obtain rfl : v = .slice none 0 0 := hE3.2 rfl
        clear t0 t1 t2 t3 hB3 hE3
        obtain ⟨t0, t1, t2, t3, _, _, _, _⟩ := HF.out.tk
        simp only at t0 t1 t2 t3
        go_wp2_with fail
        go_ret2
        rw [HQ.out]
        exact HF.out.good (quoted tx).1
      · have hnb : (nm != 0) = true := by simp [hn]
        have HQ : Hid (R = badArg) := Lib.hid (by rw [hR, if_neg (fun h => hn h.1)])
        clear hR hn
        go_enter Tryz.func34, Tryz.ntmps34
        go_wp2_with fail
        refine (ref10_no _ _ _).mono ?_
        rintro e w2 ⟨wv, rfl, hE, hB⟩
        obtain ⟨gg, cc, rfl, _⟩ := hE.head
        have HF := Lib.hid (WrRef.mk (w := w) (hTk0.below hB (by simp)) (trans_below (below_alloc (Below.refl _ _) _) hB) (hE.lower (by simp)))
        obtain ⟨t0, t1, t2, t3, _, _, _, _⟩ := HF.out.tk
        simp only at t0 t1 t2 t3
        clear hE hB hTk0
        go_wp2_with fail
        refine (HRQ.out _).mono ?_
        rintro e w3 ⟨v, rfl, hE3, hB3⟩
        replace HF := Lib.hid (HF.out.step hB3)
        rw [hq] at hE3
        obtain rfl : v = .slice none 0 0 := hE3.2 rfl
        clear t0 t1 t2 t3 hB3 hE3
        obtain ⟨t0, t1, t2, t3, _, _, _, _⟩ := HF.out.tk
        simp only at t0 t1 t2 t3
        go_wp2_with fail
        go_ret2
        rw [HQ.out]
        exact HF.out.bad
    | cons x r =>
      have HQ : Hid (R = badArg) := Lib.hid (by rw [hR, if_neg (by rw [hq]; simp)])
      clear hR
      go_enter Tryz.func34, Tryz.ntmps34
      go_wp2_with fail
      refine (ref10_no _ _ _).mono ?_
      rintro e w2 ⟨wv, rfl, hE, hB⟩
      obtain ⟨gg, cc, rfl, _⟩ := hE.head
      have HF := Lib.hid (WrRef.mk (w := w) (hTk0.below hB (by simp)) (trans_below (below_alloc (Below.refl _ _) _) hB) (hE.lower (by simp)))
      obtain ⟨t0, t1, t2, t3, _, _, _, _⟩ := HF.out.tk
      simp only at t0 t1 t2 t3
      clear hE hB hTk0
      go_wp2_with fail
      refine (HRQ.out _).mono ?_
      rintro e w3 ⟨v, rfl, hE3, hB3⟩
      replace HF := Lib.hid (HF.out.step hB3)
      rw [hq] at hE3
      obtain ⟨g3, c3, rfl, _⟩ := hE3.head
      clear t0 t1 t2 t3 hB3 hE3
      go_wp2_with fail
      go_ret2
      rw [HQ.out]
      exact HF.out.bad
  · rw [if_neg k1] at hR
    have d1 : (kd == 1) = false := beq_eq_false_iff_ne.2 k1
    by_cases k3 : kd = 3
    · subst k3
      rw [if_pos rfl] at hR
      clear k1 d1
      by_cases h0 : tx.size = 0
      · have hl := isEmpty_of h0
        have HQ0 : Hid ((0 ≤ nm ∧ nm ≤ 576460752303423487 → R = (⟨(Lib.itoa nm).toArray⟩, [])) ∧ (¬ (0 ≤ nm ∧ nm ≤ 576460752303423487) → R = badArg)) := Lib.hid ⟨fun h => by rw [hR, if_pos ⟨h0, h⟩], fun h => by rw [hR, if_neg (fun g => h g.2)]⟩
        have HFI := Lib.hid (fmt_int nm hn0 hn1)
        clear hR h0
        by_cases hneg : nm < 0
        · have dn : decide (nm < 0) = true := decide_eq_true hneg
          have HQ : Hid (R = badArg) := Lib.hid (HQ0.out.2 fun h => by omega)
          clear hn0 hn1 hneg
          go_enter Tryz.func34, Tryz.ntmps34
          go_wp2_with fail
          refine (ref10_no _ _ _).mono ?_
          rintro e w2 ⟨wv, rfl, hE, hB⟩
          obtain ⟨gg, cc, rfl, _⟩ := hE.head
          have HF := Lib.hid (WrRef.mk (w := w) (hTk0.below hB (by simp)) (trans_below (below_alloc (Below.refl _ _) _) hB) (hE.lower (by simp)))
          obtain ⟨t0, t1, t2, t3, _, _, _, _⟩ := HF.out.tk
          simp only at t0 t1 t2 t3
          clear hE hB hTk0
          go_wp2_with fail
          go_ret2
          rw [HQ.out]
          exact HF.out.bad
        · have dn : decide (nm < 0) = false := decide_eq_false hneg
          by_cases hbig : nm > 576460752303423487
          · have db : decide (nm > 576460752303423487) = true := decide_eq_true hbig
            have HQ : Hid (R = badArg) := Lib.hid (HQ0.out.2 fun h => by omega)
            clear hn0 hn1 hneg hbig
            go_enter Tryz.func34, Tryz.ntmps34
            go_wp2_with fail
            refine (ref10_no _ _ _).mono ?_
            rintro e w2 ⟨wv, rfl, hE, hB⟩
            obtain ⟨gg, cc, rfl, _⟩ := hE.head
            have HF := Lib.hid (WrRef.mk (w := w) (hTk0.below hB (by simp)) (trans_below (below_alloc (Below.refl _ _) _) hB) (hE.lower (by simp)))
            obtain ⟨t0, t1, t2, t3, _, _, _, _⟩ := HF.out.tk
            simp only at t0 t1 t2 t3
            clear hE hB hTk0
            go_wp2_with fail
            go_ret2
            rw [HQ.out]
            exact HF.out.bad
          · have db : decide (nm > 576460752303423487) = false := decide_eq_false hbig
            have HQ : Hid (R = (⟨(Lib.itoa nm).toArray⟩, [])) := Lib.hid (HQ0.out.1 ⟨by omega, by omega⟩)
            clear hn0 hn1 hneg hbig
            go_enter Tryz.func34, Tryz.ntmps34
            go_wp2_with fail
            refine (ref10_no _ _ _).mono ?_
            rintro e w2 ⟨wv, rfl, hE, hB⟩
            obtain ⟨gg, cc, rfl, _⟩ := hE.head
            have HF := Lib.hid (WrRef.mk (w := w) (hTk0.below hB (by simp)) (trans_below (below_alloc (Below.refl _ _) _) hB) (hE.lower (by simp)))
            obtain ⟨t0, t1, t2, t3, _, _, _, _⟩ := HF.out.tk
            simp only at t0 t1 t2 t3
            clear hE hB hTk0
            go_wp2_with fail
            refine (HFI.out _ (HG.out.below HF.out.bl)).mono ?_
            rintro e w3 ⟨rfl, hB3⟩
            replace HF := Lib.hid (HF.out.step hB3)
            clear hB3 t0 t1 t2 t3
            go_wp2_with fail
            go_ret2
            rw [HQ.out]
            exact HF.out.good ⟨(Lib.itoa nm).toArray⟩
      · have hl := isEmpty_not h0
        have HQ : Hid (R = badArg) := Lib.hid (by rw [hR, if_neg (fun h => h0 h.1)])
        clear hR h0
        go_enter Tryz.func34, Tryz.ntmps34
        go_wp2_with fail
        refine (ref10_no _ _ _).mono ?_
        rintro e w2 ⟨wv, rfl, hE, hB⟩
        obtain ⟨gg, cc, rfl, _⟩ := hE.head
        have HF := Lib.hid (WrRef.mk (w := w) (hTk0.below hB (by simp)) (trans_below (below_alloc (Below.refl _ _) _) hB) (hE.lower (by simp)))
        obtain ⟨t0, t1, t2, t3, _, _, _, _⟩ := HF.out.tk
        simp only at t0 t1 t2 t3
        clear hE hB hTk0
        go_wp2_with fail
        go_ret2
        rw [HQ.out]
        exact HF.out.bad
    · rw [if_neg k3] at hR
      have d3 : (kd == 3) = false := beq_eq_false_iff_ne.2 k3
      clear hn0 hn1
      by_cases k6 : kd = 6
      · subst k6
        rw [if_pos rfl] at hR
        clear k1 k3 d1 d3
        by_cases h0 : tx.size = 0
        · have hl := isEmpty_of h0
          by_cases hn : nm = 0
          · have hnb : (nm != 0) = false := by simp [hn]
            have HQ : Hid (R = (⟨#[46]⟩, [])) := Lib.hid (by rw [hR, if_pos ⟨h0, hn⟩])
            clear hR h0 hn
            go_enter Tryz.func34, Tryz.ntmps34
            go_wp2_with fail
            refine (ref10_no _ _ _).mono ?_
            rintro e w2 ⟨wv, rfl, hE, hB⟩
            obtain ⟨gg, cc, rfl, _⟩ := hE.head
            have HF := Lib.hid (WrRef.mk (w := w) (hTk0.below hB (by simp)) (trans_below (below_alloc (Below.refl _ _) _) hB) (hE.lower (by simp)))
            obtain ⟨t0, t1, t2, t3, _, _, _, _⟩ := HF.out.tk
            simp only at t0 t1 t2 t3
            clear hE hB hTk0
            go_wp2_with fail
            go_ret2
            rw [HQ.out]
            exact HF.out.good ⟨#[46]⟩
          · have hnb : (nm != 0) = true := by simp [hn]
            have HQ : Hid (R = badArg) := Lib.hid (by rw [hR, if_neg (fun h => hn h.2)])
            clear hR h0 hn
            go_enter Tryz.func34, Tryz.ntmps34
            go_wp2_with fail
            refine (ref10_no _ _ _).mono ?_
            rintro e w2 ⟨wv, rfl, hE, hB⟩
            obtain ⟨gg, cc, rfl, _⟩ := hE.head
            have HF := Lib.hid (WrRef.mk (w := w) (hTk0.below hB (by simp)) (trans_below (below_alloc (Below.refl _ _) _) hB) (hE.lower (by simp)))
            obtain ⟨t0, t1, t2, t3, _, _, _, _⟩ := HF.out.tk
            simp only at t0 t1 t2 t3
            clear hE hB hTk0
            go_wp2_with fail
            go_ret2
            rw [HQ.out]
            exact HF.out.bad
        · have hl := isEmpty_not h0
          have HQ : Hid (R = badArg) := Lib.hid (by rw [hR, if_neg (fun h => h0 h.1)])
          clear hR h0
          go_enter Tryz.func34, Tryz.ntmps34
          go_wp2_with fail
          refine (ref10_no _ _ _).mono ?_
          rintro e w2 ⟨wv, rfl, hE, hB⟩
          obtain ⟨gg, cc, rfl, _⟩ := hE.head
          have HF := Lib.hid (WrRef.mk (w := w) (hTk0.below hB (by simp)) (trans_below (below_alloc (Below.refl _ _) _) hB) (hE.lower (by simp)))
          obtain ⟨t0, t1, t2, t3, _, _, _, _⟩ := HF.out.tk
          simp only at t0 t1 t2 t3
          clear hE hB hTk0
          go_wp2_with fail
          go_ret2
          rw [HQ.out]
          exact HF.out.bad
      · rw [if_neg k6] at hR
        have d6 : (kd == 6) = false := beq_eq_false_iff_ne.2 k6
        by_cases k2 : kd = 2
        · subst k2
          rw [if_pos rfl] at hR
          clear d1 d3 d6 k1 k3 k6
          by_cases h0 : tx.size = 0
          · have hl := isEmpty_of h0
            have HNV : isVar tx = false := by unfold isVar; simp [h0]
            have HQ : Hid (R = badArg) := Lib.hid (by
              rw [hR]
              by_cases hn : nm = 0
              · rw [if_neg (by simp [hn]), if_neg (by rw [HNV]; simp)]
              · rw [if_pos hn])
            clear hR h0 HNV
            go_enter Tryz.func34, Tryz.ntmps34
            go_wp2_with fail
            refine (ref10_no _ _ _).mono ?_
            rintro e w2 ⟨wv, rfl, hE, hB⟩
            obtain ⟨gg, cc, rfl, _⟩ := hE.head
            have HF := Lib.hid (WrRef.mk (w := w) (hTk0.below hB (by simp)) (trans_below (below_alloc (Below.refl _ _) _) hB) (hE.lower (by simp)))
            obtain ⟨t0, t1, t2, t3, _, _, _, _⟩ := HF.out.tk
            simp only at t0 t1 t2 t3
            clear hE hB hTk0
            go_wp2_with fail
            have cU : ∀ d os, Calls Tryz.prog 71 #[.int .u8 (bt tx 0)] (grow (redrawn w2 d) os) fun e w'' => e = .returned (.bool (isUpper (bt tx 0))) ∧ ∃ p : Regrown, w'' = grow (redrawn w2 p.d) p.os := fun d os => Calls.regrown_same (ref10_upper _ _)
            have cW : ∀ d os, Calls Tryz.prog 72 #[.string tx, .int .i64 0] (grow (redrawn w2 d) os) fun e w'' => e = .returned (.int .i64 (runEnd isIn tx 0 : Nat)) ∧ ∃ p : Regrown, w'' = grow (redrawn w2 p.d) p.os := fun d os => Calls.regrown_same (ref10_word tx 0 (Nat.zero_le _) hm _)
            have HCU := Lib.hid cU
            have HCW := Lib.hid cW
            have k1 := cell_regrown t1
            clear cU cW
            refine wp_region_quiet_below (by kernel_rfl) (by kernel_rfl) ?_
            repeat (go_big_quiet_step ((first | exact HCU.out _ _ | exact HCW.out _ _)))
            refine wpQuiet_nil ?_
            intro _ hw'
            obtain ⟨⟨dq, osq⟩, hw''⟩ := hw'
            subst hw''
            have hwq := below_regrown w2 dq osq
            generalize grow (redrawn w2 dq) osq = wq at hwq ⊢
            replace HF := Lib.hid (HF.out.step hwq)
            clear hwq k1 t0 t1 t2 t3
            obtain ⟨t0, t1, t2, t3, _, _, _, _⟩ := HF.out.tk
            simp only at t0 t1 t2 t3
            go_wp2_with fail
            go_ret2
            rw [HQ.out]
            exact HF.out.bad
          · have hl := isEmpty_not h0
            have hb0 := btk tx 0
            have hx1 : (0 : Int) < (tx.size : Int) := by omega
            cases hu : isUpper (bt tx 0) with
            | false =>
              have HNV : isVar tx = false := by unfold isVar; simp [hu]
              have HQ : Hid (R = badArg) := Lib.hid (by
                rw [hR]
                by_cases hn : nm = 0
                · rw [if_neg (by simp [hn]), if_neg (by rw [HNV]; simp)]
                · rw [if_pos hn])
              clear hR h0 HNV
              go_enter Tryz.func34, Tryz.ntmps34
              go_wp2_with fail
              refine (ref10_no _ _ _).mono ?_
              rintro e w2 ⟨wv, rfl, hE, hB⟩
              obtain ⟨gg, cc, rfl, _⟩ := hE.head
              have HF := Lib.hid (WrRef.mk (w := w) (hTk0.below hB (by simp)) (trans_below (below_alloc (Below.refl _ _) _) hB) (hE.lower (by simp)))
              obtain ⟨t0, t1, t2, t3, _, _, _, _⟩ := HF.out.tk
              simp only at t0 t1 t2 t3
              clear hE hB hTk0
              go_wp2_with fail
              have cU : ∀ d os, Calls Tryz.prog 71 #[.int .u8 (bt tx 0)] (grow (redrawn w2 d) os) fun e w'' => e = .returned (.bool (isUpper (bt tx 0))) ∧ ∃ p : Regrown, w'' = grow (redrawn w2 p.d) p.os := fun d os => Calls.regrown_same (ref10_upper _ _)
              have cW : ∀ d os, Calls Tryz.prog 72 #[.string tx, .int .i64 0] (grow (redrawn w2 d) os) fun e w'' => e = .returned (.int .i64 (runEnd isIn tx 0 : Nat)) ∧ ∃ p : Regrown, w'' = grow (redrawn w2 p.d) p.os := fun d os => Calls.regrown_same (ref10_word tx 0 (Nat.zero_le _) hm _)
              have HCU := Lib.hid cU
              have HCW := Lib.hid cW
              have k1 := cell_regrown t1
              clear cU cW
              refine wp_region_quiet_below (by kernel_rfl) (by kernel_rfl) ?_
              repeat (go_big_quiet_step ((first | exact HCU.out _ _ | exact HCW.out _ _)))
              refine wpQuiet_nil ?_
              intro _ hw'
              obtain ⟨⟨dq, osq⟩, hw''⟩ := hw'
              subst hw''
              have hwq := below_regrown w2 dq osq
              generalize grow (redrawn w2 dq) osq = wq at hwq ⊢
              replace HF := Lib.hid (HF.out.step hwq)
              clear hwq k1 t0 t1 t2 t3
              obtain ⟨t0, t1, t2, t3, _, _, _, _⟩ := HF.out.tk
              simp only at t0 t1 t2 t3
              go_wp2_with fail
              go_ret2
              rw [HQ.out]
              exact HF.out.bad
            | true =>
              by_cases he : runEnd isIn tx 0 = tx.size
              · have de : (((runEnd isIn tx 0 : Nat) : Int) == (tx.size : Int)) = true := beq_iff_eq.2 (by omega)
                by_cases h255 : tx.size ≤ 255
                · have d255 : decide ((tx.size : Int) ≤ 255) = true := decide_eq_true (by omega)
                  have HV : Hid (isVar tx = true) := Lib.hid (by unfold isVar; rw [hu, decide_eq_true he, decide_eq_true h255, decide_eq_true (show 0 < tx.size by omega)]; rfl)
                  clear h0 he h255
                  by_cases hn : nm = 0
                  · have hnb : (nm != 0) = false := by simp [hn]
                    have HQ : Hid (R = (tx, [])) := Lib.hid (by rw [hR, if_neg (by simp [hn]), if_pos HV.out])
                    clear hR hn
                    go_enter Tryz.func34, Tryz.ntmps34
                    go_wp2_with fail
                    refine (ref10_no _ _ _).mono ?_
                    rintro e w2 ⟨wv, rfl, hE, hB⟩
                    obtain ⟨gg, cc, rfl, _⟩ := hE.head
                    have HF := Lib.hid (WrRef.mk (w := w) (hTk0.below hB (by simp)) (trans_below (below_alloc (Below.refl _ _) _) hB) (hE.lower (by simp)))
                    obtain ⟨t0, t1, t2, t3, _, _, _, _⟩ := HF.out.tk
                    simp only at t0 t1 t2 t3
                    clear hE hB hTk0
                    go_wp2_with fail
                    have cU : ∀ d os, Calls Tryz.prog 71 #[.int .u8 (bt tx 0)] (grow (redrawn w2 d) os) fun e w'' => e = .returned (.bool (isUpper (bt tx 0))) ∧ ∃ p : Regrown, w'' = grow (redrawn w2 p.d) p.os := fun d os => Calls.regrown_same (ref10_upper _ _)
                    have cW : ∀ d os, Calls Tryz.prog 72 #[.string tx, .int .i64 0] (grow (redrawn w2 d) os) fun e w'' => e = .returned (.int .i64 (runEnd isIn tx 0 : Nat)) ∧ ∃ p : Regrown, w'' = grow (redrawn w2 p.d) p.os := fun d os => Calls.regrown_same (ref10_word tx 0 (Nat.zero_le _) hm _)
                    have HCU := Lib.hid cU
                    have HCW := Lib.hid cW
                    have k1 := cell_regrown t1
                    clear cU cW
                    refine wp_region_quiet_below (by kernel_rfl) (by kernel_rfl) ?_
                    repeat (go_big_quiet_step ((first | exact HCU.out _ _ | exact HCW.out _ _)))
                    refine wpQuiet_nil ?_
                    intro _ hw'
                    obtain ⟨⟨dq, osq⟩, hw''⟩ := hw'
                    subst hw''
                    have hwq := below_regrown w2 dq osq
                    generalize grow (redrawn w2 dq) osq = wq at hwq ⊢
                    replace HF := Lib.hid (HF.out.step hwq)
                    clear hwq k1 t0 t1 t2 t3
                    obtain ⟨t0, t1, t2, t3, _, _, _, _⟩ := HF.out.tk
                    simp only at t0 t1 t2 t3
                    go_wp2_with fail
                    go_ret2
                    rw [HQ.out]
                    exact HF.out.good tx
                  · have hnb : (nm != 0) = true := by simp [hn]
                    have HQ : Hid (R = badArg) := Lib.hid (by rw [hR, if_pos hn])
                    clear hR hn
                    go_enter Tryz.func34, Tryz.ntmps34
                    go_wp2_with fail
                    refine (ref10_no _ _ _).mono ?_
                    rintro e w2 ⟨wv, rfl, hE, hB⟩
                    obtain ⟨gg, cc, rfl, _⟩ := hE.head
                    have HF := Lib.hid (WrRef.mk (w := w) (hTk0.below hB (by simp)) (trans_below (below_alloc (Below.refl _ _) _) hB) (hE.lower (by simp)))
                    obtain ⟨t0, t1, t2, t3, _, _, _, _⟩ := HF.out.tk
                    simp only at t0 t1 t2 t3
                    clear hE hB hTk0
                    go_wp2_with fail
                    have cU : ∀ d os, Calls Tryz.prog 71 #[.int .u8 (bt tx 0)] (grow (redrawn w2 d) os) fun e w'' => e = .returned (.bool (isUpper (bt tx 0))) ∧ ∃ p : Regrown, w'' = grow (redrawn w2 p.d) p.os := fun d os => Calls.regrown_same (ref10_upper _ _)
                    have cW : ∀ d os, Calls Tryz.prog 72 #[.string tx, .int .i64 0] (grow (redrawn w2 d) os) fun e w'' => e = .returned (.int .i64 (runEnd isIn tx 0 : Nat)) ∧ ∃ p : Regrown, w'' = grow (redrawn w2 p.d) p.os := fun d os => Calls.regrown_same (ref10_word tx 0 (Nat.zero_le _) hm _)
                    have HCU := Lib.hid cU
                    have HCW := Lib.hid cW
                    have k1 := cell_regrown t1
                    clear cU cW
                    refine wp_region_quiet_below (by kernel_rfl) (by kernel_rfl) ?_
                    repeat (go_big_quiet_step ((first | exact HCU.out _ _ | exact HCW.out _ _)))
                    refine wpQuiet_nil ?_
                    intro _ hw'
                    obtain ⟨⟨dq, osq⟩, hw''⟩ := hw'
                    subst hw''
                    have hwq := below_regrown w2 dq osq
                    generalize grow (redrawn w2 dq) osq = wq at hwq ⊢
                    replace HF := Lib.hid (HF.out.step hwq)
                    clear hwq k1 t0 t1 t2 t3
                    obtain ⟨t0, t1, t2, t3, _, _, _, _⟩ := HF.out.tk
                    simp only at t0 t1 t2 t3
                    go_wp2_with fail
                    go_ret2
                    rw [HQ.out]
                    exact HF.out.bad
                · have d255 : decide ((tx.size : Int) ≤ 255) = false := decide_eq_false (by omega)
                  have HNV : isVar tx = false := by unfold isVar; simp [h255]
                  have HQ : Hid (R = badArg) := Lib.hid (by
                    rw [hR]
                    by_cases hn : nm = 0
                    · rw [if_neg (by simp [hn]), if_neg (by rw [HNV]; simp)]
                    · rw [if_pos hn])
                  clear hR h0 HNV he h255
                  go_enter Tryz.func34, Tryz.ntmps34
                  go_wp2_with fail
                  refine (ref10_no _ _ _).mono ?_
                  rintro e w2 ⟨wv, rfl, hE, hB⟩
                  obtain ⟨gg, cc, rfl, _⟩ := hE.head
                  have HF := Lib.hid (WrRef.mk (w := w) (hTk0.below hB (by simp)) (trans_below (below_alloc (Below.refl _ _) _) hB) (hE.lower (by simp)))
                  obtain ⟨t0, t1, t2, t3, _, _, _, _⟩ := HF.out.tk
                  simp only at t0 t1 t2 t3
                  clear hE hB hTk0
                  go_wp2_with fail
                  have cU : ∀ d os, Calls Tryz.prog 71 #[.int .u8 (bt tx 0)] (grow (redrawn w2 d) os) fun e w'' => e = .returned (.bool (isUpper (bt tx 0))) ∧ ∃ p : Regrown, w'' = grow (redrawn w2 p.d) p.os := fun d os => Calls.regrown_same (ref10_upper _ _)
                  have cW : ∀ d os, Calls Tryz.prog 72 #[.string tx, .int .i64 0] (grow (redrawn w2 d) os) fun e w'' => e = .returned (.int .i64 (runEnd isIn tx 0 : Nat)) ∧ ∃ p : Regrown, w'' = grow (redrawn w2 p.d) p.os := fun d os => Calls.regrown_same (ref10_word tx 0 (Nat.zero_le _) hm _)
                  have HCU := Lib.hid cU
                  have HCW := Lib.hid cW
                  have k1 := cell_regrown t1
                  clear cU cW
                  refine wp_region_quiet_below (by kernel_rfl) (by kernel_rfl) ?_
                  repeat (go_big_quiet_step ((first | exact HCU.out _ _ | exact HCW.out _ _)))
                  refine wpQuiet_nil ?_
                  intro _ hw'
                  obtain ⟨⟨dq, osq⟩, hw''⟩ := hw'
                  subst hw''
                  have hwq := below_regrown w2 dq osq
                  generalize grow (redrawn w2 dq) osq = wq at hwq ⊢
                  replace HF := Lib.hid (HF.out.step hwq)
                  clear hwq k1 t0 t1 t2 t3
                  obtain ⟨t0, t1, t2, t3, _, _, _, _⟩ := HF.out.tk
                  simp only at t0 t1 t2 t3
                  go_wp2_with fail
                  go_ret2
                  rw [HQ.out]
                  exact HF.out.bad
              · have de : (((runEnd isIn tx 0 : Nat) : Int) == (tx.size : Int)) = false := beq_eq_false_iff_ne.2 (by omega)
                have HNV : isVar tx = false := by unfold isVar; simp [he]
                have HQ : Hid (R = badArg) := Lib.hid (by
                  rw [hR]
                  by_cases hn : nm = 0
                  · rw [if_neg (by simp [hn]), if_neg (by rw [HNV]; simp)]
                  · rw [if_pos hn])
                clear hR h0 HNV he
                go_enter Tryz.func34, Tryz.ntmps34
                go_wp2_with fail
                refine (ref10_no _ _ _).mono ?_
                rintro e w2 ⟨wv, rfl, hE, hB⟩
                obtain ⟨gg, cc, rfl, _⟩ := hE.head
                have HF := Lib.hid (WrRef.mk (w := w) (hTk0.below hB (by simp)) (trans_below (below_alloc (Below.refl _ _) _) hB) (hE.lower (by simp)))
                obtain ⟨t0, t1, t2, t3, _, _, _, _⟩ := HF.out.tk
                simp only at t0 t1 t2 t3
                clear hE hB hTk0
                go_wp2_with fail
                have cU : ∀ d os, Calls Tryz.prog 71 #[.int .u8 (bt tx 0)] (grow (redrawn w2 d) os) fun e w'' => e = .returned (.bool (isUpper (bt tx 0))) ∧ ∃ p : Regrown, w'' = grow (redrawn w2 p.d) p.os := fun d os => Calls.regrown_same (ref10_upper _ _)
                have cW : ∀ d os, Calls Tryz.prog 72 #[.string tx, .int .i64 0] (grow (redrawn w2 d) os) fun e w'' => e = .returned (.int .i64 (runEnd isIn tx 0 : Nat)) ∧ ∃ p : Regrown, w'' = grow (redrawn w2 p.d) p.os := fun d os => Calls.regrown_same (ref10_word tx 0 (Nat.zero_le _) hm _)
                have HCU := Lib.hid cU
                have HCW := Lib.hid cW
                have k1 := cell_regrown t1
                clear cU cW
                refine wp_region_quiet_below (by kernel_rfl) (by kernel_rfl) ?_
                repeat (go_big_quiet_step ((first | exact HCU.out _ _ | exact HCW.out _ _)))
                refine wpQuiet_nil ?_
                intro _ hw'
                obtain ⟨⟨dq, osq⟩, hw''⟩ := hw'
                subst hw''
                have hwq := below_regrown w2 dq osq
                generalize grow (redrawn w2 dq) osq = wq at hwq ⊢
                replace HF := Lib.hid (HF.out.step hwq)
                clear hwq k1 t0 t1 t2 t3
                obtain ⟨t0, t1, t2, t3, _, _, _, _⟩ := HF.out.tk
                simp only at t0 t1 t2 t3
                go_wp2_with fail
                go_ret2
                rw [HQ.out]
                exact HF.out.bad
        · rw [if_neg k2] at hR
          have d2 : (kd == 2) = false := beq_eq_false_iff_ne.2 k2
          by_cases k4 : kd = 4
          · subst k4
            rw [if_pos rfl] at hR
            clear d1 d3 d6 k1 k3 k6 k2 d2
            cases hb : isRes tx with
            | true =>
              have HV : Hid (isRes tx = true) := Lib.hid hb
              by_cases hn : nm = 0
              · have hnb : (nm != 0) = false := by simp [hn]
                have HQ : Hid (R = (tx, [])) := Lib.hid (by rw [hR, if_neg (by simp [hn]), if_pos HV.out])
                clear hR hn
                go_enter Tryz.func34, Tryz.ntmps34
                go_wp2_with fail
                refine (ref10_no _ _ _).mono ?_
                rintro e w2 ⟨wv, rfl, hE, hB⟩
                obtain ⟨gg, cc, rfl, _⟩ := hE.head
                have HF := Lib.hid (WrRef.mk (w := w) (hTk0.below hB (by simp)) (trans_below (below_alloc (Below.refl _ _) _) hB) (hE.lower (by simp)))
                obtain ⟨t0, t1, t2, t3, _, _, _, _⟩ := HF.out.tk
                simp only at t0 t1 t2 t3
                clear hE hB hTk0
                go_wp2_with fail
                refine (ref01_Reserved _ _).mono ?_
                rw [hb]
                rintro e w5 ⟨rfl, hB5⟩
                replace HF := Lib.hid (HF.out.step hB5)
                clear hB5 t0 t1 t2 t3
                obtain ⟨t0, t1, t2, t3, _, _, _, _⟩ := HF.out.tk
                simp only at t0 t1 t2 t3
                go_wp2_with fail
                go_ret2
                rw [HQ.out]
                exact HF.out.good tx
              · have hnb : (nm != 0) = true := by simp [hn]
                have HQ : Hid (R = badArg) := Lib.hid (by rw [hR, if_pos hn])
                clear hR hn
                go_enter Tryz.func34, Tryz.ntmps34
                go_wp2_with fail
                refine (ref10_no _ _ _).mono ?_
                rintro e w2 ⟨wv, rfl, hE, hB⟩
                obtain ⟨gg, cc, rfl, _⟩ := hE.head
                have HF := Lib.hid (WrRef.mk (w := w) (hTk0.below hB (by simp)) (trans_below (below_alloc (Below.refl _ _) _) hB) (hE.lower (by simp)))
                obtain ⟨t0, t1, t2, t3, _, _, _, _⟩ := HF.out.tk
                simp only at t0 t1 t2 t3
                clear hE hB hTk0
                go_wp2_with fail
                refine (ref01_Reserved _ _).mono ?_
                rw [hb]
                rintro e w5 ⟨rfl, hB5⟩
                replace HF := Lib.hid (HF.out.step hB5)
                clear hB5 t0 t1 t2 t3
                obtain ⟨t0, t1, t2, t3, _, _, _, _⟩ := HF.out.tk
                simp only at t0 t1 t2 t3
                go_wp2_with fail
                go_ret2
                rw [HQ.out]
                exact HF.out.bad
            | false =>
              have HQ : Hid (R = badArg) := Lib.hid (by
                rw [hR]
                by_cases hn : nm = 0
                · rw [if_neg (by simp [hn]), if_neg (by rw [hb]; simp)]
                · rw [if_pos hn])
              clear hR
              go_enter Tryz.func34, Tryz.ntmps34
              go_wp2_with fail
              refine (ref10_no _ _ _).mono ?_
              rintro e w2 ⟨wv, rfl, hE, hB⟩
              obtain ⟨gg, cc, rfl, _⟩ := hE.head
              have HF := Lib.hid (WrRef.mk (w := w) (hTk0.below hB (by simp)) (trans_below (below_alloc (Below.refl _ _) _) hB) (hE.lower (by simp)))
              obtain ⟨t0, t1, t2, t3, _, _, _, _⟩ := HF.out.tk
              simp only at t0 t1 t2 t3
              clear hE hB hTk0
              go_wp2_with fail
              refine (ref01_Reserved _ _).mono ?_
              rw [hb]
              rintro e w5 ⟨rfl, hB5⟩
              replace HF := Lib.hid (HF.out.step hB5)
              clear hB5 t0 t1 t2 t3
              obtain ⟨t0, t1, t2, t3, _, _, _, _⟩ := HF.out.tk
              simp only at t0 t1 t2 t3
              go_wp2_with fail
              go_ret2
              rw [HQ.out]
              exact HF.out.bad
          · rw [if_neg k4] at hR
            have d4 : (kd == 4) = false := beq_eq_false_iff_ne.2 k4
            by_cases k5 : kd = 5
            · subst k5
              rw [if_pos rfl] at hR
              clear d1 d3 d6 k1 k3 k6 k2 d2 k4 d4
              cases hb : Lib.containsS signList tx with
              | true =>
                have HV : Hid (Lib.containsS signList tx = true) := Lib.hid hb
                by_cases hn : nm = 0
                · have hnb : (nm != 0) = false := by simp [hn]
                  have HQ : Hid (R = (tx, [])) := Lib.hid (by rw [hR, if_neg (by simp [hn]), if_pos HV.out])
                  clear hR hn
                  go_enter Tryz.func34, Tryz.ntmps34
                  go_wp2_with fail
                  refine (ref10_no _ _ _).mono ?_
                  rintro e w2 ⟨wv, rfl, hE, hB⟩
                  obtain ⟨gg, cc, rfl, _⟩ := hE.head
                  have HF := Lib.hid (WrRef.mk (w := w) (hTk0.below hB (by simp)) (trans_below (below_alloc (Below.refl _ _) _) hB) (hE.lower (by simp)))
                  obtain ⟨t0, t1, t2, t3, _, _, _, _⟩ := HF.out.tk
                  simp only at t0 t1 t2 t3
                  clear hE hB hTk0
                  go_wp2_with fail
                  refine (ref10_signs _).mono ?_
                  rintro e w5 ⟨rfl, hcell, hsb, hB5⟩
                  replace HF := Lib.hid (HF.out.step hB5)
                  have HCELL := Lib.hid hcell
                  clear hB5 t0 t1 t2 t3 hcell
                  obtain ⟨t0, t1, t2, t3, _, _, _, _⟩ := HF.out.tk
                  simp only at t0 t1 t2 t3
                  obtain ⟨sb, hsbe⟩ : ∃ n, n = w2.heap.size := ⟨_, rfl⟩
                  rw [← hsbe] at HCELL
                  rw [← hsbe]
                  clear hsb hsbe
                  go_wp2_with fail
                  go_loopg [7, 9] 27 (fun gk vk vi wl => ∃ j m : Nat, vi = .int .i64 (j : Int) ∧ gk = 27 - j ∧ j ≤ 27 ∧ vk = .bool (Lib.containsS (signList.take j) tx) ∧ wl = w5.drewN m)
                  case atStart => exact ⟨0, 0, rfl, rfl, by omega, rfl, rfl⟩
                  case round =>
                    obtain ⟨j, m, rfl, hgk, hj, rfl, rfl⟩ := hrel
                    have HM := Lib.hid hgk
                    clear hgk
                    by_cases hlt : j < 27
                    · have hcj := HCELL.out j hlt
                      have hpe : signList.getD j ByteArray.empty = signList[j]'(show j < signList.length from hlt) := by
                        rw [List.getD_eq_getElem?_getD, List.getElem?_eq_getElem (show j < signList.length from hlt)]
                        rfl
                      rw [hpe] at hcj
                      have hst : ∀ b, Lib.containsS (signList.take (j + 1)) tx = b ↔ ((tx ∈ signList.take j ∨ tx = signList[j]'(show j < signList.length from hlt)) ↔ b = true) := fun b => by
                        rw [Bool.eq_iff_iff, Lib.containsS_iff, List.take_succ_eq_append_getElem (show j < signList.length from hlt), List.mem_append, List.mem_singleton]
                      obtain ⟨P, hP⟩ : ∃ P, P = signList[j]'(show j < signList.length from hlt) := ⟨_, rfl⟩
                      rw [← hP] at hcj hst
                      clear hP hpe
                      have j0 : (0 : Int) ≤ (j : Int) := by omega
                      have j1 : (j : Int) < 27 := by omega
                      cases hok : Lib.containsS (signList.take j) tx with
                      | true =>
                        have HN : Hid (Lib.containsS (signList.take (j + 1)) tx = true) := Lib.hid ((hst true).2 ⟨fun _ => rfl, fun _ => .inl ((Lib.containsS_iff _ _).1 hok)⟩)
                        clear hst
                        go_wp2_with fail
                        go_quiet (fail)
                        go_wp2_with fail
                        go_roundg (27 - (j + 1))
                        case measure => rw [HM.out]; omega
                        case rel => exact ⟨j + 1, _, by go_num, rfl, by omega, by rw [HN.out], rfl⟩
                      | false =>
                        have hnm : ¬ tx ∈ signList.take j := fun h => by rw [(Lib.containsS_iff _ _).2 h] at hok; cases hok
                        by_cases he : tx = P
                        · have hq : (P.toList == tx.toList) = true := by rw [he]; exact beq_self_eq_true _
                          have HN : Hid (Lib.containsS (signList.take (j + 1)) tx = true) := Lib.hid ((hst true).2 ⟨fun _ => rfl, fun _ => .inr he⟩)
                          clear hst he hnm
                          go_wp2_with fail
                          go_quiet (fail)
                          go_wp2_with fail
                          go_roundg (27 - (j + 1))
                          case measure => rw [HM.out]; omega
                          case rel => exact ⟨j + 1, _, by go_num, rfl, by omega, by rw [HN.out], rfl⟩
                        · have hq : (P.toList == tx.toList) = false := beq_eq_false_iff_ne.2 fun h => he (tl_inj.1 h).symm
                          have HN : Hid (Lib.containsS (signList.take (j + 1)) tx = false) := Lib.hid ((hst false).2 ⟨fun h => by rcases h with h | h; exact absurd h hnm; exact absurd h he, fun h => by cases h⟩)
                          clear hst he hnm
                          go_wp2_with fail
                          go_quiet (fail)
                          go_wp2_with fail
                          go_roundg (27 - (j + 1))
                          case measure => rw [HM.out]; omega
                          case rel => exact ⟨j + 1, _, by go_num, rfl, by omega, by rw [HN.out], rfl⟩
                    · have hj27 : j = 27 := by omega
                      subst hj27
                      rw [show signList.take 27 = signList from rfl, hb]
                      replace HF := Lib.hid (HF.out.step (below_drewN w5 m _))
                      go_wp2_with fail
                      go_ret2
                      rw [HQ.out]
                      exact HF.out.good tx
                · have hnb : (nm != 0) = true := by simp [hn]
                  have HQ : Hid (R = badArg) := Lib.hid (by rw [hR, if_pos hn])
                  clear hR hn
                  go_enter Tryz.func34, Tryz.ntmps34
                  go_wp2_with fail
                  refine (ref10_no _ _ _).mono ?_
                  rintro e w2 ⟨wv, rfl, hE, hB⟩
                  obtain ⟨gg, cc, rfl, _⟩ := hE.head
                  have HF := Lib.hid (WrRef.mk (w := w) (hTk0.below hB (by simp)) (trans_below (below_alloc (Below.refl _ _) _) hB) (hE.lower (by simp)))
                  obtain ⟨t0, t1, t2, t3, _, _, _, _⟩ := HF.out.tk
                  simp only at t0 t1 t2 t3
                  clear hE hB hTk0
                  go_wp2_with fail
                  refine (ref10_signs _).mono ?_
                  rintro e w5 ⟨rfl, hcell, hsb, hB5⟩
                  replace HF := Lib.hid (HF.out.step hB5)
                  have HCELL := Lib.hid hcell
                  clear hB5 t0 t1 t2 t3 hcell
                  obtain ⟨t0, t1, t2, t3, _, _, _, _⟩ := HF.out.tk
                  simp only at t0 t1 t2 t3
                  obtain ⟨sb, hsbe⟩ : ∃ n, n = w2.heap.size := ⟨_, rfl⟩
                  rw [← hsbe] at HCELL
                  rw [← hsbe]
                  clear hsb hsbe
                  go_wp2_with fail
                  go_loopg [7, 9] 27 (fun gk vk vi wl => ∃ j m : Nat, vi = .int .i64 (j : Int) ∧ gk = 27 - j ∧ j ≤ 27 ∧ vk = .bool (Lib.containsS (signList.take j) tx) ∧ wl = w5.drewN m)
                  case atStart => exact ⟨0, 0, rfl, rfl, by omega, rfl, rfl⟩
                  case round =>
                    obtain ⟨j, m, rfl, hgk, hj, rfl, rfl⟩ := hrel
                    have HM := Lib.hid hgk
                    clear hgk
                    by_cases hlt : j < 27
                    · have hcj := HCELL.out j hlt
                      have hpe : signList.getD j ByteArray.empty = signList[j]'(show j < signList.length from hlt) := by
                        rw [List.getD_eq_getElem?_getD, List.getElem?_eq_getElem (show j < signList.length from hlt)]
                        rfl
                      rw [hpe] at hcj
                      have hst : ∀ b, Lib.containsS (signList.take (j + 1)) tx = b ↔ ((tx ∈ signList.take j ∨ tx = signList[j]'(show j < signList.length from hlt)) ↔ b = true) := fun b => by
                        rw [Bool.eq_iff_iff, Lib.containsS_iff, List.take_succ_eq_append_getElem (show j < signList.length from hlt), List.mem_append, List.mem_singleton]
                      obtain ⟨P, hP⟩ : ∃ P, P = signList[j]'(show j < signList.length from hlt) := ⟨_, rfl⟩
                      rw [← hP] at hcj hst
                      clear hP hpe
                      have j0 : (0 : Int) ≤ (j : Int) := by omega
                      have j1 : (j : Int) < 27 := by omega
                      cases hok : Lib.containsS (signList.take j) tx with
                      | true =>
                        have HN : Hid (Lib.containsS (signList.take (j + 1)) tx = true) := Lib.hid ((hst true).2 ⟨fun _ => rfl, fun _ => .inl ((Lib.containsS_iff _ _).1 hok)⟩)
                        clear hst
                        go_wp2_with fail
                        go_quiet (fail)
                        go_wp2_with fail
                        go_roundg (27 - (j + 1))
                        case measure => rw [HM.out]; omega
                        case rel => exact ⟨j + 1, _, by go_num, rfl, by omega, by rw [HN.out], rfl⟩
                      | false =>
                        have hnm : ¬ tx ∈ signList.take j := fun h => by rw [(Lib.containsS_iff _ _).2 h] at hok; cases hok
                        by_cases he : tx = P
                        · have hq : (P.toList == tx.toList) = true := by rw [he]; exact beq_self_eq_true _
                          have HN : Hid (Lib.containsS (signList.take (j + 1)) tx = true) := Lib.hid ((hst true).2 ⟨fun _ => rfl, fun _ => .inr he⟩)
                          clear hst he hnm
                          go_wp2_with fail
                          go_quiet (fail)
                          go_wp2_with fail
                          go_roundg (27 - (j + 1))
                          case measure => rw [HM.out]; omega
                          case rel => exact ⟨j + 1, _, by go_num, rfl, by omega, by rw [HN.out], rfl⟩
                        · have hq : (P.toList == tx.toList) = false := beq_eq_false_iff_ne.2 fun h => he (tl_inj.1 h).symm
                          have HN : Hid (Lib.containsS (signList.take (j + 1)) tx = false) := Lib.hid ((hst false).2 ⟨fun h => by rcases h with h | h; exact absurd h hnm; exact absurd h he, fun h => by cases h⟩)
                          clear hst he hnm
                          go_wp2_with fail
                          go_quiet (fail)
                          go_wp2_with fail
                          go_roundg (27 - (j + 1))
                          case measure => rw [HM.out]; omega
                          case rel => exact ⟨j + 1, _, by go_num, rfl, by omega, by rw [HN.out], rfl⟩
                    · have hj27 : j = 27 := by omega
                      subst hj27
                      rw [show signList.take 27 = signList from rfl, hb]
                      replace HF := Lib.hid (HF.out.step (below_drewN w5 m _))
                      go_wp2_with fail
                      go_ret2
                      rw [HQ.out]
                      exact HF.out.bad
              | false =>
                have HQ : Hid (R = badArg) := Lib.hid (by
                  rw [hR]
                  by_cases hn : nm = 0
                  · rw [if_neg (by simp [hn]), if_neg (by rw [hb]; simp)]
                  · rw [if_pos hn])
                clear hR
                go_enter Tryz.func34, Tryz.ntmps34
                go_wp2_with fail
                refine (ref10_no _ _ _).mono ?_
                rintro e w2 ⟨wv, rfl, hE, hB⟩
                obtain ⟨gg, cc, rfl, _⟩ := hE.head
                have HF := Lib.hid (WrRef.mk (w := w) (hTk0.below hB (by simp)) (trans_below (below_alloc (Below.refl _ _) _) hB) (hE.lower (by simp)))
                obtain ⟨t0, t1, t2, t3, _, _, _, _⟩ := HF.out.tk
                simp only at t0 t1 t2 t3
                clear hE hB hTk0
                go_wp2_with fail
                refine (ref10_signs _).mono ?_
                rintro e w5 ⟨rfl, hcell, hsb, hB5⟩
                replace HF := Lib.hid (HF.out.step hB5)
                have HCELL := Lib.hid hcell
                clear hB5 t0 t1 t2 t3 hcell
                obtain ⟨t0, t1, t2, t3, _, _, _, _⟩ := HF.out.tk
                simp only at t0 t1 t2 t3
                obtain ⟨sb, hsbe⟩ : ∃ n, n = w2.heap.size := ⟨_, rfl⟩
                rw [← hsbe] at HCELL
                rw [← hsbe]
                clear hsb hsbe
                go_wp2_with fail
                go_loopg [7, 9] 27 (fun gk vk vi wl => ∃ j m : Nat, vi = .int .i64 (j : Int) ∧ gk = 27 - j ∧ j ≤ 27 ∧ vk = .bool (Lib.containsS (signList.take j) tx) ∧ wl = w5.drewN m)
                case atStart => exact ⟨0, 0, rfl, rfl, by omega, rfl, rfl⟩
                case round =>
                  obtain ⟨j, m, rfl, hgk, hj, rfl, rfl⟩ := hrel
                  have HM := Lib.hid hgk
                  clear hgk
                  by_cases hlt : j < 27
                  · have hcj := HCELL.out j hlt
                    have hpe : signList.getD j ByteArray.empty = signList[j]'(show j < signList.length from hlt) := by
                      rw [List.getD_eq_getElem?_getD, List.getElem?_eq_getElem (show j < signList.length from hlt)]
                      rfl
                    rw [hpe] at hcj
                    have hst : ∀ b, Lib.containsS (signList.take (j + 1)) tx = b ↔ ((tx ∈ signList.take j ∨ tx = signList[j]'(show j < signList.length from hlt)) ↔ b = true) := fun b => by
                      rw [Bool.eq_iff_iff, Lib.containsS_iff, List.take_succ_eq_append_getElem (show j < signList.length from hlt), List.mem_append, List.mem_singleton]
                    obtain ⟨P, hP⟩ : ∃ P, P = signList[j]'(show j < signList.length from hlt) := ⟨_, rfl⟩
                    rw [← hP] at hcj hst
                    clear hP hpe
                    have j0 : (0 : Int) ≤ (j : Int) := by omega
                    have j1 : (j : Int) < 27 := by omega
                    cases hok : Lib.containsS (signList.take j) tx with
                    | true =>
                      have HN : Hid (Lib.containsS (signList.take (j + 1)) tx = true) := Lib.hid ((hst true).2 ⟨fun _ => rfl, fun _ => .inl ((Lib.containsS_iff _ _).1 hok)⟩)
                      clear hst
                      go_wp2_with fail
                      go_quiet (fail)
                      go_wp2_with fail
                      go_roundg (27 - (j + 1))
                      case measure => rw [HM.out]; omega
                      case rel => exact ⟨j + 1, _, by go_num, rfl, by omega, by rw [HN.out], rfl⟩
                    | false =>
                      have hnm : ¬ tx ∈ signList.take j := fun h => by rw [(Lib.containsS_iff _ _).2 h] at hok; cases hok
                      by_cases he : tx = P
                      · have hq : (P.toList == tx.toList) = true := by rw [he]; exact beq_self_eq_true _
                        have HN : Hid (Lib.containsS (signList.take (j + 1)) tx = true) := Lib.hid ((hst true).2 ⟨fun _ => rfl, fun _ => .inr he⟩)
                        clear hst he hnm
                        go_wp2_with fail
                        go_quiet (fail)
                        go_wp2_with fail
                        go_roundg (27 - (j + 1))
                        case measure => rw [HM.out]; omega
                        case rel => exact ⟨j + 1, _, by go_num, rfl, by omega, by rw [HN.out], rfl⟩
                      · have hq : (P.toList == tx.toList) = false := beq_eq_false_iff_ne.2 fun h => he (tl_inj.1 h).symm
                        have HN : Hid (Lib.containsS (signList.take (j + 1)) tx = false) := Lib.hid ((hst false).2 ⟨fun h => by rcases h with h | h; exact absurd h hnm; exact absurd h he, fun h => by cases h⟩)
                        clear hst he hnm
                        go_wp2_with fail
                        go_quiet (fail)
                        go_wp2_with fail
                        go_roundg (27 - (j + 1))
                        case measure => rw [HM.out]; omega
                        case rel => exact ⟨j + 1, _, by go_num, rfl, by omega, by rw [HN.out], rfl⟩
                  · have hj27 : j = 27 := by omega
                    subst hj27
                    rw [show signList.take 27 = signList from rfl, hb]
                    replace HF := Lib.hid (HF.out.step (below_drewN w5 m _))
                    go_wp2_with fail
                    go_ret2
                    rw [HQ.out]
                    exact HF.out.bad
            · rw [if_neg k5] at hR
              have d5 : (kd == 5) = false := beq_eq_false_iff_ne.2 k5
              have HQ : Hid (R = badArg) := Lib.hid (by
                rw [hR]
                split <;> rfl)
              clear hR k1 k3 k6 k2 k4 k5
              go_enter Tryz.func34, Tryz.ntmps34
              go_wp2_with fail
              refine (ref10_no _ _ _).mono ?_
              rintro e w2 ⟨wv, rfl, hE, hB⟩
              obtain ⟨gg, cc, rfl, _⟩ := hE.head
              have HF := Lib.hid (WrRef.mk (w := w) (hTk0.below hB (by simp)) (trans_below (below_alloc (Below.refl _ _) _) hB) (hE.lower (by simp)))
              obtain ⟨t0, t1, t2, t3, _, _, _, _⟩ := HF.out.tk
              simp only at t0 t1 t2 t3
              clear hE hB hTk0
              go_wp2_with fail
              go_ret2
              rw [HQ.out]
              exact HF.out.bad
end Go.Proofs.YtgapeacflkfmdaaGreatDoor
namespace Go.Proofs.YtgapeacflkfmdaaGreatDoor
open Go.RowKit Go.Proofs.YtgapeacflkfmdaaGreatDoorW.PrintWords

/-- A token row of the call's own, cell by cell. -/
theorem tks_form {W : World} {base : Nat} {ok : Nat → Prop} {v : Value} {xs : List Tk} (h : kTk.R 63 W base ok v xs) (hn : 0 < xs.length) :
    ∃ g c : Nat, v = .slice (some ⟨g, 0, none⟩) xs.length c ∧ base ≤ g ∧ g < W.heap.size ∧ (∀ i, i < xs.length → W.cell? ⟨g, i * 4, none⟩ = some (.int .i64 (xs.getD i zTk).kd) ∧ W.cell? ⟨g, i * 4 + 1, none⟩ = some (.string (xs.getD i zTk).tx) ∧ W.cell? ⟨g, i * 4 + 2, none⟩ = some (.int .i64 (xs.getD i zTk).nm) ∧ W.cell? ⟨g, i * 4 + 3, none⟩ = some (.int .i64 (xs.getD i zTk).at_)) ∧ kTk.C W (some ⟨g, 0, none⟩) xs.length xs := by
  obtain ⟨A, c, rfl, _, hC⟩ := Kd.R_reads h
  obtain ⟨inner, ho⟩ := Kd.R_own h
  obtain ⟨g, cap, hv, hg1, hg2⟩ := ho.form hn
  have hA : A = some ⟨g, 0, none⟩ := by injection hv
  subst hA
  refine ⟨g, c, rfl, hg1, hg2, ?_, hC⟩
  intro i hi
  obtain ⟨ad, had, h0, h1, h2, h3⟩ := atTk hC (i : Int) (by omega) (by omega)
  injection had with had
  subst had
  have e : ((⟨g, 0, none⟩ : Addr).add (i * 4)) = ⟨g, i * 4, none⟩ := add_plain g (i * 4)
  simp only [Int.toNat_natCast, e, rdTk] at h0 h1 h2 h3
  exact ⟨h0, h1, h2, h3⟩

def sAw : ByteArray := ⟨#[102, 40, 88, 41, 45, 62, 39, 97, 32, 98, 39, 46]⟩
def lAw : List Tk := [⟨1, ⟨#[102]⟩, 0, 0⟩, ⟨5, ⟨#[40]⟩, 0, 1⟩, ⟨2, ⟨#[88]⟩, 0, 2⟩, ⟨5, ⟨#[41]⟩, 0, 3⟩, ⟨5, ⟨#[45, 62]⟩, 0, 4⟩, ⟨1, ⟨#[97, 32, 98]⟩, 0, 6⟩, ⟨6, ⟨#[]⟩, 0, 11⟩]
theorem scan_aw : lexScan sAw = (lAw, []) := by decide +kernel
def sAb : ByteArray := ⟨#[97, 46, 98]⟩
theorem scan_ab : lexScan sAb = ([], [⟨nLex, 1, 200⟩]) := by decide +kernel
theorem write_aw : wrTok ⟨1, ⟨#[97, 32, 98]⟩, 0, 0⟩ = (⟨#[39, 97, 32, 98, 39]⟩, []) := by decide +kernel

def TruePost (w : World) (e : Ending) (w' : World) : Prop := e = .returned (.bool true) ∧ Below w.heap.size w w'
set_option maxRecDepth 100000 in
set_option maxHeartbeats 4000000 in
theorem awake_any (w : World) (hG : Glob w) : Calls Tryz.prog 32 #[] w (TruePost w) := by
  have HG := Lib.hid hG
  clear hG
  have HS1 := Lib.hid (lex_Scan sAw (by decide))
  have HS2 := Lib.hid (lex_Scan sAb (by decide))
  have HW := Lib.hid (lex_Write ⟨1, ⟨#[97, 32, 98]⟩, 0, 0⟩ (by decide) (by decide) (by decide))
  rw [scan_aw] at HS1
  rw [scan_ab] at HS2
  rw [write_aw] at HW
  go_enter Tryz.func32, Tryz.ntmps32
  go_wp2_with fail
  refine (HS1.out _ HG.out).mono ?_
  rintro e w1 ⟨lv, ev, rfl, hL, hE, hB⟩
  obtain rfl : ev = .nilIface := hE
  obtain ⟨g, c, rfl, _, _, hc, _⟩ := tks_form hL (by decide)
  have c0 : w1.cell? ⟨g, 1, none⟩ = some (.string ⟨#[102]⟩) := (hc 0 (by decide)).2.1
  have c4 : w1.cell? ⟨g, 17, none⟩ = some (.string ⟨#[45, 62]⟩) := (hc 4 (by decide)).2.1
  have c5 : w1.cell? ⟨g, 23, none⟩ = some (.int .i64 6) := (hc 5 (by decide)).2.2.2
  have c6 : w1.cell? ⟨g, 24, none⟩ = some (.int .i64 6) := (hc 6 (by decide)).1
  have HC := Lib.hid (And.intro c0 (And.intro c4 (And.intro c5 c6)))
  have HG1 := Lib.hid (HG.out.below hB)
  have HB1 := Lib.hid hB
  clear hL hB hc c0 c4 c5 c6
  rw [show lAw.length = 7 from rfl]
  go_wp2_with fail
  refine (HW.out _ HG1.out).mono ?_
  rintro e w2 ⟨ev2, rfl, hE2, hB2⟩
  obtain rfl : ev2 = .nilIface := hE2
  have HG2 := Lib.hid (HG1.out.below hB2)
  have HB2 := Lib.hid hB2
  clear hB2
  go_wp2_with fail
  refine (HS2.out _ HG2.out).mono ?_
  rintro e w3 ⟨lv2, ev3, rfl, _, hE3, hB3⟩
  have HE3 := Lib.hid hE3
  have HG3 := Lib.hid (HG2.out.below hB3)
  obtain ⟨be, u, rfl, _⟩ := hE3
  have HB3 := Lib.hid hB3
  clear hB3
  have c0 := (HB3.out.cell (World.block_lt_of_cell? _ _ ((HB2.out.cell (World.block_lt_of_cell? _ _ HC.out.1)).trans HC.out.1))).trans ((HB2.out.cell (World.block_lt_of_cell? _ _ HC.out.1)).trans HC.out.1)
  have c4 := (HB3.out.cell (World.block_lt_of_cell? _ _ ((HB2.out.cell (World.block_lt_of_cell? _ _ HC.out.2.1)).trans HC.out.2.1))).trans ((HB2.out.cell (World.block_lt_of_cell? _ _ HC.out.2.1)).trans HC.out.2.1)
  have c5 := (HB3.out.cell (World.block_lt_of_cell? _ _ ((HB2.out.cell (World.block_lt_of_cell? _ _ HC.out.2.2.1)).trans HC.out.2.2.1))).trans ((HB2.out.cell (World.block_lt_of_cell? _ _ HC.out.2.2.1)).trans HC.out.2.2.1)
  have c6 := (HB3.out.cell (World.block_lt_of_cell? _ _ ((HB2.out.cell (World.block_lt_of_cell? _ _ HC.out.2.2.2)).trans HC.out.2.2.2))).trans ((HB2.out.cell (World.block_lt_of_cell? _ _ HC.out.2.2.2)).trans HC.out.2.2.2)
  go_wp2_with fail
  refine (mem_One _ _ _ _).mono ?_
  rintro e w4 ⟨v4, rfl, hL4, hB4⟩
  obtain ⟨A4, cc4, rfl, _, hC4⟩ := hL4.reads
  have HC4 := Lib.hid hC4
  have HB4 := Lib.hid hB4
  clear hL4 hC4 hB4 c0 c4 c5 c6
  go_wp2_with fail
  refine (Refused_in [⟨nLex, 1, 200⟩] [⟨nLex, 1, 200⟩] _ A4 cc4 (HE3.out.below HB4.out) (by decide) HC4.out (by decide) (HG3.out.below HB4.out)).mono ?_
  rintro e w5 ⟨rfl, hB5⟩
  have HB5 := Lib.hid hB5
  clear hB5
  rw [show refusedOf [⟨nLex, 1, 200⟩] [⟨nLex, 1, 200⟩] = true from by decide +kernel]
  go_wp2_with fail
  go_ret
  exact ⟨rfl, trans_below (trans_below (trans_below (trans_below HB1.out HB2.out) HB3.out) HB4.out) HB5.out⟩
end Go.Proofs.YtgapeacflkfmdaaGreatDoor
namespace Go.Proofs.YtgapeacflkfmdaaGreatDoor
open Go.RowKit Go.Proofs.YtgapeacflkfmdaaGreatDoorW.PrintWords Go.Proofs.YtgapeacflkfmdaaGreatDoor.PSm

def tkEq (p : Bool) (x y : Tk) : Bool := decide (x.kd = y.kd) && decide (x.tx = y.tx) && decide (x.nm = y.nm) && (!p || decide (x.at_ = y.at_))
/-- Are these the same tokens (with their places)? -/
def sameTks (p : Bool) : List Tk → List Tk → Bool
  | [], [] => true
  | x :: a, y :: b => tkEq p x y && sameTks p a b
  | _, _ => false
theorem tkEq_refl (p : Bool) (x : Tk) : tkEq p x x = true := by simp [tkEq]
theorem sameTks_refl (p : Bool) : ∀ l : List Tk, sameTks p l l = true
  | [] => rfl
  | x :: l => by rw [sameTks, tkEq_refl, sameTks_refl p l]; rfl
theorem sameTks_length {p : Bool} : ∀ {a b : List Tk}, sameTks p a b = true → a.length = b.length
  | [], [], _ => rfl
  | x :: a, y :: b, h => by
    rw [sameTks, Bool.and_eq_true] at h
    simp [sameTks_length h.2]
  | [], _ :: _, h => by cases h
  | _ :: _, [], h => by cases h

def toS (t : Tk) : S63 := ⟨t.kd, t.tx, t.nm, t.at_⟩
theorem toC {w : World} {A : Option Addr} {n : Nat} {xs : List Tk} (h : kTk.C w A n xs) : k63.C w A n (xs.map toS) := by
  refine ⟨by rw [List.length_map]; exact h.1, h.2.1, fun hn => ?_⟩
  obtain ⟨ad, e, hc⟩ := h.2.2 hn
  refine ⟨ad, e, fun j p hj => ?_⟩
  rw [List.getElem?_map, Option.map_eq_some_iff] at hj
  obtain ⟨t, ht, rfl⟩ := hj
  exact hc j t ht
theorem rd_toS (a : List Tk) (i : Nat) (h : i < a.length) : rd_T63 (a.map toS) (i : Int) = toS a[i] := by
  unfold rd_T63
  rw [Int.toNat_natCast, List.getD_eq_getElem?_getD, List.getElem?_map, List.getElem?_eq_getElem h]
  rfl
theorem same_l0 (p : Bool) (a b : List Tk) (hl : a.length = b.length) (hm : a.length ≤ 9223372036854775807) : ∀ (d i n : Nat), a.length - i = d → i ≤ a.length → d + 1 ≤ n →
    heddleref10_Same.l0 n (a.map toS) (b.map toS) p (i : Int) = some (sameTks p (a.drop i) (b.drop i)) := by
  intro d
  induction d with
  | zero =>
    intro i n hd hi hn
    obtain ⟨n, rfl⟩ : ∃ m, n = m + 1 := ⟨n - 1, by omega⟩
    simp only [heddleref10_Same.l0]
    rw [if_neg (by rw [List.length_map]; omega), List.drop_eq_nil_of_le (by omega), List.drop_eq_nil_of_le (by omega)]
    rfl
  | succ d ih =>
    intro i n hd hi hn
    obtain ⟨n, rfl⟩ : ∃ m, n = m + 1 := ⟨n - 1, by omega⟩
    have h1 : i < a.length := by omega
    have h2 : i < b.length := by omega
    simp only [heddleref10_Same.l0]
    rw [if_pos (by rw [List.length_map]; omega), if_pos (by omega), if_pos (by rw [List.length_map]; omega), rd_toS a i h1, rd_toS b i h2, List.drop_eq_getElem_cons h1, List.drop_eq_getElem_cons h2]
    have hw : wrap64 ((i : Int) + 1) = ((i + 1 : Nat) : Int) := by rw [w64 (x := (i : Int) + 1) (by omega) (by omega)]; rfl
    rw [hw, ih (i + 1) n (by omega) (by omega) (by omega), sameTks]
    generalize a[i] = x
    generalize b[i] = y
    simp only [toS, tkEq, tl_inj]
    by_cases c1 : x.kd = y.kd
    · by_cases c2 : x.tx = y.tx
      · by_cases c3 : x.nm = y.nm
        · cases p with
          | false => simp [c1, c2, c3]
          | true => by_cases c4 : x.at_ = y.at_ <;> simp [c1, c2, c3, c4]
        · simp [c1, c2, c3]
      · simp [c1, c2]
    · simp [c1]
theorem same_f (p : Bool) (a b : List Tk) (hm : a.length ≤ 9223372036854775807) : heddleref10_Same.f (a.length + 1) (a.map toS) (b.map toS) p = some (sameTks p a b) := by
  unfold heddleref10_Same.f
  by_cases hl : a.length = b.length
  · rw [if_pos (by simp [hl])]
    have := same_l0 p a b hl hm a.length 0 (a.length + 1) (by omega) (by omega) (by omega)
    simpa using this
  · rw [if_neg (by simp only [List.length_map]; omega)]
    have : sameTks p a b = false := by
      rw [Bool.eq_false_iff]
      exact fun h => hl (sameTks_length h)
    rw [this]
theorem ref10_Same (p : Bool) (a b : List Tk) (A0 A1 : Option Addr) (c0 c1 : Nat) (w : World) (h0 : kTk.C w A0 a.length a) (hc0 : a.length ≤ c0) (h1 : kTk.C w A1 b.length b) (hc1 : b.length ≤ c1) :
    Calls Tryz.prog 37 #[.slice A0 a.length c0, .slice A1 b.length c1, .bool p] w fun e w' => e = .returned (.bool (sameTks p a b)) ∧ Drawn0 w w' := by
  have h := heddleref10_Same.calls (a.length + 1) A0 c0 (a.map toS) A1 c1 (b.map toS) p (sameTks p a b) w (by rw [List.length_map]; exact toC h0) (by rw [List.length_map]; exact hc0) (by rw [List.length_map]; exact toC h1) (by rw [List.length_map]; exact hc1) (same_f p a b h0.2.1)
  rw [List.length_map, List.length_map] at h
  exact h

/-! ### chains are short -/
theorem no_len (x : Lk) : (noTok [x]).2.2.length ≤ 2 := by simp [noTok]
theorem atomTok_len (s : ByteArray) (k : Nat) : (atomTok s k).2.2.length ≤ 2 := by
  have h := aScan_len s k
  unfold atomTok
  split
  · simp
  · rename_i x r he
    rw [he] at h
    simp only [noTok, List.length_cons] at h ⊢
    omega
theorem numEnd_len (k e : Nat) (r : Option Int) : (numEnd k e r).2.2.length ≤ 2 := by
  cases r with
  | none => exact no_len _
  | some v => simp [numEnd]
theorem numTok_len (s : ByteArray) (k : Nat) : (numTok s k).2.2.length ≤ 2 := by
  unfold numTok
  split
  · split
    · exact numEnd_len _ _ _
    · exact no_len _
  · exact numEnd_len _ _ _
theorem charTok_len (s : ByteArray) (k : Nat) : (charTok s k).2.2.length ≤ 2 := by
  unfold charTok escTok
  repeat' split
  all_goals first | exact no_len _ | simp
theorem tokenAt_len (s : ByteArray) (k : Nat) : (tokenAt s k).2.2.length ≤ 2 := by
  unfold tokenAt wordTok signTok
  repeat' split
  all_goals first | exact no_len _ | exact atomTok_len _ _ | exact numTok_len _ _ | exact charTok_len _ _ | simp
theorem scanFrom_len (s : ByteArray) (p : Nat) (acc : List Tk) : (scanFrom s p acc).2.length ≤ 2 := by
  rw [scanFrom]
  split
  · split
    · simp
    · split
      · exact scanFrom_len _ _ _
      · exact tokenAt_len _ _
  · simp
  termination_by s.size - p
  decreasing_by
  have := skipEnd_ge s (max (tokenAt s p).2.1 (p + 1))
  omega
theorem lexScan_len (s : ByteArray) : (lexScan s).2.length ≤ 2 := by
  unfold lexScan
  split
  · simp
  · exact scanFrom_len _ _ _
theorem lexScan_none (s : ByteArray) : (lexScan s).2 ≠ [] → (lexScan s).1 = [] := by
  have key : ∀ (d p : Nat) (acc : List Tk), s.size - p = d → (scanFrom s p acc).2 ≠ [] → (scanFrom s p acc).1 = [] := by
    intro d
    induction d using Nat.strongRecOn with
    | _ d ih =>
      intro p acc hd
      rw [scanFrom]
      split
      · split
        · exact fun _ => rfl
        · split
          · have := skipEnd_ge s (max (tokenAt s p).2.1 (p + 1))
            exact ih _ (by omega) _ _ rfl
          · exact fun _ => rfl
      · exact fun h => absurd rfl h
  unfold lexScan
  split
  · exact fun _ => rfl
  · exact key _ _ _ rfl
end Go.Proofs.YtgapeacflkfmdaaGreatDoor
namespace Go.Proofs.YtgapeacflkfmdaaGreatDoor
open Go.RowKit Go.Proofs.YtgapeacflkfmdaaGreatDoorW.PrintWords

theorem quoted_len (s : ByteArray) : (quoted s).2.length ≤ 1 := by
  unfold quoted
  repeat' split
  all_goals simp
theorem wrTok_len (t : Tk) : (wrTok t).2.length ≤ 1 := by
  unfold wrTok badArg
  repeat' split
  all_goals simp
end Go.Proofs.YtgapeacflkfmdaaGreatDoor
