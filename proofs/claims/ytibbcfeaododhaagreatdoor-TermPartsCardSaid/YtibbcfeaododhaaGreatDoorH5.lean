/-
 term's reader: number, whole. term's reader: atom. term's reader: far. term's reader: several. term's reader: tuple. heddleref02: no, over, bare, form.
-/
import Derived.Test.YtibbcfeaododhaaGreatDoorH4
import Derived.Test.YtibbcfeaododhaaGreatDoorH2
import Derived.Test.YtibbcfeaododhaaGreatDoorH3
import Derived.Test.YtibbcfeaododhaaGreatDoorJPFmx1
set_option linter.unusedSimpArgs false
namespace Go.Proofs.YtibbcfeaododhaaGreatDoor
open Go.RowKit Go.Sort Go.Proofs.YtibbcfeaododhaaGreatDoorW.PrintWords
/-- A number and an error. -/
def NumE (w : World) (b : Nat) (s : ByteArray) (d : Nat) (r : Int × Nat × List Lk) (e : Ending) (w' : World) : Prop :=
 ∃ (n : Int) (ev : Value), e = .returned (.tuple #[.int .u32 n, ev]) ∧ ErrIs w' r.2.2 ev ∧ ∃ k', RdTo w b s k' d w' ∧ k' ≤ s.size ∧ (r.2.2 = [] → n = r.1 ∧ k' = r.2.1)
/-- The program's variables, while the reader goes on. -/
def GlobG (w : World) (b : Nat) : Prop := ∃ n, n ≤ b ∧ n ≤ w.heap.size ∧ ∀ W, Below n w W → Glob W
theorem GlobG.now {w : World} {b : Nat} (h : GlobG w b) : Glob w := by
 obtain ⟨n, _, _, h⟩ := h
 exact h w (Below.refl _ _)
theorem GlobG.far {w w' : World} {b g : Nat} (h : GlobG w b) (hg : w.grownBy w' (some g)) (hb : b ≤ g) : GlobG w' b := by
 obtain ⟨n, h1, h2, h⟩ := h
 have hw := below_of_grown (n := n) hg (by omega) h2
 exact ⟨n, h1, Nat.le_trans h2 hg.size, fun W hW => h W (hw.trans hW)⟩
theorem GlobG.step {w w' : World} {b : Nat} (h : GlobG w b) (hg : w.grownBy w' (some b)) : GlobG w' b := h.far hg (Nat.le_refl _)
theorem GlobG.below {w w' : World} {b n : Nat} (h : GlobG w b) (hb : Below n w w') (hn : b ≤ n) : GlobG w' b := by
 obtain ⟨m, h1, h2, h⟩ := h
 exact ⟨m, h1, Nat.le_trans h2 hb.size, fun W hW => h W ((hb.mono (by omega)).trans hW)⟩
set_option maxRecDepth 100000 in
set_option maxHeartbeats 2000000 in
theorem rd_number (b : Nat) (s : ByteArray) (k0 d : Nat) (h0 : k0 ≤ s.size) (hm : s.size ≤ 4194304) (w : World) (hS : RdAt w b s k0 d) (hG : GlobG w b) :
  Calls Tryz.prog 103 #[.pointer (some ⟨b, 0, none⟩)] w (NumE w b s d (numAt s k0)) := by
 have HS := Lib.hid hS
 have HG := Lib.hid hG
 have HD := Lib.hid (rd_digits b s k0 d h0 hm w hS)
 have a1 := hS.c1
 obtain ⟨R, hR⟩ : ∃ R, R = numAt s k0 := ⟨_, rfl⟩
 rw [← hR]
 clear hS hG
 cases hd : isDig s k0 with
 | false =>
  have HR : Hid (R = (0, 0, [⟨nTerm, k0, 41⟩])) := Lib.hid (hR.trans (by unfold numAt; rw [if_pos hd]))
  have e : digsAt s k0 = (⟨#[]⟩, 0, [⟨nTerm, k0, 41⟩]) := by unfold digsAt; rw [if_pos hd]
  rw [e] at HD
  clear hR e hd
  go_enter Tryz.func103, Tryz.ntmps103
  go_wp2_with fail
  refine HD.out.mono ?_
  rintro e w1 ⟨ev, rfl, hE, k', hT, _, hk', _⟩
  have HE := Lib.hid hE
  have HT := Lib.hid hT
  obtain ⟨eb, eu, rfl, _⟩ := hE
  clear hT a1
  go_wp2_with fail
  go_ret2
  rw [HR.out]
  exact ⟨_, _, rfl, HE.out, k', HT.out, hk', fun h => by simp at h⟩
 | true =>
  obtain ⟨hdl, hne, hlt, hle⟩ := digs_all hd
  have e : digsAt s k0 = (s.extract k0 (digEnd s k0), digEnd s k0, []) := by unfold digsAt; rw [if_neg (by simp [hd])]
  rw [e] at HD
  have hdec := decAt_txt hdl
  have hR2 : R = if 4294967295 < decAt s k0 (digEnd s k0) then (0, 0, [⟨nTerm, k0, 41⟩]) else (decAt s k0 (digEnd s k0), digEnd s k0, []) := hR.trans (by unfold numAt; rw [if_neg (by simp [hd])])
  have hsz : (s.extract k0 (digEnd s k0)).size ≤ 4194304 := by simp; omega
  have HP := Lib.hid (pu32 _ hdl hne hsz)
  rw [hdec] at hR2
  generalize s.extract k0 (digEnd s k0) = D at HD hdl hne hR2 hsz HP
  generalize foldD 0 D.data.toList = u at hR2 HP
  have HR2 := Lib.hid hR2
  clear hR hR2 hdec hdl hne hsz e hd
  go_enter Tryz.func103, Tryz.ntmps103
  go_wp2_with fail
  refine HD.out.mono ?_
  rintro e w1 ⟨ev, rfl, hE, k', hT, _, hk', hk2⟩
  obtain rfl : ev = .nilIface := hE
  obtain rfl := hk2 rfl
  have HT := Lib.hid hT
  clear hT a1 hk2
  go_wp2_with fail
  refine (HP.out w1 (HG.out.step HT.out.1).now).mono ?_
  rintro e w2 ⟨n, ev, rfl, hB, h1, h2⟩
  have HT2 := Lib.hid (HT.out.below hB)
  clear hB HT
  by_cases hu : u ≤ 4294967295
  ·obtain ⟨rfl, rfl⟩ := h1 hu
   clear h1 h2
   have u0 : (0 : Int) ≤ (u : Int) := by omega
   have u1 : (u : Int) ≤ 4294967295 := by omega
   go_wp2_with fail
   go_ret2
   rw [HR2.out, if_neg (by omega)]
   exact ⟨_, _, rfl, rfl, _, HT2.out, by omega, fun _ => ⟨rfl, rfl⟩⟩
  ·obtain ⟨t, N, rfl⟩ := h2 (by omega)
   clear h1 h2
   go_wp2_with fail
   refine (term_fault _ _ _ _ [] rfl).mono ?_
   rintro e w3 ⟨v, rfl, hE, hB⟩
   have HE := Lib.hid hE
   have HB := Lib.hid hB
   clear hE hB
   go_wp2_with fail
   go_ret2
   rw [HR2.out, if_pos (by omega)]
   exact ⟨_, _, rfl, HE.out, _, HT2.out.below HB.out, hle, fun h => by simp at h⟩
/-- A term and an error. -/
def TermE (w : World) (b : Nat) (s : ByteArray) (d : Nat) (r : Rd) (e : Ending) (w' : World) : Prop :=
 ∃ (v ev : Value), e = .returned (.tuple #[v, ev]) ∧ TmMade w' w.heap.size r.1 v ∧ ErrIs w' r.2.2 ev ∧ ∃ k', RdTo w b s k' d w' ∧ k' ≤ s.size ∧ (r.2.2 = [] → k' = r.2.1)
theorem resTm2 {f : Func} {p q : Tmp} (hr : f.results = #[.cell p 27, .tmp q]) (tmps : Array Value) (W : World) (rb : Nat) (t : Tm) (v4 v5 : Value) (hp : tmps.getD p undef = .pointer (some ⟨rb, 0, none⟩)) (h : TmAt W rb t v4 v5) :
  (results f tmps).run Tryz.prog W = .ok (.tuple #[tmV t v4 v5, tmps.getD q undef]) W := by
 have hp' : tmps[p]?.getD undef = .pointer (some ⟨rb, 0, none⟩) := by simpa using hp
 obtain ⟨c0, c1, c2, c3, c4, c5, _, _, _, _, _, _⟩ := h
 simp [results, hr, hp', asAddr, go_sem, c0, c1, c2, c3, c4, c5, tmV]
abbrev put6 (W : World) (b : Nat) (x : Tm) (u4 u5 : Value) : World := ((((((W.setCell ⟨b, 0, none⟩ (.int .i64 x.kd)).setCell ⟨b, 1, none⟩ (.int .i64 x.it)).setCell ⟨b, 2, none⟩ (.string x.tx)).setCell ⟨b, 3, none⟩ (.int .u32 x.cr)).setCell ⟨b, 4, none⟩ u4).setCell ⟨b, 5, none⟩ u5)
abbrev vNone : Value := .slice none 0 0
/-- A walk of a reader's function that hands back a term: its result's box, the reader. -/
structure RdF (w W : World) (b : Nat) (s : ByteArray) (k d : Nat) : Prop where
 rd : RdTo w b s k d W
 tm : TmAt W w.heap.size zTm vNone vNone
 lt : b < w.heap.size
theorem RdF.start {w : World} {b : Nat} {s : ByteArray} {k d : Nat} (h : RdAt w b s k d) : RdF w (w.alloc (.cells #[.int .i64 0, .int .i64 0, .string ⟨#[]⟩, .int .u32 0, .slice none 0 0, .slice none 0 0] 27)) b s k d :=
 ⟨(RdTo.refl h).below (below_alloc (Below.refl _ _) _), TmAt.new w zTm vNone vNone, h.lt⟩
theorem TmAt.grown {W W' : World} {g b : Nat} {t : Tm} {v4 v5 : Value} (h : TmAt W g t v4 v5) (hg : W.grownBy W' (some b)) (hne : g ≠ b) : TmAt W' g t v4 v5 := by
 have e : W'.heap[g]? = W.heap[g]? := hg.block g h.lt (by simp; exact hne)
 obtain ⟨c0, c1, c2, c3, c4, c5, f0, f1, f2, f3, f4, f5⟩ := h
 simp only [World.cell?, World.frozen?] at c0 c1 c2 c3 c4 c5 f0 f1 f2 f3 f4 f5
 constructor <;> simp only [World.cell?, World.frozen?, e] <;> assumption
theorem RdF.step {w W W' : World} {b : Nat} {s : ByteArray} {k d k2 d2 : Nat} (h : RdF w W b s k d) (h2 : RdTo W b s k2 d2 W') : RdF w W' b s k2 d2 :=
 ⟨h.rd.trans h2, h.tm.grown h2.1 (by have := h.lt; omega), h.lt⟩
theorem RdF.set1 {w W : World} {b : Nat} {s : ByteArray} {k d : Nat} (h : RdF w W b s k d) (j : Int) (n : Nat) (hj : j = (n : Int)) : RdF w (W.setCell ⟨b, 1, none⟩ (.int .i64 j)) b s n d := h.step ((RdTo.refl h.rd.2).set1 j n hj)
theorem RdF.drewN {w W : World} {b : Nat} {s : ByteArray} {k d : Nat} (h : RdF w W b s k d) (n : Nat) : RdF w (W.drewN n) b s k d := h.step ((RdTo.refl h.rd.2).drewN n)
theorem RdF.below {w W W' : World} {b : Nat} {s : ByteArray} {k d : Nat} (h : RdF w W b s k d) (hb : Below W.heap.size W W') : RdF w W' b s k d := h.step ((RdTo.refl h.rd.2).below hb)
theorem put6_heap (W : World) (b : Nat) (x : Tm) (u4 u5 : Value) (i : Nat) (hi : i ≠ b) : (put6 W b x u4 u5).heap[i]? = W.heap[i]? := by
 simp only [put6]
 iterate 6 rw [Below.heap_setCell _ _ _ _ hi]
theorem grown_put6 (W : World) (g : Nat) (x : Tm) (u4 u5 : Value) : W.grownBy (put6 W g x u4 u5) (some g) :=
 ((((((World.grownBy.refl W _).trans (grown_set _ _ _ _)).trans (grown_set _ _ _ _)).trans (grown_set _ _ _ _)).trans (grown_set _ _ _ _)).trans (grown_set _ _ _ _)).trans (grown_set _ _ _ _)
theorem RdF.put {w W : World} {b : Nat} {s : ByteArray} {k d : Nat} (h : RdF w W b s k d) (x : Tm) (u4 u5 : Value) : RdTo w b s k d (put6 W w.heap.size x u4 u5) := by
 have hg := grown_put6 W w.heap.size x u4 u5
 refine ⟨h.rd.1.andThen hg (fun j hj => .inl (by injection hj with hj; omega)), ⟨?_⟩⟩
 rw [hg.block b h.rd.2.lt (by have := h.lt; simp; omega)]
 exact h.rd.2.h
theorem put6_far {W : World} {b b' o : Nat} (h : b' ≠ b) (x : Tm) (u4 u5 : Value) : (put6 W b x u4 u5).cell? ⟨b', o, none⟩ = W.cell? ⟨b', o, none⟩ := by
 simp [put6, World.cell?_setCell_other, h]
theorem ErrIs.kept {W W' : World} (he : ∀ b o, (∃ t, W.cell? ⟨b, 0, none⟩ = some (.string t)) → W'.cell? ⟨b, o, none⟩ = W.cell? ⟨b, o, none⟩) : ∀ {l : List Lk} {v : Value}, ErrIs W l v → ErrIs W' l v
 | [], _, h => h
 | _ :: _, _, ⟨b, u, e, h0, h1, h2, h3, h4⟩ => ⟨b, u, e, (he b 0 ⟨_, h0⟩).trans h0, (he b 1 ⟨_, h0⟩).trans h1, (he b 2 ⟨_, h0⟩).trans h2, (he b 3 ⟨_, h0⟩).trans h3, ErrIs.kept he h4⟩
theorem ErrIs.wrote6 {W : World} {g : Nat} {n : Int} (hg : W.cell? ⟨g, 0, none⟩ = some (.int .i64 n)) (x : Tm) (u4 u5 : Value) {l : List Lk} {v : Value} (h : ErrIs W l v) : ErrIs (put6 W g x u4 u5) l v := by
 obtain ⟨W', hW'⟩ : ∃ W', W' = put6 W g x u4 u5 := ⟨_, rfl⟩
 rw [← hW']
 refine ErrIs.kept (W := W) (W' := W') (fun b o ⟨t, ht⟩ => ?_) h
 have hne : b ≠ g := fun e => by rw [e, hg] at ht; simp at ht
 rw [hW']
 exact put6_far hne _ _ _
theorem RdF.fail {w W : World} {b : Nat} {s : ByteArray} {k d : Nat} (h : RdF w W b s k d) {l : List Lk} {ev : Value} (hE : ErrIs W l ev) (hl : l ≠ []) (hk : k ≤ s.size) : TermE w b s d (zTm, 0, l) (.returned (.tuple #[tmV zTm vNone vNone, ev])) (put6 W w.heap.size zTm vNone vNone) :=
 ⟨_, _, rfl, TmMade.zero _ _, hE.wrote6 h.tm.c0 _ _ _, k, h.put _ _ _, hk, fun e => absurd e hl⟩
theorem TmMade.above {W W' : World} {base : Nat} {t : Tm} {v : Value} (h : TmMade W base t v) (hk : ∀ k, base ≤ k → k < W.heap.size → W'.heap[k]? = W.heap[k]?) : TmMade W' base t v := by
 obtain ⟨v4, v5, e, h4, h5⟩ := h
 exact ⟨v4, v5, e, Kd.R_mono (Kd.R_move (Kd.R_bound h4) (fun k hq => hk k hq.2.1 hq.2.2.1)) (fun _ _ => trivial), Kd.R_mono (Kd.R_move (Kd.R_bound h5) (fun k hq => hk k hq.2.1 hq.2.2.1)) (fun _ _ => trivial)⟩
theorem RdF.done {w W : World} {b : Nat} {s : ByteArray} {k d : Nat} (h : RdF w W b s k d) (t : Tm) {u4 u5 : Value} (hm : TmMade W (w.heap.size + 1) t (tmV t u4 u5)) (hk : k ≤ s.size) : TermE w b s d (t, k, []) (.returned (.tuple #[tmV t u4 u5, .nilIface])) (put6 W w.heap.size t u4 u5) :=
 ⟨_, _, rfl, (hm.above (fun j hj _ => put6_heap W w.heap.size t u4 u5 j (by omega))).lower (Nat.le_succ _), rfl, k, h.put _ _ _, hk, fun _ => rfl⟩
theorem isAtY {s : ByteArray} {k : Nat} {c : Int} (h : k < s.size) (hb : bt s (k : Int) = c) : isAt s k c = true := by unfold isAt; rw [Bool.and_eq_true, decide_eq_true_eq, decide_eq_true_eq]; exact ⟨h, hb⟩
theorem isAtN {s : ByteArray} {k : Nat} {c : Int} (hb : ¬ bt s (k : Int) = c) : isAt s k c = false := by unfold isAt; rw [Bool.and_eq_false_iff, decide_eq_false_iff_not, decide_eq_false_iff_not]; exact .inr hb
theorem isAtO {s : ByteArray} {k : Nat} {c : Int} (h : s.size ≤ k) : isAt s k c = false := by unfold isAt; rw [Bool.and_eq_false_iff, decide_eq_false_iff_not]; exact .inl (by omega)
set_option maxRecDepth 100000 in
set_option maxHeartbeats 4000000 in
theorem rd_whole (b : Nat) (s : ByteArray) (k0 d : Nat) (h0 : k0 < s.size) (hm : s.size ≤ 4194304) (w : World) (hS : RdAt w b s k0 d) (hG : GlobG w b) :
  Calls Tryz.prog 55 #[.pointer (some ⟨b, 0, none⟩)] w (TermE w b s d (wholeAt s k0)) := by
 obtain ⟨R, hR⟩ : ∃ R, R = wholeAt s k0 := ⟨_, rfl⟩
 rw [← hR]
 have HR0 := Lib.hid hR
 clear hR
 obtain ⟨w1, hw1⟩ : ∃ W, W = w.alloc (.cells #[.int .i64 0, .int .i64 0, .string ⟨#[]⟩, .int .u32 0, .slice none 0 0, .slice none 0 0] 27) := ⟨_, rfl⟩
 have hF : RdF w w1 b s k0 d := by rw [hw1]; exact RdF.start hS
 have HG : Hid (GlobG w1 b) := Lib.hid (hG.step hF.rd.1)
 have HF := Lib.hid hF
 clear hS hG hF
 go_enter Tryz.func55, Tryz.ntmps55
 go_upto_region 1 with (fail)
 rw [← hw1]
 clear hw1
 have a0 := HF.out.rd.2.c0
 have a1 := HF.out.rd.2.c1
 have f1 := HF.out.rd.2.f1
 obtain ⟨r0, r1, r2, r3, r4, r5, g0, g1, g2, g3, g4, g5⟩ := HF.out.tm
 simp only [zTm] at r0 r1 r2 r3 r4 r5
 have e1 : (0 : Int) ≤ (k0 : Int) := by omega
 have e2 : (k0 : Int) < (s.size : Int) := by omega
 have hb := btk s k0
 have hr := bt_range s (k0 : Int)
 by_cases hz : bt s (k0 : Int) = 45
 ·have hR := HR0.out
  unfold wholeAt at hR
  rw [if_pos hz] at hR
  have dz : (bt s (k0 : Int) == 45) = true := beq_iff_eq.2 hz
  have HR := Lib.hid hR
  clear hz hR HR0
  go_wp2_with fail
  go_quiet (fail)
  have HF2 := Lib.hid (HF.out.drewN nq)
  replace HG := Lib.hid (HG.out.step (grown_drewN w1 nq _))
  clear a0 a1 f1 r0 r1 r2 r3 r4 r5 g0 g1 g2 g3 g4 g5
  generalize w1.drewN nq = w2 at HF2 HG ⊢
  have a0 := HF2.out.rd.2.c0
  have a1 := HF2.out.rd.2.c1
  have f1 := HF2.out.rd.2.f1
  obtain ⟨r0, r1, r2, r3, r4, r5, g0, g1, g2, g3, g4, g5⟩ := HF2.out.tm
  simp only [zTm] at r0 r1 r2 r3 r4 r5
  go_upto_region 6 with (fail)
  have HFs := Lib.hid (HF2.out.set1 ((k0 : Int) + 1) (k0 + 1) (by omega))
  replace HG := Lib.hid (HG.out.step (grown_set w2 b 1 (.int .i64 ((k0 : Int) + 1))))
  clear a0 a1 f1 r0 r1 r2 r3 r4 r5 g0 g1 g2 g3 g4 g5
  generalize w2.setCell ⟨b, 1, none⟩ (.int .i64 ((k0 : Int) + 1)) = w5 at HFs HG ⊢
  clear HF2 HF hb hr
  have h2 : k0 + 1 ≤ s.size := by omega
  obtain ⟨j, hj⟩ : ∃ j, j = k0 + 1 := ⟨_, rfl⟩
  rw [← hj] at HFs HR h2
  clear hj e1 e2 h0
  have a0 := HFs.out.rd.2.c0
  have a1 := HFs.out.rd.2.c1
  have x1 : (0 : Int) ≤ (j : Int) := by omega
  by_cases hq : j < s.size
  ·have x2 : (j : Int) < (s.size : Int) := by omega
   have hb := btk s j
   have hr := bt_range s (j : Int)
   by_cases hz0 : bt s (j : Int) = 48
   ·have d0 : (bt s (j : Int) == 48) = true := beq_iff_eq.2 hz0
    have HR3 : Hid (R = rdNo j 41) := Lib.hid (HR.out.trans (by rw [isAtY hq hz0]; rfl))
    clear hz0
    go_wp2_with fail
    go_quiet (fail)
    have HF2 := Lib.hid (HFs.out.drewN nq)
    clear a0 a1
    generalize w5.drewN nq = w6 at HF2 ⊢
    go_wp2_with fail
    refine (rd_text b s j d _ HF2.out.rd.2).mono ?_
    rintro e w7 ⟨v, rfl, hE, hB⟩
    have HE := Lib.hid hE
    have HF5 := Lib.hid (HF2.out.below hB)
    clear hE hB
    have a0 := HF5.out.rd.2.c0
    have a1 := HF5.out.rd.2.c1
    have f1 := HF5.out.rd.2.f1
    obtain ⟨r0, r1, r2, r3, r4, r5, g0, g1, g2, g3, g4, g5⟩ := HF5.out.tm
    simp only [zTm] at r0 r1 r2 r3 r4 r5
    go_wp2_with fail
    refine bodyPost_ret (resTm2 rfl _ _ w.heap.size zTm _ _ (by rfl) (HF5.out.tm.put zTm _ _)) rfl ?_
    rw [HR3.out]
    exact HF5.out.fail HE.out (by simp) (by omega)
   ·have d0 : (bt s (j : Int) == 48) = false := beq_eq_false_iff_ne.2 hz0
    replace HR : Hid (R = intAt s k0 j (sgn true)) := Lib.hid (HR.out.trans (by rw [isAtN hz0]; rfl))
    clear hz0
    go_wp2_with fail
    go_quiet (fail)
    have HF2 := Lib.hid (HFs.out.drewN nq)
    replace HG := Lib.hid (HG.out.step (grown_drewN w5 nq _))
    clear a0 a1
    generalize w5.drewN nq = w6 at HF2 HG ⊢
    go_wp2_with fail
    have HG2 := Lib.hid (HG.out.step (World.grownBy.refl _ _))
    cases hd : isDig s (j) with
    | false =>
     have HR2 : Hid (R = rdNo (j) 41) := Lib.hid (HR.out.trans (by unfold intAt; rw [if_pos hd]))
     have e : digsAt s (j) = (⟨#[]⟩, 0, [⟨nTerm, ((j : Nat) : Int), 41⟩]) := by unfold digsAt; rw [if_pos hd]
     have HD := Lib.hid (rd_digits b s (j) d (by omega) hm _ HF2.out.rd.2)
     rw [e] at HD
     clear e hd
     refine HD.out.mono ?_
     rintro e w3 ⟨ev, rfl, hE, k', hT, _, hk', _⟩
     have HE := Lib.hid hE
     have HF3 := Lib.hid (HF2.out.step hT)
     obtain ⟨eb, eu, rfl, _⟩ := hE
     clear hT
     have a0 := HF3.out.rd.2.c0
     have a1 := HF3.out.rd.2.c1
     have f1 := HF3.out.rd.2.f1
     obtain ⟨r0, r1, r2, r3, r4, r5, g0, g1, g2, g3, g4, g5⟩ := HF3.out.tm
     simp only [zTm] at r0 r1 r2 r3 r4 r5
     go_wp2_with fail
     refine bodyPost_ret (resTm2 rfl _ _ w.heap.size zTm _ _ (by rfl) (HF3.out.tm.put zTm _ _)) rfl ?_
     rw [HR2.out]
     exact HF3.out.fail HE.out (by simp) hk'
    | true =>
     obtain ⟨hdl, hne, hlt2, hle⟩ := digs_all hd
     have e : digsAt s (j) = (s.extract (j) (digEnd s (j)), digEnd s (j), []) := by unfold digsAt; rw [if_neg (by simp [hd])]
     have HD := Lib.hid (rd_digits b s (j) d (by omega) hm _ HF2.out.rd.2)
     rw [e] at HD
     have hdec := decAt_txt hdl
     have hR2 := HR.out
     unfold intAt at hR2
     rw [if_neg (by simp [hd]), hdec] at hR2
     have hsz : (s.extract (j) (digEnd s (j))).size ≤ 4194304 := by simp; omega
     have HP := Lib.hid fun T hT => pi64 true _ hdl hne hsz T hT
     have HSZ := Lib.hid hsz
     generalize s.extract (j) (digEnd s (j)) = D at HD hdl hne hR2 hsz HP HSZ
     generalize foldD 0 D.data.toList = u at hR2 HP
     have HR2 := Lib.hid hR2
     clear hR2 hdec hdl hne e hd
     refine HD.out.mono ?_
     rintro e w3 ⟨ev, rfl, hE, k', hT, _, hk', hk2⟩
     obtain rfl : ev = .nilIface := hE
     obtain rfl := hk2 rfl
     have HF3 := Lib.hid (HF2.out.step hT)
     have HG3 := Lib.hid (HG2.out.step hT.1)
     clear hT hk2
     have a0 := HF3.out.rd.2.c0
     have a1 := HF3.out.rd.2.c1
     have f1 := HF3.out.rd.2.f1
     obtain ⟨r0, r1, r2, r3, r4, r5, g0, g1, g2, g3, g4, g5⟩ := HF3.out.tm
     simp only [zTm] at r0 r1 r2 r3 r4 r5
     go_wp2_with fail
     refine (HP.out (signTxt true ++ D) (by simp [signTxt]) w3 HG3.out.now).mono ?_
     rintro e w4 ⟨n, ev, rfl, hB, hN⟩
     have HF4 := Lib.hid (HF3.out.below hB)
     clear a0 a1 f1 r0 r1 r2 r3 r4 r5 g0 g1 g2 g3 g4 g5
     clear hB HF3 HP
     have hsg : sgn true * (u : Int) = n ∨ True := .inr trivial
     by_cases hin : sgn true * (u : Int) < -576460752303423488 ∨ 576460752303423487 < sgn true * (u : Int)
     ·have HR3 : Hid (R = rdNo k0 2) := Lib.hid (by rw [HR2.out, if_pos hin])
      have hx : (∃ t N, ev = .iface t (.pointer (some ⟨N, 0, none⟩))) ∨ (ev = .nilIface ∧ (n < -576460752303423488 ∨ 576460752303423487 < n)) := by
       rcases hN with ⟨h1, h2⟩ | ⟨h1, _⟩
       ·exact .inr ⟨h1, by rw [h2]; exact hin⟩
       ·exact .inl h1
      clear hN hsg hin
      have a0 := HF4.out.rd.2.c0
      have a1 := HF4.out.rd.2.c1
      have f1 := HF4.out.rd.2.f1
      obtain ⟨r0, r1, r2, r3, r4, r5, g0, g1, g2, g3, g4, g5⟩ := HF4.out.tm
      simp only [zTm] at r0 r1 r2 r3 r4 r5
      rcases hx with ⟨t, N, rfl⟩ | ⟨rfl, hx⟩
      ·go_wp2_with fail
       refine (term_fault _ _ _ _ [] rfl).mono ?_
       rintro e w5 ⟨v, rfl, hE, hB⟩
       have HE := Lib.hid hE
       have HF5 := Lib.hid (HF4.out.below hB)
       clear a0 a1 f1 r0 r1 r2 r3 r4 r5 g0 g1 g2 g3 g4 g5
       clear hE hB
       have a0 := HF5.out.rd.2.c0
       have a1 := HF5.out.rd.2.c1
       have f1 := HF5.out.rd.2.f1
       obtain ⟨r0, r1, r2, r3, r4, r5, g0, g1, g2, g3, g4, g5⟩ := HF5.out.tm
       simp only [zTm] at r0 r1 r2 r3 r4 r5
       go_wp2_with fail
       refine bodyPost_ret (resTm2 rfl _ _ w.heap.size zTm _ _ (by rfl) (HF5.out.tm.put zTm _ _)) rfl ?_
       rw [HR3.out]
       exact HF5.out.fail HE.out (by simp) hk'
      ·by_cases h5 : n < -576460752303423488
       ·go_wp2_with fail
        refine (term_fault _ _ _ _ [] rfl).mono ?_
        rintro e w5 ⟨v, rfl, hE, hB⟩
        have HE := Lib.hid hE
        have HF5 := Lib.hid (HF4.out.below hB)
        clear a0 a1 f1 r0 r1 r2 r3 r4 r5 g0 g1 g2 g3 g4 g5
        clear hE hB
        have a0 := HF5.out.rd.2.c0
        have a1 := HF5.out.rd.2.c1
        have f1 := HF5.out.rd.2.f1
        obtain ⟨r0, r1, r2, r3, r4, r5, g0, g1, g2, g3, g4, g5⟩ := HF5.out.tm
        simp only [zTm] at r0 r1 r2 r3 r4 r5
        go_wp2_with fail
        refine bodyPost_ret (resTm2 rfl _ _ w.heap.size zTm _ _ (by rfl) (HF5.out.tm.put zTm _ _)) rfl ?_
        rw [HR3.out]
        exact HF5.out.fail HE.out (by simp) hk'
       ·have h6 : n > 576460752303423487 := by omega
        go_wp2_with fail
        refine (term_fault _ _ _ _ [] rfl).mono ?_
        rintro e w5 ⟨v, rfl, hE, hB⟩
        have HE := Lib.hid hE
        have HF5 := Lib.hid (HF4.out.below hB)
        clear a0 a1 f1 r0 r1 r2 r3 r4 r5 g0 g1 g2 g3 g4 g5
        clear hE hB
        have a0 := HF5.out.rd.2.c0
        have a1 := HF5.out.rd.2.c1
        have f1 := HF5.out.rd.2.f1
        obtain ⟨r0, r1, r2, r3, r4, r5, g0, g1, g2, g3, g4, g5⟩ := HF5.out.tm
        simp only [zTm] at r0 r1 r2 r3 r4 r5
        go_wp2_with fail
        refine bodyPost_ret (resTm2 rfl _ _ w.heap.size zTm _ _ (by rfl) (HF5.out.tm.put zTm _ _)) rfl ?_
        rw [HR3.out]
        exact HF5.out.fail HE.out (by simp) hk'
     ·have HR3 : Hid (R = (tmInt (sgn true * (u : Int)), digEnd s (j), [])) := Lib.hid (by rw [HR2.out, if_neg hin])
      have hx : ev = .nilIface ∧ n = sgn true * (u : Int) := by
       rcases hN with h | ⟨_, h⟩
       ·exact h
       ·exact absurd h (by omega)
      obtain ⟨rfl, rfl⟩ := hx
      clear hN hsg
      generalize sgn true * (u : Int) = n at hin HR3 ⊢
      have a0 := HF4.out.rd.2.c0
      have a1 := HF4.out.rd.2.c1
      have f1 := HF4.out.rd.2.f1
      obtain ⟨r0, r1, r2, r3, r4, r5, g0, g1, g2, g3, g4, g5⟩ := HF4.out.tm
      simp only [zTm] at r0 r1 r2 r3 r4 r5
      have h5 : ¬ n < -576460752303423488 := by omega
      have h6 : ¬ n > 576460752303423487 := by omega
      go_wp2_with fail
      refine bodyPost_ret (resTm2 rfl _ _ w.heap.size (tmInt n) _ _ (by rfl) (HF4.out.tm.put (tmInt n) _ _)) rfl ?_
      rw [HR3.out]
      exact HF4.out.done (tmInt n) (TmMade.flat _ _ _ _ _ _) hk'
  ·have d0 : decide ((j : Int) < (s.size : Int)) = false := decide_eq_false (by omega)
   replace HR : Hid (R = intAt s k0 j (sgn true)) := Lib.hid (HR.out.trans (by rw [isAtO (by omega)]; rfl))
   go_wp2_with fail
   go_quiet (fail)
   have HF2 := Lib.hid (HFs.out.drewN nq)
   replace HG := Lib.hid (HG.out.step (grown_drewN w5 nq _))
   clear a0 a1
   generalize w5.drewN nq = w6 at HF2 HG ⊢
   go_wp2_with fail
   have hd : isDig s j = false := by unfold isDig; simp; omega
   have HR2 : Hid (R = rdNo (j) 41) := Lib.hid (HR.out.trans (by unfold intAt; rw [if_pos hd]))
   have e : digsAt s (j) = (⟨#[]⟩, 0, [⟨nTerm, ((j : Nat) : Int), 41⟩]) := by unfold digsAt; rw [if_pos hd]
   have HD := Lib.hid (rd_digits b s (j) d (by omega) hm _ HF2.out.rd.2)
   rw [e] at HD
   clear e hd
   refine HD.out.mono ?_
   rintro e w3 ⟨ev, rfl, hE, k', hT, _, hk', _⟩
   have HE := Lib.hid hE
   have HF3 := Lib.hid (HF2.out.step hT)
   obtain ⟨eb, eu, rfl, _⟩ := hE
   clear hT
   have a0 := HF3.out.rd.2.c0
   have a1 := HF3.out.rd.2.c1
   have f1 := HF3.out.rd.2.f1
   obtain ⟨r0, r1, r2, r3, r4, r5, g0, g1, g2, g3, g4, g5⟩ := HF3.out.tm
   simp only [zTm] at r0 r1 r2 r3 r4 r5
   go_wp2_with fail
   refine bodyPost_ret (resTm2 rfl _ _ w.heap.size zTm _ _ (by rfl) (HF3.out.tm.put zTm _ _)) rfl ?_
   rw [HR2.out]
   exact HF3.out.fail HE.out (by simp) hk'
 ·have hR := HR0.out
  unfold wholeAt at hR
  rw [if_neg hz] at hR
  have dz : (bt s (k0 : Int) == 45) = false := beq_eq_false_iff_ne.2 hz
  have HR : Hid (R = intAt s k0 k0 (sgn false)) := Lib.hid hR
  clear hz hR HR0
  go_wp2_with fail
  go_quiet (fail)
  have HF2 := Lib.hid (HF.out.drewN nq)
  replace HG := Lib.hid (HG.out.step (grown_drewN w1 nq _))
  clear a0 a1 f1 r0 r1 r2 r3 r4 r5 g0 g1 g2 g3 g4 g5
  generalize w1.drewN nq = w2 at HF2 HG ⊢
  have a1 := HF2.out.rd.2.c1
  go_wp2_with fail
  clear a1
  have HG2 := Lib.hid (HG.out.step (World.grownBy.refl _ _))
  cases hd : isDig s (k0) with
  | false =>
   have HR2 : Hid (R = rdNo (k0) 41) := Lib.hid (HR.out.trans (by unfold intAt; rw [if_pos hd]))
   have e : digsAt s (k0) = (⟨#[]⟩, 0, [⟨nTerm, ((k0 : Nat) : Int), 41⟩]) := by unfold digsAt; rw [if_pos hd]
   have HD := Lib.hid (rd_digits b s (k0) d (by omega) hm _ HF2.out.rd.2)
   rw [e] at HD
   clear e hd
   refine HD.out.mono ?_
   rintro e w3 ⟨ev, rfl, hE, k', hT, _, hk', _⟩
   have HE := Lib.hid hE
   have HF3 := Lib.hid (HF2.out.step hT)
   obtain ⟨eb, eu, rfl, _⟩ := hE
   clear hT
   have a0 := HF3.out.rd.2.c0
   have a1 := HF3.out.rd.2.c1
   have f1 := HF3.out.rd.2.f1
   obtain ⟨r0, r1, r2, r3, r4, r5, g0, g1, g2, g3, g4, g5⟩ := HF3.out.tm
   simp only [zTm] at r0 r1 r2 r3 r4 r5
   go_wp2_with fail
   refine bodyPost_ret (resTm2 rfl _ _ w.heap.size zTm _ _ (by rfl) (HF3.out.tm.put zTm _ _)) rfl ?_
   rw [HR2.out]
   exact HF3.out.fail HE.out (by simp) hk'
  | true =>
   obtain ⟨hdl, hne, hlt2, hle⟩ := digs_all hd
   have e : digsAt s (k0) = (s.extract (k0) (digEnd s (k0)), digEnd s (k0), []) := by unfold digsAt; rw [if_neg (by simp [hd])]
   have HD := Lib.hid (rd_digits b s (k0) d (by omega) hm _ HF2.out.rd.2)
   rw [e] at HD
   have hdec := decAt_txt hdl
   have hR2 := HR.out
   unfold intAt at hR2
   rw [if_neg (by simp [hd]), hdec] at hR2
   have hsz : (s.extract (k0) (digEnd s (k0))).size ≤ 4194304 := by simp; omega
   have HP := Lib.hid fun T hT => pi64 false _ hdl hne hsz T hT
   have HSZ := Lib.hid hsz
   generalize s.extract (k0) (digEnd s (k0)) = D at HD hdl hne hR2 hsz HP HSZ
   generalize foldD 0 D.data.toList = u at hR2 HP
   have HR2 := Lib.hid hR2
   clear hR2 hdec hdl hne e hd
   refine HD.out.mono ?_
   rintro e w3 ⟨ev, rfl, hE, k', hT, _, hk', hk2⟩
   obtain rfl : ev = .nilIface := hE
   obtain rfl := hk2 rfl
   have HF3 := Lib.hid (HF2.out.step hT)
   have HG3 := Lib.hid (HG2.out.step hT.1)
   clear hT hk2
   have a0 := HF3.out.rd.2.c0
   have a1 := HF3.out.rd.2.c1
   have f1 := HF3.out.rd.2.f1
   obtain ⟨r0, r1, r2, r3, r4, r5, g0, g1, g2, g3, g4, g5⟩ := HF3.out.tm
   simp only [zTm] at r0 r1 r2 r3 r4 r5
   go_wp2_with fail
   refine (HP.out (signTxt false ++ D) (by simp [signTxt]) w3 HG3.out.now).mono ?_
   rintro e w4 ⟨n, ev, rfl, hB, hN⟩
   have HF4 := Lib.hid (HF3.out.below hB)
   clear a0 a1 f1 r0 r1 r2 r3 r4 r5 g0 g1 g2 g3 g4 g5
   clear hB HF3 HP
   have hsg : sgn false * (u : Int) = n ∨ True := .inr trivial
   by_cases hin : sgn false * (u : Int) < -576460752303423488 ∨ 576460752303423487 < sgn false * (u : Int)
   ·have HR3 : Hid (R = rdNo k0 2) := Lib.hid (by rw [HR2.out, if_pos hin])
    have hx : (∃ t N, ev = .iface t (.pointer (some ⟨N, 0, none⟩))) ∨ (ev = .nilIface ∧ (n < -576460752303423488 ∨ 576460752303423487 < n)) := by
     rcases hN with ⟨h1, h2⟩ | ⟨h1, _⟩
     ·exact .inr ⟨h1, by rw [h2]; exact hin⟩
     ·exact .inl h1
    clear hN hsg hin
    have a0 := HF4.out.rd.2.c0
    have a1 := HF4.out.rd.2.c1
    have f1 := HF4.out.rd.2.f1
    obtain ⟨r0, r1, r2, r3, r4, r5, g0, g1, g2, g3, g4, g5⟩ := HF4.out.tm
    simp only [zTm] at r0 r1 r2 r3 r4 r5
    rcases hx with ⟨t, N, rfl⟩ | ⟨rfl, hx⟩
    ·go_wp2_with fail
     refine (term_fault _ _ _ _ [] rfl).mono ?_
     rintro e w5 ⟨v, rfl, hE, hB⟩
     have HE := Lib.hid hE
     have HF5 := Lib.hid (HF4.out.below hB)
     clear a0 a1 f1 r0 r1 r2 r3 r4 r5 g0 g1 g2 g3 g4 g5
     clear hE hB
     have a0 := HF5.out.rd.2.c0
     have a1 := HF5.out.rd.2.c1
     have f1 := HF5.out.rd.2.f1
     obtain ⟨r0, r1, r2, r3, r4, r5, g0, g1, g2, g3, g4, g5⟩ := HF5.out.tm
     simp only [zTm] at r0 r1 r2 r3 r4 r5
     go_wp2_with fail
     refine bodyPost_ret (resTm2 rfl _ _ w.heap.size zTm _ _ (by rfl) (HF5.out.tm.put zTm _ _)) rfl ?_
     rw [HR3.out]
     exact HF5.out.fail HE.out (by simp) hk'
    ·by_cases h5 : n < -576460752303423488
     ·go_wp2_with fail
      refine (term_fault _ _ _ _ [] rfl).mono ?_
      rintro e w5 ⟨v, rfl, hE, hB⟩
      have HE := Lib.hid hE
      have HF5 := Lib.hid (HF4.out.below hB)
      clear a0 a1 f1 r0 r1 r2 r3 r4 r5 g0 g1 g2 g3 g4 g5
      clear hE hB
      have a0 := HF5.out.rd.2.c0
      have a1 := HF5.out.rd.2.c1
      have f1 := HF5.out.rd.2.f1
      obtain ⟨r0, r1, r2, r3, r4, r5, g0, g1, g2, g3, g4, g5⟩ := HF5.out.tm
      simp only [zTm] at r0 r1 r2 r3 r4 r5
      go_wp2_with fail
      refine bodyPost_ret (resTm2 rfl _ _ w.heap.size zTm _ _ (by rfl) (HF5.out.tm.put zTm _ _)) rfl ?_
      rw [HR3.out]
      exact HF5.out.fail HE.out (by simp) hk'
     ·have h6 : n > 576460752303423487 := by omega
      go_wp2_with fail
      refine (term_fault _ _ _ _ [] rfl).mono ?_
      rintro e w5 ⟨v, rfl, hE, hB⟩
      have HE := Lib.hid hE
      have HF5 := Lib.hid (HF4.out.below hB)
      clear a0 a1 f1 r0 r1 r2 r3 r4 r5 g0 g1 g2 g3 g4 g5
      clear hE hB
      have a0 := HF5.out.rd.2.c0
      have a1 := HF5.out.rd.2.c1
      have f1 := HF5.out.rd.2.f1
      obtain ⟨r0, r1, r2, r3, r4, r5, g0, g1, g2, g3, g4, g5⟩ := HF5.out.tm
      simp only [zTm] at r0 r1 r2 r3 r4 r5
      go_wp2_with fail
      refine bodyPost_ret (resTm2 rfl _ _ w.heap.size zTm _ _ (by rfl) (HF5.out.tm.put zTm _ _)) rfl ?_
      rw [HR3.out]
      exact HF5.out.fail HE.out (by simp) hk'
   ·have HR3 : Hid (R = (tmInt (sgn false * (u : Int)), digEnd s (k0), [])) := Lib.hid (by rw [HR2.out, if_neg hin])
    have hx : ev = .nilIface ∧ n = sgn false * (u : Int) := by
     rcases hN with h | ⟨_, h⟩
     ·exact h
     ·exact absurd h (by omega)
    obtain ⟨rfl, rfl⟩ := hx
    clear hN hsg
    generalize sgn false * (u : Int) = n at hin HR3 ⊢
    have a0 := HF4.out.rd.2.c0
    have a1 := HF4.out.rd.2.c1
    have f1 := HF4.out.rd.2.f1
    obtain ⟨r0, r1, r2, r3, r4, r5, g0, g1, g2, g3, g4, g5⟩ := HF4.out.tm
    simp only [zTm] at r0 r1 r2 r3 r4 r5
    have h5 : ¬ n < -576460752303423488 := by omega
    have h6 : ¬ n > 576460752303423487 := by omega
    go_wp2_with fail
    refine bodyPost_ret (resTm2 rfl _ _ w.heap.size (tmInt n) _ _ (by rfl) (HF4.out.tm.put (tmInt n) _ _)) rfl ?_
    rw [HR3.out]
    exact HF4.out.done (tmInt n) (TmMade.flat _ _ _ _ _ _) hk'
end Go.Proofs.YtibbcfeaododhaaGreatDoor
set_option linter.unusedSimpArgs false
namespace Go.Proofs.YtibbcfeaododhaaGreatDoor
open Go.RowKit Go.Sort Go.Proofs.YtibbcfeaododhaaGreatDoorW.PrintWords
set_option maxRecDepth 100000 in
set_option maxHeartbeats 4000000 in
theorem rd_atom (b : Nat) (s : ByteArray) (k0 d : Nat) (h0 : k0 ≤ s.size) (hm : s.size ≤ 4194304) (w : World) (hS : RdAt w b s k0 d) (hG : GlobG w b) :
  Calls Tryz.prog 60 #[.pointer (some ⟨b, 0, none⟩)] w (StrE w b s k0 d (atomAt s k0)) := by
 have HS := Lib.hid hS
 have HG := Lib.hid hG
 have a0 := hS.c0
 have a1 := hS.c1
 have f1 := hS.f1
 have e1 : (0 : Int) ≤ (k0 : Int) := by omega
 obtain ⟨R, hR⟩ : ∃ R, R = atomAt s k0 := ⟨_, rfl⟩
 rw [← hR]
 clear hS hG
 by_cases hlt : k0 < s.size
 ·have d0 : decide (s.size ≤ k0) = false := decide_eq_false (by omega)
  have e2 : (k0 : Int) < (s.size : Int) := by omega
  have hb := btk s k0
  have hr := bt_range s (k0 : Int)
  by_cases hbeg : begAtom s k0 = true
  ·have hB0 := hbeg
   unfold begAtom at hB0
   rw [Bool.and_eq_true, Bool.or_eq_true, decide_eq_true_eq, decide_eq_true_eq] at hB0
   have HR : Hid (((aScan s k0).2.2 = [] → R = ((aScan s k0).1, (aScan s k0).2.1, [])) ∧ ((aScan s k0).2.2 ≠ [] → R = (⟨#[]⟩, 0, overTm k0 (aScan s k0).2.2))) := Lib.hid (by
    rw [hR]
    unfold atomAt
    rw [if_neg (by simp [hbeg])]
    generalize aScan s k0 = q
    obtain ⟨q1, q2, ql⟩ := q
    cases ql <;> simp)
   clear hR hbeg
   by_cases hq : bt s (k0 : Int) = 39
   ·have dq : (bt s (k0 : Int) != 39) = false := by simp [hq]
    clear hq hB0
    go_enter Tryz.func60, Tryz.ntmps60
    go_wp2_with fail
    refine (atom_Scan s k0 h0 (by omega) w HG.out.now).mono ?_
    rintro e w2 ⟨v, rfl, hE, hB⟩
    have HT := Lib.hid ((RdTo.refl HS.out).below hB)
    have HG2 := Lib.hid (HG.out.step (grown_of_below hB _))
    have HE := Lib.hid hE
    clear hB a0 a1 f1
    have HQ := Lib.hid (aScan_range s k0 hlt)
    generalize aScan s k0 = q at hE HR HE HQ ⊢
    obtain ⟨q1, q2, ql⟩ := q
    cases ql with
    | nil =>
     obtain rfl : v = .nilIface := hE
     have a0 := HT.out.2.c0
     have a1 := HT.out.2.c1
     have f1 := HT.out.2.f1
     go_wp2_with fail
     go_ret2
     rw [HR.out.1 (by trivial)]
     exact ⟨_, rfl, rfl, q2, HT.out.set1 _ _ rfl, by have := (HQ.out (by trivial)).1; omega, (HQ.out (by trivial)).2, fun _ => rfl⟩
    | cons x r =>
     obtain ⟨eb, eu, rfl, _⟩ := hE
     have HC := Lib.hid (term_code (x :: r) _ w2 HE.out HG2.out.now)
     go_wp2_with fail
     refine HC.out.mono ?_
     rintro e w3 ⟨rfl, hB3⟩
     have HT3 := Lib.hid (HT.out.below hB3)
     have HE3 := Lib.hid (HE.out.below hB3)
     clear hB3
     go_wp2_with fail
     refine (term_fault _ _ _ _ (x :: r) HE3.out).mono ?_
     rintro e w4 ⟨v, rfl, hE4, hB4⟩
     have HT4 := Lib.hid (HT3.out.below hB4)
     have HE4 := Lib.hid hE4
     clear hE4 hB4
     go_wp2_with fail
     go_ret2
     rw [HR.out.2 (by simp)]
     exact ⟨_, rfl, HE4.out, k0, HT4.out, Nat.le_refl _, h0, fun h => by simp [overTm] at h⟩
   ·have dq : (bt s (k0 : Int) != 39) = true := by simp [hq]
    have hs := hB0.2.resolve_left hq
    unfold isSmall at hs
    simp only [Bool.and_eq_true, decide_eq_true_eq] at hs
    have x1 : ¬ bt s (k0 : Int) < 97 := by omega
    have x2 : ¬ bt s (k0 : Int) > 122 := by omega
    clear hq hB0 hs
    go_enter Tryz.func60, Tryz.ntmps60
    go_wp2_with fail
    refine (atom_Scan s k0 h0 (by omega) w HG.out.now).mono ?_
    rintro e w2 ⟨v, rfl, hE, hB⟩
    have HT := Lib.hid ((RdTo.refl HS.out).below hB)
    have HG2 := Lib.hid (HG.out.step (grown_of_below hB _))
    have HE := Lib.hid hE
    clear hB a0 a1 f1
    have HQ := Lib.hid (aScan_range s k0 hlt)
    generalize aScan s k0 = q at hE HR HE HQ ⊢
    obtain ⟨q1, q2, ql⟩ := q
    cases ql with
    | nil =>
     obtain rfl : v = .nilIface := hE
     have a0 := HT.out.2.c0
     have a1 := HT.out.2.c1
     have f1 := HT.out.2.f1
     go_wp2_with fail
     go_ret2
     rw [HR.out.1 (by trivial)]
     exact ⟨_, rfl, rfl, q2, HT.out.set1 _ _ rfl, by have := (HQ.out (by trivial)).1; omega, (HQ.out (by trivial)).2, fun _ => rfl⟩
    | cons x r =>
     obtain ⟨eb, eu, rfl, _⟩ := hE
     have HC := Lib.hid (term_code (x :: r) _ w2 HE.out HG2.out.now)
     go_wp2_with fail
     refine HC.out.mono ?_
     rintro e w3 ⟨rfl, hB3⟩
     have HT3 := Lib.hid (HT.out.below hB3)
     have HE3 := Lib.hid (HE.out.below hB3)
     clear hB3
     go_wp2_with fail
     refine (term_fault _ _ _ _ (x :: r) HE3.out).mono ?_
     rintro e w4 ⟨v, rfl, hE4, hB4⟩
     have HT4 := Lib.hid (HT3.out.below hB4)
     have HE4 := Lib.hid hE4
     clear hE4 hB4
     go_wp2_with fail
     go_ret2
     rw [HR.out.2 (by simp)]
     exact ⟨_, rfl, HE4.out, k0, HT4.out, Nat.le_refl _, h0, fun h => by simp [overTm] at h⟩
  ·have HR : Hid (R = (⟨#[]⟩, 0, [⟨nTerm, k0, 41⟩])) := Lib.hid (hR.trans (by unfold atomAt; rw [if_pos (by simpa using hbeg)]))
   unfold begAtom at hbeg
   rw [Bool.and_eq_true, Bool.or_eq_true, decide_eq_true_eq, decide_eq_true_eq] at hbeg
   have hq : ¬ bt s (k0 : Int) = 39 := fun h => hbeg ⟨hlt, .inl h⟩
   have hs : ¬ isSmall (bt s (k0 : Int)) = true := fun h => hbeg ⟨hlt, .inr h⟩
   unfold isSmall at hs
   simp only [Bool.and_eq_true, decide_eq_true_eq] at hs
   have dq : (bt s (k0 : Int) != 39) = true := by simp [hq]
   clear hbeg hR hq
   by_cases x1 : bt s (k0 : Int) < 97
   ·clear hs
    go_enter Tryz.func60, Tryz.ntmps60
    go_wp2_with fail
    refine (rd_text b s k0 d _ HS.out).mono ?_
    rintro e w2 ⟨v, rfl, hE, hB⟩
    have HE := Lib.hid hE
    have HB := Lib.hid hB
    clear hE hB a0 a1 f1
    go_wp2_with fail
    go_ret2
    rw [HR.out]
    exact ⟨_, rfl, HE.out, k0, (RdTo.refl HS.out).below HB.out, Nat.le_refl _, h0, fun h => by simp at h⟩
   ·have x2 : bt s (k0 : Int) > 122 := by omega
    clear hs
    go_enter Tryz.func60, Tryz.ntmps60
    go_wp2_with fail
    refine (rd_text b s k0 d _ HS.out).mono ?_
    rintro e w2 ⟨v, rfl, hE, hB⟩
    have HE := Lib.hid hE
    have HB := Lib.hid hB
    clear hE hB a0 a1 f1
    go_wp2_with fail
    go_ret2
    rw [HR.out]
    exact ⟨_, rfl, HE.out, k0, (RdTo.refl HS.out).below HB.out, Nat.le_refl _, h0, fun h => by simp at h⟩
 ·have d0 : decide (s.size ≤ k0) = true := decide_eq_true (by omega)
  have HR : Hid (R = (⟨#[]⟩, 0, [⟨nTerm, k0, 41⟩])) := Lib.hid (hR.trans (by unfold atomAt begAtom; rw [if_pos (by simp [hlt])]))
  clear hR
  go_enter Tryz.func60, Tryz.ntmps60
  go_wp2_with fail
  refine (rd_text b s k0 d _ HS.out).mono ?_
  rintro e w2 ⟨v, rfl, hE, hB⟩
  have HE := Lib.hid hE
  have HB := Lib.hid hB
  clear hE hB a0 a1 f1
  go_wp2_with fail
  go_ret2
  rw [HR.out]
  exact ⟨_, rfl, HE.out, k0, (RdTo.refl HS.out).below HB.out, Nat.le_refl _, h0, fun h => by simp at h⟩
end Go.Proofs.YtibbcfeaododhaaGreatDoor
set_option linter.unusedSimpArgs false
namespace Go.Proofs.YtibbcfeaododhaaGreatDoor
open Go.RowKit Go.Sort Go.Proofs.YtibbcfeaododhaaGreatDoorW.PrintWords
theorem qLoop_small (s : ByteArray) (f i : Nat) (acc : List Int) : (qLoop s f i acc).1.size ≤ 255 := by
 induction i, acc using qLoop.induct (s := s) with
 | case1 i acc h h39 hl => rw [qLoop, dif_pos h, if_pos h39, if_pos hl]; exact Nat.zero_le _
 | case2 i acc h h39 hl hu => rw [qLoop, dif_pos h, if_pos h39, if_neg hl, if_pos hu]; exact Nat.zero_le _
 | case3 i acc h h39 hl hu =>
  rw [qLoop, dif_pos h, if_pos h39, if_neg hl, if_neg hu]
  simp only [strOfNums_size]
  omega
 | case4 i acc h h39 hc => rw [qLoop, dif_pos h, if_neg h39, if_pos hc]; exact Nat.zero_le _
 | case5 i acc h h39 hc h92 he => rw [qLoop, dif_pos h, if_neg h39, if_neg hc, if_pos h92, if_pos he]; exact Nat.zero_le _
 | case6 i acc h h39 hc h92 he hz => rw [qLoop, dif_pos h, if_neg h39, if_neg hc, if_pos h92, if_neg he, if_pos hz]; exact Nat.zero_le _
 | case7 i acc h h39 hc h92 he hz ih => rw [qLoop, dif_pos h, if_neg h39, if_neg hc, if_pos h92, if_neg he, if_neg hz]; exact ih
 | case8 i acc h h39 hc h92 ih => rw [qLoop, dif_pos h, if_neg h39, if_neg hc, if_neg h92]; exact ih
 | case9 i acc h => rw [qLoop, dif_neg h]; exact Nat.zero_le _
theorem aScan_small (s : ByteArray) (p : Nat) : (aScan s p).1.size ≤ 255 := by
 unfold aScan
 split
 ·exact qLoop_small _ _ _ _
 ·split
  ·exact Nat.zero_le _
  ·split
   ·exact Nat.zero_le _
   ·split
    ·exact Nat.zero_le _
    ·simp; omega
theorem atomAt_small (s : ByteArray) (k : Nat) : (atomAt s k).1.size ≤ 255 := by
 have h := aScan_small s k
 unfold atomAt
 split
 ·exact Nat.zero_le _
 ·split
  ·exact h
  ·exact Nat.zero_le _
/-! ### its numbers -/
def numExt (acc : List Int) (q : List Int × Nat × List Lk) : List Int × Nat × List Lk := if q.2.2 = [] then (acc ++ q.1, q.2.1, []) else ([], 0, q.2.2)
def farEnd (s : ByteArray) (kd : Int) (nm : ByteArray) (q : List Int × Nat × List Lk) : Rd :=
 if q.2.2 = [] then (if isAt s q.2.1 62 = false then rdNo q.2.1 41 else (⟨kd, 0, nm, q.1.headD 0, q.1.tail, []⟩, q.2.1 + 1, [])) else (zTm, 0, q.2.2)
theorem farAt_eq (s : ByteArray) (k : Nat) (kd : Int) (many : Nat) : farAt s k kd many = if (atomAt s k).2.2 = [] then (if nodeOk (atomAt s k).1 = false then (zTm, 0, overTm k (nodeBad (atomAt s k).1)) else farEnd s kd (atomAt s k).1 (numsAt s (many + 1) (atomAt s k).2.1)) else (zTm, 0, (atomAt s k).2.2) := by
 unfold farAt farEnd
 obtain ⟨nm, e, l⟩ := atomAt s k
 cases l with
 | cons x r => simp
 | nil =>
  simp only [if_true]
  split
  ·rfl
  ·obtain ⟨vs, e2, l2⟩ := numsAt s (many + 1) e
   cases l2 <;> simp
theorem nums_fail1 {s : ByteArray} {k : Nat} (n : Nat) (acc : List Int) (h : isAt s k 46 = false) : numExt acc (numsAt s (n + 1) k) = ([], 0, [⟨nTerm, k, 41⟩]) := by
 rw [numsAt, if_pos h]
 rfl
theorem nums_fail2 {s : ByteArray} {k : Nat} (n : Nat) (acc : List Int) (h : isAt s k 46 = true) (h2 : (numAt s (k + 1)).2.2 ≠ []) : numExt acc (numsAt s (n + 1) k) = ([], 0, (numAt s (k + 1)).2.2) := by
 rw [numsAt, if_neg (by simp [h])]
 generalize numAt s (k + 1) = q at h2 ⊢
 obtain ⟨v, e, l⟩ := q
 cases l with
 | nil => exact absurd rfl h2
 | cons x r => simp [numExt]
theorem nums_step {s : ByteArray} {k : Nat} (n : Nat) (acc : List Int) (h : isAt s k 46 = true) (h2 : (numAt s (k + 1)).2.2 = []) : numExt acc (numsAt s (n + 1) k) = numExt (acc ++ [(numAt s (k + 1)).1]) (numsAt s n (numAt s (k + 1)).2.1) := by
 rw [numsAt, if_neg (by simp [h])]
 generalize numAt s (k + 1) = q at h2 ⊢
 obtain ⟨v, e, l⟩ := q
 obtain rfl : l = [] := h2
 simp only
 obtain ⟨vs, e2, l2⟩ := numsAt s n e
 cases l2 <;> simp [numExt]
theorem nums_done (s : ByteArray) (k : Nat) (acc : List Int) : numExt acc (numsAt s 0 k) = (acc, k, []) := by rw [numsAt]; simp [numExt]
theorem numExt_nil (s : ByteArray) (kd : Int) (nm : ByteArray) (q : List Int × Nat × List Lk) : farEnd s kd nm (numExt [] q) = farEnd s kd nm q := by
 obtain ⟨vs, e, l⟩ := q
 cases l <;> simp [numExt, farEnd]
/-! ### the walk -/
/-- The reader, the result's box, and the term in the making in block g. -/
structure FarF (w W : World) (b : Nat) (s : ByteArray) (k d g : Nat) (t : Tm) (v4 : Value) : Prop where
 f : RdF w W b s k d
 ta : TmAt W g t v4 vNone
 n : kU.R tyU32 W (w.heap.size + 1) (fun j => j ≠ g ∧ j ≠ b) v4 t.nums
 hg : w.heap.size < g
 hb : b < w.heap.size
theorem FarF.start {w W : World} {b : Nat} {s : ByteArray} {k d : Nat} (h : RdF w W b s k d) (hs : w.heap.size < W.heap.size) (kd : Int) (nm : ByteArray) : FarF w (W.alloc (.cells #[.int .i64 kd, .int .i64 0, .string nm, .int .u32 0, .slice none 0 0, .slice none 0 0] 27)) b s k d W.heap.size ⟨kd, 0, nm, 0, [], []⟩ vNone :=
 ⟨h.below (below_alloc (Below.refl _ _) _), TmAt.new W ⟨kd, 0, nm, 0, [], []⟩ vNone vNone, Kd.R_nil _ _ _ _ _, hs, h.lt⟩
theorem FarF.step {w W W' : World} {b : Nat} {s : ByteArray} {k d k2 d2 g : Nat} {t : Tm} {v4 : Value} (h : FarF w W b s k d g t v4) (h2 : RdTo W b s k2 d2 W') : FarF w W' b s k2 d2 g t v4 :=
 ⟨h.f.step h2, h.ta.grown h2.1 (by have := h.hg; have := h.hb; omega), Kd.R_grown h.n h2.1 (fun k hk => by simp; exact hk.2), h.hg, h.hb⟩
theorem RdF.far {w W W' : World} {b g : Nat} {s : ByteArray} {k d : Nat} (h : RdF w W b s k d) (hg : W.grownBy W' (some g)) (h1 : w.heap.size < g) (hb : b < w.heap.size) : RdF w W' b s k d :=
 ⟨⟨h.rd.1.andThen hg (fun j hj => .inl (by injection hj with hj; omega)), ⟨(hg.block b h.rd.2.lt (by simp; omega)).trans h.rd.2.h⟩⟩, h.tm.grown hg (by omega), h.lt⟩
theorem FarF.cr {w W : World} {b : Nat} {s : ByteArray} {k d g : Nat} {t : Tm} {v4 : Value} (h : FarF w W b s k d g t v4) (c : Int) : FarF w (W.setCell ⟨g, 3, none⟩ (.int .u32 c)) b s k d g ⟨t.kd, t.it, t.tx, c, t.nums, t.args⟩ v4 := by
 refine ⟨h.f.far (grown_set _ _ _ _) h.hg h.hb, ?_, Kd.R_far h.n (p := ⟨g, 3, none⟩) (fun k hk => hk.1) _, h.hg, h.hb⟩
 obtain ⟨c0, c1, c2, c3, c4, c5, f0, f1, f2, f3, f4, f5⟩ := h.ta
 constructor <;> simp [World.cell?_setCell_other, World.cell?_setCell_same, World.frozen?_setCell, *]
theorem FarF.ns {w W W' : World} {b : Nat} {s : ByteArray} {k d g : Nat} {t : Tm} {v4 u4 : Value} (h : FarF w W b s k d g t v4) (hb : Below (w.heap.size + 1) W W') (hg : W.grownBy W' v4.ownBlock) (ns : List Int) (hn : kU.R tyU32 W' (w.heap.size + 1) (fun j => j ≠ g ∧ j ≠ b) u4 ns) :
  FarF w (W'.setCell ⟨g, 4, none⟩ u4) b s k d g ⟨t.kd, t.it, t.tx, t.cr, ns, t.args⟩ u4 := by
 have hne : some g ≠ v4.ownBlock := fun e => (h.n.1 g e.symm).1 rfl
 have hne2 : some b ≠ v4.ownBlock := fun e => (h.n.1 b e.symm).2 rfl
 have e : W'.heap[g]? = W.heap[g]? := hg.block g h.ta.lt hne
 have e2 : W'.heap[b]? = W.heap[b]? := hg.block b h.f.rd.2.lt hne2
 have hlt := h.f.tm.lt
 have hF : RdF w W' b s k d := by
  refine ⟨⟨h.f.rd.1.andThen hg (fun j hj => .inl ?_), ⟨e2.trans h.f.rd.2.h⟩⟩, h.f.tm.below hb (by omega), h.f.lt⟩
  have := Kd.R_base h.n j hj
  omega
 refine ⟨hF.far (grown_set _ _ _ _) h.hg h.hb, ?_, Kd.R_far hn (p := ⟨g, 4, none⟩) (fun k hk => hk.1) _, h.hg, h.hb⟩
 obtain ⟨c0, c1, c2, c3, c4, c5, f0, f1, f2, f3, f4, f5⟩ := h.ta
 have cc : ∀ o, W'.cell? ⟨g, o, none⟩ = W.cell? ⟨g, o, none⟩ := fun o => by simp only [World.cell?, e]
 have ff : ∀ o, W'.frozen? ⟨g, o, none⟩ = W.frozen? ⟨g, o, none⟩ := fun o => by simp only [World.frozen?, e]
 constructor <;> simp [World.cell?_setCell_other, World.cell?_setCell_same, World.frozen?_setCell, cc, ff, *]
theorem far_cell {w W W' : World} {b : Nat} {s : ByteArray} {k d g : Nat} {t : Tm} {v4 : Value} (h : FarF w W b s k d g t v4) (hg : W.grownBy W' v4.ownBlock) : W'.cell? ⟨g, 4, none⟩ = some v4 := by
 have e : W'.heap[g]? = W.heap[g]? := hg.block g h.ta.lt (fun e => (h.n.1 g e.symm).1 rfl)
 have := h.ta.c4
 simp only [World.cell?, e] at this ⊢
 exact this
theorem far_frozen {w W W' : World} {b : Nat} {s : ByteArray} {k d g : Nat} {t : Tm} {v4 : Value} (h : FarF w W b s k d g t v4) (hg : W.grownBy W' v4.ownBlock) : W'.frozen? ⟨g, 4, none⟩ = false := by
 have e : W'.heap[g]? = W.heap[g]? := hg.block g h.ta.lt (fun e => (h.n.1 g e.symm).1 rfl)
 have := h.ta.f4
 simp only [World.frozen?, e] at this ⊢
 exact this
set_option maxRecDepth 100000 in
set_option maxHeartbeats 8000000 in
theorem rd_far (b : Nat) (s : ByteArray) (k0 d : Nat) (kd : Int) (many : Nat) (hmy : many ≤ 3) (h0 : k0 ≤ s.size) (hm : s.size ≤ 4194304) (w : World) (hS : RdAt w b s k0 d) (hG : GlobG w b) :
  Calls Tryz.prog 59 #[.pointer (some ⟨b, 0, none⟩), .int .i64 kd, .int .i64 (many : Int)] w (TermE w b s d (farAt s k0 kd many)) := by
 obtain ⟨R, hR⟩ : ∃ R, R = farAt s k0 kd many := ⟨_, rfl⟩
 rw [← hR]
 rw [farAt_eq] at hR
 have HR0 := Lib.hid hR
 have HSM := Lib.hid (atomAt_small s k0)
 clear hR
 obtain ⟨w1, hw1⟩ : ∃ W, W = w.alloc (.cells #[.int .i64 0, .int .i64 0, .string ⟨#[]⟩, .int .u32 0, .slice none 0 0, .slice none 0 0] 27) := ⟨_, rfl⟩
 have hF : RdF w w1 b s k0 d := by rw [hw1]; exact RdF.start hS
 have HG : Hid (GlobG w1 b) := Lib.hid (hG.step hF.rd.1)
 have HF := Lib.hid hF
 clear hS hG hF
 go_enter Tryz.func59, Tryz.ntmps59
 go_upto_region 1 with (fail)
 rw [← hw1]
 clear hw1
 have HA := Lib.hid (rd_atom b s k0 d h0 hm w1 HF.out.rd.2 HG.out)
 generalize atomAt s k0 = q at HR0 HSM HA
 obtain ⟨nm, e0, l⟩ := q
 have a1 := HF.out.rd.2.c1
 go_wp2_with fail
 refine HA.out.mono ?_
 rintro e w2 ⟨ev, rfl, hE, k', hT, _, hk', hk2⟩
 have HF2 := Lib.hid (HF.out.step hT)
 have HG2 := Lib.hid (HG.out.step hT.1)
 have HE := Lib.hid hE
 clear hT a1 HA HG HF
 cases l with
 | cons x r =>
  have HR : Hid (R = (zTm, 0, x :: r)) := Lib.hid (HR0.out.trans (by rw [if_neg (by simp)]))
  obtain ⟨eb, eu, rfl, _⟩ := hE
  have a0 := HF2.out.rd.2.c0
  have a1 := HF2.out.rd.2.c1
  have f1 := HF2.out.rd.2.f1
  obtain ⟨r0, r1, r2, r3, r4, r5, g0, g1, g2, g3, g4, g5⟩ := HF2.out.tm
  simp only [zTm] at r0 r1 r2 r3 r4 r5
  go_wp2_with fail
  refine bodyPost_ret (resTm2 rfl _ _ w.heap.size zTm _ _ (by rfl) (HF2.out.tm.put zTm _ _)) rfl ?_
  rw [HR.out]
  exact HF2.out.fail HE.out (by simp) hk'
 | nil =>
  obtain rfl : ev = .nilIface := hE
  obtain rfl := hk2 rfl
  have HN := Lib.hid (atom_Node nm (by have := HSM.out; omega) w2)
  go_wp2_with fail
  refine HN.out.mono ?_
  rintro e w3 ⟨x1, x2, nv, rfl, hNE, hB3⟩
  have HF3 := Lib.hid (HF2.out.below hB3)
  have HG3 := Lib.hid (HG2.out.step (grown_of_below hB3 _))
  replace HG2 := HG3
  have HNE := Lib.hid hNE
  clear hB3 HN HE hk2
  cases hok : nodeOk nm with
  | false =>
   have hnb : nodeBad nm = [⟨nAtom, 0, 24⟩] := by unfold nodeBad; rw [if_neg (by simp [hok])]
   rw [hnb] at hNE HNE
   have HR : Hid (R = (zTm, 0, overTm k0 [⟨nAtom, 0, 24⟩])) := Lib.hid (HR0.out.trans (by simp [hok, hnb]))
   obtain ⟨eb, eu, rfl, _⟩ := hNE
   clear hnb hok
   go_wp2_with fail
   refine (term_code ([⟨nAtom, 0, 24⟩]) _ _ HNE.out HG2.out.now).mono ?_
   rintro e w4 ⟨rfl, hB4⟩
   have HF4 := Lib.hid (HF3.out.below hB4)
   have HE4 := Lib.hid (HNE.out.below hB4)
   clear hB4
   go_wp2_with fail
   refine (term_fault _ _ _ _ ([⟨nAtom, 0, 24⟩]) HE4.out).mono ?_
   rintro e w5 ⟨v5, rfl, hE5, hB5⟩
   have HF5 := Lib.hid (HF4.out.below hB5)
   have HE5 := Lib.hid hE5
   clear hE5 hB5
   have a0 := HF5.out.rd.2.c0
   have a1 := HF5.out.rd.2.c1
   have f1 := HF5.out.rd.2.f1
   obtain ⟨r0, r1, r2, r3, r4, r5, g0, g1, g2, g3, g4, g5⟩ := HF5.out.tm
   simp only [zTm] at r0 r1 r2 r3 r4 r5
   go_wp2_with fail
   refine bodyPost_ret (resTm2 rfl _ _ w.heap.size zTm _ _ (by rfl) (HF5.out.tm.put zTm _ _)) rfl ?_
   rw [HR.out]
   exact HF5.out.fail HE5.out (by simp [overTm]) hk'
  | true =>
   have hnb : nodeBad nm = [] := by unfold nodeBad; rw [if_pos hok]
   rw [hnb] at hNE
   obtain rfl : nv = .nilIface := hNE
   have HR : Hid (R = farEnd s kd nm (numExt [] (numsAt s (many + 1) k'))) := Lib.hid (HR0.out.trans (by simp [hok, numExt_nil]))
   have HFF := Lib.hid (FarF.start HF3.out HF3.out.tm.lt kd nm)
   clear hnb hok HNE HR0 HF3 HF2
   go_upto_region 9 with (fail)
   replace HG3 := Lib.hid (HG3.out.step (grown_of_below (below_alloc (Below.refl w3.heap.size w3) (.cells #[.int .i64 kd, .int .i64 0, .string nm, .int .u32 0, .slice none 0 0, .slice none 0 0] 27)) _))
   generalize w3.alloc (.cells #[.int .i64 kd, .int .i64 0, .string nm, .int .u32 0, .slice none 0 0, .slice none 0 0] 27) = w4 at HFF HG3 ⊢
   generalize w3.heap.size = g at HFF ⊢
   clear HG2
   have HR := Lib.hid HR.out
   go_wp2_with fail
   go_loopg [50] (many + 1) (fun gk vi wl => ∃ (i k : Nat) (acc : List Int) (v4 : Value), vi = .int .i64 (i : Int) ∧ gk = many + 1 - i ∧ i ≤ many + 1 ∧ acc.length = i ∧ k ≤ s.size ∧ Hid (R = farEnd s kd nm (numExt acc (numsAt s (many + 1 - i) k))) ∧ Hid (GlobG wl b) ∧ Hid (FarF w wl b s k d g ⟨kd, 0, nm, acc.headD 0, acc.tail, []⟩ v4))
   case atStart => exact ⟨0, k', [], vNone, rfl, rfl, by omega, rfl, hk', HR, HG3, HFF⟩
   case round =>
    clear HR HG3 HFF HSM
    obtain ⟨i, k, acc, v4, rfl, hgk, hi, hla, hk, HR, HG, HF⟩ := hrel
    have HK := Lib.hid hgk
    clear hgk
    have x0 : (0 : Int) ≤ (k : Int) := by omega
    have a0 := HF.out.f.rd.2.c0
    have a1 := HF.out.f.rd.2.c1
    have f1 := HF.out.f.rd.2.f1
    by_cases him : i < many + 1
    ·have d0 : decide ((i : Int) < ((many : Int) + 1)) = true := decide_eq_true (by omega)
     obtain ⟨n, hn⟩ : ∃ n, many + 1 - i = n + 1 := ⟨many - i, by omega⟩
     have HR1 := HR.out
     rw [hn] at HR1
     have HQ1 := Lib.hid HR1
     have HNN := Lib.hid hn
     clear HR1
     by_cases hlt : k < s.size
     ·have x1 : (k : Int) < (s.size : Int) := by omega
      have hb := btk s k
      have hr := bt_range s (k : Int)
      by_cases hdot : bt s (k : Int) = 46
      ·have d1 : (bt s (k : Int) != 46) = false := by simp [hdot]
       have HD := Lib.hid (isAtY hlt hdot)
       clear hdot
       go_wp2_with fail
       go_quiet (fail)
       have HF2 := Lib.hid (HF.out.step ((RdTo.refl HF.out.f.rd.2).drewN nq))
       have HG2 := Lib.hid (HG.out.step (grown_drewN wr nq _))
       clear a0 a1 f1 HF HG
       generalize wr.drewN nq = w6 at HF2 HG2 ⊢
       have a1 := HF2.out.f.rd.2.c1
       have f1 := HF2.out.f.rd.2.f1
       go_upto_region 15 with (fail)
       have HF3 := Lib.hid (HF2.out.step ((RdTo.refl HF2.out.f.rd.2).set1 ((k : Int) + 1) (k + 1) (by omega)))
       have HG3 := Lib.hid (HG2.out.step (grown_set w6 b 1 (.int .i64 ((k : Int) + 1))))
       clear a1 f1 HF2 HG2 hb hr
       generalize w6.setCell ⟨b, 1, none⟩ (.int .i64 ((k : Int) + 1)) = w7 at HF3 HG3 ⊢
       have HNM := Lib.hid (rd_number b s (k + 1) d (by omega) hm w7 HF3.out.f.rd.2 HG3.out)
       have HST := Lib.hid (nums_step (k := k) n acc HD.out)
       have HFL := Lib.hid (nums_fail2 (k := k) n acc HD.out)
       generalize numAt s (k + 1) = q at HNM HST HFL
       obtain ⟨nv, ne, nl⟩ := q
       go_wp2_with fail
       refine HNM.out.mono ?_
       rintro e w8 ⟨n8, ev, rfl, hE, k8, hT, hk8, hkn⟩
       have HF4 := Lib.hid (HF3.out.step hT)
       have HG4 := Lib.hid (HG3.out.step hT.1)
       have HE := Lib.hid hE
       clear hT HF3 HG3 HNM
       cases nl with
       | cons x r =>
        have HR2 : Hid (R = (zTm, 0, x :: r)) := Lib.hid (by rw [HQ1.out, HFL.out (by simp)]; simp [farEnd])
        have HF5 := Lib.hid HF4.out.f
        obtain ⟨eb, eu, rfl, _⟩ := hE
        have a0 := HF5.out.rd.2.c0
        have a1 := HF5.out.rd.2.c1
        have f1 := HF5.out.rd.2.f1
        obtain ⟨r0, r1, r2, r3, r4, r5, g0, g1, g2, g3, g4, g5⟩ := HF5.out.tm
        simp only [zTm] at r0 r1 r2 r3 r4 r5
        go_wp2_with fail
        refine bodyPost_ret (resTm2 rfl _ _ w.heap.size zTm _ _ (by rfl) (HF5.out.tm.put zTm _ _)) rfl ?_
        rw [HR2.out]
        exact HF5.out.fail HE.out (by simp) hk8
       | nil =>
        obtain rfl : ev = .nilIface := hE
        obtain ⟨rfl, rfl⟩ := hkn (by trivial)
        have HR2 : Hid (R = farEnd s kd nm (numExt (acc ++ [n8]) (numsAt s n k8))) := Lib.hid (by rw [HQ1.out]; exact congrArg _ (HST.out (by trivial)))
        clear HFL HST hkn HE
        have r3 := HF4.out.ta.c3
        have r4 := HF4.out.ta.c4
        have q3 := HF4.out.ta.f3
        have q4 := HF4.out.ta.f4
        by_cases hi0 : i = 0
        ·have d2 : ((i : Int) == 0) = true := by simp [hi0]
         have hacc : acc = [] := List.length_eq_zero_iff.1 (by omega)
         subst hacc
         have HF5 : Hid (FarF w (w8.setCell ⟨g, 3, none⟩ (.int .u32 n8)) b s k8 d g ⟨kd, 0, nm, n8, [], []⟩ v4) := Lib.hid (HF4.out.cr n8)
         have HG5 := Lib.hid (HG4.out.far (grown_set w8 g 3 (.int .u32 n8)) (by have := HF4.out.hg; have := HF4.out.hb; omega))
         go_wp2_with fail
         go_roundg (many + 1 - (i + 1))
         case measure => rw [HK.out]; omega
         case rel => exact ⟨i + 1, k8, [n8], v4, by go_num, rfl, by omega, by simp [hi0], hk8, by rw [show many + 1 - (i + 1) = n by have := HNN.out; omega]; exact HR2, HG5, HF5⟩
        ·have d2 : ((i : Int) == 0) = false := by simp [hi0]
         have HFR : Hid (∀ j, w8.heap.size ≤ j → j ≠ g ∧ j ≠ b) := Lib.hid fun j hj => by
          have h1 := HF4.out.ta.lt
          have h2 := HF4.out.f.rd.2.lt
          omega
         have HBS : Hid (w.heap.size + 1 ≤ w8.heap.size) := Lib.hid HF4.out.f.tm.lt
         have hla4 : (acc.tail.length + 1) * 4 ≤ 140737488355328 := by rw [List.length_tail]; omega
         go_wp2_with (at_builtin; refine Kd.R_append kU (w0 := w8) (w.heap.size + 1) rfl (.tmp 99) (.tmp 101) 24 23 (.int .u32 0) 4 rfl Tryz.underlying24 infoU32 rfl (by decide) (by omega) v4 acc.tail n8 [.int .u32 n8] (fun j => j ≠ g ∧ j ≠ b) (fun _ => False) ?hs ?hx ?hp ?hok ?hfr ?hO ?hB ?hbs ?hl ?_; (case hs => rfl); (case hx => first | rfl | (simp [Act.eval]; done)); (case hp => rfl); (case hok => exact fun _ hk => hk.elim); (case hfr => exact HFR.out); (case hO => exact HF4.out.n); (case hB => exact Below.refl _ _); (case hbs => exact HBS.out); (case hl => exact hla4); intro v1 w9 ho hb hg hat; obtain ⟨A1, c1, rfl⟩ := Kd.R_slice ho; have r9 := far_cell HF4.out hg; have q9 := far_frozen HF4.out hg; have HFN := Lib.hid (HF4.out.ns hb hg (acc.tail ++ [n8]) ho); have HGN := Lib.hid ((HG4.out.below hb (Nat.le_succ_of_le (Nat.le_of_lt HF4.out.hb))).far (grown_set w9 g 4 (.slice A1 (acc.tail ++ [n8]).length c1)) (Nat.le_of_lt (Nat.lt_trans HF4.out.hb HF4.out.hg))); clear ho hb hg hat r4 q4)
         go_roundg (many + 1 - (i + 1))
         case measure => rw [HK.out]; omega
         case rel =>
          have ht : (acc ++ [n8]).tail = acc.tail ++ [n8] ∧ (acc ++ [n8]).headD 0 = acc.headD 0 := by
           cases acc with
           | nil => exact absurd hla.symm hi0
           | cons x r => exact ⟨rfl, rfl⟩
          rw [show i - 1 + 1 = (acc.tail ++ [n8]).length by rw [List.length_append, List.length_tail, hla]; rfl]
          exact ⟨i + 1, k8, acc ++ [n8], _, by go_num, rfl, by omega, by rw [List.length_append, hla]; rfl, hk8, by rw [show many + 1 - (i + 1) = n by have := HNN.out; omega]; exact HR2, HGN, by rw [ht.1, ht.2]; exact HFN⟩
      ·have d1 : (bt s (k : Int) != 46) = true := by simp [hdot]
       have HR2 : Hid (R = rdNo k 41) := Lib.hid (by rw [HQ1.out, nums_fail1 n acc (isAtN hdot)]; rfl)
       clear hdot
       go_wp2_with fail
       go_quiet (fail)
       have HF2 := Lib.hid (HF.out.f.drewN nq)
       clear a0 a1 f1 HF
       generalize wr.drewN nq = w6 at HF2 ⊢
       go_wp2_with fail
       refine (rd_text b s k d _ HF2.out.rd.2).mono ?_
       rintro e w7 ⟨v, rfl, hE, hB⟩
       have HE := Lib.hid hE
       have HF5 := Lib.hid (HF2.out.below hB)
       clear hE hB
       have a0 := HF5.out.rd.2.c0
       have a1 := HF5.out.rd.2.c1
       have f1 := HF5.out.rd.2.f1
       obtain ⟨r0, r1, r2, r3, r4, r5, g0, g1, g2, g3, g4, g5⟩ := HF5.out.tm
       simp only [zTm] at r0 r1 r2 r3 r4 r5
       go_wp2_with fail
       refine bodyPost_ret (resTm2 rfl _ _ w.heap.size zTm _ _ (by rfl) (HF5.out.tm.put zTm _ _)) rfl ?_
       rw [HR2.out]
       exact HF5.out.fail HE.out (by simp) hk
     ·have d1 : decide (s.size ≤ k) = true := decide_eq_true (by omega)
      have HR2 : Hid (R = rdNo k 41) := Lib.hid (by rw [HQ1.out, nums_fail1 n acc (isAtO (by omega))]; rfl)
      go_wp2_with fail
      go_quiet (fail)
      have HF2 := Lib.hid (HF.out.f.drewN nq)
      clear a0 a1 f1 HF
      generalize wr.drewN nq = w6 at HF2 ⊢
      go_wp2_with fail
      refine (rd_text b s k d _ HF2.out.rd.2).mono ?_
      rintro e w7 ⟨v, rfl, hE, hB⟩
      have HE := Lib.hid hE
      have HF5 := Lib.hid (HF2.out.below hB)
      clear hE hB
      have a0 := HF5.out.rd.2.c0
      have a1 := HF5.out.rd.2.c1
      have f1 := HF5.out.rd.2.f1
      obtain ⟨r0, r1, r2, r3, r4, r5, g0, g1, g2, g3, g4, g5⟩ := HF5.out.tm
      simp only [zTm] at r0 r1 r2 r3 r4 r5
      go_wp2_with fail
      refine bodyPost_ret (resTm2 rfl _ _ w.heap.size zTm _ _ (by rfl) (HF5.out.tm.put zTm _ _)) rfl ?_
      rw [HR2.out]
      exact HF5.out.fail HE.out (by simp) hk
    ·have d0 : decide ((i : Int) < ((many : Int) + 1)) = false := decide_eq_false (by omega)
     have HR1 := HR.out
     rw [show many + 1 - i = 0 by omega, nums_done] at HR1
     have HQ1 := Lib.hid HR1
     clear HR1
     by_cases hlt : k < s.size
     ·have x1 : (k : Int) < (s.size : Int) := by omega
      have hb := btk s k
      have hr := bt_range s (k : Int)
      by_cases hdot : bt s (k : Int) = 62
      ·have d1 : (bt s (k : Int) != 62) = false := by simp [hdot]
       have HR2 : Hid (R = (⟨kd, 0, nm, acc.headD 0, acc.tail, []⟩, k + 1, [])) := Lib.hid (by rw [HQ1.out]; unfold farEnd; rw [if_pos rfl, if_neg (by simp [isAtY hlt hdot])])
       clear hdot
       go_wp2_with fail
       go_quiet (fail)
       have HF2 := Lib.hid (HF.out.step ((RdTo.refl HF.out.f.rd.2).drewN nq))
       clear a0 a1 f1 HF HG
       generalize wr.drewN nq = w6 at HF2 ⊢
       have a1 := HF2.out.f.rd.2.c1
       have f1 := HF2.out.f.rd.2.f1
       go_upto_region 25 with (fail)
       have HF3 := Lib.hid (HF2.out.step ((RdTo.refl HF2.out.f.rd.2).set1 ((k : Int) + 1) (k + 1) (by omega)))
       clear a1 f1 HF2 hb hr
       generalize w6.setCell ⟨b, 1, none⟩ (.int .i64 ((k : Int) + 1)) = w7 at HF3 ⊢
       generalize acc.headD 0 = cr at HF3 HR2
       generalize acc.tail = ns at HF3 HR2
       have hn3 := HF3.out.n
       obtain ⟨A4, c4, rfl⟩ := Kd.R_slice hn3
       clear hn3
       have HF5 := Lib.hid HF3.out.f
       obtain ⟨t0, t1, t2, t3, t4, t5, _, _, _, _, _, _⟩ := HF3.out.ta
       obtain ⟨r0, r1, r2, r3, r4, r5, g0, g1, g2, g3, g4, g5⟩ := HF5.out.tm
       simp only [zTm] at r0 r1 r2 r3 r4 r5
       simp only at t0 t1 t2 t3 t4 t5
       go_wp2_with fail
       refine bodyPost_ret (resTm2 rfl _ _ w.heap.size ⟨kd, 0, nm, cr, ns, []⟩ _ _ (by rfl) (HF5.out.tm.put ⟨kd, 0, nm, cr, ns, []⟩ _ _)) rfl ?_
       rw [HR2.out]
       exact HF5.out.done ⟨kd, 0, nm, cr, ns, []⟩ ⟨_, _, rfl, Kd.R_mono HF3.out.n (fun _ _ => trivial), Kd.R_nil _ _ _ _ _⟩ (by omega)
      ·have d1 : (bt s (k : Int) != 62) = true := by simp [hdot]
       have HR2 : Hid (R = rdNo k 41) := Lib.hid (by rw [HQ1.out]; unfold farEnd; rw [if_pos rfl, if_pos (isAtN hdot)])
       clear hdot
       go_wp2_with fail
       go_quiet (fail)
       have HF2 := Lib.hid (HF.out.f.drewN nq)
       clear a0 a1 f1 HF
       generalize wr.drewN nq = w6 at HF2 ⊢
       go_wp2_with fail
       refine (rd_text b s k d _ HF2.out.rd.2).mono ?_
       rintro e w7 ⟨v, rfl, hE, hB⟩
       have HE := Lib.hid hE
       have HF5 := Lib.hid (HF2.out.below hB)
       clear hE hB
       have a0 := HF5.out.rd.2.c0
       have a1 := HF5.out.rd.2.c1
       have f1 := HF5.out.rd.2.f1
       obtain ⟨r0, r1, r2, r3, r4, r5, g0, g1, g2, g3, g4, g5⟩ := HF5.out.tm
       simp only [zTm] at r0 r1 r2 r3 r4 r5
       go_wp2_with fail
       refine bodyPost_ret (resTm2 rfl _ _ w.heap.size zTm _ _ (by rfl) (HF5.out.tm.put zTm _ _)) rfl ?_
       rw [HR2.out]
       exact HF5.out.fail HE.out (by simp) hk
     ·have d1 : decide (s.size ≤ k) = true := decide_eq_true (by omega)
      have HR2 : Hid (R = rdNo k 41) := Lib.hid (by rw [HQ1.out]; unfold farEnd; rw [if_pos rfl, if_pos (isAtO (k := k) (by omega))])
      go_wp2_with fail
      go_quiet (fail)
      have HF2 := Lib.hid (HF.out.f.drewN nq)
      clear a0 a1 f1 HF
      generalize wr.drewN nq = w6 at HF2 ⊢
      go_wp2_with fail
      refine (rd_text b s k d _ HF2.out.rd.2).mono ?_
      rintro e w7 ⟨v, rfl, hE, hB⟩
      have HE := Lib.hid hE
      have HF5 := Lib.hid (HF2.out.below hB)
      clear hE hB
      have a0 := HF5.out.rd.2.c0
      have a1 := HF5.out.rd.2.c1
      have f1 := HF5.out.rd.2.f1
      obtain ⟨r0, r1, r2, r3, r4, r5, g0, g1, g2, g3, g4, g5⟩ := HF5.out.tm
      simp only [zTm] at r0 r1 r2 r3 r4 r5
      go_wp2_with fail
      refine bodyPost_ret (resTm2 rfl _ _ w.heap.size zTm _ _ (by rfl) (HF5.out.tm.put zTm _ _)) rfl ?_
      rw [HR2.out]
      exact HF5.out.fail HE.out (by simp) hk
end Go.Proofs.YtibbcfeaododhaaGreatDoor
set_option linter.unusedSimpArgs false
namespace Go.Proofs.YtibbcfeaododhaaGreatDoor
open Go.RowKit Go.Sort Go.Proofs.YtibbcfeaododhaaGreatDoorW.PrintWords
/-- The closure that reads a term. -/
abbrev tv (g4 g5 : Nat) : Value := .func (.func 25) #[] #[.pointer (some ⟨g4, 0, none⟩), .pointer (some ⟨g5, 0, none⟩)]
/-- The closure's two variables. -/
structure Boxes (W : World) (b g4 g5 : Nat) : Prop where
 c4 : W.cell? ⟨g4, 0, none⟩ = some (.pointer (some ⟨b, 0, none⟩))
 c5 : W.cell? ⟨g5, 0, none⟩ = some (tv g4 g5)
 n4 : g4 ≠ b
 n5 : g5 ≠ b
 gl : GlobG W b
theorem Boxes.step {W W' : World} {b g4 g5 : Nat} (h : Boxes W b g4 g5) (hg : W.grownBy W' (some b)) : Boxes W' b g4 g5 :=
 ⟨(hg.cell_far ⟨g4, 0, none⟩ (World.block_lt_of_cell? W _ h.c4) (by simp; exact h.n4)).trans h.c4, (hg.cell_far ⟨g5, 0, none⟩ (World.block_lt_of_cell? W _ h.c5) (by simp; exact h.n5)).trans h.c5, h.n4, h.n5, h.gl.step hg⟩
/-- What the closure does, so many terms being begun. -/
def TermSays (s : ByteArray) (b g4 g5 d : Nat) (F : Nat → Rd) : Prop := ∀ (k : Nat) (W : World), k ≤ s.size → RdAt W b s k d → Boxes W b g4 g5 →
 Calls Tryz.prog 25 #[.pointer (some ⟨g4, 0, none⟩), .pointer (some ⟨g5, 0, none⟩)] W (TermE W b s d (F k))
/-- A reading goes forward, no further than the text, and reads fewer parts than bytes. -/
def Fwd (s : ByteArray) (F : Nat → Rd) : Prop := ∀ (k : Nat) (t : Tm) (e : Nat), F k = (t, e, []) → k < e ∧ e ≤ s.size ∧ k + t.args.length ≤ e
theorem RdTo.below' {W W1 W2 : World} {b : Nat} {s : ByteArray} {k d n : Nat} (h : RdTo W b s k d W1) (h2 : Below n W1 W2) (hn : W.heap.size ≤ n) (hb : b < n) : RdTo W b s k d W2 := by
 refine ⟨⟨?_, ?_, ?_, Nat.le_trans h.1.size h2.size, fun i hi hne => (h2.block i (by omega)).trans (h.1.block i hi hne)⟩, ⟨(h2.block b hb).trans h.2.h⟩⟩
 ·first | exact h2.os.trans h.1.os | exact h.1.os.trans h2.os
 ·first | exact h2.tape.trans h.1.tape | exact h.1.tape.trans h2.tape
 ·first | exact h2.output.trans h.1.output | exact h.1.output.trans h2.output
theorem sev_err {F : Nat → Rd} {s : ByteArray} {k m : Nat} {acc : List Tm} (h : (F k).2.2 ≠ []) : sevAt F s (m + 1) k acc = ([], 0, (F k).2.2) := by
 rw [sevAt]
 generalize F k = q at h ⊢
 obtain ⟨t, e, l⟩ := q
 cases l with
 | nil => exact absurd rfl h
 | cons x r => rfl
theorem sev_more {F : Nat → Rd} {s : ByteArray} {k m : Nat} {acc : List Tm} (h : (F k).2.2 = []) (hc : isAt s (blk s (F k).2.1) 44 = true) : sevAt F s (m + 1) k acc = sevAt F s m (blk s (F k).2.1 + 1) (acc ++ [(F k).1]) := by
 rw [sevAt]
 generalize F k = q at h hc ⊢
 obtain ⟨t, e, l⟩ := q
 obtain rfl : l = [] := h
 simp only at hc ⊢
 rw [if_pos hc]
theorem sev_last {F : Nat → Rd} {s : ByteArray} {k m : Nat} {acc : List Tm} (h : (F k).2.2 = []) (hc : isAt s (blk s (F k).2.1) 44 = false) : sevAt F s (m + 1) k acc = (acc ++ [(F k).1], blk s (F k).2.1, []) := by
 rw [sevAt]
 generalize F k = q at h hc ⊢
 obtain ⟨t, e, l⟩ := q
 obtain rfl : l = [] := h
 simp only at hc ⊢
 rw [if_neg (by simp [hc])]
theorem take_c (b : Nat) (s : ByteArray) (k0 d : Nat) (c : UInt8) (n : Int) (hn : (c.toNat : Int) = n) (h0 : k0 ≤ s.size) (hm : s.size ≤ 4194304) (w : World) (hS : RdAt w b s k0 d) :
  Calls Tryz.prog 56 #[.pointer (some ⟨b, 0, none⟩), .string ⟨#[c]⟩] w fun e w' => e = .returned (.bool (isAt s (blk s k0) n)) ∧ RdTo w b s (if isAt s (blk s k0) n then blk s k0 + 1 else blk s k0) d w' := by
 subst hn
 exact rd_take1 b s k0 d c h0 hm w hS
theorem isAt_lt {s : ByteArray} {k : Nat} {c : Int} (h : isAt s k c = true) : k < s.size := by
 unfold isAt at h
 rw [Bool.and_eq_true, decide_eq_true_eq] at h
 exact h.1
theorem blk_ge (s : ByteArray) (k : Nat) : k ≤ blk s k := runEnd_ge _ _ _
theorem blk_le (s : ByteArray) (k : Nat) (h : k ≤ s.size) : blk s k ≤ s.size := runEnd_le _ _ _ h
/-- Terms and an error. -/
def SevE (w : World) (b : Nat) (s : ByteArray) (d : Nat) (r : List Tm × Nat × List Lk) (e : Ending) (w' : World) : Prop :=
 ∃ (lv ev : Value), e = .returned (.tuple #[lv, ev]) ∧ ErrIs w' r.2.2 ev ∧ (r.2.2 = [] → kTm.R tyTm w' w.heap.size (fun _ => True) lv r.1) ∧ (r.2.2 ≠ [] → lv = .slice none 0 0) ∧ ∃ k', RdTo w b s k' d w' ∧ k' ≤ s.size ∧ (r.2.2 = [] → k' = r.2.1)
theorem R_read {W W' : World} {base b : Nat} {l : List Tm} {v : Value} {s : ByteArray} {k d : Nat} (h : kTm.R tyTm W base (fun _ => True) v l) (hr : RdAt W b s k d) (hg : W.grownBy W' (some b)) : kTm.R tyTm W' base (fun _ => True) v l :=
 Kd.R_mono (Kd.R_grown (Kd.R_types h hr.h (by decide)) hg (fun k hk => by simpa using hk.2)) (fun _ _ => trivial)
set_option maxRecDepth 100000 in
set_option maxHeartbeats 8000000 in
theorem rd_several (b g4 g5 : Nat) (s : ByteArray) (k0 d : Nat) (F : Nat → Rd) (hF : TermSays s b g4 g5 d F) (hFw : Fwd s F) (h0 : k0 ≤ s.size) (hm : s.size ≤ 4194304) (w : World) (hS : RdAt w b s k0 d) (hX : Boxes w b g4 g5) :
  Calls Tryz.prog 100 #[.pointer (some ⟨b, 0, none⟩), tv g4 g5] w (SevE w b s d (sevAt F s (s.size + 1) k0 [])) := by
 have hE := callFunc_in Tryz.func25 (by kernel_rfl) rfl
 obtain ⟨R, hR⟩ : ∃ R, R = sevAt F s (s.size + 1) k0 [] := ⟨_, rfl⟩
 rw [← hR]
 have HR := Lib.hid hR.symm
 have HS := Lib.hid (RdTo.refl hS)
 have HX := Lib.hid hX
 have HX0 := Lib.hid hX
 have HF := Lib.hid hF
 have HFW := Lib.hid hFw
 have HLT := Lib.hid hS.lt
 clear hR hS hX hF hFw
 go_enter Tryz.func100, Tryz.ntmps100
 go_wp2_with fail
 go_loopg [6] (s.size + 1) (fun gk vl wl => ∃ (k m : Nat) (acc : List Tm), gk = m ∧ k ≤ s.size ∧ s.size + 1 ≤ m + k ∧ acc.length + m ≤ s.size + 1 ∧ Hid (sevAt F s m k acc = R) ∧ Hid (RdTo w b s k d wl) ∧ Hid (Boxes wl b g4 g5) ∧ Hid (kTm.R tyTm wl w.heap.size (fun _ => True) vl acc))
 case atStart => exact ⟨k0, s.size + 1, [], rfl, h0, by omega, by simp, HR, HS, HX, Lib.hid (Kd.R_nil _ _ _ _ _)⟩
 case round =>
  clear HR HS HX
  obtain ⟨k, m, acc, hgk, hk, hmk, hla, HR, HS, HX, HL⟩ := hrel
  have HK := Lib.hid hgk
  clear hgk
  have HC := Lib.hid (HF.out k wr hk HS.out.2 HX.out)
  obtain ⟨m, rfl⟩ : ∃ n, m = n + 1 := ⟨m - 1, by omega⟩
  have HSE := Lib.hid (sev_err (F := F) (s := s) (k := k) (m := m) (acc := acc))
  have HSM := Lib.hid (sev_more (F := F) (s := s) (k := k) (m := m) (acc := acc))
  have HSL := Lib.hid (sev_last (F := F) (s := s) (k := k) (m := m) (acc := acc))
  have HSZ : Hid (w.heap.size ≤ wr.heap.size) := Lib.hid HS.out.1.size
  have HQF : Hid (∀ t e, F k = (t, e, []) → k ≤ e) := Lib.hid fun t e h => Nat.le_of_lt (HFW.out k t e h).1
  generalize hq : F k = q at HC HSE HSM HSL HQF
  clear hq
  obtain ⟨t, e0, l⟩ := q
  go_wp2_with fail
  refine HC.out.mono ?_
  rintro e w2 ⟨v, ev, rfl, hM, hE, k', hT, hk', hk2⟩
  have HT := Lib.hid (HS.out.trans hT)
  have HX2 := Lib.hid (HX.out.step hT.1)
  have HL2 := Lib.hid (R_read HL.out HS.out.2 hT.1)
  have HW2 := Lib.hid (hT.1.size)
  have HLL := Lib.hid (Kd.R_lt HL.out)
  have HE := Lib.hid hE
  obtain ⟨v4, v5, rfl, hM4, hM5⟩ := hM
  obtain ⟨A4, c4, rfl⟩ := Kd.R_slice hM4
  obtain ⟨A5, c5, rfl⟩ := Kd.R_slice hM5
  have HM4 := Lib.hid hM4
  have HM5 := Lib.hid hM5
  clear hT hM4 hM5 HC HS HX HL
  unfold tmV
  cases l with
  | cons x r =>
   have HR2 : Hid (R = ([], 0, x :: r)) := Lib.hid (HR.out.symm.trans (HSE.out (by simp)))
   obtain ⟨eb, eu, rfl, _⟩ := hE
   go_wp2_with fail
   go_ret2
   rw [HR2.out]
   have hb := below_alloc (Below.refl w2.heap.size w2) (.cells #[.int .i64 t.kd, .int .i64 t.it, .string t.tx, .int .u32 t.cr, .slice A4 t.nums.length c4, .slice A5 t.args.length c5] 27)
   exact ⟨_, _, rfl, HE.out.below hb, fun h => by simp at h, fun _ => rfl, k', HT.out.below hb, hk', fun h => by simp at h⟩
  | nil =>
   obtain rfl : ev = .nilIface := hE
   obtain rfl := hk2 rfl
   clear hk2 HSE HE
   go_upto_region 5 with (fail)
   have hb3 := below_alloc (Below.refl w2.heap.size w2) (.cells #[.int .i64 t.kd, .int .i64 t.it, .string t.tx, .int .u32 t.cr, .slice A4 t.nums.length c4, .slice A5 t.args.length c5] 27)
   have hta := TmAt.new w2 t (.slice A4 t.nums.length c4) (.slice A5 t.args.length c5)
   obtain ⟨w3, hw3⟩ : ∃ W, W = w2.alloc (.cells #[.int .i64 t.kd, .int .i64 t.it, .string t.tx, .int .u32 t.cr, .slice A4 t.nums.length c4, .slice A5 t.args.length c5] 27) := ⟨_, rfl⟩
   rw [← hw3] at hb3 hta
   rw [← hw3]
   clear hw3
   have HT3 := Lib.hid (HT.out.below hb3)
   have HL3 := Lib.hid (Kd.R_below HL2.out hb3)
   have HM3 : Hid (kTm.M w3 w.heap.size (fun j => wr.heap.size ≤ j) t [.int .i64 t.kd, .int .i64 t.it, .string t.tx, .int .u32 t.cr, .slice A4 t.nums.length c4, .slice A5 t.args.length c5]) := Lib.hid (kTm_mkM w3 w.heap.size _ t
    (Kd.R_lower (Kd.R_mono (Kd.R_bound (Kd.R_below HM4.out hb3)) (fun j hj => hj.2.1)) HSZ.out)
    (Kd.R_lower (Kd.R_mono (Kd.R_bound (Kd.R_below HM5.out hb3)) (fun j hj => hj.2.1)) HSZ.out))
   have HBS : Hid (w.heap.size ≤ w3.heap.size) := Lib.hid HT3.out.1.size
   have hl88 : (acc.length + 1) * 88 ≤ 140737488355328 := by omega
   obtain ⟨t0, t1, t2, t3, t4, t5, _, _, _, _, _, _⟩ := hta
   clear hb3 HM4 HM5 HL2 HT HX2 HW2
   go_wp2_with (at_builtin; refine Kd.R_append kTm (w0 := w3) w.heap.size rfl (.tmp 17) (.tmp 19) 25 27 (.agg #[(.int .i64 0), (.int .i64 0), (.string ⟨#[]⟩), (.int .u32 0), (.slice none 0 0), (.slice none 0 0)]) 88 rfl Tryz.underlying25 infoTm rfl (by decide) (by omega) u6 acc t [.int .i64 t.kd, .int .i64 t.it, .string t.tx, .int .u32 t.cr, .slice A4 t.nums.length c4, .slice A5 t.args.length c5] (fun _ => True) (fun j => wr.heap.size ≤ j) ?hs ?hx ?hp ?hok ?hfr ?hO ?hB ?hbs ?hl ?_; (case hs => rfl); (case hx => first | rfl | (simp [Act.eval]; done)); (case hp => exact HM3.out); (case hok => exact fun j hj => ⟨trivial, fun e => by have := HLL.out j e.symm; omega⟩); (case hfr => exact fun _ _ => trivial); (case hO => exact HL3.out); (case hB => exact Below.refl _ _); (case hbs => exact HBS.out); (case hl => exact hl88); intro v1 w5 ho hb hg hat; have HO5 := Lib.hid ho; have HT5 := Lib.hid (HT3.out.below' hb (Nat.le_refl _) HLT.out); clear ho hb hg hat)
   refine (take_c b s k' d 44 44 (by decide) hk' hm w5 HT5.out.2).mono ?_
   rintro e w6 ⟨rfl, hT6⟩
   have HT6 := Lib.hid (HT5.out.trans hT6)
   have HL6 := Lib.hid (R_read HO5.out HT5.out.2 hT6.1)
   clear hT6 HT5 HO5 HT3 HL3 HM3
   have HLE : Hid (k ≤ blk s k') := Lib.hid (Nat.le_trans (HQF.out t k' rfl) (blk_ge s k'))
   cases hc : isAt s (blk s k') 44 with
   | true =>
    have HR2 := Lib.hid ((HSM.out (by trivial) hc).symm.trans HR.out)
    rw [hc] at HT6
    have hlt := isAt_lt hc
    clear hc
    go_wp2_with fail
    go_roundg m
    case measure => rw [HK.out]; omega
    case rel => exact ⟨blk s k' + 1, m, acc ++ [t], rfl, by omega, by have := HLE.out; omega, by rw [List.length_append]; simp; omega, HR2, HT6, Lib.hid (HX0.out.step HT6.out.1), HL6⟩
   | false =>
    have HR2 : Hid (R = (acc ++ [t], blk s k', [])) := Lib.hid (HR.out.symm.trans (HSL.out (by trivial) hc))
    rw [hc] at HT6
    clear hc
    go_wp2_with fail
    go_ret2
    rw [HR2.out]
    exact ⟨_, _, rfl, rfl, fun _ => HL6.out, fun h => absurd rfl h, blk s k', HT6.out, blk_le s k' hk', fun _ => rfl⟩
end Go.Proofs.YtibbcfeaododhaaGreatDoor
set_option linter.unusedSimpArgs false
namespace Go.Proofs.YtibbcfeaododhaaGreatDoor
open Go.RowKit Go.Sort Go.Proofs.YtibbcfeaododhaaGreatDoorW.PrintWords
theorem blk_idem (s : ByteArray) : ∀ (d k : Nat), s.size - k = d → blk s (blk s k) = blk s k
 | 0, k, h => by rw [show blk s k = k from runEnd_out (by omega), show blk s k = k from runEnd_out (by omega)]
 | d + 1, k, h => by
  cases hb : isBlank (bt s (k : Int)) with
  | true => rw [show blk s k = blk s (k + 1) from (runEnd_yes (by omega) hb).symm]; exact blk_idem s d (k + 1) (by omega)
  | false => rw [show blk s k = k from runEnd_no (by omega) hb, show blk s k = k from runEnd_no (by omega) hb]
theorem blk_blk (s : ByteArray) (k : Nat) : blk s (blk s k) = blk s k := blk_idem s _ k rfl
theorem sev_blk {F : Nat → Rd} {s : ByteArray} (hF : Fwd s F) : ∀ (m k : Nat) (acc : List Tm), k ≤ s.size → s.size + 1 ≤ m + k → (sevAt F s m k acc).2.2 = [] → blk s (sevAt F s m k acc).2.1 = (sevAt F s m k acc).2.1 ∧ k < (sevAt F s m k acc).2.1 ∧ (sevAt F s m k acc).1.length + k ≤ acc.length + (sevAt F s m k acc).2.1 ∧ (sevAt F s m k acc).2.1 ≤ s.size
 | 0, k, acc, h, hm, hn => by omega
 | m + 1, k, acc, h, hm, hn => by
  by_cases he : (F k).2.2 = []
  ·have hle := hF k (F k).1 (F k).2.1 (by rw [← he])
   have hge := blk_ge s (F k).2.1
   cases hc : isAt s (blk s (F k).2.1) 44 with
   | true =>
    rw [sev_more he hc] at hn ⊢
    have hlt := isAt_lt hc
    have ih := sev_blk hF m (blk s (F k).2.1 + 1) (acc ++ [(F k).1]) (by omega) (by omega) hn
    have ih2 := ih.2.2.1
    rw [List.length_append, List.length_singleton] at ih2
    exact ⟨ih.1, by omega, by omega, ih.2.2.2⟩
   | false =>
    rw [sev_last he hc]
    exact ⟨blk_blk _ _, by simp only; omega, by simp only [List.length_append, List.length_singleton]; omega, blk_le _ _ hle.2.1⟩
  ·rw [sev_err he] at hn
   exact absurd hn he
/-- Behind its elements. -/
def tupEnd (s : ByteArray) (q : List Tm × Nat × List Lk) : Rd := if q.2.2 = [] then (if isAt s q.2.1 125 then (⟨5, 0, ⟨#[]⟩, 0, [], q.1⟩, q.2.1 + 1, []) else rdNo q.2.1 41) else (zTm, 0, q.2.2)
theorem tupleAt_eq (F : Nat → Rd) (s : ByteArray) (k : Nat) : tupleAt F s k = if isAt s (blk s k) 125 then (⟨5, 0, ⟨#[]⟩, 0, [], []⟩, blk s k + 1, []) else tupEnd s (sevAt F s (s.size + 1) (blk s k) []) := by
 unfold tupleAt tupEnd
 generalize sevAt F s (s.size + 1) (blk s k) [] = q
 obtain ⟨l, e, r⟩ := q
 split
 ·rfl
 ·cases r with
  | nil => rfl
  | cons x y => rfl
set_option maxRecDepth 100000 in
set_option maxHeartbeats 8000000 in
theorem rd_tuple (b g4 g5 : Nat) (s : ByteArray) (k0 d : Nat) (F : Nat → Rd) (hF : TermSays s b g4 g5 d F) (hFw : Fwd s F) (h0 : k0 ≤ s.size) (hm : s.size ≤ 4194304) (w : World) (hS : RdAt w b s k0 d) (hX : Boxes w b g4 g5) :
  Calls Tryz.prog 57 #[.pointer (some ⟨b, 0, none⟩), tv g4 g5] w (TermE w b s d (tupleAt F s k0)) := by
 have hG := hX.gl
 obtain ⟨R, hR⟩ : ∃ R, R = tupleAt F s k0 := ⟨_, rfl⟩
 rw [← hR]
 rw [tupleAt_eq] at hR
 have HR0 := Lib.hid hR
 have HX0 := Lib.hid hX
 have HTS := Lib.hid hF
 have HFW := Lib.hid hFw
 clear hR hX hF hFw
 obtain ⟨w1, hw1⟩ : ∃ W, W = w.alloc (.cells #[.int .i64 0, .int .i64 0, .string ⟨#[]⟩, .int .u32 0, .slice none 0 0, .slice none 0 0] 27) := ⟨_, rfl⟩
 have hF : RdF w w1 b s k0 d := by rw [hw1]; exact RdF.start hS
 have HG : Hid (GlobG w1 b) := Lib.hid (hG.step hF.rd.1)
 have HF := Lib.hid hF
 clear hS hG hF
 go_enter Tryz.func57, Tryz.ntmps57
 go_upto_region 1 with (fail)
 rw [← hw1]
 clear hw1
 have HT1 := Lib.hid (take_c b s k0 d 125 125 (by decide) h0 hm w1 HF.out.rd.2)
 go_wp2_with fail
 refine HT1.out.mono ?_
 rintro e w2 ⟨rfl, hT⟩
 have HF2 := Lib.hid (HF.out.step hT)
 clear hT HT1 HF HG
 cases hc : isAt s (blk s k0) 125 with
 | true =>
  rw [hc] at HF2
  have HR : Hid (R = (⟨5, 0, ⟨#[]⟩, 0, [], []⟩, blk s k0 + 1, [])) := Lib.hid (by rw [HR0.out, if_pos hc])
  have hlt := isAt_lt hc
  clear hc
  have a0 := HF2.out.rd.2.c0
  have a1 := HF2.out.rd.2.c1
  have f1 := HF2.out.rd.2.f1
  obtain ⟨r0, r1, r2, r3, r4, r5, g0, g1, g2, g3, g4, g5⟩ := HF2.out.tm
  simp only [zTm] at r0 r1 r2 r3 r4 r5
  go_wp2_with fail
  refine bodyPost_ret (resTm2 rfl _ _ w.heap.size ⟨5, 0, ⟨#[]⟩, 0, [], []⟩ _ _ (by rfl) (HF2.out.tm.put ⟨5, 0, ⟨#[]⟩, 0, [], []⟩ _ _)) rfl ?_
  rw [HR.out]
  exact HF2.out.done ⟨5, 0, ⟨#[]⟩, 0, [], []⟩ (TmMade.flat _ _ _ _ _ _) (show blk s k0 + 1 ≤ s.size by omega)
 | false =>
  rw [hc] at HF2
  have HR1 : Hid (R = tupEnd s (sevAt F s (s.size + 1) (blk s k0) [])) := Lib.hid (by rw [HR0.out, if_neg (by simp [hc])])
  have hkb := blk_le s k0 h0
  have HSV := Lib.hid (rd_several b g4 g5 s (blk s k0) d F HTS.out HFW.out hkb hm w2 HF2.out.rd.2 (HX0.out.step HF2.out.rd.1))
  have HSB := Lib.hid (sev_blk HFW.out (s.size + 1) (blk s k0) [] hkb (by omega))
  clear hc HR0
  generalize sevAt F s (s.size + 1) (blk s k0) [] = q at HR1 HSV HSB
  obtain ⟨l, e0, r⟩ := q
  go_wp2_with fail
  refine HSV.out.mono ?_
  rintro e w3 ⟨lv, ev, rfl, hE, hL, hL0, k', hT, hk', hk2⟩
  have HF3 := Lib.hid (HF2.out.step hT)
  have HE := Lib.hid hE
  have HZ2 : Hid (w.heap.size + 1 ≤ w2.heap.size) := Lib.hid HF2.out.tm.lt
  clear hT HSV HF2
  cases r with
  | cons x y =>
   have HR : Hid (R = (zTm, 0, x :: y)) := Lib.hid (HR1.out.trans (by simp [tupEnd]))
   obtain ⟨eb, eu, rfl, _⟩ := hE
   obtain rfl := hL0 (by simp)
   clear hL
   have a0 := HF3.out.rd.2.c0
   have a1 := HF3.out.rd.2.c1
   have f1 := HF3.out.rd.2.f1
   obtain ⟨r0, r1, r2, r3, r4, r5, g0, g1, g2, g3, g4, g5⟩ := HF3.out.tm
   simp only [zTm] at r0 r1 r2 r3 r4 r5
   go_wp2_with fail
   refine bodyPost_ret (resTm2 rfl _ _ w.heap.size zTm _ _ (by rfl) (HF3.out.tm.put zTm _ _)) rfl ?_
   rw [HR.out]
   exact HF3.out.fail HE.out (by simp) hk'
  | nil =>
   obtain rfl : ev = .nilIface := hE
   obtain rfl := hk2 rfl
   have hL := hL rfl
   obtain ⟨A5, c5, rfl⟩ := Kd.R_slice hL
   have HL := Lib.hid hL
   have HBK : Hid (blk s k' = k') := Lib.hid (HSB.out rfl).1
   clear hL hL0 hk2 HSB HE
   have HT3 := Lib.hid (take_c b s k' d 125 125 (by decide) hk' hm w3 HF3.out.rd.2)
   rw [HBK.out] at HT3
   go_wp2_with fail
   refine HT3.out.mono ?_
   rintro e w4 ⟨rfl, hT⟩
   have HF4 := Lib.hid (HF3.out.step hT)
   have HL4 := Lib.hid (R_read HL.out HF3.out.rd.2 hT.1)
   clear hT HT3 HF3 HL
   cases hc : isAt s k' 125 with
   | false =>
    rw [hc] at HF4
    have HR : Hid (R = rdNo k' 41) := Lib.hid (HR1.out.trans (by simp [tupEnd, hc]))
    clear hc
    go_wp2_with fail
    refine (rd_text b s (k') d _ HF4.out.rd.2).mono ?_
    rintro e w7 ⟨v, rfl, hE, hB⟩
    have HE := Lib.hid hE
    have HF7 := Lib.hid (HF4.out.below hB)
    clear hE hB
    have a0 := HF7.out.rd.2.c0
    have a1 := HF7.out.rd.2.c1
    have f1 := HF7.out.rd.2.f1
    obtain ⟨r0, r1, r2, r3, r4, r5, g0, g1, g2, g3, g4, g5⟩ := HF7.out.tm
    simp only [zTm] at r0 r1 r2 r3 r4 r5
    go_wp2_with fail
    refine bodyPost_ret (resTm2 rfl _ _ w.heap.size zTm _ _ (by rfl) (HF7.out.tm.put zTm _ _)) rfl ?_
    rw [HR.out]
    exact HF7.out.fail HE.out (by simp) hk'
   | true =>
    rw [hc] at HF4
    have HR : Hid (R = (⟨5, 0, ⟨#[]⟩, 0, [], l⟩, k' + 1, [])) := Lib.hid (HR1.out.trans (by simp [tupEnd, hc]))
    have hlt := isAt_lt hc
    clear hc
    have a0 := HF4.out.rd.2.c0
    have a1 := HF4.out.rd.2.c1
    have f1 := HF4.out.rd.2.f1
    obtain ⟨r0, r1, r2, r3, r4, r5, g0, g1, g2, g3, g4, g5⟩ := HF4.out.tm
    simp only [zTm] at r0 r1 r2 r3 r4 r5
    go_wp2_with fail
    refine bodyPost_ret (resTm2 rfl _ _ w.heap.size ⟨5, 0, ⟨#[]⟩, 0, [], l⟩ _ _ (by rfl) (HF4.out.tm.put ⟨5, 0, ⟨#[]⟩, 0, [], l⟩ _ _)) rfl ?_
    rw [HR.out]
    exact HF4.out.done ⟨5, 0, ⟨#[]⟩, 0, [], l⟩ ⟨_, _, rfl, Kd.R_nil _ _ _ _ _, Kd.R_lower HL4.out HZ2.out⟩ (show k' + 1 ≤ s.size by omega)
end Go.Proofs.YtibbcfeaododhaaGreatDoor
set_option linter.unusedSimpArgs false
namespace Go.Proofs.YtibbcfeaododhaaGreatDoor
open Go.RowKit Go.Proofs.YtibbcfeaododhaaGreatDoorW.PrintWords
theorem ref02_no (at_ co : Int) (w : World) : Calls Tryz.prog 31 #[.int .i64 at_, .int .i64 co] w (LnPost w [⟨nTerm, at_, co⟩]) := by
 go_enter Tryz.func31, Tryz.ntmps31
 go_wp2_with fail
 refine (mem_One _ _ _ _).mono ?_
 rintro e w1 ⟨v, rfl, hL, hB⟩
 have HL := Lib.hid hL
 have HB := Lib.hid hB
 clear hL hB
 go_wp2_with fail
 go_ret
 exact ⟨_, rfl, HL.out, HB.out⟩
theorem ref02_over (at_ : Int) (x : Lk) (r : List Lk) (base : Nat) (v : Value) (w : World) (hL : LnIs w base (x :: r) v) (hl : (x :: r).length ≤ 16) :
  Calls Tryz.prog 95 #[.int .i64 at_, v] w (LnPost w (overTm at_ (x :: r))) := by
 obtain ⟨A, c, rfl, hc, hC⟩ := hL.reads
 obtain ⟨ad, rfl, a0, a1, a2⟩ := atLk hC 0 (by decide) (by simp)
 have HO := Lib.hid (mem_Over nTerm at_ x.co (x :: r) hl (some ad) c w hC)
 have ez : ad.add 0 = ad := by simp [Addr.add]
 simp only [Int.toNat_zero, Nat.zero_mul, ez] at a0 a1 a2
 have e0 : rdLk (x :: r) 0 = x := rfl
 rw [e0] at a0 a1 a2
 have y0 : (0 : Int) < ((x :: r).length : Int) := by simp
 generalize (x :: r).length = n at y0 HO ⊢
 clear hC hL
 go_enter Tryz.func95, Tryz.ntmps95
 go_wp2_with fail
 refine HO.out.mono ?_
 rintro e w1 ⟨v, rfl, hL, hB⟩
 have HL := Lib.hid hL
 have HB := Lib.hid hB
 clear hL hB
 go_wp2_with fail
 go_ret
 exact ⟨_, rfl, HL.out, HB.out⟩
/-! ### bare -/
theorem func0_i : PFm.heddleref02_func0.f 40 ⟨#[105]⟩ = some [true, false, false, false, false] := by decide +kernel
theorem func0_s : PFm.heddleref02_func0.f 40 ⟨#[115]⟩ = some [false, true, false, false, false] := by decide +kernel
theorem func0_scn : PFm.heddleref02_func0.f 40 ⟨#[115, 99, 110]⟩ = some [false, true, true, true, false] := by decide +kernel
theorem func0_a : PFm.heddleref02_func0.f 40 ⟨#[97]⟩ = some [false, false, false, false, true] := by decide +kernel
theorem func0_0 : PFm.heddleref02_func0.f 40 ⟨#[]⟩ = some [false, false, false, false, false] := by decide +kernel
/-- Are the fields that a kind does not name zero? -/
def bareOk (t : Tm) (m0 m1 m2 m3 m4 : Bool) : Bool := (m0 || decide (t.it = 0)) && (m1 || decide (t.tx.size = 0)) && (m2 || decide (t.cr = 0)) && (m3 || decide (t.nums.length = 0)) && (m4 || decide (t.args.length = 0))
theorem bools_at {w : World} {base : Nat} {v : Value} {l : List Bool} (h : Kd.R Kd.bool 4 w base (fun _ => True) v l) (hl : 0 < l.length) : ∃ g c, v = .slice (some ⟨g, 0, none⟩) l.length c ∧ ∀ j, j < l.length → w.cell? ⟨g, j, none⟩ = some (.bool (l.getD j false)) := by
 obtain ⟨A, c, hv, hc, hC⟩ := Kd.R_reads h
 have hr := Kd.reads_of_C (d := false) hC
 obtain ⟨ad, rfl, hh⟩ := hr.2.2 hl
 obtain ⟨_, inner, ho, _⟩ := h
 rcases ho.2 with ⟨he, _⟩ | ⟨g, cap, cur, he, _⟩
 ·rw [hv] at he
  cases he
 ·rw [hv] at he
  injection he with h1 _ _
  injection h1 with h1
  subst h1
  refine ⟨g, c, hv, fun j hj => ?_⟩
  have := hh j hj
  by_cases h0 : j = 0
  ·subst h0
   simpa [Addr.add] using this
  ·simpa [Addr.add, h0] using this
set_option maxRecDepth 100000 in
set_option maxHeartbeats 4000000 in
theorem bare_i (t : Tm) (A4 A5 : Option Addr) (c4 c5 : Nat) (w : World) :
  Calls Tryz.prog 141 #[tmV t (.slice A4 t.nums.length c4) (.slice A5 t.args.length c5), .string ⟨#[105]⟩] w fun e w' => e = .returned (.bool (bareOk t true false false false false)) ∧ Below w.heap.size w w' := by
 have HT := TmAt.new w t (.slice A4 t.nums.length c4) (.slice A5 t.args.length c5)
 obtain ⟨kd, it, tx, cr, ns, us⟩ := t
 unfold tmV bareOk
 simp only at HT ⊢
 have HT := Lib.hid HT
 have HF := Lib.hid fun w => PFm.heddleref02_func0.calls 40 ⟨#[105]⟩ _ w func0_i
 go_enter Tryz.func141, Tryz.ntmps141
 go_wp2_with fail
 refine (HF.out _).mono ?_
 rintro e w1 ⟨v, rfl, hL, hB⟩
 obtain ⟨g, c, rfl, hcell⟩ := bools_at hL (by decide)
 have a0 := hcell 0 (by decide)
 have a1 := hcell 1 (by decide)
 have a2 := hcell 2 (by decide)
 have a3 := hcell 3 (by decide)
 have a4 := hcell 4 (by decide)
 simp only [List.getD_cons_zero, List.getD_cons_succ] at a0 a1 a2 a3 a4
 have hT1 := HT.out.below hB (by simp)
 have t1 := hT1.c1
 have t2 := hT1.c2
 have t3 := hT1.c3
 have t4 := hT1.c4
 have t5 := hT1.c5
 simp only at t1 t2 t3 t4 t5
 have HB := Lib.hid (trans_below (below_alloc (Below.refl _ _) _) hB)
 clear hL hB hcell hT1 HT HF
 go_wp2
 all_goals go_ret
 all_goals refine ⟨eb ?_, HB.out⟩
 all_goals simp_all [tl_nil]
 all_goals (rw [Bool.eq_iff_iff]; simp_all; done)
set_option maxRecDepth 100000 in
set_option maxHeartbeats 4000000 in
theorem bare_s (t : Tm) (A4 A5 : Option Addr) (c4 c5 : Nat) (w : World) :
  Calls Tryz.prog 141 #[tmV t (.slice A4 t.nums.length c4) (.slice A5 t.args.length c5), .string ⟨#[115]⟩] w fun e w' => e = .returned (.bool (bareOk t false true false false false)) ∧ Below w.heap.size w w' := by
 have HT := TmAt.new w t (.slice A4 t.nums.length c4) (.slice A5 t.args.length c5)
 obtain ⟨kd, it, tx, cr, ns, us⟩ := t
 unfold tmV bareOk
 simp only at HT ⊢
 have HT := Lib.hid HT
 have HF := Lib.hid fun w => PFm.heddleref02_func0.calls 40 ⟨#[115]⟩ _ w func0_s
 go_enter Tryz.func141, Tryz.ntmps141
 go_wp2_with fail
 refine (HF.out _).mono ?_
 rintro e w1 ⟨v, rfl, hL, hB⟩
 obtain ⟨g, c, rfl, hcell⟩ := bools_at hL (by decide)
 have a0 := hcell 0 (by decide)
 have a1 := hcell 1 (by decide)
 have a2 := hcell 2 (by decide)
 have a3 := hcell 3 (by decide)
 have a4 := hcell 4 (by decide)
 simp only [List.getD_cons_zero, List.getD_cons_succ] at a0 a1 a2 a3 a4
 have hT1 := HT.out.below hB (by simp)
 have t1 := hT1.c1
 have t2 := hT1.c2
 have t3 := hT1.c3
 have t4 := hT1.c4
 have t5 := hT1.c5
 simp only at t1 t2 t3 t4 t5
 have HB := Lib.hid (trans_below (below_alloc (Below.refl _ _) _) hB)
 clear hL hB hcell hT1 HT HF
 go_wp2
 all_goals go_ret
 all_goals refine ⟨eb ?_, HB.out⟩
 all_goals simp_all [tl_nil]
 all_goals (rw [Bool.eq_iff_iff]; simp_all; done)
set_option maxRecDepth 100000 in
set_option maxHeartbeats 4000000 in
theorem bare_scn (t : Tm) (A4 A5 : Option Addr) (c4 c5 : Nat) (w : World) :
  Calls Tryz.prog 141 #[tmV t (.slice A4 t.nums.length c4) (.slice A5 t.args.length c5), .string ⟨#[115, 99, 110]⟩] w fun e w' => e = .returned (.bool (bareOk t false true true true false)) ∧ Below w.heap.size w w' := by
 have HT := TmAt.new w t (.slice A4 t.nums.length c4) (.slice A5 t.args.length c5)
 obtain ⟨kd, it, tx, cr, ns, us⟩ := t
 unfold tmV bareOk
 simp only at HT ⊢
 have HT := Lib.hid HT
 have HF := Lib.hid fun w => PFm.heddleref02_func0.calls 40 ⟨#[115, 99, 110]⟩ _ w func0_scn
 go_enter Tryz.func141, Tryz.ntmps141
 go_wp2_with fail
 refine (HF.out _).mono ?_
 rintro e w1 ⟨v, rfl, hL, hB⟩
 obtain ⟨g, c, rfl, hcell⟩ := bools_at hL (by decide)
 have a0 := hcell 0 (by decide)
 have a1 := hcell 1 (by decide)
 have a2 := hcell 2 (by decide)
 have a3 := hcell 3 (by decide)
 have a4 := hcell 4 (by decide)
 simp only [List.getD_cons_zero, List.getD_cons_succ] at a0 a1 a2 a3 a4
 have hT1 := HT.out.below hB (by simp)
 have t1 := hT1.c1
 have t2 := hT1.c2
 have t3 := hT1.c3
 have t4 := hT1.c4
 have t5 := hT1.c5
 simp only at t1 t2 t3 t4 t5
 have HB := Lib.hid (trans_below (below_alloc (Below.refl _ _) _) hB)
 clear hL hB hcell hT1 HT HF
 go_wp2
 all_goals go_ret
 all_goals refine ⟨eb ?_, HB.out⟩
 all_goals simp_all [tl_nil]
 all_goals (rw [Bool.eq_iff_iff]; simp_all; done)
set_option maxRecDepth 100000 in
set_option maxHeartbeats 4000000 in
theorem bare_a (t : Tm) (A4 A5 : Option Addr) (c4 c5 : Nat) (w : World) :
  Calls Tryz.prog 141 #[tmV t (.slice A4 t.nums.length c4) (.slice A5 t.args.length c5), .string ⟨#[97]⟩] w fun e w' => e = .returned (.bool (bareOk t false false false false true)) ∧ Below w.heap.size w w' := by
 have HT := TmAt.new w t (.slice A4 t.nums.length c4) (.slice A5 t.args.length c5)
 obtain ⟨kd, it, tx, cr, ns, us⟩ := t
 unfold tmV bareOk
 simp only at HT ⊢
 have HT := Lib.hid HT
 have HF := Lib.hid fun w => PFm.heddleref02_func0.calls 40 ⟨#[97]⟩ _ w func0_a
 go_enter Tryz.func141, Tryz.ntmps141
 go_wp2_with fail
 refine (HF.out _).mono ?_
 rintro e w1 ⟨v, rfl, hL, hB⟩
 obtain ⟨g, c, rfl, hcell⟩ := bools_at hL (by decide)
 have a0 := hcell 0 (by decide)
 have a1 := hcell 1 (by decide)
 have a2 := hcell 2 (by decide)
 have a3 := hcell 3 (by decide)
 have a4 := hcell 4 (by decide)
 simp only [List.getD_cons_zero, List.getD_cons_succ] at a0 a1 a2 a3 a4
 have hT1 := HT.out.below hB (by simp)
 have t1 := hT1.c1
 have t2 := hT1.c2
 have t3 := hT1.c3
 have t4 := hT1.c4
 have t5 := hT1.c5
 simp only at t1 t2 t3 t4 t5
 have HB := Lib.hid (trans_below (below_alloc (Below.refl _ _) _) hB)
 clear hL hB hcell hT1 HT HF
 go_wp2
 all_goals go_ret
 all_goals refine ⟨eb ?_, HB.out⟩
 all_goals simp_all [tl_nil]
 all_goals (rw [Bool.eq_iff_iff]; simp_all; done)
set_option maxRecDepth 100000 in
set_option maxHeartbeats 4000000 in
theorem bare_0 (t : Tm) (A4 A5 : Option Addr) (c4 c5 : Nat) (w : World) :
  Calls Tryz.prog 141 #[tmV t (.slice A4 t.nums.length c4) (.slice A5 t.args.length c5), .string ⟨#[]⟩] w fun e w' => e = .returned (.bool (bareOk t false false false false false)) ∧ Below w.heap.size w w' := by
 have HT := TmAt.new w t (.slice A4 t.nums.length c4) (.slice A5 t.args.length c5)
 obtain ⟨kd, it, tx, cr, ns, us⟩ := t
 unfold tmV bareOk
 simp only at HT ⊢
 have HT := Lib.hid HT
 have HF := Lib.hid fun w => PFm.heddleref02_func0.calls 40 ⟨#[]⟩ _ w func0_0
 go_enter Tryz.func141, Tryz.ntmps141
 go_wp2_with fail
 refine (HF.out _).mono ?_
 rintro e w1 ⟨v, rfl, hL, hB⟩
 obtain ⟨g, c, rfl, hcell⟩ := bools_at hL (by decide)
 have a0 := hcell 0 (by decide)
 have a1 := hcell 1 (by decide)
 have a2 := hcell 2 (by decide)
 have a3 := hcell 3 (by decide)
 have a4 := hcell 4 (by decide)
 simp only [List.getD_cons_zero, List.getD_cons_succ] at a0 a1 a2 a3 a4
 have hT1 := HT.out.below hB (by simp)
 have t1 := hT1.c1
 have t2 := hT1.c2
 have t3 := hT1.c3
 have t4 := hT1.c4
 have t5 := hT1.c5
 simp only at t1 t2 t3 t4 t5
 have HB := Lib.hid (trans_below (below_alloc (Below.refl _ _) _) hB)
 clear hL hB hcell hT1 HT HF
 go_wp2
 all_goals go_ret
 all_goals refine ⟨eb ?_, HB.out⟩
 all_goals simp_all [tl_nil]
 all_goals (rw [Bool.eq_iff_iff]; simp_all; done)
theorem bare_empty (t : Tm) (m1 m23 m4 : Bool) (h : t.kd ≠ 1) : bareOk t false m1 m23 m23 m4 = emptyOk t m1 m23 m4 := by
 unfold bareOk emptyOk
 rw [decide_eq_false h]
 generalize decide (t.it = 0) = a
 generalize decide (t.tx.size = 0) = b
 generalize decide (t.cr = 0) = c
 generalize decide (t.nums.length = 0) = d
 generalize decide (t.args.length = 0) = e
 revert a b c d e m1 m23 m4
 decide
theorem bare_empty1 (t : Tm) (h : t.kd = 1) : bareOk t true false false false false = emptyOk t false false false := by
 unfold bareOk emptyOk
 rw [decide_eq_true h]
 generalize decide (t.it = 0) = a
 generalize decide (t.tx.size = 0) = b
 generalize decide (t.cr = 0) = c
 generalize decide (t.nums.length = 0) = d
 generalize decide (t.args.length = 0) = e
 revert a b c d e
 decide
set_option maxRecDepth 100000 in
set_option maxHeartbeats 8000000 in
theorem ref02_form (t : Tm) (A4 A5 : Option Addr) (c4 c5 : Nat) (w : World) (hR : TmR w t A4 c4 A5 c5) :
  Calls Tryz.prog 93 #[tmV t (.slice A4 t.nums.length c4) (.slice A5 t.args.length c5)] w fun e w' => e = .returned (.bool (shapeOk t)) ∧ Below w.heap.size w w' := by
 unfold tmV
 have HR := Lib.hid hR
 obtain ⟨S, hS⟩ : ∃ S, S = shapeOk t := ⟨_, rfl⟩
 rw [← hS]
 have hlen := hR.g5.2.1
 clear hR
 unfold shapeOk at hS
 have HT0 := Lib.hid (TmAt.new w t (.slice A4 t.nums.length c4) (.slice A5 t.args.length c5))
 have HB0 := Lib.hid (below_alloc (Below.refl w.heap.size w) (.cells #[.int .i64 t.kd, .int .i64 t.it, .string t.tx, .int .u32 t.cr, .slice A4 t.nums.length c4, .slice A5 t.args.length c5] 27))
 go_enter Tryz.func93, Tryz.ntmps93
 go_upto_block 0 with (fail)
 by_cases k1 : t.kd = 1
 ·have d1 : (t.kd == 1) = true := beq_iff_eq.2 k1
  rw [if_pos k1, ← bare_empty1 t k1] at hS
  have HQ := Lib.hid hS
  clear hS k1
  go_wp2_with fail
  refine (bare_i t A4 A5 c4 c5 _).mono ?_
  rintro e w1 ⟨rfl, hB⟩
  have HT := Lib.hid ((TmAt.new w t (.slice A4 t.nums.length c4) (.slice A5 t.args.length c5)).below hB (by simp))
  have HB := Lib.hid (trans_below (below_alloc (Below.refl _ _) _) hB)
  clear hB
  go_wp2_with fail
  go_ret
  exact ⟨eb (by rw [HQ.out]), HB.out⟩
 ·have d1 : (t.kd == 1) = false := beq_eq_false_iff_ne.2 k1
  rw [if_neg k1] at hS
  by_cases k2 : t.kd = 2
  ·have d2 : (t.kd == 2) = true := beq_iff_eq.2 k2
   rw [if_pos k2, ← bare_empty t _ _ _ k1] at hS
   have HQ := Lib.hid hS
   clear hS k1 k2
   go_wp2_with fail
   refine (bare_s t A4 A5 c4 c5 _).mono ?_
   rintro e w1 ⟨rfl, hB⟩
   have HT := Lib.hid ((TmAt.new w t (.slice A4 t.nums.length c4) (.slice A5 t.args.length c5)).below hB (by simp))
   have HB := Lib.hid (trans_below (below_alloc (Below.refl _ _) _) hB)
   clear hB
   go_wp2_with fail
   go_ret
   exact ⟨eb (by rw [HQ.out]), HB.out⟩
  ·have d2 : (t.kd == 2) = false := beq_eq_false_iff_ne.2 k2
   rw [if_neg k2] at hS
   clear k2
   by_cases k3 : t.kd = 3
   ·have d3 : (t.kd == 3) = true := beq_iff_eq.2 k3
    rw [if_pos k3] at hS
    have HQ := Lib.hid hS
    have HBE := Lib.hid (bare_empty t true true false k1)
    clear hS k1 k3
    go_wp2_with fail
    refine (bare_scn t A4 A5 c4 c5 _).mono ?_
    rintro e w1 ⟨rfl, hB⟩
    have HT := Lib.hid ((TmAt.new w t (.slice A4 t.nums.length c4) (.slice A5 t.args.length c5)).below hB (by simp))
    have HB := Lib.hid (trans_below (below_alloc (Below.refl _ _) _) hB)
    clear hB
    generalize hE : emptyOk t true true false = E at HQ HBE
    clear hE
    rw [HBE.out]
    cases E with
    | false =>
     rw [Bool.false_and] at HQ
     go_wp2_with fail
     go_ret
     exact ⟨eb (by rw [HQ.out]), HB.out⟩
    | true =>
     rw [Bool.true_and] at HQ
     have r4 := HT.out.c4
     by_cases hn : t.nums.length = 3
     ·have dn : ((t.nums.length : Int) == 3) = true := beq_iff_eq.2 (by omega)
      rw [decide_eq_true hn] at HQ
      clear hn
      go_wp2_with fail
      go_ret
      exact ⟨eb (by rw [HQ.out]), HB.out⟩
     ·have dn : ((t.nums.length : Int) == 3) = false := beq_eq_false_iff_ne.2 (by omega)
      rw [decide_eq_false hn] at HQ
      clear hn
      go_wp2_with fail
      go_ret
      exact ⟨eb (by rw [HQ.out]), HB.out⟩
   ·have d3 : (t.kd == 3) = false := beq_eq_false_iff_ne.2 k3
    rw [if_neg k3] at hS
    clear k3
    by_cases k4 : t.kd = 4
    ·have d4 : (t.kd == 4) = true := beq_iff_eq.2 k4
     rw [if_pos k4] at hS
     have HQ := Lib.hid hS
     have HBE := Lib.hid (bare_empty t true true false k1)
     clear hS k1 k4
     go_wp2_with fail
     refine (bare_scn t A4 A5 c4 c5 _).mono ?_
     rintro e w1 ⟨rfl, hB⟩
     have HT := Lib.hid ((TmAt.new w t (.slice A4 t.nums.length c4) (.slice A5 t.args.length c5)).below hB (by simp))
     have HB := Lib.hid (trans_below (below_alloc (Below.refl _ _) _) hB)
     clear hB
     generalize hE : emptyOk t true true false = E at HQ HBE
     clear hE
     rw [HBE.out]
     cases E with
     | false =>
      rw [Bool.false_and] at HQ
      go_wp2_with fail
      go_ret
      exact ⟨eb (by rw [HQ.out]), HB.out⟩
     | true =>
      rw [Bool.true_and] at HQ
      have r4 := HT.out.c4
      by_cases hn : t.nums.length = 2
      ·have dn : ((t.nums.length : Int) == 2) = true := beq_iff_eq.2 (by omega)
       rw [decide_eq_true hn] at HQ
       clear hn
       go_wp2_with fail
       go_ret
       exact ⟨eb (by rw [HQ.out]), HB.out⟩
      ·have dn : ((t.nums.length : Int) == 2) = false := beq_eq_false_iff_ne.2 (by omega)
       rw [decide_eq_false hn] at HQ
       clear hn
       go_wp2_with fail
       go_ret
       exact ⟨eb (by rw [HQ.out]), HB.out⟩
    ·have d4 : (t.kd == 4) = false := beq_eq_false_iff_ne.2 k4
     rw [if_neg k4] at hS
     clear k4
     by_cases k5 : t.kd = 5
     ·have d5 : (t.kd == 5) = true := beq_iff_eq.2 k5
      rw [if_pos k5, ← bare_empty t _ _ _ k1] at hS
      have HQ := Lib.hid hS
      clear hS k1 k5
      go_wp2_with fail
      refine (bare_a t A4 A5 c4 c5 _).mono ?_
      rintro e w1 ⟨rfl, hB⟩
      have HT := Lib.hid ((TmAt.new w t (.slice A4 t.nums.length c4) (.slice A5 t.args.length c5)).below hB (by simp))
      have HB := Lib.hid (trans_below (below_alloc (Below.refl _ _) _) hB)
      clear hB
      go_wp2_with fail
      go_ret
      exact ⟨eb (by rw [HQ.out]), HB.out⟩
     ·have d5 : (t.kd == 5) = false := beq_eq_false_iff_ne.2 k5
      rw [if_neg k5] at hS
      clear k5
      by_cases k6 : t.kd = 6
      ·have d6 : (t.kd == 6) = true := beq_iff_eq.2 k6
       rw [if_pos k6, ← bare_empty t _ _ _ k1] at hS
       have HQ := Lib.hid hS
       clear hS k1 k6
       go_wp2_with fail
       refine (bare_0 t A4 A5 c4 c5 _).mono ?_
       rintro e w1 ⟨rfl, hB⟩
       have HT := Lib.hid ((TmAt.new w t (.slice A4 t.nums.length c4) (.slice A5 t.args.length c5)).below hB (by simp))
       have HB := Lib.hid (trans_below (below_alloc (Below.refl _ _) _) hB)
       clear hB
       go_wp2_with fail
       go_ret
       exact ⟨eb (by rw [HQ.out]), HB.out⟩
      ·have d6 : (t.kd == 6) = false := beq_eq_false_iff_ne.2 k6
       rw [if_neg k6] at hS
       clear k6
       by_cases k7 : t.kd = 7
       ·have d7 : (t.kd == 7) = true := beq_iff_eq.2 k7
        rw [if_pos k7] at hS
        have HQ := Lib.hid hS
        have HBE := Lib.hid (bare_empty t false false true k1)
        clear hS k1 k7
        go_wp2_with fail
        refine (bare_a t A4 A5 c4 c5 _).mono ?_
        rintro e w1 ⟨rfl, hB⟩
        have HT := Lib.hid ((TmAt.new w t (.slice A4 t.nums.length c4) (.slice A5 t.args.length c5)).below hB (by simp))
        have HB := Lib.hid (trans_below (below_alloc (Below.refl _ _) _) hB)
        clear hB
        generalize hE : emptyOk t false false true = E at HQ HBE
        clear hE
        rw [HBE.out]
        cases E with
        | false =>
         rw [Bool.false_and, Bool.false_and] at HQ
         go_wp2_with fail
         go_ret
         exact ⟨eb (by rw [HQ.out]), HB.out⟩
        | true =>
         rw [Bool.true_and] at HQ
         have r5 := HT.out.c5
         by_cases hn : (t.args.length : Int) ≥ 2
         ·have dn : decide ((t.args.length : Int) ≥ 2) = true := decide_eq_true hn
          rw [decide_eq_true (show 2 ≤ t.args.length by omega), Bool.true_and] at HQ
          obtain ⟨ad, A4', c4', A5', c5', rfl, a0, _⟩ := atTm (HR.out.below HB.out).g5 ((t.args.length : Int) - 1) (by omega) (by omega)
          have ek : ((t.args.length : Int) - 1).toNat = t.args.length - 1 := by omega
          have hlk : (rdTm t.args ((t.args.length : Int) - 1)).kd = lastKd t := rfl
          rw [hlk] at a0
          simp only [ek] at a0
          have y0 : (0 : Int) ≤ (t.args.length : Int) - 1 := by omega
          have y1 : (t.args.length : Int) - 1 < (t.args.length : Int) := by omega
          generalize lastKd t = K at a0 HQ
          clear ek hlk
          by_cases h7 : K = 7
          ·have d8 : (K != 7) = false := by simp [h7]
           rw [decide_eq_false (by simp [h7])] at HQ
           clear h7
           go_wp2_with fail
           go_ret
           exact ⟨eb (by rw [HQ.out]), HB.out⟩
          ·have d8 : (K != 7) = true := by simp [h7]
           rw [decide_eq_true h7] at HQ
           clear h7
           go_wp2_with fail
           go_ret
           exact ⟨eb (by rw [HQ.out]), HB.out⟩
         ·have dn : decide ((t.args.length : Int) ≥ 2) = false := decide_eq_false hn
          rw [decide_eq_false (show ¬ 2 ≤ t.args.length by omega), Bool.false_and] at HQ
          go_wp2_with fail
          go_ret
          exact ⟨eb (by rw [HQ.out]), HB.out⟩
       ·have d7 : (t.kd == 7) = false := beq_eq_false_iff_ne.2 k7
        rw [if_neg k7] at hS
        have HQ := Lib.hid hS
        have HB := HB0
        clear hS k1 k7
        go_wp2_with fail
        go_ret
        exact ⟨eb (by rw [HQ.out]), HB.out⟩
end Go.Proofs.YtibbcfeaododhaaGreatDoor
