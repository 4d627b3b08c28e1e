/-
 term's reader: list. heddleref02: joined. heddleref02's Reader: number. heddleref02's Reader: atom.
-/
import Derived.Test.YtibbcfeaododhaaGreatDoorG6
import Derived.Test.YtibbcfeaododhaaGreatDoorG5
import Derived.Test.YtibbcfeaododhaaGreatDoorG2
set_option linter.unusedSimpArgs false
namespace Go.Proofs.YtibbcfeaododhaaGreatDoor
open Go.RowKit Go.Sort Go.Proofs.YtibbcfeaododhaaGreatDoorW.PrintWords
/-- The reader, the result's box, the elements, and the tail in block g. -/
structure ListF (w W : World) (b : Nat) (s : ByteArray) (k d g : Nat) (l : List Tm) (lv : Value) (t : Tm) (v4 v5 : Value) : Prop where
 f : RdF w W b s k d
 ta : TmAt W g t v4 v5
 l : kTm.R tyTm W (w.heap.size + 1) (fun j => j ≠ g ∧ j ≠ b) lv l
 t4 : kU.R tyU32 W (w.heap.size + 1) (fun j => (j ≠ g ∧ j ≠ b) ∧ some j ≠ lv.ownBlock) v4 t.nums
 t5 : kTm.R tyTm W (w.heap.size + 1) (fun j => (j ≠ g ∧ j ≠ b) ∧ some j ≠ lv.ownBlock) v5 t.args
 hg : w.heap.size < g
 hb : b < w.heap.size
theorem ListF.step {w W W' : World} {b : Nat} {s : ByteArray} {k d k2 d2 g : Nat} {l : List Tm} {lv : Value} {t : Tm} {v4 v5 : Value} (h : ListF w W b s k d g l lv t v4 v5) (h2 : RdTo W b s k2 d2 W') : ListF w W' b s k2 d2 g l lv t v4 v5 :=
 ⟨h.f.step h2, h.ta.grown h2.1 (by have := h.hg; have := h.hb; omega), Kd.R_grown h.l h2.1 (fun k hk => by simp; exact hk.2), Kd.R_grown h.t4 h2.1 (fun k hk => by simp; exact hk.1.2), Kd.R_grown h.t5 h2.1 (fun k hk => by simp; exact hk.1.2), h.hg, h.hb⟩
theorem ListF.start {w W0 W : World} {b : Nat} {s : ByteArray} {k d : Nat} {l : List Tm} {lv : Value} (h : RdF w W b s k d) (hl : kTm.R tyTm W W0.heap.size (fun _ => True) lv l) (hs : w.heap.size < W.heap.size) (h0 : w.heap.size + 1 ≤ W0.heap.size) :
  ListF w (W.alloc (.cells #[.int .i64 6, .int .i64 0, .string ⟨#[]⟩, .int .u32 0, .slice none 0 0, .slice none 0 0] 27)) b s k d W.heap.size l lv tmNil vNone vNone := by
 have hlt := h.lt
 have h1 : kTm.R tyTm W W0.heap.size (fun j => j ≠ W.heap.size ∧ j ≠ b) lv l := Kd.R_mono (Kd.R_bound hl) (fun j hj => by have := hj.2.1; have := hj.2.2.1; omega)
 have hb := below_alloc (Below.refl W.heap.size W) (.cells #[.int .i64 6, .int .i64 0, .string ⟨#[]⟩, .int .u32 0, .slice none 0 0, .slice none 0 0] 27)
 have ht := TmAt.new W tmNil vNone vNone
 have ht : TmAt (W.alloc (.cells #[.int .i64 6, .int .i64 0, .string ⟨#[]⟩, .int .u32 0, .slice none 0 0, .slice none 0 0] 27)) W.heap.size tmNil vNone vNone := ht
 generalize W.alloc (.cells #[.int .i64 6, .int .i64 0, .string ⟨#[]⟩, .int .u32 0, .slice none 0 0, .slice none 0 0] 27) = W2 at hb ht ⊢
 exact ⟨h.below hb, ht, Kd.R_lower (Kd.R_below h1 hb) h0, Kd.R_nil _ _ _ _ _, Kd.R_nil _ _ _ _ _, hs, h.lt⟩
theorem tmV_inj {t : Tm} {u4 u5 w4 w5 : Value} (h : tmV t u4 u5 = tmV t w4 w5) : u4 = w4 ∧ u5 = w5 := by
 unfold tmV at h
 have h := Value.agg.inj h
 have h2 := congrArg Array.toList h
 simp only [List.cons.injEq, and_true, true_and] at h2
 exact h2
/-- The tail is read. -/
theorem ListF.tail {w W W' : World} {b : Nat} {s : ByteArray} {k d k2 d2 g : Nat} {l : List Tm} {lv : Value} {t : Tm} {v4 v5 : Value} (h : ListF w W b s k d g l lv t v4 v5) (h2 : RdTo W b s k2 d2 W') (t2 : Tm) {u4 u5 : Value} (hm : TmMade W' W.heap.size t2 (tmV t2 u4 u5)) :
  ListF w (put6 W' g t2 u4 u5) b s k2 d2 g l lv t2 u4 u5 := by
 have h1 := h.step h2
 obtain ⟨w4, w5, e, h4, h5⟩ := hm
 obtain ⟨rfl, rfl⟩ := tmV_inj e
 have hgl := h.ta.lt
 have hbl := h.f.rd.2.lt
 have hll := Kd.R_lt h.l
 have hok : ∀ j, W.heap.size ≤ j → (j ≠ g ∧ j ≠ b) ∧ some j ≠ lv.ownBlock := fun j hj => ⟨by omega, fun e => by have := hll j e.symm; omega⟩
 have hsz : w.heap.size + 1 ≤ W.heap.size := h.f.tm.lt
 have hg6 := grown_put6 W' g t2 u4 u5
 have ht6 : TmAt (put6 W' g t2 u4 u5) g t2 u4 u5 := h1.ta.put t2 u4 u5
 generalize put6 W' g t2 u4 u5 = W6 at hg6 ht6 ⊢
 have k4 := Kd.R_lower (Kd.R_mono (Kd.R_bound h4) (fun j hj => hok j hj.2.1)) hsz
 have k5 := Kd.R_lower (Kd.R_mono (Kd.R_bound h5) (fun j hj => hok j hj.2.1)) hsz
 exact ⟨h1.f.far hg6 h.hg h.hb, ht6, Kd.R_grown h1.l hg6 (fun j hj => by simp; exact hj.1), Kd.R_grown k4 hg6 (fun j hj => by simp; exact hj.1.1), Kd.R_grown k5 hg6 (fun j hj => by simp; exact hj.1.1), h.hg, h.hb⟩
/-- Behind its elements. -/
def lstEnd (F : Nat → Rd) (s : ByteArray) (q : List Tm × Nat × List Lk) : Rd :=
 if q.2.2 = [] then (if isAt s q.2.1 124 then (if (F (q.2.1 + 1)).2.2 = [] then listEnd s q.1 (F (q.2.1 + 1)).1 (blk s (F (q.2.1 + 1)).2.1) else (zTm, 0, (F (q.2.1 + 1)).2.2)) else listEnd s q.1 tmNil q.2.1) else (zTm, 0, q.2.2)
theorem listAt_eq (F : Nat → Rd) (s : ByteArray) (k : Nat) : listAt F s k = if isAt s (blk s k) 93 then (tmNil, blk s k + 1, []) else lstEnd F s (sevAt F s (s.size + 1) (blk s k) []) := by
 unfold listAt lstEnd
 generalize sevAt F s (s.size + 1) (blk s k) [] = q
 obtain ⟨l, e, r⟩ := q
 split
 ·rfl
 ·cases r with
  | nil =>
   simp only [if_true]
   split
   ·generalize F (e + 1) = q2
    obtain ⟨t, e2, r2⟩ := q2
    cases r2 with
    | nil => rfl
    | cons x y => rfl
   ·rfl
  | cons x y => rfl
theorem RdF.appd {w W W' : World} {b : Nat} {s : ByteArray} {k d : Nat} (h : RdF w W b s k d) (hb : Below (w.heap.size + 1) W W') : RdF w W' b s k d :=
 ⟨h.rd.below' hb (Nat.le_succ _) (Nat.lt_succ_of_lt h.lt), h.tm.below hb (Nat.lt_succ_self _), h.lt⟩
theorem tm_rows {W : World} {base : Nat} {ok : Nat → Prop} {l : List Tm} {A : Option Addr} {c : Nat} (h : kTm.R tyTm W base ok (.slice A l.length c) l) : ReadsRow (kTm.M W base ok) kTm.sz W A l.length l := by
 obtain ⟨A', c', he, _, hr⟩ := OwnRow.reads h.2
 injection he with h1 h2 h3
 subst h1
 exact hr.imp_ (Below.refl _ _) (fun _ _ hp => kTm.M_mono (fun k hk => hk.1) hp)
set_option maxRecDepth 100000 in
set_option maxHeartbeats 8000000 in
theorem rd_list (b g4 g5 : Nat) (s : ByteArray) (k0 d : Nat) (F : Nat → Rd) (hF : TermSays s b g4 g5 d F) (hFw : Fwd s F) (h0 : k0 ≤ s.size) (hm : s.size ≤ 4194304) (w : World) (hS : RdAt w b s k0 d) (hX : Boxes w b g4 g5) :
  Calls Tryz.prog 58 #[.pointer (some ⟨b, 0, none⟩), tv g4 g5] w (TermE w b s d (listAt F s k0)) := by
 have hG := hX.gl
 have hEF := callFunc_in Tryz.func25 (by kernel_rfl) rfl
 obtain ⟨R, hR⟩ : ∃ R, R = listAt F s k0 := ⟨_, rfl⟩
 rw [← hR]
 rw [listAt_eq] at hR
 have HR0 := Lib.hid hR
 have HX0 := Lib.hid hX
 have HTS := Lib.hid hF
 have HFW := Lib.hid hFw
 clear hR hX hF hFw
 obtain ⟨w1, hw1⟩ : ∃ W, W = w.alloc (.cells #[.int .i64 0, .int .i64 0, .string ⟨#[]⟩, .int .u32 0, .slice none 0 0, .slice none 0 0] 27) := ⟨_, rfl⟩
 have hF : RdF w w1 b s k0 d := by rw [hw1]; exact RdF.start hS
 have HG : Hid (GlobG w1 b) := Lib.hid (hG.step hF.rd.1)
 have HF := Lib.hid hF
 clear hS hG hF
 go_enter Tryz.func58, Tryz.ntmps58
 go_upto_region 1 with (fail)
 rw [← hw1]
 clear hw1
 have HT1 := Lib.hid (take_c b s k0 d 93 93 (by decide) h0 hm w1 HF.out.rd.2)
 go_wp2_with fail
 refine HT1.out.mono ?_
 rintro e w2 ⟨rfl, hT⟩
 have HF2 := Lib.hid (HF.out.step hT)
 clear hT HT1 HF HG
 cases hc : isAt s (blk s k0) 93 with
 | true =>
  rw [hc] at HF2
  have HR : Hid (R = (tmNil, blk s k0 + 1, [])) := Lib.hid (by rw [HR0.out, if_pos hc])
  have hlt := isAt_lt hc
  clear hc
  have a0 := HF2.out.rd.2.c0
  have a1 := HF2.out.rd.2.c1
  have f1 := HF2.out.rd.2.f1
  obtain ⟨r0, r1, r2, r3, r4, r5, g0, g1, g2, g3, g4, g5⟩ := HF2.out.tm
  simp only [zTm] at r0 r1 r2 r3 r4 r5
  go_wp2_with fail
  refine bodyPost_ret (resTm2 rfl _ _ w.heap.size tmNil _ _ (by rfl) (HF2.out.tm.put tmNil _ _)) rfl ?_
  rw [HR.out]
  exact HF2.out.done tmNil (TmMade.flat _ _ _ _ _ _) (show blk s k0 + 1 ≤ s.size by omega)
 | false =>
  rw [hc] at HF2
  have HR1 : Hid (R = lstEnd F s (sevAt F s (s.size + 1) (blk s k0) [])) := Lib.hid (by rw [HR0.out, if_neg (by simp [hc])])
  have hkb := blk_le s k0 h0
  have HSV := Lib.hid (rd_several b g4 g5 s (blk s k0) d F HTS.out HFW.out hkb hm w2 HF2.out.rd.2 (HX0.out.step HF2.out.rd.1))
  have HSB := Lib.hid (sev_blk HFW.out (s.size + 1) (blk s k0) [] hkb (by omega))
  clear hc HR0
  generalize sevAt F s (s.size + 1) (blk s k0) [] = q at HR1 HSV HSB
  obtain ⟨l, e0, r⟩ := q
  go_wp2_with fail
  refine HSV.out.mono ?_
  rintro e w3 ⟨lv, ev, rfl, hE, hL, hL0, k', hT, hk', hk2⟩
  have HF3 := Lib.hid (HF2.out.step hT)
  have HE := Lib.hid hE
  have HZ2 : Hid (w.heap.size + 1 ≤ w2.heap.size) := Lib.hid HF2.out.tm.lt
  clear hT HSV HF2
  cases r with
  | cons x y =>
   have HR : Hid (R = (zTm, 0, x :: y)) := Lib.hid (HR1.out.trans (by simp [lstEnd]))
   obtain ⟨eb, eu, rfl, _⟩ := hE
   obtain rfl := hL0 (by simp)
   clear hL
   have a0 := HF3.out.rd.2.c0
   have a1 := HF3.out.rd.2.c1
   have f1 := HF3.out.rd.2.f1
   obtain ⟨r0, r1, r2, r3, r4, r5, g0, g1, g2, g3, g4, g5⟩ := HF3.out.tm
   simp only [zTm] at r0 r1 r2 r3 r4 r5
   go_wp2_with fail
   refine bodyPost_ret (resTm2 rfl _ _ w.heap.size zTm _ _ (by rfl) (HF3.out.tm.put zTm _ _)) rfl ?_
   rw [HR.out]
   exact HF3.out.fail HE.out (by simp) hk'
  | nil =>
   obtain rfl : ev = .nilIface := hE
   obtain rfl := hk2 rfl
   have hL := hL rfl
   obtain ⟨A6, c6, rfl⟩ := Kd.R_slice hL
   have hsb := HSB.out rfl
   have HBK : Hid (blk s k' = k') := Lib.hid hsb.1
   have hlen : l.length ≤ s.size := by have := hsb.2.2.1; simp only [List.length_nil] at this; omega
   have HLF := Lib.hid (ListF.start HF3.out hL HF3.out.tm.lt HZ2.out)
   clear hL hL0 hk2 HSB HE hsb
   go_upto_region 7 with (fail)
   generalize w3.alloc (.cells #[.int .i64 6, .int .i64 0, .string ⟨#[]⟩, .int .u32 0, .slice none 0 0, .slice none 0 0] 27) = w4 at HLF ⊢
   generalize w3.heap.size = g at HLF ⊢
   clear HF3 HZ2
   have HT3 := Lib.hid (take_c b s k' d 124 124 (by decide) hk' hm w4 HLF.out.f.rd.2)
   rw [HBK.out] at HT3
   go_wp2_with fail
   refine HT3.out.mono ?_
   rintro e w5 ⟨rfl, hT⟩
   have HL5 := Lib.hid (HLF.out.step hT)
   clear hT HT3 HLF
   cases hc : isAt s k' 124 with
   | false =>
    rw [hc] at HL5
    have HR5 : Hid (R = listEnd s l tmNil (blk s k')) := Lib.hid (HR1.out.trans (by rw [HBK.out]; simp [lstEnd, hc]))
    clear hc HR1
    have HL6 : Hid (ListF w w5 b s k' d g l (.slice A6 l.length c6) tmNil vNone vNone) := Lib.hid HL5.out
    clear HL5
    have HTL := Lib.hid (take_c b s (k') d 93 93 (by decide) (by omega) hm _ HL6.out.f.rd.2)
    go_wp2_with fail
    refine HTL.out.mono ?_
    rintro e w8 ⟨rfl, hT⟩
    have HL8 := Lib.hid (HL6.out.step hT)
    clear hT HTL HL6
    cases hc : isAt s (blk s (k')) 93 with
    | false =>
     rw [hc] at HL8
     have HR : Hid (R = rdNo (blk s (k')) 41) := Lib.hid (HR5.out.trans (by unfold listEnd; rw [if_neg (by simp [hc])]))
     have HF8 := Lib.hid HL8.out.f
     have hk8 : blk s (k') ≤ s.size := blk_le s (k') (by omega)
     clear hc
     go_wp2_with fail
     refine (rd_text b s (blk s (k')) d _ HF8.out.rd.2).mono ?_
     rintro e w7 ⟨v, rfl, hE, hB⟩
     have HE := Lib.hid hE
     have HF7 := Lib.hid (HF8.out.below hB)
     clear hE hB
     have a0 := HF7.out.rd.2.c0
     have a1 := HF7.out.rd.2.c1
     have f1 := HF7.out.rd.2.f1
     obtain ⟨r0, r1, r2, r3, r4, r5, g0, g1, g2, g3, g4, g5⟩ := HF7.out.tm
     simp only [zTm] at r0 r1 r2 r3 r4 r5
     go_wp2_with fail
     refine bodyPost_ret (resTm2 rfl _ _ w.heap.size zTm _ _ (by rfl) (HF7.out.tm.put zTm _ _)) rfl ?_
     rw [HR.out]
     exact HF7.out.fail HE.out (by simp) hk8
    | true =>
     rw [hc] at HL8
     have HR : Hid (R = (joinT l (tmNil), blk s (k') + 1, [])) := Lib.hid (HR5.out.trans (by unfold listEnd; rw [if_pos hc]))
     have hlt := isAt_lt hc
     clear hc
     replace HR : Hid (R = (⟨7, 0, ⟨#[]⟩, 0, [], l ++ [tmNil]⟩, blk s k' + 1, [])) := Lib.hid HR.out
     have HM : Hid (kTm.M w8 (w.heap.size + 1) (fun j => (j ≠ g ∧ j ≠ b) ∧ some j ≠ (Value.slice A6 l.length c6).ownBlock) (tmNil) [.int .i64 (tmNil).kd, .int .i64 (tmNil).it, .string (tmNil).tx, .int .u32 (tmNil).cr, vNone, vNone]) := Lib.hid (kTm_mkM w8 (w.heap.size + 1) _ (tmNil) HL8.out.t4 HL8.out.t5)
     have hl88 : (l.length + 1) * 88 ≤ 140737488355328 := by omega
     have HFR : Hid (∀ j, w8.heap.size ≤ j → j ≠ g ∧ j ≠ b) := Lib.hid fun j hj => by
      have h1 := HL8.out.ta.lt
      have h2 := HL8.out.f.rd.2.lt
      omega
     have HBS : Hid (w.heap.size + 1 ≤ w8.heap.size) := Lib.hid HL8.out.f.tm.lt
     obtain ⟨t0, t1, t2, t3, t4, t5, _, _, _, _, _, _⟩ := HL8.out.ta
     go_wp2_with (at_builtin; refine Kd.R_append kTm (w0 := w8) (w.heap.size + 1) rfl (.tmp 48) (.tmp 50) 25 27 (.agg #[(.int .i64 0), (.int .i64 0), (.string ⟨#[]⟩), (.int .u32 0), (.slice none 0 0), (.slice none 0 0)]) 88 rfl Tryz.underlying25 infoTm rfl (by decide) (by omega) (.slice A6 l.length c6) l (tmNil) [.int .i64 (tmNil).kd, .int .i64 (tmNil).it, .string (tmNil).tx, .int .u32 (tmNil).cr, vNone, vNone] (fun j => j ≠ g ∧ j ≠ b) (fun j => (j ≠ g ∧ j ≠ b) ∧ some j ≠ (Value.slice A6 l.length c6).ownBlock) ?hs ?hx ?hp ?hok ?hfr ?hO ?hB ?hbs ?hl ?_; (case hs => rfl); (case hx => first | rfl | (simp [Act.eval]; done)); (case hp => exact HM.out); (case hok => exact fun _ h => h); (case hfr => exact HFR.out); (case hO => exact HL8.out.l); (case hB => exact Below.refl _ _); (case hbs => exact HBS.out); (case hl => exact hl88); intro v1 w9 ho hb hg hat; obtain ⟨L9, hL9⟩ : ∃ L, L = l ++ [tmNil] := ⟨_, rfl⟩; rw [← hL9] at ho; have HLQ := Lib.hid hL9; clear hL9; obtain ⟨A9, c9, rfl⟩ := Kd.R_slice ho; have HO9 := Lib.hid ho; have HF9 := Lib.hid (HL8.out.f.appd hb); obtain ⟨r0, r1, r2, r3, r4, r5, y0, y1, y2, y3, y4, y5⟩ := HF9.out.tm; simp only [zTm] at r0 r1 r2 r3 r4 r5; clear ho hb hg hat)
     refine bodyPost_ret (resTm2 rfl _ _ w.heap.size ⟨7, 0, ⟨#[]⟩, 0, [], L9⟩ _ _ (by rfl) (HF9.out.tm.put ⟨7, 0, ⟨#[]⟩, 0, [], L9⟩ _ _)) rfl ?_
     rw [HR.out, ← HLQ.out]
     exact HF9.out.done ⟨7, 0, ⟨#[]⟩, 0, [], L9⟩ ⟨_, _, rfl, Kd.R_nil _ _ _ _ _, Kd.R_mono HO9.out (fun _ _ => trivial)⟩ (show _ + 1 ≤ s.size by omega)
   | true =>
    have hlt := isAt_lt hc
    have HL5 : Hid (ListF w w5 b s (k' + 1) d g l (.slice A6 l.length c6) tmNil vNone vNone) := Lib.hid (by have h := HL5.out; rw [hc] at h; exact h)
    have HC := Lib.hid (HTS.out (k' + 1) w5 (by omega) HL5.out.f.rd.2 (HX0.out.step HL5.out.f.rd.1))
    have HQF := Lib.hid (HFW.out (k' + 1))
    have HR5 : Hid (R = if (F (k' + 1)).2.2 = [] then listEnd s l (F (k' + 1)).1 (blk s (F (k' + 1)).2.1) else (zTm, 0, (F (k' + 1)).2.2)) := Lib.hid (HR1.out.trans (by simp [lstEnd, hc]))
    clear hc HR1
    generalize hq : F (k' + 1) = q at HC HQF HR5
    clear hq
    obtain ⟨t, e2, r2⟩ := q
    go_wp2_with fail
    refine HC.out.mono ?_
    rintro e w6 ⟨v, ev, rfl, hM, hE, k2, hT, hk2, hk3⟩
    have HE := Lib.hid hE
    have hM2 := hM
    obtain ⟨v4, v5, rfl, hM4, hM5⟩ := hM2
    obtain ⟨A4, c4, rfl⟩ := Kd.R_slice hM4
    obtain ⟨A5, c5, rfl⟩ := Kd.R_slice hM5
    have HL6 := Lib.hid (HL5.out.tail hT t hM)
    have HS6 := Lib.hid (HL5.out.step hT)
    have HE6 := Lib.hid (hE.wrote6 (HS6.out.ta.c0) t (.slice A4 t.nums.length c4) (.slice A5 t.args.length c5))
    obtain ⟨t0, t1, t2, t3, t4, t5, y0, y1, y2, y3, y4, y5⟩ := HS6.out.ta
    simp only [tmNil] at t0 t1 t2 t3 t4 t5
    clear hM hM4 hM5 hT HC HL5
    unfold tmV
    go_upto_region 9 with (fail)
    obtain ⟨w7, hw7⟩ : ∃ W, W = put6 w6 g t (.slice A4 t.nums.length c4) (.slice A5 t.args.length c5) := ⟨_, rfl⟩
    have HL7 : Hid (ListF w w7 b s k2 d g l (.slice A6 l.length c6) t (.slice A4 t.nums.length c4) (.slice A5 t.args.length c5)) := Lib.hid (by rw [hw7]; exact HL6.out)
    have HE7 : Hid (ErrIs w7 r2 ev) := Lib.hid (by rw [hw7]; exact HE6.out)
    unfold put6 at hw7
    rw [← hw7]
    clear hw7 HL6 HE6 HS6 t0 t1 t2 t3 t4 t5 y0 y1 y2 y3 y4 y5
    cases r2 with
    | cons x y =>
     have HR : Hid (R = (zTm, 0, x :: y)) := Lib.hid (HR5.out.trans (by simp))
     obtain ⟨eb, eu, rfl, _⟩ := hE
     have HF7 := Lib.hid HL7.out.f
     have a0 := HF7.out.rd.2.c0
     have a1 := HF7.out.rd.2.c1
     have f1 := HF7.out.rd.2.f1
     obtain ⟨r0, r1, r2, r3, r4, r5, g0, g1, g2, g3, g4, g5⟩ := HF7.out.tm
     simp only [zTm] at r0 r1 r2 r3 r4 r5
     go_wp2_with fail
     refine bodyPost_ret (resTm2 rfl _ _ w.heap.size zTm _ _ (by rfl) (HF7.out.tm.put zTm _ _)) rfl ?_
     rw [HR.out]
     exact HF7.out.fail HE7.out (by simp) hk2
    | nil =>
     obtain rfl : ev = .nilIface := hE
     obtain rfl := hk3 rfl
     have HR6 : Hid (R = listEnd s l t (blk s k2)) := Lib.hid (HR5.out.trans (by simp))
     have hta : t.args.length ≤ s.size := by have := HQF.out t k2 rfl; omega
     clear hk3 HE HE7 HQF HR5
     have HTL := Lib.hid (take_c b s (k2) d 93 93 (by decide) (by omega) hm _ HL7.out.f.rd.2)
     go_wp2_with fail
     refine HTL.out.mono ?_
     rintro e w8 ⟨rfl, hT⟩
     have HL8 := Lib.hid (HL7.out.step hT)
     clear hT HTL HL7
     cases hc : isAt s (blk s (k2)) 93 with
     | false =>
      rw [hc] at HL8
      have HR : Hid (R = rdNo (blk s (k2)) 41) := Lib.hid (HR6.out.trans (by unfold listEnd; rw [if_neg (by simp [hc])]))
      have HF8 := Lib.hid HL8.out.f
      have hk8 : blk s (k2) ≤ s.size := blk_le s (k2) (by omega)
      clear hc
      go_wp2_with fail
      refine (rd_text b s (blk s (k2)) d _ HF8.out.rd.2).mono ?_
      rintro e w7 ⟨v, rfl, hE, hB⟩
      have HE := Lib.hid hE
      have HF7 := Lib.hid (HF8.out.below hB)
      clear hE hB
      have a0 := HF7.out.rd.2.c0
      have a1 := HF7.out.rd.2.c1
      have f1 := HF7.out.rd.2.f1
      obtain ⟨r0, r1, r2, r3, r4, r5, g0, g1, g2, g3, g4, g5⟩ := HF7.out.tm
      simp only [zTm] at r0 r1 r2 r3 r4 r5
      go_wp2_with fail
      refine bodyPost_ret (resTm2 rfl _ _ w.heap.size zTm _ _ (by rfl) (HF7.out.tm.put zTm _ _)) rfl ?_
      rw [HR.out]
      exact HF7.out.fail HE.out (by simp) hk8
     | true =>
      rw [hc] at HL8
      have HR : Hid (R = (joinT l (t), blk s (k2) + 1, [])) := Lib.hid (HR6.out.trans (by unfold listEnd; rw [if_pos hc]))
      have hlt := isAt_lt hc
      clear hc
      by_cases hk7 : t.kd = 7
      ·have dk : (t.kd == 7) = true := beq_iff_eq.2 hk7
       replace HR : Hid (R = (⟨7, 0, ⟨#[]⟩, 0, [], l ++ t.args⟩, blk s k2 + 1, [])) := Lib.hid (HR.out.trans (by unfold joinT; rw [if_pos hk7]))
       clear hk7
       have hl88 : (l.length + (t).args.length) * 88 ≤ 140737488355328 := by omega
       have HFR : Hid (∀ j, w8.heap.size ≤ j → j ≠ g ∧ j ≠ b) := Lib.hid fun j hj => by
        have h1 := HL8.out.ta.lt
        have h2 := HL8.out.f.rd.2.lt
        omega
       have HBS : Hid (w.heap.size + 1 ≤ w8.heap.size) := Lib.hid HL8.out.f.tm.lt
       obtain ⟨t0, t1, t2, t3, t4, t5, _, _, _, _, _, _⟩ := HL8.out.ta
       go_wp2_with (at_builtin; refine Kd.R_append_rows kTm (Rr := kTm.M w8 (w.heap.size + 1) (fun j => (j ≠ g ∧ j ≠ b) ∧ some j ≠ (Value.slice A6 l.length c6).ownBlock)) (w0 := w8) (w.heap.size + 1) rfl (.tmp 43) (.tmp 45) 25 27 (.agg #[(.int .i64 0), (.int .i64 0), (.string ⟨#[]⟩), (.int .u32 0), (.slice none 0 0), (.slice none 0 0)]) 88 rfl Tryz.underlying25 infoTm rfl (by decide) (by omega) (.slice A6 l.length c6) l (t).args A5 (t).args.length c5 (fun j => j ≠ g ∧ j ≠ b) (fun j => (j ≠ g ∧ j ≠ b) ∧ some j ≠ (Value.slice A6 l.length c6).ownBlock) ?hs ?hx ?hO ?hR ?hKM ?hok ?hfr ?hB ?hbs ?hl ?_; (case hs => rfl); (case hx => rfl); (case hO => exact HL8.out.l); (case hR => exact tm_rows HL8.out.t5); (case hKM => exact fun _ _ h => h); (case hok => exact fun _ h => h); (case hfr => exact HFR.out); (case hB => exact Below.refl _ _); (case hbs => exact HBS.out); (case hl => exact hl88); intro v1 w9 ho hb hg hat; obtain ⟨L9, hL9⟩ : ∃ L, L = l ++ (t).args := ⟨_, rfl⟩; rw [← hL9] at ho; have HLQ := Lib.hid hL9; clear hL9; obtain ⟨A9, c9, rfl⟩ := Kd.R_slice ho; have HO9 := Lib.hid ho; have HF9 := Lib.hid (HL8.out.f.appd hb); obtain ⟨r0, r1, r2, r3, r4, r5, y0, y1, y2, y3, y4, y5⟩ := HF9.out.tm; simp only [zTm] at r0 r1 r2 r3 r4 r5; clear ho hb hg hat)
       refine bodyPost_ret (resTm2 rfl _ _ w.heap.size ⟨7, 0, ⟨#[]⟩, 0, [], L9⟩ _ _ (by rfl) (HF9.out.tm.put ⟨7, 0, ⟨#[]⟩, 0, [], L9⟩ _ _)) rfl ?_
       rw [HR.out, ← HLQ.out]
       exact HF9.out.done ⟨7, 0, ⟨#[]⟩, 0, [], L9⟩ ⟨_, _, rfl, Kd.R_nil _ _ _ _ _, Kd.R_mono HO9.out (fun _ _ => trivial)⟩ (show _ + 1 ≤ s.size by omega)
      ·have dk : (t.kd == 7) = false := beq_eq_false_iff_ne.2 hk7
       replace HR : Hid (R = (⟨7, 0, ⟨#[]⟩, 0, [], l ++ [t]⟩, blk s k2 + 1, [])) := Lib.hid (HR.out.trans (by unfold joinT; rw [if_neg hk7]))
       clear hk7
       have HM : Hid (kTm.M w8 (w.heap.size + 1) (fun j => (j ≠ g ∧ j ≠ b) ∧ some j ≠ (Value.slice A6 l.length c6).ownBlock) (t) [.int .i64 (t).kd, .int .i64 (t).it, .string (t).tx, .int .u32 (t).cr, (.slice A4 t.nums.length c4), (.slice A5 t.args.length c5)]) := Lib.hid (kTm_mkM w8 (w.heap.size + 1) _ (t) HL8.out.t4 HL8.out.t5)
       have hl88 : (l.length + 1) * 88 ≤ 140737488355328 := by omega
       have HFR : Hid (∀ j, w8.heap.size ≤ j → j ≠ g ∧ j ≠ b) := Lib.hid fun j hj => by
        have h1 := HL8.out.ta.lt
        have h2 := HL8.out.f.rd.2.lt
        omega
       have HBS : Hid (w.heap.size + 1 ≤ w8.heap.size) := Lib.hid HL8.out.f.tm.lt
       obtain ⟨t0, t1, t2, t3, t4, t5, _, _, _, _, _, _⟩ := HL8.out.ta
       go_wp2_with (at_builtin; refine Kd.R_append kTm (w0 := w8) (w.heap.size + 1) rfl (.tmp 48) (.tmp 50) 25 27 (.agg #[(.int .i64 0), (.int .i64 0), (.string ⟨#[]⟩), (.int .u32 0), (.slice none 0 0), (.slice none 0 0)]) 88 rfl Tryz.underlying25 infoTm rfl (by decide) (by omega) (.slice A6 l.length c6) l (t) [.int .i64 (t).kd, .int .i64 (t).it, .string (t).tx, .int .u32 (t).cr, (.slice A4 t.nums.length c4), (.slice A5 t.args.length c5)] (fun j => j ≠ g ∧ j ≠ b) (fun j => (j ≠ g ∧ j ≠ b) ∧ some j ≠ (Value.slice A6 l.length c6).ownBlock) ?hs ?hx ?hp ?hok ?hfr ?hO ?hB ?hbs ?hl ?_; (case hs => rfl); (case hx => first | rfl | (simp [Act.eval]; done)); (case hp => exact HM.out); (case hok => exact fun _ h => h); (case hfr => exact HFR.out); (case hO => exact HL8.out.l); (case hB => exact Below.refl _ _); (case hbs => exact HBS.out); (case hl => exact hl88); intro v1 w9 ho hb hg hat; obtain ⟨L9, hL9⟩ : ∃ L, L = l ++ [t] := ⟨_, rfl⟩; rw [← hL9] at ho; have HLQ := Lib.hid hL9; clear hL9; obtain ⟨A9, c9, rfl⟩ := Kd.R_slice ho; have HO9 := Lib.hid ho; have HF9 := Lib.hid (HL8.out.f.appd hb); obtain ⟨r0, r1, r2, r3, r4, r5, y0, y1, y2, y3, y4, y5⟩ := HF9.out.tm; simp only [zTm] at r0 r1 r2 r3 r4 r5; clear ho hb hg hat)
       refine bodyPost_ret (resTm2 rfl _ _ w.heap.size ⟨7, 0, ⟨#[]⟩, 0, [], L9⟩ _ _ (by rfl) (HF9.out.tm.put ⟨7, 0, ⟨#[]⟩, 0, [], L9⟩ _ _)) rfl ?_
       rw [HR.out, ← HLQ.out]
       exact HF9.out.done ⟨7, 0, ⟨#[]⟩, 0, [], L9⟩ ⟨_, _, rfl, Kd.R_nil _ _ _ _ _, Kd.R_mono HO9.out (fun _ _ => trivial)⟩ (show _ + 1 ≤ s.size by omega)
end Go.Proofs.YtibbcfeaododhaaGreatDoor
set_option linter.unusedSimpArgs false
set_option linter.unusedVariables false
namespace Go.Proofs.YtibbcfeaododhaaGreatDoor
open Go.RowKit Go.Sort Go.Proofs.YtibbcfeaododhaaGreatDoorW.PrintWords
section
variable {P : Program} {ops : Array Oper} {o : Oper} {a : Act} {Q : Exit → Act → World → Prop} {Kc : Act → World → Prop} {α : Type} {E : Prop}
/-- A row appended behind a row, as a step of a region that draws its order. -/
theorem rows_held (d : Kd α) {Rr : α → List Value → Prop} {w0 W : World} (base : Nat) (hgd : o.guard = none) (s x : Operand) (t e : TypeId) (z : Value) (bytes : Nat)
  (ho : o.op = .call { callee := .builtin .append, args := #[s, x], argTypes := #[t, t] })
  (ht : P.underlying t = some (.slice e)) (hinfo : (P.info? e).map (fun i => (i.zero, i.size, i.bytes)) = some (some z, d.sz, bytes)) (hz : z.cells.size = d.sz) (hs0 : 0 < d.sz) (hb0 : 0 < bytes)
  (v : Value) (xs ys : List α) (A : Option Addr) (m c : Nat) (ok okp : Nat → Prop) (hs : a.eval s = v) (hx : a.eval x = .slice A m c)
  (HO : d.R e W base ok v xs) (HR : ReadsRow Rr d.sz W A m ys) (hKM : ∀ x cs, Rr x cs → d.M W base okp x cs) (hokp : ∀ k, okp k → ok k ∧ some k ≠ v.ownBlock) (hfresh : ∀ k, W.heap.size ≤ k → ok k)
  (HB : Below base w0 W) (hbase : base ≤ W.heap.size) (hl : (xs.length + m) * bytes ≤ 140737488355328)
  (h : ∀ v1 w1, d.R e w1 base ok v1 (xs ++ ys) → Below base w0 w1 → W.grownBy w1 v.ownBlock → (v1.ownBlock = v.ownBlock ∨ ∃ b, v1.ownBlock = some b ∧ W.heap.size ≤ b) → Kc (a.put o.dst v1) w1) :
  if Region.wanted o (yielded ops a.tmps) = true then Oper.wp P o a W Kc Q else E := by
 have hw : Region.wanted o (yielded ops a.tmps) = true := by simp [Region.wanted, hgd]
 have h1 := Kd.R_append_rows_step d (Q := Q) base hw s x t e z bytes ho ht hinfo hz hs0 hb0 v xs ys A m c ok okp hs hx HO HR hKM hokp hfresh HB hbase hl h
 rw [if_pos hw] at h1 ⊢
 exact h1
theorem elem_held (d : Kd α) {w0 W : World} (base : Nat) (hgd : o.guard = none) (s x : Operand) (t e : TypeId) (z : Value) (bytes : Nat)
  (ho : o.op = .call { callee := .builtin .append, args := #[s, x], argTypes := #[t, t] })
  (ht : P.underlying t = some (.slice e)) (hinfo : (P.info? e).map (fun i => (i.zero, i.size, i.bytes)) = some (some z, d.sz, bytes)) (hz : z.cells.size = d.sz) (hs0 : 0 < d.sz) (hb0 : 0 < bytes)
  (v : Value) (xs : List α) (p : α) (cs : List Value) (ok okp : Nat → Prop) (hs : a.eval s = v) (hx : a.eval x = .slice (some ⟨W.heap.size, 0, none⟩) 1 1) (hp : d.M W base okp p cs) (hokp : ∀ k, okp k → ok k ∧ some k ≠ v.ownBlock) (hfresh : ∀ k, W.heap.size ≤ k → ok k)
  (HO : d.R e W base ok v xs) (HB : Below base w0 W) (hbase : base ≤ W.heap.size) (hl : (xs.length + 1) * bytes ≤ 140737488355328)
  (h : ∀ v1 w1, d.R e w1 base ok v1 (xs ++ [p]) → Below base w0 w1 → W.grownBy w1 v.ownBlock → (v1.ownBlock = v.ownBlock ∨ ∃ b, v1.ownBlock = some b ∧ W.heap.size ≤ b) → Kc (a.put o.dst v1) w1) :
  if Region.wanted o (yielded ops a.tmps) = true then Oper.wp P o a (W.alloc (.cells cs.toArray e)) Kc Q else E := by
 have hw : Region.wanted o (yielded ops a.tmps) = true := by simp [Region.wanted, hgd]
 have h1 := Kd.R_append_step d (Q := Q) base hw s x t e z bytes ho ht hinfo hz hs0 hb0 v xs p cs ok okp hs hx hp hokp hfresh HO HB hbase hl h
 rw [if_pos hw] at h1 ⊢
 exact h1
end
def JoinE (w : World) (base : Nat) (z : Tm) (e : Ending) (w' : World) : Prop := ∃ v, e = .returned v ∧ TmMade w' base z v ∧ Below w.heap.size w w'
theorem R_empty {W : World} {base : Nat} {ok : Nat → Prop} (h0 : base ≤ W.heap.size) (hok : ok W.heap.size) : kTm.R tyTm (W.alloc (.cells #[] tyTm)) base ok (.slice (some ⟨W.heap.size, 0, none⟩) 0 0) [] := by
 refine ⟨fun k hk => ?_, [], ?_, ?_⟩
 ·have : W.heap.size = k := by simpa [Value.ownBlock] using hk
  subst this
  exact hok
 ·have h2 := World.ownsRow_lit (base := base) (e := tyTm) (size := kTm.sz) W #[] 0 h0 (by unfold maxLen; omega) (by simp)
  simpa using h2
 ·exact ⟨by simp, fun j p hj => by simp at hj⟩
/-- The two boxes, the new row v that reads m, and what the tail leads to. -/
structure JoinF (w W : World) (base : Nat) (t : Tm) (v4 v5 : Value) (v : Value) (m : List Tm) : Prop where
 b : Below w.heap.size w W
 r : kTm.R tyTm W base (fun k => k ≠ w.heap.size + 1) v m
 own : ∃ g, v.ownBlock = some g ∧ w.heap.size + 2 ≤ g
 ta : TmAt W w.heap.size t v4 v5
 ua : TmAt W (w.heap.size + 1) zTm vNone vNone
 h5 : kTm.R tyTm W base (fun k => k < w.heap.size) v5 t.args
theorem JoinF.ok {w W : World} {base : Nat} {t : Tm} {v4 v5 v : Value} {m : List Tm} (h : JoinF w W base t v4 v5 v m) : ∀ k, k < w.heap.size → k ≠ w.heap.size + 1 ∧ some k ≠ v.ownBlock := fun k hk => ⟨by omega, fun e => by
 obtain ⟨g, hg, hl⟩ := h.own
 rw [hg] at e
 injection e with e
 omega⟩
theorem JoinF.base {w W : World} {base : Nat} {t : Tm} {v4 v5 v : Value} {m : List Tm} (h : JoinF w W base t v4 v5 v m) (hb : base ≤ w.heap.size) : base ≤ W.heap.size := Nat.le_trans hb h.b.size
theorem JoinF.fr {w W : World} {base : Nat} {t : Tm} {v4 v5 v : Value} {m : List Tm} (h : JoinF w W base t v4 v5 v m) : ∀ k, W.heap.size ≤ k → k ≠ w.heap.size + 1 := fun k hk => by have := h.ua.lt; omega
theorem JoinF.done {w W : World} {base : Nat} {t : Tm} {v4 v5 v : Value} {m : List Tm} (h : JoinF w W base t v4 v5 v m) (m' : List Tm) (hm : m' = m := by rfl) : JoinE w base ⟨7, 0, ⟨#[]⟩, 0, [], m⟩ (.returned (tmV ⟨7, 0, ⟨#[]⟩, 0, [], m⟩ vNone v)) (put6 W (w.heap.size + 1) ⟨7, 0, ⟨#[]⟩, 0, [], m⟩ vNone v) := by
 have hg := grown_put6 W (w.heap.size + 1) ⟨7, 0, ⟨#[]⟩, 0, [], m⟩ vNone v
 exact ⟨_, rfl, ⟨_, _, rfl, Kd.R_nil _ _ _ _ _, Kd.R_mono (Kd.R_grown h.r hg (fun k hk => by simpa using hk)) (fun _ _ => trivial)⟩, h.b.trans (below_of_grown hg (by omega) h.b.size)⟩
theorem six_far {W : World} {b g o : Nat} (h : b ≠ g) (u0 u1 u2 u3 u4 u5 : Value) : ((((((W.setCell ⟨g, 0, none⟩ u0).setCell ⟨g, 1, none⟩ u1).setCell ⟨g, 2, none⟩ u2).setCell ⟨g, 3, none⟩ u3).setCell ⟨g, 4, none⟩ u4).setCell ⟨g, 5, none⟩ u5).cell? ⟨b, o, none⟩ = W.cell? ⟨b, o, none⟩ := by
 simp [World.cell?_setCell_other, h]
theorem TmAt.cells {W : World} {b : Nat} {t : Tm} {v4 v5 : Value} (h : TmAt W b t v4 v5) : TmCells W b 0 t v4 v5 := ⟨h.c0, h.c1, h.c2, h.c3, h.c4, h.c5⟩
theorem TmCells.six {W : World} {b : Nat} {t : Tm} {v4 v5 : Value} (h : TmCells W b 0 t v4 v5) : W.cell? ⟨b, 0, none⟩ = some (.int .i64 t.kd) ∧ W.cell? ⟨b, 1, none⟩ = some (.int .i64 t.it) ∧ W.cell? ⟨b, 2, none⟩ = some (.string t.tx) ∧ W.cell? ⟨b, 3, none⟩ = some (.int .u32 t.cr) ∧ W.cell? ⟨b, 4, none⟩ = some v4 ∧ W.cell? ⟨b, 5, none⟩ = some v5 := ⟨h.c0, h.c1, h.c2, h.c3, h.c4, h.c5⟩
theorem six_six {W : World} {b g : Nat} {t : Tm} {v4 v5 : Value} (h : b ≠ g) (u0 u1 u2 u3 u4 u5 : Value) (hc : TmCells W b 0 t v4 v5) :
  ((((((W.setCell ⟨g, 0, none⟩ u0).setCell ⟨g, 1, none⟩ u1).setCell ⟨g, 2, none⟩ u2).setCell ⟨g, 3, none⟩ u3).setCell ⟨g, 4, none⟩ u4).setCell ⟨g, 5, none⟩ u5).cell? ⟨b, 0, none⟩ = some (.int .i64 t.kd) ∧
  ((((((W.setCell ⟨g, 0, none⟩ u0).setCell ⟨g, 1, none⟩ u1).setCell ⟨g, 2, none⟩ u2).setCell ⟨g, 3, none⟩ u3).setCell ⟨g, 4, none⟩ u4).setCell ⟨g, 5, none⟩ u5).cell? ⟨b, 1, none⟩ = some (.int .i64 t.it) ∧
  ((((((W.setCell ⟨g, 0, none⟩ u0).setCell ⟨g, 1, none⟩ u1).setCell ⟨g, 2, none⟩ u2).setCell ⟨g, 3, none⟩ u3).setCell ⟨g, 4, none⟩ u4).setCell ⟨g, 5, none⟩ u5).cell? ⟨b, 2, none⟩ = some (.string t.tx) ∧
  ((((((W.setCell ⟨g, 0, none⟩ u0).setCell ⟨g, 1, none⟩ u1).setCell ⟨g, 2, none⟩ u2).setCell ⟨g, 3, none⟩ u3).setCell ⟨g, 4, none⟩ u4).setCell ⟨g, 5, none⟩ u5).cell? ⟨b, 3, none⟩ = some (.int .u32 t.cr) ∧
  ((((((W.setCell ⟨g, 0, none⟩ u0).setCell ⟨g, 1, none⟩ u1).setCell ⟨g, 2, none⟩ u2).setCell ⟨g, 3, none⟩ u3).setCell ⟨g, 4, none⟩ u4).setCell ⟨g, 5, none⟩ u5).cell? ⟨b, 4, none⟩ = some v4 ∧
  ((((((W.setCell ⟨g, 0, none⟩ u0).setCell ⟨g, 1, none⟩ u1).setCell ⟨g, 2, none⟩ u2).setCell ⟨g, 3, none⟩ u3).setCell ⟨g, 4, none⟩ u4).setCell ⟨g, 5, none⟩ u5).cell? ⟨b, 5, none⟩ = some v5 :=
 ⟨(six_far h _ _ _ _ _ _).trans hc.c0, (six_far h _ _ _ _ _ _).trans hc.c1, (six_far h _ _ _ _ _ _).trans hc.c2, (six_far h _ _ _ _ _ _).trans hc.c3, (six_far h _ _ _ _ _ _).trans hc.c4, (six_far h _ _ _ _ _ _).trans hc.c5⟩
theorem JoinF.next {w W W' : World} {base : Nat} {t : Tm} {v4 v5 v u : Value} {m n : List Tm} (h : JoinF w W base t v4 v5 v m) (hr : kTm.R tyTm W' base (fun k => k ≠ w.heap.size + 1) u n) (hg : W.grownBy W' v.ownBlock) (hat : u.ownBlock = v.ownBlock ∨ ∃ b, u.ownBlock = some b ∧ W.heap.size ≤ b) : JoinF w W' base t v4 v5 u n := by
 obtain ⟨g, hv, hl⟩ := h.own
 rw [hv] at hg hat
 have hlt := h.ua.lt
 refine ⟨h.b.trans (below_of_grown hg (by omega) h.b.size), hr, ?_, h.ta.grownR hg (by omega), h.ua.grownR hg (by omega), Kd.R_grown h.h5 hg (fun k hk e => by injection e with e; omega)⟩
 rcases hat with e | ⟨b, e, hb⟩
 ·exact ⟨g, e, hl⟩
 ·exact ⟨b, e, by omega⟩
theorem join_next {w W2 W W' : World} {base : Nat} {t : Tm} {v4 v5 u : Value} {n : List Tm} (hb : Below w.heap.size w W) (hr : kTm.R tyTm W' base (fun k => k ≠ w.heap.size + 1) u n) (hg : W.grownBy W' (Value.slice (some ⟨W2.heap.size, 0, none⟩) 0 0).ownBlock) (hat : u.ownBlock = (Value.slice (some ⟨W2.heap.size, 0, none⟩) 0 0).ownBlock ∨ ∃ b, u.ownBlock = some b ∧ W.heap.size ≤ b)
  (h2 : w.heap.size + 2 ≤ W2.heap.size) (hta : TmAt W w.heap.size t v4 v5) (hua : TmAt W (w.heap.size + 1) zTm vNone vNone) (h5 : kTm.R tyTm W base (fun k => k < w.heap.size) v5 t.args) : JoinF w W' base t v4 v5 u n := by
 have hv : (Value.slice (some ⟨W2.heap.size, 0, none⟩) 0 0).ownBlock = some W2.heap.size := by simp [Value.ownBlock]
 rw [hv] at hg hat
 have hlt := hua.lt
 refine ⟨hb.trans (below_of_grown hg (by omega) hb.size), hr, ?_, hta.grownR hg (by omega), hua.grownR hg (by omega), Kd.R_grown h5 hg (fun k hk e => by injection e with e; omega)⟩
 rcases hat with e | ⟨b, e, hb⟩
 ·exact ⟨_, e, h2⟩
 ·exact ⟨b, e, by omega⟩
theorem R_one {W : World} {base : Nat} {okp ok : Nat → Prop} {t : Tm} {cs : List Value} (hp : kTm.M W base okp t cs) (hok : ∀ k, okp k → ok k) (h1 : ok W.heap.size) (h0 : base ≤ W.heap.size) : kTm.R tyTm (W.alloc (.cells cs.toArray tyTm)) base ok (.slice (some ⟨W.heap.size, 0, none⟩) 1 1) [t] := by
 have hl : cs.length = kTm.sz := kTm.K_len (kTm.K_of_M hp)
 have hrep : Reps (kTm.M W base okp) kTm.sz [t] cs := ⟨by simp [hl], fun j p hj => by
  match j, hj with
  | 0, hj =>
   simp only [List.getElem?_cons_zero, Option.some.injEq] at hj
   subst hj
   rw [Nat.zero_mul, List.drop_zero, List.take_of_length_le (by omega)]
   exact hp⟩
 refine ⟨fun k hk => ?_, cs, ?_, ?_⟩
 ·have : W.heap.size = k := by simpa [Value.ownBlock] using hk
  subst this
  exact h1
 ·have h2 := World.ownsRow_lit (base := base) (e := tyTm) (size := kTm.sz) W cs.toArray 1 h0 (by unfold maxLen; omega) (by simp [hl])
  simpa using h2
 ·refine hrep.imp_ (fun p c hp => kTm.M_mono (fun k hk => ⟨hok k hk.1, fun he => ?_⟩) (Kd.M_below (kTm.M_bound hp) (below_alloc (Below.refl _ _) _)))
  have h3 : k = W.heap.size := by simpa [Value.ownBlock] using he
  have := hk.2.2.1
  omega
theorem tm_rows' {W : World} {base : Nat} {ok : Nat → Prop} {l : List Tm} {A : Option Addr} {c : Nat} (h : kTm.R tyTm W base ok (.slice A l.length c) l) : ReadsRow (kTm.M W base (fun k => ok k ∧ some k ≠ (Value.slice A l.length c).ownBlock)) kTm.sz W A l.length l := by
 obtain ⟨A', c', he, _, hr⟩ := OwnRow.reads h.2
 injection he with h1 h2 h3
 subst h1
 exact hr.imp_ (Below.refl _ _) (fun _ _ hp => kTm.M_mono (fun k hk => hk) hp)
/-- As JoinF; besides, a row of the tail alone, in block gx. -/
structure JoinG (w W : World) (base : Nat) (t : Tm) (v4 v5 : Value) (gx : Nat) (v : Value) (m : List Tm) : Prop where
 b : Below w.heap.size w W
 r : kTm.R tyTm W base (fun k => k ≠ w.heap.size + 1 ∧ k ≠ gx) v m
 own : ∃ g, v.ownBlock = some g ∧ w.heap.size + 2 ≤ g ∧ g ≠ gx
 ta : TmAt W w.heap.size t v4 v5
 ua : TmAt W (w.heap.size + 1) zTm vNone vNone
 hx : w.heap.size + 2 ≤ gx
 x : kTm.R tyTm W base (fun k => k < w.heap.size ∨ k = gx) (.slice (some ⟨gx, 0, none⟩) 1 1) [t]
theorem JoinG.ok {w W : World} {base gx : Nat} {t : Tm} {v4 v5 v : Value} {m : List Tm} (h : JoinG w W base t v4 v5 gx v m) : ∀ k, k < w.heap.size → (k ≠ w.heap.size + 1 ∧ k ≠ gx) ∧ some k ≠ v.ownBlock := fun k hk => ⟨by have := h.hx; omega, fun e => by
 obtain ⟨g, hg, hl, _⟩ := h.own
 rw [hg] at e
 injection e with e
 omega⟩
theorem JoinG.fr {w W : World} {base gx : Nat} {t : Tm} {v4 v5 v : Value} {m : List Tm} (h : JoinG w W base t v4 v5 gx v m) : ∀ k, W.heap.size ≤ k → k ≠ w.heap.size + 1 ∧ k ≠ gx := fun k hk => by
 have h1 := h.ua.lt
 have h2 := Kd.R_lt h.x gx (by simp [Value.ownBlock])
 omega
theorem JoinG.base {w W : World} {base gx : Nat} {t : Tm} {v4 v5 v : Value} {m : List Tm} (h : JoinG w W base t v4 v5 gx v m) (hb : base ≤ w.heap.size) : base ≤ W.heap.size := Nat.le_trans hb h.b.size
theorem JoinG.rows {w W : World} {base gx : Nat} {t : Tm} {v4 v5 v : Value} {m : List Tm} (h : JoinG w W base t v4 v5 gx v m) : ReadsRow (kTm.M W base (fun k => k < w.heap.size)) kTm.sz W (some ⟨gx, 0, none⟩) 1 [t] :=
 (tm_rows' h.x).imp_ (Below.refl _ _) (fun _ _ hp => kTm.M_mono (fun k hk => by
  obtain ⟨h1 | h1, h2⟩ := hk
  ·exact h1
  ·exact absurd (by simp [Value.ownBlock, h1]) h2) hp)
theorem JoinG.next {w W W' : World} {base gx : Nat} {t : Tm} {v4 v5 v u : Value} {m n : List Tm} (h : JoinG w W base t v4 v5 gx v m) (hr : kTm.R tyTm W' base (fun k => k ≠ w.heap.size + 1 ∧ k ≠ gx) u n) (hg : W.grownBy W' v.ownBlock) (hat : u.ownBlock = v.ownBlock ∨ ∃ b, u.ownBlock = some b ∧ W.heap.size ≤ b) : JoinG w W' base t v4 v5 gx u n := by
 obtain ⟨g, hv, hl, hn⟩ := h.own
 rw [hv] at hg hat
 have hlt := h.ua.lt
 have hgx := Kd.R_lt h.x gx (by simp [Value.ownBlock])
 refine ⟨h.b.trans (below_of_grown hg (by omega) h.b.size), hr, ?_, h.ta.grownR hg (by omega), h.ua.grownR hg (by omega), h.hx, Kd.R_grown h.x hg (fun k hk e => by injection e with e; omega)⟩
 rcases hat with e | ⟨b, e, hb⟩
 ·exact ⟨g, e, hl, hn⟩
 ·exact ⟨b, e, by omega, by omega⟩
theorem JoinF.one {w W : World} {base c4 c5 : Nat} {A4 A5 : Option Addr} {t : Tm} {v : Value} {m : List Tm} (h : JoinF w W base t (.slice A4 t.nums.length c4) (.slice A5 t.args.length c5) v m) (hbase : base ≤ w.heap.size)
  (hm : kTm.M W base (fun k => k < w.heap.size) t [.int .i64 t.kd, .int .i64 t.it, .string t.tx, .int .u32 t.cr, .slice A4 t.nums.length c4, .slice A5 t.args.length c5]) :
  JoinG w (W.alloc (.cells #[.int .i64 t.kd, .int .i64 t.it, .string t.tx, .int .u32 t.cr, .slice A4 t.nums.length c4, .slice A5 t.args.length c5] tyTm)) base t (.slice A4 t.nums.length c4) (.slice A5 t.args.length c5) W.heap.size v m := by
 have hb := below_alloc (Below.refl W.heap.size W) (.cells #[.int .i64 t.kd, .int .i64 t.it, .string t.tx, .int .u32 t.cr, .slice A4 t.nums.length c4, .slice A5 t.args.length c5] tyTm)
 have hlt := h.ua.lt
 have hx := R_one hm (ok := fun k => k < w.heap.size ∨ k = W.heap.size) (fun k hk => .inl hk) (.inr rfl) (h.base hbase)
 obtain ⟨g, hv, hl⟩ := h.own
 have hgl := Kd.R_lt h.r g hv
 exact ⟨h.b.trans (hb.mono h.b.size), Kd.R_below (Kd.R_mono (Kd.R_bound h.r) (fun k hk => ⟨hk.1, by have := hk.2.2.1; omega⟩)) hb, ⟨g, hv, hl, by omega⟩, h.ta.below hb h.ta.lt, h.ua.below hb hlt, by omega, hx⟩
theorem JoinG.done {w W : World} {base gx : Nat} {t : Tm} {v4 v5 v : Value} {m : List Tm} (h : JoinG w W base t v4 v5 gx v m) (m' : List Tm) (hm : m' = m := by rfl) : JoinE w base ⟨7, 0, ⟨#[]⟩, 0, [], m⟩ (.returned (tmV ⟨7, 0, ⟨#[]⟩, 0, [], m⟩ vNone v)) (put6 W (w.heap.size + 1) ⟨7, 0, ⟨#[]⟩, 0, [], m⟩ vNone v) := by
 have hg := grown_put6 W (w.heap.size + 1) ⟨7, 0, ⟨#[]⟩, 0, [], m⟩ vNone v
 exact ⟨_, rfl, ⟨_, _, rfl, Kd.R_nil _ _ _ _ _, Kd.R_mono (Kd.R_grown h.r hg (fun k hk => by simpa using hk.1)) (fun _ _ => trivial)⟩, h.b.trans (below_of_grown hg (by omega) h.b.size)⟩
theorem JoinG.drew {w W : World} {base gx : Nat} {t : Tm} {v4 v5 v : Value} {m : List Tm} (h : JoinG w W base t v4 v5 gx v m) : JoinG w W.drew base t v4 v5 gx v m :=
 have hb : Below W.heap.size W W.drew := (Below.refl _ _).drew
 ⟨h.b.trans (hb.mono h.b.size), Kd.R_below h.r hb, h.own, h.ta.below hb h.ta.lt, h.ua.below hb h.ua.lt, h.hx, Kd.R_below h.x hb⟩
theorem JoinG.startB {w w2 : World} {base c4 c5 : Nat} {A4 A5 : Option Addr} {t : Tm} (hbase : base ≤ w.heap.size) (hb : Below w.heap.size w w2) (hta : TmAt w2 w.heap.size t (.slice A4 t.nums.length c4) (.slice A5 t.args.length c5)) (hua : TmAt w2 (w.heap.size + 1) zTm vNone vNone)
  (h4 : kU.R tyU32 w2 base (fun k => k < w.heap.size) (.slice A4 t.nums.length c4) t.nums) (h5 : kTm.R tyTm w2 base (fun k => k < w.heap.size) (.slice A5 t.args.length c5) t.args) :
  JoinG w (((w2.alloc (.cells #[] tyTm)).alloc (.cells #[.int .i64 t.kd, .int .i64 t.it, .string t.tx, .int .u32 t.cr, .slice A4 t.nums.length c4, .slice A5 t.args.length c5] tyTm)).drew) base t (.slice A4 t.nums.length c4) (.slice A5 t.args.length c5) (w2.heap.size + 1) (.slice (some ⟨w2.heap.size, 0, none⟩) 0 0) [] := by
 have hlt := hua.lt
 have hb1 := below_alloc (Below.refl w2.heap.size w2) (.cells #[] tyTm)
 have hs : (w2.alloc (.cells #[] tyTm)).heap.size = w2.heap.size + 1 := by simp
 have hE : kTm.R tyTm (w2.alloc (.cells #[] tyTm)) base (fun k => k ≠ w.heap.size + 1) (.slice (some ⟨w2.heap.size, 0, none⟩) 0 0) [] := R_empty (Nat.le_trans hbase hb.size) (by omega)
 have hF : JoinF w (w2.alloc (.cells #[] tyTm)) base t (.slice A4 t.nums.length c4) (.slice A5 t.args.length c5) (.slice (some ⟨w2.heap.size, 0, none⟩) 0 0) [] :=
  ⟨hb.trans (hb1.mono hb.size), hE, ⟨w2.heap.size, by simp [Value.ownBlock], hlt⟩, hta.below hb1 hta.lt, hua.below hb1 hlt, Kd.R_below h5 hb1⟩
 have hG := hF.one hbase (kTm_mkM _ base _ t (Kd.R_below h4 hb1) (Kd.R_below h5 hb1))
 rw [hs] at hG
 exact hG.drew
theorem JoinG.startC {w w2 : World} {base c4 c5 : Nat} {A4 A5 : Option Addr} {t : Tm} (hbase : base ≤ w.heap.size) (hb : Below w.heap.size w w2) (hta : TmAt w2 w.heap.size t (.slice A4 t.nums.length c4) (.slice A5 t.args.length c5)) (hua : TmAt w2 (w.heap.size + 1) zTm vNone vNone)
  (h4 : kU.R tyU32 w2 base (fun k => k < w.heap.size) (.slice A4 t.nums.length c4) t.nums) (h5 : kTm.R tyTm w2 base (fun k => k < w.heap.size) (.slice A5 t.args.length c5) t.args) :
  JoinG w (((w2.alloc (.cells #[.int .i64 t.kd, .int .i64 t.it, .string t.tx, .int .u32 t.cr, .slice A4 t.nums.length c4, .slice A5 t.args.length c5] tyTm)).alloc (.cells #[] tyTm)).drew) base t (.slice A4 t.nums.length c4) (.slice A5 t.args.length c5) w2.heap.size (.slice (some ⟨w2.heap.size + 1, 0, none⟩) 0 0) [] := by
 have hlt := hua.lt
 have hb1 := below_alloc (Below.refl w2.heap.size w2) (.cells #[.int .i64 t.kd, .int .i64 t.it, .string t.tx, .int .u32 t.cr, .slice A4 t.nums.length c4, .slice A5 t.args.length c5] tyTm)
 have hs : (w2.alloc (.cells #[.int .i64 t.kd, .int .i64 t.it, .string t.tx, .int .u32 t.cr, .slice A4 t.nums.length c4, .slice A5 t.args.length c5] tyTm)).heap.size = w2.heap.size + 1 := by simp
 have hx := R_one (W := w2) (kTm_mkM w2 base _ t h4 h5) (ok := fun k => k < w.heap.size ∨ k = w2.heap.size) (fun k hk => .inl hk) (.inr rfl) (Nat.le_trans hbase hb.size)
 have hx : kTm.R tyTm (w2.alloc (.cells #[.int .i64 t.kd, .int .i64 t.it, .string t.tx, .int .u32 t.cr, .slice A4 t.nums.length c4, .slice A5 t.args.length c5] tyTm)) base (fun k => k < w.heap.size ∨ k = w2.heap.size) (.slice (some ⟨w2.heap.size, 0, none⟩) 1 1) [t] := hx
 have hta1 := hta.below hb1 hta.lt
 have hua1 := hua.below hb1 hlt
 have hbb := hb.trans (hb1.mono hb.size)
 generalize w2.alloc (.cells #[.int .i64 t.kd, .int .i64 t.it, .string t.tx, .int .u32 t.cr, .slice A4 t.nums.length c4, .slice A5 t.args.length c5] tyTm) = W1 at hs hx hta1 hua1 hbb ⊢
 have hb2 := below_alloc (Below.refl W1.heap.size W1) (.cells #[] tyTm)
 have hE : kTm.R tyTm (W1.alloc (.cells #[] tyTm)) base (fun k => k ≠ w.heap.size + 1 ∧ k ≠ w2.heap.size) (.slice (some ⟨W1.heap.size, 0, none⟩) 0 0) [] := R_empty (Nat.le_trans hbase hbb.size) (by omega)
 rw [hs] at hE
 have hG : JoinG w (W1.alloc (.cells #[] tyTm)) base t (.slice A4 t.nums.length c4) (.slice A5 t.args.length c5) w2.heap.size (.slice (some ⟨w2.heap.size + 1, 0, none⟩) 0 0) [] :=
  ⟨hbb.trans (hb2.mono hbb.size), hE, ⟨w2.heap.size + 1, by simp [Value.ownBlock], by omega, by omega⟩, hta1.below hb2 hta1.lt, hua1.below hb2 hua1.lt, hlt, Kd.R_below hx hb2⟩
 exact hG.drew
theorem join_elem {w W2 W W' : World} {base c4 c5 : Nat} {A4 A5 : Option Addr} {t : Tm} {v : Value} {m : List Tm} (h : JoinF w W' base t (.slice A4 t.nums.length c4) (.slice A5 t.args.length c5) v m) (hg : W.grownBy W' (Value.slice (some ⟨W2.heap.size, 0, none⟩) 0 0).ownBlock)
  (h4 : kU.R tyU32 W base (fun k => k < w.heap.size) (.slice A4 t.nums.length c4) t.nums) (h2 : w.heap.size + 2 ≤ W2.heap.size) : kTm.M W' base (fun k => k < w.heap.size) t [.int .i64 t.kd, .int .i64 t.it, .string t.tx, .int .u32 t.cr, .slice A4 t.nums.length c4, .slice A5 t.args.length c5] := by
 have hv : (Value.slice (some ⟨W2.heap.size, 0, none⟩) 0 0).ownBlock = some W2.heap.size := by simp [Value.ownBlock]
 rw [hv] at hg
 exact kTm_mkM W' base _ t (Kd.R_grown h4 hg (fun k hk e => by injection e with e; omega)) h.h5
set_option maxRecDepth 100000 in
set_option maxHeartbeats 4000000 in
theorem ref_joined (base : Nat) (l : List Tm) (lv : Value) (t : Tm) (v4 v5 : Value) (okl ok4 ok5 : Nat → Prop) (w : World) (hbase : base ≤ w.heap.size) (hl : kTm.R tyTm w base okl lv l) (h4 : kU.R tyU32 w base ok4 v4 t.nums) (h5 : kTm.R tyTm w base ok5 v5 t.args) (hn : (l.length + t.args.length + 1) * 88 ≤ 140737488355328) :
  Calls Tryz.prog 159 #[lv, tmV t v4 v5] w (JoinE w base (joinT l t)) := by
 have HN3a : Hid ((l.length + t.args.length) * 88 ≤ 140737488355328) := Lib.hid (Nat.le_trans (Nat.mul_le_mul_right 88 (by omega)) hn)
 have HN3b : Hid ((l.length + 1) * 88 ≤ 140737488355328) := Lib.hid (Nat.le_trans (Nat.mul_le_mul_right 88 (by omega)) hn)
 have HN2 : Hid ((([] : List Tm).length + l.length) * 88 ≤ 140737488355328) := Lib.hid (Nat.le_trans (Nat.mul_le_mul_right 88 (by simp only [List.length_nil]; omega)) hn)
 clear hn
 obtain ⟨Al, cl, rfl⟩ := Kd.R_slice hl
 obtain ⟨A4, c4, rfl⟩ := Kd.R_slice h4
 obtain ⟨A5, c5, rfl⟩ := Kd.R_slice h5
 have ht1 := TmAt.new w t (.slice A4 t.nums.length c4) (.slice A5 t.args.length c5)
 have hb1 := below_alloc (Below.refl w.heap.size w) (.cells #[.int .i64 t.kd, .int .i64 t.it, .string t.tx, .int .u32 t.cr, .slice A4 t.nums.length c4, .slice A5 t.args.length c5] 27)
 have s1 : (w.alloc (.cells #[.int .i64 t.kd, .int .i64 t.it, .string t.tx, .int .u32 t.cr, .slice A4 t.nums.length c4, .slice A5 t.args.length c5] 27)).heap.size = w.heap.size + 1 := by simp
 obtain ⟨w1, hw1⟩ : ∃ W, W = w.alloc (.cells #[.int .i64 t.kd, .int .i64 t.it, .string t.tx, .int .u32 t.cr, .slice A4 t.nums.length c4, .slice A5 t.args.length c5] 27) := ⟨_, rfl⟩
 rw [← hw1] at ht1 hb1 s1
 have ht2 := TmAt.new w1 zTm vNone vNone
 have hb2 := below_alloc (Below.refl w1.heap.size w1) (.cells #[.int .i64 zTm.kd, .int .i64 zTm.it, .string zTm.tx, .int .u32 zTm.cr, vNone, vNone] 27)
 obtain ⟨w2, hw2⟩ : ∃ W, W = w1.alloc (.cells #[.int .i64 zTm.kd, .int .i64 zTm.it, .string zTm.tx, .int .u32 zTm.cr, vNone, vNone] 27) := ⟨_, rfl⟩
 rw [← hw2] at ht2 hb2
 have ht1' := ht1.below hb2 ht1.lt
 rw [s1] at ht2
 have hb02 := trans_below hb1 hb2
 have HT1 := Lib.hid ht1'
 have HT2 := Lib.hid ht2
 have HB := Lib.hid hb02
 have HL := Lib.hid (Kd.R_below (Kd.R_mono (ok' := fun k => k < w.heap.size) (Kd.R_bound hl) (fun k hk => hk.2.2.1)) hb02)
 have H4 := Lib.hid (Kd.R_below (Kd.R_mono (ok' := fun k => k < w.heap.size) (Kd.R_bound h4) (fun k hk => hk.2.2.1)) hb02)
 have H5 := Lib.hid (Kd.R_below (Kd.R_mono (ok' := fun k => k < w.heap.size) (Kd.R_bound h5) (fun k hk => hk.2.2.1)) hb02)
 clear ht1 ht2 hb1 hb2 ht1' s1 hl h4 h5 hb02
 unfold tmV
 go_enter Tryz.func159, Tryz.ntmps159
 go_upto_region 1 with (fail)
 rw [← hw1]
 simp only [zTm, vNone] at hw2
 rw [← hw2]
 clear hw1 hw2
 have t0 := HT1.out.c0
 by_cases hk : t.kd = 7
 ·have d7 : (t.kd == 7) = true := beq_iff_eq.2 hk
  have HJ : Hid (joinT l t = ⟨7, 0, ⟨#[]⟩, 0, [], l ++ t.args⟩) := Lib.hid (by unfold joinT; rw [if_pos hk])
  clear hk
  go_upto_region 2 with (fail)
  obtain ⟨w3, hw3⟩ : ∃ W, W = (w2.alloc (.cells #[] tyTm)).drew := ⟨_, rfl⟩
  have hb3 : Below w2.heap.size w2 w3 := by rw [hw3]; exact (below_alloc (Below.refl _ _) _).drew
  have hE3 : kTm.R tyTm w3 w.heap.size (fun k => k ≠ w.heap.size + 1) (.slice (some ⟨w2.heap.size, 0, none⟩) 0 0) [] := by rw [hw3]; exact Kd.R_below (R_empty HB.out.size (by have := HT2.out.lt; omega)) (Below.refl _ _).drew
  have HE3 := Lib.hid (Kd.R_lower hE3 hbase)
  have HL3 := Lib.hid (Kd.R_below HL.out hb3)
  have HT3 := Lib.hid (HT1.out.below hb3 HT1.out.lt)
  have HU3 := Lib.hid (HT2.out.below hb3 HT2.out.lt)
  have H53 := Lib.hid (Kd.R_below H5.out hb3)
  have HB3 := Lib.hid (trans_below HB.out hb3)
  have HS0 : Hid (w2.cell? ⟨w.heap.size, 5, none⟩ = some (.slice A5 t.args.length c5)) := Lib.hid HT1.out.c5
  have HS1 : Hid (w2.drew.cell? ⟨w.heap.size, 5, none⟩ = some (.slice A5 t.args.length c5)) := Lib.hid HT1.out.c5
  have HS2 : Hid (∀ o, (w2.alloc o).drew.cell? ⟨w.heap.size, 5, none⟩ = some (.slice A5 t.args.length c5)) := Lib.hid fun o => ((below_alloc (Below.refl _ _) o).cell HT1.out.lt).trans HT1.out.c5
  rw [hw3] at HE3 HL3 HB3 HT3 HU3 H53
  have HBS3 : Hid (base ≤ (w2.alloc (.cells #[] tyTm)).drew.heap.size) := Lib.hid (Nat.le_trans hbase HB3.out.size)
  have HOK : Hid (∀ k, k < w.heap.size → k ≠ w.heap.size + 1 ∧ some k ≠ (Value.slice (some ⟨w2.heap.size, 0, none⟩) 0 0).ownBlock) := Lib.hid fun k hk => ⟨by omega, fun e => by have h9 := HB.out.size; have h8 : k = w2.heap.size := (by simpa [Value.ownBlock] using e); omega⟩
  have HN3 := HN3a
  have HZS : Hid (w.heap.size + 2 ≤ w2.heap.size) := Lib.hid HT2.out.lt
  have HFR3 : Hid (∀ k, (w2.alloc (.cells #[] tyTm)).drew.heap.size ≤ k → k ≠ w.heap.size + 1) := Lib.hid fun k hk => by rw [← hw3] at hk; have := hb3.size; have := HT2.out.lt; omega
  clear hw3 hb3 hE3
  go_region_held3 (fun W => W.cell? ⟨w.heap.size, 5, none⟩ = some (.slice A5 t.args.length c5)) (first | with_reducible exact HS0.out | with_reducible exact HS1.out | with_reducible exact HS2.out _ | with_reducible exact HS4.out | with_reducible exact HS5.out | with_reducible exact HS6.out _ _ _ _ _ _)
   ((first
    | (refine rows_held kTm (Rr := kTm.M ((w2.alloc (.cells #[] tyTm)).drew) base (fun k => k < w.heap.size)) (w0 := (w2.alloc (.cells #[] tyTm)).drew) base (by rfl) (.tmp 8) (.tmp 9) 25 27 (.agg #[(.int .i64 0), (.int .i64 0), (.string ⟨#[]⟩), (.int .u32 0), (.slice none 0 0), (.slice none 0 0)]) 88 (by rfl) Tryz.underlying25 infoTm rfl (by decide) (by omega) (.slice (some ⟨w2.heap.size, 0, none⟩) 0 0) [] l Al l.length cl (fun k => k ≠ w.heap.size + 1) (fun k => k < w.heap.size) (by rfl) (by rfl) HE3.out (tm_rows HL3.out) (fun _ _ h => h) HOK.out HFR3.out (Below.refl _ _) HBS3.out HN2.out ?_; intro v1 w4 ho hb hg hat; have HJ4 := Lib.hid (join_next HB3.out ho hg hat HZS.out HT3.out HU3.out H53.out); clear ho hb hg hat; have HS4 := Lib.hid HJ4.out.ta.c5)
    | (refine rows_held kTm (Rr := kTm.M w4 base (fun k => k < w.heap.size)) (w0 := w4) base (by rfl) (.tmp 10) (.tmp 12) 25 27 (.agg #[(.int .i64 0), (.int .i64 0), (.string ⟨#[]⟩), (.int .u32 0), (.slice none 0 0), (.slice none 0 0)]) 88 (by rfl) Tryz.underlying25 infoTm rfl (by decide) (by omega) v1 l t.args A5 t.args.length c5 (fun k => k ≠ w.heap.size + 1) (fun k => k < w.heap.size) (by rfl) (by rfl) HJ4.out.r (tm_rows HJ4.out.h5) (fun _ _ h => h) HJ4.out.ok HJ4.out.fr (Below.refl _ _) (HJ4.out.base hbase) HN3.out ?_; intro v2 w5 ho hb hg hat; obtain ⟨L9, hL9⟩ : ∃ L, L = l ++ t.args := ⟨_, rfl⟩; rw [← hL9] at ho; have HLQ := Lib.hid hL9; clear hL9; have HJ5 := Lib.hid (HJ4.out.next ho hg hat); clear ho hb hg hat; have HS5 := Lib.hid HJ5.out.ta.c5; have HS6 := Lib.hid fun u0 u1 u2 u3 u4 u5 => (six_far (W := w5) (g := w.heap.size + 1) (b := w.heap.size) (o := 5) (by omega) u0 u1 u2 u3 u4 u5).trans HS5.out; obtain ⟨A9, c9, rfl⟩ := Kd.R_slice HJ5.out.r; obtain ⟨z0, z1, z2, z3, z4, z5, g0, g1, g2, g3, g4, g5⟩ := HJ5.out.ua)))
  go_wp2_with fail
  refine bodyPost_ret (resTm rfl _ _ (w.heap.size + 1) ⟨7, 0, ⟨#[]⟩, 0, [], L9⟩ _ _ (by rfl) (HJ5.out.ua.put ⟨7, 0, ⟨#[]⟩, 0, [], L9⟩ _ _)) rfl ?_
  rw [HJ.out, ← HLQ.out]
  exact HJ5.out.done L9
 ·have d7 : (t.kd == 7) = false := beq_eq_false_iff_ne.2 hk
  have HJ : Hid (joinT l t = ⟨7, 0, ⟨#[]⟩, 0, [], l ++ [t]⟩) := Lib.hid (by unfold joinT; rw [if_neg hk])
  clear hk
  go_upto_region 3 with (fail)
  obtain ⟨w3, hw3⟩ : ∃ W, W = (w2.alloc (.cells #[] tyTm)).drew := ⟨_, rfl⟩
  have hb3 : Below w2.heap.size w2 w3 := by rw [hw3]; exact (below_alloc (Below.refl _ _) _).drew
  have hE3 : kTm.R tyTm w3 w.heap.size (fun k => k ≠ w.heap.size + 1) (.slice (some ⟨w2.heap.size, 0, none⟩) 0 0) [] := by rw [hw3]; exact Kd.R_below (R_empty HB.out.size (by have := HT2.out.lt; omega)) (Below.refl _ _).drew
  have HE3 := Lib.hid (Kd.R_lower hE3 hbase)
  have HL3 := Lib.hid (Kd.R_below HL.out hb3)
  have HT3 := Lib.hid (HT1.out.below hb3 HT1.out.lt)
  have HU3 := Lib.hid (HT2.out.below hb3 HT2.out.lt)
  have H53 := Lib.hid (Kd.R_below H5.out hb3)
  have H43 := Lib.hid (Kd.R_below H4.out hb3)
  have HB3 := Lib.hid (trans_below HB.out hb3)
  have HS0 : Hid (TmCells w2 w.heap.size 0 t (.slice A4 t.nums.length c4) (.slice A5 t.args.length c5)) := Lib.hid HT1.out.cells
  have HS1 : Hid (TmCells w2.drew w.heap.size 0 t (.slice A4 t.nums.length c4) (.slice A5 t.args.length c5)) := Lib.hid (HT1.out.below (Below.refl _ _).drew HT1.out.lt).cells
  have HS2 : Hid (∀ o, TmCells (w2.alloc o).drew w.heap.size 0 t (.slice A4 t.nums.length c4) (.slice A5 t.args.length c5)) := Lib.hid fun o => (HT1.out.below (below_alloc (Below.refl _ _) o).drew HT1.out.lt).cells
  rw [hw3] at HE3 HL3 HB3 HT3 HU3 H53 H43
  have HBS3 : Hid (base ≤ (w2.alloc (.cells #[] tyTm)).drew.heap.size) := Lib.hid (Nat.le_trans hbase HB3.out.size)
  have HOK : Hid (∀ k, k < w.heap.size → k ≠ w.heap.size + 1 ∧ some k ≠ (Value.slice (some ⟨w2.heap.size, 0, none⟩) 0 0).ownBlock) := Lib.hid fun k hk => ⟨by omega, fun e => by have h9 := HB.out.size; have h8 : k = w2.heap.size := (by simpa [Value.ownBlock] using e); omega⟩
  have HN3 := HN3b
  have HZS : Hid (w.heap.size + 2 ≤ w2.heap.size) := Lib.hid HT2.out.lt
  have HFR3 : Hid (∀ k, (w2.alloc (.cells #[] tyTm)).drew.heap.size ≤ k → k ≠ w.heap.size + 1) := Lib.hid fun k hk => by rw [← hw3] at hk; have := hb3.size; have := HT2.out.lt; omega
  clear hw3 hb3 hE3
  have HGb := Lib.hid (JoinG.startB hbase HB.out HT1.out HT2.out H4.out H5.out)
  have HGc := Lib.hid (JoinG.startC hbase HB.out HT1.out HT2.out H4.out H5.out)
  have HLb : Hid (kTm.R tyTm (((w2.alloc (.cells #[] tyTm)).alloc (.cells #[.int .i64 t.kd, .int .i64 t.it, .string t.tx, .int .u32 t.cr, .slice A4 t.nums.length c4, .slice A5 t.args.length c5] tyTm)).drew) base (fun k => k < w.heap.size) (.slice Al l.length cl) l) := Lib.hid (Kd.R_below (Kd.R_below (Kd.R_below HL.out (below_alloc (Below.refl _ _) _)) (below_alloc (Below.refl _ _) _)) (Below.refl _ _).drew)
  have HLc : Hid (kTm.R tyTm (((w2.alloc (.cells #[.int .i64 t.kd, .int .i64 t.it, .string t.tx, .int .u32 t.cr, .slice A4 t.nums.length c4, .slice A5 t.args.length c5] tyTm)).alloc (.cells #[] tyTm)).drew) base (fun k => k < w.heap.size) (.slice Al l.length cl) l) := Lib.hid (Kd.R_below (Kd.R_below (Kd.R_below HL.out (below_alloc (Below.refl _ _) _)) (below_alloc (Below.refl _ _) _)) (Below.refl _ _).drew)
  have HS8 : Hid (∀ o o', TmCells ((w2.alloc o).alloc o').drew w.heap.size 0 t (.slice A4 t.nums.length c4) (.slice A5 t.args.length c5)) := Lib.hid fun o o' => (((HT1.out.below (below_alloc (Below.refl _ _) o) HT1.out.lt).below (below_alloc (Below.refl _ _) o') (TmAt.lt (HT1.out.below (below_alloc (Below.refl _ _) o) HT1.out.lt))).below (Below.refl _ _).drew (TmAt.lt ((HT1.out.below (below_alloc (Below.refl _ _) o) HT1.out.lt).below (below_alloc (Below.refl _ _) o') (TmAt.lt (HT1.out.below (below_alloc (Below.refl _ _) o) HT1.out.lt))))).cells
  go_region_held3 (fun W => W.cell? ⟨w.heap.size, 0, none⟩ = some (.int .i64 t.kd) ∧ W.cell? ⟨w.heap.size, 1, none⟩ = some (.int .i64 t.it) ∧ W.cell? ⟨w.heap.size, 2, none⟩ = some (.string t.tx) ∧ W.cell? ⟨w.heap.size, 3, none⟩ = some (.int .u32 t.cr) ∧ W.cell? ⟨w.heap.size, 4, none⟩ = some (.slice A4 t.nums.length c4) ∧ W.cell? ⟨w.heap.size, 5, none⟩ = some (.slice A5 t.args.length c5)) (first | with_reducible exact HS0.out.six | with_reducible exact HS1.out.six | with_reducible exact (HS2.out _).six | with_reducible exact HS4.out.six | with_reducible exact (HS7.out _).six | with_reducible exact HS5.out.six | with_reducible exact HS6.out _ _ _ _ _ _ | with_reducible exact (HS8.out _ _).six)
   ((first
    | (refine rows_held kTm (Rr := kTm.M ((w2.alloc (.cells #[] tyTm)).drew) base (fun k => k < w.heap.size)) (w0 := (w2.alloc (.cells #[] tyTm)).drew) base (by rfl) (.tmp 15) (.tmp 16) 25 27 (.agg #[(.int .i64 0), (.int .i64 0), (.string ⟨#[]⟩), (.int .u32 0), (.slice none 0 0), (.slice none 0 0)]) 88 (by rfl) Tryz.underlying25 infoTm rfl (by decide) (by omega) (.slice (some ⟨w2.heap.size, 0, none⟩) 0 0) [] l Al l.length cl (fun k => k ≠ w.heap.size + 1) (fun k => k < w.heap.size) (by rfl) (by rfl) HE3.out (tm_rows HL3.out) (fun _ _ h => h) HOK.out HFR3.out (Below.refl _ _) HBS3.out HN2.out ?_; intro v1 w4 ho hb hg hat; have HJ4 := Lib.hid (join_next HB3.out ho hg hat HZS.out HT3.out HU3.out H53.out); have HM4 := Lib.hid (join_elem HJ4.out hg H43.out HZS.out); clear ho hb hg hat; have HS4 := Lib.hid HJ4.out.ta.cells; have HS7 := Lib.hid fun o => (HJ4.out.ta.below (below_alloc (Below.refl _ _) o) HJ4.out.ta.lt).cells)
    | (refine elem_held kTm (w0 := w4) base (by rfl) (.tmp 17) (.tmp 19) 25 27 (.agg #[(.int .i64 0), (.int .i64 0), (.string ⟨#[]⟩), (.int .u32 0), (.slice none 0 0), (.slice none 0 0)]) 88 (by rfl) Tryz.underlying25 infoTm rfl (by decide) (by omega) v1 l t [.int .i64 t.kd, .int .i64 t.it, .string t.tx, .int .u32 t.cr, .slice A4 t.nums.length c4, .slice A5 t.args.length c5] (fun k => k ≠ w.heap.size + 1) (fun k => k < w.heap.size) (by rfl) (by rfl) HM4.out HJ4.out.ok HJ4.out.fr HJ4.out.r (Below.refl _ _) (HJ4.out.base hbase) HN3.out ?_; intro v2 w5 ho hb hg hat; obtain ⟨L9, hL9⟩ : ∃ L, L = l ++ [t] := ⟨_, rfl⟩; rw [← hL9] at ho; have HLQ := Lib.hid hL9; clear hL9; have HJ5 := Lib.hid (HJ4.out.next ho hg hat); clear ho hb hg hat; have HS5 := Lib.hid HJ5.out.ta.cells; have HS6 := Lib.hid fun u0 u1 u2 u3 u4 u5 => six_six (W := w5) (g := w.heap.size + 1) (b := w.heap.size) (Nat.ne_of_lt (Nat.lt_succ_self _)) u0 u1 u2 u3 u4 u5 HS5.out; obtain ⟨A9, c9, rfl⟩ := Kd.R_slice HJ5.out.r; obtain ⟨z0, z1, z2, z3, z4, z5, g0, g1, g2, g3, g4, g5⟩ := HJ5.out.ua)
    | (refine rows_held kTm (Rr := kTm.M (((w2.alloc (.cells #[] tyTm)).alloc (.cells #[.int .i64 t.kd, .int .i64 t.it, .string t.tx, .int .u32 t.cr, .slice A4 t.nums.length c4, .slice A5 t.args.length c5] tyTm)).drew) base (fun k => k < w.heap.size)) (w0 := (((w2.alloc (.cells #[] tyTm)).alloc (.cells #[.int .i64 t.kd, .int .i64 t.it, .string t.tx, .int .u32 t.cr, .slice A4 t.nums.length c4, .slice A5 t.args.length c5] tyTm)).drew)) base (by rfl) (.tmp 15) (.tmp 16) 25 27 (.agg #[(.int .i64 0), (.int .i64 0), (.string ⟨#[]⟩), (.int .u32 0), (.slice none 0 0), (.slice none 0 0)]) 88 (by rfl) Tryz.underlying25 infoTm rfl (by decide) (by decide) (.slice (some ⟨w2.heap.size, 0, none⟩) 0 0) [] l Al l.length cl _ (fun k => k < w.heap.size) (by rfl) (by rfl) HGb.out.r (tm_rows HLb.out) (fun _ _ h => h) HGb.out.ok HGb.out.fr (Below.refl _ _) (HGb.out.base hbase) HN2.out ?_; intro v1 w4b ho hb hg hat; have HG4b := Lib.hid (HGb.out.next ho hg hat); clear ho hb hg hat; have HS4 := Lib.hid HG4b.out.ta.cells; have HS7 := Lib.hid fun o => (HG4b.out.ta.below (below_alloc (Below.refl _ _) o) HG4b.out.ta.lt).cells)
    | (refine rows_held kTm (Rr := kTm.M w4b base (fun k => k < w.heap.size)) (w0 := w4b) base (by rfl) (.tmp 17) (.tmp 19) 25 27 (.agg #[(.int .i64 0), (.int .i64 0), (.string ⟨#[]⟩), (.int .u32 0), (.slice none 0 0), (.slice none 0 0)]) 88 (by rfl) Tryz.underlying25 infoTm rfl (by decide) (by decide) v1 l [t] (some ⟨w2.heap.size + 1, 0, none⟩) 1 1 _ (fun k => k < w.heap.size) (by rfl) (by rfl) HG4b.out.r HG4b.out.rows (fun _ _ h => h) HG4b.out.ok HG4b.out.fr (Below.refl _ _) (HG4b.out.base hbase) HN3.out ?_; intro v2 w5 ho hb hg hat; obtain ⟨L9, hL9⟩ : ∃ L, L = l ++ [t] := ⟨_, rfl⟩; rw [← hL9] at ho; have HLQ := Lib.hid hL9; clear hL9; have HJ5 := Lib.hid (HG4b.out.next ho hg hat); clear ho hb hg hat; have HS5 := Lib.hid HJ5.out.ta.cells; have HS6 := Lib.hid fun u0 u1 u2 u3 u4 u5 => six_six (W := w5) (g := w.heap.size + 1) (b := w.heap.size) (Nat.ne_of_lt (Nat.lt_succ_self _)) u0 u1 u2 u3 u4 u5 HS5.out; obtain ⟨A9, c9, rfl⟩ := Kd.R_slice HJ5.out.r; obtain ⟨z0, z1, z2, z3, z4, z5, g0, g1, g2, g3, g4, g5⟩ := HJ5.out.ua)
    | (refine rows_held kTm (Rr := kTm.M (((w2.alloc (.cells #[.int .i64 t.kd, .int .i64 t.it, .string t.tx, .int .u32 t.cr, .slice A4 t.nums.length c4, .slice A5 t.args.length c5] tyTm)).alloc (.cells #[] tyTm)).drew) base (fun k => k < w.heap.size)) (w0 := (((w2.alloc (.cells #[.int .i64 t.kd, .int .i64 t.it, .string t.tx, .int .u32 t.cr, .slice A4 t.nums.length c4, .slice A5 t.args.length c5] tyTm)).alloc (.cells #[] tyTm)).drew)) base (by rfl) (.tmp 15) (.tmp 16) 25 27 (.agg #[(.int .i64 0), (.int .i64 0), (.string ⟨#[]⟩), (.int .u32 0), (.slice none 0 0), (.slice none 0 0)]) 88 (by rfl) Tryz.underlying25 infoTm rfl (by decide) (by decide) (.slice (some ⟨w2.heap.size + 1, 0, none⟩) 0 0) [] l Al l.length cl _ (fun k => k < w.heap.size) (by rfl) (by rfl) HGc.out.r (tm_rows HLc.out) (fun _ _ h => h) HGc.out.ok HGc.out.fr (Below.refl _ _) (HGc.out.base hbase) HN2.out ?_; intro v1 w4c ho hb hg hat; have HG4c := Lib.hid (HGc.out.next ho hg hat); clear ho hb hg hat; have HS4 := Lib.hid HG4c.out.ta.cells; have HS7 := Lib.hid fun o => (HG4c.out.ta.below (below_alloc (Below.refl _ _) o) HG4c.out.ta.lt).cells)
    | (refine rows_held kTm (Rr := kTm.M w4c base (fun k => k < w.heap.size)) (w0 := w4c) base (by rfl) (.tmp 17) (.tmp 19) 25 27 (.agg #[(.int .i64 0), (.int .i64 0), (.string ⟨#[]⟩), (.int .u32 0), (.slice none 0 0), (.slice none 0 0)]) 88 (by rfl) Tryz.underlying25 infoTm rfl (by decide) (by decide) v1 l [t] (some ⟨w2.heap.size, 0, none⟩) 1 1 _ (fun k => k < w.heap.size) (by rfl) (by rfl) HG4c.out.r HG4c.out.rows (fun _ _ h => h) HG4c.out.ok HG4c.out.fr (Below.refl _ _) (HG4c.out.base hbase) HN3.out ?_; intro v2 w5 ho hb hg hat; obtain ⟨L9, hL9⟩ : ∃ L, L = l ++ [t] := ⟨_, rfl⟩; rw [← hL9] at ho; have HLQ := Lib.hid hL9; clear hL9; have HJ5 := Lib.hid (HG4c.out.next ho hg hat); clear ho hb hg hat; have HS5 := Lib.hid HJ5.out.ta.cells; have HS6 := Lib.hid fun u0 u1 u2 u3 u4 u5 => six_six (W := w5) (g := w.heap.size + 1) (b := w.heap.size) (Nat.ne_of_lt (Nat.lt_succ_self _)) u0 u1 u2 u3 u4 u5 HS5.out; obtain ⟨A9, c9, rfl⟩ := Kd.R_slice HJ5.out.r; obtain ⟨z0, z1, z2, z3, z4, z5, g0, g1, g2, g3, g4, g5⟩ := HJ5.out.ua)))
  all_goals
   go_wp2_with fail
   refine bodyPost_ret (resTm rfl _ _ (w.heap.size + 1) ⟨7, 0, ⟨#[]⟩, 0, [], L9⟩ _ _ (by rfl) (HJ5.out.ua.put ⟨7, 0, ⟨#[]⟩, 0, [], L9⟩ _ _)) rfl ?_
   rw [HJ.out, ← HLQ.out]
   exact HJ5.out.done L9
end Go.Proofs.YtibbcfeaododhaaGreatDoor
set_option linter.unusedSimpArgs false
set_option linter.unusedVariables false
namespace Go.Proofs.YtibbcfeaododhaaGreatDoor
open Go.RowKit Go.Sort Go.Proofs.YtibbcfeaododhaaGreatDoorW.PrintWords
/-! ### plain: a number's digits, one by one -/
theorem decV_snoc (l : List Int) (c : Int) : decV (l ++ [c]) = decV l * 10 + (c - 48) := by
 unfold decV
 rw [List.foldl_append]
 rfl
theorem decAt_zero (s : ByteArray) (k : Nat) : decAt s k k = 0 := by
 unfold decAt
 rw [Nat.sub_self, List.take_zero]
 rfl
theorem decAt_succ (s : ByteArray) {k j : Nat} (h : k ≤ j) (hj : j < s.size) : decAt s k (j + 1) = decAt s k j * 10 + (bt s (j : Int) - 48) := by
 unfold decAt
 have h1 : j + 1 - k = (j - k) + 1 := by omega
 have h2 : j - k < ((bs s).drop k).length := by rw [List.length_drop, bs_len]; omega
 rw [h1, List.take_succ_eq_append_getElem h2, decV_snoc]
 congr 2
 rw [List.getElem_drop, ← bs_get s j hj]
 congr 1
 omega
/-- How far the digits are read: at j. -/
structure NumTo (s : ByteArray) (k j : Nat) : Prop where
 le : k ≤ j
 no : isDig s k = false → j = k
 zero : isDig s k = true → bt s (k : Int) = 48 → j ≤ k + 1
 run : isDig s k = true → bt s (k : Int) ≠ 48 → runEnd isDigit s j = runEnd isDigit s k
theorem NumTo.start (s : ByteArray) (k : Nat) : NumTo s k k := ⟨Nat.le_refl _, fun _ => rfl, fun _ _ => Nat.le_succ _, fun _ _ => rfl⟩
theorem isDig_of {s : ByteArray} {k : Nat} (h : k < s.size) : isDig s k = isDigit (bt s (k : Int)) := by unfold isDig; rw [decide_eq_true h, Bool.true_and]
theorem NumTo.next {s : ByteArray} {k j : Nat} (h : NumTo s k j) (hj : j < s.size) (hd : isDigit (bt s (j : Int)) = true) (hc : j = k ∨ bt s (k : Int) ≠ 48) : NumTo s k (j + 1) := by
 refine ⟨by have := h.le; omega, fun hn => ?_, fun _ h8 => ?_, fun hy hz => (runEnd_yes hj hd).trans (h.run hy hz)⟩
 ·have := h.no hn
  subst this
  rw [isDig_of hj, hd] at hn
  cases hn
 ·rcases hc with rfl | hc
  ·exact Nat.le_refl _
  ·exact absurd h8 hc
theorem NumTo.stop {s : ByteArray} {k j : Nat} (h : NumTo s k j) (hd : isDig s k = true) (hs : s.size ≤ j ∨ isDigit (bt s (j : Int)) = false ∨ (j ≠ k ∧ bt s (k : Int) = 48)) : j = digEnd s k ∧ k < j := by
 have hk : k < s.size := by unfold isDig at hd; rw [Bool.and_eq_true, decide_eq_true_eq] at hd; exact hd.1
 have hdk := hd
 rw [isDig_of hk] at hdk
 have hle := h.le
 have hne : j ≠ k := by
  rintro rfl
  rcases hs with hs | hs | hs
  ·omega
  ·rw [hdk] at hs; cases hs
  ·exact hs.1 rfl
 refine ⟨?_, by omega⟩
 unfold digEnd
 by_cases h8 : bt s (k : Int) = 48
 ·rw [if_pos h8]
  have := h.zero hd h8
  omega
 ·rw [if_neg h8, ← h.run hd h8]
  rcases hs with hs | hs | hs
  ·rw [runEnd_out hs]
  ·by_cases hj : j < s.size
   ·rw [runEnd_no hj hs]
   ·rw [runEnd_out (by omega)]
  ·exact absurd hs.2 h8
theorem NumTo.none {s : ByteArray} {k : Nat} (hs : s.size ≤ k ∨ isDigit (bt s (k : Int)) = false) : isDig s k = false := by
 unfold isDig
 rcases hs with hs | hs
 ·rw [decide_eq_false (by omega), Bool.false_and]
 ·rw [hs, Bool.and_false]
theorem NumTo.dig {s : ByteArray} {k j : Nat} (h : NumTo s k j) (hne : j ≠ k) : isDig s k = true := by
 cases hd : isDig s k with
 | true => rfl
 | false => exact absurd (h.no hd) hne
/-- A number of at most 'most'; beyond it: a fault 'co' at 'first'. -/
def numM (s : ByteArray) (k : Nat) (most co first : Int) : Int × Nat × List Lk :=
 if isDig s k = false then (0, 0, [⟨nTerm, k, 41⟩]) else if most < decAt s k (digEnd s k) then (0, 0, [⟨nTerm, first, co⟩]) else (decAt s k (digEnd s k), digEnd s k, [])
/-- What is read so far: the number, or that it is too great. -/
def NumIs (s : ByteArray) (k j : Nat) (most n : Int) (bg : Bool) : Prop := (bg = false → n = decAt s k j) ∧ (bg = true → most < decAt s k j) ∧ 0 ≤ n ∧ n ≤ most ∧ 0 ≤ decAt s k j
theorem NumIs.start (s : ByteArray) (k : Nat) {most : Int} (h : 0 ≤ most) : NumIs s k k most 0 false := ⟨fun _ => (decAt_zero s k).symm, fun e => (by cases e), Int.le_refl _, h, (by rw [decAt_zero]; exact Int.le_refl _)⟩
theorem NumIs.big {s : ByteArray} {k j : Nat} {most n : Int} (h : NumIs s k j most n true) (hk : k ≤ j) (hj : j < s.size) (h0 : 48 ≤ bt s (j : Int)) (hm : 0 ≤ most) : NumIs s k (j + 1) most n true := by
 have h1 := h.2.1 rfl
 rw [NumIs, decAt_succ s hk hj]
 exact ⟨fun e => (by cases e), fun _ => (by omega), h.2.2.1, h.2.2.2.1, (by omega)⟩
theorem NumIs.more {s : ByteArray} {k j : Nat} {most n : Int} (h : NumIs s k j most n false) (hk : k ≤ j) (hj : j < s.size) (h0 : 48 ≤ bt s (j : Int)) (hle : n ≤ (most - (bt s (j : Int) - 48)) / 10) : NumIs s k (j + 1) most (n * 10 + (bt s (j : Int) - 48)) false := by
 have h1 := h.1 rfl
 have h2 := h.2.2.1
 rw [NumIs, decAt_succ s hk hj, ← h1]
 exact ⟨fun _ => rfl, fun e => (by cases e), (by omega), (by omega), (by omega)⟩
theorem NumIs.over {s : ByteArray} {k j : Nat} {most n : Int} (h : NumIs s k j most n false) (hk : k ≤ j) (hj : j < s.size) (h0 : 48 ≤ bt s (j : Int)) (hle : (most - (bt s (j : Int) - 48)) / 10 < n) : NumIs s k (j + 1) most n true := by
 have h1 := h.1 rfl
 have h2 := h.2.2.1
 have h3 := h.2.2.2.1
 rw [NumIs, decAt_succ s hk hj, ← h1]
 exact ⟨fun e => (by cases e), fun _ => (by omega), h2, h3, (by omega)⟩
def NumRE (w : World) (b : Nat) (s : ByteArray) (d : Nat) (most : Int) (r : Int × Nat × List Lk) (e : Ending) (w' : World) : Prop :=
 ∃ n : Int, e = .returned (.int .u64 n) ∧ 0 ≤ n ∧ n ≤ most ∧ (r.2.2 = [] → n = r.1) ∧ RfOut w b s d r.2.1 r.2.2 w'
theorem num_none {s : ByteArray} {k : Nat} {most co first : Int} (h : isDig s k = false) : numM s k most co first = (0, 0, [⟨nTerm, k, 41⟩]) := by unfold numM; rw [if_pos h]
theorem num_over {s : ByteArray} {k : Nat} {most co first : Int} (h : isDig s k = true) (h2 : most < decAt s k (digEnd s k)) : numM s k most co first = (0, 0, [⟨nTerm, first, co⟩]) := by unfold numM; rw [if_neg (by rw [h]; simp), if_pos h2]
theorem num_ok {s : ByteArray} {k : Nat} {most co first : Int} (h : isDig s k = true) (h2 : decAt s k (digEnd s k) ≤ most) : numM s k most co first = (decAt s k (digEnd s k), digEnd s k, []) := by unfold numM; rw [if_neg (by rw [h]; simp), if_neg (by omega)]
set_option maxRecDepth 100000 in
set_option maxHeartbeats 8000000 in
theorem rf_number (b : Nat) (s : ByteArray) (k d : Nat) (most co first : Int) (hk : k ≤ s.size) (hm : s.size ≤ 4194304) (h9 : 9 ≤ most) (hM : most ≤ 576460752303423488) (w : World) (hS : RfAt w b s k d (.slice none 0 0)) :
  Calls Tryz.prog 106 #[.pointer (some ⟨b, 0, none⟩), .int .u64 most, .int .i64 co, .int .i64 first] w (NumRE w b s d most (numM s k most co first)) := by
 obtain ⟨R, hR⟩ : ∃ R, R = numM s k most co first := ⟨_, rfl⟩
 rw [← hR]
 have HR := Lib.hid hR
 have HS0 := Lib.hid hS
 have a1 := hS.c1
 clear hR hS
 go_enter Tryz.func106, Tryz.ntmps106
 go_wp2_with fail
 clear a1
 go_loopg [10, 11] (s.size - k) (fun gk v10 v11 wl => ∃ (j : Nat) (n : Int) (bg : Bool), v10 = .int .u64 n ∧ v11 = .bool bg ∧ gk = s.size - j ∧ j ≤ s.size ∧ 0 ≤ n ∧ n ≤ most ∧ Hid (NumTo s k j) ∧ Hid (NumIs s k j most n bg) ∧ Hid (RfTo w b s j d (.slice none 0 0) wl))
 case atStart => exact ⟨k, 0, false, rfl, rfl, rfl, hk, Int.le_refl _, by omega, Lib.hid (.start s k), Lib.hid (.start s k (by omega)), Lib.hid (.refl HS0.out)⟩
 case round =>
  obtain ⟨j, n, bg, rfl, rfl, hgk, hj, hn0, hn1, HT, HI, HS⟩ := hrel
  have HK := Lib.hid hgk
  clear hgk
  have a0 := HS.out.2.c0
  have a1 := HS.out.2.c1
  have f1 := HS.out.2.f1
  have e0 : (0 : Int) ≤ (k : Int) := by omega
  have e1 : (0 : Int) ≤ (j : Int) := by omega
  have hkle := HT.out.le
  by_cases hlt : j < s.size
  ·have e2 : (j : Int) < (s.size : Int) := by omega
   have hb := btk s j
   have hr := bt_range s (j : Int)
   obtain ⟨c, hc⟩ : ∃ c, c = bt s (j : Int) := ⟨_, rfl⟩
   rw [← hc] at hb hr
   have HC := Lib.hid hc.symm
   clear hc
   have hr0 := hr.1
   have hr1 := hr.2
   clear hr
   by_cases h48 : 48 ≤ c
   ·have d48 : decide (c ≥ 48) = true := decide_eq_true h48
    by_cases h57 : c ≤ 57
    ·have d57 : decide (c ≤ 57) = true := decide_eq_true h57
     have hdg : isDigit (bt s (j : Int)) = true := by rw [HC.out]; unfold isDigit; simp [h48, h57]
     by_cases hjk : j = k
     ·have HTN := Lib.hid (HT.out.next hlt hdg (.inl hjk))
      subst hjk
      have djk : ((j : Int) == (j : Int)) = true := beq_self_eq_true _
      have hnn := HI.out
      have c0 : (0 : Int) ≤ c - 48 := by omega
      have c1 : c - 48 ≤ 9 := by omega
      cases bg with
      | true =>
       have HIN := Lib.hid (hnn.big HT.out.le hlt (by rw [HC.out]; omega) (by omega))
       clear hnn
       go_wp2_with fail
       go_quiet (fail)
       go_wp2_with fail
       go_quiet (fail)
       go_wp2_with fail
       go_roundg (s.size - (j + 1))
       case measure => rw [HK.out]; omega
       case rel => exact ⟨j + 1, n, true, rfl, rfl, rfl, by omega, hn0, hn1, HTN, HIN, Lib.hid ((HS.out.drewN _).set1 _ (j + 1) (by omega))⟩
      | false =>
       have hmi : min (c - 48) most = c - 48 := by omega
       by_cases hle : n ≤ (most - (c - 48)) / 10
       ·have dle : decide (n > (most - (c - 48)) / 10) = false := decide_eq_false (by omega)
        have HIN := Lib.hid (hnn.more HT.out.le hlt (by rw [HC.out]; omega) (by rw [HC.out]; exact hle))
        rw [HC.out] at HIN
        have hn2 : 0 ≤ n * 10 + (c - 48) := by omega
        have hn3 : n * 10 + (c - 48) ≤ most := by omega
        clear hnn
        go_wp2_with fail
        go_quiet (fail)
        go_wp2_with fail
        go_quiet (fail)
        go_wp2_with fail
        go_roundg (s.size - (j + 1))
        case measure => rw [HK.out]; omega
        case rel => exact ⟨j + 1, n * 10 + (c - 48), false, rfl, rfl, rfl, by omega, hn2, hn3, HTN, HIN, Lib.hid ((HS.out.drewN _).set1 _ (j + 1) (by omega))⟩
       ·have dle : decide (n > (most - (c - 48)) / 10) = true := decide_eq_true (by omega)
        have HIN := Lib.hid (hnn.over HT.out.le hlt (by rw [HC.out]; omega) (by rw [HC.out]; omega))
        clear hnn
        go_wp2_with fail
        go_quiet (fail)
        go_wp2_with fail
        go_quiet (fail)
        go_wp2_with fail
        go_roundg (s.size - (j + 1))
        case measure => rw [HK.out]; omega
        case rel => exact ⟨j + 1, n, true, rfl, rfl, rfl, by omega, hn0, hn1, HTN, HIN, Lib.hid ((HS.out.drewN _).set1 _ (j + 1) (by omega))⟩
     ·have djk : ((j : Int) == (k : Int)) = false := beq_eq_false_iff_ne.2 (by omega)
      have e3 : (k : Int) < (s.size : Int) := by omega
      have hbk := btk s k
      by_cases h8 : bt s (k : Int) = 48
      ·have HX : Hid (s.size ≤ j ∨ isDigit (bt s (j : Int)) = false ∨ (j ≠ k ∧ bt s (k : Int) = 48)) := Lib.hid (.inr (.inr ⟨hjk, h8⟩))
       have d8 : (bt s (k : Int) != 48) = false := by simp [h8]
       clear h8 hdg
       have hkj : ((j : Int) == (k : Int)) = false := beq_eq_false_iff_ne.2 (by omega)
       have hst := HT.out.stop (HT.out.dig hjk) HX.out
       have hng : decide (n > most) = false := decide_eq_false (by omega)
       cases bg with
       | true =>
        have HN : Hid (R = (0, 0, [⟨nTerm, first, co⟩])) := Lib.hid (by rw [HR.out]; exact num_over (HT.out.dig hjk) (by rw [← hst.1]; exact HI.out.2.1 rfl))
        clear hst hjk
        go_wp2_with fail
        go_quiet (fail)
        go_wp2_with fail
        refine (rf_fail b s j d _ _ hj _ (HS.out.2.drewN _)).mono ?_
        rintro e w2 ⟨rfl, hO⟩
        have HO := Lib.hid (RfOut.from (HS.out.drewN _) hO)
        clear hO
        go_wp2_with fail
        go_ret
        rw [HN.out]
        exact ⟨n, rfl, hn0, hn1, fun e => (by cases e), HO.out⟩
       | false =>
        have HN : Hid (R = (n, j, [])) := Lib.hid (by rw [HR.out, num_ok (HT.out.dig hjk) (by rw [← hst.1, ← HI.out.1 rfl]; exact hn1), ← hst.1, ← HI.out.1 rfl])
        clear hst hjk
        go_wp2_with fail
        go_quiet (fail)
        go_wp2_with fail
        go_ret
        rw [HN.out]
        exact ⟨n, rfl, hn0, hn1, fun _ => rfl, .ok (HS.out.drewN _) hj⟩
      ·have d8 : (bt s (k : Int) != 48) = true := by simp [h8]
       have HTN := Lib.hid (HT.out.next hlt hdg (.inr h8))
       clear h8 hjk
       have hnn := HI.out
       have c0 : (0 : Int) ≤ c - 48 := by omega
       have c1 : c - 48 ≤ 9 := by omega
       cases bg with
       | true =>
        have HIN := Lib.hid (hnn.big HT.out.le hlt (by rw [HC.out]; omega) (by omega))
        clear hnn
        go_wp2_with fail
        go_quiet (fail)
        go_wp2_with fail
        go_quiet (fail)
        go_wp2_with fail
        go_roundg (s.size - (j + 1))
        case measure => rw [HK.out]; omega
        case rel => exact ⟨j + 1, n, true, rfl, rfl, rfl, by omega, hn0, hn1, HTN, HIN, Lib.hid ((HS.out.drewN _).set1 _ (j + 1) (by omega))⟩
       | false =>
        have hmi : min (c - 48) most = c - 48 := by omega
        by_cases hle : n ≤ (most - (c - 48)) / 10
        ·have dle : decide (n > (most - (c - 48)) / 10) = false := decide_eq_false (by omega)
         have HIN := Lib.hid (hnn.more HT.out.le hlt (by rw [HC.out]; omega) (by rw [HC.out]; exact hle))
         rw [HC.out] at HIN
         have hn2 : 0 ≤ n * 10 + (c - 48) := by omega
         have hn3 : n * 10 + (c - 48) ≤ most := by omega
         clear hnn
         go_wp2_with fail
         go_quiet (fail)
         go_wp2_with fail
         go_quiet (fail)
         go_wp2_with fail
         go_roundg (s.size - (j + 1))
         case measure => rw [HK.out]; omega
         case rel => exact ⟨j + 1, n * 10 + (c - 48), false, rfl, rfl, rfl, by omega, hn2, hn3, HTN, HIN, Lib.hid ((HS.out.drewN _).set1 _ (j + 1) (by omega))⟩
        ·have dle : decide (n > (most - (c - 48)) / 10) = true := decide_eq_true (by omega)
         have HIN := Lib.hid (hnn.over HT.out.le hlt (by rw [HC.out]; omega) (by rw [HC.out]; omega))
         clear hnn
         go_wp2_with fail
         go_quiet (fail)
         go_wp2_with fail
         go_quiet (fail)
         go_wp2_with fail
         go_roundg (s.size - (j + 1))
         case measure => rw [HK.out]; omega
         case rel => exact ⟨j + 1, n, true, rfl, rfl, rfl, by omega, hn0, hn1, HTN, HIN, Lib.hid ((HS.out.drewN _).set1 _ (j + 1) (by omega))⟩
    ·have d57 : decide (c ≤ 57) = false := decide_eq_false h57
     have HX : Hid (s.size ≤ j ∨ isDigit (bt s (j : Int)) = false ∨ (j ≠ k ∧ bt s (k : Int) = 48)) := Lib.hid (.inr (.inl (by rw [HC.out]; unfold isDigit; simp [h57])))
     by_cases hjk : j = k
     ·have HN : Hid (R = (0, 0, [⟨nTerm, (k : Int), 41⟩])) := Lib.hid (by rw [HR.out]; exact num_none (NumTo.none (by subst hjk; rcases HX.out with h | h | h; exact .inl h; exact .inr h; exact absurd rfl h.1)))
      subst hjk
      go_wp2_with fail
      go_quiet (fail)
      go_wp2_with fail
      refine (rf_fail b s j d _ _ hj _ (HS.out.2.drewN _)).mono ?_
      rintro e w2 ⟨rfl, hO⟩
      have HO := Lib.hid (RfOut.from (HS.out.drewN _) hO)
      clear hO
      go_wp2_with fail
      go_ret
      rw [HN.out]
      exact ⟨n, rfl, hn0, hn1, fun e => (by cases e), HO.out⟩
     ·have hkj : ((j : Int) == (k : Int)) = false := beq_eq_false_iff_ne.2 (by omega)
      have hst := HT.out.stop (HT.out.dig hjk) HX.out
      have hng : decide (n > most) = false := decide_eq_false (by omega)
      cases bg with
      | true =>
       have HN : Hid (R = (0, 0, [⟨nTerm, first, co⟩])) := Lib.hid (by rw [HR.out]; exact num_over (HT.out.dig hjk) (by rw [← hst.1]; exact HI.out.2.1 rfl))
       clear hst hjk
       go_wp2_with fail
       go_quiet (fail)
       go_wp2_with fail
       refine (rf_fail b s j d _ _ hj _ (HS.out.2.drewN _)).mono ?_
       rintro e w2 ⟨rfl, hO⟩
       have HO := Lib.hid (RfOut.from (HS.out.drewN _) hO)
       clear hO
       go_wp2_with fail
       go_ret
       rw [HN.out]
       exact ⟨n, rfl, hn0, hn1, fun e => (by cases e), HO.out⟩
      | false =>
       have HN : Hid (R = (n, j, [])) := Lib.hid (by rw [HR.out, num_ok (HT.out.dig hjk) (by rw [← hst.1, ← HI.out.1 rfl]; exact hn1), ← hst.1, ← HI.out.1 rfl])
       clear hst hjk
       go_wp2_with fail
       go_quiet (fail)
       go_wp2_with fail
       go_ret
       rw [HN.out]
       exact ⟨n, rfl, hn0, hn1, fun _ => rfl, .ok (HS.out.drewN _) hj⟩
   ·have d48 : decide (c ≥ 48) = false := decide_eq_false h48
    have HX : Hid (s.size ≤ j ∨ isDigit (bt s (j : Int)) = false ∨ (j ≠ k ∧ bt s (k : Int) = 48)) := Lib.hid (.inr (.inl (by rw [HC.out]; unfold isDigit; simp [h48])))
    by_cases hjk : j = k
    ·have HN : Hid (R = (0, 0, [⟨nTerm, (k : Int), 41⟩])) := Lib.hid (by rw [HR.out]; exact num_none (NumTo.none (by subst hjk; rcases HX.out with h | h | h; exact .inl h; exact .inr h; exact absurd rfl h.1)))
     subst hjk
     go_wp2_with fail
     go_quiet (fail)
     go_wp2_with fail
     refine (rf_fail b s j d _ _ hj _ (HS.out.2.drewN _)).mono ?_
     rintro e w2 ⟨rfl, hO⟩
     have HO := Lib.hid (RfOut.from (HS.out.drewN _) hO)
     clear hO
     go_wp2_with fail
     go_ret
     rw [HN.out]
     exact ⟨n, rfl, hn0, hn1, fun e => (by cases e), HO.out⟩
    ·have hkj : ((j : Int) == (k : Int)) = false := beq_eq_false_iff_ne.2 (by omega)
     have hst := HT.out.stop (HT.out.dig hjk) HX.out
     have hng : decide (n > most) = false := decide_eq_false (by omega)
     cases bg with
     | true =>
      have HN : Hid (R = (0, 0, [⟨nTerm, first, co⟩])) := Lib.hid (by rw [HR.out]; exact num_over (HT.out.dig hjk) (by rw [← hst.1]; exact HI.out.2.1 rfl))
      clear hst hjk
      go_wp2_with fail
      go_quiet (fail)
      go_wp2_with fail
      refine (rf_fail b s j d _ _ hj _ (HS.out.2.drewN _)).mono ?_
      rintro e w2 ⟨rfl, hO⟩
      have HO := Lib.hid (RfOut.from (HS.out.drewN _) hO)
      clear hO
      go_wp2_with fail
      go_ret
      rw [HN.out]
      exact ⟨n, rfl, hn0, hn1, fun e => (by cases e), HO.out⟩
     | false =>
      have HN : Hid (R = (n, j, [])) := Lib.hid (by rw [HR.out, num_ok (HT.out.dig hjk) (by rw [← hst.1, ← HI.out.1 rfl]; exact hn1), ← hst.1, ← HI.out.1 rfl])
      clear hst hjk
      go_wp2_with fail
      go_quiet (fail)
      go_wp2_with fail
      go_ret
      rw [HN.out]
      exact ⟨n, rfl, hn0, hn1, fun _ => rfl, .ok (HS.out.drewN _) hj⟩
  ·have e2 : decide ((j : Int) < (s.size : Int)) = false := decide_eq_false (by omega)
   have HX : Hid (s.size ≤ j ∨ isDigit (bt s (j : Int)) = false ∨ (j ≠ k ∧ bt s (k : Int) = 48)) := Lib.hid (.inl (by omega))
   by_cases hjk : j = k
   ·have HN : Hid (R = (0, 0, [⟨nTerm, (k : Int), 41⟩])) := Lib.hid (by rw [HR.out]; exact num_none (NumTo.none (by subst hjk; rcases HX.out with h | h | h; exact .inl h; exact .inr h; exact absurd rfl h.1)))
    subst hjk
    go_wp2_with fail
    go_quiet (fail)
    go_wp2_with fail
    refine (rf_fail b s j d _ _ hj _ (HS.out.2.drewN _)).mono ?_
    rintro e w2 ⟨rfl, hO⟩
    have HO := Lib.hid (RfOut.from (HS.out.drewN _) hO)
    clear hO
    go_wp2_with fail
    go_ret
    rw [HN.out]
    exact ⟨n, rfl, hn0, hn1, fun e => (by cases e), HO.out⟩
   ·have hkj : ((j : Int) == (k : Int)) = false := beq_eq_false_iff_ne.2 (by omega)
    have hst := HT.out.stop (HT.out.dig hjk) HX.out
    have hng : decide (n > most) = false := decide_eq_false (by omega)
    cases bg with
    | true =>
     have HN : Hid (R = (0, 0, [⟨nTerm, first, co⟩])) := Lib.hid (by rw [HR.out]; exact num_over (HT.out.dig hjk) (by rw [← hst.1]; exact HI.out.2.1 rfl))
     clear hst hjk
     go_wp2_with fail
     go_quiet (fail)
     go_wp2_with fail
     refine (rf_fail b s j d _ _ hj _ (HS.out.2.drewN _)).mono ?_
     rintro e w2 ⟨rfl, hO⟩
     have HO := Lib.hid (RfOut.from (HS.out.drewN _) hO)
     clear hO
     go_wp2_with fail
     go_ret
     rw [HN.out]
     exact ⟨n, rfl, hn0, hn1, fun e => (by cases e), HO.out⟩
    | false =>
     have HN : Hid (R = (n, j, [])) := Lib.hid (by rw [HR.out, num_ok (HT.out.dig hjk) (by rw [← hst.1, ← HI.out.1 rfl]; exact hn1), ← hst.1, ← HI.out.1 rfl])
     clear hst hjk
     go_wp2_with fail
     go_quiet (fail)
     go_wp2_with fail
     go_ret
     rw [HN.out]
     exact ⟨n, rfl, hn0, hn1, fun _ => rfl, .ok (HS.out.drewN _) hj⟩
end Go.Proofs.YtibbcfeaododhaaGreatDoor
set_option linter.unusedSimpArgs false
set_option linter.unusedVariables false
namespace Go.Proofs.YtibbcfeaododhaaGreatDoor
open Go.RowKit Go.Sort Go.Proofs.YtibbcfeaododhaaGreatDoorW.PrintWords
/-- An atom's text, where one begins. -/
def atomM (s : ByteArray) (k : Nat) : ByteArray × Nat × List Lk := if (aScan s k).2.2 = [] then ((aScan s k).1, (aScan s k).2.1, []) else (⟨#[]⟩, 0, overTm k (aScan s k).2.2)
def StrRE (w : World) (b : Nat) (s : ByteArray) (d : Nat) (r : ByteArray × Nat × List Lk) (e : Ending) (w' : World) : Prop := e = .returned (.string r.1) ∧ RfOut w b s d r.2.1 r.2.2 w'
set_option maxRecDepth 100000 in
set_option maxHeartbeats 4000000 in
theorem rf_atom (b : Nat) (s : ByteArray) (k d : Nat) (hk : k < s.size) (hm : s.size ≤ 4194304) (w : World) (hS : RfAt w b s k d (.slice none 0 0)) :
  Calls Tryz.prog 108 #[.pointer (some ⟨b, 0, none⟩)] w (StrRE w b s d (atomM s k)) := by
 obtain ⟨R, hR⟩ : ∃ R, R = atomM s k := ⟨_, rfl⟩
 rw [← hR]
 unfold atomM at hR
 have HR := Lib.hid hR
 have HSC := Lib.hid fun W => ref01_Scan s k (Nat.le_of_lt hk) (by omega) W
 have HQ := Lib.hid (aScan_range s k hk)
 have HLN := Lib.hid (aScan_len s k)
 have HS := Lib.hid hS
 have a0 := hS.c0
 have a1 := hS.c1
 have e1 : (0 : Int) ≤ (k : Int) := by omega
 clear hS hR
 have hne := fun (w : World) (a : Option Addr) (n c : Nat) => run_neq_slice_nil_any (P := Tryz.prog) w 32 69 a n c 0 0 Tryz.underlying32
 have heq := fun (w : World) (a : Option Addr) (n c : Nat) => Lib.run_eql_slice_nil (P := Tryz.prog) w 32 69 a n c 0 0 Tryz.underlying32
 have HK0 : Hid (w.cell? ⟨b, 0, none⟩ = some (.string s) ∧ w.cell? ⟨b, 1, none⟩ = some (.int .i64 (k : Int))) := Lib.hid ⟨a0, a1⟩
 have HK1 : Hid (w.drew.cell? ⟨b, 0, none⟩ = some (.string s) ∧ w.drew.cell? ⟨b, 1, none⟩ = some (.int .i64 (k : Int))) := Lib.hid ⟨a0, a1⟩
 generalize aScan s k = q at HR HSC HQ HLN
 obtain ⟨q1, q2, ql⟩ := q
 go_enter Tryz.func108, Tryz.ntmps108
 go_wp2_with fail
 go_region_held3 (fun w' => w'.cell? ⟨b, 0, none⟩ = some (.string s) ∧ w'.cell? ⟨b, 1, none⟩ = some (.int .i64 (k : Int))) (first | with_reducible exact HK0.out | with_reducible exact HK1.out | with_reducible exact HK2.out)
  ((first | (go_at_call 158; refine (HSC.out _).mono ?_; rintro e w2 ⟨v2, rfl, hL, hB⟩; have HT2 : Hid (RfTo w b s k d (.slice none 0 0) w2) := Lib.hid (((RfTo.refl HS.out).below (Below.refl _ _).drew).below hB); have HK2 : Hid (w2.cell? ⟨b, 0, none⟩ = some (.string s) ∧ w2.cell? ⟨b, 1, none⟩ = some (.int .i64 (k : Int))) := Lib.hid ⟨HT2.out.2.c0, HT2.out.2.c1⟩; have HL := Lib.hid hL; clear hL hB)))
 cases ql with
 | nil =>
  obtain rfl := HL.out.2 rfl
  have HN : Hid (R = (q1, q2, [])) := Lib.hid (by rw [HR.out, if_pos rfl])
  have a0 := HT2.out.2.c0
  have a1 := HT2.out.2.c1
  have f1 := HT2.out.2.f1
  clear HL HK2
  go_wp2_with fail
  go_ret
  rw [HN.out]
  exact ⟨rfl, .ok (HT2.out.set1 _ q2 rfl) (HQ.out (by trivial)).2⟩
 | cons x r =>
  have HN : Hid (R = (⟨#[]⟩, 0, overTm k (x :: r))) := Lib.hid (by rw [HR.out, if_neg (by simp)])
  obtain ⟨g, c, rfl, _, _⟩ := HL.out.headT
  have hlr : (x :: r).length ≤ 16 := by have := HLN.out; omega
  have HLR := Lib.hid hlr
  have a0 := HT2.out.2.c0
  have a1 := HT2.out.2.c1
  have a3 := HT2.out.2.c3
  clear HK2 hlr
  go_wp2_with fail
  refine (ref02_over k x r _ _ _ HL.out HLR.out).mono ?_
  rintro e w3 ⟨v3, rfl, hL, hB⟩
  obtain ⟨Aq, cq, hvq, _, _⟩ := hL.reads
  generalize hnq : List.length _ = nq at hvq
  clear hnq
  subst hvq
  have HT3 := Lib.hid (HT2.out.below hB)
  have HL3 := Lib.hid (hL.lower (base' := b + 1) HT2.out.2.lt)
  clear hL hB a0 a1 a3 HL
  have f3 := HT3.out.2.f3
  have a3 := HT3.out.2.c3
  go_wp2_with fail
  go_ret
  rw [HN.out]
  exact ⟨rfl, .bad (HT3.out.set3 (.slice Aq nq cq)) (Nat.le_of_lt hk) (HL3.out.grownR HT3.out.2 (grown_set _ _ _ _)) (by simp [overTm])⟩
end Go.Proofs.YtibbcfeaododhaaGreatDoor
