/-
 heddleref02's Reader: own. heddleref02's Reader: list. term's reader: begun. Plain: a reading goes forward. heddleref02's Reader: begun.
-/
import Derived.Test.YtibbcfeaododhaaGreatDoorG7
import Derived.Test.YtibbcfeaododhaaGreatDoorG5
import Derived.IntWalk
set_option linter.unusedSimpArgs false
set_option linter.unusedVariables false
namespace Go.Proofs.YtibbcfeaododhaaGreatDoor
open Go.RowKit Go.Sort Go.Proofs.YtibbcfeaododhaaGreatDoorW.PrintWords
theorem own_typedK {W : World} {base : Nat} {ok : Nat → Prop} {u : Value} {ns : List Int} (hn : kU.R tyU32 W base ok u ns) {g : Nat} (hu : u.ownBlock = some g) : ∃ c, W.heap[g]? = some (.cells c tyU32 (0, 0)) := own_typed (Kd.own_of_R hn) g hu
theorem LnIs.other {W W' : World} {base base' : Nat} {ok : Nat → Prop} {l : List Lk} {v u : Value} {ns : List Int} (h : LnIs W base l v) (hn : kU.R tyU32 W base' ok u ns) (hg : W.grownBy W' u.ownBlock) : LnIs W' base l v := by
 refine ⟨?_, h.2⟩
 cases hu : u.ownBlock with
 | none => rw [hu] at hg; exact Kd.R_mono (Kd.R_grown h.1 hg (fun k _ => by simp)) (fun _ _ => trivial)
 | some g =>
  rw [hu] at hg
  obtain ⟨c, hc⟩ := own_typedK hn hu
  exact Kd.R_mono (Kd.R_grown (Kd.R_types h.1 hc (by decide)) hg (fun k hk => by simpa using hk.2)) (fun _ _ => trivial)
theorem LnIs.setTm {W : World} {base g : Nat} {l : List Lk} {v : Value} {c : Array Value} (h : LnIs W base l v) (hc : W.heap[g]? = some (.cells c tyTm (0, 0))) (o : Nat) (x : Value) : LnIs (W.setCell ⟨g, o, none⟩ x) base l v :=
 ⟨Kd.R_mono (Kd.R_grown (Kd.R_types h.1 hc (by decide)) (grown_set W g o x) (fun k hk => by simpa using hk.2)) (fun _ _ => trivial), h.2⟩
theorem tmAt_box {W : World} {b : Nat} {a : Tm} {v4 v5 : Value} (e : W.heap[b]? = some (.cells #[.int .i64 a.kd, .int .i64 a.it, .string a.tx, .int .u32 a.cr, v4, v5] tyTm (0, 0))) : TmAt W b a v4 v5 := by
 constructor <;> simp [World.cell?, World.frozen?, e]
theorem RfF.far {w W W' : World} {b g : Nat} {s : ByteArray} {k d : Nat} {v : Value} (h : RfF w W b s k d v) (hg : W.grownBy W' (some g)) (h1 : w.heap.size < g) : RfF w W' b s k d v :=
 ⟨⟨h.rd.1.andThen hg (fun j hj => .inl (by injection hj with hj; omega)), ⟨(hg.block b h.rd.2.lt (by have := h.lt; simp; omega)).trans h.rd.2.h⟩⟩, (hg.block _ (Array.getElem?_eq_some_iff.1 h.bx).1 (by simp; omega)).trans h.bx, h.lt⟩
/-- The reader, the result's box, and the term in the making in block g. -/
structure OwnF (w W : World) (b : Nat) (s : ByteArray) (k d : Nat) (v : Value) (g : Nat) (t : Tm) (v4 : Value) : Prop where
 f : RfF w W b s k d v
 bx : W.heap[g]? = some (.cells #[.int .i64 t.kd, .int .i64 t.it, .string t.tx, .int .u32 t.cr, v4, vNone] tyTm (0, 0))
 n : kU.R tyU32 W (w.heap.size + 1) (fun j => j ≠ g ∧ j ≠ b) v4 t.nums
 hg : w.heap.size < g
theorem OwnF.ta {w W : World} {b : Nat} {s : ByteArray} {k d g : Nat} {v v4 : Value} {t : Tm} (h : OwnF w W b s k d v g t v4) : TmAt W g t v4 vNone := tmAt_box h.bx
theorem OwnF.lt {w W : World} {b : Nat} {s : ByteArray} {k d g : Nat} {v v4 : Value} {t : Tm} (h : OwnF w W b s k d v g t v4) : g < W.heap.size := (Array.getElem?_eq_some_iff.1 h.bx).1
theorem OwnF.start {w W : World} {b : Nat} {s : ByteArray} {k d : Nat} {v : Value} (h : RfF w W b s k d v) (kd : Int) : OwnF w (W.alloc (.cells #[.int .i64 kd, .int .i64 0, .string ⟨#[]⟩, .int .u32 0, .slice none 0 0, .slice none 0 0] 27)) b s k d v W.heap.size ⟨kd, 0, ⟨#[]⟩, 0, [], []⟩ vNone :=
 ⟨h.below (below_alloc (Below.refl _ _) _), heap_alloc_new W _, Kd.R_nil _ _ _ _ _, (Array.getElem?_eq_some_iff.1 h.bx).1⟩
theorem OwnF.step {w W W' : World} {b : Nat} {s : ByteArray} {k d k2 d2 g : Nat} {v v2 v4 : Value} {t : Tm} (h : OwnF w W b s k d v g t v4) (h2 : RfTo W b s k2 d2 v2 W') : OwnF w W' b s k2 d2 v2 g t v4 :=
 ⟨h.f.step h2, (h2.1.block g h.lt (by have := h.hg; have := h.f.lt; simp; omega)).trans h.bx, Kd.R_grown h.n h2.1 (fun k hk => by simp; exact hk.2), h.hg⟩
theorem OwnF.tx {w W : World} {b : Nat} {s : ByteArray} {k d g : Nat} {v v4 : Value} {t : Tm} (h : OwnF w W b s k d v g t v4) (x : ByteArray) : OwnF w (W.setCell ⟨g, 2, none⟩ (.string x)) b s k d v g ⟨t.kd, t.it, x, t.cr, t.nums, t.args⟩ v4 := by
 refine ⟨h.f.far (grown_set _ _ _ _) h.hg, ?_, Kd.R_far h.n (p := ⟨g, 2, none⟩) (fun k hk => hk.1) _, h.hg⟩
 have hl := h.lt
 have e := h.bx
 simp only [World.setCell]
 rw [Array.getElem?_modify]
 simp [e]
theorem OwnF.cr {w W : World} {b : Nat} {s : ByteArray} {k d g : Nat} {v v4 : Value} {t : Tm} (h : OwnF w W b s k d v g t v4) (c : Int) : OwnF w (W.setCell ⟨g, 3, none⟩ (.int .u32 c)) b s k d v g ⟨t.kd, t.it, t.tx, c, t.nums, t.args⟩ v4 := by
 refine ⟨h.f.far (grown_set _ _ _ _) h.hg, ?_, Kd.R_far h.n (p := ⟨g, 3, none⟩) (fun k hk => hk.1) _, h.hg⟩
 have hl := h.lt
 have e := h.bx
 simp only [World.setCell]
 rw [Array.getElem?_modify]
 simp [e]
theorem OwnF.same {w W W' : World} {b : Nat} {s : ByteArray} {k d g : Nat} {v v4 : Value} {t : Tm} (h : OwnF w W b s k d v g t v4) (hg : W.grownBy W' v4.ownBlock) : W'.heap[g]? = W.heap[g]? := hg.block g h.lt (fun e => (h.n.1 g e.symm).1 rfl)
theorem OwnF.ns {w W W' : World} {b : Nat} {s : ByteArray} {k d g : Nat} {v v4 u4 : Value} {t : Tm} (h : OwnF w W b s k d v g t v4) (hb : Below (w.heap.size + 1) W W') (hg : W.grownBy W' v4.ownBlock) (ns : List Int) (hn : kU.R tyU32 W' (w.heap.size + 1) (fun j => j ≠ g ∧ j ≠ b) u4 ns) :
  OwnF w (W'.setCell ⟨g, 4, none⟩ u4) b s k d v g ⟨t.kd, t.it, t.tx, t.cr, ns, t.args⟩ u4 := by
 have hne2 : some b ≠ v4.ownBlock := fun e => (h.n.1 b e.symm).2 rfl
 have e := h.same hg
 have e2 : W'.heap[b]? = W.heap[b]? := hg.block b h.f.rd.2.lt hne2
 have hlt := h.lt
 have hF : RfF w W' b s k d v := by
  refine ⟨⟨h.f.rd.1.andThen hg (fun j hj => .inl ?_), ⟨e2.trans h.f.rd.2.h⟩⟩, (hb.block _ (Nat.lt_succ_self _)).trans h.f.bx, h.f.lt⟩
  have := Kd.R_base h.n j hj
  omega
 refine ⟨hF.far (grown_set _ _ _ _) h.hg, ?_, Kd.R_far hn (p := ⟨g, 4, none⟩) (fun k hk => hk.1) _, h.hg⟩
 have e3 := e.trans h.bx
 simp only [World.setCell]
 rw [Array.getElem?_modify]
 simp [e3]
theorem OwnF.ln {w W W' : World} {b : Nat} {s : ByteArray} {k d g base : Nat} {v v4 u : Value} {t : Tm} {l : List Lk} (h : OwnF w W b s k d v g t v4) (hg : W.grownBy W' v4.ownBlock) (hl : LnIs W base l u) (x : Value) : LnIs (W'.setCell ⟨g, 4, none⟩ x) base l u :=
 (hl.other h.n hg).setTm ((h.same hg).trans h.bx) 4 x
theorem own_cell4 {w W W' : World} {b : Nat} {s : ByteArray} {k d g : Nat} {v v4 : Value} {t : Tm} (h : OwnF w W b s k d v g t v4) (hg : W.grownBy W' v4.ownBlock) : W'.cell? ⟨g, 4, none⟩ = some v4 := by
 have e := (h.same hg).trans h.bx
 simp [World.cell?, e]
theorem own_froz4 {w W W' : World} {b : Nat} {s : ByteArray} {k d g : Nat} {v v4 : Value} {t : Tm} (h : OwnF w W b s k d v g t v4) (hg : W.grownBy W' v4.ownBlock) : W'.frozen? ⟨g, 4, none⟩ = false := by
 have e := (h.same hg).trans h.bx
 simp [World.frozen?, e]
theorem OwnF.made {w W : World} {b : Nat} {s : ByteArray} {k d g : Nat} {v v4 : Value} {t : Tm} (h : OwnF w W b s k d v g t v4) (ht : t.args = []) : TmMade W (w.heap.size + 1) t (tmV t v4 vNone) :=
 ⟨_, _, rfl, Kd.R_mono h.n (fun _ _ => trivial), by rw [ht]; exact Kd.R_nil _ _ _ _ _⟩
theorem numM_at (s : ByteArray) (k : Nat) : numM s k 4294967295 41 (k : Int) = numAt s k := rfl
theorem atomM_at {s : ByteArray} {k : Nat} (h : begAtom s k = true) : atomM s k = atomAt s k := by
 unfold atomAt
 rw [if_neg (by simp [h])]
 unfold atomM
 generalize aScan s k = q
 obtain ⟨a, e, l⟩ := q
 cases l <;> simp
theorem atomAt_no {s : ByteArray} {k : Nat} (h : begAtom s k = false) : atomAt s k = (⟨#[]⟩, 0, [⟨nTerm, k, 41⟩]) := by
 unfold atomAt
 rw [if_pos h]
/-- What holds at the loop's head: so many numbers are read, or there is a fault. -/
def OwnSt (R : Rd) (W : World) (b : Nat) (s : ByteArray) (k : Nat) (kd : Int) (nm : ByteArray) (many i : Nat) (v : Value) (z : Tm) : Prop :=
 (∃ acc : List Int, v = .slice none 0 0 ∧ acc.length = i ∧ z = ⟨kd, 0, nm, acc.headD 0, acc.tail, []⟩ ∧ R = farEnd s kd nm (numExt acc (numsAt s (many + 1 - i) k))) ∨
 (∃ (t0 : Tm) (e : Nat) (l : List Lk), l ≠ [] ∧ LnIs W (b + 1) l v ∧ R = (t0, e, l))
set_option maxRecDepth 100000 in
set_option maxHeartbeats 8000000 in
theorem rf_own (b : Nat) (s : ByteArray) (k0 d bd : Nat) (kd : Int) (many : Nat) (hmy : many ≤ 3) (h0 : k0 ≤ s.size) (hm : s.size ≤ 4194304) (w : World) (hS : RfAt w b s k0 d (.slice none 0 0)) :
  Calls Tryz.prog 109 #[.pointer (some ⟨b, 0, none⟩), .int .i64 kd, .int .i64 (many : Int)] w (RfTm w b s d bd (farAt s k0 kd many)) := by
 obtain ⟨R, hR⟩ : ∃ R, R = farAt s k0 kd many := ⟨_, rfl⟩
 rw [← hR]
 rw [farAt_eq] at hR
 have HR0 := Lib.hid hR
 have HSM := Lib.hid (atomAt_small s k0)
 clear hR
 have hne := fun (w : World) (a : Option Addr) (n c : Nat) => run_neq_slice_nil_any (P := Tryz.prog) w 32 69 a n c 0 0 Tryz.underlying32
 have heq := fun (w : World) (a : Option Addr) (n c : Nat) => Lib.run_eql_slice_nil (P := Tryz.prog) w 32 69 a n c 0 0 Tryz.underlying32
 obtain ⟨w1, hw1⟩ : ∃ W, W = w.alloc (.cells #[.int .i64 0, .int .i64 0, .string ⟨#[]⟩, .int .u32 0, .slice none 0 0, .slice none 0 0] 27) := ⟨_, rfl⟩
 have hF : RfF w w1 b s k0 d (.slice none 0 0) := by rw [hw1]; exact RfF.start hS
 have HF := Lib.hid hF
 clear hS hF
 go_enter Tryz.func109, Tryz.ntmps109
 go_upto_region 1 with (fail)
 rw [← hw1]
 clear hw1
 go_upto_region 2 with (fail)
 have HO := Lib.hid (OwnF.start HF.out kd)
 generalize w1.alloc (.cells #[.int .i64 kd, .int .i64 0, .string ⟨#[]⟩, .int .u32 0, .slice none 0 0, .slice none 0 0] 27) = w2 at HO ⊢
 generalize w1.heap.size = g at HO ⊢
 clear HF
 go_wp2_with fail
 refine (rf_begins b s k0 d _ h0 hm w2 HO.out.f.rd.2).mono ?_
 rintro e w3 ⟨rfl, n3, rfl⟩
 replace HO := Lib.hid (HO.out.step ((RfTo.refl HO.out.f.rd.2).drewN n3))
 generalize w2.drewN n3 = w3 at HO ⊢
 cases hbg : begAtom s k0 with
 | false =>
  have HR : Hid (R = (zTm, 0, [⟨nTerm, k0, 41⟩])) := Lib.hid (HR0.out.trans (by rw [atomAt_no hbg]; simp))
  clear hbg
  have a1 := HO.out.f.rd.2.c1
  go_wp2_with fail
  refine (rf_fail b s k0 d _ _ h0 w3 HO.out.f.rd.2).mono ?_
  rintro e w4 ⟨rfl, k4, v4, hT, hk4, hL, _⟩
  have HO4 := Lib.hid (HO.out.step hT)
  have HL := Lib.hid hL
  clear hT hL a1
  unfold vZero
  obtain ⟨r0, r1, r2, r3, r4, r5, g0, g1, g2, g3, g4, g5⟩ := HO4.out.f.tm
  simp only [zTm] at r0 r1 r2 r3 r4 r5
  go_wp2_with fail
  refine bodyPost_ret (resTm rfl _ _ w.heap.size zTm _ _ (by rfl) (HO4.out.f.tm.put zTm _ _)) rfl ?_
  rw [HR.out]
  exact HO4.out.f.none zTm zTm (TmMade.zero _ _) HL.out (by simp) hk4
 | true =>
  have hlt : k0 < s.size := by unfold begAtom at hbg; rw [Bool.and_eq_true, decide_eq_true_eq] at hbg; exact hbg.1
  have HA := Lib.hid (rf_atom b s k0 d hlt hm w3 HO.out.f.rd.2)
  rw [atomM_at hbg] at HA
  clear hbg
  generalize atomAt s k0 = q at HR0 HSM HA
  obtain ⟨nm, e0, l⟩ := q
  have a1 := HO.out.f.rd.2.c1
  go_wp2_with fail
  refine HA.out.mono ?_
  rintro e w4 ⟨rfl, k4, v4, hT, hk4, hL, hk2⟩
  have HO4 := Lib.hid (HO.out.step hT)
  have HL := Lib.hid hL
  clear hT hL a1 HA HO
  have t2 := HO4.out.ta.c2
  have q2 := HO4.out.ta.f2
  go_upto_region 6 with (fail)
  have HO5 := Lib.hid (HO4.out.tx nm)
  replace HL := Lib.hid (HL.out.setTm HO4.out.bx 2 (.string nm))
  clear t2 q2 HO4
  simp only at HO5
  generalize w4.setCell ⟨g, 2, none⟩ (.string nm) = w5 at HO5 HL ⊢
  cases l with
  | cons x r =>
   have HR : Hid (R = (zTm, 0, x :: r)) := Lib.hid (HR0.out.trans (by rw [if_neg (by simp)]))
   obtain ⟨g2, c2, rfl, _, _⟩ := HL.out.headT
   have a3 := HO5.out.f.rd.2.c3
   have t0 := HO5.out.ta.c0
   have t1 := HO5.out.ta.c1
   have t2 := HO5.out.ta.c2
   have t3 := HO5.out.ta.c3
   have t4 := HO5.out.ta.c4
   have t5 := HO5.out.ta.c5
   obtain ⟨r0, r1, r2, r3, r4, r5, g0, g1, g2, g3, g4, g5⟩ := HO5.out.f.tm
   simp only [zTm] at r0 r1 r2 r3 r4 r5
   go_wp2_with fail
   refine bodyPost_ret (resTm rfl _ _ w.heap.size ⟨kd, 0, nm, 0, [], []⟩ _ _ (by rfl) (HO5.out.f.tm.put ⟨kd, 0, nm, 0, [], []⟩ _ _)) rfl ?_
   rw [HR.out]
   exact HO5.out.f.none _ _ (HO5.out.made rfl) HL.out (by simp) hk4
  | nil =>
   obtain rfl := HL.out.2 rfl
   obtain rfl := hk2 (by trivial)
   have HN := Lib.hid (ref01_Node nm (by have := HSM.out; omega) w5)
   have a3 := HO5.out.f.rd.2.c3
   have t2 := HO5.out.ta.c2
   clear HL hk2
   go_wp2_with fail
   refine HN.out.mono ?_
   rintro e w6 ⟨x1, x2, nv, rfl, hNE, hB6⟩
   have HO6 := Lib.hid (HO5.out.step ((RfTo.refl HO5.out.f.rd.2).below hB6))
   have HNE := Lib.hid (hNE.lower (base' := b + 1) HO5.out.f.rd.2.lt)
   clear hB6 hNE HN a3 t2 HO5
   cases hok : nodeOk nm with
   | false =>
    have hnb : nodeBad nm = [⟨nAtom, 0, 24⟩] := by unfold nodeBad; rw [if_neg (by simp [hok])]
    rw [hnb] at HNE
    have HR : Hid (R = (zTm, 0, overTm k0 [⟨nAtom, 0, 24⟩])) := Lib.hid (HR0.out.trans (by simp [hok, hnb]))
    obtain ⟨g2, c2, rfl, _, _⟩ := HNE.out.headT
    clear hnb hok
    go_wp2_with fail
    refine (ref02_over k0 _ [] _ _ _ HNE.out (by simp)).mono ?_
    rintro e w7 ⟨v7, rfl, hL, hB7⟩
    obtain ⟨Aq, cq, hvq, _, _⟩ := hL.reads
    generalize hnq : List.length _ = nq at hvq
    clear hnq
    subst hvq
    have HO7 := Lib.hid (HO6.out.step ((RfTo.refl HO6.out.f.rd.2).below hB7))
    have HL7 := Lib.hid (hL.lower (base' := b + 1) HO6.out.f.rd.2.lt)
    clear hL hB7 HO6
    have a3 := HO7.out.f.rd.2.c3
    have f3 := HO7.out.f.rd.2.f3
    go_upto_region 11 with (fail)
    have HO8 := Lib.hid (HO7.out.step ((RfTo.refl HO7.out.f.rd.2).set3 (.slice Aq nq cq)))
    replace HL7 := Lib.hid (HL7.out.grownR HO7.out.f.rd.2 (grown_set _ _ 3 (.slice Aq nq cq)))
    clear a3 f3 HO7
    generalize w7.setCell ⟨b, 3, none⟩ (.slice Aq nq cq) = w8 at HO8 HL7 ⊢
    have t0 := HO8.out.ta.c0
    have t1 := HO8.out.ta.c1
    have t2 := HO8.out.ta.c2
    have t3 := HO8.out.ta.c3
    have t4 := HO8.out.ta.c4
    have t5 := HO8.out.ta.c5
    obtain ⟨r0, r1, r2, r3, r4, r5, g0, g1, g2, g3, g4, g5⟩ := HO8.out.f.tm
    simp only [zTm] at r0 r1 r2 r3 r4 r5
    go_wp2_with fail
    refine bodyPost_ret (resTm rfl _ _ w.heap.size ⟨kd, 0, nm, 0, [], []⟩ _ _ (by rfl) (HO8.out.f.tm.put ⟨kd, 0, nm, 0, [], []⟩ _ _)) rfl ?_
    rw [HR.out]
    exact HO8.out.f.none _ _ (HO8.out.made rfl) HL7.out (by simp [overTm]) hk4
   | true =>
    have hnb : nodeBad nm = [] := by unfold nodeBad; rw [if_pos hok]
    rw [hnb] at HNE
    obtain rfl := HNE.out.2 rfl
    have HR : Hid (R = farEnd s kd nm (numExt [] (numsAt s (many + 1) k4))) := Lib.hid (HR0.out.trans (by simp [hok, numExt_nil]))
    clear hnb hok HNE HR0
    go_wp2_with fail
    go_loopg [12] (many + 1) (fun gk vi wl => ∃ (i k : Nat) (v v4 : Value) (z : Tm), vi = .int .i64 (i : Int) ∧ gk = many + 1 - i ∧ i ≤ many + 1 ∧ k ≤ s.size ∧ Hid (z.args = []) ∧ Hid (OwnF w wl b s k d v g z v4) ∧ Hid (OwnSt R wl b s k kd nm many i v z))
    case atStart => exact ⟨0, k4, _, vNone, ⟨kd, 0, nm, 0, [], []⟩, rfl, rfl, by omega, hk4, Lib.hid rfl, HO6, Lib.hid (.inl ⟨[], rfl, rfl, rfl, HR.out⟩)⟩
    case round =>
     clear HR HO6 HSM
     obtain ⟨i, k, v, v4, z, rfl, hgk, hi, hk, HZ, HO, HST⟩ := hrel
     have HK := Lib.hid hgk
     clear hgk
     rcases HST.out with ⟨acc, rfl, hla, rfl, hR⟩ | ⟨t0, e, l, hl, hL, hR⟩
     ·clear HST
      have HR := Lib.hid hR
      clear hR
      have a3 := HO.out.f.rd.2.c3
      by_cases him : i ≤ many
      ·obtain ⟨n, hn⟩ : ∃ n, many + 1 - i = n + 1 := ⟨many - i, by omega⟩
       have HR1 := HR.out
       rw [hn] at HR1
       have HQ1 := Lib.hid HR1
       have HNN := Lib.hid hn
       clear HR1 hn
       have HM := Lib.hid (rf_must b s k d 46 hk hm wr HO.out.f.rd.2)
       go_wp2_with fail
       refine HM.out.mono ?_
       rintro e w7 ⟨rfl, k7, v7, hT, hk7, hL, hk2⟩
       have HO7 := Lib.hid (HO.out.step hT)
       have HL := Lib.hid hL
       clear hT hL a3 HM HO
       cases hdot : isAt s k 46 with
       | false =>
        have HR2 : Hid (R = (zTm, 0, [⟨nTerm, k, 41⟩])) := Lib.hid (by rw [HQ1.out, nums_fail1 n acc hdot]; rfl)
        have hml : mustL s k 46 = [⟨nTerm, k, 41⟩] := by unfold mustL; rw [if_neg (by rw [hdot]; simp)]
        rw [hml] at HL
        obtain ⟨g2, c2, rfl, _, _⟩ := HL.out.headT
        generalize acc.headD 0 = cr at HO7
        generalize acc.tail = ns at HO7
        have hn4 := HO7.out.n
        obtain ⟨A4, c4, rfl⟩ := Kd.R_slice hn4
        clear hn4 hml hdot hk2
        have a3 := HO7.out.f.rd.2.c3
        have t0 := HO7.out.ta.c0
        have t1 := HO7.out.ta.c1
        have t2 := HO7.out.ta.c2
        have t3 := HO7.out.ta.c3
        have t4 := HO7.out.ta.c4
        have t5 := HO7.out.ta.c5
        obtain ⟨r0, r1, r2, r3, r4, r5, g0, g1, g2, g3, g4, g5⟩ := HO7.out.f.tm
        simp only [zTm] at r0 r1 r2 r3 r4 r5
        simp only at t0 t1 t2 t3 t4 t5
        go_wp2_with fail
        refine bodyPost_ret (resTm rfl _ _ w.heap.size ⟨kd, 0, nm, cr, ns, []⟩ _ _ (by rfl) (HO7.out.f.tm.put ⟨kd, 0, nm, cr, ns, []⟩ _ _)) rfl ?_
        rw [HR2.out]
        exact HO7.out.f.none _ _ (HO7.out.made rfl) HL.out (by simp) hk7
       | true =>
        have hml : mustL s k 46 = [] := by unfold mustL; rw [if_pos hdot]
        rw [hml] at HL hk2
        obtain rfl := HL.out.2 rfl
        obtain rfl := hk2 rfl
        clear HL hml hk2
        have HNM := Lib.hid (rf_number b s (k + 1) d 4294967295 41 ((k + 1 : Nat) : Int) hk7 hm (by omega) (by omega) w7 HO7.out.f.rd.2)
        rw [numM_at] at HNM
        have HSN := Lib.hid (nums_step (k := k) n acc hdot)
        have HFL := Lib.hid (nums_fail2 (k := k) n acc hdot)
        generalize numAt s (k + 1) = q at HNM HSN HFL
        obtain ⟨nv, ne, nl⟩ := q
        have a1 := HO7.out.f.rd.2.c1
        have a3 := HO7.out.f.rd.2.c3
        clear hdot
        go_wp2_with fail
        refine HNM.out.mono ?_
        rintro e w8 ⟨n8, rfl, hn0, hn1, hnv, k8, v8, hT, hk8, hL, hk2⟩
        have HO8 := Lib.hid (HO7.out.step hT)
        have HL := Lib.hid hL
        have hwr : IntKind.u32.wrap n8 = n8 := IntWalk.u32_in _ (by omega)
        clear hT hL a1 a3 HNM HO7
        cases nl with
        | cons x r =>
         have HR2 : Hid (R = (zTm, 0, x :: r)) := Lib.hid (by rw [HQ1.out, HFL.out (by simp)]; simp [farEnd])
         clear hnv hk2 HSN HFL
         have t3 := HO8.out.ta.c3
         have t4 := HO8.out.ta.c4
         have q3 := HO8.out.ta.f3
         have q4 := HO8.out.ta.f4
         by_cases hi0 : i = 0
         rotate_left
         have d2 : ((i : Int) == 0) = false := by simp [hi0]
         rotate_left
         have d2 : ((i : Int) == 0) = true := by simp [hi0]
         have hacc : acc = [] := List.length_eq_zero_iff.1 (by omega)
         subst hacc
         have HO9 : Hid (OwnF w (w8.setCell ⟨g, 3, none⟩ (.int .u32 n8)) b s k8 d _ g ⟨kd, 0, nm, n8, [], []⟩ v4) := Lib.hid (HO8.out.cr n8)
         ·go_wp2_with fail
          go_roundg (many + 1 - (i + 1))
          case measure => rw [HK.out]; omega
          case rel => exact ⟨i + 1, k8, v8, v4, _, by go_num, rfl, by omega, hk8, Lib.hid rfl, HO9, Lib.hid (.inr ⟨zTm, 0, x :: r, by simp, HL.out.setTm HO8.out.bx 3 _, HR2.out⟩)⟩
         ·have HFR : Hid (∀ j, w8.heap.size ≤ j → j ≠ g ∧ j ≠ b) := Lib.hid fun j hj => by
           have h1 := HO8.out.lt
           have h2 := HO8.out.f.rd.2.lt
           omega
          have HBS : Hid (w.heap.size + 1 ≤ w8.heap.size) := Lib.hid HO8.out.f.tm.lt
          have hla4 : (acc.tail.length + 1) * 4 ≤ 140737488355328 := by rw [List.length_tail]; omega
          go_wp2_with (at_builtin; refine Kd.R_append kU (w0 := w8) (w.heap.size + 1) rfl (.tmp 86) (.tmp 88) 24 23 (.int .u32 0) 4 rfl Tryz.underlying24 infoU32 rfl (by decide) (by decide) v4 acc.tail n8 [.int .u32 n8] (fun j => j ≠ g ∧ j ≠ b) (fun _ => False) ?hs ?hx ?hp ?hok ?hfr ?hO ?hB ?hbs ?hl ?_; (case hs => rfl); (case hx => first | rfl | (simp [Act.eval]; done)); (case hp => rfl); (case hok => exact fun _ hk => hk.elim); (case hfr => exact HFR.out); (case hO => exact HO8.out.n); (case hB => exact Below.refl _ _); (case hbs => exact HBS.out); (case hl => exact hla4); intro v1 w9 ho hb hg hat; obtain ⟨N9, hN9⟩ : ∃ N, N = acc.tail ++ [n8] := ⟨_, rfl⟩; rw [← hN9] at ho; obtain ⟨A1, c1, rfl⟩ := Kd.R_slice ho; have r9 : w9.cell? ⟨g, 4, none⟩ = some v4 := own_cell4 HO8.out hg; have q9 : w9.frozen? ⟨g, 4, none⟩ = false := own_froz4 HO8.out hg; have HON := Lib.hid (HO8.out.ns hb hg N9 ho); have HLN := Lib.hid (HO8.out.ln hg HL.out (.slice A1 N9.length c1)); have HN9 := Lib.hid hN9; clear ho hb hg hat t4 q4 hN9)
          go_roundg (many + 1 - (i + 1))
          case measure => rw [HK.out]; omega
          case rel => exact ⟨i + 1, k8, v8, _, _, by go_num, rfl, by omega, hk8, Lib.hid rfl, HON, Lib.hid (.inr ⟨zTm, 0, x :: r, by simp, HLN.out, HR2.out⟩)⟩
        | nil =>
         obtain rfl := HL.out.2 rfl
         obtain rfl := hk2 (by trivial)
         obtain rfl := hnv (by trivial)
         have HR2 : Hid (R = farEnd s kd nm (numExt (acc ++ [n8]) (numsAt s n k8))) := Lib.hid (by rw [HQ1.out]; exact congrArg _ (HSN.out (by trivial)))
         clear hnv hk2 HSN HFL
         have t3 := HO8.out.ta.c3
         have t4 := HO8.out.ta.c4
         have q3 := HO8.out.ta.f3
         have q4 := HO8.out.ta.f4
         by_cases hi0 : i = 0
         rotate_left
         have d2 : ((i : Int) == 0) = false := by simp [hi0]
         rotate_left
         have d2 : ((i : Int) == 0) = true := by simp [hi0]
         have hacc : acc = [] := List.length_eq_zero_iff.1 (by omega)
         subst hacc
         have HO9 : Hid (OwnF w (w8.setCell ⟨g, 3, none⟩ (.int .u32 n8)) b s k8 d _ g ⟨kd, 0, nm, n8, [], []⟩ v4) := Lib.hid (HO8.out.cr n8)
         ·go_wp2_with fail
          go_roundg (many + 1 - (i + 1))
          case measure => rw [HK.out]; omega
          case rel => exact ⟨i + 1, k8, _, v4, _, by go_num, rfl, by omega, hk8, Lib.hid rfl, HO9, Lib.hid (.inl ⟨[n8], rfl, by simp [hi0], rfl, by rw [show many + 1 - (i + 1) = n by have := HNN.out; omega]; exact HR2.out⟩)⟩
         ·have HFR : Hid (∀ j, w8.heap.size ≤ j → j ≠ g ∧ j ≠ b) := Lib.hid fun j hj => by
           have h1 := HO8.out.lt
           have h2 := HO8.out.f.rd.2.lt
           omega
          have HBS : Hid (w.heap.size + 1 ≤ w8.heap.size) := Lib.hid HO8.out.f.tm.lt
          have hla4 : (acc.tail.length + 1) * 4 ≤ 140737488355328 := by rw [List.length_tail]; omega
          go_wp2_with (at_builtin; refine Kd.R_append kU (w0 := w8) (w.heap.size + 1) rfl (.tmp 86) (.tmp 88) 24 23 (.int .u32 0) 4 rfl Tryz.underlying24 infoU32 rfl (by decide) (by decide) v4 acc.tail n8 [.int .u32 n8] (fun j => j ≠ g ∧ j ≠ b) (fun _ => False) ?hs ?hx ?hp ?hok ?hfr ?hO ?hB ?hbs ?hl ?_; (case hs => rfl); (case hx => first | rfl | (simp [Act.eval]; done)); (case hp => rfl); (case hok => exact fun _ hk => hk.elim); (case hfr => exact HFR.out); (case hO => exact HO8.out.n); (case hB => exact Below.refl _ _); (case hbs => exact HBS.out); (case hl => exact hla4); intro v1 w9 ho hb hg hat; obtain ⟨N9, hN9⟩ : ∃ N, N = acc.tail ++ [n8] := ⟨_, rfl⟩; rw [← hN9] at ho; obtain ⟨A1, c1, rfl⟩ := Kd.R_slice ho; have r9 : w9.cell? ⟨g, 4, none⟩ = some v4 := own_cell4 HO8.out hg; have q9 : w9.frozen? ⟨g, 4, none⟩ = false := own_froz4 HO8.out hg; have HON := Lib.hid (HO8.out.ns hb hg N9 ho); have HLN := Lib.hid (HO8.out.ln hg HL.out (.slice A1 N9.length c1)); have HN9 := Lib.hid hN9; clear ho hb hg hat t4 q4 hN9)
          go_roundg (many + 1 - (i + 1))
          case measure => rw [HK.out]; omega
          case rel =>
           have ht : (acc ++ [n8]).tail = acc.tail ++ [n8] ∧ (acc ++ [n8]).headD 0 = acc.headD 0 := by
            cases acc with
            | nil => exact absurd hla.symm hi0
            | cons x r => exact ⟨rfl, rfl⟩
           exact ⟨i + 1, k8, _, _, _, by go_num, rfl, by omega, hk8, Lib.hid rfl, HON, Lib.hid (.inl ⟨acc ++ [n8], rfl, by rw [List.length_append, hla]; rfl, by rw [ht.1, ht.2, HN9.out], by rw [show many + 1 - (i + 1) = n by have := HNN.out; omega]; exact HR2.out⟩)⟩
      ·have HR1 := HR.out
       rw [show many + 1 - i = 0 by omega, nums_done] at HR1
       unfold farEnd at HR1
       rw [if_pos rfl] at HR1
       have HQ1 := Lib.hid HR1
       clear HR1
       have HM := Lib.hid (rf_must b s k d 62 hk hm wr HO.out.f.rd.2)
       go_wp2_with fail
       refine HM.out.mono ?_
       rintro e w7 ⟨rfl, k7, v7, hT, hk7, hL, hk2⟩
       have HO7 := Lib.hid (HO.out.step hT)
       have HL := Lib.hid hL
       clear hT hL a3 HM HO
       generalize acc.headD 0 = cr at HO7 HQ1
       generalize acc.tail = ns at HO7 HQ1
       have hn4 := HO7.out.n
       obtain ⟨A4, c4, rfl⟩ := Kd.R_slice hn4
       clear hn4
       have t0 := HO7.out.ta.c0
       have t1 := HO7.out.ta.c1
       have t2 := HO7.out.ta.c2
       have t3 := HO7.out.ta.c3
       have t4 := HO7.out.ta.c4
       have t5 := HO7.out.ta.c5
       obtain ⟨r0, r1, r2, r3, r4, r5, g0, g1, g2, g3, g4, g5⟩ := HO7.out.f.tm
       simp only [zTm] at r0 r1 r2 r3 r4 r5
       simp only at t0 t1 t2 t3 t4 t5
       go_wp2_with fail
       refine bodyPost_ret (resTm rfl _ _ w.heap.size ⟨kd, 0, nm, cr, ns, []⟩ _ _ (by rfl) (HO7.out.f.tm.put ⟨kd, 0, nm, cr, ns, []⟩ _ _)) rfl ?_
       cases hdot : isAt s k 62 with
       | false =>
        have HR2 : Hid (R = (zTm, 0, [⟨nTerm, k, 41⟩])) := Lib.hid (by rw [HQ1.out, if_pos hdot]; rfl)
        have hml : mustL s k 62 = [⟨nTerm, k, 41⟩] := by unfold mustL; rw [if_neg (by rw [hdot]; simp)]
        rw [hml] at HL
        rw [HR2.out]
        exact HO7.out.f.none _ _ (HO7.out.made rfl) HL.out (by simp) hk7
       | true =>
        have HR2 : Hid (R = (⟨kd, 0, nm, cr, ns, []⟩, k + 1, [])) := Lib.hid (by rw [HQ1.out, if_neg (by rw [hdot]; simp)])
        have hml : mustL s k 62 = [] := by unfold mustL; rw [if_pos hdot]
        rw [hml] at HL hk2
        obtain rfl := HL.out.2 rfl
        obtain rfl := hk2 rfl
        rw [HR2.out]
        exact HO7.out.f.done _ (HO7.out.made rfl) hk7
     ·clear HST
      have HL := Lib.hid hL
      have HR2 := Lib.hid hR
      have HLL := Lib.hid hl
      obtain ⟨g2, c2, hv2⟩ : ∃ g2 c2, v = .slice (some ⟨g2, 0, none⟩) l.length c2 := by
       cases l with
       | nil => exact absurd rfl hl
       | cons x r =>
        obtain ⟨g2, c2, e, _, _⟩ := hL.headT
        exact ⟨g2, c2, e⟩
      subst hv2
      clear hL hR hl
      have hn4 := HO.out.n
      obtain ⟨A4, c4, rfl⟩ := Kd.R_slice hn4
      clear hn4
      have a3 := HO.out.f.rd.2.c3
      have t0 := HO.out.ta.c0
      have t1 := HO.out.ta.c1
      have t2 := HO.out.ta.c2
      have t3 := HO.out.ta.c3
      have t4 := HO.out.ta.c4
      have t5 := HO.out.ta.c5
      obtain ⟨r0, r1, r2, r3, r4, r5, g0, g1, g2, g3, g4, g5⟩ := HO.out.f.tm
      simp only [zTm] at r0 r1 r2 r3 r4 r5
      by_cases him : i ≤ many
      ·go_wp2_with fail
       refine bodyPost_ret (resTm rfl _ _ w.heap.size z _ _ (by rfl) (HO.out.f.tm.put z _ _)) rfl ?_
       rw [HR2.out]
       exact HO.out.f.none _ _ (HO.out.made HZ.out) HL.out HLL.out hk (by rw [HZ.out]; exact Nat.zero_le _)
      ·go_wp2_with fail
       refine bodyPost_ret (resTm rfl _ _ w.heap.size z _ _ (by rfl) (HO.out.f.tm.put z _ _)) rfl ?_
       rw [HR2.out]
       exact HO.out.f.none _ _ (HO.out.made HZ.out) HL.out HLL.out hk (by rw [HZ.out]; exact Nat.zero_le _)
end Go.Proofs.YtibbcfeaododhaaGreatDoor
set_option linter.unusedSimpArgs false
set_option linter.unusedVariables false
namespace Go.Proofs.YtibbcfeaododhaaGreatDoor
open Go.RowKit Go.Sort Go.Proofs.YtibbcfeaododhaaGreatDoorW.PrintWords
theorem sev_pos {F : Nat → Rd} {s : ByteArray} : ∀ (m k : Nat) (acc : List Tm), (sevAt F s (m + 1) k acc).2.2 = [] → k ≤ s.size → s.size + 1 ≤ m + 1 + k → Fwd s F → acc.length < (sevAt F s (m + 1) k acc).1.length := by
 intro m
 induction m with
 | zero =>
  intro k acc h hk hm hF
  by_cases he : (F k).2.2 = []
  ·cases hc : isAt s (blk s (F k).2.1) 44 with
   | true =>
    have h1 := (hF k (F k).1 (F k).2.1 (by rw [← he])).1
    have h2 := blk_ge s (F k).2.1
    have h3 := isAt_lt hc
    omega
   | false => rw [sev_last he hc]; simp
  ·rw [sev_err he] at h; exact absurd h he
 | succ m ih =>
  intro k acc h hk hm hF
  by_cases he : (F k).2.2 = []
  ·cases hc : isAt s (blk s (F k).2.1) 44 with
   | true =>
    rw [sev_more he hc] at h ⊢
    have h1 := (hF k (F k).1 (F k).2.1 (by rw [← he])).1
    have h2 := blk_ge s (F k).2.1
    have h3 := isAt_lt hc
    have := ih (blk s (F k).2.1 + 1) (acc ++ [(F k).1]) h (by omega) (by omega) hF
    rw [List.length_append, List.length_singleton] at this
    omega
   | false => rw [sev_last he hc]; simp
  ·rw [sev_err he] at h; exact absurd h he
/-- The reader, the result's box, the elements, and the tail in block g. -/
structure LstF (w W : World) (b : Nat) (s : ByteArray) (k d : Nat) (v : Value) (g : Nat) (l : List Tm) (lv : Value) (t : Tm) (v4 v5 : Value) : Prop where
 f : RfF w W b s k d v
 bx : W.heap[g]? = some (.cells #[.int .i64 t.kd, .int .i64 t.it, .string t.tx, .int .u32 t.cr, v4, v5] tyTm (0, 0))
 l : kTm.R tyTm W (w.heap.size + 1) (fun j => j ≠ g ∧ j ≠ b) lv l
 t4 : kU.R tyU32 W (w.heap.size + 1) (fun j => j ≠ g ∧ j ≠ b) v4 t.nums
 t5 : kTm.R tyTm W (w.heap.size + 1) (fun j => j ≠ g ∧ j ≠ b) v5 t.args
 hg : w.heap.size < g
theorem LstF.ta {w W : World} {b : Nat} {s : ByteArray} {k d g : Nat} {v lv v4 v5 : Value} {l : List Tm} {t : Tm} (h : LstF w W b s k d v g l lv t v4 v5) : TmAt W g t v4 v5 := tmAt_box h.bx
theorem LstF.lt {w W : World} {b : Nat} {s : ByteArray} {k d g : Nat} {v lv v4 v5 : Value} {l : List Tm} {t : Tm} (h : LstF w W b s k d v g l lv t v4 v5) : g < W.heap.size := (Array.getElem?_eq_some_iff.1 h.bx).1
theorem LstF.step {w W W' : World} {b : Nat} {s : ByteArray} {k d k2 d2 g : Nat} {v v2 lv v4 v5 : Value} {l : List Tm} {t : Tm} (h : LstF w W b s k d v g l lv t v4 v5) (h2 : RfTo W b s k2 d2 v2 W') : LstF w W' b s k2 d2 v2 g l lv t v4 v5 :=
 ⟨h.f.step h2, (h2.1.block g h.lt (by have := h.hg; have := h.f.lt; simp; omega)).trans h.bx, Kd.R_grown h.l h2.1 (fun k hk => by simp; exact hk.2), Kd.R_grown h.t4 h2.1 (fun k hk => by simp; exact hk.2), Kd.R_grown h.t5 h2.1 (fun k hk => by simp; exact hk.2), h.hg⟩
theorem LstF.start {w W : World} {b : Nat} {s : ByteArray} {k d : Nat} {v lv : Value} {l : List Tm} (h : RfF w W b s k d v) (hl : kTm.R tyTm W (w.heap.size + 1) (fun _ => True) lv l) :
  LstF w (W.alloc (.cells #[.int .i64 6, .int .i64 0, .string ⟨#[]⟩, .int .u32 0, .slice none 0 0, .slice none 0 0] 27)) b s k d v W.heap.size l lv tmNil vNone vNone := by
 have hb := below_alloc (Below.refl W.heap.size W) (.cells #[.int .i64 6, .int .i64 0, .string ⟨#[]⟩, .int .u32 0, .slice none 0 0, .slice none 0 0] 27)
 have hlt := h.lt
 exact ⟨h.below hb, heap_alloc_new W _, Kd.R_below (Kd.R_mono (Kd.R_bound hl) (fun j hj => by have := hj.2.1; have := hj.2.2.1; exact ⟨by omega, by omega⟩)) hb, Kd.R_nil _ _ _ _ _, Kd.R_nil _ _ _ _ _, (Array.getElem?_eq_some_iff.1 h.bx).1⟩
theorem put6_box (W : World) (g : Nat) (x : Tm) (u4 u5 : Value) {c : Array Value} (h : W.heap[g]? = some (.cells c tyTm (0, 0))) (hc : c.size = 6) : (put6 W g x u4 u5).heap[g]? = some (.cells #[.int .i64 x.kd, .int .i64 x.it, .string x.tx, .int .u32 x.cr, u4, u5] tyTm (0, 0)) := by
 obtain ⟨c⟩ := c
 match c, hc with
 | [c0, c1, c2, c3, c4, c5], _ =>
  simp only [put6, World.setCell]
  simp [Array.getElem?_modify, h]
/-- The tail is read. -/
theorem LstF.tail {w W W' : World} {b : Nat} {s : ByteArray} {k d k2 d2 g : Nat} {v v2 lv v4 v5 : Value} {l : List Tm} {t : Tm} (h : LstF w W b s k d v g l lv t v4 v5) (h2 : RfTo W b s k2 d2 v2 W') (t2 : Tm) {u4 u5 : Value} (h4 : kU.R tyU32 W' W.heap.size (fun _ => True) u4 t2.nums) (h5 : kTm.R tyTm W' W.heap.size (fun _ => True) u5 t2.args) :
  LstF w (put6 W' g t2 u4 u5) b s k2 d2 v2 g l lv t2 u4 u5 := by
 have h1 := h.step h2
 have hgl := h.lt
 have hbl := h.f.rd.2.lt
 have hsz : w.heap.size + 1 ≤ W.heap.size := h.f.tm.lt
 have hg6 := grown_put6 W' g t2 u4 u5
 have hbx := put6_box W' g t2 u4 u5 h1.bx rfl
 generalize put6 W' g t2 u4 u5 = W6 at hg6 hbx ⊢
 have k4 := Kd.R_lower (Kd.R_mono (ok' := fun j => j ≠ g ∧ j ≠ b) (Kd.R_bound h4) (fun j hj => by have := hj.2.1; exact ⟨by omega, by omega⟩)) hsz
 have k5 := Kd.R_lower (Kd.R_mono (ok' := fun j => j ≠ g ∧ j ≠ b) (Kd.R_bound h5) (fun j hj => by have := hj.2.1; exact ⟨by omega, by omega⟩)) hsz
 exact ⟨h1.f.far hg6 h.hg, hbx, Kd.R_grown h1.l hg6 (fun j hj => by simp; exact hj.1), Kd.R_grown k4 hg6 (fun j hj => by simp; exact hj.1), Kd.R_grown k5 hg6 (fun j hj => by simp; exact hj.1), h.hg⟩
theorem join_bound (l : List Tm) (t : Tm) (n bd : Nat) (hl : l.length ≤ n + 1) (ht : t.args.length ≤ bd) : (joinT l t).args.length ≤ n + 2 + bd := by
 unfold joinT
 simp only
 split
 ·rw [List.length_append]; omega
 ·rw [List.length_append, List.length_singleton]; omega
theorem must_ok {s : ByteArray} {k : Nat} {c : Int} (h : isAt s k c = true) : mustL s k c = [] := by unfold mustL; rw [if_pos h]
theorem must_no {s : ByteArray} {k : Nat} {c : Int} (h : isAt s k c = false) : mustL s k c = [⟨nTerm, k, 41⟩] := by unfold mustL; rw [if_neg (by rw [h]; simp)]
set_option maxRecDepth 100000 in
set_option maxHeartbeats 8000000 in
theorem rf_list (b : Nat) (s : ByteArray) (k0 d bd : Nat) (F : Nat → Rd) (hF : TermSaysR s b d bd F) (hFw : Fwd s F) (hbd : bd ≤ 1500000000) (h0 : k0 ≤ s.size) (hm : s.size ≤ 4194304) (w : World) (hS : RfAt w b s k0 d (.slice none 0 0)) :
  Calls Tryz.prog 112 #[.pointer (some ⟨b, 0, none⟩)] w (RfTm w b s d (s.size + 2 + bd) (listAt F s k0)) := by
 obtain ⟨R, hR⟩ : ∃ R, R = listAt F s k0 := ⟨_, rfl⟩
 rw [← hR]
 rw [listAt_eq] at hR
 have HR0 := Lib.hid hR
 have HTS := Lib.hid hF
 have HFW := Lib.hid hFw
 clear hR
 have hne := fun (w : World) (a : Option Addr) (n c : Nat) => run_neq_slice_nil_any (P := Tryz.prog) w 32 69 a n c 0 0 Tryz.underlying32
 have heq := fun (w : World) (a : Option Addr) (n c : Nat) => Lib.run_eql_slice_nil (P := Tryz.prog) w 32 69 a n c 0 0 Tryz.underlying32
 obtain ⟨w1, hw1⟩ : ∃ W, W = w.alloc (.cells #[.int .i64 0, .int .i64 0, .string ⟨#[]⟩, .int .u32 0, .slice none 0 0, .slice none 0 0] 27) := ⟨_, rfl⟩
 have hF1 : RfF w w1 b s k0 d (.slice none 0 0) := by rw [hw1]; exact RfF.start hS
 have HF := Lib.hid hF1
 have hkb := blk_le s k0 h0
 have HRW := Lib.hid (rf_row b s k0 d bd 93 (by decide) F hF hFw h0 hm w1 hF1.rd.2)
 have HSB := Lib.hid (sev_blk hFw (s.size + 1) (blk s k0) [] hkb (by omega))
 have HSP := Lib.hid (fun h => sev_pos s.size (blk s k0) [] h hkb (by omega) hFw)
 clear hS hF1 hF hFw
 unfold rowM at HRW
 generalize sevAt F s (s.size + 1) (blk s k0) [] = q at HR0 HRW HSB HSP
 go_enter Tryz.func112, Tryz.ntmps112
 go_upto_region 1 with (fail)
 rw [← hw1]
 clear hw1
 go_wp2_with fail
 refine HRW.out.mono ?_
 rintro e w2 ⟨l, lv, rfl, hRl, hll, hle, k2, v2, hT, hk2, hL, hke⟩
 have HF2 := Lib.hid (HF.out.step hT)
 have HRl := Lib.hid (Kd.R_lower hRl HF.out.tm.lt)
 have hnl := HRl.out
 obtain ⟨TL, cl, rfl⟩ := Kd.R_slice hnl
 clear hT hRl HRW HF hnl
 cases hcc : isAt s (blk s k0) 93 with
 | true =>
  rw [hcc, if_pos rfl] at hle hL hke
  simp only at hle hL hke
  have HR : Hid (R = (tmNil, blk s k0 + 1, [])) := Lib.hid (by rw [HR0.out, if_pos hcc])
  obtain rfl := hL.2 rfl
  obtain rfl := hle (by trivial)
  have hk20 := hke (by trivial)
  subst hk20
  have HM := Lib.hid (rf_must b s (blk s k0) d 93 hk2 hm w2 HF2.out.rd.2)
  rw [must_ok hcc] at HM
  clear hcc hL hle hke
  have a3 := HF2.out.rd.2.c3
  go_wp2_with fail
  refine HM.out.mono ?_
  rintro e w3 ⟨rfl, k3, v3, hT, hk3, hL, hke⟩
  obtain rfl := hL.2 rfl
  obtain rfl := hke rfl
  have HF3 := Lib.hid (HF2.out.step hT)
  clear hT hL HM a3 HF2
  obtain ⟨r0, r1, r2, r3, r4, r5, g0, g1, g2, g3, g4, g5⟩ := HF3.out.tm
  simp only [zTm] at r0 r1 r2 r3 r4 r5
  go_wp2_with fail
  refine bodyPost_ret (resTm rfl _ _ w.heap.size tmNil _ _ (by rfl) (HF3.out.tm.put tmNil _ _)) rfl ?_
  rw [HR.out]
  exact HF3.out.done tmNil (TmMade.flat _ _ _ _ _ _) hk3
 | false =>
  rw [hcc, if_neg (by simp)] at hle hL hke
  have HR1 : Hid (R = lstEnd F s q) := Lib.hid (by rw [HR0.out, if_neg (by rw [hcc]; simp)])
  clear hcc HR0
  obtain ⟨ql, e0, r⟩ := q
  simp only at hle hL hke
  cases r with
  | cons x y =>
   have HR : Hid (R = (zTm, 0, x :: y)) := Lib.hid (HR1.out.trans (by simp [lstEnd]))
   have HL := Lib.hid hL
   obtain ⟨gl, cc, rfl, _, _⟩ := hL.headT
   clear hL hle hke
   have a3 := HF2.out.rd.2.c3
   obtain ⟨r0, r1, r2, r3, r4, r5, g0, g1, g2, g3, g4, g5⟩ := HF2.out.tm
   simp only [zTm] at r0 r1 r2 r3 r4 r5
   go_wp2_with fail
   refine bodyPost_ret (resTm rfl _ _ w.heap.size zTm _ _ (by rfl) (HF2.out.tm.put zTm _ _)) rfl ?_
   rw [HR.out]
   exact HF2.out.none zTm zTm (TmMade.zero _ _) HL.out (by simp) hk2
  | nil =>
   obtain rfl := hL.2 rfl
   obtain rfl := hle rfl
   have hk20 := hke rfl
   subst hk20
   have HSB2 := Lib.hid (HSB.out rfl)
   have hlp : 0 < l.length := HSP.out rfl
   clear hL hle hke HSB HSP
   have dl : ((l.length : Int) == 0) = false := beq_eq_false_iff_ne.2 (by omega)
   have a3 := HF2.out.rd.2.c3
   go_upto_region 8 with (fail)
   have HLs := Lib.hid (LstF.start HF2.out HRl.out)
   clear a3 HRl
   generalize w2.alloc (.cells #[.int .i64 6, .int .i64 0, .string ⟨#[]⟩, .int .u32 0, .slice none 0 0, .slice none 0 0] 27) = w3 at HLs ⊢
   generalize w2.heap.size = g at HLs ⊢
   clear HF2
   have HBY := Lib.hid (rf_byte b s k2 d _ hk2 hm w3 HLs.out.f.rd.2)
   have HBC := Lib.hid (byAt_c (s := s) (k := k2) (c := 124) (by decide))
   generalize byAt s k2 = c1 at HBY HBC
   cases h124 : isAt s k2 124 with
   | true =>
    have dcc : (c1 == 124) = true := by rw [HBC.out, h124]
    have hR2 := HR1.out
    unfold lstEnd at hR2
    rw [if_pos rfl, if_pos h124] at hR2
    simp only at hR2
    have HR2 := Lib.hid hR2
    have hlt := isAt_lt h124
    clear hR2 h124 HR1
    go_wp2_with fail
    refine HBY.out.mono ?_
    rintro e w4 ⟨rfl, n4, rfl⟩
    replace HLs := Lib.hid (HLs.out.step ((RfTo.refl HLs.out.f.rd.2).drewN n4))
    generalize w3.drewN n4 = w4 at HLs ⊢
    clear HBY HBC
    have a1 := HLs.out.f.rd.2.c1
    have f1 := HLs.out.f.rd.2.f1
    go_upto_region 10 with (fail)
    have HLt := Lib.hid (HLs.out.step ((RfTo.refl HLs.out.f.rd.2).set1 ((k2 : Int) + 1) (k2 + 1) (by omega)))
    clear a1 f1 HLs dcc
    generalize w4.setCell ⟨b, 1, none⟩ (.int .i64 ((k2 : Int) + 1)) = w5 at HLt ⊢
    have HC := Lib.hid (HTS.out (k2 + 1) w5 (by omega) HLt.out.f.rd.2)
    have HFE := Lib.hid (fun t e h => (HFW.out (k2 + 1) t e h).2.1)
    generalize F (k2 + 1) = q2 at HR2 HC HFE
    obtain ⟨t0, e2, r2⟩ := q2
    go_wp2_with fail
    refine HC.out.mono ?_
    rintro e w6 ⟨t, v, rfl, hM, htl, ht, k6, v6, hT, hk6, hL, hke⟩
    obtain ⟨v4, v5, rfl, hM4, hM5⟩ := hM
    obtain ⟨A4, c4, rfl⟩ := Kd.R_slice hM4
    obtain ⟨A5, c5, rfl⟩ := Kd.R_slice hM5
    have hst := HLt.out.step hT
    obtain ⟨s0, s1, s2, s3, s4, s5, x0, x1, x2, x3, x4, x5⟩ := hst.ta
    have HL6 := Lib.hid (HLt.out.tail hT t hM4 hM5)
    have HLN6 := Lib.hid (hL.wrote6 t (.slice A4 t.nums.length c4) (.slice A5 t.args.length c5) ⟨_, hst.bx⟩)
    clear hT hM4 hM5 hL HC HLt hst
    unfold tmV
    go_upto_region 11 with (fail)
    clear s0 s1 s2 s3 s4 s5 x0 x1 x2 x3 x4 x5
    obtain ⟨w7, hw7⟩ : ∃ W, W = put6 w6 g t (.slice A4 t.nums.length c4) (.slice A5 t.args.length c5) := ⟨_, rfl⟩
    rw [← hw7] at HL6 HLN6
    rw [show ((((((w6.setCell ⟨g, 0, none⟩ (.int .i64 t.kd)).setCell ⟨g, 1, none⟩ (.int .i64 t.it)).setCell ⟨g, 2, none⟩ (.string t.tx)).setCell ⟨g, 3, none⟩ (.int .u32 t.cr)).setCell ⟨g, 4, none⟩ (.slice A4 t.nums.length c4)).setCell ⟨g, 5, none⟩ (.slice A5 t.args.length c5)) = w7 from hw7.symm]
    clear hw7
    go_wp2_with fail
    refine (rf_blanks b s k6 d v6 hk6 hm w7 HL6.out.f.rd.2).mono ?_
    rintro e w8 ⟨rfl, hT8⟩
    have HL7 := Lib.hid (HL6.out.step hT8)
    have HLN := Lib.hid (HLN6.out.grownR HL6.out.f.rd.2 hT8.1)
    have hkb6 := blk_le s k6 hk6
    clear hT8 HL6 HLN6
    cases r2 with
    | cons x y =>
     have HR : Hid (R = (zTm, 0, x :: y)) := Lib.hid (HR2.out.trans (by rw [if_neg (by simp)]))
     obtain ⟨gl, cc, rfl, _, _⟩ := HLN.out.headT
     have a3 := HL7.out.f.rd.2.c3
     clear ht hke
     have hn4 := HL7.out.t4
     have hn5 := HL7.out.t5
     have hnl := HL7.out.l
     have hsz8 : w.heap.size + 1 ≤ (w8).heap.size := HL7.out.f.tm.lt
     have HJC := Lib.hid (ref_joined (w.heap.size + 1) l _ t _ _ _ _ _ w8 hsz8 hnl hn4 hn5 (by omega))
     clear hn4 hn5 hnl hsz8
     unfold tmV at HJC
     obtain ⟨z, hz⟩ : ∃ z, z = joinT l t := ⟨_, rfl⟩
     rw [← hz] at HJC
     have HZ := Lib.hid hz
     clear hz
     obtain ⟨t0, t1, t2, t3, t4, t5, _, _, _, _, _, _⟩ := HL7.out.ta
     go_wp2_with fail
     refine HJC.out.mono ?_
     rintro e w9 ⟨vz, rfl, hMz, hBz⟩
     obtain ⟨z4, z5, rfl, hz4, hz5⟩ := hMz
     obtain ⟨Z4, x4, rfl⟩ := Kd.R_slice hz4
     obtain ⟨Z5, x5, rfl⟩ := Kd.R_slice hz5
     have HF9 := Lib.hid (HL7.out.f.below hBz)
     have HL9 := Lib.hid (HLN.out.below hBz)
     have HM4 := Lib.hid hz4
     have HM5 := Lib.hid hz5
     clear hBz hz4 hz5 HJC t0 t1 t2 t3 t4 t5
     unfold tmV
     obtain ⟨r0, r1, r2, r3, r4, r5, g0, g1, g2, g3, g4, g5⟩ := HF9.out.tm
     simp only [zTm] at r0 r1 r2 r3 r4 r5
     go_wp2_with fail
     refine bodyPost_ret (resTm rfl _ _ w.heap.size z _ _ (by rfl) (HF9.out.tm.put z _ _)) rfl ?_
     rw [HR.out]
     exact HF9.out.none z _ ⟨_, _, rfl, HM4.out, HM5.out⟩ HL9.out (by simp) hkb6 (by rw [HZ.out]; exact join_bound _ _ _ _ hll htl)
    | nil =>
     obtain rfl := HLN.out.2 rfl
     obtain rfl := ht (by trivial)
     obtain rfl := hke (by trivial)
     have HR : Hid (R = listEnd s l t (blk s k6)) := Lib.hid (HR2.out.trans (by rw [if_pos rfl]))
     clear ht hke HR2 HLN
     have HM := Lib.hid (rf_must b s (blk s k6) d 93 (by omega) hm w8 HL7.out.f.rd.2)
     have a3 := HL7.out.f.rd.2.c3
     go_wp2_with fail
     refine HM.out.mono ?_
     rintro e w8 ⟨rfl, k8, v8, hT, hk8, hL, hke8⟩
     have HL8 := Lib.hid (HL7.out.step hT)
     have HLN := Lib.hid hL
     clear hT hL HM a3
     have hn4 := HL8.out.t4
     have hn5 := HL8.out.t5
     have hnl := HL8.out.l
     have hsz8 : w.heap.size + 1 ≤ (w8).heap.size := HL8.out.f.tm.lt
     have HJC := Lib.hid (ref_joined (w.heap.size + 1) l _ t _ _ _ _ _ w8 hsz8 hnl hn4 hn5 (by omega))
     clear hn4 hn5 hnl hsz8
     unfold tmV at HJC
     obtain ⟨z, hz⟩ : ∃ z, z = joinT l t := ⟨_, rfl⟩
     rw [← hz] at HJC
     have HZ := Lib.hid hz
     clear hz
     obtain ⟨t0, t1, t2, t3, t4, t5, _, _, _, _, _, _⟩ := HL8.out.ta
     go_wp2_with fail
     refine HJC.out.mono ?_
     rintro e w9 ⟨vz, rfl, hMz, hBz⟩
     obtain ⟨z4, z5, rfl, hz4, hz5⟩ := hMz
     obtain ⟨Z4, x4, rfl⟩ := Kd.R_slice hz4
     obtain ⟨Z5, x5, rfl⟩ := Kd.R_slice hz5
     have HF9 := Lib.hid (HL8.out.f.below hBz)
     have HL9 := Lib.hid (HLN.out.below hBz)
     have HM4 := Lib.hid hz4
     have HM5 := Lib.hid hz5
     clear hBz hz4 hz5 HJC t0 t1 t2 t3 t4 t5
     unfold tmV
     obtain ⟨r0, r1, r2, r3, r4, r5, g0, g1, g2, g3, g4, g5⟩ := HF9.out.tm
     simp only [zTm] at r0 r1 r2 r3 r4 r5
     go_wp2_with fail
     refine bodyPost_ret (resTm rfl _ _ w.heap.size z _ _ (by rfl) (HF9.out.tm.put z _ _)) rfl ?_
     cases h93 : isAt s (blk s k6) 93 with
     | true =>
      have HR2 : Hid (R = (z, blk s k6 + 1, [])) := Lib.hid (by rw [HR.out, HZ.out]; unfold listEnd; rw [if_pos h93])
      rw [must_ok h93] at HL9 hke8
      obtain rfl := HL9.out.2 rfl
      obtain rfl := hke8 rfl
      rw [HR2.out]
      exact HF9.out.done z ⟨_, _, rfl, HM4.out, HM5.out⟩ hk8 (by rw [HZ.out]; exact join_bound _ _ _ _ hll htl)
     | false =>
      have HR2 : Hid (R = (zTm, 0, [⟨nTerm, (blk s k6 : Nat), 41⟩])) := Lib.hid (by rw [HR.out]; unfold listEnd; rw [if_neg (by rw [h93]; simp)]; rfl)
      rw [must_no h93] at HL9
      rw [HR2.out]
      exact HF9.out.none z _ ⟨_, _, rfl, HM4.out, HM5.out⟩ HL9.out (by simp) hk8 (by rw [HZ.out]; exact join_bound _ _ _ _ hll htl)
   | false =>
    have dcc : (c1 == 124) = false := by rw [HBC.out, h124]
    obtain ⟨t, htt⟩ : ∃ t, t = tmNil := ⟨_, rfl⟩
    have hR2 := HR1.out
    unfold lstEnd at hR2
    rw [if_pos rfl, if_neg (by rw [h124]; simp), ← htt] at hR2
    simp only at hR2
    have HR := Lib.hid hR2
    have htl : t.args.length ≤ bd := by rw [htt]; exact Nat.zero_le _
    rw [← htt] at HLs
    obtain ⟨v4, v5, HLs⟩ : ∃ v4 v5, Hid (LstF w w3 b s k2 d (.slice none 0 0) g l (.slice TL l.length cl) t v4 v5) := ⟨_, _, HLs⟩
    obtain ⟨A4, c4, rfl⟩ := Kd.R_slice HLs.out.t4
    obtain ⟨A5, c5, rfl⟩ := Kd.R_slice HLs.out.t5
    clear hR2 h124 HR1 htt
    go_wp2_with fail
    refine HBY.out.mono ?_
    rintro e w4 ⟨rfl, n4, rfl⟩
    have HL7 := Lib.hid (HLs.out.step ((RfTo.refl HLs.out.f.rd.2).drewN n4))
    generalize w3.drewN n4 = w4 at HL7 ⊢
    clear HBY HBC HLs
    have HM := Lib.hid (rf_must b s (k2) d 93 (by omega) hm w4 HL7.out.f.rd.2)
    have a3 := HL7.out.f.rd.2.c3
    go_wp2_with fail
    refine HM.out.mono ?_
    rintro e w8 ⟨rfl, k8, v8, hT, hk8, hL, hke8⟩
    have HL8 := Lib.hid (HL7.out.step hT)
    have HLN := Lib.hid hL
    clear hT hL HM a3
    have hn4 := HL8.out.t4
    have hn5 := HL8.out.t5
    have hnl := HL8.out.l
    have hsz8 : w.heap.size + 1 ≤ (w8).heap.size := HL8.out.f.tm.lt
    have HJC := Lib.hid (ref_joined (w.heap.size + 1) l _ t _ _ _ _ _ w8 hsz8 hnl hn4 hn5 (by omega))
    clear hn4 hn5 hnl hsz8
    unfold tmV at HJC
    obtain ⟨z, hz⟩ : ∃ z, z = joinT l t := ⟨_, rfl⟩
    rw [← hz] at HJC
    have HZ := Lib.hid hz
    clear hz
    obtain ⟨t0, t1, t2, t3, t4, t5, _, _, _, _, _, _⟩ := HL8.out.ta
    go_wp2_with fail
    refine HJC.out.mono ?_
    rintro e w9 ⟨vz, rfl, hMz, hBz⟩
    obtain ⟨z4, z5, rfl, hz4, hz5⟩ := hMz
    obtain ⟨Z4, x4, rfl⟩ := Kd.R_slice hz4
    obtain ⟨Z5, x5, rfl⟩ := Kd.R_slice hz5
    have HF9 := Lib.hid (HL8.out.f.below hBz)
    have HL9 := Lib.hid (HLN.out.below hBz)
    have HM4 := Lib.hid hz4
    have HM5 := Lib.hid hz5
    clear hBz hz4 hz5 HJC t0 t1 t2 t3 t4 t5
    unfold tmV
    obtain ⟨r0, r1, r2, r3, r4, r5, g0, g1, g2, g3, g4, g5⟩ := HF9.out.tm
    simp only [zTm] at r0 r1 r2 r3 r4 r5
    go_wp2_with fail
    refine bodyPost_ret (resTm rfl _ _ w.heap.size z _ _ (by rfl) (HF9.out.tm.put z _ _)) rfl ?_
    cases h93 : isAt s (k2) 93 with
    | true =>
     have HR2 : Hid (R = (z, k2 + 1, [])) := Lib.hid (by rw [HR.out, HZ.out]; unfold listEnd; rw [if_pos h93])
     rw [must_ok h93] at HL9 hke8
     obtain rfl := HL9.out.2 rfl
     obtain rfl := hke8 rfl
     rw [HR2.out]
     exact HF9.out.done z ⟨_, _, rfl, HM4.out, HM5.out⟩ hk8 (by rw [HZ.out]; exact join_bound _ _ _ _ hll htl)
    | false =>
     have HR2 : Hid (R = (zTm, 0, [⟨nTerm, (k2 : Nat), 41⟩])) := Lib.hid (by rw [HR.out]; unfold listEnd; rw [if_neg (by rw [h93]; simp)]; rfl)
     rw [must_no h93] at HL9
     rw [HR2.out]
     exact HF9.out.none z _ ⟨_, _, rfl, HM4.out, HM5.out⟩ HL9.out (by simp) hk8 (by rw [HZ.out]; exact join_bound _ _ _ _ hll htl)
end Go.Proofs.YtibbcfeaododhaaGreatDoor
set_option linter.unusedSimpArgs false
namespace Go.Proofs.YtibbcfeaododhaaGreatDoor
open Go.RowKit Go.Sort Go.Proofs.YtibbcfeaododhaaGreatDoorW.PrintWords
theorem ext_drop (s : ByteArray) (j : Nat) : (s.extract j s.size).data.toList = s.data.toList.drop j := by
 have h : bs (s.extract j s.size) = (bs s).drop j := by rw [bs_cut', List.take_of_length_le (by rw [List.length_drop, bs_len]; omega)]
 rw [bs_data', bs_data', ← List.map_drop] at h
 exact (List.map_inj_right (fun a b e => UInt8.toNat_inj.1 (by have e : ((a.toNat : Nat) : Int) = ((b.toNat : Nat) : Int) := e; omega))).1 h
theorem pre_cons (s : ByteArray) (k : Nat) (c : UInt8) (r : List UInt8) : Lib.hasPrefix (s.extract k s.size).data.toList (c :: r) = (isAt s k (c.toNat : Int) && Lib.hasPrefix (s.extract (k + 1) s.size).data.toList r) := by
 have h1 := hit_one s k c
 unfold hitAt at h1
 rw [← h1, ext_drop, ext_drop]
 unfold Lib.hasPrefix
 by_cases h : k < s.data.toList.length
 ·rw [List.drop_eq_getElem_cons h]
  simp [List.isPrefixOf]
 ·rw [List.drop_of_length_le (by omega), List.drop_of_length_le (by omega)]
  simp [List.isPrefixOf]
def markTxt : ByteArray := ⟨#[35, 82, 101, 102, 60]⟩
theorem hit_mark (s : ByteArray) (k : Nat) : hitAt s k markTxt = decide (markLen s k 5 = 5) := by
 unfold hitAt markTxt
 simp only [pre_cons]
 simp only [markLen, refMark, List.getD_cons_zero, List.getD_cons_succ, Nat.add_zero, show (5 : Nat) - (4 + 1) = 0 from rfl, show (5 : Nat) - (3 + 1) = 1 from rfl, show (5 : Nat) - (2 + 1) = 2 from rfl, show (5 : Nat) - (1 + 1) = 3 from rfl, show (5 : Nat) - (0 + 1) = 4 from rfl, Nat.add_assoc, Nat.reduceAdd]
 have e : Lib.hasPrefix (s.extract (k + 5) s.size).data.toList [] = true := by simp [Lib.hasPrefix]
 rw [e]
 simp only [show ((35 : UInt8).toNat : Int) = 35 from rfl, show ((82 : UInt8).toNat : Int) = 82 from rfl, show ((101 : UInt8).toNat : Int) = 101 from rfl, show ((102 : UInt8).toNat : Int) = 102 from rfl, show ((60 : UInt8).toNat : Int) = 60 from rfl]
 generalize isAt s k 35 = a
 generalize isAt s (k + 1) 82 = b
 generalize isAt s (k + 2) 101 = c
 generalize isAt s (k + 3) 102 = d
 generalize isAt s (k + 4) 60 = f
 cases a <;> cases b <;> cases c <;> cases d <;> cases f <;> decide
/-- An inner reading's answer is handed on. -/
theorem RdF.pass {w W1 w' : World} {b : Nat} {s : ByteArray} {k d k' e0 : Nat} {l : List Lk} {t : Tm} {u4 u5 ev : Value} (h : RdF w W1 b s k d) (hM : TmMade w' W1.heap.size t (tmV t u4 u5)) (hE : ErrIs w' l ev) (hT : RdTo W1 b s k' d w') (hk : k' ≤ s.size) (hk2 : l = [] → k' = e0) :
  TermE w b s d (t, e0, l) (.returned (.tuple #[tmV t u4 u5, ev])) (put6 w' w.heap.size t u4 u5) := by
 have h2 := h.step hT
 have hsz : w.heap.size + 1 ≤ W1.heap.size := h.tm.lt
 exact ⟨_, _, rfl, (hM.above (fun j hj _ => put6_heap w' w.heap.size t u4 u5 j (by omega))).lower (by omega), hE.wrote6 h2.tm.c0 _ _ _, k', h2.put _ _ _, hk, hk2⟩
section
variable {F : Nat → Rd} {s : ByteArray} {k : Nat}
theorem bg_end (h : s.size ≤ k) : begunAt F s k = rdNo k 41 := by unfold begunAt; rw [if_pos h]
theorem bg_whole (h : k < s.size) (hc : isDigit (bt s (k : Int)) = true ∨ bt s (k : Int) = 45) : begunAt F s k = wholeAt s k := by unfold begunAt; rw [if_neg (by omega), if_pos hc]
theorem bg_tuple (h : k < s.size) (hc : bt s (k : Int) = 123) : begunAt F s k = tupleAt F s (k + 1) := by unfold begunAt; rw [if_neg (by omega), if_neg (by rw [hc]; decide), if_pos hc]
theorem bg_list (h : k < s.size) (hc : bt s (k : Int) = 91) : begunAt F s k = listAt F s (k + 1) := by unfold begunAt; rw [if_neg (by omega), if_neg (by rw [hc]; decide), if_neg (by omega), if_pos hc]
theorem bg_ref (h : k < s.size) (hc : bt s (k : Int) = 35) : begunAt F s k = if markLen s k 5 = 5 then farAt s (k + 5) 3 3 else rdNo (k + markLen s k 5) 41 := by unfold begunAt; rw [if_neg (by omega), if_neg (by rw [hc]; decide), if_neg (by omega), if_neg (by omega), if_pos hc]
theorem bg_pid (h : k < s.size) (hc : bt s (k : Int) = 60) : begunAt F s k = farAt s (k + 1) 4 2 := by unfold begunAt; rw [if_neg (by omega), if_neg (by rw [hc]; decide), if_neg (by omega), if_neg (by omega), if_neg (by omega), if_pos hc]
theorem bg_atom (h : k < s.size) (h0 : ¬ (isDigit (bt s (k : Int)) = true ∨ bt s (k : Int) = 45)) (h1 : bt s (k : Int) ≠ 123) (h2 : bt s (k : Int) ≠ 91) (h3 : bt s (k : Int) ≠ 35) (h4 : bt s (k : Int) ≠ 60) :
  begunAt F s k = if (atomAt s k).2.2 = [] then (⟨2, 0, (atomAt s k).1, 0, [], []⟩, (atomAt s k).2.1, []) else (zTm, 0, (atomAt s k).2.2) := by
 unfold begunAt
 rw [if_neg (by omega), if_neg h0, if_neg h1, if_neg h2, if_neg h3, if_neg h4]
 generalize atomAt s k = q
 obtain ⟨a, e, l⟩ := q
 cases l <;> rfl
end
theorem hit_len {s p : ByteArray} {k : Nat} (hk : k ≤ s.size) (h : hitAt s k p = true) : k + p.size ≤ s.size := by
 have := hasPrefix_len h
 rw [← Lib.size_eq, ← Lib.size_eq] at this
 simp at this
 omega
theorem mark_no {s : ByteArray} {k : Nat} (h : ¬ bt s (k : Int) = 35) : ¬ markLen s k 5 = 5 := by
 have e : isAt s (k + (5 - (4 + 1))) (refMark.getD (5 - (4 + 1)) 0) = false := isAtN h
 rw [markLen, if_neg (by rw [e]; decide)]
 decide
theorem mark_spec (s : ByteArray) (k : Nat) (h : ¬ markLen s k 5 = 5) : ∃ m, markLen s k 5 = m ∧ m < 5 ∧ (∀ j, j < m → isAt s (k + j) (refMark.getD j 0) = true) ∧ isAt s (k + m) (refMark.getD m 0) = false := by
 refine ⟨_, rfl, ?_⟩
 revert h
 simp only [markLen, refMark, List.getD_cons_zero, List.getD_cons_succ, Nat.add_zero, show (5 : Nat) - (4 + 1) = 0 from rfl, show (5 : Nat) - (3 + 1) = 1 from rfl, show (5 : Nat) - (2 + 1) = 2 from rfl, show (5 : Nat) - (1 + 1) = 3 from rfl, show (5 : Nat) - (0 + 1) = 4 from rfl]
 intro h
 by_cases a : isAt s k 35 = true
 ·rw [if_pos a] at h ⊢
  by_cases b : isAt s (k + 1) 82 = true
  ·rw [if_pos b] at h ⊢
   by_cases c : isAt s (k + 2) 101 = true
   ·rw [if_pos c] at h ⊢
    by_cases d : isAt s (k + 3) 102 = true
    ·rw [if_pos d] at h ⊢
     by_cases f : isAt s (k + 4) 60 = true
     ·rw [if_pos f] at h; exact absurd rfl h
     ·rw [if_neg f]
      refine ⟨by decide, fun j hj => ?_, by simpa using f⟩
      match j, hj with
      | 0, _ => exact a
      | 1, _ => exact b
      | 2, _ => exact c
      | 3, _ => exact d
    ·rw [if_neg d]
     refine ⟨by decide, fun j hj => ?_, by simpa using d⟩
     match j, hj with
     | 0, _ => exact a
     | 1, _ => exact b
     | 2, _ => exact c
   ·rw [if_neg c]
    refine ⟨by decide, fun j hj => ?_, by simpa using c⟩
    match j, hj with
    | 0, _ => exact a
    | 1, _ => exact b
  ·rw [if_neg b]
   refine ⟨by decide, fun j hj => ?_, by simpa using b⟩
   match j, hj with
   | 0, _ => exact a
 ·rw [if_neg a]
  refine ⟨by decide, fun j hj => absurd hj (by omega), by simpa using a⟩
theorem mark_get : ∀ j, j < 5 → (markTxt.get! j).toNat < 128 ∧ bt markTxt (j : Int) = refMark.getD j 0 := by decide
theorem mark_size : markTxt.size = 5 := rfl
theorem mark_dec (j : Nat) (h : j < 5) : (Utf8.decode markTxt j).2 = 1 := by rw [Tb.dec_asc (mark_get j h).1]
theorem isAt_val {s : ByteArray} {k : Nat} {c : Int} (h : isAt s k c = true) : bt s (k : Int) = c := by
 unfold isAt at h
 rw [Bool.and_eq_true, decide_eq_true_eq, decide_eq_true_eq] at h
 exact h.2
set_option maxRecDepth 100000 in
set_option maxHeartbeats 1000000 in
theorem rd_begun (b g4 g5 : Nat) (s : ByteArray) (k0 d : Nat) (F : Nat → Rd) (hF : TermSays s b g4 g5 d F) (hFw : Fwd s F) (h0 : k0 ≤ s.size) (hbk : blk s k0 = k0) (hm : s.size ≤ 4194304) (w : World) (hS : RdAt w b s k0 d) (hX : Boxes w b g4 g5) :
  Calls Tryz.prog 28 #[.pointer (some ⟨b, 0, none⟩), tv g4 g5] w (TermE w b s d (begunAt F s k0)) := by
 have HG := Lib.hid hX.gl
 obtain ⟨R, hR⟩ : ∃ R, R = begunAt F s k0 := ⟨_, rfl⟩
 rw [← hR]
 obtain ⟨rt, re, rl⟩ := R
 have HR0 := Lib.hid hR
 have HBK := Lib.hid hbk
 have HX0 := Lib.hid hX
 have HTS := Lib.hid hF
 have HFW := Lib.hid hFw
 have hG := hX.gl
 clear hR hX hF hFw hbk HG
 obtain ⟨w1, hw1⟩ : ∃ W, W = w.alloc (.cells #[.int .i64 0, .int .i64 0, .string ⟨#[]⟩, .int .u32 0, .slice none 0 0, .slice none 0 0] 27) := ⟨_, rfl⟩
 have hF : RdF w w1 b s k0 d := by rw [hw1]; exact RdF.start hS
 have HG : Hid (GlobG w1 b) := Lib.hid (hG.step hF.rd.1)
 have HF := Lib.hid hF
 clear hS hG hF
 go_enter Tryz.func28, Tryz.ntmps28
 go_upto_region 1 with (fail)
 rw [← hw1]
 clear hw1
 have e0 : (0 : Int) ≤ (k0 : Int) := by omega
 have a0 := HF.out.rd.2.c0
 have a1 := HF.out.rd.2.c1
 by_cases hlt : k0 < s.size
 ·have e1 : (k0 : Int) < (s.size : Int) := by omega
  have d0 : ((k0 : Int) == (s.size : Int)) = false := beq_eq_false_iff_ne.2 (by omega)
  have hb := btk s k0
  have hr := bt_range s (k0 : Int)
  go_wp2_with fail
  go_quiet (fail)
  have HFa := Lib.hid (HF.out.drewN nq)
  replace HG := Lib.hid (HG.out.step (grown_drewN w1 nq _))
  clear a0 a1
  generalize w1.drewN nq = w2 at HFa HG ⊢
  have a0 := HFa.out.rd.2.c0
  have a1 := HFa.out.rd.2.c1
  by_cases hnum : isDigit (bt s (k0 : Int)) = true ∨ bt s (k0 : Int) = 45
  ·have HR := HR0.out.trans (bg_whole hlt hnum)
   have HC : ∀ W, RdF w W b s k0 d → GlobG W b → Calls Tryz.prog 55 #[.pointer (some ⟨b, 0, none⟩)] W (TermE W b s d (rt, re, rl)) := fun W h1 h2 => by rw [HR]; exact rd_whole b s k0 d hlt hm W h1.rd.2 h2
   have HCC := Lib.hid HC
   clear HC HR HR0
   by_cases hd : isDigit (bt s (k0 : Int)) = true
   ·have HDG : Hid (∀ W, Calls Tryz.prog 54 #[.int .u8 (bt s (k0 : Int))] W fun e w' => e = .returned (.bool true) ∧ w' = W) := Lib.hid fun W => (term_digit _ W).mono fun e w' h => ⟨by rw [h.1, hd], h.2.symm⟩
    clear hnum hd
    go_wp2_with fail
    go_quiet ((go_at_call 54; exact Calls.quiet_of_same (HDG.out _)))
    have HF3 := Lib.hid (HFa.out.drewN nq)
    have HG3 := Lib.hid (HG.out.step (grown_drewN w2 nq _))
    clear a0 a1 HFa HG
    generalize w2.drewN nq = w3 at HF3 HG3 ⊢
    have HCW := Lib.hid (HCC.out w3 HF3.out HG3.out)
    go_wp2_with fail
    refine HCW.out.mono ?_
    rintro e w9 ⟨v, ev, rfl, hM, hE, k', hT, hk', hk2⟩
    have hM2 := hM
    obtain ⟨v4, v5, rfl, hM4, hM5⟩ := hM2
    simp only at hM4 hM5
    obtain ⟨A4, c4, rfl⟩ := Kd.R_slice hM4
    obtain ⟨A5, c5, rfl⟩ := Kd.R_slice hM5
    have HP := Lib.hid (HF3.out.pass hM hE hT hk' hk2)
    have HF9 := Lib.hid (HF3.out.step hT)
    clear hM hM4 hM5 hE hT hk' hk2
    unfold tmV
    have a0 := HF9.out.rd.2.c0
    have a1 := HF9.out.rd.2.c1
    have f1 := HF9.out.rd.2.f1
    obtain ⟨r0, r1, r2, r3, r4, r5, g0, g1, g2, g3, g4, g5⟩ := HF9.out.tm
    simp only [zTm] at r0 r1 r2 r3 r4 r5
    go_wp2_with fail
    refine bodyPost_ret (resTm2 rfl _ _ w.heap.size rt _ _ (by rfl) (HF9.out.tm.put rt _ _)) rfl ?_
    exact HP.out
   ·have d2 : (bt s (k0 : Int) == 45) = true := beq_iff_eq.2 (hnum.resolve_left hd)
    have HDG : Hid (∀ W, Calls Tryz.prog 54 #[.int .u8 (bt s (k0 : Int))] W fun e w' => e = .returned (.bool false) ∧ w' = W) := Lib.hid fun W => (term_digit _ W).mono fun e w' h => ⟨by rw [h.1, Bool.eq_false_iff.2 hd], h.2.symm⟩
    clear hnum hd
    go_wp2_with fail
    go_quiet ((go_at_call 54; exact Calls.quiet_of_same (HDG.out _)))
    have HF3 := Lib.hid (HFa.out.drewN nq)
    have HG3 := Lib.hid (HG.out.step (grown_drewN w2 nq _))
    clear a0 a1 HFa HG
    generalize w2.drewN nq = w3 at HF3 HG3 ⊢
    have HCW := Lib.hid (HCC.out w3 HF3.out HG3.out)
    go_wp2_with fail
    refine HCW.out.mono ?_
    rintro e w9 ⟨v, ev, rfl, hM, hE, k', hT, hk', hk2⟩
    have hM2 := hM
    obtain ⟨v4, v5, rfl, hM4, hM5⟩ := hM2
    simp only at hM4 hM5
    obtain ⟨A4, c4, rfl⟩ := Kd.R_slice hM4
    obtain ⟨A5, c5, rfl⟩ := Kd.R_slice hM5
    have HP := Lib.hid (HF3.out.pass hM hE hT hk' hk2)
    have HF9 := Lib.hid (HF3.out.step hT)
    clear hM hM4 hM5 hE hT hk' hk2
    unfold tmV
    have a0 := HF9.out.rd.2.c0
    have a1 := HF9.out.rd.2.c1
    have f1 := HF9.out.rd.2.f1
    obtain ⟨r0, r1, r2, r3, r4, r5, g0, g1, g2, g3, g4, g5⟩ := HF9.out.tm
    simp only [zTm] at r0 r1 r2 r3 r4 r5
    go_wp2_with fail
    refine bodyPost_ret (resTm2 rfl _ _ w.heap.size rt _ _ (by rfl) (HF9.out.tm.put rt _ _)) rfl ?_
    exact HP.out
  ·have hd : isDigit (bt s (k0 : Int)) = false := by simpa using fun h => hnum (.inl h)
   have h45 : ¬ bt s (k0 : Int) = 45 := fun h => hnum (.inr h)
   have d2 : (bt s (k0 : Int) == 45) = false := beq_eq_false_iff_ne.2 h45
   have HDG : Hid (∀ W, Calls Tryz.prog 54 #[.int .u8 (bt s (k0 : Int))] W fun e w' => e = .returned (.bool false) ∧ w' = W) := Lib.hid fun W => (term_digit _ W).mono fun e w' h => ⟨by rw [h.1, hd], h.2.symm⟩
   have HNU := Lib.hid hnum
   clear hd h45 hnum
   go_wp2_with fail
   go_quiet ((go_at_call 54; exact Calls.quiet_of_same (HDG.out _)))
   replace HFa := Lib.hid (HFa.out.drewN nq)
   clear a0 a1 HG HDG
   generalize w2.drewN nq = w3 at HFa ⊢
   by_cases c1 : bt s (k0 : Int) = 123
   ·have X := isAtY hlt c1
    have HRX := Lib.hid (HR0.out.trans (bg_tuple hlt c1))
    clear c1
    have HTK := Lib.hid (take_c b s k0 d 123 123 (by decide) (by omega) hm _ HFa.out.rd.2)
    rw [HBK.out, X] at HTK
    go_wp2_with fail
    refine HTK.out.mono ?_
    rintro e wn ⟨rfl, hT⟩
    have HFb : Hid (RdF w wn b s (k0 + 1) d) := Lib.hid (HFa.out.step hT)
    clear hT HTK HFa
    have HCW := Lib.hid (rd_tuple b g4 g5 s (k0 + 1) d F HTS.out HFW.out (by omega) hm wn HFb.out.rd.2 (HX0.out.step HFb.out.rd.1))
    rw [← HRX.out] at HCW
    clear X HRX
    go_wp2_with fail
    refine HCW.out.mono ?_
    rintro e w9 ⟨v, ev, rfl, hM, hE, k', hT, hk', hk2⟩
    have hM2 := hM
    obtain ⟨v4, v5, rfl, hM4, hM5⟩ := hM2
    simp only at hM4 hM5
    obtain ⟨A4, c4, rfl⟩ := Kd.R_slice hM4
    obtain ⟨A5, c5, rfl⟩ := Kd.R_slice hM5
    have HP := Lib.hid (HFb.out.pass hM hE hT hk' hk2)
    have HF9 := Lib.hid (HFb.out.step hT)
    clear hM hM4 hM5 hE hT hk' hk2
    unfold tmV
    have a0 := HF9.out.rd.2.c0
    have a1 := HF9.out.rd.2.c1
    have f1 := HF9.out.rd.2.f1
    obtain ⟨r0, r1, r2, r3, r4, r5, g0, g1, g2, g3, g4, g5⟩ := HF9.out.tm
    simp only [zTm] at r0 r1 r2 r3 r4 r5
    go_wp2_with fail
    refine bodyPost_ret (resTm2 rfl _ _ w.heap.size rt _ _ (by rfl) (HF9.out.tm.put rt _ _)) rfl ?_
    exact HP.out
   ·have X1 := isAtN (k := k0) c1
    have HTK := Lib.hid (take_c b s k0 d 123 123 (by decide) (by omega) hm _ HFa.out.rd.2)
    rw [HBK.out, X1] at HTK
    go_wp2_with fail
    refine HTK.out.mono ?_
    rintro e wn ⟨rfl, hT⟩
    replace HFa : Hid (RdF w wn b s k0 d) := Lib.hid (HFa.out.step hT)
    clear hT HTK
    by_cases c2 : bt s (k0 : Int) = 91
    ·have X := isAtY hlt c2
     have HRX := Lib.hid (HR0.out.trans (bg_list hlt c2))
     clear c1 c2
     have HTK := Lib.hid (take_c b s k0 d 91 91 (by decide) (by omega) hm _ HFa.out.rd.2)
     rw [HBK.out, X] at HTK
     go_wp2_with fail
     refine HTK.out.mono ?_
     rintro e wn ⟨rfl, hT⟩
     have HFb : Hid (RdF w wn b s (k0 + 1) d) := Lib.hid (HFa.out.step hT)
     clear hT HTK HFa
     have HCW := Lib.hid (rd_list b g4 g5 s (k0 + 1) d F HTS.out HFW.out (by omega) hm wn HFb.out.rd.2 (HX0.out.step HFb.out.rd.1))
     rw [← HRX.out] at HCW
     clear X HRX
     go_wp2_with fail
     refine HCW.out.mono ?_
     rintro e w9 ⟨v, ev, rfl, hM, hE, k', hT, hk', hk2⟩
     have hM2 := hM
     obtain ⟨v4, v5, rfl, hM4, hM5⟩ := hM2
     simp only at hM4 hM5
     obtain ⟨A4, c4, rfl⟩ := Kd.R_slice hM4
     obtain ⟨A5, c5, rfl⟩ := Kd.R_slice hM5
     have HP := Lib.hid (HFb.out.pass hM hE hT hk' hk2)
     have HF9 := Lib.hid (HFb.out.step hT)
     clear hM hM4 hM5 hE hT hk' hk2
     unfold tmV
     have a0 := HF9.out.rd.2.c0
     have a1 := HF9.out.rd.2.c1
     have f1 := HF9.out.rd.2.f1
     obtain ⟨r0, r1, r2, r3, r4, r5, g0, g1, g2, g3, g4, g5⟩ := HF9.out.tm
     simp only [zTm] at r0 r1 r2 r3 r4 r5
     go_wp2_with fail
     refine bodyPost_ret (resTm2 rfl _ _ w.heap.size rt _ _ (by rfl) (HF9.out.tm.put rt _ _)) rfl ?_
     exact HP.out
    ·have X2 := isAtN (k := k0) c2
     have HTK := Lib.hid (take_c b s k0 d 91 91 (by decide) (by omega) hm _ HFa.out.rd.2)
     rw [HBK.out, X2] at HTK
     go_wp2_with fail
     refine HTK.out.mono ?_
     rintro e wn ⟨rfl, hT⟩
     replace HFa : Hid (RdF w wn b s k0 d) := Lib.hid (HFa.out.step hT)
     clear hT HTK
     have HTM := Lib.hid (rd_take b s k0 d markTxt h0 hm _ HFa.out.rd.2)
     rw [HBK.out] at HTM
     unfold TakePost at HTM
     rw [hit_mark] at HTM
     by_cases c5 : markLen s k0 5 = 5
     ·have hh : decide (markLen s k0 5 = 5) = true := decide_eq_true c5
      have c3 : bt s (k0 : Int) = 35 := Classical.byContradiction fun h => mark_no h c5
      have HRX := Lib.hid (HR0.out.trans ((bg_ref (F := F) hlt c3).trans (if_pos c5)))
      have h5 : k0 + 5 ≤ s.size := hit_len (p := markTxt) h0 (by rw [hit_mark]; exact hh)
      clear c1 c2 c3 c5
      rw [hh] at HTM
      go_wp2_with fail
      refine HTM.out.mono ?_
      rintro e wm ⟨rfl, hT⟩
      have HFb : Hid (RdF w wm b s (k0 + 5) d) := Lib.hid (HFa.out.step hT)
      clear hT HTM hh HFa
      have HCW := Lib.hid (rd_far b s (k0 + 5) d 3 3 (by omega) h5 hm wm HFb.out.rd.2 (HX0.out.step HFb.out.rd.1).gl)
      rw [← HRX.out] at HCW
      clear HRX
      go_wp2_with fail
      refine HCW.out.mono ?_
      rintro e w9 ⟨v, ev, rfl, hM, hE, k', hT, hk', hk2⟩
      have hM2 := hM
      obtain ⟨v4, v5, rfl, hM4, hM5⟩ := hM2
      simp only at hM4 hM5
      obtain ⟨A4, c4, rfl⟩ := Kd.R_slice hM4
      obtain ⟨A5, c5, rfl⟩ := Kd.R_slice hM5
      have HP := Lib.hid (HFb.out.pass hM hE hT hk' hk2)
      have HF9 := Lib.hid (HFb.out.step hT)
      clear hM hM4 hM5 hE hT hk' hk2
      unfold tmV
      have a0 := HF9.out.rd.2.c0
      have a1 := HF9.out.rd.2.c1
      have f1 := HF9.out.rd.2.f1
      obtain ⟨r0, r1, r2, r3, r4, r5, g0, g1, g2, g3, g4, g5⟩ := HF9.out.tm
      simp only [zTm] at r0 r1 r2 r3 r4 r5
      go_wp2_with fail
      refine bodyPost_ret (resTm2 rfl _ _ w.heap.size rt _ _ (by rfl) (HF9.out.tm.put rt _ _)) rfl ?_
      exact HP.out
     ·have hh : decide (markLen s k0 5 = 5) = false := decide_eq_false c5
      rw [hh] at HTM
      go_wp2_with fail
      refine HTM.out.mono ?_
      rintro e wm ⟨rfl, hT⟩
      replace HFa : Hid (RdF w wm b s k0 d) := Lib.hid (HFa.out.step hT)
      clear hT HTM hh
      by_cases c3 : bt s (k0 : Int) = 35
      ·have X3 := isAtN (k := k0) (s := s) (c := 60) (by omega)
       have HRX := Lib.hid (HR0.out.trans ((bg_ref (F := F) hlt c3).trans (if_neg c5)))
       have d3 : (bt s (k0 : Int) == 35) = true := beq_iff_eq.2 c3
       clear c1 c2
       have HTK := Lib.hid (take_c b s k0 d 60 60 (by decide) (by omega) hm _ HFa.out.rd.2)
       rw [HBK.out, X3] at HTK
       go_wp2_with fail
       refine HTK.out.mono ?_
       rintro e wn ⟨rfl, hT⟩
       replace HFa : Hid (RdF w wn b s k0 d) := Lib.hid (HFa.out.step hT)
       clear hT HTK
       obtain ⟨m, hm5, hlt5, hall, hmis⟩ := mark_spec s k0 c5
       have HALL := Lib.hid hall
       have HMIS := Lib.hid hmis
       have HRY : Hid ((rt, re, rl) = rdNo (k0 + m) 41) := Lib.hid (by rw [HRX.out, hm5])
       clear hall hmis hm5 c3 c5 HRX
       have a0 := HFa.out.rd.2.c0
       have a1 := HFa.out.rd.2.c1
       go_wp2_with fail
       go_quiet (fail)
       replace HFa := Lib.hid (HFa.out.drewN nq)
       clear a0 a1
       generalize wn.drewN nq = w4 at HFa ⊢
       have hgi : (w4.iter markTxt 0).heap[w4.heap.size]? = some (.stringIter markTxt 0) := heap_alloc_new w4 _
       have HFi : Hid (RdF w (w4.iter markTxt 0) b s k0 d) := Lib.hid (HFa.out.below (below_alloc (Below.refl _ _) _))
       have hnb : w4.heap.size ≠ b := by have := HFa.out.rd.2.lt; omega
       have hnw : w.heap.size + 1 ≤ w4.heap.size := HFa.out.tm.lt
       generalize hW5 : w4.iter markTxt 0 = w5 at hgi HFi
       go_wp2_with fail
       change Code.wp _ _ _ _ (w4.iter markTxt 0)
       rw [hW5]
       clear hW5
       generalize w4.heap.size = gi at hgi hnb hnw ⊢
       have HGI := Lib.hid hgi
       have HNB := Lib.hid hnb
       have HNW := Lib.hid hnw
       clear hgi hnb hnw HFa
       go_loopg [] (m + 1) (fun gk wl => ∃ pos : Nat, gk = m + 1 - pos ∧ pos ≤ m ∧ Hid (wl.heap[gi]? = some (.stringIter markTxt pos)) ∧ Hid (RdF w wl b s k0 d))
       case atStart => exact ⟨0, rfl, Nat.zero_le _, HGI, HFi⟩
       case round =>
        obtain ⟨pos, hgk, hpm, HI, HFl⟩ := hrel
        have HK := Lib.hid hgk
        clear hgk HGI HFi
        have hp5 : pos < markTxt.size := by rw [mark_size]; omega
        have hnx := fun ty => Lib.run_next_any_at (P := Tryz.prog) wr gi markTxt pos ty HI.out hp5
        rw [mark_dec pos (by omega)] at hnx
        go_wp2_with fail
        have HF8 : Hid (RdF w (wr.iterAt gi markTxt (pos + 1)) b s k0 d) := Lib.hid (HFl.out.appd (Lib.below_iterAt (Below.refl _ _) HNW.out _ _))
        have HI8 : Hid ((wr.iterAt gi markTxt (pos + 1)).heap[gi]? = some (.stringIter markTxt (pos + 1))) := Lib.hid (Lib.iterAt_heap wr gi markTxt pos _ HI.out)
        clear hnx HFl HI
        generalize wr.iterAt gi markTxt (pos + 1) = w8 at HF8 HI8 ⊢
        have a0 := HF8.out.rd.2.c0
        have a1 := HF8.out.rd.2.c1
        have hmg := mark_get pos (by omega)
        have hbT := btk markTxt pos
        rw [hmg.2] at hbT
        unfold markTxt at hbT
        have hw : IntKind.i64.wrap ((k0 : Int) + (pos : Int)) = (k0 : Int) + (pos : Int) := IntWalk.i64_in _ (by omega)
        have hw0 : (0 : Int) ≤ (k0 : Int) + (pos : Int) := by omega
        have hp0 : (0 : Int) ≤ (pos : Int) := by omega
        have hp1 : (pos : Int) < (5 : Int) := by rw [mark_size] at hp5; omega
        have hwn : ((k0 : Int) + (pos : Int)).toNat = k0 + pos := by omega
        by_cases hpm2 : pos < m
        ·have hat := HALL.out pos hpm2
         have hl := isAt_lt hat
         have hx1 : (k0 : Int) + (pos : Int) < (s.size : Int) := by omega
         have hb := btk s (k0 + pos)
         rw [isAt_val hat] at hb
         generalize refMark.getD pos 0 = c at hb hbT
         have dn : (c != c) = false := by simp
         have dA : decide ((k0 : Int) + (pos : Int) ≥ (s.size : Int)) = false := decide_eq_false (by omega)
         have dB : decide ((s.size : Int) ≤ (k0 : Int) + (pos : Int)) = false := decide_eq_false (by omega)
         have dC : decide (s.size ≤ k0 + pos) = false := decide_eq_false (by omega)
         clear hat hmg
         go_wp2_with fail
         go_quiet (fail)
         go_wp2_with fail
         go_roundg (m + 1 - (pos + 1))
         case measure => rw [HK.out]; omega
         case rel => exact ⟨pos + 1, rfl, by omega, Lib.hid HI8.out, Lib.hid (HF8.out.drewN _)⟩
        ·obtain rfl : pos = m := by omega
         have hat := HMIS.out
         by_cases hl : k0 + pos < s.size
         ·have hx1 : (k0 : Int) + (pos : Int) < (s.size : Int) := by omega
          have hb := btk s (k0 + pos)
          have hne : bt s ((k0 + pos : Nat) : Int) ≠ refMark.getD pos 0 := fun e => by rw [isAtY hl e] at hat; cases hat
          generalize bt s ((k0 + pos : Nat) : Int) = y at hb hne
          generalize refMark.getD pos 0 = c at hbT hne
          have dA : decide ((k0 : Int) + (pos : Int) ≥ (s.size : Int)) = false := decide_eq_false (by omega)
          have dB : decide ((s.size : Int) ≤ (k0 : Int) + (pos : Int)) = false := decide_eq_false (by omega)
          have dC : decide (s.size ≤ k0 + pos) = false := decide_eq_false (by omega)
          have dn : (y != c) = true := bne_iff_ne.2 hne
          clear hat hmg hne
          go_wp2_with fail
          go_quiet (fail)
          have HF9 := Lib.hid (HF8.out.drewN nq)
          clear a0 a1 HF8 HI8
          generalize w8.drewN nq = w9 at HF9 ⊢
          have a1 := HF9.out.rd.2.c1
          go_wp2_with fail
          refine (term_fault _ _ _ _ [] rfl).mono ?_
          rintro e w7 ⟨v, rfl, hE, hB⟩
          have HE := Lib.hid hE
          have HF7 := Lib.hid (HF9.out.below hB)
          clear hE hB a1
          have a0 := HF7.out.rd.2.c0
          have a1 := HF7.out.rd.2.c1
          have f1 := HF7.out.rd.2.f1
          obtain ⟨r0, r1, r2, r3, r4, r5, g0, g1, g2, g3, g4, g5⟩ := HF7.out.tm
          simp only [zTm] at r0 r1 r2 r3 r4 r5
          go_wp2_with fail
          refine bodyPost_ret (resTm2 rfl _ _ w.heap.size zTm _ _ (by rfl) (HF7.out.tm.put zTm _ _)) rfl ?_
          rw [HRY.out]
          exact HF7.out.fail HE.out (by simp) h0
         ·have dA : decide ((k0 : Int) + (pos : Int) ≥ (s.size : Int)) = true := decide_eq_true (by omega)
          have dB : decide ((s.size : Int) ≤ (k0 : Int) + (pos : Int)) = true := decide_eq_true (by omega)
          have dC : decide (s.size ≤ k0 + pos) = true := decide_eq_true (by omega)
          clear hat hmg
          go_wp2_with fail
          go_quiet (fail)
          have HF9 := Lib.hid (HF8.out.drewN nq)
          clear a0 a1 HF8 HI8
          generalize w8.drewN nq = w9 at HF9 ⊢
          have a1 := HF9.out.rd.2.c1
          go_wp2_with fail
          refine (term_fault _ _ _ _ [] rfl).mono ?_
          rintro e w7 ⟨v, rfl, hE, hB⟩
          have HE := Lib.hid hE
          have HF7 := Lib.hid (HF9.out.below hB)
          clear hE hB a1
          have a0 := HF7.out.rd.2.c0
          have a1 := HF7.out.rd.2.c1
          have f1 := HF7.out.rd.2.f1
          obtain ⟨r0, r1, r2, r3, r4, r5, g0, g1, g2, g3, g4, g5⟩ := HF7.out.tm
          simp only [zTm] at r0 r1 r2 r3 r4 r5
          go_wp2_with fail
          refine bodyPost_ret (resTm2 rfl _ _ w.heap.size zTm _ _ (by rfl) (HF7.out.tm.put zTm _ _)) rfl ?_
          rw [HRY.out]
          exact HF7.out.fail HE.out (by simp) h0
      ·have d3 : (bt s (k0 : Int) == 35) = false := beq_eq_false_iff_ne.2 c3
       clear c5
       by_cases c4 : bt s (k0 : Int) = 60
       ·have X := isAtY hlt c4
        have HRX := Lib.hid (HR0.out.trans (bg_pid hlt c4))
        clear c1 c2 c3 c4
        have HTK := Lib.hid (take_c b s k0 d 60 60 (by decide) (by omega) hm _ HFa.out.rd.2)
        rw [HBK.out, X] at HTK
        go_wp2_with fail
        refine HTK.out.mono ?_
        rintro e wn ⟨rfl, hT⟩
        have HFb : Hid (RdF w wn b s (k0 + 1) d) := Lib.hid (HFa.out.step hT)
        clear hT HTK HFa
        have HCW := Lib.hid (rd_far b s (k0 + 1) d 4 2 (by omega) (by omega) hm wn HFb.out.rd.2 (HX0.out.step HFb.out.rd.1).gl)
        rw [← HRX.out] at HCW
        clear X HRX
        go_wp2_with fail
        refine HCW.out.mono ?_
        rintro e w9 ⟨v, ev, rfl, hM, hE, k', hT, hk', hk2⟩
        have hM2 := hM
        obtain ⟨v4, v5, rfl, hM4, hM5⟩ := hM2
        simp only at hM4 hM5
        obtain ⟨A4, c4, rfl⟩ := Kd.R_slice hM4
        obtain ⟨A5, c5, rfl⟩ := Kd.R_slice hM5
        have HP := Lib.hid (HFb.out.pass hM hE hT hk' hk2)
        have HF9 := Lib.hid (HFb.out.step hT)
        clear hM hM4 hM5 hE hT hk' hk2
        unfold tmV
        have a0 := HF9.out.rd.2.c0
        have a1 := HF9.out.rd.2.c1
        have f1 := HF9.out.rd.2.f1
        obtain ⟨r0, r1, r2, r3, r4, r5, g0, g1, g2, g3, g4, g5⟩ := HF9.out.tm
        simp only [zTm] at r0 r1 r2 r3 r4 r5
        go_wp2_with fail
        refine bodyPost_ret (resTm2 rfl _ _ w.heap.size rt _ _ (by rfl) (HF9.out.tm.put rt _ _)) rfl ?_
        exact HP.out
       ·have X4 := isAtN (k := k0) c4
        have HRX := Lib.hid (HR0.out.trans (bg_atom hlt HNU.out c1 c2 c3 c4))
        clear c1 c2 c3 c4
        have HTK := Lib.hid (take_c b s k0 d 60 60 (by decide) (by omega) hm _ HFa.out.rd.2)
        rw [HBK.out, X4] at HTK
        go_wp2_with fail
        refine HTK.out.mono ?_
        rintro e wn ⟨rfl, hT⟩
        replace HFa : Hid (RdF w wn b s k0 d) := Lib.hid (HFa.out.step hT)
        clear hT HTK
        have a0 := HFa.out.rd.2.c0
        have a1 := HFa.out.rd.2.c1
        go_wp2_with fail
        go_quiet (fail)
        replace HFa := Lib.hid (HFa.out.drewN nq)
        clear a0 a1
        generalize wn.drewN nq = w4 at HFa ⊢
        have HAT := Lib.hid (rd_atom b s k0 d h0 hm w4 HFa.out.rd.2 (HX0.out.step HFa.out.rd.1).gl)
        generalize atomAt s k0 = q at HAT HRX
        obtain ⟨nm, ne, nl⟩ := q
        go_wp2_with fail
        refine HAT.out.mono ?_
        rintro e w5 ⟨ev, rfl, hE, k', hT, _, hk', hk2⟩
        have HF5 := Lib.hid (HFa.out.step hT)
        have HE := Lib.hid hE
        clear hT HAT
        cases nl with
        | cons x r =>
         have HRY : Hid ((rt, re, rl) = (zTm, 0, x :: r)) := Lib.hid (HRX.out.trans (if_neg (by simp)))
         obtain ⟨eb, eu, rfl, _⟩ := hE
         have a0 := HF5.out.rd.2.c0
         have a1 := HF5.out.rd.2.c1
         have f1 := HF5.out.rd.2.f1
         obtain ⟨r0, r1, r2, r3, r4, r5, g0, g1, g2, g3, g4, g5⟩ := HF5.out.tm
         simp only [zTm] at r0 r1 r2 r3 r4 r5
         go_wp2_with fail
         refine bodyPost_ret (resTm2 rfl _ _ w.heap.size zTm _ _ (by rfl) (HF5.out.tm.put zTm _ _)) rfl ?_
         rw [HRY.out]
         exact HF5.out.fail HE.out (by simp) hk'
        | nil =>
         obtain rfl : ev = .nilIface := hE
         obtain rfl := hk2 rfl
         have HRY : Hid ((rt, re, rl) = (⟨2, 0, nm, 0, [], []⟩, k', [])) := Lib.hid (HRX.out.trans (if_pos rfl))
         clear hk2
         have a0 := HF5.out.rd.2.c0
         have a1 := HF5.out.rd.2.c1
         have f1 := HF5.out.rd.2.f1
         obtain ⟨r0, r1, r2, r3, r4, r5, g0, g1, g2, g3, g4, g5⟩ := HF5.out.tm
         simp only [zTm] at r0 r1 r2 r3 r4 r5
         go_wp2_with fail
         refine bodyPost_ret (resTm2 rfl _ _ w.heap.size ⟨2, 0, nm, 0, [], []⟩ _ _ (by rfl) (HF5.out.tm.put ⟨2, 0, nm, 0, [], []⟩ _ _)) rfl ?_
         rw [HRY.out]
         exact HF5.out.done ⟨2, 0, nm, 0, [], []⟩ (TmMade.flat _ _ _ _ _ _) hk'
 ·have d0 : ((k0 : Int) == (s.size : Int)) = true := beq_iff_eq.2 (by omega)
  have HRX := Lib.hid (HR0.out.trans (bg_end (F := F) (by omega)))
  clear HR0
  go_wp2_with fail
  go_quiet (fail)
  have HFa := Lib.hid (HF.out.drewN nq)
  clear a0 a1
  generalize w1.drewN nq = w2 at HFa ⊢
  go_wp2_with fail
  refine (rd_text b s k0 d _ HFa.out.rd.2).mono ?_
  rintro e w7 ⟨v, rfl, hE, hB⟩
  have HE := Lib.hid hE
  have HF7 := Lib.hid (HFa.out.below hB)
  clear hE hB
  have a0 := HF7.out.rd.2.c0
  have a1 := HF7.out.rd.2.c1
  have f1 := HF7.out.rd.2.f1
  obtain ⟨r0, r1, r2, r3, r4, r5, g0, g1, g2, g3, g4, g5⟩ := HF7.out.tm
  simp only [zTm] at r0 r1 r2 r3 r4 r5
  go_wp2_with fail
  refine bodyPost_ret (resTm2 rfl _ _ w.heap.size zTm _ _ (by rfl) (HF7.out.tm.put zTm _ _)) rfl ?_
  rw [HRX.out]
  exact HF7.out.fail HE.out (by simp) h0
end Go.Proofs.YtibbcfeaododhaaGreatDoor
set_option linter.unusedSimpArgs false
namespace Go.Proofs.YtibbcfeaododhaaGreatDoor
open Go.RowKit Go.Sort Go.Proofs.YtibbcfeaododhaaGreatDoorW.PrintWords
theorem numAt_fwd {s : ByteArray} {k : Nat} (h : (numAt s k).2.2 = []) : k < (numAt s k).2.1 ∧ (numAt s k).2.1 ≤ s.size := by
 unfold numAt at h ⊢
 cases hd : isDig s k with
 | false => rw [if_pos hd] at h; cases h
 | true =>
  have hq := digs_all hd
  rw [if_neg (by simp [hd])] at h ⊢
  split at h
  ·cases h
  ·rw [if_neg (by assumption)]
   exact ⟨hq.2.2.1, hq.2.2.2⟩
theorem numsAt_fwd {s : ByteArray} : ∀ (n k : Nat), (numsAt s n k).2.2 = [] → k ≤ (numsAt s n k).2.1
 | 0, k, _ => by rw [numsAt]; exact Nat.le_refl _
 | n + 1, k, h => by
  cases hd : isAt s k 46 with
  | false =>
   have e := nums_fail1 (s := s) (k := k) n [] hd
   rw [numsAt, if_pos hd] at h
   cases h
  | true =>
   by_cases h2 : (numAt s (k + 1)).2.2 = []
   ·have e := nums_step (s := s) (k := k) n [] hd h2
    have e1 : numExt [] (numsAt s (n + 1) k) = ((numsAt s (n + 1) k).1, (numsAt s (n + 1) k).2.1, []) := by unfold numExt; rw [if_pos h]; rfl
    rw [e1] at e
    by_cases h3 : (numsAt s n (numAt s (k + 1)).2.1).2.2 = []
    ·unfold numExt at e
     rw [if_pos h3] at e
     have e2 := congrArg (fun q => q.2.1) e
     simp only at e2
     rw [e2]
     have := numsAt_fwd n _ h3
     have := (numAt_fwd h2).1
     omega
    ·unfold numExt at e
     rw [if_neg h3] at e
     exact absurd (congrArg (fun q => q.2.2) e).symm h3
   ·have e := nums_fail2 (s := s) (k := k) n [] hd h2
    unfold numExt at e
    rw [if_pos h] at e
    exact absurd (congrArg (fun q => q.2.2) e).symm h2
theorem atomAt_fwd {s : ByteArray} {k : Nat} (h : (atomAt s k).2.2 = []) : k < (atomAt s k).2.1 ∧ (atomAt s k).2.1 ≤ s.size := by
 unfold atomAt at h ⊢
 cases hb : begAtom s k with
 | false => rw [if_pos hb] at h; cases h
 | true =>
  rw [if_neg (by simp [hb])] at h ⊢
  have hk : k < s.size := by unfold begAtom at hb; rw [Bool.and_eq_true, decide_eq_true_eq] at hb; exact hb.1
  have hr := aScan_range s k hk
  generalize aScan s k = q at h hr ⊢
  obtain ⟨a, e, l⟩ := q
  cases l with
  | nil => exact hr rfl
  | cons x r => simp [overTm] at h
/-- What a reading that went well says of its end. -/
def Good (s : ByteArray) (k : Nat) (r : Rd) : Prop := r.2.2 = [] → k < r.2.1 ∧ r.2.1 ≤ s.size ∧ k + r.1.args.length ≤ r.2.1
theorem good_no (s : ByteArray) (k j : Nat) (c : Int) : Good s k (rdNo j c) := fun h => by cases h
theorem good_err {s : ByteArray} {k : Nat} {l : List Lk} (h : l ≠ []) : Good s k (zTm, 0, l) := fun e => absurd e h
theorem int_good {s : ByteArray} {k j : Nat} (sg : Int) (h : k ≤ j) : Good s k (intAt s k j sg) := by
 unfold intAt
 cases hd : isDig s j with
 | false => rw [if_pos rfl]; exact good_no _ _ _ _
 | true =>
  have hq := digs_all hd
  rw [if_neg (by simp)]
  split
  ·exact good_no _ _ _ _
  ·exact fun _ => ⟨by simp only; omega, hq.2.2.2, by simp only [tmInt, List.length_nil]; omega⟩
theorem whole_good (s : ByteArray) (k : Nat) : Good s k (wholeAt s k) := by
 unfold wholeAt
 split
 ·split
  ·exact good_no _ _ _ _
  ·exact int_good _ (by omega)
 ·exact int_good _ (Nat.le_refl _)
theorem far_good (s : ByteArray) (k : Nat) (kd : Int) (many : Nat) : Good s k (farAt s k kd many) := by
 rw [farAt_eq]
 by_cases h : (atomAt s k).2.2 = []
 ·rw [if_pos h]
  have h1 := atomAt_fwd h
  split
  ·rename_i hn
   exact good_err (by unfold nodeBad; rw [if_neg (by simp [hn])]; simp [overTm])
  ·unfold farEnd
   by_cases h2 : (numsAt s (many + 1) (atomAt s k).2.1).2.2 = []
   ·rw [if_pos h2]
    have h3 := numsAt_fwd _ _ h2
    split
    ·exact good_no _ _ _ _
    ·rename_i hc
     have hlt := isAt_lt (by simpa using hc)
     exact fun _ => ⟨by simp only; omega, by simp only; omega, by simp only [List.length_nil]; omega⟩
   ·rw [if_neg h2]; exact good_err h2
 ·rw [if_neg h]; exact good_err h
theorem tuple_good {F : Nat → Rd} {s : ByteArray} (hF : Fwd s F) {k : Nat} (hk : k ≤ s.size) : Good s k (tupleAt F s k) := by
 rw [tupleAt_eq]
 have hb := blk_ge s k
 have hl := blk_le s k hk
 split
 ·rename_i hc
  have hlt := isAt_lt hc
  exact fun _ => ⟨by simp only; omega, by simp only; omega, by simp only [List.length_nil]; omega⟩
 ·unfold tupEnd
  by_cases h : (sevAt F s (s.size + 1) (blk s k) []).2.2 = []
  ·rw [if_pos h]
   have hs := sev_blk hF (s.size + 1) (blk s k) [] hl (by omega) h
   have h3 := hs.2.2.1
   rw [List.length_nil] at h3
   split
   ·rename_i hc
    have hlt := isAt_lt hc
    exact fun _ => ⟨by simp only; omega, by simp only; omega, by simp only; omega⟩
   ·exact good_no _ _ _ _
  ·rw [if_neg h]; exact good_err h
theorem listEnd_good {s : ByteArray} {k e : Nat} {l : List Tm} {t : Tm} (h1 : k + l.length ≤ e) (h2 : k + l.length + t.args.length ≤ e) (he : k < e) : Good s k (listEnd s l t e) := by
 unfold listEnd
 split
 ·rename_i hc
  have hlt := isAt_lt hc
  refine fun _ => ⟨by simp only; omega, by simp only; omega, ?_⟩
  simp only [joinT]
  split
  ·rw [List.length_append]; omega
  ·rw [List.length_append, List.length_singleton]; omega
 ·exact good_no _ _ _ _
theorem list_good {F : Nat → Rd} {s : ByteArray} (hF : Fwd s F) {k : Nat} (hk : k ≤ s.size) : Good s k (listAt F s k) := by
 rw [listAt_eq]
 have hb := blk_ge s k
 have hl := blk_le s k hk
 split
 ·rename_i hc
  have hlt := isAt_lt hc
  exact fun _ => ⟨by simp only; omega, by simp only; omega, by simp only [tmNil, List.length_nil]; omega⟩
 ·unfold lstEnd
  by_cases h : (sevAt F s (s.size + 1) (blk s k) []).2.2 = []
  ·rw [if_pos h]
   have hs := sev_blk hF (s.size + 1) (blk s k) [] hl (by omega) h
   have h3 := hs.2.2.1
   rw [List.length_nil] at h3
   generalize sevAt F s (s.size + 1) (blk s k) [] = q at h hs h3 ⊢
   split
   ·by_cases h2 : (F (q.2.1 + 1)).2.2 = []
    ·rw [if_pos h2]
     have hq := hF (q.2.1 + 1) (F (q.2.1 + 1)).1 (F (q.2.1 + 1)).2.1 (by rw [← h2])
     have hg := blk_ge s (F (q.2.1 + 1)).2.1
     exact listEnd_good (by omega) (by omega) (by omega)
    ·rw [if_neg h2]; exact good_err h2
   ·exact listEnd_good (by omega) (by simp only [tmNil, List.length_nil]; omega) (by omega)
  ·rw [if_neg h]; exact good_err h
theorem Good.down {s : ByteArray} {k j : Nat} {r : Rd} (h : Good s j r) (hk : k ≤ j) : Good s k r := fun e => by
 have := h e
 omega
theorem begun_good {F : Nat → Rd} {s : ByteArray} (hF : Fwd s F) (k : Nat) : Good s k (begunAt F s k) := by
 by_cases h0 : k < s.size
 ·by_cases c0 : isDigit (bt s (k : Int)) = true ∨ bt s (k : Int) = 45
  ·rw [bg_whole h0 c0]; exact whole_good s k
  ·by_cases c1 : bt s (k : Int) = 123
   ·rw [bg_tuple h0 c1]; exact (tuple_good hF (by omega)).down (by omega)
   ·by_cases c2 : bt s (k : Int) = 91
    ·rw [bg_list h0 c2]; exact (list_good hF (by omega)).down (by omega)
    ·by_cases c3 : bt s (k : Int) = 35
     ·rw [bg_ref h0 c3]
      split
      ·exact (far_good s (k + 5) 3 3).down (by omega)
      ·exact good_no _ _ _ _
     ·by_cases c4 : bt s (k : Int) = 60
      ·rw [bg_pid h0 c4]; exact (far_good s (k + 1) 4 2).down (by omega)
      ·rw [bg_atom h0 c0 c1 c2 c3 c4]
       by_cases h : (atomAt s k).2.2 = []
       ·rw [if_pos h]
        have h1 := atomAt_fwd h
        exact fun _ => ⟨h1.1, h1.2, by simp only [List.length_nil]; omega⟩
       ·rw [if_neg h]; exact good_err h
 ·rw [bg_end (by omega)]; exact good_no _ _ _ _
theorem rdT_fwd (s : ByteArray) : ∀ d, Fwd s (rdT s d)
 | 0 => fun k t e h => by rw [rdT] at h; cases h
 | d + 1 => fun k t e h => by
  have hg := (begun_good (rdT_fwd s d) (blk s k)).down (blk_ge s k)
  rw [rdT] at h
  rw [h] at hg
  exact hg rfl
end Go.Proofs.YtibbcfeaododhaaGreatDoor
set_option linter.unusedSimpArgs false
set_option linter.unusedVariables false
namespace Go.Proofs.YtibbcfeaododhaaGreatDoor
open Go.RowKit Go.Sort Go.Proofs.YtibbcfeaododhaaGreatDoorW.PrintWords
theorem RfF.pass {w W : World} {b : Nat} {s : ByteArray} {k d bd : Nat} {v : Value} {r : Rd} (h : RfF w W b s k d v) (t : Tm) {u4 u5 : Value} (hm : TmMade W (w.heap.size + 1) t (tmV t u4 u5)) (hbd : t.args.length ≤ bd) (ht : r.2.2 = [] → t = r.1) (hL : LnIs W (b + 1) r.2.2 v) (hk : k ≤ s.size) (hke : r.2.2 = [] → k = r.2.1) :
  RfTm w b s d bd r (.returned (tmV t u4 u5)) (put6 W w.heap.size t u4 u5) :=
 ⟨_, _, rfl, (hm.above (fun j hj _ => put6_heap W w.heap.size t u4 u5 j (by omega))).lower (Nat.le_succ _), hbd, ht, k, v, h.put _ _ _, hk, h.ln hL _ _ _, hke⟩
theorem begun_out {F : Nat → Rd} {s : ByteArray} {k : Nat} (h : s.size ≤ k) : begunAt F s k = rdNo k 41 := by unfold begunAt; rw [if_pos h]
theorem begun_num {F : Nat → Rd} {s : ByteArray} {k : Nat} (h : k < s.size) (hd : isDigit (bt s (k : Int)) = true ∨ bt s (k : Int) = 45) : begunAt F s k = wholeAt s k := by unfold begunAt; rw [if_neg (by omega), if_pos hd]
theorem begun_c {F : Nat → Rd} {s : ByteArray} {k : Nat} (h : k < s.size) (hd : ¬ (isDigit (bt s (k : Int)) = true ∨ bt s (k : Int) = 45)) : begunAt F s k = if bt s (k : Int) = 123 then tupleAt F s (k + 1)
 else if bt s (k : Int) = 91 then listAt F s (k + 1)
 else if bt s (k : Int) = 35 then (if markLen s k 5 = 5 then farAt s (k + 5) 3 3 else rdNo (k + markLen s k 5) 41)
 else if bt s (k : Int) = 60 then farAt s (k + 1) 4 2
 else match atomAt s k with
  | (a, e, []) => (⟨2, 0, a, 0, [], []⟩, e, [])
  | (_, _, l) => (zTm, 0, l) := by unfold begunAt; rw [if_neg (by omega), if_neg hd]; rfl
theorem decAt_pos {s : ByteArray} {k : Nat} (h : isDig s k = true) : 0 ≤ decAt s k (digEnd s k) := by
 obtain ⟨hdl, _, _, _⟩ := digs_all h
 rw [decAt_txt hdl]
 omega
theorem intAt_neg (s : ByteArray) (k j : Nat) : (intAt s k j (-1)).2.2 = (numM s j 576460752303423488 2 (k : Int)).2.2 ∧ ((numM s j 576460752303423488 2 (k : Int)).2.2 = [] → intAt s k j (-1) = (tmInt (-(numM s j 576460752303423488 2 (k : Int)).1), (numM s j 576460752303423488 2 (k : Int)).2.1, [])) := by
 unfold intAt numM
 cases hd : isDig s j with
 | false => simp [rdNo]
 | true =>
  have hp := decAt_pos hd
  generalize decAt s j (digEnd s j) = D at hp ⊢
  simp only [Bool.true_eq_false, if_false]
  by_cases hx : 576460752303423488 < D
  ·rw [if_pos (by omega), if_pos hx]; simp [rdNo]
  ·rw [if_neg (by omega), if_neg hx]
   refine ⟨rfl, fun _ => ?_⟩
   simp only
   rw [show -1 * D = -D by omega]
theorem intAt_pos (s : ByteArray) (k j : Nat) : (intAt s k j 1).2.2 = (numM s j 576460752303423487 2 (k : Int)).2.2 ∧ ((numM s j 576460752303423487 2 (k : Int)).2.2 = [] → intAt s k j 1 = (tmInt ((numM s j 576460752303423487 2 (k : Int)).1), (numM s j 576460752303423487 2 (k : Int)).2.1, [])) := by
 unfold intAt numM
 cases hd : isDig s j with
 | false => simp [rdNo]
 | true =>
  have hp := decAt_pos hd
  generalize decAt s j (digEnd s j) = D at hp ⊢
  simp only [Bool.true_eq_false, if_false]
  by_cases hx : 576460752303423487 < D
  ·rw [if_pos (by omega), if_pos hx]; simp [rdNo]
  ·rw [if_neg (by omega), if_neg hx]
   refine ⟨rfl, fun _ => ?_⟩
   simp only
   rw [show 1 * D = D by omega]
set_option maxRecDepth 100000 in
set_option maxHeartbeats 4000000 in
theorem rf_begun_minus (b : Nat) (s : ByteArray) (k0 d bd : Nat) (F : Nat → Rd) (hlt : k0 < s.size) (hb : bt s (k0 : Int) = 45) (hm : s.size ≤ 4194304) (w : World) (hS : RfAt w b s k0 d (.slice none 0 0)) :
  Calls Tryz.prog 61 #[.pointer (some ⟨b, 0, none⟩)] w (RfTm w b s d bd (begunAt F s k0)) := by
 obtain ⟨R, hR⟩ : ∃ R, R = begunAt F s k0 := ⟨_, rfl⟩
 rw [← hR]
 rw [begun_num hlt (.inr hb)] at hR
 unfold wholeAt at hR
 rw [if_pos hb] at hR
 have HR0 := Lib.hid hR
 have hc : byAt s k0 = 45 := by unfold byAt; rw [if_pos hlt, hb]
 have h0 : k0 ≤ s.size := Nat.le_of_lt hlt
 clear hR hb
 obtain ⟨w1, hw1⟩ : ∃ W, W = w.alloc (.cells #[.int .i64 0, .int .i64 0, .string ⟨#[]⟩, .int .u32 0, .slice none 0 0, .slice none 0 0] 27) := ⟨_, rfl⟩
 have hF1 : RfF w w1 b s k0 d (.slice none 0 0) := by rw [hw1]; exact RfF.start hS
 have HBY := Lib.hid (rf_byte b s k0 d _ h0 hm w1 hF1.rd.2)
 have HF := Lib.hid hF1
 clear hS hF1
 rw [hc] at HBY
 clear hc
 go_enter Tryz.func61, Tryz.ntmps61
 go_upto_region 1 with (fail)
 rw [← hw1]
 clear hw1
 go_wp2_with fail
 refine HBY.out.mono ?_
 rintro e w2 ⟨rfl, n2, rfl⟩
 replace HF := Lib.hid (HF.out.drewN n2)
 generalize w1.drewN n2 = w2 at HF ⊢
 clear HBY
 have a0 := HF.out.rd.2.c0
 have a1 := HF.out.rd.2.c1
 have e0 : (0 : Int) ≤ (k0 : Int) := by omega
 have e1 : (k0 : Int) < (s.size : Int) := by omega
 go_wp2_with fail
 go_quiet (fail)
 replace HF := Lib.hid (HF.out.drewN nq)
 clear a0 a1
 generalize w2.drewN nq = w3 at HF ⊢
 have a1 := HF.out.rd.2.c1
 have f1 := HF.out.rd.2.f1
 go_upto_region 5 with (fail)
 replace HF := Lib.hid (HF.out.step ((RfTo.refl HF.out.rd.2).set1 ((k0 : Int) + 1) (k0 + 1) (by omega)))
 clear a1 f1
 generalize w3.setCell ⟨b, 1, none⟩ (.int .i64 ((k0 : Int) + 1)) = w4 at HF ⊢
 have h1 : k0 + 1 ≤ s.size := by omega
 obtain ⟨j, hj⟩ : ∃ j, j = k0 + 1 := ⟨_, rfl⟩
 rw [← hj] at HF h1
 rw [← hj] at HR0
 clear hj
 have HBY := Lib.hid (rf_byte b s j d _ h1 hm w4 HF.out.rd.2)
 have HBC := Lib.hid (byAt_c (s := s) (k := j) (c := 48) (by decide))
 generalize byAt s j = c at HBY HBC
 cases h48 : isAt s j 48 with
 | true =>
  have d48 : (c == 48) = true := by rw [HBC.out, h48]
  have HR : Hid (R = (zTm, 0, [⟨nTerm, (j : Nat), 41⟩])) := Lib.hid (by rw [HR0.out, if_pos h48]; rfl)
  clear h48 HBC
  go_wp2_with fail
  refine HBY.out.mono ?_
  rintro e w5 ⟨rfl, n5, rfl⟩
  replace HF := Lib.hid (HF.out.drewN n5)
  generalize w4.drewN n5 = w5 at HF ⊢
  clear HBY
  have a1 := HF.out.rd.2.c1
  go_wp2_with fail
  refine (rf_fail b s j d _ _ h1 _ HF.out.rd.2).mono ?_
  rintro e w6 ⟨rfl, k5, v5, hT, hk5, hL, _⟩
  have HF5 := Lib.hid (HF.out.step hT)
  have HL := Lib.hid hL
  clear hT hL a1
  unfold vZero
  obtain ⟨r0, r1, r2, r3, r4, r5, g0, g1, g2, g3, g4, g5⟩ := HF5.out.tm
  simp only [zTm] at r0 r1 r2 r3 r4 r5
  go_wp2_with fail
  refine bodyPost_ret (resTm rfl _ _ w.heap.size zTm _ _ (by rfl) (HF5.out.tm.put zTm _ _)) rfl ?_
  rw [HR.out]
  exact HF5.out.none zTm zTm (TmMade.zero _ _) HL.out (by simp) hk5
 | false =>
  have d48 : (c == 48) = false := by rw [HBC.out, h48]
  have hi := intAt_neg s k0 j
  rw [if_neg (by rw [h48]; simp)] at HR0
  rw [← HR0.out] at hi
  have HI := Lib.hid hi
  clear h48 HBC hi
  go_wp2_with fail
  refine HBY.out.mono ?_
  rintro e w5 ⟨rfl, n5, rfl⟩
  replace HF := Lib.hid (HF.out.drewN n5)
  generalize w4.drewN n5 = w5 at HF ⊢
  clear HBY
  have HN := Lib.hid (rf_number b s j d 576460752303423488 2 (k0 : Int) h1 hm (by omega) (by omega) w5 HF.out.rd.2)
  generalize numM s j 576460752303423488 2 (k0 : Int) = q at HN HI
  go_wp2_with fail
  refine HN.out.mono ?_
  rintro e w6 ⟨n, rfl, hn0, hn1, hnv, k6, v6, hT, hk6, hL, hke⟩
  have HF7 := Lib.hid (HF.out.step hT)
  have HL := Lib.hid hL
  have HNV := Lib.hid hnv
  have HKE := Lib.hid hke
  clear hT hL hnv hke HN
  obtain ⟨r0, r1, r2, r3, r4, r5, g0, g1, g2, g3, g4, g5⟩ := HF7.out.tm
  simp only [zTm] at r0 r1 r2 r3 r4 r5
  go_wp2_with fail
  refine bodyPost_ret (resTm rfl _ _ w.heap.size (tmInt (-n)) _ _ (by rfl) (HF7.out.tm.put (tmInt (-n)) _ _)) rfl ?_
  exact HF7.out.pass (tmInt (-n)) (TmMade.flat _ _ _ _ _ _) (Nat.zero_le _) (fun e => by rw [HI.out.1] at e; rw [HI.out.2 e, HNV.out e]) (by rw [HI.out.1]; exact HL.out) hk6 (fun e => by rw [HI.out.1] at e; rw [HI.out.2 e, HKE.out e])
set_option maxRecDepth 100000 in
set_option maxHeartbeats 4000000 in
theorem rf_begun_dig (b : Nat) (s : ByteArray) (k0 d bd : Nat) (F : Nat → Rd) (hlt : k0 < s.size) (hb : isDigit (bt s (k0 : Int)) = true) (hm : s.size ≤ 4194304) (w : World) (hS : RfAt w b s k0 d (.slice none 0 0)) :
  Calls Tryz.prog 61 #[.pointer (some ⟨b, 0, none⟩)] w (RfTm w b s d bd (begunAt F s k0)) := by
 obtain ⟨R, hR⟩ : ∃ R, R = begunAt F s k0 := ⟨_, rfl⟩
 rw [← hR]
 rw [begun_num hlt (.inl hb)] at hR
 unfold isDigit at hb
 rw [Bool.and_eq_true, decide_eq_true_eq, decide_eq_true_eq] at hb
 unfold wholeAt at hR
 rw [if_neg (by omega)] at hR
 have hi := intAt_pos s k0 k0
 rw [← hR] at hi
 have HI := Lib.hid hi
 have h0 : k0 ≤ s.size := Nat.le_of_lt hlt
 obtain ⟨c0, hc⟩ : ∃ c, byAt s k0 = c := ⟨_, rfl⟩
 have hcc : c0 = bt s (k0 : Int) := by rw [← hc]; unfold byAt; rw [if_pos hlt]
 have d45 : (c0 == 45) = false := beq_eq_false_iff_ne.2 (by omega)
 have d48 : decide (c0 ≥ 48) = true := decide_eq_true (by omega)
 have d57 : decide (c0 ≤ 57) = true := decide_eq_true (by omega)
 clear hR hb hcc hi
 obtain ⟨w1, hw1⟩ : ∃ W, W = w.alloc (.cells #[.int .i64 0, .int .i64 0, .string ⟨#[]⟩, .int .u32 0, .slice none 0 0, .slice none 0 0] 27) := ⟨_, rfl⟩
 have hF1 : RfF w w1 b s k0 d (.slice none 0 0) := by rw [hw1]; exact RfF.start hS
 have HBY := Lib.hid (rf_byte b s k0 d _ h0 hm w1 hF1.rd.2)
 have HF := Lib.hid hF1
 clear hS hF1
 rw [hc] at HBY
 clear hc
 go_enter Tryz.func61, Tryz.ntmps61
 go_upto_region 1 with (fail)
 rw [← hw1]
 clear hw1
 go_wp2_with fail
 refine HBY.out.mono ?_
 rintro e w2 ⟨rfl, n2, rfl⟩
 replace HF := Lib.hid (HF.out.drewN n2)
 generalize w1.drewN n2 = w2 at HF ⊢
 clear HBY
 have a0 := HF.out.rd.2.c0
 have a1 := HF.out.rd.2.c1
 have e0 : (0 : Int) ≤ (k0 : Int) := by omega
 have e1 : (k0 : Int) < (s.size : Int) := by omega
 go_wp2_with fail
 go_quiet (fail)
 replace HF := Lib.hid (HF.out.drewN nq)
 clear a0 a1
 generalize w2.drewN nq = w3 at HF ⊢
 have HN := Lib.hid (rf_number b s k0 d 576460752303423487 2 (k0 : Int) h0 hm (by omega) (by omega) w3 HF.out.rd.2)
 generalize numM s k0 576460752303423487 2 (k0 : Int) = q at HN HI
 have a1 := HF.out.rd.2.c1
 go_wp2_with fail
 refine HN.out.mono ?_
 rintro e w6 ⟨n, rfl, hn0, hn1, hnv, k6, v6, hT, hk6, hL, hke⟩
 have HF7 := Lib.hid (HF.out.step hT)
 have HL := Lib.hid hL
 have HNV := Lib.hid hnv
 have HKE := Lib.hid hke
 clear hT hL hnv hke HN a1
 obtain ⟨r0, r1, r2, r3, r4, r5, g0, g1, g2, g3, g4, g5⟩ := HF7.out.tm
 simp only [zTm] at r0 r1 r2 r3 r4 r5
 go_wp2_with fail
 refine bodyPost_ret (resTm rfl _ _ w.heap.size (tmInt n) _ _ (by rfl) (HF7.out.tm.put (tmInt n) _ _)) rfl ?_
 exact HF7.out.pass (tmInt n) (TmMade.flat _ _ _ _ _ _) (Nat.zero_le _) (fun e => by rw [HI.out.1] at e; rw [HI.out.2 e, HNV.out e]) (by rw [HI.out.1]; exact HL.out) hk6 (fun e => by rw [HI.out.1] at e; rw [HI.out.2 e, HKE.out e])
set_option maxRecDepth 100000 in
set_option maxHeartbeats 4000000 in
theorem rf_begun_no (b : Nat) (s : ByteArray) (k0 d bd : Nat) (R : Rd) (hR : R = rdNo k0 41) (h0 : k0 ≤ s.size) (hm : s.size ≤ 4194304) (w : World) (hS : RfAt w b s k0 d (.slice none 0 0))
  (d45 : (byAt s k0 == 45) = false) (d48 : decide (byAt s k0 ≥ 48) = false ∨ (decide (byAt s k0 ≥ 48) = true ∧ decide (byAt s k0 ≤ 57) = false)) (hbg : begAtom s k0 = false) (d60 : (byAt s k0 == 60) = false) (d35 : (byAt s k0 == 35) = false) (d123 : (byAt s k0 == 123) = false) (d91 : (byAt s k0 == 91) = false) :
  Calls Tryz.prog 61 #[.pointer (some ⟨b, 0, none⟩)] w (RfTm w b s d bd R) := by
 have HR : Hid (R = (zTm, 0, [⟨nTerm, (k0 : Nat), 41⟩])) := Lib.hid hR
 clear hR
 rcases d48 with d48 | ⟨d48, d57⟩
 ·obtain ⟨w1, hw1⟩ : ∃ W, W = w.alloc (.cells #[.int .i64 0, .int .i64 0, .string ⟨#[]⟩, .int .u32 0, .slice none 0 0, .slice none 0 0] 27) := ⟨_, rfl⟩
  have hF1 : RfF w w1 b s k0 d (.slice none 0 0) := by rw [hw1]; exact RfF.start hS
  have HBY := Lib.hid (rf_byte b s k0 d _ h0 hm w1 hF1.rd.2)
  have HF := Lib.hid hF1
  clear hS hF1
  generalize byAt s k0 = c at *
  go_enter Tryz.func61, Tryz.ntmps61
  go_upto_region 1 with (fail)
  rw [← hw1]
  clear hw1
  go_wp2_with fail
  refine HBY.out.mono ?_
  rintro e w2 ⟨rfl, n2, rfl⟩
  replace HF := Lib.hid (HF.out.drewN n2)
  generalize w1.drewN n2 = w2 at HF ⊢
  clear HBY
  have a0 := HF.out.rd.2.c0
  have a1 := HF.out.rd.2.c1
  go_wp2_with fail
  go_quiet (fail)
  replace HF := Lib.hid (HF.out.drewN nq)
  clear a0 a1
  generalize w2.drewN nq = w3 at HF ⊢
  go_wp2_with fail
  refine (rf_begins b s k0 d _ h0 hm w3 HF.out.rd.2).mono ?_
  rintro e w4 ⟨rfl, n4, rfl⟩
  replace HF := Lib.hid (HF.out.drewN n4)
  generalize w3.drewN n4 = w4 at HF ⊢
  rw [hbg]
  have a1 := HF.out.rd.2.c1
  go_wp2_with fail
  refine (rf_fail b s k0 d _ _ h0 _ HF.out.rd.2).mono ?_
  rintro e w5 ⟨rfl, k5, v5, hT, hk5, hL, _⟩
  have HF5 := Lib.hid (HF.out.step hT)
  have HL := Lib.hid hL
  clear hT hL a1
  unfold vZero
  obtain ⟨r0, r1, r2, r3, r4, r5, g0, g1, g2, g3, g4, g5⟩ := HF5.out.tm
  simp only [zTm] at r0 r1 r2 r3 r4 r5
  go_wp2_with fail
  refine bodyPost_ret (resTm rfl _ _ w.heap.size zTm _ _ (by rfl) (HF5.out.tm.put zTm _ _)) rfl ?_
  rw [HR.out]
  exact HF5.out.none zTm zTm (TmMade.zero _ _) HL.out (by simp) hk5
 ·obtain ⟨w1, hw1⟩ : ∃ W, W = w.alloc (.cells #[.int .i64 0, .int .i64 0, .string ⟨#[]⟩, .int .u32 0, .slice none 0 0, .slice none 0 0] 27) := ⟨_, rfl⟩
  have hF1 : RfF w w1 b s k0 d (.slice none 0 0) := by rw [hw1]; exact RfF.start hS
  have HBY := Lib.hid (rf_byte b s k0 d _ h0 hm w1 hF1.rd.2)
  have HF := Lib.hid hF1
  clear hS hF1
  generalize byAt s k0 = c at *
  go_enter Tryz.func61, Tryz.ntmps61
  go_upto_region 1 with (fail)
  rw [← hw1]
  clear hw1
  go_wp2_with fail
  refine HBY.out.mono ?_
  rintro e w2 ⟨rfl, n2, rfl⟩
  replace HF := Lib.hid (HF.out.drewN n2)
  generalize w1.drewN n2 = w2 at HF ⊢
  clear HBY
  have a0 := HF.out.rd.2.c0
  have a1 := HF.out.rd.2.c1
  go_wp2_with fail
  go_quiet (fail)
  replace HF := Lib.hid (HF.out.drewN nq)
  clear a0 a1
  generalize w2.drewN nq = w3 at HF ⊢
  go_wp2_with fail
  refine (rf_begins b s k0 d _ h0 hm w3 HF.out.rd.2).mono ?_
  rintro e w4 ⟨rfl, n4, rfl⟩
  replace HF := Lib.hid (HF.out.drewN n4)
  generalize w3.drewN n4 = w4 at HF ⊢
  rw [hbg]
  have a1 := HF.out.rd.2.c1
  go_wp2_with fail
  refine (rf_fail b s k0 d _ _ h0 _ HF.out.rd.2).mono ?_
  rintro e w5 ⟨rfl, k5, v5, hT, hk5, hL, _⟩
  have HF5 := Lib.hid (HF.out.step hT)
  have HL := Lib.hid hL
  clear hT hL a1
  unfold vZero
  obtain ⟨r0, r1, r2, r3, r4, r5, g0, g1, g2, g3, g4, g5⟩ := HF5.out.tm
  simp only [zTm] at r0 r1 r2 r3 r4 r5
  go_wp2_with fail
  refine bodyPost_ret (resTm rfl _ _ w.heap.size zTm _ _ (by rfl) (HF5.out.tm.put zTm _ _)) rfl ?_
  rw [HR.out]
  exact HF5.out.none zTm zTm (TmMade.zero _ _) HL.out (by simp) hk5
end Go.Proofs.YtibbcfeaododhaaGreatDoor
