/-
 heddleref02.Same: two terms are the same just where they are equal. The walk of TermLine. The walk of TermParts. A term handed in: its reading opened.
-/
import Derived.Test.YtibbcfeaododhaaGreatDoorH3
import Derived.Test.YtibbcfeaododhaaGreatDoorJPSex1
import Derived.Test.YtibbcfeaododhaaGreatDoorH8
import Derived.Test.YtibbcfeaododhaaGreatDoorH1
import Derived.Test.YtibbcfeaododhaaGreatDoorH7
import Derived.Test.YtibbcfeaododhaaGreatDoorH6
import Derived.Lib.SmallJoins
import Derived.Deep.Slices
namespace Go.Proofs.YtibbcfeaododhaaGreatDoor
open Go.RowKit Go.Proofs.YtibbcfeaododhaaGreatDoorW.PrintWords Go.Proofs.YtibbcfeaododhaaGreatDoor.PSe
mutual
def toS : Tm → S27
 | ⟨kd, it, tx, cr, ns, us⟩ => ⟨kd, it, tx, cr, ns, toSL us⟩
def toSL : List Tm → List S27
 | [] => []
 | a :: us => toS a :: toSL us
end
theorem toSL_map : ∀ l : List Tm, toSL l = l.map toS
 | [] => by rw [toSL]; rfl
 | a :: l => by rw [toSL, toSL_map l]; rfl
theorem toS_eq (t : Tm) : toS t = ⟨t.kd, t.it, t.tx, t.cr, t.nums, t.args.map toS⟩ := by
 cases t
 rw [toS, toSL_map]
/-- Lists are of lengths that a machine can hold. -/
inductive LenOk : Tm → Prop
 | mk (t : Tm) (h4 : t.nums.length ≤ 9223372036854775807) (h5 : t.args.length ≤ 9223372036854775807) (h : ∀ a ∈ t.args, LenOk a) : LenOk t
theorem C_map {α β : Type} {d : Kd α} {d' : Kd β} {f : α → β} (hs : d.sz = d'.sz) {w : World} (h : ∀ x cs, d.K w x cs → d'.K w (f x) cs) {A : Option Addr} {n : Nat} {xs : List α} (hc : d.C w A n xs) : d'.C w A n (xs.map f) := by
 refine ⟨by rw [List.length_map]; exact hc.1, hc.2.1, fun hn => ?_⟩
 obtain ⟨ad, e, h2⟩ := hc.2.2 hn
 refine ⟨ad, e, fun j p hj => ?_⟩
 rw [List.getElem?_map, Option.map_eq_some_iff] at hj
 obtain ⟨x, hx, rfl⟩ := hj
 obtain ⟨cs, hl, hK, hcell⟩ := h2 j x hx
 refine ⟨cs, by rw [← hs]; exact hl, h _ _ hK, ?_⟩
 rw [← hs]
 exact hcell
theorem C_len {d : Kd Tm} {w : World} {A : Option Addr} {n : Nat} {xs : List Tm} (h : ∀ x cs, d.K w x cs → LenOk x) (hc : d.C w A n xs) : xs.length ≤ 9223372036854775807 ∧ ∀ a ∈ xs, LenOk a := by
 refine ⟨by rw [hc.1]; exact hc.2.1, fun a ha => ?_⟩
 obtain ⟨i, hi, rfl⟩ := List.mem_iff_getElem.1 ha
 obtain ⟨ad, e, h2⟩ := hc.2.2 (by have := hc.1; omega)
 obtain ⟨cs, _, hK, _⟩ := h2 i xs[i] (List.getElem?_eq_getElem hi)
 exact h _ _ hK
theorem K_toS (w : World) : ∀ n x cs, (Kd.upto kTmF 6 [tyU32, tyTm] n).K w x cs → (Kd.upto F27 6 [23, 27] n).K w (toS x) cs ∧ LenOk x
 | 0, _, _, h => h.elim
 | n + 1, x, cs, h => by
  obtain ⟨_, _, rfl, rfl, ⟨_, _, rfl, rfl, ⟨_, _, rfl, rfl, ⟨_, _, rfl, rfl, ⟨_, _, rfl, ⟨A4, c4, rfl, l4, g4⟩, ⟨A5, c5, rfl, l5, g5⟩⟩⟩⟩⟩⟩ := h
  have hl5 := C_len (d := Kd.upto kTmF 6 [tyU32, tyTm] n) (fun y cy hy => (K_toS w n y cy hy).2) g5
  refine ⟨?_, .mk x g4.2.1 hl5.1 hl5.2⟩
  rw [toS_eq]
  have g6 := C_map (d' := Kd.upto F27 6 [23, 27] n) (f := toS) (by rw [kTm_sz, sz27]) (fun y cy hy => (K_toS w n y cy hy).1) g5
  have hm : (x.args.map toS).length = x.args.length := List.length_map _
  refine ⟨[.int .i64 x.kd], [.int .i64 x.it, .string x.tx, .int .u32 x.cr, .slice A4 x.nums.length c4, .slice A5 x.args.length c5], rfl, rfl, ⟨[.int .i64 x.it], [.string x.tx, .int .u32 x.cr, .slice A4 x.nums.length c4, .slice A5 x.args.length c5], rfl, rfl, ⟨[.string x.tx], [.int .u32 x.cr, .slice A4 x.nums.length c4, .slice A5 x.args.length c5], rfl, rfl, ⟨[.int .u32 x.cr], [.slice A4 x.nums.length c4, .slice A5 x.args.length c5], rfl, rfl, ⟨[.slice A4 x.nums.length c4], [.slice A5 x.args.length c5], rfl, ⟨A4, c4, rfl, l4, g4⟩, ⟨A5, c5, by simp only [hm], by simp only [hm]; exact l5, by simp only [hm]; exact g6⟩⟩⟩⟩⟩⟩
theorem C_toS {w : World} {A : Option Addr} {n : Nat} {xs : List Tm} (h : kTm.C w A n xs) : k27.C w A n (xs.map toS) ∧ xs.length ≤ 9223372036854775807 ∧ ∀ a ∈ xs, LenOk a :=
 ⟨C_map (d := kTm) (d' := k27) rfl (fun x cs ⟨n, hn⟩ => ⟨n, (K_toS w n x cs hn).1⟩) h, C_len (d := kTm) (fun x cs ⟨n, hn⟩ => (K_toS w n x cs hn).2) h⟩
/-- Are these the same terms? -/
noncomputable def sameT (a b : Tm) : Bool := @decide (a = b) (Classical.propDecidable _)
theorem sameT_iff {a b : Tm} : sameT a b = true ↔ a = b := by unfold sameT; exact @decide_eq_true_iff (a = b) (Classical.propDecidable _)
theorem sameT_refl (a : Tm) : sameT a a = true := sameT_iff.2 rfl
theorem sameT_false {a b : Tm} (h : a ≠ b) : sameT a b = false := by rw [Bool.eq_false_iff]; exact fun e => h (sameT_iff.1 e)
theorem Tm.eq_iff {a b : Tm} : a = b ↔ a.kd = b.kd ∧ a.it = b.it ∧ a.tx = b.tx ∧ a.cr = b.cr ∧ a.nums = b.nums ∧ a.args = b.args := by
 cases a
 cases b
 simp only [Tm.mk.injEq]
theorem rd_at {l : List Int} {i : Nat} (h : i < l.length) : rd l (i : Int) = l[i] := by
 unfold rd
 rw [Int.toNat_natCast, List.getD_eq_getElem?_getD, List.getElem?_eq_getElem h]
 rfl
theorem rdS_at {l : List Tm} {i : Nat} (h : i < l.length) : rd_T27 (l.map toS) (i : Int) = toS l[i] := by
 unfold rd_T27
 rw [Int.toNat_natCast, List.getD_eq_getElem?_getD, List.getElem?_map, List.getElem?_eq_getElem h]
 rfl
section
variable {a b : Tm}
/-- The loop over two terms' parts. -/
theorem same_l1 (hl : a.args.length = b.args.length) (hm : a.args.length ≤ 9223372036854775807)
  (ih : ∀ (i : Nat) (h : i < a.args.length), Ev (fun k => heddleref02_Same.f k (toS a.args[i]).f0 (toS a.args[i]).f1 (toS a.args[i]).f2 (toS a.args[i]).f3 (toS a.args[i]).f4 (toS a.args[i]).f5 (toS (b.args[i]'(by omega))).f0 (toS (b.args[i]'(by omega))).f1 (toS (b.args[i]'(by omega))).f2 (toS (b.args[i]'(by omega))).f3 (toS (b.args[i]'(by omega))).f4 (toS (b.args[i]'(by omega))).f5) (sameT a.args[i] (b.args[i]'(by omega)))) :
  ∀ (d i : Nat), a.args.length - i = d → i ≤ a.args.length → ∃ r, (r = true ↔ a.args.drop i = b.args.drop i) ∧ Ev (fun k => heddleref02_Same.l1 k (i : Int) a.kd a.it a.tx a.cr a.nums (a.args.map toS) b.kd b.it b.tx b.cr b.nums (b.args.map toS)) r
 | 0, i, hd, hi => by
  refine ⟨true, ?_, Ev.step (f := fun _ => some true) (fun k => ?_) (Ev.now true)⟩
  ·rw [List.drop_of_length_le (by omega), List.drop_of_length_le (by omega)]
   simp
  ·simp only [heddleref02_Same.l1]
   rw [if_neg (by rw [List.length_map]; omega)]
 | d + 1, i, hd, hi => by
  have h1 : i < a.args.length := by omega
  have h2 : i < b.args.length := by omega
  obtain ⟨r, hr, he⟩ := same_l1 hl hm ih d (i + 1) (by omega) (by omega)
  have hw : wrap64 ((i : Int) + 1) = ((i + 1 : Nat) : Int) := by unfold wrap64; omega
  have hi1 := ih i h1
  by_cases heq : a.args[i] = b.args[i]
  ·refine ⟨r, ?_, ?_⟩
   ·rw [hr, List.drop_eq_getElem_cons h1, List.drop_eq_getElem_cons h2, heq]
    simp only [List.cons.injEq, true_and]
   ·refine Ev.step (f := fun k => (heddleref02_Same.f k (toS a.args[i]).f0 (toS a.args[i]).f1 (toS a.args[i]).f2 (toS a.args[i]).f3 (toS a.args[i]).f4 (toS a.args[i]).f5 (toS b.args[i]).f0 (toS b.args[i]).f1 (toS b.args[i]).f2 (toS b.args[i]).f3 (toS b.args[i]).f4 (toS b.args[i]).f5).bind fun t => if t = true then heddleref02_Same.l1 k ((i + 1 : Nat) : Int) a.kd a.it a.tx a.cr a.nums (a.args.map toS) b.kd b.it b.tx b.cr b.nums (b.args.map toS) else some false) (fun k => ?_) ?_
    ·simp only [heddleref02_Same.l1]
     rw [if_pos (by rw [List.length_map]; omega), if_pos (by omega), if_pos (by rw [List.length_map]; omega), rdS_at h1, rdS_at h2, hw]
    ·refine Ev.bind (a := true) ?_ ?_
     ·have := hi1
      rw [sameT_iff.2 heq] at this
      exact this
     ·simp only [if_true]
      exact he
  ·refine ⟨false, ?_, ?_⟩
   ·rw [List.drop_eq_getElem_cons h1, List.drop_eq_getElem_cons h2]
    simp only [List.cons.injEq, heq, false_and]
    decide
   ·refine Ev.step (f := fun k => (heddleref02_Same.f k (toS a.args[i]).f0 (toS a.args[i]).f1 (toS a.args[i]).f2 (toS a.args[i]).f3 (toS a.args[i]).f4 (toS a.args[i]).f5 (toS b.args[i]).f0 (toS b.args[i]).f1 (toS b.args[i]).f2 (toS b.args[i]).f3 (toS b.args[i]).f4 (toS b.args[i]).f5).bind fun t => if t = true then heddleref02_Same.l1 k ((i + 1 : Nat) : Int) a.kd a.it a.tx a.cr a.nums (a.args.map toS) b.kd b.it b.tx b.cr b.nums (b.args.map toS) else some false) (fun k => ?_) ?_
    ·simp only [heddleref02_Same.l1]
     rw [if_pos (by rw [List.length_map]; omega), if_pos (by omega), if_pos (by rw [List.length_map]; omega), rdS_at h1, rdS_at h2, hw]
    ·refine Ev.bind (a := false) ?_ ?_
     ·have := hi1
      rw [sameT_false heq] at this
      exact this
     ·exact Ev.congr (f := fun _ => some false) (fun k => by simp) (Ev.now false)
/-- The loop over two terms' numbers. -/
theorem same_l0 (hl : a.nums.length = b.nums.length) (hm : a.nums.length ≤ 9223372036854775807) {r : Bool}
  (h1 : Ev (fun k => heddleref02_Same.l1 k 0 a.kd a.it a.tx a.cr a.nums (a.args.map toS) b.kd b.it b.tx b.cr b.nums (b.args.map toS)) r) :
  ∀ (d i : Nat), a.nums.length - i = d → i ≤ a.nums.length → Ev (fun k => heddleref02_Same.l0 k (i : Int) a.kd a.it a.tx a.cr a.nums (a.args.map toS) b.kd b.it b.tx b.cr b.nums (b.args.map toS)) (decide (a.nums.drop i = b.nums.drop i) && r)
 | 0, i, hd, hi => by
  rw [List.drop_of_length_le (by omega), List.drop_of_length_le (by omega)]
  refine Ev.step (fun k => ?_) h1
  simp only [heddleref02_Same.l0]
  rw [if_neg (by omega)]
 | d + 1, i, hd, hi => by
  have h2 : i < a.nums.length := by omega
  have h3 : i < b.nums.length := by omega
  have he := same_l0 hl hm h1 d (i + 1) (by omega) (by omega)
  have hw : wrap64 ((i : Int) + 1) = ((i + 1 : Nat) : Int) := by unfold wrap64; omega
  rw [List.drop_eq_getElem_cons h2, List.drop_eq_getElem_cons h3]
  by_cases heq : a.nums[i] = b.nums[i]
  ·rw [heq, show decide (b.nums[i] :: List.drop (i + 1) a.nums = b.nums[i] :: List.drop (i + 1) b.nums) = decide (List.drop (i + 1) a.nums = List.drop (i + 1) b.nums) by simp only [List.cons.injEq, true_and]]
   refine Ev.step (fun k => ?_) he
   simp only [heddleref02_Same.l0]
   rw [if_pos (by omega), if_pos (by omega), if_pos (by omega), rd_at h2, rd_at h3, if_pos heq, hw]
  ·rw [show (decide (a.nums[i] :: List.drop (i + 1) a.nums = b.nums[i] :: List.drop (i + 1) b.nums) && r) = false by simp only [List.cons.injEq, heq, false_and, decide_false, Bool.false_and]]
   refine Ev.step (f := fun _ => some false) (fun k => ?_) (Ev.now false)
   simp only [heddleref02_Same.l0]
   rw [if_pos (by omega), if_pos (by omega), if_pos (by omega), rd_at h2, rd_at h3, if_neg heq]
theorem same_j0 (x : Bool) (hx : x = true) : Ev (fun k => heddleref02_Same.j0 k x a.kd a.it a.tx a.cr a.nums (a.args.map toS) b.kd b.it b.tx b.cr b.nums (b.args.map toS)) false := by
 refine Ev.step (f := fun _ => some false) (fun k => ?_) (Ev.now false)
 simp only [heddleref02_Same.j0]
 rw [if_pos hx]
end
theorem tl_eq {a b : ByteArray} : a.toList = b.toList ↔ a = b := by
 constructor
 ·intro h
  rw [Lib.toList_data, Lib.toList_data] at h
  obtain ⟨⟨x⟩⟩ := a
  obtain ⟨⟨y⟩⟩ := b
  simp at h
  rw [h]
 ·intro h
  rw [h]
theorem same_ev (a : Tm) : LenOk a → ∀ b, Ev (fun k => heddleref02_Same.f k a.kd a.it a.tx a.cr a.nums (a.args.map toS) b.kd b.it b.tx b.cr b.nums (b.args.map toS)) (sameT a b) := by
 induction a using Tm.ind with
 | h a ih =>
  intro hlen b
  obtain ⟨_, hn4, hn5, hna⟩ := hlen
  by_cases c0 : a.kd = b.kd
  ·by_cases c1 : a.it = b.it
   ·by_cases c2 : a.tx = b.tx
    ·by_cases c3 : a.cr = b.cr
     ·by_cases c4 : a.nums.length = b.nums.length
      ·by_cases c5 : a.args.length = b.args.length
       ·obtain ⟨r, hr, he⟩ := same_l1 (a := a) (b := b) c5 hn5 (fun i h => by
         have h2 : i < b.args.length := by omega
         have := ih a.args[i] (List.getElem_mem h) (hna _ (List.getElem_mem h)) b.args[i]
         rw [toS_eq, toS_eq]
         exact this) a.args.length 0 (by omega) (Nat.zero_le _)
        have h0 := same_l0 (a := a) (b := b) c4 hn4 he a.nums.length 0 (by omega) (Nat.zero_le _)
        rw [List.drop_zero, List.drop_zero] at h0 hr
        have hs : sameT a b = (decide (a.nums = b.nums) && r) := by
         rw [Bool.eq_iff_iff, sameT_iff, Tm.eq_iff, Bool.and_eq_true, decide_eq_true_eq, hr]
         simp [c0, c1, c2, c3]
        rw [hs]
        refine Ev.step (f := fun k => heddleref02_Same.j0 k false a.kd a.it a.tx a.cr a.nums (a.args.map toS) b.kd b.it b.tx b.cr b.nums (b.args.map toS)) (fun k => ?_) (Ev.step (fun k => ?_) h0)
        ·simp only [heddleref02_Same.f]
         rw [if_pos c0, if_pos c1, if_pos (tl_eq.2 c2), if_pos c3, if_pos (by omega)]
         rw [show (((a.args.map toS).length : Int) != ((b.args.map toS).length : Int)) = false by simp [c5]]
        ·simp only [heddleref02_Same.j0]
         rw [if_neg (by simp)]
         rfl
       ·rw [sameT_false (fun e => c5 (by rw [e]))]
        refine Ev.step (fun k => ?_) (same_j0 (a := a) (b := b) (((a.args.map toS).length : Int) != ((b.args.map toS).length : Int)) (by simp; omega))
        simp only [heddleref02_Same.f]
        rw [if_pos c0, if_pos c1, if_pos (tl_eq.2 c2), if_pos c3, if_pos (by omega)]
      ·rw [sameT_false (fun e => c4 (by rw [e]))]
       refine Ev.step (fun k => ?_) (same_j0 (a := a) (b := b) true rfl)
       simp only [heddleref02_Same.f]
       rw [if_pos c0, if_pos c1, if_pos (tl_eq.2 c2), if_pos c3, if_neg (by omega)]
     ·rw [sameT_false (fun e => c3 (by rw [e]))]
      refine Ev.step (fun k => ?_) (same_j0 (a := a) (b := b) true rfl)
      simp only [heddleref02_Same.f]
      rw [if_pos c0, if_pos c1, if_pos (tl_eq.2 c2), if_neg c3]
    ·rw [sameT_false (fun e => c2 (by rw [e]))]
     refine Ev.step (fun k => ?_) (same_j0 (a := a) (b := b) true rfl)
     simp only [heddleref02_Same.f]
     rw [if_pos c0, if_pos c1, if_neg (fun e => c2 (tl_eq.1 e))]
   ·rw [sameT_false (fun e => c1 (by rw [e]))]
    refine Ev.step (fun k => ?_) (same_j0 (a := a) (b := b) true rfl)
    simp only [heddleref02_Same.f]
    rw [if_pos c0, if_neg c1]
  ·rw [sameT_false (fun e => c0 (by rw [e]))]
   refine Ev.step (fun k => ?_) (same_j0 (a := a) (b := b) true rfl)
   simp only [heddleref02_Same.f]
   rw [if_neg c0]
/-- heddleref02.Same. -/
theorem ref02_Same {a b : Tm} {v u : Value} {w : World} (hv : TmIs w a v) (hu : TmIs w b u) :
  Calls Tryz.prog 10 #[v, u] w fun e w' => e = .returned (.bool (sameT a b)) ∧ Below w.heap.size w w' := by
 obtain ⟨A4, c4, A5, c5, rfl, hT⟩ := hv
 obtain ⟨B4, d4, B5, d5, rfl, hU⟩ := hu
 obtain ⟨g5, hm, hl⟩ := C_toS hT.g5
 obtain ⟨e5, _, _⟩ := C_toS hU.g5
 obtain ⟨k, hk⟩ := (same_ev a (.mk a hT.g4.2.1 hm hl) b).rounds
 have ha : (a.args.map toS).length = a.args.length := List.length_map _
 have hb : (b.args.map toS).length = b.args.length := List.length_map _
 have h := heddleref02_Same.calls k a.kd a.it a.tx a.cr A4 c4 a.nums A5 c5 (a.args.map toS) b.kd b.it b.tx b.cr B4 d4 b.nums B5 d5 (b.args.map toS) (sameT a b) w hT.g4 hT.l4 (by rw [ha]; exact g5) (by rw [ha]; exact hT.l5) hU.g4 hU.l4 (by rw [hb]; exact e5) (by rw [hb]; exact hU.l5) hk
 rw [ha, hb] at h
 exact h
end Go.Proofs.YtibbcfeaododhaaGreatDoor
set_option linter.unusedSimpArgs false
namespace Go.Proofs.YtibbcfeaododhaaGreatDoor
open Go.RowKit Go.Sort Go.Proofs.YtibbcfeaododhaaGreatDoorW.PrintWords
/-- An error as a value: nil just where there is no fault. -/
theorem ErrIs.shapeL {W : World} {l : List Lk} {v : Value} (h : ErrIs W l v) : (l = [] ∧ v = .nilIface) ∨ (l ≠ [] ∧ ∃ b : Nat, v = .iface 92 (.pointer (some ⟨b, 0, none⟩))) := by
 cases l with
 | nil => exact .inl ⟨rfl, h⟩
 | cons x r => obtain ⟨b, u, e, _⟩ := h; exact .inr ⟨by simp, b, e⟩
end Go.Proofs.YtibbcfeaododhaaGreatDoor
set_option linter.unusedSimpArgs false
set_option linter.unusedVariables false
namespace Go.Proofs.YtibbcfeaododhaaGreatDoor
open Go.RowKit Go.Sort Go.Proofs.YtibbcfeaododhaaGreatDoorW.PrintWords
set_option maxRecDepth 100000 in
set_option maxHeartbeats 8000000 in
theorem walk_TermParts (a b : Tm) (v u : Value) (w : World) (hv : TmIs w a v) (hu : TmIs w b u) (sa : smT a = true) (sb : smT b = true) (ga : bgT a = true) (gb : bgT b = true) (hG : Glob w) :
  Calls Tryz.prog 6 #[v, u] w (TruePost w) := by
 have hne := fun (w : World) (a : Option Addr) (n c : Nat) => run_neq_slice_nil_any (P := Tryz.prog) w 32 69 a n c 0 0 Tryz.underlying32
 obtain ⟨x, y, o, hxy, sx, sy, gx, gy, hcn⟩ := parts_of b sb gb
 obtain ⟨A4, c4, A5, c5, rfl, hT⟩ := hv
 obtain ⟨B4, d4, B5, d5, rfl, hU⟩ := hu
 obtain ⟨w1, hw1, hTa, hTb, hB1⟩ := two_boxes w a b (.slice A4 a.nums.length c4) (.slice A5 a.args.length c5) (.slice B4 b.nums.length d4) (.slice B5 b.args.length d5)
 have HG := Lib.hid fun W (hW : Below w.heap.size w W) => hG.below hW
 have HC := Lib.hid fun W (hW : Below w.heap.size w W) => term_Cons a b A4 A5 B4 B5 c4 c5 d4 d5 W (hT.below hW) (hU.below hW) sa sb ga gb (hG.below hW)
 have HS := Lib.hid fun W (hW : Below w.heap.size w W) => term_Split b B4 B5 d4 d5 W (hU.below hW) gb
 have HK := Lib.hid fun W (hW : Below w.heap.size w W) => ref02_Check b B4 B5 d4 d5 W (hU.below hW) sb
 have HIa := Lib.hid fun W (hW : Below w.heap.size w W) => TmIs.below (v := tmV a (.slice A4 a.nums.length c4) (.slice A5 a.args.length c5)) ⟨A4, c4, A5, c5, rfl, hT⟩ hW
 have HIb := Lib.hid fun W (hW : Below w.heap.size w W) => TmIs.below (v := tmV b (.slice B4 b.nums.length d4) (.slice B5 b.args.length d5)) ⟨B4, d4, B5, d5, rfl, hU⟩ hW
 have HP := Lib.hid (And.intro sx (And.intro sy (And.intro gx (And.intro gy hcn))))
 have HCC := Lib.hid (cons_cases a b ga gb)
 rw [hxy] at HS
 clear hT hU sa sb ga gb hG hxy sx sy gx gy hcn
 unfold tmV at HC HS HK HIa HIb ⊢
 go_enter Tryz.func6, Tryz.ntmps6
 go_upto_region 1 with (fail)
 rw [← hw1]
 clear hw1
 have HTa := Lib.hid hTa
 have HTb := Lib.hid hTb
 have HBW := Lib.hid hB1
 clear hTa hTb hB1
 have p0 := HTa.out.c0
 have p1 := HTa.out.c1
 have p2 := HTa.out.c2
 have p3 := HTa.out.c3
 have p4 := HTa.out.c4
 have p5 := HTa.out.c5
 have q0 := HTb.out.c0
 have q1 := HTb.out.c1
 have q2 := HTb.out.c2
 have q3 := HTb.out.c3
 have q4 := HTb.out.c4
 have q5 := HTb.out.c5
 go_wp2_with fail
 refine (HC.out _ HBW.out).mono ?_
 rintro e w2 ⟨va, ve, rfl, hM, hE, hB⟩
 have hE' := hE.shapeL
 clear p0 p1 p2 p3 p4 p5 q0 q1 q2 q3 q4 q5
 replace HTa := Lib.hid (HTa.out.below hB HTa.out.lt)
 replace HTb := Lib.hid (HTb.out.below hB HTb.out.lt)
 replace HBW := Lib.hid (trans_below HBW.out hB)
 clear hB
 clear hE HC
 rcases HCC.out with ⟨J, hJ, hSJ, hgJ⟩ | ⟨l, hl, hJ⟩
 ·rw [hJ] at hM hE'
  obtain ⟨_, rfl⟩ := hE'.resolve_right (fun h => h.1 rfl)
  obtain ⟨J4, j4, J5, j5, rfl, hJR⟩ := hM.is
  have HSJ := Lib.hid fun W (hW : Below w2.heap.size w2 W) => term_Split J J4 J5 j4 j5 W (hJR.below hW) hgJ
  rw [hSJ] at HSJ
  clear hE' hM hJ hSJ hgJ hJR HCC
  unfold tmV at HSJ ⊢
  go_upto_region 2 with (fail)
  have hB := below_alloc (Below.refl w2.heap.size w2) (.cells #[.int .i64 J.kd, .int .i64 J.it, .string J.tx, .int .u32 J.cr, .slice J4 J.nums.length j4, .slice J5 J.args.length j5] 27)
  have HTJ := Lib.hid (TmAt.new w2 J (.slice J4 J.nums.length j4) (.slice J5 J.args.length j5))
  generalize w2.alloc (.cells #[.int .i64 J.kd, .int .i64 J.it, .string J.tx, .int .u32 J.cr, .slice J4 J.nums.length j4, .slice J5 J.args.length j5] 27) = w3 at hB HTJ ⊢
  have HBJ := Lib.hid hB
  replace HTa := Lib.hid (HTa.out.below hB HTa.out.lt)
  replace HTb := Lib.hid (HTb.out.below hB HTb.out.lt)
  replace HBW := Lib.hid (trans_below HBW.out hB)
  clear hB
  go_wp2_with fail
  refine (awake_any _ (HG.out _ HBW.out)).mono ?_
  rintro e w4 ⟨rfl, hB⟩
  replace HTJ := Lib.hid (HTJ.out.below hB HTJ.out.lt)
  replace HBJ := Lib.hid (trans_below HBJ.out hB)
  replace HTa := Lib.hid (HTa.out.below hB HTa.out.lt)
  replace HTb := Lib.hid (HTb.out.below hB HTb.out.lt)
  replace HBW := Lib.hid (trans_below HBW.out hB)
  clear hB
  have a0 := HTJ.out.c0
  have a1 := HTJ.out.c1
  have a2 := HTJ.out.c2
  have a3 := HTJ.out.c3
  have a4 := HTJ.out.c4
  have a5 := HTJ.out.c5
  go_wp2_with fail
  refine (HSJ.out _ HBJ.out).mono ?_
  rintro e w5 ⟨vx, vy, rfl, hx, hy, hB⟩
  clear a0 a1 a2 a3 a4 a5
  replace HTa := Lib.hid (HTa.out.below hB HTa.out.lt)
  replace HTb := Lib.hid (HTb.out.below hB HTb.out.lt)
  replace HBW := Lib.hid (trans_below HBW.out hB)
  clear hB
  clear HTJ HBJ HSJ
  obtain ⟨X4, e4, X5, e5, rfl, hx⟩ := hx
  obtain ⟨Y4, f4, Y5, f5, rfl, hy⟩ := hy
  have HX := Lib.hid hx
  have HY := Lib.hid hy
  clear hx hy
  unfold tmV
  dsimp only
  go_upto_region 6 with (fail)
  obtain ⟨w6, hw6, hXa, hXb, hB⟩ := two_boxes w5 a b (.slice X4 a.nums.length e4) (.slice X5 a.args.length e5) (.slice Y4 b.nums.length f4) (.slice Y5 b.args.length f5)
  rw [← hw6]
  clear hw6
  have HTX := Lib.hid hXa
  have HTY := Lib.hid hXb
  have HB8 := Lib.hid hB
  have HSx := Lib.hid fun W (hW : Below w5.heap.size w5 W) (hW' : Below w.heap.size w W) => ref02_Same (TmIs.below ⟨X4, e4, X5, e5, rfl, HX.out⟩ hW) (HIa.out W hW')
  have HSy := Lib.hid fun W (hW : Below w5.heap.size w5 W) (hW' : Below w.heap.size w W) => ref02_Same (TmIs.below ⟨Y4, f4, Y5, f5, rfl, HY.out⟩ hW) (HIb.out W hW')
  simp only [sameT_refl] at HSx HSy
  unfold tmV at HSx HSy
  clear hXa hXb HX HY
  replace HTa := Lib.hid (HTa.out.below hB HTa.out.lt)
  replace HTb := Lib.hid (HTb.out.below hB HTb.out.lt)
  replace HBW := Lib.hid (trans_below HBW.out hB)
  clear hB
  have p0 := HTa.out.c0
  have p1 := HTa.out.c1
  have p2 := HTa.out.c2
  have p3 := HTa.out.c3
  have p4 := HTa.out.c4
  have p5 := HTa.out.c5
  have q0 := HTb.out.c0
  have q1 := HTb.out.c1
  have q2 := HTb.out.c2
  have q3 := HTb.out.c3
  have q4 := HTb.out.c4
  have q5 := HTb.out.c5
  have x0 := HTX.out.c0
  have x1 := HTX.out.c1
  have x2 := HTX.out.c2
  have x3 := HTX.out.c3
  have x4 := HTX.out.c4
  have x5 := HTX.out.c5
  have y0 := HTY.out.c0
  have y1 := HTY.out.c1
  have y2 := HTY.out.c2
  have y3 := HTY.out.c3
  have y4 := HTY.out.c4
  have y5 := HTY.out.c5
  go_wp2_with fail
  refine (HSx.out _ HB8.out HBW.out).mono ?_
  rintro e w7 ⟨rfl, hB⟩
  clear p0 p1 p2 p3 p4 p5 q0 q1 q2 q3 q4 q5
  clear x0 x1 x2 x3 x4 x5 y0 y1 y2 y3 y4 y5
  clear HSx
  replace HTX := Lib.hid (HTX.out.below hB HTX.out.lt)
  replace HTY := Lib.hid (HTY.out.below hB HTY.out.lt)
  replace HB8 := Lib.hid (trans_below HB8.out hB)
  replace HTa := Lib.hid (HTa.out.below hB HTa.out.lt)
  replace HTb := Lib.hid (HTb.out.below hB HTb.out.lt)
  replace HBW := Lib.hid (trans_below HBW.out hB)
  clear hB
  have p0 := HTa.out.c0
  have p1 := HTa.out.c1
  have p2 := HTa.out.c2
  have p3 := HTa.out.c3
  have p4 := HTa.out.c4
  have p5 := HTa.out.c5
  have q0 := HTb.out.c0
  have q1 := HTb.out.c1
  have q2 := HTb.out.c2
  have q3 := HTb.out.c3
  have q4 := HTb.out.c4
  have q5 := HTb.out.c5
  have x0 := HTX.out.c0
  have x1 := HTX.out.c1
  have x2 := HTX.out.c2
  have x3 := HTX.out.c3
  have x4 := HTX.out.c4
  have x5 := HTX.out.c5
  have y0 := HTY.out.c0
  have y1 := HTY.out.c1
  have y2 := HTY.out.c2
  have y3 := HTY.out.c3
  have y4 := HTY.out.c4
  have y5 := HTY.out.c5
  go_wp2_with fail
  refine (HSy.out _ HB8.out HBW.out).mono ?_
  rintro e w70 ⟨rfl, hB⟩
  clear p0 p1 p2 p3 p4 p5 q0 q1 q2 q3 q4 q5
  clear x0 x1 x2 x3 x4 x5 y0 y1 y2 y3 y4 y5
  clear HSy HTX HTY HB8
  replace HTa := Lib.hid (HTa.out.below hB HTa.out.lt)
  replace HTb := Lib.hid (HTb.out.below hB HTb.out.lt)
  replace HBW := Lib.hid (trans_below HBW.out hB)
  clear hB
  have p0 := HTa.out.c0
  have p1 := HTa.out.c1
  have p2 := HTa.out.c2
  have p3 := HTa.out.c3
  have p4 := HTa.out.c4
  have p5 := HTa.out.c5
  have q0 := HTb.out.c0
  have q1 := HTb.out.c1
  have q2 := HTb.out.c2
  have q3 := HTb.out.c3
  have q4 := HTb.out.c4
  have q5 := HTb.out.c5
  go_wp2_with fail
  refine (HS.out _ HBW.out).mono ?_
  rintro e w8 ⟨vx, vy, rfl, hx, hy, hB⟩
  clear p0 p1 p2 p3 p4 p5 q0 q1 q2 q3 q4 q5
  replace HTa := Lib.hid (HTa.out.below hB HTa.out.lt)
  replace HTb := Lib.hid (HTb.out.below hB HTb.out.lt)
  replace HBW := Lib.hid (trans_below HBW.out hB)
  clear hB
  obtain ⟨X4, e4, X5, e5, rfl, hx⟩ := hx
  obtain ⟨Y4, f4, Y5, f5, rfl, hy⟩ := hy
  have HD := Lib.hid fun W (hW : Below w8.heap.size w8 W) (hW' : Below w.heap.size w W) => term_Cons x y X4 X5 Y4 Y5 e4 e5 f4 f5 W (hx.below hW) (hy.below hW) HP.out.1 HP.out.2.1 HP.out.2.2.1 HP.out.2.2.2.1 (HG.out W hW')
  have HCN := Lib.hid HP.out.2.2.2.2
  clear hx hy HP
  unfold tmV at HD ⊢
  dsimp only
  go_upto_region 9 with (fail)
  obtain ⟨w9, hw9, hXa, hXb, hB⟩ := two_boxes w8 x y (.slice X4 x.nums.length e4) (.slice X5 x.args.length e5) (.slice Y4 y.nums.length f4) (.slice Y5 y.args.length f5)
  rw [← hw9]
  clear hw9
  have HTX := Lib.hid hXa
  have HTY := Lib.hid hXb
  have HB8 := Lib.hid hB
  clear hXa hXb
  replace HTa := Lib.hid (HTa.out.below hB HTa.out.lt)
  replace HTb := Lib.hid (HTb.out.below hB HTb.out.lt)
  replace HBW := Lib.hid (trans_below HBW.out hB)
  clear hB
  cases o with
  | false =>
   go_wp2_with fail
   go_ret
   exact ⟨rfl, HBW.out⟩
  | true =>
   have p0 := HTa.out.c0
   have p1 := HTa.out.c1
   have p2 := HTa.out.c2
   have p3 := HTa.out.c3
   have p4 := HTa.out.c4
   have p5 := HTa.out.c5
   have q0 := HTb.out.c0
   have q1 := HTb.out.c1
   have q2 := HTb.out.c2
   have q3 := HTb.out.c3
   have q4 := HTb.out.c4
   have q5 := HTb.out.c5
   go_wp2_with fail
   refine (HK.out _ HBW.out).mono ?_
   rintro e w10 ⟨va, rfl, hL, hB⟩
   have hsh := hL.shape
   clear hL
   clear p0 p1 p2 p3 p4 p5 q0 q1 q2 q3 q4 q5
   replace HTX := Lib.hid (HTX.out.below hB HTX.out.lt)
   replace HTY := Lib.hid (HTY.out.below hB HTY.out.lt)
   replace HB8 := Lib.hid (trans_below HB8.out hB)
   replace HTa := Lib.hid (HTa.out.below hB HTa.out.lt)
   replace HTb := Lib.hid (HTb.out.below hB HTb.out.lt)
   replace HBW := Lib.hid (trans_below HBW.out hB)
   clear hB
   rcases hsh with ⟨hc, rfl⟩ | ⟨_, g, n, c, rfl⟩
   ·rw [HCN.out trivial hc] at HD
    clear HCN hc
    have x0 := HTX.out.c0
    have x1 := HTX.out.c1
    have x2 := HTX.out.c2
    have x3 := HTX.out.c3
    have x4 := HTX.out.c4
    have x5 := HTX.out.c5
    have y0 := HTY.out.c0
    have y1 := HTY.out.c1
    have y2 := HTY.out.c2
    have y3 := HTY.out.c3
    have y4 := HTY.out.c4
    have y5 := HTY.out.c5
    go_wp2_with fail
    refine (HD.out _ HB8.out HBW.out).mono ?_
    rintro e w11 ⟨va, ve, rfl, hM, hE, hB⟩
    obtain ⟨_, rfl⟩ := hE.shapeL.resolve_right (fun h => h.1 rfl)
    clear x0 x1 x2 x3 x4 x5 y0 y1 y2 y3 y4 y5
    clear HTX HTY HB8 hE HD
    replace HTa := Lib.hid (HTa.out.below hB HTa.out.lt)
    replace HTb := Lib.hid (HTb.out.below hB HTb.out.lt)
    replace HBW := Lib.hid (trans_below HBW.out hB)
    clear hB
    obtain ⟨Z4, z4, Z5, z5, rfl, hz⟩ := hM.is
    clear hM
    dsimp only at hz
    unfold tmV
    dsimp only
    go_upto_region 12 with (fail)
    have hB := below_alloc (Below.refl w11.heap.size w11) (.cells #[.int .i64 b.kd, .int .i64 b.it, .string b.tx, .int .u32 b.cr, .slice Z4 b.nums.length z4, .slice Z5 b.args.length z5] 27)
    have HTZ := Lib.hid (TmAt.new w11 b (.slice Z4 b.nums.length z4) (.slice Z5 b.args.length z5))
    generalize w11.alloc (.cells #[.int .i64 b.kd, .int .i64 b.it, .string b.tx, .int .u32 b.cr, .slice Z4 b.nums.length z4, .slice Z5 b.args.length z5] 27) = w12 at hB HTZ ⊢
    have HSZ := Lib.hid (ref02_Same (TmIs.below ⟨Z4, z4, Z5, z5, rfl, hz⟩ hB) (HIb.out w12 (trans_below HBW.out hB)))
    rw [sameT_refl] at HSZ
    unfold tmV at HSZ
    clear hz
    replace HTa := Lib.hid (HTa.out.below hB HTa.out.lt)
    replace HTb := Lib.hid (HTb.out.below hB HTb.out.lt)
    replace HBW := Lib.hid (trans_below HBW.out hB)
    clear hB
    have a0 := HTZ.out.c0
    have a1 := HTZ.out.c1
    have a2 := HTZ.out.c2
    have a3 := HTZ.out.c3
    have a4 := HTZ.out.c4
    have a5 := HTZ.out.c5
    have p0 := HTa.out.c0
    have p1 := HTa.out.c1
    have p2 := HTa.out.c2
    have p3 := HTa.out.c3
    have p4 := HTa.out.c4
    have p5 := HTa.out.c5
    have q0 := HTb.out.c0
    have q1 := HTb.out.c1
    have q2 := HTb.out.c2
    have q3 := HTb.out.c3
    have q4 := HTb.out.c4
    have q5 := HTb.out.c5
    go_wp2_with fail
    refine HSZ.out.mono ?_
    rintro e w13 ⟨rfl, hB⟩
    clear p0 p1 p2 p3 p4 p5 q0 q1 q2 q3 q4 q5
    clear a0 a1 a2 a3 a4 a5
    clear HTZ HSZ
    replace HTa := Lib.hid (HTa.out.below hB HTa.out.lt)
    replace HTb := Lib.hid (HTb.out.below hB HTb.out.lt)
    replace HBW := Lib.hid (trans_below HBW.out hB)
    clear hB
    go_wp2_with fail
    go_ret
    exact ⟨rfl, HBW.out⟩
   ·go_wp2_with fail
    go_ret
    exact ⟨rfl, HBW.out⟩
 ·rw [hJ] at hM hE'
  obtain ⟨_, bl, rfl⟩ := hE'.resolve_left (fun h => hl h.1)
  obtain ⟨J4, j4, J5, j5, rfl, hJR⟩ := hM.is
  clear hE' hM hJ hl hJR HCC
  have hwz : ∃ w3, w3 = w2.alloc (.cells #[.int .i64 zTm.kd, .int .i64 zTm.it, .string zTm.tx, .int .u32 zTm.cr, .slice J4 zTm.nums.length j4, .slice J5 zTm.args.length j5] 27) ∧ Below w2.heap.size w2 w3 := ⟨_, rfl, below_alloc (Below.refl w2.heap.size w2) _⟩
  obtain ⟨w3, hw3, hB⟩ := hwz
  unfold tmV
  go_upto_region 2 with (fail)
  rw [← hw3]
  clear hw3
  replace HTa := Lib.hid (HTa.out.below hB HTa.out.lt)
  replace HTb := Lib.hid (HTb.out.below hB HTb.out.lt)
  replace HBW := Lib.hid (trans_below HBW.out hB)
  clear hB
  go_wp2_with fail
  refine (awake_any _ (HG.out _ HBW.out)).mono ?_
  rintro e w4 ⟨rfl, hB⟩
  replace HTa := Lib.hid (HTa.out.below hB HTa.out.lt)
  replace HTb := Lib.hid (HTb.out.below hB HTb.out.lt)
  replace HBW := Lib.hid (trans_below HBW.out hB)
  clear hB
  have p0 := HTa.out.c0
  have p1 := HTa.out.c1
  have p2 := HTa.out.c2
  have p3 := HTa.out.c3
  have p4 := HTa.out.c4
  have p5 := HTa.out.c5
  have q0 := HTb.out.c0
  have q1 := HTb.out.c1
  have q2 := HTb.out.c2
  have q3 := HTb.out.c3
  have q4 := HTb.out.c4
  have q5 := HTb.out.c5
  go_wp2_with fail
  refine (HS.out _ HBW.out).mono ?_
  rintro e w8 ⟨vx, vy, rfl, hx, hy, hB⟩
  clear p0 p1 p2 p3 p4 p5 q0 q1 q2 q3 q4 q5
  replace HTa := Lib.hid (HTa.out.below hB HTa.out.lt)
  replace HTb := Lib.hid (HTb.out.below hB HTb.out.lt)
  replace HBW := Lib.hid (trans_below HBW.out hB)
  clear hB
  obtain ⟨X4, e4, X5, e5, rfl, hx⟩ := hx
  obtain ⟨Y4, f4, Y5, f5, rfl, hy⟩ := hy
  have HD := Lib.hid fun W (hW : Below w8.heap.size w8 W) (hW' : Below w.heap.size w W) => term_Cons x y X4 X5 Y4 Y5 e4 e5 f4 f5 W (hx.below hW) (hy.below hW) HP.out.1 HP.out.2.1 HP.out.2.2.1 HP.out.2.2.2.1 (HG.out W hW')
  have HCN := Lib.hid HP.out.2.2.2.2
  clear hx hy HP
  unfold tmV at HD ⊢
  dsimp only
  go_upto_region 9 with (fail)
  obtain ⟨w9, hw9, hXa, hXb, hB⟩ := two_boxes w8 x y (.slice X4 x.nums.length e4) (.slice X5 x.args.length e5) (.slice Y4 y.nums.length f4) (.slice Y5 y.args.length f5)
  rw [← hw9]
  clear hw9
  have HTX := Lib.hid hXa
  have HTY := Lib.hid hXb
  have HB8 := Lib.hid hB
  clear hXa hXb
  replace HTa := Lib.hid (HTa.out.below hB HTa.out.lt)
  replace HTb := Lib.hid (HTb.out.below hB HTb.out.lt)
  replace HBW := Lib.hid (trans_below HBW.out hB)
  clear hB
  cases o with
  | false =>
   go_wp2_with fail
   go_ret
   exact ⟨rfl, HBW.out⟩
  | true =>
   have p0 := HTa.out.c0
   have p1 := HTa.out.c1
   have p2 := HTa.out.c2
   have p3 := HTa.out.c3
   have p4 := HTa.out.c4
   have p5 := HTa.out.c5
   have q0 := HTb.out.c0
   have q1 := HTb.out.c1
   have q2 := HTb.out.c2
   have q3 := HTb.out.c3
   have q4 := HTb.out.c4
   have q5 := HTb.out.c5
   go_wp2_with fail
   refine (HK.out _ HBW.out).mono ?_
   rintro e w10 ⟨va, rfl, hL, hB⟩
   have hsh := hL.shape
   clear hL
   clear p0 p1 p2 p3 p4 p5 q0 q1 q2 q3 q4 q5
   replace HTX := Lib.hid (HTX.out.below hB HTX.out.lt)
   replace HTY := Lib.hid (HTY.out.below hB HTY.out.lt)
   replace HB8 := Lib.hid (trans_below HB8.out hB)
   replace HTa := Lib.hid (HTa.out.below hB HTa.out.lt)
   replace HTb := Lib.hid (HTb.out.below hB HTb.out.lt)
   replace HBW := Lib.hid (trans_below HBW.out hB)
   clear hB
   rcases hsh with ⟨hc, rfl⟩ | ⟨_, g, n, c, rfl⟩
   ·rw [HCN.out trivial hc] at HD
    clear HCN hc
    have x0 := HTX.out.c0
    have x1 := HTX.out.c1
    have x2 := HTX.out.c2
    have x3 := HTX.out.c3
    have x4 := HTX.out.c4
    have x5 := HTX.out.c5
    have y0 := HTY.out.c0
    have y1 := HTY.out.c1
    have y2 := HTY.out.c2
    have y3 := HTY.out.c3
    have y4 := HTY.out.c4
    have y5 := HTY.out.c5
    go_wp2_with fail
    refine (HD.out _ HB8.out HBW.out).mono ?_
    rintro e w11 ⟨va, ve, rfl, hM, hE, hB⟩
    obtain ⟨_, rfl⟩ := hE.shapeL.resolve_right (fun h => h.1 rfl)
    clear x0 x1 x2 x3 x4 x5 y0 y1 y2 y3 y4 y5
    clear HTX HTY HB8 hE HD
    replace HTa := Lib.hid (HTa.out.below hB HTa.out.lt)
    replace HTb := Lib.hid (HTb.out.below hB HTb.out.lt)
    replace HBW := Lib.hid (trans_below HBW.out hB)
    clear hB
    obtain ⟨Z4, z4, Z5, z5, rfl, hz⟩ := hM.is
    clear hM
    dsimp only at hz
    unfold tmV
    dsimp only
    go_upto_region 12 with (fail)
    have hB := below_alloc (Below.refl w11.heap.size w11) (.cells #[.int .i64 b.kd, .int .i64 b.it, .string b.tx, .int .u32 b.cr, .slice Z4 b.nums.length z4, .slice Z5 b.args.length z5] 27)
    have HTZ := Lib.hid (TmAt.new w11 b (.slice Z4 b.nums.length z4) (.slice Z5 b.args.length z5))
    generalize w11.alloc (.cells #[.int .i64 b.kd, .int .i64 b.it, .string b.tx, .int .u32 b.cr, .slice Z4 b.nums.length z4, .slice Z5 b.args.length z5] 27) = w12 at hB HTZ ⊢
    have HSZ := Lib.hid (ref02_Same (TmIs.below ⟨Z4, z4, Z5, z5, rfl, hz⟩ hB) (HIb.out w12 (trans_below HBW.out hB)))
    rw [sameT_refl] at HSZ
    unfold tmV at HSZ
    clear hz
    replace HTa := Lib.hid (HTa.out.below hB HTa.out.lt)
    replace HTb := Lib.hid (HTb.out.below hB HTb.out.lt)
    replace HBW := Lib.hid (trans_below HBW.out hB)
    clear hB
    have a0 := HTZ.out.c0
    have a1 := HTZ.out.c1
    have a2 := HTZ.out.c2
    have a3 := HTZ.out.c3
    have a4 := HTZ.out.c4
    have a5 := HTZ.out.c5
    have p0 := HTa.out.c0
    have p1 := HTa.out.c1
    have p2 := HTa.out.c2
    have p3 := HTa.out.c3
    have p4 := HTa.out.c4
    have p5 := HTa.out.c5
    have q0 := HTb.out.c0
    have q1 := HTb.out.c1
    have q2 := HTb.out.c2
    have q3 := HTb.out.c3
    have q4 := HTb.out.c4
    have q5 := HTb.out.c5
    go_wp2_with fail
    refine HSZ.out.mono ?_
    rintro e w13 ⟨rfl, hB⟩
    clear p0 p1 p2 p3 p4 p5 q0 q1 q2 q3 q4 q5
    clear a0 a1 a2 a3 a4 a5
    clear HTZ HSZ
    replace HTa := Lib.hid (HTa.out.below hB HTa.out.lt)
    replace HTb := Lib.hid (HTb.out.below hB HTb.out.lt)
    replace HBW := Lib.hid (trans_below HBW.out hB)
    clear hB
    go_wp2_with fail
    go_ret
    exact ⟨rfl, HBW.out⟩
   ·go_wp2_with fail
    go_ret
    exact ⟨rfl, HBW.out⟩
end Go.Proofs.YtibbcfeaododhaaGreatDoor
namespace Go.Proofs.YtibbcfeaododhaaGreatDoor
open Go.Lib Go.ChangeShapes Go.WideShapes Go.ChangeAt Go.RowKit Go.Proofs.YtibbcfeaododhaaGreatDoorW.PrintWords
theorem wfL_of {l : List Tm} (h : ∀ a ∈ l, wfT a = true) : wfL l = true := by
 induction l with
 | nil => rfl
 | cons a l ih =>
  rw [wfL, Bool.and_eq_true]
  exact ⟨h a (by simp), ih fun x hx => h x (by simp [hx])⟩
theorem smL_of {l : List Tm} (h : ∀ a ∈ l, smT a = true) : smL l = true := by
 induction l with
 | nil => rfl
 | cons a l ih =>
  rw [smL, Bool.and_eq_true]
  exact ⟨h a (by simp), ih fun x hx => h x (by simp [hx])⟩
section
variable {H : Type} {enc : TypeId × Value → H} {w : World} {base : Nat} {sp : Nat → Bool} {held : Bool}
theorem bulk1 (d : DataW H) : 1 ≤ Rows.uptoBulk d := by
 cases d with
 | lit x => cases x <;> simp [Rows.uptoBulk]
 | _ => simp [Rows.uptoBulk]
theorem bulkIn : ∀ {ds : List (DataW H)} {d : DataW H}, d ∈ ds → Rows.uptoBulk d ≤ Rows.uptoBulkAll ds
 | e :: ds, d, h => by
  rw [Rows.uptoBulkAll]
  rcases List.mem_cons.1 h with rfl | h
  ·omega
  ·have := bulkIn h
   omega
theorem weightIn {e : TypeId} : ∀ {ds : List (DataW H)} {d : DataW H} {k : Nat}, d ∈ ds → k ∈ d.weights Tryz.prog e → k ∈ DataW.weightsAll Tryz.prog e ds
 | c :: ds, d, k, h, hk => by
  rw [DataW.weightsAll, List.mem_append]
  rcases List.mem_cons.1 h with rfl | h
  ·exact .inl hk
  ·exact .inr (weightIn h hk)
/-- A row that is read, element by element. -/
theorem C_of_cells {α : Type} (d : Kd α) (z : α) (Q : Nat → α → Prop) {a : Addr} {len cap : Nat} (hl : len ≤ cap) (hc : cap ≤ maxLen)
  (h : ∀ i, i < len → ∃ cs', w.cells? base (a.add (i * d.sz)) d.sz = some cs' ∧ ∃ p, d.K w p cs' ∧ Q i p) :
  ∃ l : List α, l.length = len ∧ d.C w (some a) len l ∧ ∀ (i : Nat) (hi : i < l.length), Q i l[i] := by
 have key : ∃ T : Nat → α, ∀ i, i < len → ∃ cs', w.cells? base (a.add (i * d.sz)) d.sz = some cs' ∧ d.K w (T i) cs' ∧ Q i (T i) := by
  refine ⟨fun i => if hi : i < len then (h i hi).choose_spec.2.choose else z, fun i hi => ?_⟩
  simp only [dif_pos hi]
  exact ⟨(h i hi).choose, (h i hi).choose_spec.1, (h i hi).choose_spec.2.choose_spec⟩
 obtain ⟨T, hT⟩ := key
 have hll : ((List.range len).map T).length = len := by simp
 have hget : ∀ i, i < len → ((List.range len).map T)[i]? = some (T i) := by
  intro i hi
  rw [List.getElem?_map, List.getElem?_range hi]
  rfl
 refine ⟨(List.range len).map T, hll, ⟨hll, by have : maxLen = 9223372036854775807 := rfl; omega, fun _ => ⟨a, rfl, fun j p hj => ?_⟩⟩, fun i hi => ?_⟩
 ·have hj' : j < len := by rw [← hll]; exact (List.getElem?_eq_some_iff.1 hj).1
  rw [hget j hj'] at hj
  obtain rfl := Option.some.inj hj
  obtain ⟨cs', hcs, hK, _⟩ := hT j hj'
  obtain ⟨_, hlen, hcell⟩ := World.cells?_some hcs
  refine ⟨cs', d.K_len hK, hK, fun i u hu => ?_⟩
  have hi : i < d.sz := by rw [← d.K_len hK]; exact (List.getElem?_eq_some_iff.1 hu).1
  have := hcell i hi
  rw [hu] at this
  rw [← this, Addr.add_add]
 ·rw [hll] at hi
  have e : ((List.range len).map T)[i]'(by rw [hll]; exact hi) = T i := by simp
  rw [e]
  exact (hT i hi).choose_spec.2.2
theorem u32_wf {z : Int} (h : (Lit.int .u32 z).wf = true) : 0 ≤ z ∧ z ≤ 4294967295 := by
 have h1 := (of_decide_eq_true ((Bool.and_eq_true _ _).mp h).1 : IntKind.u32.min ≤ z)
 have h2 := (of_decide_eq_true ((Bool.and_eq_true _ _).mp h).2 : z ≤ IntKind.u32.max)
 exact ⟨h1, h2⟩
/-- The bound that the statements' rows give on each weight. -/
def Light (ks : List Nat) : Prop := ∀ k ∈ ks, k ≤ 140737488351232
set_option maxRecDepth 100000 in
theorem nums_in {fuel : Nat} {v : Value} {x : DataW H × List MemPlace} (h : DataW.trod enc Tryz.prog w base sp held fuel 24 [v] = some x) :
  ∃ (l : List Int) (A : Option Addr) (c : Nat), v = .slice A l.length c ∧ l.length ≤ c ∧ kU.C w A l.length l ∧ (∀ n ∈ l, 0 ≤ n ∧ n ≤ 4294967295) ∧ (Light (x.1.weights Tryz.prog 24) → l.length * 4 ≤ 140737488351232) := by
 rcases Go.Deep.open_slice Tryz.underlying24 h with ⟨hcs, hx⟩ | ⟨a, len, cap, m, n, D, Pl, hcs, _, hl, hcm, hm, hx, hall⟩
 ·simp only [List.cons.injEq, and_true] at hcs
  subst hcs
  exact ⟨[], none, 0, rfl, Nat.le_refl _, ⟨rfl, by simp, fun h => absurd h (Nat.lt_irrefl 0)⟩, (fun n hn => by cases hn), fun _ => by simp⟩
 ·simp only [List.cons.injEq, and_true] at hcs
  subst hcs
  rw [show Tryz.prog.cellsOf 23 = 1 by kernel_rfl] at hall
  have hlm : len ≤ m := by rw [hm]; split <;> omega
  obtain ⟨l, hll, hC, hQ⟩ := C_of_cells (d := kU) 0 (fun _ n => 0 ≤ n ∧ n ≤ 4294967295) hl hcm (fun i hi => by
   obtain ⟨cs', hc, ht⟩ := hall i (by omega)
   obtain ⟨z, e0, _, hz⟩ := DataW.trod_int Tryz.underlying23 ht
   exact ⟨cs', hc, z, e0, u32_wf hz⟩)
  subst hll
  refine ⟨l, some a, cap, rfl, hl, hC, fun n hn => ?_, fun hL => ?_⟩
  ·obtain ⟨i, hi, rfl⟩ := List.mem_iff_getElem.1 hn
   exact hQ i hi
  ·unfold Light at hL
   rw [hx] at hL
   simp only [DataW.weights, Tryz.underlying24, List.forall_mem_cons] at hL
   have h9 := hL.1
   rw [List.length_map, List.length_range, show Tryz.prog.bytesOf 23 = 4 by kernel_rfl] at h9
   omega
theorem trod_struct6 {t : TypeId} {f0 f1 f2 f3 f4 f5 : Field} {fuel : Nat} {cs : List Value} {x : DataW H × List MemPlace} (ht : Tryz.prog.underlying t = some (.struct #[f0, f1, f2, f3, f4, f5])) (h : DataW.trod enc Tryz.prog w base sp held fuel t cs = some x) :
  ∃ y0 y1 y2 y3 y4 y5 n, x.1 = .agg [y0.1, y1.1, y2.1, y3.1, y4.1, y5.1] ∧ cs.length = Tryz.prog.cellsOf t ∧ DataW.trod enc Tryz.prog w base sp held n f0.type ((cs.drop f0.offset).take (Tryz.prog.cellsOf f0.type)) = some y0 ∧
   DataW.trod enc Tryz.prog w base sp held n f1.type ((cs.drop f1.offset).take (Tryz.prog.cellsOf f1.type)) = some y1 ∧ DataW.trod enc Tryz.prog w base sp held n f2.type ((cs.drop f2.offset).take (Tryz.prog.cellsOf f2.type)) = some y2 ∧
   DataW.trod enc Tryz.prog w base sp held n f3.type ((cs.drop f3.offset).take (Tryz.prog.cellsOf f3.type)) = some y3 ∧ DataW.trod enc Tryz.prog w base sp held n f4.type ((cs.drop f4.offset).take (Tryz.prog.cellsOf f4.type)) = some y4 ∧
   DataW.trod enc Tryz.prog w base sp held n f5.type ((cs.drop f5.offset).take (Tryz.prog.cellsOf f5.type)) = some y5 := by
 obtain ⟨xs, n, _, rfl, hl, hlen, hf⟩ := DataW.trod_struct ht h
 match xs, hlen with
 | [y0, y1, y2, y3, y4, y5], _ => exact ⟨y0, y1, y2, y3, y4, y5, n, by simp, hl, by simpa using hf 0 f0 rfl, by simpa using hf 1 f1 rfl, by simpa using hf 2 f2 rfl, by simpa using hf 3 f3 rfl, by simpa using hf 4 f4 rfl, by simpa using hf 5 f5 rfl⟩
set_option maxRecDepth 100000 in
theorem one_tm : ∀ (N : Nat) {fuel : Nat} {cs : List Value} {x : DataW H × List MemPlace}, Rows.uptoBulk x.1 ≤ N → DataW.trod enc Tryz.prog w base sp held fuel 27 cs = some x →
  ∃ t : Tm, kTm.K w t cs ∧ wfT t = true ∧ (Light (x.1.weights Tryz.prog 27) → smT t = true) ∧ (Light (x.1.weights Tryz.prog 27) → bgT t = true)
 | 0, _, _, x, hN, _ => absurd hN (by have := bulk1 x.1; omega)
 | N + 1, fuel, cs, x, hN, h => by
  obtain ⟨y0, y1, y2, y3, y4, y5, n, hx, hlen, h0, h1, h2, h3, h4, h5⟩ := trod_struct6 Tryz.underlying27 h
  rw [show Tryz.prog.cellsOf 27 = 6 by kernel_rfl] at hlen
  obtain ⟨c0, c1, c2, c3, c4, c5, rfl⟩ : ∃ c0 c1 c2 c3 c4 c5, cs = [c0, c1, c2, c3, c4, c5] := by
   match cs, hlen with
   | [c0, c1, c2, c3, c4, c5], _ => exact ⟨c0, c1, c2, c3, c4, c5, rfl⟩
  rw [show Tryz.prog.cellsOf 24 = 1 by kernel_rfl] at h4
  rw [show Tryz.prog.cellsOf 25 = 1 by kernel_rfl] at h5
  obtain ⟨kd, e0, d0, _⟩ := DataW.trod_int Tryz.underlying22 h0
  obtain ⟨it, e1, d1, _⟩ := DataW.trod_int Tryz.underlying2 h1
  obtain ⟨tx, e2, d2, _⟩ := DataW.trod_string Tryz.underlying9 h2
  obtain ⟨cr, e3, d3, hcr⟩ := DataW.trod_int Tryz.underlying23 h3
  rw [show Tryz.prog.cellsOf 22 = 1 by kernel_rfl] at e0
  rw [show Tryz.prog.cellsOf 2 = 1 by kernel_rfl] at e1
  rw [show Tryz.prog.cellsOf 9 = 1 by kernel_rfl] at e2
  rw [show Tryz.prog.cellsOf 23 = 1 by kernel_rfl] at e3
  simp only [List.drop, List.take, List.cons.injEq, and_true] at e0 e1 e2 e3 h4 h5
  subst e0 e1 e2 e3
  obtain ⟨ns, A4, k4, rfl, l4, g4, hns, hnb⟩ := nums_in h4
  have hB5 : Rows.uptoBulk y5.1 ≤ N := by
   rw [hx, Rows.uptoBulk] at hN
   have := bulkIn (ds := [y0.1, y1.1, y2.1, y3.1, y4.1, y5.1]) (d := y5.1) (by simp)
   omega
  have hL2 : Light (x.1.weights Tryz.prog 27) → tx.size ≤ 140737488351232 := by
   intro hl
   refine hl _ ?_
   rw [hx, DataW.weights, Tryz.underlying27]
   simp only [List.map, DataW.weightsEach, List.mem_append]
   refine .inr (.inr (.inl ?_))
   rw [d2, DataW.weights, List.mem_singleton]
   exact Lib.size_eq _
  have hL4 : Light (x.1.weights Tryz.prog 27) → ns.length * 4 ≤ 140737488351232 := by
   intro hl
   refine hnb fun k hk => hl _ ?_
   rw [hx, DataW.weights, Tryz.underlying27]
   simp only [List.map, DataW.weightsEach, List.mem_append]
   exact .inr (.inr (.inr (.inr (.inl hk))))
  have hL5 : Light (x.1.weights Tryz.prog 27) → Light (y5.1.weights Tryz.prog 25) := by
   intro hl k hk
   refine hl _ ?_
   rw [hx, DataW.weights, Tryz.underlying27]
   simp only [List.map, DataW.weightsEach, List.mem_append]
   exact .inr (.inr (.inr (.inr (.inr (.inl hk)))))
  rcases Go.Deep.open_slice Tryz.underlying25 h5 with ⟨hcs, _⟩ | ⟨a, len, cap, m, n', D, Pl, hcs, _, hl, hcm, hm, hy5, hall⟩
  ·simp only [List.cons.injEq, and_true] at hcs
   subst hcs
   refine ⟨⟨kd, it, tx, cr, ns, []⟩, kTm_mk w ⟨kd, it, tx, cr, ns, []⟩ l4 g4 (Nat.le_refl _) ⟨rfl, by simp, fun h => absurd h (Nat.lt_irrefl 0)⟩, ?_, fun hL => ?_, fun hL => ?_⟩
   ·rw [wfT_eq, wfL]
    simp only [Bool.and_eq_true, decide_eq_true_eq, List.all_eq_true, and_true]
    exact ⟨u32_wf hcr, hns⟩
   ·rw [smT_eq, smL]
    simp only [Bool.and_eq_true, decide_eq_true_eq, and_true]
    exact hL2 hL
   ·rw [bgT_eq, bgL]
    simp only [Bool.and_eq_true, decide_eq_true_eq, and_true]
    exact ⟨hL4 hL, by simp⟩
  ·simp only [List.cons.injEq, and_true] at hcs
   subst hcs
   rw [show Tryz.prog.cellsOf 27 = 6 by kernel_rfl] at hall
   have hlm : len ≤ m := by rw [hm]; split <;> omega
   have hmem : ∀ i, i < len → D i ∈ (List.range len).map D := fun i hi => List.mem_map.2 ⟨i, List.mem_range.2 hi, rfl⟩
   have hD : ∀ i, i < len → Rows.uptoBulk (D i) ≤ N := by
    intro i hi
    rw [hy5] at hB5
    simp only [Rows.uptoBulk] at hB5
    have := bulkIn (hmem i hi)
    omega
   have hDL : Light (y5.1.weights Tryz.prog 25) → ∀ i, i < len → Light ((D i).weights Tryz.prog 27) := by
    intro hl i hi k hk
    refine hl k ?_
    rw [hy5]
    simp only [DataW.weights, Tryz.underlying25, List.mem_cons, List.mem_append]
    exact .inr (.inl (weightIn (hmem i hi) hk))
   obtain ⟨l, hll, hC, hQ⟩ := C_of_cells (d := kTm) zTm (fun i t => wfT t = true ∧ (Light ((D i).weights Tryz.prog 27) → smT t = true) ∧ (Light ((D i).weights Tryz.prog 27) → bgT t = true)) hl hcm (fun i hi => by
    obtain ⟨cs', hc, ht⟩ := hall i (by omega)
    obtain ⟨t, hK, hw, hs, hg⟩ := one_tm N (x := (D i, Pl i)) (hD i hi) ht
    exact ⟨cs', hc, t, hK, hw, hs, hg⟩)
   subst hll
   refine ⟨⟨kd, it, tx, cr, ns, l⟩, kTm_mk w ⟨kd, it, tx, cr, ns, l⟩ l4 g4 hl hC, ?_, fun hL => ?_, fun hL => ?_⟩
   ·rw [wfT_eq]
    simp only [Bool.and_eq_true, decide_eq_true_eq, List.all_eq_true]
    refine ⟨⟨u32_wf hcr, hns⟩, wfL_of fun a ha => ?_⟩
    obtain ⟨i, hi, rfl⟩ := List.mem_iff_getElem.1 ha
    exact (hQ i hi).1
   ·rw [smT_eq]
    simp only [Bool.and_eq_true, decide_eq_true_eq]
    refine ⟨hL2 hL, smL_of fun a ha => ?_⟩
    obtain ⟨i, hi, rfl⟩ := List.mem_iff_getElem.1 ha
    exact (hQ i hi).2.1 (hDL (hL5 hL) i hi)
   ·rw [bgT_eq]
    simp only [Bool.and_eq_true, decide_eq_true_eq]
    refine ⟨⟨hL4 hL, ?_⟩, bgL_of fun a ha => ?_⟩
    ·have h8 := hL5 hL
     unfold Light at h8
     rw [hy5] at h8
     simp only [DataW.weights, Tryz.underlying25, List.forall_mem_cons] at h8
     have h9 := h8.1
     rw [List.length_map, List.length_range, show Tryz.prog.bytesOf 27 = 88 by kernel_rfl] at h9
     omega
    ·obtain ⟨i, hi, rfl⟩ := List.mem_iff_getElem.1 ha
     exact (hQ i hi).2.2 (hDL (hL5 hL) i hi)
set_option maxRecDepth 100000 in
/-- A term handed in. -/
theorem open_tm {r : Reach} {b0 : Nat} {v : Value} {d : DataW H} {ps : List MemPlace} (hv : Value.okWide Tryz.prog w r b0 27 v) (h : DataW.Trod enc Tryz.prog w base sp held 27 v d ps) :
  ∃ t : Tm, TmIs w t v ∧ wfT t = true ∧ (Light (d.weights Tryz.prog 27) → smT t = true) ∧ (Light (d.weights Tryz.prog 27) → bgT t = true) := by
 obtain ⟨cs, rfl, hsz⟩ := okWide_struct Tryz.underlying27 hv
 obtain ⟨fuel, hf⟩ := h
 obtain ⟨t, hK, hw, hs, hg⟩ := one_tm (Rows.uptoBulk d) (x := (d, ps)) (Nat.le_refl _) hf
 refine ⟨t, ?_, hw, hs, hg⟩
 have := TmIs.ofK hK
 simpa [Value.cells] using this
end
end Go.Proofs.YtibbcfeaododhaaGreatDoor
