/-
  heddleref02.Same: two terms are the same just where they are equal. The walk of TermLine.
-/
import Derived.Test.YtgapeacflkfmdaaGreatDoorG3
import Derived.Test.YtgapeacflkfmdaaGreatDoorKPSex1
import Derived.Test.YtgapeacflkfmdaaGreatDoorG8
namespace Go.Proofs.YtgapeacflkfmdaaGreatDoor
open Go.RowKit Go.Proofs.YtgapeacflkfmdaaGreatDoorW.PrintWords Go.Proofs.YtgapeacflkfmdaaGreatDoor.PSe

mutual
def toS : Tm → S27
  | ⟨kd, it, tx, cr, ns, us⟩ => ⟨kd, it, tx, cr, ns, toSL us⟩
def toSL : List Tm → List S27
  | [] => []
  | a :: us => toS a :: toSL us
end
theorem toSL_map : ∀ l : List Tm, toSL l = l.map toS
  | [] => by rw [toSL]; rfl
  | a :: l => by rw [toSL, toSL_map l]; rfl
theorem toS_eq (t : Tm) : toS t = ⟨t.kd, t.it, t.tx, t.cr, t.nums, t.args.map toS⟩ := by
  cases t
  rw [toS, toSL_map]
/-- Lists are of lengths that a machine can hold. -/
inductive LenOk : Tm → Prop
  | mk (t : Tm) (h4 : t.nums.length ≤ 9223372036854775807) (h5 : t.args.length ≤ 9223372036854775807) (h : ∀ a ∈ t.args, LenOk a) : LenOk t
theorem C_map {α β : Type} {d : Kd α} {d' : Kd β} {f : α → β} (hs : d.sz = d'.sz) {w : World} (h : ∀ x cs, d.K w x cs → d'.K w (f x) cs) {A : Option Addr} {n : Nat} {xs : List α} (hc : d.C w A n xs) : d'.C w A n (xs.map f) := by
  refine ⟨by rw [List.length_map]; exact hc.1, hc.2.1, fun hn => ?_⟩
  obtain ⟨ad, e, h2⟩ := hc.2.2 hn
  refine ⟨ad, e, fun j p hj => ?_⟩
  rw [List.getElem?_map, Option.map_eq_some_iff] at hj
  obtain ⟨x, hx, rfl⟩ := hj
  obtain ⟨cs, hl, hK, hcell⟩ := h2 j x hx
  refine ⟨cs, by rw [← hs]; exact hl, h _ _ hK, ?_⟩
  rw [← hs]
  exact hcell
theorem C_len {d : Kd Tm} {w : World} {A : Option Addr} {n : Nat} {xs : List Tm} (h : ∀ x cs, d.K w x cs → LenOk x) (hc : d.C w A n xs) : xs.length ≤ 9223372036854775807 ∧ ∀ a ∈ xs, LenOk a := by
  refine ⟨by rw [hc.1]; exact hc.2.1, fun a ha => ?_⟩
  obtain ⟨i, hi, rfl⟩ := List.mem_iff_getElem.1 ha
  obtain ⟨ad, e, h2⟩ := hc.2.2 (by have := hc.1; omega)
  obtain ⟨cs, _, hK, _⟩ := h2 i xs[i] (List.getElem?_eq_getElem hi)
  exact h _ _ hK
theorem K_toS (w : World) : ∀ n x cs, (Kd.upto kTmF 6 [tyU32, tyTm] n).K w x cs → (Kd.upto F27 6 [23, 27] n).K w (toS x) cs ∧ LenOk x
  | 0, _, _, h => h.elim
  | n + 1, x, cs, h => by
    obtain ⟨_, _, rfl, rfl, ⟨_, _, rfl, rfl, ⟨_, _, rfl, rfl, ⟨_, _, rfl, rfl, ⟨_, _, rfl, ⟨A4, c4, rfl, l4, g4⟩, ⟨A5, c5, rfl, l5, g5⟩⟩⟩⟩⟩⟩ := h
    have hl5 := C_len (d := Kd.upto kTmF 6 [tyU32, tyTm] n) (fun y cy hy => (K_toS w n y cy hy).2) g5
    refine ⟨?_, .mk x g4.2.1 hl5.1 hl5.2⟩
    rw [toS_eq]
    have g6 := C_map (d' := Kd.upto F27 6 [23, 27] n) (f := toS) (by rw [kTm_sz, sz27]) (fun y cy hy => (K_toS w n y cy hy).1) g5
    have hm : (x.args.map toS).length = x.args.length := List.length_map _
    refine ⟨[.int .i64 x.kd], [.int .i64 x.it, .string x.tx, .int .u32 x.cr, .slice A4 x.nums.length c4, .slice A5 x.args.length c5], rfl, rfl, ⟨[.int .i64 x.it], [.string x.tx, .int .u32 x.cr, .slice A4 x.nums.length c4, .slice A5 x.args.length c5], rfl, rfl, ⟨[.string x.tx], [.int .u32 x.cr, .slice A4 x.nums.length c4, .slice A5 x.args.length c5], rfl, rfl, ⟨[.int .u32 x.cr], [.slice A4 x.nums.length c4, .slice A5 x.args.length c5], rfl, rfl, ⟨[.slice A4 x.nums.length c4], [.slice A5 x.args.length c5], rfl, ⟨A4, c4, rfl, l4, g4⟩, ⟨A5, c5, by simp only [hm], by simp only [hm]; exact l5, by simp only [hm]; exact g6⟩⟩⟩⟩⟩⟩
theorem C_toS {w : World} {A : Option Addr} {n : Nat} {xs : List Tm} (h : kTm.C w A n xs) : k27.C w A n (xs.map toS) ∧ xs.length ≤ 9223372036854775807 ∧ ∀ a ∈ xs, LenOk a :=
  ⟨C_map (d := kTm) (d' := k27) rfl (fun x cs ⟨n, hn⟩ => ⟨n, (K_toS w n x cs hn).1⟩) h, C_len (d := kTm) (fun x cs ⟨n, hn⟩ => (K_toS w n x cs hn).2) h⟩
/-- Are these the same terms? -/
noncomputable def sameT (a b : Tm) : Bool := @decide (a = b) (Classical.propDecidable _)
theorem sameT_iff {a b : Tm} : sameT a b = true ↔ a = b := by unfold sameT; exact @decide_eq_true_iff (a = b) (Classical.propDecidable _)
theorem sameT_false {a b : Tm} (h : a ≠ b) : sameT a b = false := by rw [Bool.eq_false_iff]; exact fun e => h (sameT_iff.1 e)
theorem Tm.eq_iff {a b : Tm} : a = b ↔ a.kd = b.kd ∧ a.it = b.it ∧ a.tx = b.tx ∧ a.cr = b.cr ∧ a.nums = b.nums ∧ a.args = b.args := by
  cases a
  cases b
  simp only [Tm.mk.injEq]
theorem rd_at {l : List Int} {i : Nat} (h : i < l.length) : rd l (i : Int) = l[i] := by
  unfold rd
  rw [Int.toNat_natCast, List.getD_eq_getElem?_getD, List.getElem?_eq_getElem h]
  rfl
theorem rdS_at {l : List Tm} {i : Nat} (h : i < l.length) : rd_T27 (l.map toS) (i : Int) = toS l[i] := by
  unfold rd_T27
  rw [Int.toNat_natCast, List.getD_eq_getElem?_getD, List.getElem?_map, List.getElem?_eq_getElem h]
  rfl
section
variable {a b : Tm}
/-- The loop over two terms' parts. -/
theorem same_l1 (hl : a.args.length = b.args.length) (hm : a.args.length ≤ 9223372036854775807)
    (ih : ∀ (i : Nat) (h : i < a.args.length), Ev (fun k => heddleref02_Same.f k (toS a.args[i]).f0 (toS a.args[i]).f1 (toS a.args[i]).f2 (toS a.args[i]).f3 (toS a.args[i]).f4 (toS a.args[i]).f5 (toS (b.args[i]'(by omega))).f0 (toS (b.args[i]'(by omega))).f1 (toS (b.args[i]'(by omega))).f2 (toS (b.args[i]'(by omega))).f3 (toS (b.args[i]'(by omega))).f4 (toS (b.args[i]'(by omega))).f5) (sameT a.args[i] (b.args[i]'(by omega)))) :
    ∀ (d i : Nat), a.args.length - i = d → i ≤ a.args.length → ∃ r, (r = true ↔ a.args.drop i = b.args.drop i) ∧ Ev (fun k => heddleref02_Same.l1 k (i : Int) a.kd a.it a.tx a.cr a.nums (a.args.map toS) b.kd b.it b.tx b.cr b.nums (b.args.map toS)) r
  | 0, i, hd, hi => by
    refine ⟨true, ?_, Ev.step (f := fun _ => some true) (fun k => ?_) (Ev.now true)⟩
    · rw [List.drop_of_length_le (by omega), List.drop_of_length_le (by omega)]
      simp
    · simp only [heddleref02_Same.l1]
      rw [if_neg (by rw [List.length_map]; omega)]
  | d + 1, i, hd, hi => by
    have h1 : i < a.args.length := by omega
    have h2 : i < b.args.length := by omega
    obtain ⟨r, hr, he⟩ := same_l1 hl hm ih d (i + 1) (by omega) (by omega)
    have hw : wrap64 ((i : Int) + 1) = ((i + 1 : Nat) : Int) := by unfold wrap64; omega
    have hi1 := ih i h1
    by_cases heq : a.args[i] = b.args[i]
    · refine ⟨r, ?_, ?_⟩
      · rw [hr, List.drop_eq_getElem_cons h1, List.drop_eq_getElem_cons h2, heq]
        simp only [List.cons.injEq, true_and]
      · refine Ev.step (f := fun k => (heddleref02_Same.f k (toS a.args[i]).f0 (toS a.args[i]).f1 (toS a.args[i]).f2 (toS a.args[i]).f3 (toS a.args[i]).f4 (toS a.args[i]).f5 (toS b.args[i]).f0 (toS b.args[i]).f1 (toS b.args[i]).f2 (toS b.args[i]).f3 (toS b.args[i]).f4 (toS b.args[i]).f5).bind fun t => if t = true then heddleref02_Same.l1 k ((i + 1 : Nat) : Int) a.kd a.it a.tx a.cr a.nums (a.args.map toS) b.kd b.it b.tx b.cr b.nums (b.args.map toS) else some false) (fun k => ?_) ?_
        · simp only [heddleref02_Same.l1]
          rw [if_pos (by rw [List.length_map]; omega), if_pos (by omega), if_pos (by rw [List.length_map]; omega), rdS_at h1, rdS_at h2, hw]
        · refine Ev.bind (a := true) ?_ ?_
          · have := hi1
            rw [sameT_iff.2 heq] at this
            exact this
          · simp only [if_true]
            exact he
    · refine ⟨false, ?_, ?_⟩
      · rw [List.drop_eq_getElem_cons h1, List.drop_eq_getElem_cons h2]
        simp only [List.cons.injEq, heq, false_and]
        decide
      · refine Ev.step (f := fun k => (heddleref02_Same.f k (toS a.args[i]).f0 (toS a.args[i]).f1 (toS a.args[i]).f2 (toS a.args[i]).f3 (toS a.args[i]).f4 (toS a.args[i]).f5 (toS b.args[i]).f0 (toS b.args[i]).f1 (toS b.args[i]).f2 (toS b.args[i]).f3 (toS b.args[i]).f4 (toS b.args[i]).f5).bind fun t => if t = true then heddleref02_Same.l1 k ((i + 1 : Nat) : Int) a.kd a.it a.tx a.cr a.nums (a.args.map toS) b.kd b.it b.tx b.cr b.nums (b.args.map toS) else some false) (fun k => ?_) ?_
        · simp only [heddleref02_Same.l1]
          rw [if_pos (by rw [List.length_map]; omega), if_pos (by omega), if_pos (by rw [List.length_map]; omega), rdS_at h1, rdS_at h2, hw]
        · refine Ev.bind (a := false) ?_ ?_
          · have := hi1
            rw [sameT_false heq] at this
            exact this
          · exact Ev.congr (f := fun _ => some false) (fun k => by simp) (Ev.now false)
/-- The loop over two terms' numbers. -/
theorem same_l0 (hl : a.nums.length = b.nums.length) (hm : a.nums.length ≤ 9223372036854775807) {r : Bool}
    (h1 : Ev (fun k => heddleref02_Same.l1 k 0 a.kd a.it a.tx a.cr a.nums (a.args.map toS) b.kd b.it b.tx b.cr b.nums (b.args.map toS)) r) :
    ∀ (d i : Nat), a.nums.length - i = d → i ≤ a.nums.length → Ev (fun k => heddleref02_Same.l0 k (i : Int) a.kd a.it a.tx a.cr a.nums (a.args.map toS) b.kd b.it b.tx b.cr b.nums (b.args.map toS)) (decide (a.nums.drop i = b.nums.drop i) && r)
  | 0, i, hd, hi => by
    rw [List.drop_of_length_le (by omega), List.drop_of_length_le (by omega)]
    refine Ev.step (fun k => ?_) h1
    simp only [heddleref02_Same.l0]
    rw [if_neg (by omega)]
  | d + 1, i, hd, hi => by
    have h2 : i < a.nums.length := by omega
    have h3 : i < b.nums.length := by omega
    have he := same_l0 hl hm h1 d (i + 1) (by omega) (by omega)
    have hw : wrap64 ((i : Int) + 1) = ((i + 1 : Nat) : Int) := by unfold wrap64; omega
    rw [List.drop_eq_getElem_cons h2, List.drop_eq_getElem_cons h3]
    by_cases heq : a.nums[i] = b.nums[i]
    · rw [heq, show decide (b.nums[i] :: List.drop (i + 1) a.nums = b.nums[i] :: List.drop (i + 1) b.nums) = decide (List.drop (i + 1) a.nums = List.drop (i + 1) b.nums) by simp only [List.cons.injEq, true_and]]
      refine Ev.step (fun k => ?_) he
      simp only [heddleref02_Same.l0]
      rw [if_pos (by omega), if_pos (by omega), if_pos (by omega), rd_at h2, rd_at h3, if_pos heq, hw]
    · rw [show (decide (a.nums[i] :: List.drop (i + 1) a.nums = b.nums[i] :: List.drop (i + 1) b.nums) && r) = false by simp only [List.cons.injEq, heq, false_and, decide_false, Bool.false_and]]
      refine Ev.step (f := fun _ => some false) (fun k => ?_) (Ev.now false)
      simp only [heddleref02_Same.l0]
      rw [if_pos (by omega), if_pos (by omega), if_pos (by omega), rd_at h2, rd_at h3, if_neg heq]
theorem same_j0 (x : Bool) (hx : x = true) : Ev (fun k => heddleref02_Same.j0 k x a.kd a.it a.tx a.cr a.nums (a.args.map toS) b.kd b.it b.tx b.cr b.nums (b.args.map toS)) false := by
  refine Ev.step (f := fun _ => some false) (fun k => ?_) (Ev.now false)
  simp only [heddleref02_Same.j0]
  rw [if_pos hx]
end
theorem tl_eq {a b : ByteArray} : a.toList = b.toList ↔ a = b := by
  constructor
  · intro h
    rw [Lib.toList_data, Lib.toList_data] at h
    obtain ⟨⟨x⟩⟩ := a
    obtain ⟨⟨y⟩⟩ := b
    simp at h
    rw [h]
  · intro h
    rw [h]
theorem same_ev (a : Tm) : LenOk a → ∀ b, Ev (fun k => heddleref02_Same.f k a.kd a.it a.tx a.cr a.nums (a.args.map toS) b.kd b.it b.tx b.cr b.nums (b.args.map toS)) (sameT a b) := by
  induction a using Tm.ind with
  | h a ih =>
    intro hlen b
    obtain ⟨_, hn4, hn5, hna⟩ := hlen
    by_cases c0 : a.kd = b.kd
    · by_cases c1 : a.it = b.it
      · by_cases c2 : a.tx = b.tx
        · by_cases c3 : a.cr = b.cr
          · by_cases c4 : a.nums.length = b.nums.length
            · by_cases c5 : a.args.length = b.args.length
              · obtain ⟨r, hr, he⟩ := same_l1 (a := a) (b := b) c5 hn5 (fun i h => by
                  have h2 : i < b.args.length := by omega
                  have := ih a.args[i] (List.getElem_mem h) (hna _ (List.getElem_mem h)) b.args[i]
                  rw [toS_eq, toS_eq]
                  exact this) a.args.length 0 (by omega) (Nat.zero_le _)
                have h0 := same_l0 (a := a) (b := b) c4 hn4 he a.nums.length 0 (by omega) (Nat.zero_le _)
                rw [List.drop_zero, List.drop_zero] at h0 hr
                have hs : sameT a b = (decide (a.nums = b.nums) && r) := by
                  rw [Bool.eq_iff_iff, sameT_iff, Tm.eq_iff, Bool.and_eq_true, decide_eq_true_eq, hr]
                  simp [c0, c1, c2, c3]
                rw [hs]
                refine Ev.step (f := fun k => heddleref02_Same.j0 k false a.kd a.it a.tx a.cr a.nums (a.args.map toS) b.kd b.it b.tx b.cr b.nums (b.args.map toS)) (fun k => ?_) (Ev.step (fun k => ?_) h0)
                · simp only [heddleref02_Same.f]
                  rw [if_pos c0, if_pos c1, if_pos (tl_eq.2 c2), if_pos c3, if_pos (by omega)]
                  rw [show (((a.args.map toS).length : Int) != ((b.args.map toS).length : Int)) = false by simp [c5]]
                · simp only [heddleref02_Same.j0]
                  rw [if_neg (by simp)]
                  rfl
              · rw [sameT_false (fun e => c5 (by rw [e]))]
                refine Ev.step (fun k => ?_) (same_j0 (a := a) (b := b) (((a.args.map toS).length : Int) != ((b.args.map toS).length : Int)) (by simp; omega))
                simp only [heddleref02_Same.f]
                rw [if_pos c0, if_pos c1, if_pos (tl_eq.2 c2), if_pos c3, if_pos (by omega)]
            · rw [sameT_false (fun e => c4 (by rw [e]))]
              refine Ev.step (fun k => ?_) (same_j0 (a := a) (b := b) true rfl)
              simp only [heddleref02_Same.f]
              rw [if_pos c0, if_pos c1, if_pos (tl_eq.2 c2), if_pos c3, if_neg (by omega)]
          · rw [sameT_false (fun e => c3 (by rw [e]))]
            refine Ev.step (fun k => ?_) (same_j0 (a := a) (b := b) true rfl)
            simp only [heddleref02_Same.f]
            rw [if_pos c0, if_pos c1, if_pos (tl_eq.2 c2), if_neg c3]
        · rw [sameT_false (fun e => c2 (by rw [e]))]
          refine Ev.step (fun k => ?_) (same_j0 (a := a) (b := b) true rfl)
          simp only [heddleref02_Same.f]
          rw [if_pos c0, if_pos c1, if_neg (fun e => c2 (tl_eq.1 e))]
      · rw [sameT_false (fun e => c1 (by rw [e]))]
        refine Ev.step (fun k => ?_) (same_j0 (a := a) (b := b) true rfl)
        simp only [heddleref02_Same.f]
        rw [if_pos c0, if_neg c1]
    · rw [sameT_false (fun e => c0 (by rw [e]))]
      refine Ev.step (fun k => ?_) (same_j0 (a := a) (b := b) true rfl)
      simp only [heddleref02_Same.f]
      rw [if_neg c0]
/-- heddleref02.Same. -/
theorem ref02_Same {a b : Tm} {v u : Value} {w : World} (hv : TmIs w a v) (hu : TmIs w b u) :
    Calls Tryz.prog 24 #[v, u] w fun e w' => e = .returned (.bool (sameT a b)) ∧ Below w.heap.size w w' := by
  obtain ⟨A4, c4, A5, c5, rfl, hT⟩ := hv
  obtain ⟨B4, d4, B5, d5, rfl, hU⟩ := hu
  obtain ⟨g5, hm, hl⟩ := C_toS hT.g5
  obtain ⟨e5, _, _⟩ := C_toS hU.g5
  obtain ⟨k, hk⟩ := (same_ev a (.mk a hT.g4.2.1 hm hl) b).rounds
  have ha : (a.args.map toS).length = a.args.length := List.length_map _
  have hb : (b.args.map toS).length = b.args.length := List.length_map _
  have h := heddleref02_Same.calls k a.kd a.it a.tx a.cr A4 c4 a.nums A5 c5 (a.args.map toS) b.kd b.it b.tx b.cr B4 d4 b.nums B5 d5 (b.args.map toS) (sameT a b) w hT.g4 hT.l4 (by rw [ha]; exact g5) (by rw [ha]; exact hT.l5) hU.g4 hU.l4 (by rw [hb]; exact e5) (by rw [hb]; exact hU.l5) hk
  rw [ha, hb] at h
  exact h
end Go.Proofs.YtgapeacflkfmdaaGreatDoor
set_option linter.unusedSimpArgs false
namespace Go.Proofs.YtgapeacflkfmdaaGreatDoor
open Go.RowKit Go.Sort Go.Proofs.YtgapeacflkfmdaaGreatDoorW.PrintWords

/-- What the order of three terms says. -/
theorem line_cases {a b c : Tm} (ha : chk a = []) (hb : chk b = []) (hc : chk c = []) :
    compareT b a = - compareT a b ∧ compareT a a = 0 ∧ (-1 ≤ compareT a b ∧ compareT a b ≤ 1) ∧ (-1 ≤ compareT b c ∧ compareT b c ≤ 1) ∧ (-1 ≤ compareT a c ∧ compareT a c ≤ 1) ∧
      (sameT a b = decide (compareT a b = 0)) ∧ (equalT a b = decide (compareT a b = 0)) ∧
      (compareT a b ≤ 0 → compareT b c ≤ 0 → compareT a c ≤ 0) ∧ (compareT a b < 0 → compareT b c ≤ 0 → compareT a c < 0) ∧ (compareT a b ≤ 0 → compareT b c < 0 → compareT a c < 0) ∧
      (0 ≤ compareT a b → 0 ≤ compareT b c → 0 ≤ compareT a c) := by
  have oa := chk_ok ha
  have ob := chk_ok hb
  have oc := chk_ok hc
  rw [compare_ok ha hb, compare_ok hb ha, compare_ok ha ha, compare_ok hb hc, compare_ok ha hc]
  have t1 := ordT_T3 a b c oa ob oc
  have t2 := ordT_T3 c b a oc ob oa
  have n1 := ordT_anti b c
  have n2 := ordT_anti a b
  have n3 := ordT_anti a c
  have r1 := ordT_range a b
  have r2 := ordT_range b c
  have r3 := ordT_range a c
  have z := ordT_zero a b oa ob
  unfold T3 at t1 t2
  rw [n1, n2, n3] at t2
  refine ⟨n2, (ordT_zero a a oa oa).2 rfl, r1, r2, r3, ?_, ?_, t1.1, t1.2.1, t1.2.2.1, ?_⟩
  · rw [Bool.eq_iff_iff, sameT_iff, decide_eq_true_iff, z]
  · unfold equalT
    rw [ha, hb]
    simp
  · intro h1 h2
    have := t2.1 (by omega) (by omega)
    omega
theorem three_boxes (w : World) (a b c : Tm) (v4 v5 u4 u5 x4 x5 : Value) :
    ∃ w1, w1 = ((w.alloc (.cells #[.int .i64 a.kd, .int .i64 a.it, .string a.tx, .int .u32 a.cr, v4, v5] 27)).alloc (.cells #[.int .i64 b.kd, .int .i64 b.it, .string b.tx, .int .u32 b.cr, u4, u5] 27)).alloc (.cells #[.int .i64 c.kd, .int .i64 c.it, .string c.tx, .int .u32 c.cr, x4, x5] 27) ∧
      TmAt w1 w.heap.size a v4 v5 ∧ TmAt w1 (w.heap.size + 1) b u4 u5 ∧ TmAt w1 (w.heap.size + 1 + 1) c x4 x5 ∧ Below w.heap.size w w1 := by
  obtain ⟨w1, hw1, ha, hb, hB⟩ := two_boxes w a b v4 v5 u4 u5
  have hs : w1.heap.size = w.heap.size + 1 + 1 := by rw [hw1]; simp
  rw [← hw1]
  have hB2 := below_alloc (Below.refl w1.heap.size w1) (.cells #[.int .i64 c.kd, .int .i64 c.it, .string c.tx, .int .u32 c.cr, x4, x5] 27)
  have hc := TmAt.new w1 c x4 x5
  rw [hs] at hc
  exact ⟨_, rfl, ha.below hB2 ha.lt, hb.below hB2 hb.lt, hc, trans_below hB hB2⟩
/-- An error as a value: nil just where there is no fault. -/
theorem ErrIs.shapeL {W : World} {l : List Lk} {v : Value} (h : ErrIs W l v) : (l = [] ∧ v = .nilIface) ∨ (l ≠ [] ∧ ∃ b : Nat, v = .iface 125 (.pointer (some ⟨b, 0, none⟩))) := by
  cases l with
  | nil => exact .inl ⟨rfl, h⟩
  | cons x r => obtain ⟨b, u, e, _⟩ := h; exact .inr ⟨by simp, b, e⟩
set_option maxRecDepth 100000 in
set_option maxHeartbeats 16000000 in
theorem walk_TermLine (a b c : Tm) (v u x : Value) (w : World) (hv : TmIs w a v) (hu : TmIs w b u) (hx : TmIs w c x) (hsa : smT a = true) (hsb : smT b = true) (hsc : smT c = true) (hG : Glob w) :
    Calls Tryz.prog 9 #[v, u, x] w (TruePost w) := by
  have hne := fun (w : World) (a : Option Addr) (n c : Nat) => run_neq_slice_nil_any (P := Tryz.prog) w 32 83 a n c 0 0 Tryz.underlying32
  obtain ⟨A4, c4, A5, c5, rfl, hT⟩ := hv
  obtain ⟨B4, d4, B5, d5, rfl, hU⟩ := hu
  obtain ⟨X4, e4, X5, e5, rfl, hX⟩ := hx
  obtain ⟨w1, hw1, hTa, hTb, hTc, hB1⟩ := three_boxes w a b c (.slice A4 a.nums.length c4) (.slice A5 a.args.length c5) (.slice B4 b.nums.length d4) (.slice B5 b.args.length d5) (.slice X4 c.nums.length e4) (.slice X5 c.args.length e5)
  have HG := Lib.hid fun W (hW : Below w.heap.size w W) => hG.below hW
  have HRa := Lib.hid fun W (hW : Below w.heap.size w W) => ref02_Check a A4 A5 c4 c5 W (hT.below hW) hsa
  have HRb := Lib.hid fun W (hW : Below w.heap.size w W) => ref02_Check b B4 B5 d4 d5 W (hU.below hW) hsb
  have HRc := Lib.hid fun W (hW : Below w.heap.size w W) => ref02_Check c X4 X5 e4 e5 W (hX.below hW) hsc
  have HKa := Lib.hid fun W (hW : Below w.heap.size w W) => term_Check a A4 A5 c4 c5 W (hT.below hW) hsa (hG.below hW)
  have HKb := Lib.hid fun W (hW : Below w.heap.size w W) => term_Check b B4 B5 d4 d5 W (hU.below hW) hsb (hG.below hW)
  have HKc := Lib.hid fun W (hW : Below w.heap.size w W) => term_Check c X4 X5 e4 e5 W (hX.below hW) hsc (hG.below hW)
  have ia : ∀ W, Below w.heap.size w W → TmIs W a (tmV a (.slice A4 a.nums.length c4) (.slice A5 a.args.length c5)) := fun W hW => TmIs.below ⟨A4, c4, A5, c5, rfl, hT⟩ hW
  have ib : ∀ W, Below w.heap.size w W → TmIs W b (tmV b (.slice B4 b.nums.length d4) (.slice B5 b.args.length d5)) := fun W hW => TmIs.below ⟨B4, d4, B5, d5, rfl, hU⟩ hW
  have ic : ∀ W, Below w.heap.size w W → TmIs W c (tmV c (.slice X4 c.nums.length e4) (.slice X5 c.args.length e5)) := fun W hW => TmIs.below ⟨X4, e4, X5, e5, rfl, hX⟩ hW
  have HCab := Lib.hid fun W (hW : Below w.heap.size w W) => term_Compare a b _ _ W (ia W hW) (ib W hW) hsa hsb (hG.below hW)
  have HCbc := Lib.hid fun W (hW : Below w.heap.size w W) => term_Compare b c _ _ W (ib W hW) (ic W hW) hsb hsc (hG.below hW)
  have HCac := Lib.hid fun W (hW : Below w.heap.size w W) => term_Compare a c _ _ W (ia W hW) (ic W hW) hsa hsc (hG.below hW)
  have HCba := Lib.hid fun W (hW : Below w.heap.size w W) => term_Compare b a _ _ W (ib W hW) (ia W hW) hsb hsa (hG.below hW)
  have HCaa := Lib.hid fun W (hW : Below w.heap.size w W) => term_Compare a a _ _ W (ia W hW) (ia W hW) hsa hsa (hG.below hW)
  have HSab := Lib.hid fun W (hW : Below w.heap.size w W) => ref02_Same (ia W hW) (ib W hW)
  have HEab := Lib.hid fun W (hW : Below w.heap.size w W) => term_Equal a b _ _ W (ia W hW) (ib W hW) hsa hsb (hG.below hW)
  clear hT hU hX hsa hsb hsc hG ia ib ic
  unfold tmV at HRa HRb HRc HKa HKb HKc HCab HCbc HCac HCba HCaa HSab HEab ⊢
  go_enter Tryz.func9, Tryz.ntmps9
  go_upto_region 1 with (fail)
  rw [← hw1]
  clear hw1
  have HTa := Lib.hid hTa
  have HTb := Lib.hid hTb
  have HTc := Lib.hid hTc
  have HBW := Lib.hid hB1
  clear hTa hTb hTc hB1
  go_wp2_with fail
  refine (awake_any _ (HG.out _ HBW.out)).mono ?_
  rintro e w2 ⟨rfl, hB⟩
  replace HTa := Lib.hid (HTa.out.below hB HTa.out.lt)
  replace HTb := Lib.hid (HTb.out.below hB HTb.out.lt)
  replace HTc := Lib.hid (HTc.out.below hB HTc.out.lt)
  replace HBW := Lib.hid (trans_below HBW.out hB)
  clear hB
  by_cases hall : chk a = [] ∧ chk b = [] ∧ chk c = []
  · have HALL := Lib.hid hall
    clear hall
    have p0 := HTa.out.c0
    have p1 := HTa.out.c1
    have p2 := HTa.out.c2
    have p3 := HTa.out.c3
    have p4 := HTa.out.c4
    have p5 := HTa.out.c5
    have q0 := HTb.out.c0
    have q1 := HTb.out.c1
    have q2 := HTb.out.c2
    have q3 := HTb.out.c3
    have q4 := HTb.out.c4
    have q5 := HTb.out.c5
    have r0 := HTc.out.c0
    have r1 := HTc.out.c1
    have r2 := HTc.out.c2
    have r3 := HTc.out.c3
    have r4 := HTc.out.c4
    have r5 := HTc.out.c5
    go_wp2_with fail
    refine (HRa.out _ HBW.out).mono ?_
    rintro e wr ⟨va, rfl, hL, hB⟩
    have hsh := hL.shape
    clear hL
    replace HTa := Lib.hid (HTa.out.below hB HTa.out.lt)
    replace HTb := Lib.hid (HTb.out.below hB HTb.out.lt)
    replace HTc := Lib.hid (HTc.out.below hB HTc.out.lt)
    replace HBW := Lib.hid (trans_below HBW.out hB)
    clear hB
    clear p0 p1 p2 p3 p4 p5 q0 q1 q2 q3 q4 q5 r0 r1 r2 r3 r4 r5
    obtain ⟨_, rfl⟩ := hsh.resolve_right (fun h => h.1 HALL.out.1)
    clear hsh
    have p0 := HTa.out.c0
    have p1 := HTa.out.c1
    have p2 := HTa.out.c2
    have p3 := HTa.out.c3
    have p4 := HTa.out.c4
    have p5 := HTa.out.c5
    have q0 := HTb.out.c0
    have q1 := HTb.out.c1
    have q2 := HTb.out.c2
    have q3 := HTb.out.c3
    have q4 := HTb.out.c4
    have q5 := HTb.out.c5
    have r0 := HTc.out.c0
    have r1 := HTc.out.c1
    have r2 := HTc.out.c2
    have r3 := HTc.out.c3
    have r4 := HTc.out.c4
    have r5 := HTc.out.c5
    go_wp2_with fail
    refine (HRb.out _ HBW.out).mono ?_
    rintro e wr ⟨va, rfl, hL, hB⟩
    have hsh := hL.shape
    clear hL
    replace HTa := Lib.hid (HTa.out.below hB HTa.out.lt)
    replace HTb := Lib.hid (HTb.out.below hB HTb.out.lt)
    replace HTc := Lib.hid (HTc.out.below hB HTc.out.lt)
    replace HBW := Lib.hid (trans_below HBW.out hB)
    clear hB
    clear p0 p1 p2 p3 p4 p5 q0 q1 q2 q3 q4 q5 r0 r1 r2 r3 r4 r5
    obtain ⟨_, rfl⟩ := hsh.resolve_right (fun h => h.1 HALL.out.2.1)
    clear hsh
    have p0 := HTa.out.c0
    have p1 := HTa.out.c1
    have p2 := HTa.out.c2
    have p3 := HTa.out.c3
    have p4 := HTa.out.c4
    have p5 := HTa.out.c5
    have q0 := HTb.out.c0
    have q1 := HTb.out.c1
    have q2 := HTb.out.c2
    have q3 := HTb.out.c3
    have q4 := HTb.out.c4
    have q5 := HTb.out.c5
    have r0 := HTc.out.c0
    have r1 := HTc.out.c1
    have r2 := HTc.out.c2
    have r3 := HTc.out.c3
    have r4 := HTc.out.c4
    have r5 := HTc.out.c5
    go_wp2_with fail
    refine (HRc.out _ HBW.out).mono ?_
    rintro e wr ⟨va, rfl, hL, hB⟩
    have hsh := hL.shape
    clear hL
    replace HTa := Lib.hid (HTa.out.below hB HTa.out.lt)
    replace HTb := Lib.hid (HTb.out.below hB HTb.out.lt)
    replace HTc := Lib.hid (HTc.out.below hB HTc.out.lt)
    replace HBW := Lib.hid (trans_below HBW.out hB)
    clear hB
    clear p0 p1 p2 p3 p4 p5 q0 q1 q2 q3 q4 q5 r0 r1 r2 r3 r4 r5
    obtain ⟨_, rfl⟩ := hsh.resolve_right (fun h => h.1 HALL.out.2.2)
    clear hsh HRa HRb HRc HKa HKb HKc
    have hln := line_cases HALL.out.1 HALL.out.2.1 HALL.out.2.2
    clear HALL
    rename World => w3
    go_upto_region 5 with (fail)
    clear hne
    have HG1 := Lib.hid fun dd os => calls_grow (w := w3) (fun W hW => HCab.out W (trans_below HBW.out hW)) dd os
    have HG2 := Lib.hid fun dd os => calls_grow (w := w3) (fun W hW => HCbc.out W (trans_below HBW.out hW)) dd os
    have HG3 := Lib.hid fun dd os => calls_grow (w := w3) (fun W hW => HCac.out W (trans_below HBW.out hW)) dd os
    have p0 := cell_regrown HTa.out.c0
    have p1 := cell_regrown HTa.out.c1
    have p2 := cell_regrown HTa.out.c2
    have p3 := cell_regrown HTa.out.c3
    have p4 := cell_regrown HTa.out.c4
    have p5 := cell_regrown HTa.out.c5
    have q0 := cell_regrown HTb.out.c0
    have q1 := cell_regrown HTb.out.c1
    have q2 := cell_regrown HTb.out.c2
    have q3 := cell_regrown HTb.out.c3
    have q4 := cell_regrown HTb.out.c4
    have q5 := cell_regrown HTb.out.c5
    have r0 := cell_regrown HTc.out.c0
    have r1 := cell_regrown HTc.out.c1
    have r2 := cell_regrown HTc.out.c2
    have r3 := cell_regrown HTc.out.c3
    have r4 := cell_regrown HTc.out.c4
    have r5 := cell_regrown HTc.out.c5
    generalize hxe : compareT a b = x at hln HG1 HCab
    generalize hye : compareT b c = y at hln HG2 HCbc
    generalize hze : compareT a c = z at hln HG3 HCac
    obtain ⟨hba, haa, hxr, hyr, hzr, hsm, heq, m1, m2, m3, m4⟩ := hln
    rw [hba] at HCba
    rw [haa] at HCaa
    rw [hsm] at HSab
    rw [heq] at HEab
    clear hxe hye hze hba haa hsm heq
    have HM := Lib.hid (And.intro m1 (And.intro m2 (And.intro m3 m4)))
    have HXR := Lib.hid (And.intro hxr (And.intro hyr hzr))
    clear hxr hyr hzr m1 m2 m3 m4
    refine wp_region_quiet_below (by kernel_rfl) (by kernel_rfl) ?_
    repeat (go_big_quiet_step ((first | with_reducible exact HG1.out _ _ | with_reducible exact HG2.out _ _ | with_reducible exact HG3.out _ _)))
    refine wpQuiet_nil ?_
    intro _ hw'
    obtain ⟨⟨dq, osq⟩, hw''⟩ := hw'
    subst hw''
    have hwq := below_regrown w3 dq osq
    generalize grow (redrawn w3 dq) osq = wq at hwq ⊢
    clear p0 p1 p2 p3 p4 p5 q0 q1 q2 q3 q4 q5 r0 r1 r2 r3 r4 r5 HG1 HG2 HG3
    replace HTa := Lib.hid (HTa.out.below hwq HTa.out.lt)
    replace HTb := Lib.hid (HTb.out.below hwq HTb.out.lt)
    replace HTc := Lib.hid (HTc.out.below hwq HTc.out.lt)
    replace HBW := Lib.hid (trans_below HBW.out hwq)
    clear hwq
    obtain ⟨hxr, hyr, hzr⟩ := HXR.out
    have hx3 : x = -1 ∨ x = 0 ∨ x = 1 := by omega
    have hy3 : y = -1 ∨ y = 0 ∨ y = 1 := by omega
    have hz3 : z = -1 ∨ z = 0 ∨ z = 1 := by omega
    have HY3 := Lib.hid hy3
    have HZ3 := Lib.hid hz3
    clear hxr hyr hzr hy3 hz3 HXR HCab HCbc HCac
    rcases hx3 with rfl | rfl | rfl
    · rw [show (-(-1) : Int) = 1 from rfl] at HCba
      rw [show decide (((-1) : Int) = 0) = false from rfl] at HSab HEab
      have p0 := HTa.out.c0
      have p1 := HTa.out.c1
      have p2 := HTa.out.c2
      have p3 := HTa.out.c3
      have p4 := HTa.out.c4
      have p5 := HTa.out.c5
      have q0 := HTb.out.c0
      have q1 := HTb.out.c1
      have q2 := HTb.out.c2
      have q3 := HTb.out.c3
      have q4 := HTb.out.c4
      have q5 := HTb.out.c5
      have r0 := HTc.out.c0
      have r1 := HTc.out.c1
      have r2 := HTc.out.c2
      have r3 := HTc.out.c3
      have r4 := HTc.out.c4
      have r5 := HTc.out.c5
      go_wp2_with fail
      refine (HCba.out _ HBW.out).mono ?_
      rintro e wr ⟨rfl, hB⟩
      replace HTa := Lib.hid (HTa.out.below hB HTa.out.lt)
      replace HTb := Lib.hid (HTb.out.below hB HTb.out.lt)
      replace HTc := Lib.hid (HTc.out.below hB HTc.out.lt)
      replace HBW := Lib.hid (trans_below HBW.out hB)
      clear hB
      clear p0 p1 p2 p3 p4 p5 q0 q1 q2 q3 q4 q5 r0 r1 r2 r3 r4 r5
      have p0 := HTa.out.c0
      have p1 := HTa.out.c1
      have p2 := HTa.out.c2
      have p3 := HTa.out.c3
      have p4 := HTa.out.c4
      have p5 := HTa.out.c5
      have q0 := HTb.out.c0
      have q1 := HTb.out.c1
      have q2 := HTb.out.c2
      have q3 := HTb.out.c3
      have q4 := HTb.out.c4
      have q5 := HTb.out.c5
      have r0 := HTc.out.c0
      have r1 := HTc.out.c1
      have r2 := HTc.out.c2
      have r3 := HTc.out.c3
      have r4 := HTc.out.c4
      have r5 := HTc.out.c5
      go_wp2_with fail
      refine (HCaa.out _ HBW.out).mono ?_
      rintro e wr ⟨rfl, hB⟩
      replace HTa := Lib.hid (HTa.out.below hB HTa.out.lt)
      replace HTb := Lib.hid (HTb.out.below hB HTb.out.lt)
      replace HTc := Lib.hid (HTc.out.below hB HTc.out.lt)
      replace HBW := Lib.hid (trans_below HBW.out hB)
      clear hB
      clear p0 p1 p2 p3 p4 p5 q0 q1 q2 q3 q4 q5 r0 r1 r2 r3 r4 r5
      have p0 := HTa.out.c0
      have p1 := HTa.out.c1
      have p2 := HTa.out.c2
      have p3 := HTa.out.c3
      have p4 := HTa.out.c4
      have p5 := HTa.out.c5
      have q0 := HTb.out.c0
      have q1 := HTb.out.c1
      have q2 := HTb.out.c2
      have q3 := HTb.out.c3
      have q4 := HTb.out.c4
      have q5 := HTb.out.c5
      have r0 := HTc.out.c0
      have r1 := HTc.out.c1
      have r2 := HTc.out.c2
      have r3 := HTc.out.c3
      have r4 := HTc.out.c4
      have r5 := HTc.out.c5
      go_wp2_with fail
      refine (HSab.out _ HBW.out).mono ?_
      rintro e wr ⟨rfl, hB⟩
      replace HTa := Lib.hid (HTa.out.below hB HTa.out.lt)
      replace HTb := Lib.hid (HTb.out.below hB HTb.out.lt)
      replace HTc := Lib.hid (HTc.out.below hB HTc.out.lt)
      replace HBW := Lib.hid (trans_below HBW.out hB)
      clear hB
      clear p0 p1 p2 p3 p4 p5 q0 q1 q2 q3 q4 q5 r0 r1 r2 r3 r4 r5
      have p0 := HTa.out.c0
      have p1 := HTa.out.c1
      have p2 := HTa.out.c2
      have p3 := HTa.out.c3
      have p4 := HTa.out.c4
      have p5 := HTa.out.c5
      have q0 := HTb.out.c0
      have q1 := HTb.out.c1
      have q2 := HTb.out.c2
      have q3 := HTb.out.c3
      have q4 := HTb.out.c4
      have q5 := HTb.out.c5
      have r0 := HTc.out.c0
      have r1 := HTc.out.c1
      have r2 := HTc.out.c2
      have r3 := HTc.out.c3
      have r4 := HTc.out.c4
      have r5 := HTc.out.c5
      go_wp2_with fail
      refine (HEab.out _ HBW.out).mono ?_
      rintro e wr ⟨rfl, hB⟩
      replace HTa := Lib.hid (HTa.out.below hB HTa.out.lt)
      replace HTb := Lib.hid (HTb.out.below hB HTb.out.lt)
      replace HTc := Lib.hid (HTc.out.below hB HTc.out.lt)
      replace HBW := Lib.hid (trans_below HBW.out hB)
      clear hB
      clear p0 p1 p2 p3 p4 p5 q0 q1 q2 q3 q4 q5 r0 r1 r2 r3 r4 r5
      rcases HY3.out with rfl | rfl | rfl <;> rcases HZ3.out with rfl | rfl | rfl <;> first | (exfalso; obtain ⟨m1, m2, m3, m4⟩ := HM.out; omega) | (clear HM HY3 HZ3; go_wp2_with fail; go_ret; exact ⟨rfl, HBW.out⟩)
    · rw [show (-0 : Int) = 0 from rfl] at HCba
      rw [show decide ((0 : Int) = 0) = true from rfl] at HSab HEab
      have p0 := HTa.out.c0
      have p1 := HTa.out.c1
      have p2 := HTa.out.c2
      have p3 := HTa.out.c3
      have p4 := HTa.out.c4
      have p5 := HTa.out.c5
      have q0 := HTb.out.c0
      have q1 := HTb.out.c1
      have q2 := HTb.out.c2
      have q3 := HTb.out.c3
      have q4 := HTb.out.c4
      have q5 := HTb.out.c5
      have r0 := HTc.out.c0
      have r1 := HTc.out.c1
      have r2 := HTc.out.c2
      have r3 := HTc.out.c3
      have r4 := HTc.out.c4
      have r5 := HTc.out.c5
      go_wp2_with fail
      refine (HCba.out _ HBW.out).mono ?_
      rintro e wr ⟨rfl, hB⟩
      replace HTa := Lib.hid (HTa.out.below hB HTa.out.lt)
      replace HTb := Lib.hid (HTb.out.below hB HTb.out.lt)
      replace HTc := Lib.hid (HTc.out.below hB HTc.out.lt)
      replace HBW := Lib.hid (trans_below HBW.out hB)
      clear hB
      clear p0 p1 p2 p3 p4 p5 q0 q1 q2 q3 q4 q5 r0 r1 r2 r3 r4 r5
      have p0 := HTa.out.c0
      have p1 := HTa.out.c1
      have p2 := HTa.out.c2
      have p3 := HTa.out.c3
      have p4 := HTa.out.c4
      have p5 := HTa.out.c5
      have q0 := HTb.out.c0
      have q1 := HTb.out.c1
      have q2 := HTb.out.c2
      have q3 := HTb.out.c3
      have q4 := HTb.out.c4
      have q5 := HTb.out.c5
      have r0 := HTc.out.c0
      have r1 := HTc.out.c1
      have r2 := HTc.out.c2
      have r3 := HTc.out.c3
      have r4 := HTc.out.c4
      have r5 := HTc.out.c5
      go_wp2_with fail
      refine (HCaa.out _ HBW.out).mono ?_
      rintro e wr ⟨rfl, hB⟩
      replace HTa := Lib.hid (HTa.out.below hB HTa.out.lt)
      replace HTb := Lib.hid (HTb.out.below hB HTb.out.lt)
      replace HTc := Lib.hid (HTc.out.below hB HTc.out.lt)
      replace HBW := Lib.hid (trans_below HBW.out hB)
      clear hB
      clear p0 p1 p2 p3 p4 p5 q0 q1 q2 q3 q4 q5 r0 r1 r2 r3 r4 r5
      have p0 := HTa.out.c0
      have p1 := HTa.out.c1
      have p2 := HTa.out.c2
      have p3 := HTa.out.c3
      have p4 := HTa.out.c4
      have p5 := HTa.out.c5
      have q0 := HTb.out.c0
      have q1 := HTb.out.c1
      have q2 := HTb.out.c2
      have q3 := HTb.out.c3
      have q4 := HTb.out.c4
      have q5 := HTb.out.c5
      have r0 := HTc.out.c0
      have r1 := HTc.out.c1
      have r2 := HTc.out.c2
      have r3 := HTc.out.c3
      have r4 := HTc.out.c4
      have r5 := HTc.out.c5
      go_wp2_with fail
      refine (HSab.out _ HBW.out).mono ?_
      rintro e wr ⟨rfl, hB⟩
      replace HTa := Lib.hid (HTa.out.below hB HTa.out.lt)
      replace HTb := Lib.hid (HTb.out.below hB HTb.out.lt)
      replace HTc := Lib.hid (HTc.out.below hB HTc.out.lt)
      replace HBW := Lib.hid (trans_below HBW.out hB)
      clear hB
      clear p0 p1 p2 p3 p4 p5 q0 q1 q2 q3 q4 q5 r0 r1 r2 r3 r4 r5
      have p0 := HTa.out.c0
      have p1 := HTa.out.c1
      have p2 := HTa.out.c2
      have p3 := HTa.out.c3
      have p4 := HTa.out.c4
      have p5 := HTa.out.c5
      have q0 := HTb.out.c0
      have q1 := HTb.out.c1
      have q2 := HTb.out.c2
      have q3 := HTb.out.c3
      have q4 := HTb.out.c4
      have q5 := HTb.out.c5
      have r0 := HTc.out.c0
      have r1 := HTc.out.c1
      have r2 := HTc.out.c2
      have r3 := HTc.out.c3
      have r4 := HTc.out.c4
      have r5 := HTc.out.c5
      go_wp2_with fail
      refine (HEab.out _ HBW.out).mono ?_
      rintro e wr ⟨rfl, hB⟩
      replace HTa := Lib.hid (HTa.out.below hB HTa.out.lt)
      replace HTb := Lib.hid (HTb.out.below hB HTb.out.lt)
      replace HTc := Lib.hid (HTc.out.below hB HTc.out.lt)
      replace HBW := Lib.hid (trans_below HBW.out hB)
      clear hB
      clear p0 p1 p2 p3 p4 p5 q0 q1 q2 q3 q4 q5 r0 r1 r2 r3 r4 r5
      rcases HY3.out with rfl | rfl | rfl <;> rcases HZ3.out with rfl | rfl | rfl <;> first | (exfalso; obtain ⟨m1, m2, m3, m4⟩ := HM.out; omega) | (clear HM HY3 HZ3; go_wp2_with fail; go_ret; exact ⟨rfl, HBW.out⟩)
    · rw [show (-1 : Int) = (-1) from rfl] at HCba
      rw [show decide ((1 : Int) = 0) = false from rfl] at HSab HEab
      have p0 := HTa.out.c0
      have p1 := HTa.out.c1
      have p2 := HTa.out.c2
      have p3 := HTa.out.c3
      have p4 := HTa.out.c4
      have p5 := HTa.out.c5
      have q0 := HTb.out.c0
      have q1 := HTb.out.c1
      have q2 := HTb.out.c2
      have q3 := HTb.out.c3
      have q4 := HTb.out.c4
      have q5 := HTb.out.c5
      have r0 := HTc.out.c0
      have r1 := HTc.out.c1
      have r2 := HTc.out.c2
      have r3 := HTc.out.c3
      have r4 := HTc.out.c4
      have r5 := HTc.out.c5
      go_wp2_with fail
      refine (HCba.out _ HBW.out).mono ?_
      rintro e wr ⟨rfl, hB⟩
      replace HTa := Lib.hid (HTa.out.below hB HTa.out.lt)
      replace HTb := Lib.hid (HTb.out.below hB HTb.out.lt)
      replace HTc := Lib.hid (HTc.out.below hB HTc.out.lt)
      replace HBW := Lib.hid (trans_below HBW.out hB)
      clear hB
      clear p0 p1 p2 p3 p4 p5 q0 q1 q2 q3 q4 q5 r0 r1 r2 r3 r4 r5
      have p0 := HTa.out.c0
      have p1 := HTa.out.c1
      have p2 := HTa.out.c2
      have p3 := HTa.out.c3
      have p4 := HTa.out.c4
      have p5 := HTa.out.c5
      have q0 := HTb.out.c0
      have q1 := HTb.out.c1
      have q2 := HTb.out.c2
      have q3 := HTb.out.c3
      have q4 := HTb.out.c4
      have q5 := HTb.out.c5
      have r0 := HTc.out.c0
      have r1 := HTc.out.c1
      have r2 := HTc.out.c2
      have r3 := HTc.out.c3
      have r4 := HTc.out.c4
      have r5 := HTc.out.c5
      go_wp2_with fail
      refine (HCaa.out _ HBW.out).mono ?_
      rintro e wr ⟨rfl, hB⟩
      replace HTa := Lib.hid (HTa.out.below hB HTa.out.lt)
      replace HTb := Lib.hid (HTb.out.below hB HTb.out.lt)
      replace HTc := Lib.hid (HTc.out.below hB HTc.out.lt)
      replace HBW := Lib.hid (trans_below HBW.out hB)
      clear hB
      clear p0 p1 p2 p3 p4 p5 q0 q1 q2 q3 q4 q5 r0 r1 r2 r3 r4 r5
      have p0 := HTa.out.c0
      have p1 := HTa.out.c1
      have p2 := HTa.out.c2
      have p3 := HTa.out.c3
      have p4 := HTa.out.c4
      have p5 := HTa.out.c5
      have q0 := HTb.out.c0
      have q1 := HTb.out.c1
      have q2 := HTb.out.c2
      have q3 := HTb.out.c3
      have q4 := HTb.out.c4
      have q5 := HTb.out.c5
      have r0 := HTc.out.c0
      have r1 := HTc.out.c1
      have r2 := HTc.out.c2
      have r3 := HTc.out.c3
      have r4 := HTc.out.c4
      have r5 := HTc.out.c5
      go_wp2_with fail
      refine (HSab.out _ HBW.out).mono ?_
      rintro e wr ⟨rfl, hB⟩
      replace HTa := Lib.hid (HTa.out.below hB HTa.out.lt)
      replace HTb := Lib.hid (HTb.out.below hB HTb.out.lt)
      replace HTc := Lib.hid (HTc.out.below hB HTc.out.lt)
      replace HBW := Lib.hid (trans_below HBW.out hB)
      clear hB
      clear p0 p1 p2 p3 p4 p5 q0 q1 q2 q3 q4 q5 r0 r1 r2 r3 r4 r5
      have p0 := HTa.out.c0
      have p1 := HTa.out.c1
      have p2 := HTa.out.c2
      have p3 := HTa.out.c3
      have p4 := HTa.out.c4
      have p5 := HTa.out.c5
      have q0 := HTb.out.c0
      have q1 := HTb.out.c1
      have q2 := HTb.out.c2
      have q3 := HTb.out.c3
      have q4 := HTb.out.c4
      have q5 := HTb.out.c5
      have r0 := HTc.out.c0
      have r1 := HTc.out.c1
      have r2 := HTc.out.c2
      have r3 := HTc.out.c3
      have r4 := HTc.out.c4
      have r5 := HTc.out.c5
      go_wp2_with fail
      refine (HEab.out _ HBW.out).mono ?_
      rintro e wr ⟨rfl, hB⟩
      replace HTa := Lib.hid (HTa.out.below hB HTa.out.lt)
      replace HTb := Lib.hid (HTb.out.below hB HTb.out.lt)
      replace HTc := Lib.hid (HTc.out.below hB HTc.out.lt)
      replace HBW := Lib.hid (trans_below HBW.out hB)
      clear hB
      clear p0 p1 p2 p3 p4 p5 q0 q1 q2 q3 q4 q5 r0 r1 r2 r3 r4 r5
      rcases HY3.out with rfl | rfl | rfl <;> rcases HZ3.out with rfl | rfl | rfl <;> first | (exfalso; obtain ⟨m1, m2, m3, m4⟩ := HM.out; omega) | (clear HM HY3 HZ3; go_wp2_with fail; go_ret; exact ⟨rfl, HBW.out⟩)
  · have HALL := Lib.hid hall
    clear hall
    clear HCab HCbc HCac HCba HCaa HSab HEab
    by_cases ha : chk a = []
    · have HA := Lib.hid ha
      clear ha
      have p0 := HTa.out.c0
      have p1 := HTa.out.c1
      have p2 := HTa.out.c2
      have p3 := HTa.out.c3
      have p4 := HTa.out.c4
      have p5 := HTa.out.c5
      have q0 := HTb.out.c0
      have q1 := HTb.out.c1
      have q2 := HTb.out.c2
      have q3 := HTb.out.c3
      have q4 := HTb.out.c4
      have q5 := HTb.out.c5
      have r0 := HTc.out.c0
      have r1 := HTc.out.c1
      have r2 := HTc.out.c2
      have r3 := HTc.out.c3
      have r4 := HTc.out.c4
      have r5 := HTc.out.c5
      go_wp2_with fail
      refine (HRa.out _ HBW.out).mono ?_
      rintro e wr ⟨va, rfl, hL, hB⟩
      have hsh := hL.shape
      clear hL
      replace HTa := Lib.hid (HTa.out.below hB HTa.out.lt)
      replace HTb := Lib.hid (HTb.out.below hB HTb.out.lt)
      replace HTc := Lib.hid (HTc.out.below hB HTc.out.lt)
      replace HBW := Lib.hid (trans_below HBW.out hB)
      clear hB
      clear p0 p1 p2 p3 p4 p5 q0 q1 q2 q3 q4 q5 r0 r1 r2 r3 r4 r5
      obtain ⟨_, rfl⟩ := hsh.resolve_right (fun h => h.1 HA.out)
      clear hsh
      by_cases hb : chk b = []
      · have HB := Lib.hid hb
        clear hb
        have HC : Hid (chk c ≠ []) := Lib.hid (fun h => HALL.out ⟨HA.out, HB.out, h⟩)
        have p0 := HTa.out.c0
        have p1 := HTa.out.c1
        have p2 := HTa.out.c2
        have p3 := HTa.out.c3
        have p4 := HTa.out.c4
        have p5 := HTa.out.c5
        have q0 := HTb.out.c0
        have q1 := HTb.out.c1
        have q2 := HTb.out.c2
        have q3 := HTb.out.c3
        have q4 := HTb.out.c4
        have q5 := HTb.out.c5
        have r0 := HTc.out.c0
        have r1 := HTc.out.c1
        have r2 := HTc.out.c2
        have r3 := HTc.out.c3
        have r4 := HTc.out.c4
        have r5 := HTc.out.c5
        go_wp2_with fail
        refine (HRb.out _ HBW.out).mono ?_
        rintro e wr ⟨va, rfl, hL, hB⟩
        have hsh := hL.shape
        clear hL
        replace HTa := Lib.hid (HTa.out.below hB HTa.out.lt)
        replace HTb := Lib.hid (HTb.out.below hB HTb.out.lt)
        replace HTc := Lib.hid (HTc.out.below hB HTc.out.lt)
        replace HBW := Lib.hid (trans_below HBW.out hB)
        clear hB
        clear p0 p1 p2 p3 p4 p5 q0 q1 q2 q3 q4 q5 r0 r1 r2 r3 r4 r5
        obtain ⟨_, rfl⟩ := hsh.resolve_right (fun h => h.1 HB.out)
        clear hsh
        have p0 := HTa.out.c0
        have p1 := HTa.out.c1
        have p2 := HTa.out.c2
        have p3 := HTa.out.c3
        have p4 := HTa.out.c4
        have p5 := HTa.out.c5
        have q0 := HTb.out.c0
        have q1 := HTb.out.c1
        have q2 := HTb.out.c2
        have q3 := HTb.out.c3
        have q4 := HTb.out.c4
        have q5 := HTb.out.c5
        have r0 := HTc.out.c0
        have r1 := HTc.out.c1
        have r2 := HTc.out.c2
        have r3 := HTc.out.c3
        have r4 := HTc.out.c4
        have r5 := HTc.out.c5
        go_wp2_with fail
        refine (HRc.out _ HBW.out).mono ?_
        rintro e wr ⟨va, rfl, hL, hB⟩
        have hsh := hL.shape
        clear hL
        replace HTa := Lib.hid (HTa.out.below hB HTa.out.lt)
        replace HTb := Lib.hid (HTb.out.below hB HTb.out.lt)
        replace HTc := Lib.hid (HTc.out.below hB HTc.out.lt)
        replace HBW := Lib.hid (trans_below HBW.out hB)
        clear hB
        clear p0 p1 p2 p3 p4 p5 q0 q1 q2 q3 q4 q5 r0 r1 r2 r3 r4 r5
        obtain ⟨_, g, n, c, rfl⟩ := hsh.resolve_left (fun h => HC.out h.1)
        clear hsh
        have p0 := HTa.out.c0
        have p1 := HTa.out.c1
        have p2 := HTa.out.c2
        have p3 := HTa.out.c3
        have p4 := HTa.out.c4
        have p5 := HTa.out.c5
        have q0 := HTb.out.c0
        have q1 := HTb.out.c1
        have q2 := HTb.out.c2
        have q3 := HTb.out.c3
        have q4 := HTb.out.c4
        have q5 := HTb.out.c5
        have r0 := HTc.out.c0
        have r1 := HTc.out.c1
        have r2 := HTc.out.c2
        have r3 := HTc.out.c3
        have r4 := HTc.out.c4
        have r5 := HTc.out.c5
        go_wp2_with fail
        refine (HKa.out _ HBW.out).mono ?_
        rintro e wr ⟨va, rfl, hE, hB⟩
        have hE' := hE.shapeL
        clear hE
        replace HTa := Lib.hid (HTa.out.below hB HTa.out.lt)
        replace HTb := Lib.hid (HTb.out.below hB HTb.out.lt)
        replace HTc := Lib.hid (HTc.out.below hB HTc.out.lt)
        replace HBW := Lib.hid (trans_below HBW.out hB)
        clear hB
        clear p0 p1 p2 p3 p4 p5 q0 q1 q2 q3 q4 q5 r0 r1 r2 r3 r4 r5
        obtain ⟨_, rfl⟩ := hE'.resolve_right (fun h => h.1 HA.out)
        clear hE'
        have p0 := HTa.out.c0
        have p1 := HTa.out.c1
        have p2 := HTa.out.c2
        have p3 := HTa.out.c3
        have p4 := HTa.out.c4
        have p5 := HTa.out.c5
        have q0 := HTb.out.c0
        have q1 := HTb.out.c1
        have q2 := HTb.out.c2
        have q3 := HTb.out.c3
        have q4 := HTb.out.c4
        have q5 := HTb.out.c5
        have r0 := HTc.out.c0
        have r1 := HTc.out.c1
        have r2 := HTc.out.c2
        have r3 := HTc.out.c3
        have r4 := HTc.out.c4
        have r5 := HTc.out.c5
        go_wp2_with fail
        refine (HKb.out _ HBW.out).mono ?_
        rintro e wr ⟨va, rfl, hE, hB⟩
        have hE' := hE.shapeL
        clear hE
        replace HTa := Lib.hid (HTa.out.below hB HTa.out.lt)
        replace HTb := Lib.hid (HTb.out.below hB HTb.out.lt)
        replace HTc := Lib.hid (HTc.out.below hB HTc.out.lt)
        replace HBW := Lib.hid (trans_below HBW.out hB)
        clear hB
        clear p0 p1 p2 p3 p4 p5 q0 q1 q2 q3 q4 q5 r0 r1 r2 r3 r4 r5
        obtain ⟨_, rfl⟩ := hE'.resolve_right (fun h => h.1 HB.out)
        clear hE'
        have p0 := HTa.out.c0
        have p1 := HTa.out.c1
        have p2 := HTa.out.c2
        have p3 := HTa.out.c3
        have p4 := HTa.out.c4
        have p5 := HTa.out.c5
        have q0 := HTb.out.c0
        have q1 := HTb.out.c1
        have q2 := HTb.out.c2
        have q3 := HTb.out.c3
        have q4 := HTb.out.c4
        have q5 := HTb.out.c5
        have r0 := HTc.out.c0
        have r1 := HTc.out.c1
        have r2 := HTc.out.c2
        have r3 := HTc.out.c3
        have r4 := HTc.out.c4
        have r5 := HTc.out.c5
        go_wp2_with fail
        refine (HKc.out _ HBW.out).mono ?_
        rintro e wr ⟨va, rfl, hE, hB⟩
        have hE' := hE.shapeL
        clear hE
        replace HTa := Lib.hid (HTa.out.below hB HTa.out.lt)
        replace HTb := Lib.hid (HTb.out.below hB HTb.out.lt)
        replace HTc := Lib.hid (HTc.out.below hB HTc.out.lt)
        replace HBW := Lib.hid (trans_below HBW.out hB)
        clear hB
        clear p0 p1 p2 p3 p4 p5 q0 q1 q2 q3 q4 q5 r0 r1 r2 r3 r4 r5
        obtain ⟨_, g, rfl⟩ := hE'.resolve_left (fun h => HC.out h.1)
        clear hE'
        go_wp2_with fail
        go_ret
        exact ⟨rfl, HBW.out⟩
      · have HB := Lib.hid hb
        clear hb
        have p0 := HTa.out.c0
        have p1 := HTa.out.c1
        have p2 := HTa.out.c2
        have p3 := HTa.out.c3
        have p4 := HTa.out.c4
        have p5 := HTa.out.c5
        have q0 := HTb.out.c0
        have q1 := HTb.out.c1
        have q2 := HTb.out.c2
        have q3 := HTb.out.c3
        have q4 := HTb.out.c4
        have q5 := HTb.out.c5
        have r0 := HTc.out.c0
        have r1 := HTc.out.c1
        have r2 := HTc.out.c2
        have r3 := HTc.out.c3
        have r4 := HTc.out.c4
        have r5 := HTc.out.c5
        go_wp2_with fail
        refine (HRb.out _ HBW.out).mono ?_
        rintro e wr ⟨va, rfl, hL, hB⟩
        have hsh := hL.shape
        clear hL
        replace HTa := Lib.hid (HTa.out.below hB HTa.out.lt)
        replace HTb := Lib.hid (HTb.out.below hB HTb.out.lt)
        replace HTc := Lib.hid (HTc.out.below hB HTc.out.lt)
        replace HBW := Lib.hid (trans_below HBW.out hB)
        clear hB
        clear p0 p1 p2 p3 p4 p5 q0 q1 q2 q3 q4 q5 r0 r1 r2 r3 r4 r5
        obtain ⟨_, g, n, c, rfl⟩ := hsh.resolve_left (fun h => HB.out h.1)
        clear hsh
        have p0 := HTa.out.c0
        have p1 := HTa.out.c1
        have p2 := HTa.out.c2
        have p3 := HTa.out.c3
        have p4 := HTa.out.c4
        have p5 := HTa.out.c5
        have q0 := HTb.out.c0
        have q1 := HTb.out.c1
        have q2 := HTb.out.c2
        have q3 := HTb.out.c3
        have q4 := HTb.out.c4
        have q5 := HTb.out.c5
        have r0 := HTc.out.c0
        have r1 := HTc.out.c1
        have r2 := HTc.out.c2
        have r3 := HTc.out.c3
        have r4 := HTc.out.c4
        have r5 := HTc.out.c5
        go_wp2_with fail
        refine (HKa.out _ HBW.out).mono ?_
        rintro e wr ⟨va, rfl, hE, hB⟩
        have hE' := hE.shapeL
        clear hE
        replace HTa := Lib.hid (HTa.out.below hB HTa.out.lt)
        replace HTb := Lib.hid (HTb.out.below hB HTb.out.lt)
        replace HTc := Lib.hid (HTc.out.below hB HTc.out.lt)
        replace HBW := Lib.hid (trans_below HBW.out hB)
        clear hB
        clear p0 p1 p2 p3 p4 p5 q0 q1 q2 q3 q4 q5 r0 r1 r2 r3 r4 r5
        obtain ⟨_, rfl⟩ := hE'.resolve_right (fun h => h.1 HA.out)
        clear hE'
        have p0 := HTa.out.c0
        have p1 := HTa.out.c1
        have p2 := HTa.out.c2
        have p3 := HTa.out.c3
        have p4 := HTa.out.c4
        have p5 := HTa.out.c5
        have q0 := HTb.out.c0
        have q1 := HTb.out.c1
        have q2 := HTb.out.c2
        have q3 := HTb.out.c3
        have q4 := HTb.out.c4
        have q5 := HTb.out.c5
        have r0 := HTc.out.c0
        have r1 := HTc.out.c1
        have r2 := HTc.out.c2
        have r3 := HTc.out.c3
        have r4 := HTc.out.c4
        have r5 := HTc.out.c5
        go_wp2_with fail
        refine (HKb.out _ HBW.out).mono ?_
        rintro e wr ⟨va, rfl, hE, hB⟩
        have hE' := hE.shapeL
        clear hE
        replace HTa := Lib.hid (HTa.out.below hB HTa.out.lt)
        replace HTb := Lib.hid (HTb.out.below hB HTb.out.lt)
        replace HTc := Lib.hid (HTc.out.below hB HTc.out.lt)
        replace HBW := Lib.hid (trans_below HBW.out hB)
        clear hB
        clear p0 p1 p2 p3 p4 p5 q0 q1 q2 q3 q4 q5 r0 r1 r2 r3 r4 r5
        obtain ⟨_, g, rfl⟩ := hE'.resolve_left (fun h => HB.out h.1)
        clear hE'
        go_wp2_with fail
        go_ret
        exact ⟨rfl, HBW.out⟩
    · have HA := Lib.hid ha
      clear ha
      have p0 := HTa.out.c0
      have p1 := HTa.out.c1
      have p2 := HTa.out.c2
      have p3 := HTa.out.c3
      have p4 := HTa.out.c4
      have p5 := HTa.out.c5
      have q0 := HTb.out.c0
      have q1 := HTb.out.c1
      have q2 := HTb.out.c2
      have q3 := HTb.out.c3
      have q4 := HTb.out.c4
      have q5 := HTb.out.c5
      have r0 := HTc.out.c0
      have r1 := HTc.out.c1
      have r2 := HTc.out.c2
      have r3 := HTc.out.c3
      have r4 := HTc.out.c4
      have r5 := HTc.out.c5
      go_wp2_with fail
      refine (HRa.out _ HBW.out).mono ?_
      rintro e wr ⟨va, rfl, hL, hB⟩
      have hsh := hL.shape
      clear hL
      replace HTa := Lib.hid (HTa.out.below hB HTa.out.lt)
      replace HTb := Lib.hid (HTb.out.below hB HTb.out.lt)
      replace HTc := Lib.hid (HTc.out.below hB HTc.out.lt)
      replace HBW := Lib.hid (trans_below HBW.out hB)
      clear hB
      clear p0 p1 p2 p3 p4 p5 q0 q1 q2 q3 q4 q5 r0 r1 r2 r3 r4 r5
      obtain ⟨_, g, n, c, rfl⟩ := hsh.resolve_left (fun h => HA.out h.1)
      clear hsh
      have p0 := HTa.out.c0
      have p1 := HTa.out.c1
      have p2 := HTa.out.c2
      have p3 := HTa.out.c3
      have p4 := HTa.out.c4
      have p5 := HTa.out.c5
      have q0 := HTb.out.c0
      have q1 := HTb.out.c1
      have q2 := HTb.out.c2
      have q3 := HTb.out.c3
      have q4 := HTb.out.c4
      have q5 := HTb.out.c5
      have r0 := HTc.out.c0
      have r1 := HTc.out.c1
      have r2 := HTc.out.c2
      have r3 := HTc.out.c3
      have r4 := HTc.out.c4
      have r5 := HTc.out.c5
      go_wp2_with fail
      refine (HKa.out _ HBW.out).mono ?_
      rintro e wr ⟨va, rfl, hE, hB⟩
      have hE' := hE.shapeL
      clear hE
      replace HTa := Lib.hid (HTa.out.below hB HTa.out.lt)
      replace HTb := Lib.hid (HTb.out.below hB HTb.out.lt)
      replace HTc := Lib.hid (HTc.out.below hB HTc.out.lt)
      replace HBW := Lib.hid (trans_below HBW.out hB)
      clear hB
      clear p0 p1 p2 p3 p4 p5 q0 q1 q2 q3 q4 q5 r0 r1 r2 r3 r4 r5
      obtain ⟨_, g, rfl⟩ := hE'.resolve_left (fun h => HA.out h.1)
      clear hE'
      go_wp2_with fail
      go_ret
      exact ⟨rfl, HBW.out⟩
end Go.Proofs.YtgapeacflkfmdaaGreatDoor
