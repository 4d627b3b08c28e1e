/-
  Plain: a term's text with blanks laid behind its brackets, commas and bars. The walk of TermBlanks. strconv.FormatUint, FormatInt at base 10. heddleref02: text, Print. heddleref02: Print. TermPrints: the text of every term.
-/
import Derived.Test.YtgapeacflkfmdaaGreatDoorG9
import Derived.Test.YtgapeacflkfmdaaGreatDoorG6
import Derived.Lib.AppendIntMem
import Derived.Test.YtgapeacflkfmdaaGreatDoorG2
set_option linter.unusedSimpArgs false
namespace Go.Proofs.YtgapeacflkfmdaaGreatDoor
open Go.RowKit Go.Sort Go.Proofs.YtgapeacflkfmdaaGreatDoorW.PrintWords Tb

def isOpen (c : Int) : Bool := c == 44 || c == 123 || c == 91 || c == 124
/-- A text with blanks laid in; 'q': within quotes; none: a backslash stands last. -/
def sprd : Bool → List Int → Option (List Int)
  | _, [] => some []
  | q, c :: r => if c = 92 then (match r with
      | [] => none
      | d :: r' => (sprd q r').map (fun l => c :: d :: l))
    else if c = 39 then (sprd (!q) r).map (fun l => c :: l)
    else (sprd q r).map (fun l => if !q && isOpen c then c :: 9 :: 32 :: l else c :: l)
theorem sprd_other {q : Bool} {c : Int} {R : List Int} (h1 : c ≠ 92) (h2 : c ≠ 39) : sprd q (c :: R) = (sprd q R).map (fun l => if !q && isOpen c then c :: 9 :: 32 :: l else c :: l) := by
  rw [sprd.eq_def]
  simp only
  rw [if_neg h1, if_neg h2]
theorem sprd_quote {q : Bool} {R : List Int} : sprd q (39 :: R) = (sprd (!q) R).map (fun l => 39 :: l) := by
  rw [sprd.eq_def]
  simp
theorem sprd_slash {q : Bool} {d : Int} {R : List Int} : sprd q (92 :: d :: R) = (sprd q R).map (fun l => 92 :: d :: l) := by
  rw [sprd.eq_def]
  simp
theorem sprd_last (q : Bool) : sprd q [92] = none := by
  rw [sprd.eq_def]
  simp
/-- X, begun within quotes or not, comes to Y. -/
def Sp (q : Bool) (X : List Int) (q2 : Bool) (Y : List Int) : Prop := ∀ R, sprd q (X ++ R) = (sprd q2 R).map (fun l => Y ++ l)
theorem Sp.nil (q : Bool) : Sp q [] q [] := fun R => by simp
theorem Sp.app {q q2 q3 : Bool} {X Y X' Y' : List Int} (h : Sp q X q2 Y) (h2 : Sp q2 X' q3 Y') : Sp q (X ++ X') q3 (Y ++ Y') := fun R => by
  rw [List.append_assoc, h, h2, Option.map_map]
  congr 1
  funext l
  simp
theorem Sp.one {q : Bool} {c : Int} (h1 : c ≠ 92) (h2 : c ≠ 39) (h3 : q = true ∨ isOpen c = false) : Sp q [c] q [c] := fun R => by
  have h4 : (!q && isOpen c) = false := by
    rcases h3 with h | h
    · simp [h]
    · simp [h]
  show sprd q (c :: R) = _
  rw [sprd_other h1 h2, h4]
  rfl
theorem Sp.opened {c : Int} (h : isOpen c = true) : Sp false [c] false [c, 9, 32] := fun R => by
  have h1 : c ≠ 92 := fun e => by rw [e] at h; cases h
  have h2 : c ≠ 39 := fun e => by rw [e] at h; cases h
  show sprd false (c :: R) = _
  rw [sprd_other h1 h2, h]
  rfl
theorem Sp.quote (q : Bool) : Sp q [39] (!q) [39] := fun R => by
  show sprd q (39 :: R) = _
  rw [sprd_quote]
  rfl
theorem Sp.slash (q : Bool) (d : Int) : Sp q [92, d] q [92, d] := fun R => by
  show sprd q (92 :: d :: R) = _
  rw [sprd_slash]
  rfl
/-- A byte that is copied. -/
def bare (c : Int) : Prop := c ≠ 92 ∧ c ≠ 39 ∧ isOpen c = false
theorem Sp.bare : ∀ {l : List Int}, (∀ c ∈ l, bare c) → Sp false l false l
  | [], _ => Sp.nil _
  | c :: l, h => (Sp.one (h c (by simp)).1 (h c (by simp)).2.1 (.inr (h c (by simp)).2.2)).app (Sp.bare fun d hd => h d (by simp [hd]))
theorem bare_of {c : Int} (h : isIn c = true ∨ c = 45 ∨ c = 46 ∨ c = 60 ∨ c = 62 ∨ c = 35) : Go.Proofs.YtgapeacflkfmdaaGreatDoor.bare c := by
  unfold Go.Proofs.YtgapeacflkfmdaaGreatDoor.bare
  rcases h with h | rfl | rfl | rfl | rfl | rfl
  · refine ⟨fun e => ?_, fun e => ?_, ?_⟩
    · rw [e] at h; revert h; decide
    · rw [e] at h; revert h; decide
    · rw [Bool.eq_false_iff]
      intro he
      unfold isOpen at he
      simp only [Bool.or_eq_true, beq_iff_eq] at he
      rcases he with ((e | e) | e) | e
      all_goals (rw [e] at h; revert h; decide)
  all_goals decide
theorem Sp.qB {c : Int} (h0 : 0 ≤ c) (h1 : c ≤ 255) : Sp true (qB c) true (qB c) := by
  unfold Go.Proofs.YtgapeacflkfmdaaGreatDoor.qB
  split
  · exact Sp.slash true c
  · rename_i h
    split
    · exact Sp.slash true 110
    · split
      · exact Sp.slash true 116
      · split
        · exact Sp.slash true 114
        · split
          · have r1 : ∀ n : Int, 0 ≤ n → n < 16 → hexD n ≠ 92 ∧ hexD n ≠ 39 := fun n _ _ => by unfold hexD; split <;> omega
            have a1 := r1 (c / 16) (by omega) (by omega)
            have a2 := r1 (c % 16) (by omega) (by omega)
            exact ((Sp.slash true 120).app (Sp.one a1.1 a1.2 (.inl rfl))).app (Sp.one a2.1 a2.2 (.inl rfl))
          · exact Sp.one (fun e => h (.inr e)) (fun e => h (.inl e)) (.inl rfl)
theorem Sp.flat : ∀ l : List Int, (∀ c ∈ l, 0 ≤ c ∧ c ≤ 255) → Sp true (l.flatMap Go.Proofs.YtgapeacflkfmdaaGreatDoor.qB) true (l.flatMap Go.Proofs.YtgapeacflkfmdaaGreatDoor.qB)
  | [], _ => Sp.nil _
  | c :: l, h => by
    rw [List.flatMap_cons]
    exact (Sp.qB (h c (by simp)).1 (h c (by simp)).2).app (Sp.flat l fun d hd => h d (by simp [hd]))
theorem digit_in' {c : Int} (h : isDigit c = true) : isIn c = true := by
  cases hc : isIn c with
  | true => rfl
  | false => rw [in_digit hc] at h; cases h
theorem plain_in {tx : ByteArray} (h : isPlain tx = true) : ∀ c ∈ bs tx, isIn c = true := by
  unfold isPlain at h
  simp only [Bool.and_eq_true, decide_eq_true_eq] at h
  intro c hc
  obtain ⟨i, hi, rfl⟩ := List.mem_iff_getElem.1 hc
  rw [bs_len] at hi
  have := runEnd_in (P := isIn) (s := tx) (k := 0) (i := i) (Nat.zero_le _) (by rw [h.1.2]; exact hi)
  have e := bs_get tx i hi
  rw [e]
  exact this.1
theorem Sp.atom {tx : ByteArray} (h : (quoted tx).2 = []) : Sp false (bs (quoted tx).1) false (bs (quoted tx).1) := by
  rw [quoted_bytes h]
  split
  · rename_i hp
    exact Sp.bare fun c hc => bare_of (.inl (plain_in hp c hc))
  · unfold quoteOf
    exact (Sp.quote false).app ((Sp.flat _ (bs_range tx)).app (Sp.quote true))
theorem Sp.itoa (n : Int) : Sp false (itoaI n) false (itoaI n) := by
  refine Sp.bare fun c hc => ?_
  rcases Int.le_total 0 n with h | h
  · obtain ⟨u, rfl⟩ := Int.eq_ofNat_of_zero_le h
    rw [itoa_nat] at hc
    exact bare_of (.inl (digit_in' (decL_digit u c hc)))
  · obtain ⟨u, hu⟩ := Int.eq_ofNat_of_zero_le (show 0 ≤ -n by omega)
    obtain rfl : n = -(u : Int) := by omega
    by_cases h0 : u = 0
    · subst h0
      rw [show (-((0 : Nat) : Int)) = ((0 : Nat) : Int) from rfl, itoa_nat] at hc
      exact bare_of (.inl (digit_in' (decL_digit 0 c hc)))
    · rw [itoa_neg u (by omega)] at hc
      rcases List.mem_cons.1 hc with rfl | hc
      · exact bare_of (.inr (.inl rfl))
      · exact bare_of (.inl (digit_in' (decL_digit u c hc)))
theorem Sp.nums : ∀ ns : List Int, Sp false (ns.flatMap (fun n => 46 :: itoaI n)) false (ns.flatMap (fun n => 46 :: itoaI n))
  | [] => Sp.nil _
  | n :: ns => by
    rw [List.flatMap_cons]
    exact ((Sp.one (q := false) (c := 46) (by decide) (by decide) (.inr (by decide))).app (Sp.itoa n)).app (Sp.nums ns)
theorem Sp.far {tx : ByteArray} (h : (quoted tx).2 = []) (ns : List Int) : Sp false (farTxt tx ns) false (farTxt tx ns) := by
  unfold farTxt
  exact (Sp.one (q := false) (c := 60) (by decide) (by decide) (.inr (by decide))).app ((Sp.atom h).app ((Sp.nums ns).app (Sp.one (by decide) (by decide) (.inr (by decide)))))
def gB : List Int := [9, 32]
theorem Sp.sep : ∀ (l : List Tm), (∀ a ∈ l, Sp false (txtT [] a) false (txtT gB a)) → Sp false (sepBy [44] (l.map (txtT []))) false (sepBy (44 :: gB) (l.map (txtT gB)))
  | [], _ => Sp.nil _
  | [a], h => h a (by simp)
  | a :: b :: l, h => by
    have h1 := Sp.sep (b :: l) (fun x hx => h x (by simp [hx]))
    have h2 := h a (by simp)
    have h3 : Sp false [44] false (44 :: gB) := Sp.opened rfl
    exact h2.app (h3.app h1)
theorem txt1 (g : List Int) {t : Tm} (hk : t.kd = 1) : txtT g t = itoaI t.it := by rw [txtT_eq, if_pos hk]
theorem txt2 (g : List Int) {t : Tm} (hk : t.kd = 2) : txtT g t = bs (quoted t.tx).1 := by rw [txtT_eq, if_neg (by omega), if_pos hk]
theorem txt3 (g : List Int) {t : Tm} (hk : t.kd = 3) : txtT g t = 35 :: 82 :: 101 :: 102 :: farTxt t.tx (t.cr :: t.nums) := by rw [txtT_eq, if_neg (by omega), if_neg (by omega), if_pos hk]
theorem txt4 (g : List Int) {t : Tm} (hk : t.kd = 4) : txtT g t = farTxt t.tx (t.cr :: t.nums) := by rw [txtT_eq, if_neg (by omega), if_neg (by omega), if_neg (by omega), if_pos hk]
theorem txt5 (g : List Int) {t : Tm} (hk : t.kd = 5) : txtT g t = 123 :: (g ++ (sepBy (44 :: g) (t.args.map (txtT g)) ++ [125])) := by rw [txtT_eq, if_neg (by omega), if_neg (by omega), if_neg (by omega), if_neg (by omega), if_pos hk]
theorem txt6 (g : List Int) {t : Tm} (hk : t.kd = 6) : txtT g t = 91 :: (g ++ [93]) := by rw [txtT_eq, if_neg (by omega), if_neg (by omega), if_neg (by omega), if_neg (by omega), if_neg (by omega), if_pos hk]
theorem txt7 (g : List Int) {t : Tm} (hk : t.kd = 7) : txtT g t = 91 :: (g ++ (sepBy (44 :: g) (t.args.map (txtT g)).dropLast ++ ((if lastKd t = 6 then [] else 124 :: (g ++ (t.args.map (txtT g)).getLastD [])) ++ [93]))) := by rw [txtT_eq, if_neg (by omega), if_neg (by omega), if_neg (by omega), if_neg (by omega), if_neg (by omega), if_neg (by omega)]
theorem Sp.term (t : Tm) : ∀ D n m, (measT t D n m).1 = [] → Sp false (txtT [] t) false (txtT gB t) := by
  induction t using Tm.ind with
  | h t ih =>
    intro D n m hm
    have hok := meas_ok t D n m hm
    obtain ⟨_, hf, h3, _, _⟩ := meas_parts hm
    have hkd := shape_kd hok
    have ih' : ∀ a ∈ t.args, Sp false (txtT [] a) false (txtT gB a) := fun a ha => by
      obtain ⟨n', m', h4⟩ := measL_mem h3 a ha
      exact ih a ha _ n' m' h4
    have hcl : ∀ c : Int, c = 125 ∨ c = 93 → Sp false [c] false [c] := fun c hc => Sp.one (by omega) (by omega) (.inr (by rcases hc with rfl | rfl <;> rfl))
    rcases (show t.kd = 1 ∨ t.kd = 2 ∨ t.kd = 3 ∨ t.kd = 4 ∨ t.kd = 5 ∨ t.kd = 6 ∨ t.kd = 7 by omega) with hk | hk | hk | hk | hk | hk | hk
    · rw [txt1 [] hk, txt1 gB hk]
      exact Sp.itoa _
    · rw [txt2 [] hk, txt2 gB hk]
      exact Sp.atom (form_atom hf hk)
    · rw [txt3 [] hk, txt3 gB hk]
      have hq := node_quoted (form_node hf (.inl hk))
      have hb : Sp false [35, 82, 101, 102] false [35, 82, 101, 102] := Sp.bare (by
        intro c hc
        simp only [List.mem_cons, List.not_mem_nil, or_false] at hc
        rcases hc with rfl | rfl | rfl | rfl <;> (unfold Go.Proofs.YtgapeacflkfmdaaGreatDoor.bare; decide))
      exact hb.app (Sp.far hq _)
    · rw [txt4 [] hk, txt4 gB hk]
      exact Sp.far (node_quoted (form_node hf (.inr hk))) _
    · rw [txt5 [] hk, txt5 gB hk]
      have h1 : Sp false [123] false (123 :: gB) := Sp.opened rfl
      have := h1.app ((Sp.sep t.args ih').app (hcl 125 (.inl rfl)))
      simpa using this
    · rw [txt6 [] hk, txt6 gB hk]
      have h1 : Sp false [91] false (91 :: gB) := Sp.opened rfl
      have := h1.app (hcl 93 (.inr rfl))
      simpa using this
    · rw [txt7 [] hk, txt7 gB hk]
      have h1 : Sp false [91] false (91 :: gB) := Sp.opened rfl
      have hl2 := (shape_list hok hk).1
      obtain ⟨i, x, hix⟩ := dropLast_snoc (l := t.args) (by intro e; rw [e] at hl2; simp at hl2)
      have hs := Sp.sep i (fun a ha => ih' a (by rw [hix]; simp [ha]))
      have hx := ih' x (by rw [hix]; simp)
      rw [hix]
      simp only [List.map_append, List.map_cons, List.map_nil, List.dropLast_concat, List.getLastD_concat]
      by_cases hl6 : lastKd t = 6
      · rw [if_pos hl6, if_pos hl6]
        have := h1.app (hs.app (hcl 93 (.inr rfl)))
        simpa using this
      · rw [if_neg hl6, if_neg hl6]
        have hb : Sp false [124] false (124 :: gB) := Sp.opened rfl
        have := h1.app (hs.app ((hb.app hx).app (hcl 93 (.inr rfl))))
        simpa using this
theorem sprd_term {t : Tm} (h : chk t = []) : sprd false (txtT [] t) = some (txtT gB t) := by
  have := Sp.term t 1 0 0 h []
  rw [List.append_nil, sprd] at this
  rw [this]
  simp
end Go.Proofs.YtgapeacflkfmdaaGreatDoor
set_option linter.unusedSimpArgs false
namespace Go.Proofs.YtgapeacflkfmdaaGreatDoor
open Go.RowKit Go.Sort Go.Proofs.YtgapeacflkfmdaaGreatDoorW.PrintWords Tb

theorem sprd_step_slash {q : Bool} {l rest : List Int} (h : sprd q (92 :: l) = some rest) : ∃ d r l', l = d :: r ∧ rest = 92 :: d :: l' ∧ sprd q r = some l' := by
  cases l with
  | nil => rw [sprd_last] at h; cases h
  | cons d r =>
    rw [sprd_slash, Option.map_eq_some_iff] at h
    obtain ⟨l', h1, h2⟩ := h
    exact ⟨d, r, l', rfl, h2.symm, h1⟩
theorem sprd_step_quote {q : Bool} {l rest : List Int} (h : sprd q (39 :: l) = some rest) : ∃ l', rest = 39 :: l' ∧ sprd (!q) l = some l' := by
  rw [sprd_quote, Option.map_eq_some_iff] at h
  obtain ⟨l', h1, h2⟩ := h
  exact ⟨l', h2.symm, h1⟩
theorem sprd_step_other {q : Bool} {c : Int} {l rest : List Int} (h1 : c ≠ 92) (h2 : c ≠ 39) (h : sprd q (c :: l) = some rest) : ∃ l', rest = (if !q && isOpen c then c :: 9 :: 32 :: l' else c :: l') ∧ sprd q l = some l' := by
  rw [sprd_other h1 h2, Option.map_eq_some_iff] at h
  obtain ⟨l', h1, h2⟩ := h
  exact ⟨l', h2.symm, h1⟩
set_option maxRecDepth 100000 in
set_option maxHeartbeats 8000000 in
theorem walk_TermBlanks (t : Tm) (v : Value) (w : World) (hv : TmIs w t v) (hsm : smT t = true) (hwf : wfT t = true) (hG : Glob w) :
    Calls Tryz.prog 7 #[v] w (TruePost w) := by
  obtain ⟨A4, c4, A5, c5, rfl, hR⟩ := hv
  have HT1 := Lib.hid (TmAt.new w t (.slice A4 t.nums.length c4) (.slice A5 t.args.length c5))
  have hB1 := below_alloc (Below.refl w.heap.size w) (.cells #[.int .i64 t.kd, .int .i64 t.it, .string t.tx, .int .u32 t.cr, .slice A4 t.nums.length c4, .slice A5 t.args.length c5] 27)
  have HP := Lib.hid fun W (hW : Below w.heap.size w W) => term_Print t A4 A5 c4 c5 W (hR.below hW) hsm hwf (hG.below hW)
  have HI := Lib.hid fun W (hW : Below w.heap.size w W) => TmIs.below (v := tmV t (.slice A4 t.nums.length c4) (.slice A5 t.args.length c5)) ⟨A4, c4, A5, c5, rfl, hR⟩ hW
  have HG := Lib.hid fun W (hW : Below w.heap.size w W) => hG.below hW
  have HWF := Lib.hid hwf
  clear hR hsm hG hwf
  unfold tmV at HP HI ⊢
  go_enter Tryz.func7, Tryz.ntmps7
  go_upto_region 1 with (fail)
  generalize w.alloc (.cells #[.int .i64 t.kd, .int .i64 t.it, .string t.tx, .int .u32 t.cr, .slice A4 t.nums.length c4, .slice A5 t.args.length c5] 27) = w1 at HT1 hB1 ⊢
  have HB1 := Lib.hid hB1
  clear hB1
  have a0 := HT1.out.c0
  have a1 := HT1.out.c1
  have a2 := HT1.out.c2
  have a3 := HT1.out.c3
  have a4 := HT1.out.c4
  have a5 := HT1.out.c5
  go_wp2_with fail
  refine (HP.out _ HB1.out).mono ?_
  rintro e w2 ⟨ve, rfl, hE, hB⟩
  have hE' := hE.shapeL
  have HT2 := Lib.hid (HT1.out.below hB HT1.out.lt)
  have HB2 := Lib.hid (trans_below HB1.out hB)
  clear hE hB HT1 HB1
  clear a0 a1 a2 a3 a4 a5
  cases hc : chk t with
  | cons x r =>
    have hpr : printT t = (⟨#[]⟩, x :: r) := by unfold printT; rw [if_neg (by rw [hc]; simp), hc]
    rw [hpr] at hE' ⊢
    obtain ⟨_, b, rfl⟩ := hE'.resolve_left (fun h => by cases h.1)
    clear hpr hE' hc
    go_wp2_with fail
    refine (awake_any _ (HG.out _ HB2.out)).mono ?_
    rintro e w3 ⟨rfl, hB⟩
    have HB3 := Lib.hid (trans_below HB2.out hB)
    clear hB
    go_wp2_with fail
    go_ret
    exact ⟨rfl, HB3.out⟩
  | nil =>
    have hpr : printT t = (strOfNums (txtT [] t), []) := by unfold printT; rw [if_pos hc]
    have hbs : bs (strOfNums (txtT [] t)) = txtT [] t := bs_strOf (txt_range [] (fun x hx => by cases hx) t)
    have hsz : (strOfNums (txtT [] t)).size ≤ 4194302 := by
      rw [strOf_size]
      exact chk_txt hc HWF.out
    have HSP := Lib.hid (sprd_term hc)
    rw [← hbs] at HSP
    have HCK := Lib.hid hc
    rw [hpr] at hE' ⊢
    obtain ⟨_, rfl⟩ := hE'.resolve_right (fun h => h.1 rfl)
    generalize strOfNums (txtT [] t) = s at hsz HSP ⊢
    clear hpr hE' hc hbs
    go_wp2_with fail
    refine (awake_any _ (HG.out _ HB2.out)).mono ?_
    rintro e w3 ⟨rfl, hB⟩
    have HT3 := Lib.hid (HT2.out.below hB HT2.out.lt)
    have HB3 := Lib.hid (trans_below HB2.out hB)
    clear hB HT2 HB2
    rename World => w2
    have HO := Lib.hid (own_lit w2 w2.heap.size 5 .u8 [32, 10] (Nat.le_refl _) (by decide))
    have HBB := Lib.hid (below_alloc (Below.refl w2.heap.size w2) (.cells #[.int .u8 32, .int .u8 10] 5))
    go_wp2_with fail
    go_loopg [5, 6, 7] s.size (fun gk v5 v6 v7 wl => ∃ (i : Nat) (q : Bool) (acc rest : List Int), v6 = .bool q ∧ v7 = .int .i64 (i : Int) ∧ gk = s.size - i ∧ i ≤ s.size ∧ acc.length ≤ 2 + 3 * i ∧ Hid (sprd q ((bs s).drop i) = some rest) ∧ Hid (acc ++ rest = [32, 10] ++ txtT gB t) ∧ Hid (wl.ownsRow w2.heap.size 5 1 v5 acc.length (nums .u8 acc)) ∧ Hid (Below w2.heap.size w2 wl))
    case atStart => exact ⟨0, false, [32, 10], txtT gB t, rfl, rfl, rfl, Nat.zero_le _, by decide, HSP, Lib.hid rfl, HO, HBB⟩
    case round =>
      clear HSP HO HBB
      obtain ⟨i, q, acc, rest, rfl, rfl, hgk, hi, hal, HS, HF, HO, HB⟩ := hrel
      have HK := Lib.hid hgk
      clear hgk
      have HLE : Hid (∀ n : Nat, n ≤ 4 → acc.length + n ≤ 140737488355328) := Lib.hid (by intro n hn; omega)
      have HLE2 : Hid (∀ n : Nat, n ≤ 4 → acc.length + 1 + n ≤ 140737488355328) := Lib.hid (by intro n hn; omega)
      by_cases hlt : i < s.size
      · have hb := btk s i
        have hr := bt_range s (i : Int)
        have hs := HS.out
        rw [bs_drop s i hlt] at hs
        have y0 : (0 : Int) ≤ (i : Int) := by omega
        have y1 : (i : Int) < (s.size : Int) := by omega
        have HL1 : ∀ c : Int, Hid (acc.length + [c].length ≤ 140737488355328) := fun c => Lib.hid (by simp only [List.length_cons, List.length_nil]; omega)
        have HL2 : ∀ c d : Int, Hid ((acc ++ [c]).length + [d].length ≤ 140737488355328) := fun c d => Lib.hid (by simp only [List.length_append, List.length_cons, List.length_nil]; omega)
        have HL3 : ∀ c : Int, Hid ((acc ++ [c]).length + [(9 : Int), 32].length ≤ 140737488355328) := fun c => Lib.hid (by simp only [List.length_append, List.length_cons, List.length_nil]; omega)
        by_cases c92 : bt s (i : Int) = 92
        · rw [c92] at hs hb
          obtain ⟨d, r, l', hdr, rfl, hn⟩ := sprd_step_slash hs
          have hi2 : i + 1 < s.size := by
            have := congrArg List.length hdr
            rw [List.length_drop, bs_len, List.length_cons] at this
            omega
          rw [bs_drop s (i + 1) hi2] at hdr
          obtain ⟨hd1, hd2⟩ := List.cons.inj hdr
          have hb2 := btk s (i + 1)
          have hr2 := bt_range s ((i + 1 : Nat) : Int)
          rw [hd1] at hb2 hr2
          have HN : Hid (sprd q ((bs s).drop (i + 1 + 1)) = some l') := Lib.hid (by rw [hd2]; exact hn)
          have HF2 : Hid ((acc ++ [92] ++ [d]) ++ l' = [32, 10] ++ txtT gB t) := Lib.hid (by rw [← HF.out]; simp)
          have y2 : (i : Int) + 1 < (s.size : Int) := by omega
          have HLa := HL1 92
          have HLb := HL2 92 d
          clear hs hdr hd1 hd2 hn c92 HS HF HL1 HL2 HL3
          go_upto_region 10 with (at_builtin; refine append_lit (w0 := w2) w2.heap.size rfl (.tmp 34) (.tmp 38) 49 5 rfl Tryz.underlying49 infoU8 u5 (acc) [92] rfl ?hx ?hO ?hB ?hbs ?hl ?_; (case hx => first | rfl | (simp [Act.eval]; done)); (case hO => exact HO.out); (case hB => exact HB.out); (case hbs => exact HB.out.size); (case hl => exact HLa.out); intro v6 w6 ho hb hg; have HO6 := Lib.hid ho; have HB6 := Lib.hid hb; clear ho hb hg)
          go_wp2_with (at_builtin; refine append_lit (w0 := w2) w2.heap.size rfl (.tmp 46) (.tmp 50) 49 5 rfl Tryz.underlying49 infoU8 v6 (acc ++ [92]) [d] rfl ?hx ?hO ?hB ?hbs ?hl ?_; (case hx => first | rfl | (simp [Act.eval]; done)); (case hO => exact HO6.out); (case hB => exact HB6.out); (case hbs => exact HB6.out.size); (case hl => exact HLb.out); intro v5 w5 ho hb hg; have HO5 := Lib.hid ho; have HB5 := Lib.hid hb; clear ho hb hg)
          go_roundg (s.size - (i + 1 + 1))
          case measure => rw [HK.out]; omega
          case rel => exact ⟨i + 1 + 1, q, acc ++ [92] ++ [d], l', rfl, by go_num, rfl, by omega, by simp only [List.length_append, List.length_cons, List.length_nil]; omega, HN, HF2, HO5, HB5⟩
        · by_cases c39 : bt s (i : Int) = 39
          · rw [c39] at hs hb
            obtain ⟨l', rfl, hn⟩ := sprd_step_quote hs
            have HN : Hid (sprd (!q) ((bs s).drop (i + 1)) = some l') := Lib.hid hn
            have HF2 : Hid ((acc ++ [39]) ++ l' = [32, 10] ++ txtT gB t) := Lib.hid (by rw [← HF.out]; simp)
            have HLa := HL1 39
            clear hs hn c92 c39 HS HF HL1 HL2 HL3
            cases q with
            | true =>
              go_wp2_with (at_builtin; refine append_lit (w0 := w2) w2.heap.size rfl (.tmp 34) (.tmp 38) 49 5 rfl Tryz.underlying49 infoU8 u5 (acc) [39] rfl ?hx ?hO ?hB ?hbs ?hl ?_; (case hx => first | rfl | (simp [Act.eval]; done)); (case hO => exact HO.out); (case hB => exact HB.out); (case hbs => exact HB.out.size); (case hl => exact HLa.out); intro v5 w5 ho hb hg; have HO5 := Lib.hid ho; have HB5 := Lib.hid hb; clear ho hb hg)
              go_roundg (s.size - (i + 1))
              case measure => rw [HK.out]; omega
              case rel => exact ⟨i + 1, false, acc ++ [39], l', rfl, by go_num, rfl, by omega, by simp only [List.length_append, List.length_cons, List.length_nil]; omega, HN, HF2, HO5, HB5⟩
            | false =>
              go_wp2_with (at_builtin; refine append_lit (w0 := w2) w2.heap.size rfl (.tmp 34) (.tmp 38) 49 5 rfl Tryz.underlying49 infoU8 u5 (acc) [39] rfl ?hx ?hO ?hB ?hbs ?hl ?_; (case hx => first | rfl | (simp [Act.eval]; done)); (case hO => exact HO.out); (case hB => exact HB.out); (case hbs => exact HB.out.size); (case hl => exact HLa.out); intro v5 w5 ho hb hg; have HO5 := Lib.hid ho; have HB5 := Lib.hid hb; clear ho hb hg)
              go_roundg (s.size - (i + 1))
              case measure => rw [HK.out]; omega
              case rel => exact ⟨i + 1, true, acc ++ [39], l', rfl, by go_num, rfl, by omega, by simp only [List.length_append, List.length_cons, List.length_nil]; omega, HN, HF2, HO5, HB5⟩
          · obtain ⟨l', hrest, hn⟩ := sprd_step_other c92 c39 hs
            have d92 : (bt s (i : Int) == 92) = false := beq_eq_false_iff_ne.2 c92
            have d39 : (bt s (i : Int) == 39) = false := beq_eq_false_iff_ne.2 c39
            generalize bt s (i : Int) = c at hb hr hrest d92 d39
            have HN : Hid (sprd q ((bs s).drop (i + 1)) = some l') := Lib.hid hn
            cases q with
            | true =>
              rw [show (!true && isOpen c) = false from rfl] at hrest
              have HF2 : Hid ((acc ++ [c]) ++ l' = [32, 10] ++ txtT gB t) := Lib.hid (by rw [← HF.out, hrest]; simp)
              have HLa := HL1 c
              clear hs hn c92 c39 HS HF HL1 HL2 HL3 hrest
              go_wp2_with (at_builtin; refine append_lit (w0 := w2) w2.heap.size rfl (.tmp 34) (.tmp 38) 49 5 rfl Tryz.underlying49 infoU8 u5 (acc) [c] rfl ?hx ?hO ?hB ?hbs ?hl ?_; (case hx => first | rfl | (simp [Act.eval]; done)); (case hO => exact HO.out); (case hB => exact HB.out); (case hbs => exact HB.out.size); (case hl => exact HLa.out); intro v5 w5 ho hb hg; have HO5 := Lib.hid ho; have HB5 := Lib.hid hb; clear ho hb hg)
              go_roundg (s.size - (i + 1))
              case measure => rw [HK.out]; omega
              case rel => exact ⟨i + 1, true, acc ++ [c], l', rfl, by go_num, rfl, by omega, by simp only [List.length_append, List.length_cons, List.length_nil]; omega, HN, HF2, HO5, HB5⟩
            | false =>
              cases ho : isOpen c with
              | false =>
                rw [show (!false && isOpen c) = false by rw [ho]; rfl] at hrest
                have HF2 : Hid ((acc ++ [c]) ++ l' = [32, 10] ++ txtT gB t) := Lib.hid (by rw [← HF.out, hrest]; simp)
                have HLa := HL1 c
                unfold isOpen at ho
                simp only [Bool.or_eq_false_iff] at ho
                obtain ⟨⟨⟨e44, e123⟩, e91⟩, e124⟩ := ho
                clear hs hn c92 c39 HS HF HL1 HL2 HL3 hrest
                go_wp2_with (at_builtin; refine append_lit (w0 := w2) w2.heap.size rfl (.tmp 34) (.tmp 38) 49 5 rfl Tryz.underlying49 infoU8 u5 (acc) [c] rfl ?hx ?hO ?hB ?hbs ?hl ?_; (case hx => first | rfl | (simp [Act.eval]; done)); (case hO => exact HO.out); (case hB => exact HB.out); (case hbs => exact HB.out.size); (case hl => exact HLa.out); intro v5 w5 ho hb hg; have HO5 := Lib.hid ho; have HB5 := Lib.hid hb; clear ho hb hg)
                go_roundg (s.size - (i + 1))
                case measure => rw [HK.out]; omega
                case rel => exact ⟨i + 1, false, acc ++ [c], l', rfl, by go_num, rfl, by omega, by simp only [List.length_append, List.length_cons, List.length_nil]; omega, HN, HF2, HO5, HB5⟩
              | true =>
                rw [show (!false && isOpen c) = true by rw [ho]; rfl] at hrest
                have HF2 : Hid ((acc ++ [c] ++ [9, 32]) ++ l' = [32, 10] ++ txtT gB t) := Lib.hid (by rw [← HF.out, hrest]; simp)
                have HLa := HL1 c
                have HLb := HL3 c
                unfold isOpen at ho
                simp only [Bool.or_eq_true, beq_iff_eq] at ho
                clear hs hn c92 c39 HS HF HL1 HL2 HL3 hrest
                rcases ho with ((rfl | rfl) | rfl) | rfl
                · go_upto_region 10 with (at_builtin; refine append_lit (w0 := w2) w2.heap.size rfl (.tmp 34) (.tmp 38) 49 5 rfl Tryz.underlying49 infoU8 u5 (acc) [44] rfl ?hx ?hO ?hB ?hbs ?hl ?_; (case hx => first | rfl | (simp [Act.eval]; done)); (case hO => exact HO.out); (case hB => exact HB.out); (case hbs => exact HB.out.size); (case hl => exact HLa.out); intro v6 w6 ho hb hg; have HO6 := Lib.hid ho; have HB6 := Lib.hid hb; clear ho hb hg)
                  go_wp2_with (at_builtin; refine append_lit (w0 := w2) w2.heap.size rfl (.tmp 84) (.tmp 85) 49 5 rfl Tryz.underlying49 infoU8 v6 (acc ++ [44]) [9, 32] rfl ?hx ?hO ?hB ?hbs ?hl ?_; (case hx => first | rfl | (simp [Act.eval]; done)); (case hO => exact HO6.out); (case hB => exact HB6.out); (case hbs => exact HB6.out.size); (case hl => exact HLb.out); intro v5 w5 ho hb hg; have HO5 := Lib.hid ho; have HB5 := Lib.hid hb; clear ho hb hg)
                  go_roundg (s.size - (i + 1))
                  case measure => rw [HK.out]; omega
                  case rel => exact ⟨i + 1, false, acc ++ [44] ++ [9, 32], l', rfl, by go_num, rfl, by omega, by simp only [List.length_append, List.length_cons, List.length_nil]; omega, HN, HF2, HO5, HB5⟩
                · go_upto_region 10 with (at_builtin; refine append_lit (w0 := w2) w2.heap.size rfl (.tmp 34) (.tmp 38) 49 5 rfl Tryz.underlying49 infoU8 u5 (acc) [123] rfl ?hx ?hO ?hB ?hbs ?hl ?_; (case hx => first | rfl | (simp [Act.eval]; done)); (case hO => exact HO.out); (case hB => exact HB.out); (case hbs => exact HB.out.size); (case hl => exact HLa.out); intro v6 w6 ho hb hg; have HO6 := Lib.hid ho; have HB6 := Lib.hid hb; clear ho hb hg)
                  go_wp2_with (at_builtin; refine append_lit (w0 := w2) w2.heap.size rfl (.tmp 84) (.tmp 85) 49 5 rfl Tryz.underlying49 infoU8 v6 (acc ++ [123]) [9, 32] rfl ?hx ?hO ?hB ?hbs ?hl ?_; (case hx => first | rfl | (simp [Act.eval]; done)); (case hO => exact HO6.out); (case hB => exact HB6.out); (case hbs => exact HB6.out.size); (case hl => exact HLb.out); intro v5 w5 ho hb hg; have HO5 := Lib.hid ho; have HB5 := Lib.hid hb; clear ho hb hg)
                  go_roundg (s.size - (i + 1))
                  case measure => rw [HK.out]; omega
                  case rel => exact ⟨i + 1, false, acc ++ [123] ++ [9, 32], l', rfl, by go_num, rfl, by omega, by simp only [List.length_append, List.length_cons, List.length_nil]; omega, HN, HF2, HO5, HB5⟩
                · go_upto_region 10 with (at_builtin; refine append_lit (w0 := w2) w2.heap.size rfl (.tmp 34) (.tmp 38) 49 5 rfl Tryz.underlying49 infoU8 u5 (acc) [91] rfl ?hx ?hO ?hB ?hbs ?hl ?_; (case hx => first | rfl | (simp [Act.eval]; done)); (case hO => exact HO.out); (case hB => exact HB.out); (case hbs => exact HB.out.size); (case hl => exact HLa.out); intro v6 w6 ho hb hg; have HO6 := Lib.hid ho; have HB6 := Lib.hid hb; clear ho hb hg)
                  go_wp2_with (at_builtin; refine append_lit (w0 := w2) w2.heap.size rfl (.tmp 84) (.tmp 85) 49 5 rfl Tryz.underlying49 infoU8 v6 (acc ++ [91]) [9, 32] rfl ?hx ?hO ?hB ?hbs ?hl ?_; (case hx => first | rfl | (simp [Act.eval]; done)); (case hO => exact HO6.out); (case hB => exact HB6.out); (case hbs => exact HB6.out.size); (case hl => exact HLb.out); intro v5 w5 ho hb hg; have HO5 := Lib.hid ho; have HB5 := Lib.hid hb; clear ho hb hg)
                  go_roundg (s.size - (i + 1))
                  case measure => rw [HK.out]; omega
                  case rel => exact ⟨i + 1, false, acc ++ [91] ++ [9, 32], l', rfl, by go_num, rfl, by omega, by simp only [List.length_append, List.length_cons, List.length_nil]; omega, HN, HF2, HO5, HB5⟩
                · go_upto_region 10 with (at_builtin; refine append_lit (w0 := w2) w2.heap.size rfl (.tmp 34) (.tmp 38) 49 5 rfl Tryz.underlying49 infoU8 u5 (acc) [124] rfl ?hx ?hO ?hB ?hbs ?hl ?_; (case hx => first | rfl | (simp [Act.eval]; done)); (case hO => exact HO.out); (case hB => exact HB.out); (case hbs => exact HB.out.size); (case hl => exact HLa.out); intro v6 w6 ho hb hg; have HO6 := Lib.hid ho; have HB6 := Lib.hid hb; clear ho hb hg)
                  go_wp2_with (at_builtin; refine append_lit (w0 := w2) w2.heap.size rfl (.tmp 84) (.tmp 85) 49 5 rfl Tryz.underlying49 infoU8 v6 (acc ++ [124]) [9, 32] rfl ?hx ?hO ?hB ?hbs ?hl ?_; (case hx => first | rfl | (simp [Act.eval]; done)); (case hO => exact HO6.out); (case hB => exact HB6.out); (case hbs => exact HB6.out.size); (case hl => exact HLb.out); intro v5 w5 ho hb hg; have HO5 := Lib.hid ho; have HB5 := Lib.hid hb; clear ho hb hg)
                  go_roundg (s.size - (i + 1))
                  case measure => rw [HK.out]; omega
                  case rel => exact ⟨i + 1, false, acc ++ [124] ++ [9, 32], l', rfl, by go_num, rfl, by omega, by simp only [List.length_append, List.length_cons, List.length_nil]; omega, HN, HF2, HO5, HB5⟩
      · obtain rfl : i = s.size := by omega
        have hs := HS.out
        rw [List.drop_of_length_le (by rw [bs_len]; exact Nat.le_refl _), sprd] at hs
        obtain rfl := Option.some.inj hs
        have HF2 := HF.out
        rw [List.append_nil] at HF2
        have HL1 : Hid (acc.length + [(13 : Int)].length ≤ 140737488355328) := Lib.hid (by simp only [List.length_cons, List.length_nil]; omega)
        have HFF := Lib.hid HF2
        have d0 : decide ((s.size : Int) < (s.size : Int)) = false := decide_eq_false (by omega)
        clear hs HS HF HF2
        go_upto_region 18 with (at_builtin; refine append_lit (w0 := w2) w2.heap.size rfl (.tmp 87) (.tmp 88) 49 5 rfl Tryz.underlying49 infoU8 u5 (acc) [13] rfl ?hx ?hO ?hB ?hbs ?hl ?_; (case hx => first | rfl | (simp [Act.eval]; done)); (case hO => exact HO.out); (case hB => exact HB.out); (case hbs => exact HB.out.size); (case hl => exact HL1.out); intro v6 w6 ho hb hg; have HO6 := Lib.hid ho; have HB6 := Lib.hid hb; clear ho hb hg)
        have HT6 := Lib.hid (HT3.out.below HB6.out HT3.out.lt)
        have HBW := Lib.hid (trans_below HB3.out HB6.out)
        have hL : acc ++ [13] = [32, 10] ++ (txtT gB t ++ [13]) := by rw [HFF.out, List.append_assoc]
        have hlen6 : (acc ++ [13]).length ≤ 3 + 3 * s.size := by simp only [List.length_append, List.length_cons, List.length_nil]; omega
        generalize acc ++ [13] = L at hL hlen6 HO6
        obtain ⟨A6, k6, rfl, _⟩ := own_reads HO6.out
        have HLL := Lib.hid hL
        clear hL HFF hal HO HB HL1 HT3 HB3
        by_cases hbig : (L.length : Int) > 4194304
        · have d1 : decide ((L.length : Int) > 4194304) = true := decide_eq_true hbig
          clear hbig
          go_wp2_with fail
          go_ret
          exact ⟨rfl, HBW.out⟩
        · have d1 : decide ((L.length : Int) > 4194304) = false := decide_eq_false hbig
          have hcv := own_string (P := Tryz.prog) (src := 49) (dst := 9) Tryz.underlying49 Tryz.underlying5 Tryz.underlying9 HO6.out
          have hrng : ∀ c ∈ L, 0 ≤ c ∧ c ≤ 255 := by
            intro c hc
            rw [HLL.out] at hc
            simp only [List.mem_append, List.mem_cons, List.not_mem_nil, or_false] at hc
            rcases hc with (rfl | rfl) | hc | rfl
            · decide
            · decide
            · exact txt_range gB (by unfold gB; decide) t c hc
            · decide
          have hrd : rdAll (strOfNums L) = (t, []) := by
            refine read_txt HCK.out HWF.out (g := gB) (B1 := [32, 10]) (B2 := [13]) (by unfold gB; decide) (by decide) (by decide) _ ?_ ?_
            · rw [bs_strOf hrng, HLL.out]
            · rw [strOf_size]; omega
          have HRD := Lib.hid (term_Read (strOfNums L) (by rw [strOf_size]; omega))
          rw [hrd] at HRD
          clear hbig hrng hrd HLL HO6
          generalize strOfNums L = sL at hcv HRD
          go_wp2_with fail
          refine (HRD.out _ (HG.out _ HBW.out)).mono ?_
          rintro e w7 ⟨v, ev, rfl, hM, hE, hB⟩
          obtain rfl : ev = .nilIface := hE
          obtain ⟨D4, d4, D5, d5, rfl, hT⟩ := hM.is
          have HT4 := Lib.hid (HT6.out.below hB HT6.out.lt)
          have HB4 := Lib.hid (trans_below HBW.out hB)
          have HTT := Lib.hid hT
          clear hB HT6 HBW hM hT hcv
          unfold tmV
          go_upto_region 21 with (fail)
          have hb := below_alloc (Below.refl w7.heap.size w7) (.cells #[.int .i64 t.kd, .int .i64 t.it, .string t.tx, .int .u32 t.cr, .slice D4 t.nums.length d4, .slice D5 t.args.length d5] 27)
          have hta := TmAt.new w7 t (.slice D4 t.nums.length d4) (.slice D5 t.args.length d5)
          generalize w7.alloc (.cells #[.int .i64 t.kd, .int .i64 t.it, .string t.tx, .int .u32 t.cr, .slice D4 t.nums.length d4, .slice D5 t.args.length d5] 27) = w8 at hb hta ⊢
          have HTA := Lib.hid hta
          have HT5 := Lib.hid (HT4.out.below hb HT4.out.lt)
          have HB5 := Lib.hid (trans_below HB4.out hb)
          have HS := Lib.hid (ref02_Same (HI.out w8 HB5.out) (TmIs.below ⟨D4, d4, D5, d5, rfl, HTT.out⟩ hb))
          rw [sameT_refl] at HS
          unfold tmV at HS
          clear hb hta HT4 HB4 HTT
          obtain ⟨s0, s1, s2, s3, s4, s5, _, _, _, _, _, _⟩ := HTA.out
          have a0 := HT5.out.c0
          have a1 := HT5.out.c1
          have a2 := HT5.out.c2
          have a3 := HT5.out.c3
          have a4 := HT5.out.c4
          have a5 := HT5.out.c5
          go_wp2_with fail
          refine HS.out.mono ?_
          rintro e w9 ⟨rfl, hB⟩
          have HB9 := Lib.hid (trans_below HB5.out hB)
          clear hB
          go_wp2_with fail
          go_ret
          exact ⟨rfl, HB9.out⟩
end Go.Proofs.YtgapeacflkfmdaaGreatDoor
set_option linter.unusedSimpArgs false
namespace Go.Proofs.YtgapeacflkfmdaaGreatDoor
open Go.RowKit Go.Sort Go.Proofs.YtgapeacflkfmdaaGreatDoorW.PrintWords Tb Go.Lib

set_option maxRecDepth 100000 in
set_option maxHeartbeats 4000000 in
theorem int_FormatUint (u : Nat) (hu64 : u < 18446744073709551616) (w : World) (hG : Glob w) :
    Calls Tryz.prog 165 #[.int .u64 (u : Int), .int .i64 10] w fun e w' => e = .returned (.string ⟨(Lib.decDigits u).toArray⟩) ∧ Below w.heap.size w w' := by
  have htab := hG.pw
  by_cases hs : u < 100
  · have hd : decide ((u : Int) < 100) = true := decide_eq_true (by omega)
    have hwr : IntKind.i64.wrap (u : Int) = (u : Int) := IntWalk.i64_in _ (by omega)
    have HS := Lib.hid (Tryz.internal_strconv_small u hs)
    clear hG htab hs
    go_enter Tryz.func165, Tryz.ntmps165
    go_wp2_with fail
    refine (HS.out _).mono ?_
    rintro e w' ⟨rfl, rfl⟩
    go_wp2_with fail
    go_ret
    exact ⟨rfl, Below.refl _ _⟩
  · have hd : decide ((u : Int) < 100) = false := decide_eq_false (by omega)
    have hu1 : 1 ≤ u := by omega
    have hnd20 : Lib.nDigits u ≤ 20 := by have := Lib.numDigits_eq u hu1 hu64; split at this <;> omega
    have hal : Tryz.prog.arrayLen 206 = 24 := by kernel_rfl
    have hnd24 : Lib.nDigits u ≤ 24 := by omega
    have hsl : ∀ W, (Instr.sliceAt 206 (.pointer (some ⟨w.heap.size, 0, none⟩)) none (some (.int .i64 (Lib.nDigits u : Int))) none).run Tryz.prog W = .ok (.slice (some ⟨w.heap.size, 0, none⟩) (Lib.nDigits u) 24) W := fun W => by
      rw [run_sliceAt_array_h W 206 ⟨w.heap.size, 0, none⟩ (by kernel_rfl) .i64 (Lib.nDigits u : Int) (by omega) (by rw [hal]; omega)]
      go_simp
    have hH0 := Lib.holds_zero0 w 206 (Lib.nDigits u) (by omega)
    have hfmt := Tryz.internal_strconv_formatBase10 w.heap.size 0 24 u (Array.replicate (Lib.nDigits u) 0) (w.alloc (.cells Lib.zeros24 206)) hH0 (by rw [Array.size_replicate]; exact Lib.lt_pow_nDigits u) hu64 (by rw [Array.size_replicate]; omega)
    rw [Array.size_replicate] at hfmt
    have HH0 := Lib.hid hH0
    have HF := Lib.hid hfmt
    have HD := Lib.hid fun W (hW : Below w.heap.size w W) => Tryz.internal_strconv_numDigits u hu1 hu64 W (hG.below hW).pw
    clear hH0 hal hfmt hG htab hs
    go_enter Tryz.func165, Tryz.ntmps165
    go_wp2_with fail
    refine (HD.out _ (below_alloc (Below.refl _ _) _)).mono ?_
    rintro e w' ⟨rfl, rfl⟩
    go_wp2_with fail
    refine HF.out.mono ?_
    rintro e w' ⟨rfl, k, v', dk, rfl, hF⟩
    have hcv : (convert 49 9 (.slice (some ⟨w.heap.size, 0, none⟩) (Lib.nDigits u) 24)).run Tryz.prog ((putRow (fun (b : UInt8) => Value.int .u8 (b.toNat : Int)) (w.alloc (.cells Lib.zeros24 206)) w.heap.size 0 dk).drewN k) = .ok (.string ⟨(Lib.decDigits u).toArray⟩) ((putRow (fun (b : UInt8) => Value.int .u8 (b.toNat : Int)) (w.alloc (.cells Lib.zeros24 206)) w.heap.size 0 dk).drewN k) := by
      have h := run_convert_bytes_back (P := Tryz.prog) ((putRow (fun (b : UInt8) => Value.int .u8 (b.toNat : Int)) (w.alloc (.cells Lib.zeros24 206)) w.heap.size 0 dk).drewN k) 49 9 5 ⟨w.heap.size, 0, none⟩ 24 (Lib.decDigits u) Tryz.underlying49 (by kernel_rfl) Tryz.underlying9 (fun j hj => by
        rw [Lib.row_is_numeral hF j hj, Lib.add_plain, World.cell?_drewN]
        exact cell?_putRow (fun (b : UInt8) => Value.int .u8 (b.toNat : Int)) _ w.heap.size 0 _ dk HH0.out (by rw [hF.size, Array.size_replicate]) j (by rw [hF.size]; rw [Lib.decDigits_length] at hj; exact hj))
      rw [Lib.decDigits_length] at h
      exact h
    go_wp2_with fail
    go_ret
    obtain ⟨os, eo⟩ := Lib.fin_at w (.cells Lib.zeros24 206) dk k 0
    refine ⟨rfl, ?_⟩
    rw [eo]
    exact Lib.below_grow _ w (Nat.le_refl _) k os
theorem fmt_uint (i : Int) (h0 : 0 ≤ i) (h1 : i ≤ 4294967295) (w : World) (hG : Glob w) :
    Calls Tryz.prog 111 #[.int .u64 i, .int .i64 10] w fun e w' => e = .returned (.string ⟨(Lib.itoa i).toArray⟩) ∧ Below w.heap.size w w' := by
  obtain ⟨u, rfl⟩ := Int.eq_ofNat_of_zero_le h0
  have HC := Lib.hid (int_FormatUint u (by omega) w hG)
  have HI := Lib.hid (Lib.itoa_nonneg u)
  clear hG h0 h1
  go_enter Tryz.func111, Tryz.ntmps111
  go_wp2_with fail
  refine HC.out.mono ?_
  rintro e w' ⟨rfl, hB⟩
  have HB := Lib.hid hB
  clear hB
  go_wp2_with fail
  go_ret
  exact ⟨by rw [HI.out]; rfl, HB.out⟩
theorem fmt_int (i : Int) (h0 : -9223372036854775808 ≤ i) (h1 : i ≤ 9223372036854775807) (w : World) (hG : Glob w) :
    Calls Tryz.prog 64 #[.int .i64 i, .int .i64 10] w fun e w' => e = .returned (.string ⟨(Lib.itoa i).toArray⟩) ∧ Below w.heap.size w w' := by
  refine (Tryz.strconv_FormatInt_10 i h0 h1 w hG.pw).mono ?_
  rintro e w' ⟨rfl, k, os, rfl⟩
  exact ⟨rfl, Lib.below_grow _ w (Nat.le_refl _) k os⟩
theorem bs_itoa (i : Int) : bs ⟨(Lib.itoa i).toArray⟩ = itoaI i := by
  unfold bs itoaI bytesOf
  simp [Lib.toList_data]
end Go.Proofs.YtgapeacflkfmdaaGreatDoor
set_option linter.unusedSimpArgs false
namespace Go.Proofs.YtgapeacflkfmdaaGreatDoor
open Go.RowKit Go.Sort Go.Proofs.YtgapeacflkfmdaaGreatDoorW.PrintWords Tb

theorem dot_itoa (x : Int) : bytesOf (⟨#[46]⟩ ++ ⟨(Lib.itoa x).toArray⟩) = 46 :: itoaI x := by
  have h := bs_itoa x
  unfold bs bytesOf at h
  unfold bytesOf
  rw [ByteArray.data_append]
  simpa using h
theorem dot_len {x : Int} (h0 : 0 ≤ x) (h1 : x ≤ 4294967295) : (itoaI x).length ≤ 21 ∧ (Lib.itoa x).length ≤ 21 ∧ (ByteArray.mk #[46] ++ ByteArray.mk (Lib.itoa x).toArray).size ≤ 22 := by
  have a1 := congrArg List.length (dot_itoa x)
  have a2 := nums_len [x] (fun n hn => by rw [List.mem_singleton] at hn; subst hn; exact ⟨h0, h1⟩)
  have a3 : (numsTxt [x]).length = (46 :: itoaI x).length := by simp [numsTxt]
  have a4 : (itoaI x).length = (Lib.itoa x).length := by unfold itoaI; rw [List.length_map]
  rw [bytesOf_length] at a1
  rw [a3] at a2
  simp only [List.length_cons, List.length_nil] at a2 a1
  omega
theorem own_one {w : World} {base g cap : Nat} {l : List Int} {x : Int} (h : w.ownsRow base tyU8 1 (.slice (some ⟨g, 0, none⟩) (l.length + 1) cap) (l.length + 1) (nums .u8 l ++ [.int .u8 x])) :
    w.ownsRow base tyU8 1 (.slice (some ⟨g, 0, none⟩) (l.length + 1) cap) (l ++ [x]).length (nums .u8 (l ++ [x])) := by
  rw [List.length_append, List.length_singleton, nums_append]
  exact h
set_option maxRecDepth 100000 in
set_option maxHeartbeats 8000000 in
theorem ref_text (w0 : World) (hG0 : Glob w0) (B : Nat) (hB0 : w0.heap.size ≤ B) (t : Tm) : ∀ (A4 A5 : Option Addr) (c4 c5 : Nat) (l : List Int) (v : Value) (w : World), TmR w0 t A4 c4 A5 c5 → Below w0.heap.size w0 w → w.ownsRow B tyU8 1 v l.length (nums .u8 l) → B ≤ w.heap.size →
    (∃ D n m, (measT t D n m).1 = []) → smT t = true → wfT t = true → l.length + (txtT [] t).length + 1300 ≤ 140737488355328 →
    Calls Tryz.prog 58 #[v, tmV t (.slice A4 t.nums.length c4) (.slice A5 t.args.length c5)] w (WrPost w B (l ++ txtT [] t)) := by
  induction t using Tm.ind with
  | h t ih =>
    intro A4 A5 c4 c5 l v w hR hB hO hBw hms hsm hwf hlen
    have HMS := Lib.hid hms
    obtain ⟨D9, n9, m9, hms⟩ := hms
    have hok := meas_ok t D9 n9 m9 hms
    obtain ⟨_, hf, hml, _, _⟩ := meas_parts hms
    have hit : t.kd = 1 → small64 t.it := fun hk => by have := form_int hf hk; unfold small64; omega
    have HML : Hid (∀ a ∈ t.args, ∃ D n m, (measT a D n m).1 = []) := Lib.hid fun a ha => by obtain ⟨n', m', h⟩ := measL_mem hml a ha; exact ⟨_, n', m', h⟩
    clear hms hf hml
    have HIH := Lib.hid ih
    have HR := Lib.hid hR
    have HB := Lib.hid hB
    have HG0 := Lib.hid hG0
    have HSM := Lib.hid hsm
    have HWF := Lib.hid hwf
    have HOK := Lib.hid hok
    have hkd := shape_kd hok
    obtain ⟨R, hR0⟩ : ∃ R, R = txtT [] t := ⟨_, rfl⟩
    rw [← hR0] at hlen
    rw [← hR0]
    rw [txtT_eq] at hR0
    have HS1 := Lib.hid (WrS.start t (.slice A4 t.nums.length c4) (.slice A5 t.args.length c5) hO hBw)
    have HGB : Hid (GlobB w B) := Lib.hid (GlobB.up hG0 hB hB0)
    clear ih hR hB hO hG0 hsm hwf hok
    unfold tmV
    go_enter Tryz.func58, Tryz.ntmps58
    go_upto_region 1 with (fail)
    obtain ⟨w1, hw1⟩ : ∃ W, W = w.alloc (.cells #[.int .i64 t.kd, .int .i64 t.it, .string t.tx, .int .u32 t.cr, .slice A4 t.nums.length c4, .slice A5 t.args.length c5] 27) := ⟨_, rfl⟩
    rw [← hw1] at HS1
    rw [← hw1]
    clear hw1
    have t0 := HS1.out.tm.c0
    have t1 := HS1.out.tm.c1
    have t2 := HS1.out.tm.c2
    have t3 := HS1.out.tm.c3
    have t4 := HS1.out.tm.c4
    have t5 := HS1.out.tm.c5
    rcases (show t.kd = 1 ∨ t.kd = 2 ∨ t.kd = 3 ∨ t.kd = 4 ∨ t.kd = 5 ∨ t.kd = 6 ∨ t.kd = 7 by omega) with hk | hk | hk | hk | hk | hk | hk
    · have d1 : (t.kd == 1) = true := beq_iff_eq.2 hk
      rw [if_pos hk] at hR0
      have HQ := Lib.hid hR0
      have hi := hit hk
      have HC := Lib.hid (fmt_int t.it hi.1 hi.2 w1 (HGB.out.trans HS1.out.below).now)
      have hil : (itoaI t.it).length ≤ 21 := itoaI_len hi.1 hi.2
      have HL : Hid (l.length + (ByteArray.mk (Lib.itoa t.it).toArray).size ≤ 140737488355328) := Lib.hid (by rw [← bs_len, bs_itoa]; omega)
      clear hR0 hit hk hkd hi hil
      go_wp2_with fail
      refine HC.out.mono ?_
      rintro e w2 ⟨rfl, h2⟩
      have HS2 := Lib.hid (HS1.out.step h2)
      clear h2 HC t0 t1 t2 t3 t4 t5
      have t0 := HS2.out.tm.c0
      have t1 := HS2.out.tm.c1
      have t2 := HS2.out.tm.c2
      have t3 := HS2.out.tm.c3
      have t4 := HS2.out.tm.c4
      have t5 := HS2.out.tm.c5
      go_wp2_with (at_builtin; refine print_append_str (w0 := w2) B rfl (.tmp 17) (.tmp 20) 49 9 5 rfl Tryz.underlying49 Tryz.underlying9 infoU8 v (l) ⟨(Lib.itoa t.it).toArray⟩ rfl rfl ?hO ?hB ?hbs ?hl ?_; (case hO => exact HS2.out.own); (case hB => exact Below.refl _ _); (case hbs => exact HS2.out.base); (case hl => exact HL.out); intro v1 w5 ho hb hg; have HS5 := Lib.hid (HS2.out.app ho hb hg); clear ho hb hg t0 t1 t2 t3 t4 t5; have t0 := HS5.out.tm.c0; have t1 := HS5.out.tm.c1; have t2 := HS5.out.tm.c2; have t3 := HS5.out.tm.c3; have t4 := HS5.out.tm.c4; have t5 := HS5.out.tm.c5)
      go_ret
      rw [HQ.out, ← bs_itoa]
      exact HS5.out.done
    · have d1 : (t.kd == 1) = false := beq_eq_false_iff_ne.2 (by omega)
      have d2 : (t.kd == 2) = true := beq_iff_eq.2 hk
      rw [if_neg (by omega), if_pos hk] at hR0
      have HQ := Lib.hid hR0
      have hql : (quoted t.tx).1.size ≤ 1022 := quoted_size _
      have HC := Lib.hid (ref01_Quote t.tx (sm_tx HSM.out) w1)
      have HL : Hid (l.length + (quoted t.tx).1.size ≤ 140737488355328) := Lib.hid (by omega)
      clear hR0 hit hk hkd hql
      go_wp2_with fail
      refine HC.out.mono ?_
      rintro e w2 ⟨ev, rfl, _, h2⟩
      have HS2 := Lib.hid (HS1.out.step h2)
      clear h2 HC t0 t1 t2 t3 t4 t5
      have t0 := HS2.out.tm.c0
      have t1 := HS2.out.tm.c1
      have t2 := HS2.out.tm.c2
      have t3 := HS2.out.tm.c3
      have t4 := HS2.out.tm.c4
      have t5 := HS2.out.tm.c5
      go_wp2_with (at_builtin; refine print_append_str (w0 := w2) B rfl (.tmp 30) (.tmp 31) 49 9 5 rfl Tryz.underlying49 Tryz.underlying9 infoU8 v (l) (quoted t.tx).1 rfl rfl ?hO ?hB ?hbs ?hl ?_; (case hO => exact HS2.out.own); (case hB => exact Below.refl _ _); (case hbs => exact HS2.out.base); (case hl => exact HL.out); intro v1 w5 ho hb hg; have HS5 := Lib.hid (HS2.out.app ho hb hg); clear ho hb hg t0 t1 t2 t3 t4 t5; have t0 := HS5.out.tm.c0; have t1 := HS5.out.tm.c1; have t2 := HS5.out.tm.c2; have t3 := HS5.out.tm.c3; have t4 := HS5.out.tm.c4; have t5 := HS5.out.tm.c5)
      go_ret
      rw [HQ.out]
      exact HS5.out.done
    · have d1 : (t.kd == 1) = false := beq_eq_false_iff_ne.2 (by omega)
      have d2 : (t.kd == 2) = false := beq_eq_false_iff_ne.2 (by omega)
      have d3 : (t.kd == 3) = true := beq_iff_eq.2 hk
      rw [if_neg (by omega), if_neg (by omega), if_pos hk] at hR0
      have HQ := Lib.hid hR0
      have HN : Hid (t.nums.length ≤ 3) := Lib.hid (by have := shape_ref HOK.out hk; omega)
      have HL : Hid (l.length + (ByteArray.mk #[35, 82, 101, 102]).size ≤ 140737488355328) := Lib.hid (by have : (ByteArray.mk #[35, 82, 101, 102]).size = 4 := rfl; omega)
      clear hR0 hit hk hkd
      go_upto_region 11 with (at_builtin; refine print_append_str (w0 := w1) B rfl (.tmp 39) _ 49 9 5 rfl Tryz.underlying49 Tryz.underlying9 infoU8 v l ⟨#[35, 82, 101, 102]⟩ rfl rfl ?hO ?hB ?hbs ?hl ?_; (case hO => exact HS1.out.own); (case hB => exact Below.refl _ _); (case hbs => exact HS1.out.base); (case hl => exact HL.out); intro v3 w3 ho hb hg; have HS3 : Hid (WrS w w3 B t (.slice A4 t.nums.length c4) (.slice A5 t.args.length c5) (l ++ [35, 82, 101, 102]) v3) := Lib.hid (HS1.out.app ho hb hg); clear ho hb hg t0 t1 t2 t3 t4 t5; have t0 := HS3.out.tm.c0; have t1 := HS3.out.tm.c1; have t2 := HS3.out.tm.c2; have t3 := HS3.out.tm.c3; have t4 := HS3.out.tm.c4; have t5 := HS3.out.tm.c5)
      have hql : (quoted t.tx).1.size ≤ 1022 := quoted_size _
      have HC := Lib.hid (ref01_Quote t.tx (sm_tx HSM.out) w3)
      have HU := Lib.hid (wf_nums HWF.out)
      have HL1 : Hid (((l ++ [35, 82, 101, 102])).length + [(60 : Int)].length ≤ 140737488355328) := Lib.hid (by simp only [List.length_append, List.length_cons, List.length_nil]; omega)
      have HL2 : Hid (((l ++ [35, 82, 101, 102]) ++ [60]).length + (quoted t.tx).1.size ≤ 140737488355328) := Lib.hid (by simp only [List.length_append, List.length_cons, List.length_nil]; omega)
      go_wp2_with fail
      refine HC.out.mono ?_
      rintro e w2 ⟨ev, rfl, _, h2⟩
      have HS2 := Lib.hid (HS3.out.step h2)
      clear h2 HC t0 t1 t2 t3 t4 t5
      have t0 := HS2.out.tm.c0
      have t1 := HS2.out.tm.c1
      have t2 := HS2.out.tm.c2
      have t3 := HS2.out.tm.c3
      have t4 := HS2.out.tm.c4
      have t5 := HS2.out.tm.c5
      have xc := HU.out t.cr (by simp)
      have xc0 := xc.1
      have xc1 := xc.2
      clear xc
      go_wp2_with (at_builtin; first | (refine append_lit (w0 := w2) B rfl (.tmp 47) (.tmp 48) 49 5 rfl Tryz.underlying49 infoU8 v3 ((l ++ [35, 82, 101, 102])) [60] rfl ?hx ?hO ?hB ?hbs ?hl ?_; (case hx => first | rfl | (simp [Act.eval]; done)); (case hO => exact HS2.out.own); (case hB => exact Below.refl _ _); (case hbs => exact HS2.out.base); (case hl => exact HL1.out); intro v1 w5 ho hb hg; have HS5 := Lib.hid (HS2.out.app ho hb hg); clear ho hb hg t0 t1 t2 t3 t4 t5; have t0 := HS5.out.tm.c0; have t1 := HS5.out.tm.c1; have t2 := HS5.out.tm.c2; have t3 := HS5.out.tm.c3; have t4 := HS5.out.tm.c4; have t5 := HS5.out.tm.c5) | (refine print_append_str (w0 := w5) B rfl (.tmp 49) (.tmp 50) 49 9 5 rfl Tryz.underlying49 Tryz.underlying9 infoU8 v1 ((l ++ [35, 82, 101, 102]) ++ [60]) (quoted t.tx).1 rfl rfl ?hO ?hB ?hbs ?hl ?_; (case hO => exact HS5.out.own); (case hB => exact Below.refl _ _); (case hbs => exact HS5.out.base); (case hl => exact HL2.out); intro v6 w6 ho hb hg; have HS6 := Lib.hid (HS5.out.app ho hb hg); clear ho hb hg t0 t1 t2 t3 t4 t5; have t0 := HS6.out.tm.c0; have t1 := HS6.out.tm.c1; have t2 := HS6.out.tm.c2; have t3 := HS6.out.tm.c3; have t4 := HS6.out.tm.c4; have t5 := HS6.out.tm.c5))
      have hl6 : ((l ++ [35, 82, 101, 102]) ++ [60] ++ bytesOf (quoted t.tx).1).length + 170 ≤ 140737488355328 := by simp only [List.length_append, bytesOf_length, List.length_cons, List.length_nil]; omega
      generalize hq6 : (l ++ [35, 82, 101, 102]) ++ [60] ++ bytesOf (quoted t.tx).1 = l6 at HS6 hl6
      have HL6 := Lib.hid hq6
      clear hq6 HL1 HL2 hql
      have HC3 := Lib.hid (fmt_uint t.cr xc0 xc1 w6 (HGB.out.trans HS6.out.below).now)
      refine HC3.out.mono ?_
      rintro e w7 ⟨rfl, h7⟩
      have HS7 := Lib.hid (HS6.out.step h7)
      clear h7 HC3 t0 t1 t2 t3 t4 t5
      have t0 := HS7.out.tm.c0
      have t1 := HS7.out.tm.c1
      have t2 := HS7.out.tm.c2
      have t3 := HS7.out.tm.c3
      have t4 := HS7.out.tm.c4
      have t5 := HS7.out.tm.c5
      have hdl := dot_len xc0 xc1
      have HL7 : Hid (l6.length + (ByteArray.mk #[46] ++ ByteArray.mk (Lib.itoa t.cr).toArray).size ≤ 140737488355328) := Lib.hid (by have := hdl.2.2; omega)
      have hcat : ¬ 9223372036854775807 < 1 + (Lib.itoa t.cr).length := by have := hdl.2.1; omega
      clear hdl
      go_wp2_with (at_builtin; refine print_append_str (w0 := w7) B rfl (.tmp 52) (.tmp 57) 49 9 5 rfl Tryz.underlying49 Tryz.underlying9 infoU8 v6 (l6) (ByteArray.mk #[46] ++ ByteArray.mk (Lib.itoa t.cr).toArray) rfl rfl ?hO ?hB ?hbs ?hl ?_; (case hO => exact HS7.out.own); (case hB => exact Below.refl _ _); (case hbs => exact HS7.out.base); (case hl => exact HL7.out); intro v1 w5 ho hb hg; have HS5 := Lib.hid (HS7.out.app ho hb hg); clear ho hb hg t0 t1 t2 t3 t4 t5; have t0 := HS5.out.tm.c0; have t1 := HS5.out.tm.c1; have t2 := HS5.out.tm.c2; have t3 := HS5.out.tm.c3; have t4 := HS5.out.tm.c4; have t5 := HS5.out.tm.c5)
      rw [dot_itoa] at HS5
      have hl8 : (l6 ++ 46 :: itoaI t.cr).length + 100 ≤ 140737488355328 := by
        have := (dot_len xc0 xc1).1
        simp only [List.length_append, List.length_cons]
        omega
      generalize hq8 : l6 ++ 46 :: itoaI t.cr = l8 at HS5 hl8
      have HL8 := Lib.hid hq8
      clear hq8 HS7 HS6 HS2 HL7 hcat xc0 xc1 hl6 t0 t1 t2 t3 t4 t5
      go_loopg [0, 9] (t.nums.length) (fun gk v0 vi wl => ∃ i : Nat, vi = .int .i64 (i : Int) ∧ gk = t.nums.length - i ∧ i ≤ t.nums.length ∧ Hid (WrS w wl B t (.slice A4 t.nums.length c4) (.slice A5 t.args.length c5) (l8 ++ numsTxt (t.nums.take i)) v0))
      case atStart => exact ⟨0, rfl, rfl, Nat.zero_le _, by rw [show numsTxt (t.nums.take 0) = [] from rfl, List.append_nil]; exact HS5⟩
      case round =>
        clear HS5
        obtain ⟨i, rfl, hgk, hi, HSl⟩ := hrel
        have HK := Lib.hid hgk
        clear hgk
        have hli : (l8 ++ numsTxt (t.nums.take i)).length + 30 ≤ 140737488355328 := by
          have := numsTake_len t.nums (fun n hn => HU.out n (List.mem_cons_of_mem _ hn)) i
          have := HN.out
          rw [List.length_append]
          omega
        generalize hqi : l8 ++ numsTxt (t.nums.take i) = li at HSl hli
        have HLI := Lib.hid hqi
        clear hqi
        by_cases hlt : i < t.nums.length
        · have hra : ReadsInt wr .u32 A4 t.nums.length t.nums := Kd.reads_of_C (HR.out.below (HB.out.trans (HSl.out.below.mono hB0))).g4
          obtain ⟨ad, rfl, qa⟩ := hra.at_ (i : Int) (by omega) (by omega)
          simp only [Int.toNat_natCast] at qa
          rw [rd_get hlt] at qa
          have HSX := Lib.hid (numsTxt_snoc hlt)
          have hx := HU.out t.nums[i] (List.mem_cons_of_mem _ (List.getElem_mem hlt))
          generalize t.nums[i] = x at qa HSX hx
          have x0 := hx.1
          have x1 := hx.2
          have y0 : (0 : Int) ≤ (i : Int) := by omega
          have y1 : (i : Int) < (t.nums.length : Int) := by omega
          have hn3 : t.nums.length ≤ 3 := HN.out
          have hdl := dot_len x0 x1
          have HLX : Hid (li.length + (ByteArray.mk #[46] ++ ByteArray.mk (Lib.itoa x).toArray).size ≤ 140737488355328) := Lib.hid (by have := hdl.2.2; omega)
          have hcat : ¬ 9223372036854775807 < 1 + (Lib.itoa x).length := by have := hdl.2.1; omega
          have HC := Lib.hid (fmt_uint x x0 x1 wr (HGB.out.trans HSl.out.below).now)
          clear hdl hx hra hlt
          have t0 := HSl.out.tm.c0
          have t1 := HSl.out.tm.c1
          have t2 := HSl.out.tm.c2
          have t3 := HSl.out.tm.c3
          have t4 := HSl.out.tm.c4
          have t5 := HSl.out.tm.c5
          go_wp2_with fail
          refine HC.out.mono ?_
          rintro e w9 ⟨rfl, h9⟩
          have HS9 := Lib.hid (HSl.out.step h9)
          clear h9 HC t0 t1 t2 t3 t4 t5 qa HSl
          have t0 := HS9.out.tm.c0
          have t1 := HS9.out.tm.c1
          have t2 := HS9.out.tm.c2
          have t3 := HS9.out.tm.c3
          have t4 := HS9.out.tm.c4
          have t5 := HS9.out.tm.c5
          go_wp2_with (at_builtin; refine print_append_str (w0 := w9) B rfl (.tmp 66) (.tmp 74) 49 9 5 rfl Tryz.underlying49 Tryz.underlying9 infoU8 u0 (li) (ByteArray.mk #[46] ++ ByteArray.mk (Lib.itoa x).toArray) rfl rfl ?hO ?hB ?hbs ?hl ?_; (case hO => exact HS9.out.own); (case hB => exact Below.refl _ _); (case hbs => exact HS9.out.base); (case hl => exact HLX.out); intro v1 w5 ho hb hg; have HS5 := Lib.hid (HS9.out.app ho hb hg); clear ho hb hg t0 t1 t2 t3 t4 t5; have t0 := HS5.out.tm.c0; have t1 := HS5.out.tm.c1; have t2 := HS5.out.tm.c2; have t3 := HS5.out.tm.c3; have t4 := HS5.out.tm.c4; have t5 := HS5.out.tm.c5)
          rw [dot_itoa] at HS5
          go_roundg (t.nums.length - (i + 1))
          case measure => rw [HK.out]; omega
          case rel => exact ⟨i + 1, by go_num, rfl, by omega, by rw [HSX.out, ← List.append_assoc, HLI.out]; exact HS5⟩
        · have hie : t.nums.take i = t.nums := List.take_of_length_le (by omega)
          rw [hie] at HLI
          have d0 : decide ((i : Int) < (t.nums.length : Int)) = false := decide_eq_false (by omega)
          have HL1 : Hid (li.length + [(62 : Int)].length ≤ 140737488355328) := Lib.hid (by simp only [List.length_cons, List.length_nil]; omega)
          clear hie
          have t0 := HSl.out.tm.c0
          have t1 := HSl.out.tm.c1
          have t2 := HSl.out.tm.c2
          have t3 := HSl.out.tm.c3
          have t4 := HSl.out.tm.c4
          have t5 := HSl.out.tm.c5
          go_wp2_with (at_builtin; refine append_lit (w0 := wr) B rfl (.tmp 76) (.tmp 77) 49 5 rfl Tryz.underlying49 infoU8 u0 (li) [62] rfl ?hx ?hO ?hB ?hbs ?hl ?_; (case hx => first | rfl | (simp [Act.eval]; done)); (case hO => exact HSl.out.own); (case hB => exact Below.refl _ _); (case hbs => exact HSl.out.base); (case hl => exact HL1.out); intro v1 w5 ho hb hg; have HS5 := Lib.hid (HSl.out.app ho hb hg); have HK5 := Lib.hid ((Lib.OthersKept.refl tyU8 none wr).grown hg (own_kind HSl.out.own)); clear ho hb hg t0 t1 t2 t3 t4 t5; have t0 := HS5.out.tm.c0; have t1 := HS5.out.tm.c1; have t2 := HS5.out.tm.c2; have t3 := HS5.out.tm.c3; have t4 := HS5.out.tm.c4; have t5 := HS5.out.tm.c5)
          go_ret
          have he : (l ++ [35, 82, 101, 102]) ++ farTxt t.tx (t.cr :: t.nums) = li ++ [62] := by
            rw [← HLI.out, ← HL8.out, ← HL6.out]
            unfold farTxt numsTxt
            show _ = (l ++ [35, 82, 101, 102]) ++ [60] ++ bs (quoted t.tx).1 ++ _ ++ _ ++ _
            simp
          have hl0 : l ++ R = (l ++ [35, 82, 101, 102]) ++ farTxt t.tx (t.cr :: t.nums) := by simp only [HQ.out, List.append_assoc, List.cons_append, List.nil_append]
          rw [hl0, he]
          exact HS5.out.done
    · have d1 : (t.kd == 1) = false := beq_eq_false_iff_ne.2 (by omega)
      have d2 : (t.kd == 2) = false := beq_eq_false_iff_ne.2 (by omega)
      have d3 : (t.kd == 3) = false := beq_eq_false_iff_ne.2 (by omega)
      have d4 : (t.kd == 4) = true := beq_iff_eq.2 hk
      rw [if_neg (by omega), if_neg (by omega), if_neg (by omega), if_pos hk] at hR0
      have HQ := Lib.hid hR0
      have HN : Hid (t.nums.length ≤ 3) := Lib.hid (by have := shape_pid HOK.out hk; omega)
      clear hR0 hit hk hkd
      have hql : (quoted t.tx).1.size ≤ 1022 := quoted_size _
      have HC := Lib.hid (ref01_Quote t.tx (sm_tx HSM.out) w1)
      have HU := Lib.hid (wf_nums HWF.out)
      have HL1 : Hid ((l).length + [(60 : Int)].length ≤ 140737488355328) := Lib.hid (by simp only [List.length_append, List.length_cons, List.length_nil]; omega)
      have HL2 : Hid ((l ++ [60]).length + (quoted t.tx).1.size ≤ 140737488355328) := Lib.hid (by simp only [List.length_append, List.length_cons, List.length_nil]; omega)
      go_wp2_with fail
      refine HC.out.mono ?_
      rintro e w2 ⟨ev, rfl, _, h2⟩
      have HS2 := Lib.hid (HS1.out.step h2)
      clear h2 HC t0 t1 t2 t3 t4 t5
      have t0 := HS2.out.tm.c0
      have t1 := HS2.out.tm.c1
      have t2 := HS2.out.tm.c2
      have t3 := HS2.out.tm.c3
      have t4 := HS2.out.tm.c4
      have t5 := HS2.out.tm.c5
      have xc := HU.out t.cr (by simp)
      have xc0 := xc.1
      have xc1 := xc.2
      clear xc
      go_wp2_with (at_builtin; first | (refine append_lit (w0 := w2) B rfl (.tmp 47) (.tmp 48) 49 5 rfl Tryz.underlying49 infoU8 v (l) [60] rfl ?hx ?hO ?hB ?hbs ?hl ?_; (case hx => first | rfl | (simp [Act.eval]; done)); (case hO => exact HS2.out.own); (case hB => exact Below.refl _ _); (case hbs => exact HS2.out.base); (case hl => exact HL1.out); intro v1 w5 ho hb hg; have HS5 := Lib.hid (HS2.out.app ho hb hg); clear ho hb hg t0 t1 t2 t3 t4 t5; have t0 := HS5.out.tm.c0; have t1 := HS5.out.tm.c1; have t2 := HS5.out.tm.c2; have t3 := HS5.out.tm.c3; have t4 := HS5.out.tm.c4; have t5 := HS5.out.tm.c5) | (refine print_append_str (w0 := w5) B rfl (.tmp 49) (.tmp 50) 49 9 5 rfl Tryz.underlying49 Tryz.underlying9 infoU8 v1 (l ++ [60]) (quoted t.tx).1 rfl rfl ?hO ?hB ?hbs ?hl ?_; (case hO => exact HS5.out.own); (case hB => exact Below.refl _ _); (case hbs => exact HS5.out.base); (case hl => exact HL2.out); intro v6 w6 ho hb hg; have HS6 := Lib.hid (HS5.out.app ho hb hg); clear ho hb hg t0 t1 t2 t3 t4 t5; have t0 := HS6.out.tm.c0; have t1 := HS6.out.tm.c1; have t2 := HS6.out.tm.c2; have t3 := HS6.out.tm.c3; have t4 := HS6.out.tm.c4; have t5 := HS6.out.tm.c5))
      have hl6 : (l ++ [60] ++ bytesOf (quoted t.tx).1).length + 170 ≤ 140737488355328 := by simp only [List.length_append, bytesOf_length, List.length_cons, List.length_nil]; omega
      generalize hq6 : l ++ [60] ++ bytesOf (quoted t.tx).1 = l6 at HS6 hl6
      have HL6 := Lib.hid hq6
      clear hq6 HL1 HL2 hql
      have HC3 := Lib.hid (fmt_uint t.cr xc0 xc1 w6 (HGB.out.trans HS6.out.below).now)
      refine HC3.out.mono ?_
      rintro e w7 ⟨rfl, h7⟩
      have HS7 := Lib.hid (HS6.out.step h7)
      clear h7 HC3 t0 t1 t2 t3 t4 t5
      have t0 := HS7.out.tm.c0
      have t1 := HS7.out.tm.c1
      have t2 := HS7.out.tm.c2
      have t3 := HS7.out.tm.c3
      have t4 := HS7.out.tm.c4
      have t5 := HS7.out.tm.c5
      have hdl := dot_len xc0 xc1
      have HL7 : Hid (l6.length + (ByteArray.mk #[46] ++ ByteArray.mk (Lib.itoa t.cr).toArray).size ≤ 140737488355328) := Lib.hid (by have := hdl.2.2; omega)
      have hcat : ¬ 9223372036854775807 < 1 + (Lib.itoa t.cr).length := by have := hdl.2.1; omega
      clear hdl
      go_wp2_with (at_builtin; refine print_append_str (w0 := w7) B rfl (.tmp 52) (.tmp 57) 49 9 5 rfl Tryz.underlying49 Tryz.underlying9 infoU8 v6 (l6) (ByteArray.mk #[46] ++ ByteArray.mk (Lib.itoa t.cr).toArray) rfl rfl ?hO ?hB ?hbs ?hl ?_; (case hO => exact HS7.out.own); (case hB => exact Below.refl _ _); (case hbs => exact HS7.out.base); (case hl => exact HL7.out); intro v1 w5 ho hb hg; have HS5 := Lib.hid (HS7.out.app ho hb hg); clear ho hb hg t0 t1 t2 t3 t4 t5; have t0 := HS5.out.tm.c0; have t1 := HS5.out.tm.c1; have t2 := HS5.out.tm.c2; have t3 := HS5.out.tm.c3; have t4 := HS5.out.tm.c4; have t5 := HS5.out.tm.c5)
      rw [dot_itoa] at HS5
      have hl8 : (l6 ++ 46 :: itoaI t.cr).length + 100 ≤ 140737488355328 := by
        have := (dot_len xc0 xc1).1
        simp only [List.length_append, List.length_cons]
        omega
      generalize hq8 : l6 ++ 46 :: itoaI t.cr = l8 at HS5 hl8
      have HL8 := Lib.hid hq8
      clear hq8 HS7 HS6 HS2 HL7 hcat xc0 xc1 hl6 t0 t1 t2 t3 t4 t5
      go_loopg [0, 9] (t.nums.length) (fun gk v0 vi wl => ∃ i : Nat, vi = .int .i64 (i : Int) ∧ gk = t.nums.length - i ∧ i ≤ t.nums.length ∧ Hid (WrS w wl B t (.slice A4 t.nums.length c4) (.slice A5 t.args.length c5) (l8 ++ numsTxt (t.nums.take i)) v0))
      case atStart => exact ⟨0, rfl, rfl, Nat.zero_le _, by rw [show numsTxt (t.nums.take 0) = [] from rfl, List.append_nil]; exact HS5⟩
      case round =>
        clear HS5
        obtain ⟨i, rfl, hgk, hi, HSl⟩ := hrel
        have HK := Lib.hid hgk
        clear hgk
        have hli : (l8 ++ numsTxt (t.nums.take i)).length + 30 ≤ 140737488355328 := by
          have := numsTake_len t.nums (fun n hn => HU.out n (List.mem_cons_of_mem _ hn)) i
          have := HN.out
          rw [List.length_append]
          omega
        generalize hqi : l8 ++ numsTxt (t.nums.take i) = li at HSl hli
        have HLI := Lib.hid hqi
        clear hqi
        by_cases hlt : i < t.nums.length
        · have hra : ReadsInt wr .u32 A4 t.nums.length t.nums := Kd.reads_of_C (HR.out.below (HB.out.trans (HSl.out.below.mono hB0))).g4
          obtain ⟨ad, rfl, qa⟩ := hra.at_ (i : Int) (by omega) (by omega)
          simp only [Int.toNat_natCast] at qa
          rw [rd_get hlt] at qa
          have HSX := Lib.hid (numsTxt_snoc hlt)
          have hx := HU.out t.nums[i] (List.mem_cons_of_mem _ (List.getElem_mem hlt))
          generalize t.nums[i] = x at qa HSX hx
          have x0 := hx.1
          have x1 := hx.2
          have y0 : (0 : Int) ≤ (i : Int) := by omega
          have y1 : (i : Int) < (t.nums.length : Int) := by omega
          have hn3 : t.nums.length ≤ 3 := HN.out
          have hdl := dot_len x0 x1
          have HLX : Hid (li.length + (ByteArray.mk #[46] ++ ByteArray.mk (Lib.itoa x).toArray).size ≤ 140737488355328) := Lib.hid (by have := hdl.2.2; omega)
          have hcat : ¬ 9223372036854775807 < 1 + (Lib.itoa x).length := by have := hdl.2.1; omega
          have HC := Lib.hid (fmt_uint x x0 x1 wr (HGB.out.trans HSl.out.below).now)
          clear hdl hx hra hlt
          have t0 := HSl.out.tm.c0
          have t1 := HSl.out.tm.c1
          have t2 := HSl.out.tm.c2
          have t3 := HSl.out.tm.c3
          have t4 := HSl.out.tm.c4
          have t5 := HSl.out.tm.c5
          go_wp2_with fail
          refine HC.out.mono ?_
          rintro e w9 ⟨rfl, h9⟩
          have HS9 := Lib.hid (HSl.out.step h9)
          clear h9 HC t0 t1 t2 t3 t4 t5 qa HSl
          have t0 := HS9.out.tm.c0
          have t1 := HS9.out.tm.c1
          have t2 := HS9.out.tm.c2
          have t3 := HS9.out.tm.c3
          have t4 := HS9.out.tm.c4
          have t5 := HS9.out.tm.c5
          go_wp2_with (at_builtin; refine print_append_str (w0 := w9) B rfl (.tmp 66) (.tmp 74) 49 9 5 rfl Tryz.underlying49 Tryz.underlying9 infoU8 u0 (li) (ByteArray.mk #[46] ++ ByteArray.mk (Lib.itoa x).toArray) rfl rfl ?hO ?hB ?hbs ?hl ?_; (case hO => exact HS9.out.own); (case hB => exact Below.refl _ _); (case hbs => exact HS9.out.base); (case hl => exact HLX.out); intro v1 w5 ho hb hg; have HS5 := Lib.hid (HS9.out.app ho hb hg); clear ho hb hg t0 t1 t2 t3 t4 t5; have t0 := HS5.out.tm.c0; have t1 := HS5.out.tm.c1; have t2 := HS5.out.tm.c2; have t3 := HS5.out.tm.c3; have t4 := HS5.out.tm.c4; have t5 := HS5.out.tm.c5)
          rw [dot_itoa] at HS5
          go_roundg (t.nums.length - (i + 1))
          case measure => rw [HK.out]; omega
          case rel => exact ⟨i + 1, by go_num, rfl, by omega, by rw [HSX.out, ← List.append_assoc, HLI.out]; exact HS5⟩
        · have hie : t.nums.take i = t.nums := List.take_of_length_le (by omega)
          rw [hie] at HLI
          have d0 : decide ((i : Int) < (t.nums.length : Int)) = false := decide_eq_false (by omega)
          have HL1 : Hid (li.length + [(62 : Int)].length ≤ 140737488355328) := Lib.hid (by simp only [List.length_cons, List.length_nil]; omega)
          clear hie
          have t0 := HSl.out.tm.c0
          have t1 := HSl.out.tm.c1
          have t2 := HSl.out.tm.c2
          have t3 := HSl.out.tm.c3
          have t4 := HSl.out.tm.c4
          have t5 := HSl.out.tm.c5
          go_wp2_with (at_builtin; refine append_lit (w0 := wr) B rfl (.tmp 76) (.tmp 77) 49 5 rfl Tryz.underlying49 infoU8 u0 (li) [62] rfl ?hx ?hO ?hB ?hbs ?hl ?_; (case hx => first | rfl | (simp [Act.eval]; done)); (case hO => exact HSl.out.own); (case hB => exact Below.refl _ _); (case hbs => exact HSl.out.base); (case hl => exact HL1.out); intro v1 w5 ho hb hg; have HS5 := Lib.hid (HSl.out.app ho hb hg); have HK5 := Lib.hid ((Lib.OthersKept.refl tyU8 none wr).grown hg (own_kind HSl.out.own)); clear ho hb hg t0 t1 t2 t3 t4 t5; have t0 := HS5.out.tm.c0; have t1 := HS5.out.tm.c1; have t2 := HS5.out.tm.c2; have t3 := HS5.out.tm.c3; have t4 := HS5.out.tm.c4; have t5 := HS5.out.tm.c5)
          go_ret
          have he : l ++ farTxt t.tx (t.cr :: t.nums) = li ++ [62] := by
            rw [← HLI.out, ← HL8.out, ← HL6.out]
            unfold farTxt numsTxt
            show _ = l ++ [60] ++ bs (quoted t.tx).1 ++ _ ++ _ ++ _
            simp
          have hl0 : l ++ R = l ++ farTxt t.tx (t.cr :: t.nums) := by simp only [HQ.out, List.append_assoc, List.cons_append, List.nil_append]
          rw [hl0, he]
          exact HS5.out.done
    · have d1 : (t.kd == 1) = false := beq_eq_false_iff_ne.2 (by omega)
      have d2 : (t.kd == 2) = false := beq_eq_false_iff_ne.2 (by omega)
      have d3 : (t.kd == 3) = false := beq_eq_false_iff_ne.2 (by omega)
      have d4 : (t.kd == 4) = false := beq_eq_false_iff_ne.2 (by omega)
      have d5 : (t.kd == 5) = true := beq_iff_eq.2 hk
      rw [if_neg (by omega), if_neg (by omega), if_neg (by omega), if_neg (by omega), if_pos hk] at hR0
      have HQ := Lib.hid hR0
      clear hR0 hit hk hkd
      have HL1 : Hid (l.length + [(123 : Int)].length ≤ 140737488355328) := Lib.hid (by simp only [List.length_cons, List.length_nil]; omega)
      go_wp2_with (at_builtin; refine append_lit (w0 := w1) B rfl (.tmp 81) (.tmp 82) 49 5 rfl Tryz.underlying49 infoU8 v (l) [123] rfl ?hx ?hO ?hB ?hbs ?hl ?_; (case hx => first | rfl | (simp [Act.eval]; done)); (case hO => exact HS1.out.own); (case hB => exact Below.refl _ _); (case hbs => exact HS1.out.base); (case hl => exact HL1.out); intro v1 w5 ho hb hg; have HS5 := Lib.hid (HS1.out.app ho hb hg); have HK5 := Lib.hid ((Lib.OthersKept.refl tyU8 none w1).grown hg (own_kind HS1.out.own)); clear ho hb hg t0 t1 t2 t3 t4 t5; have t0 := HS5.out.tm.c0; have t1 := HS5.out.tm.c1; have t2 := HS5.out.tm.c2; have t3 := HS5.out.tm.c3; have t4 := HS5.out.tm.c4; have t5 := HS5.out.tm.c5)
      have HNN : Hid (t.args.length = t.args.length) := Lib.hid rfl
      have HRL : Hid (l.length + 1 + (sepBy [44] ((t.args.take t.args.length).map (txtT []))).length + 1300 ≤ 140737488355328) := Lib.hid (by
        have := HQ.out
        rw [List.take_length]
        rw [this] at hlen
        simp only [List.nil_append, List.length_cons, List.length_append, List.length_nil] at hlen
        omega)
      clear HK5
      clear t0 t1 t2 t3 t4 t5
      have yN : t.args.length ≤ 9223372036854775807 := by have := HR.out.g5.2.1; have := HNN.out; omega
      go_loopg [0, 10] (t.args.length) (fun gk v0 vi wl => ∃ k : Nat, vi = .int .i64 (k : Int) ∧ gk = t.args.length - k ∧ k ≤ t.args.length ∧ Hid (WrS w wl B t (.slice A4 t.nums.length c4) (.slice A5 t.args.length c5) (wrCur l 123 t.args k) v0))
      case atStart => exact ⟨0, rfl, rfl, Nat.zero_le _, HS5⟩
      case round =>
        clear HS5
        obtain ⟨k, rfl, hgk, hk, HSl⟩ := hrel
        have HK := Lib.hid hgk
        clear hgk
        by_cases hlt : k < t.args.length
        · have HBWl : Hid (Below w0.heap.size w0 wr) := Lib.hid (HB.out.trans (HSl.out.below.mono hB0))
          obtain ⟨ad, A4', c4', A5', c5', hA, q0, q1, q2, q3, q4, q5, hTR⟩ := atTm HR.out.g5 (k : Int) (by omega) (by have := HNN.out; omega)
          cases hA
          simp only [Int.toNat_natCast] at q0 q1 q2 q3 q4 q5
          have hlt2 : k < t.args.length := by have := HNN.out; omega
          obtain ⟨hge, hmem⟩ := rdTm_mem hlt2
          have hnx := wrCur_succ (l := l) (o := 123) hlt2
          have hpl := wrPre_len (l := l) (o := 123) (ts := t.args) (n := t.args.length) hlt (by have := HNN.out; omega)
          rw [← hge] at hnx hpl
          generalize rdTm t.args (k : Int) = a at q0 q1 q2 q3 q4 q5 hTR hmem hnx hpl
          have HQC := Lib.hid (And.intro q0 (And.intro q1 (And.intro q2 (And.intro q3 (And.intro q4 q5)))))
          have HNX := Lib.hid hnx
          have HPL : Hid ((wrPre l 123 t.args k).length + (txtT [] a).length + 1300 ≤ 140737488355328) := Lib.hid (by have := HRL.out; omega)
          have HTR := Lib.hid hTR
          have HMEM := Lib.hid hmem
          have y0 : (0 : Int) ≤ (k : Int) := by omega
          have y1 : (k : Int) < (t.args.length : Int) := by omega
          clear hTR hmem hge hnx hpl hlt2 q0 q1 q2 q3 q4 q5
          have t0 := HSl.out.tm.c0
          have t1 := HSl.out.tm.c1
          have t2 := HSl.out.tm.c2
          have t3 := HSl.out.tm.c3
          have t4 := HSl.out.tm.c4
          have t5 := HSl.out.tm.c5
          by_cases h0 : k = 0
          · have d0 : decide ((k : Int) > 0) = false := decide_eq_false (by omega)
            have d9 : decide (0 < k) = false := decide_eq_false (by omega)
            have HPE : Hid (wrPre l 123 t.args k = wrCur l 123 t.args k) := Lib.hid (by rw [h0]; exact wrPre_zero _ _ _)
            have HPL2 := HPL
            rw [HPE.out] at HPL2
            have HNX2 := HNX
            rw [HPE.out] at HNX2
            clear h0
            have q0 := (HBWl.out.cell (World.block_lt_of_cell? w0 _ HQC.out.1)).trans HQC.out.1
            have q1 := (HBWl.out.cell (World.block_lt_of_cell? w0 _ HQC.out.2.1)).trans HQC.out.2.1
            have q2 := (HBWl.out.cell (World.block_lt_of_cell? w0 _ HQC.out.2.2.1)).trans HQC.out.2.2.1
            have q3 := (HBWl.out.cell (World.block_lt_of_cell? w0 _ HQC.out.2.2.2.1)).trans HQC.out.2.2.2.1
            have q4 := (HBWl.out.cell (World.block_lt_of_cell? w0 _ HQC.out.2.2.2.2.1)).trans HQC.out.2.2.2.2.1
            have q5 := (HBWl.out.cell (World.block_lt_of_cell? w0 _ HQC.out.2.2.2.2.2)).trans HQC.out.2.2.2.2.2
            go_wp2_with fail
            refine (HIH.out a HMEM.out A4' A5' c4' c5' (wrCur l 123 t.args k) u0 _ HTR.out HBWl.out HSl.out.own HSl.out.base (HML.out a HMEM.out) (smL_mem (sm_args HSM.out) HMEM.out) (wfL_mem (wf_args HWF.out) HMEM.out) HPL2.out).mono ?_
            rintro e w9 ⟨v9, rfl, h2, h3, h4⟩
            have HS9 := Lib.hid (HSl.out.call h2 h3 h4)
            rw [← HNX2.out] at HS9
            clear h2 h3 h4 q0 q1 q2 q3 q4 q5 t0 t1 t2 t3 t4 t5
            go_wp2_with fail
            go_roundg (t.args.length - (k + 1))
            case measure => rw [HK.out]; omega
            case rel => exact ⟨k + 1, by go_num, rfl, by omega, HS9⟩
          · have d0 : decide ((k : Int) > 0) = true := decide_eq_true (by omega)
            have d9 : decide (0 < k) = true := decide_eq_true (by omega)
            have hpe := wrPre_pos (l := l) (o := 123) (ts := t.args) (k := k) (by omega) (by have := HNN.out; omega)
            have HL1 : Hid ((wrCur l 123 t.args k).length + [(44 : Int)].length ≤ 140737488355328) := Lib.hid (by have := HPL.out; rw [hpe, List.length_append] at this; omega)
            have HPE := Lib.hid hpe
            clear hpe h0
            go_wp2_with (at_builtin; refine append_lit (w0 := wr) B rfl (.tmp 93) (.tmp 94) 49 5 rfl Tryz.underlying49 infoU8 u0 (wrCur l 123 t.args k) [44] rfl ?hx ?hO ?hB ?hbs ?hl ?_; (case hx => first | rfl | (simp [Act.eval]; done)); (case hO => exact HSl.out.own); (case hB => exact Below.refl _ _); (case hbs => exact HSl.out.base); (case hl => exact HL1.out); intro v1 w5 ho hb hg; have HS5 := Lib.hid (HSl.out.app ho hb hg); clear ho hb hg t0 t1 t2 t3 t4 t5; have t0 := HS5.out.tm.c0; have t5 := HS5.out.tm.c5; have HBW5 : Hid (Below w0.heap.size w0 w5) := Lib.hid (HB.out.trans (HS5.out.below.mono hB0)); have q0 := (HBW5.out.cell (World.block_lt_of_cell? w0 _ HQC.out.1)).trans HQC.out.1; have q1 := (HBW5.out.cell (World.block_lt_of_cell? w0 _ HQC.out.2.1)).trans HQC.out.2.1; have q2 := (HBW5.out.cell (World.block_lt_of_cell? w0 _ HQC.out.2.2.1)).trans HQC.out.2.2.1; have q3 := (HBW5.out.cell (World.block_lt_of_cell? w0 _ HQC.out.2.2.2.1)).trans HQC.out.2.2.2.1; have q4 := (HBW5.out.cell (World.block_lt_of_cell? w0 _ HQC.out.2.2.2.2.1)).trans HQC.out.2.2.2.2.1; have q5 := (HBW5.out.cell (World.block_lt_of_cell? w0 _ HQC.out.2.2.2.2.2)).trans HQC.out.2.2.2.2.2)
            rw [← HPE.out] at HS5
            refine (HIH.out a HMEM.out A4' A5' c4' c5' (wrPre l 123 t.args k) v1 _ HTR.out HBW5.out HS5.out.own HS5.out.base (HML.out a HMEM.out) (smL_mem (sm_args HSM.out) HMEM.out) (wfL_mem (wf_args HWF.out) HMEM.out) HPL.out).mono ?_
            rintro e w9 ⟨v9, rfl, h2, h3, h4⟩
            have HS9 := Lib.hid (HS5.out.call h2 h3 h4)
            rw [← HNX.out] at HS9
            clear h2 h3 h4 q0 q1 q2 q3 q4 q5 t0 t5 HS5
            go_wp2_with fail
            go_roundg (t.args.length - (k + 1))
            case measure => rw [HK.out]; omega
            case rel => exact ⟨k + 1, by go_num, rfl, by omega, HS9⟩
        · obtain rfl : t.args.length = k := by omega
          have d0 : decide ((t.args.length : Int) < (t.args.length : Int)) = false := decide_eq_false (by omega)
          have t0 := HSl.out.tm.c0
          have t1 := HSl.out.tm.c1
          have t2 := HSl.out.tm.c2
          have t3 := HSl.out.tm.c3
          have t4 := HSl.out.tm.c4
          have t5 := HSl.out.tm.c5
          have HL1 : Hid ((wrCur l 123 t.args t.args.length).length + [(125 : Int)].length ≤ 140737488355328) := Lib.hid (by
            have := HRL.out
            unfold wrCur
            simp only [List.length_append, List.length_cons, List.length_nil]
            omega)
          go_wp2_with (at_builtin; refine append_lit (w0 := wr) B rfl (.tmp 103) (.tmp 104) 49 5 rfl Tryz.underlying49 infoU8 u0 (wrCur l 123 t.args t.args.length) [125] rfl ?hx ?hO ?hB ?hbs ?hl ?_; (case hx => first | rfl | (simp [Act.eval]; done)); (case hO => exact HSl.out.own); (case hB => exact Below.refl _ _); (case hbs => exact HSl.out.base); (case hl => exact HL1.out); intro v1 w5 ho hb hg; have HS5 := Lib.hid (HSl.out.app ho hb hg); have HK5 := Lib.hid ((Lib.OthersKept.refl tyU8 none wr).grown hg (own_kind HSl.out.own)); clear ho hb hg t0 t1 t2 t3 t4 t5; have t0 := HS5.out.tm.c0; have t1 := HS5.out.tm.c1; have t2 := HS5.out.tm.c2; have t3 := HS5.out.tm.c3; have t4 := HS5.out.tm.c4; have t5 := HS5.out.tm.c5)
          go_ret
          have he : l ++ R = wrCur l 123 t.args t.args.length ++ [125] := by
            rw [HQ.out]
            unfold wrCur
            rw [List.take_length]
            simp
          rw [he]
          exact HS5.out.done
    · have d1 : (t.kd == 1) = false := beq_eq_false_iff_ne.2 (by omega)
      have d2 : (t.kd == 2) = false := beq_eq_false_iff_ne.2 (by omega)
      have d3 : (t.kd == 3) = false := beq_eq_false_iff_ne.2 (by omega)
      have d4 : (t.kd == 4) = false := beq_eq_false_iff_ne.2 (by omega)
      have d5 : (t.kd == 5) = false := beq_eq_false_iff_ne.2 (by omega)
      have d7 : (t.kd == 7) = false := beq_eq_false_iff_ne.2 (by omega)
      rw [if_neg (by omega), if_neg (by omega), if_neg (by omega), if_neg (by omega), if_neg (by omega), if_pos hk] at hR0
      have HQ : Hid (R = bytesOf ⟨#[91, 93]⟩) := Lib.hid hR0
      have HL : Hid (l.length + 2 ≤ 140737488355328) := Lib.hid (by omega)
      clear hR0 hit hk hkd
      go_wp2_with (at_builtin; refine print_append_str (w0 := w1) B rfl (.tmp 151) _ 49 9 5 rfl Tryz.underlying49 Tryz.underlying9 infoU8 v l ⟨#[91, 93]⟩ rfl rfl ?hO ?hB ?hbs ?hl ?_; (case hO => exact HS1.out.own); (case hB => exact Below.refl _ _); (case hbs => exact HS1.out.base); (case hl => exact HL.out); intro v1 w5 ho hb hg; have HS5 := Lib.hid (HS1.out.app ho hb hg); clear ho hb hg)
      go_ret
      rw [HQ.out]
      exact HS5.out.done
    · have d1 : (t.kd == 1) = false := beq_eq_false_iff_ne.2 (by omega)
      have d2 : (t.kd == 2) = false := beq_eq_false_iff_ne.2 (by omega)
      have d3 : (t.kd == 3) = false := beq_eq_false_iff_ne.2 (by omega)
      have d4 : (t.kd == 4) = false := beq_eq_false_iff_ne.2 (by omega)
      have d5 : (t.kd == 5) = false := beq_eq_false_iff_ne.2 (by omega)
      have d7 : (t.kd == 7) = true := beq_iff_eq.2 hk
      rw [if_neg (by omega), if_neg (by omega), if_neg (by omega), if_neg (by omega), if_neg (by omega), if_neg (by omega)] at hR0
      have HQ := Lib.hid hR0
      have hs2 := (shape_list HOK.out hk).1
      clear hR0 hit hk hkd
      have hc5 := HR.out.l5
      obtain ⟨n, hn⟩ : ∃ n, t.args.length = n + 1 := ⟨t.args.length - 1, by omega⟩
      rw [hn] at hc5
      obtain ⟨ad5, rfl⟩ : ∃ ad, A5 = some ad := by obtain ⟨ad, e, _⟩ := HR.out.g5.2.2 (by omega); exact ⟨ad, e⟩
      simp only [hn] at HS1 t5 ⊢
      have HNN := Lib.hid hn
      have HS2 := Lib.hid hs2
      clear hn hs2
      have hae : t.args.map (txtT []) = (t.args.take n).map (txtT []) ++ [txtT [] (rdTm t.args (n : Int))] := by
        have h1 : n < t.args.length := by have := HNN.out; omega
        rw [(rdTm_mem h1).1]
        conv => lhs; rw [show t.args = t.args.take n ++ [t.args[n]] by
          have h2 := List.take_append_drop n t.args
          rw [List.drop_eq_getElem_cons h1, List.drop_eq_nil_of_le (by have := HNN.out; omega)] at h2
          exact h2.symm]
        rw [List.map_append]
        rfl
      have hlk : lastKd t = (rdTm t.args (n : Int)).kd := by
        unfold lastKd
        rw [HNN.out]
        congr 2
        omega
      have hR2 := HQ.out
      rw [hae, List.dropLast_concat, List.getLastD_concat, hlk] at hR2
      simp only [List.nil_append] at hR2
      obtain ⟨ad, A4', c4', A5', c5', hA, q0, q1, q2, q3, q4, q5, hTR⟩ := atTm HR.out.g5 (n : Int) (by omega) (by have := HNN.out; omega)
      cases hA
      simp only [Int.toNat_natCast] at q0 q1 q2 q3 q4 q5
      have hmem := (rdTm_mem (l := t.args) (k := n) (by have := HNN.out; omega)).2
      generalize rdTm t.args (n : Int) = z at q0 q1 q2 q3 q4 q5 hTR hmem hR2
      have HZ := Lib.hid (And.intro q0 (And.intro q1 (And.intro q2 (And.intro q3 (And.intro q4 q5)))))
      have HTZ := Lib.hid hTR
      have HMZ := Lib.hid hmem
      have HRL : Hid (l.length + 1 + (sepBy [44] ((t.args.take n).map (txtT []))).length + 1300 ≤ 140737488355328) := Lib.hid (by
        rw [hR2] at hlen
        simp only [List.length_cons, List.length_append, List.length_nil] at hlen
        omega)
      have HRZ : Hid (z.kd ≠ 6 → (wrCur l 91 t.args n ++ [124]).length + (txtT [] z).length + 1300 ≤ 140737488355328) := Lib.hid (fun hz => by
        rw [hR2, if_neg hz] at hlen
        unfold wrCur
        simp only [List.length_cons, List.length_append, List.length_nil] at hlen ⊢
        omega)
      have HR2 := Lib.hid hR2
      clear hae hlk hR2 hTR hmem q0 q1 q2 q3 q4 q5 HQ hlen
      have HL1 : Hid (l.length + [(91 : Int)].length ≤ 140737488355328) := Lib.hid (by have := HRL.out; simp only [List.length_cons, List.length_nil]; omega)
      have y0 : (0 : Int) ≤ (n : Int) := by omega
      have y1 : (n : Int) ≤ (c5 : Int) := by omega
      have y3 : (n : Int) ≤ 9223372036854775807 := by have := HR.out.g5.2.1; have := HNN.out; omega
      have y2 : wrap64 (n : Int) = (n : Int) := by unfold wrap64; omega
      go_wp2_with (at_builtin; refine append_lit (w0 := w1) B rfl (.tmp 108) (.tmp 109) 49 5 rfl Tryz.underlying49 infoU8 v (l) [91] rfl ?hx ?hO ?hB ?hbs ?hl ?_; (case hx => first | rfl | (simp [Act.eval]; done)); (case hO => exact HS1.out.own); (case hB => exact Below.refl _ _); (case hbs => exact HS1.out.base); (case hl => exact HL1.out); intro v1 w5 ho hb hg; have HS5 := Lib.hid (HS1.out.app ho hb hg); have HK5 := Lib.hid ((Lib.OthersKept.refl tyU8 none w1).grown hg (own_kind HS1.out.own)); clear ho hb hg t0 t1 t2 t3 t4 t5; have t0 := HS5.out.tm.c0; have t1 := HS5.out.tm.c1; have t2 := HS5.out.tm.c2; have t3 := HS5.out.tm.c3; have t4 := HS5.out.tm.c4; have t5 := HS5.out.tm.c5)
      clear HK5
      clear t0 t1 t2 t3 t4 t5
      have yN : n ≤ 9223372036854775807 := by have := HR.out.g5.2.1; have := HNN.out; omega
      go_loopg [0, 12] (n) (fun gk v0 vi wl => ∃ k : Nat, vi = .int .i64 (k : Int) ∧ gk = n - k ∧ k ≤ n ∧ Hid (WrS w wl B t (.slice A4 t.nums.length c4) (.slice (some ad5) (n + 1) c5) (wrCur l 91 t.args k) v0))
      case atStart => exact ⟨0, rfl, rfl, Nat.zero_le _, HS5⟩
      case round =>
        clear HS5
        obtain ⟨k, rfl, hgk, hk, HSl⟩ := hrel
        have HK := Lib.hid hgk
        clear hgk
        by_cases hlt : k < n
        · have HBWl : Hid (Below w0.heap.size w0 wr) := Lib.hid (HB.out.trans (HSl.out.below.mono hB0))
          obtain ⟨ad, A4', c4', A5', c5', hA, q0, q1, q2, q3, q4, q5, hTR⟩ := atTm HR.out.g5 (k : Int) (by omega) (by have := HNN.out; omega)
          cases hA
          simp only [Int.toNat_natCast] at q0 q1 q2 q3 q4 q5
          have hlt2 : k < t.args.length := by have := HNN.out; omega
          obtain ⟨hge, hmem⟩ := rdTm_mem hlt2
          have hnx := wrCur_succ (l := l) (o := 91) hlt2
          have hpl := wrPre_len (l := l) (o := 91) (ts := t.args) (n := n) hlt (by have := HNN.out; omega)
          rw [← hge] at hnx hpl
          generalize rdTm t.args (k : Int) = a at q0 q1 q2 q3 q4 q5 hTR hmem hnx hpl
          have HQC := Lib.hid (And.intro q0 (And.intro q1 (And.intro q2 (And.intro q3 (And.intro q4 q5)))))
          have HNX := Lib.hid hnx
          have HPL : Hid ((wrPre l 91 t.args k).length + (txtT [] a).length + 1300 ≤ 140737488355328) := Lib.hid (by have := HRL.out; omega)
          have HTR := Lib.hid hTR
          have HMEM := Lib.hid hmem
          have y0 : (0 : Int) ≤ (k : Int) := by omega
          have y1 : (k : Int) < (n : Int) := by omega
          clear hTR hmem hge hnx hpl hlt2 q0 q1 q2 q3 q4 q5
          have t0 := HSl.out.tm.c0
          have t1 := HSl.out.tm.c1
          have t2 := HSl.out.tm.c2
          have t3 := HSl.out.tm.c3
          have t4 := HSl.out.tm.c4
          have t5 := HSl.out.tm.c5
          by_cases h0 : k = 0
          · have d0 : decide ((k : Int) > 0) = false := decide_eq_false (by omega)
            have d9 : decide (0 < k) = false := decide_eq_false (by omega)
            have HPE : Hid (wrPre l 91 t.args k = wrCur l 91 t.args k) := Lib.hid (by rw [h0]; exact wrPre_zero _ _ _)
            have HPL2 := HPL
            rw [HPE.out] at HPL2
            have HNX2 := HNX
            rw [HPE.out] at HNX2
            clear h0
            have q0 := (HBWl.out.cell (World.block_lt_of_cell? w0 _ HQC.out.1)).trans HQC.out.1
            have q1 := (HBWl.out.cell (World.block_lt_of_cell? w0 _ HQC.out.2.1)).trans HQC.out.2.1
            have q2 := (HBWl.out.cell (World.block_lt_of_cell? w0 _ HQC.out.2.2.1)).trans HQC.out.2.2.1
            have q3 := (HBWl.out.cell (World.block_lt_of_cell? w0 _ HQC.out.2.2.2.1)).trans HQC.out.2.2.2.1
            have q4 := (HBWl.out.cell (World.block_lt_of_cell? w0 _ HQC.out.2.2.2.2.1)).trans HQC.out.2.2.2.2.1
            have q5 := (HBWl.out.cell (World.block_lt_of_cell? w0 _ HQC.out.2.2.2.2.2)).trans HQC.out.2.2.2.2.2
            go_wp2_with fail
            refine (HIH.out a HMEM.out A4' A5' c4' c5' (wrCur l 91 t.args k) u0 _ HTR.out HBWl.out HSl.out.own HSl.out.base (HML.out a HMEM.out) (smL_mem (sm_args HSM.out) HMEM.out) (wfL_mem (wf_args HWF.out) HMEM.out) HPL2.out).mono ?_
            rintro e w9 ⟨v9, rfl, h2, h3, h4⟩
            have HS9 := Lib.hid (HSl.out.call h2 h3 h4)
            rw [← HNX2.out] at HS9
            clear h2 h3 h4 q0 q1 q2 q3 q4 q5 t0 t1 t2 t3 t4 t5
            go_wp2_with fail
            go_roundg (n - (k + 1))
            case measure => rw [HK.out]; omega
            case rel => exact ⟨k + 1, by go_num, rfl, by omega, HS9⟩
          · have d0 : decide ((k : Int) > 0) = true := decide_eq_true (by omega)
            have d9 : decide (0 < k) = true := decide_eq_true (by omega)
            have hpe := wrPre_pos (l := l) (o := 91) (ts := t.args) (k := k) (by omega) (by have := HNN.out; omega)
            have HL1 : Hid ((wrCur l 91 t.args k).length + [(44 : Int)].length ≤ 140737488355328) := Lib.hid (by have := HPL.out; rw [hpe, List.length_append] at this; omega)
            have HPE := Lib.hid hpe
            clear hpe h0
            go_wp2_with (at_builtin; refine append_lit (w0 := wr) B rfl (.tmp 122) (.tmp 123) 49 5 rfl Tryz.underlying49 infoU8 u0 (wrCur l 91 t.args k) [44] rfl ?hx ?hO ?hB ?hbs ?hl ?_; (case hx => first | rfl | (simp [Act.eval]; done)); (case hO => exact HSl.out.own); (case hB => exact Below.refl _ _); (case hbs => exact HSl.out.base); (case hl => exact HL1.out); intro v1 w5 ho hb hg; have HS5 := Lib.hid (HSl.out.app ho hb hg); clear ho hb hg t0 t1 t2 t3 t4 t5; have t0 := HS5.out.tm.c0; have t5 := HS5.out.tm.c5; have HBW5 : Hid (Below w0.heap.size w0 w5) := Lib.hid (HB.out.trans (HS5.out.below.mono hB0)); have q0 := (HBW5.out.cell (World.block_lt_of_cell? w0 _ HQC.out.1)).trans HQC.out.1; have q1 := (HBW5.out.cell (World.block_lt_of_cell? w0 _ HQC.out.2.1)).trans HQC.out.2.1; have q2 := (HBW5.out.cell (World.block_lt_of_cell? w0 _ HQC.out.2.2.1)).trans HQC.out.2.2.1; have q3 := (HBW5.out.cell (World.block_lt_of_cell? w0 _ HQC.out.2.2.2.1)).trans HQC.out.2.2.2.1; have q4 := (HBW5.out.cell (World.block_lt_of_cell? w0 _ HQC.out.2.2.2.2.1)).trans HQC.out.2.2.2.2.1; have q5 := (HBW5.out.cell (World.block_lt_of_cell? w0 _ HQC.out.2.2.2.2.2)).trans HQC.out.2.2.2.2.2)
            rw [← HPE.out] at HS5
            refine (HIH.out a HMEM.out A4' A5' c4' c5' (wrPre l 91 t.args k) v1 _ HTR.out HBW5.out HS5.out.own HS5.out.base (HML.out a HMEM.out) (smL_mem (sm_args HSM.out) HMEM.out) (wfL_mem (wf_args HWF.out) HMEM.out) HPL.out).mono ?_
            rintro e w9 ⟨v9, rfl, h2, h3, h4⟩
            have HS9 := Lib.hid (HS5.out.call h2 h3 h4)
            rw [← HNX.out] at HS9
            clear h2 h3 h4 q0 q1 q2 q3 q4 q5 t0 t5 HS5
            go_wp2_with fail
            go_roundg (n - (k + 1))
            case measure => rw [HK.out]; omega
            case rel => exact ⟨k + 1, by go_num, rfl, by omega, HS9⟩
        · obtain rfl : n = k := by omega
          have d0 : decide ((n : Int) < (n : Int)) = false := decide_eq_false (by omega)
          have t0 := HSl.out.tm.c0
          have t1 := HSl.out.tm.c1
          have t2 := HSl.out.tm.c2
          have t3 := HSl.out.tm.c3
          have t4 := HSl.out.tm.c4
          have t5 := HSl.out.tm.c5
          have HBWl : Hid (Below w0.heap.size w0 wr) := Lib.hid (HB.out.trans (HSl.out.below.mono hB0))
          obtain ⟨z0, z1, z2, z3, z4, z5⟩ := HZ.out
          have q0 := (HBWl.out.cell (World.block_lt_of_cell? w0 _ z0)).trans z0
          have q1 := (HBWl.out.cell (World.block_lt_of_cell? w0 _ z1)).trans z1
          have q2 := (HBWl.out.cell (World.block_lt_of_cell? w0 _ z2)).trans z2
          have q3 := (HBWl.out.cell (World.block_lt_of_cell? w0 _ z3)).trans z3
          have q4 := (HBWl.out.cell (World.block_lt_of_cell? w0 _ z4)).trans z4
          have q5 := (HBWl.out.cell (World.block_lt_of_cell? w0 _ z5)).trans z5
          clear z0 z1 z2 z3 z4 z5
          have y0 : (0 : Int) ≤ (n : Int) := by omega
          have y4 : (n : Int) < (n : Int) + 1 := by omega
          have HCL : Hid ((wrCur l 91 t.args n).length + 1200 ≤ 140737488355328) := Lib.hid (by
            have := HRL.out
            unfold wrCur
            simp only [List.length_append, List.length_cons, List.length_nil]
            omega)
          by_cases hz : z.kd = 6
          · have dz : (z.kd != 6) = false := by rw [hz]; rfl
            have he : l ++ R = wrCur l 91 t.args n ++ [93] := by
              rw [HR2.out, if_pos hz]
              unfold wrCur
              simp
            have HE := Lib.hid he
            have HL1 : Hid ((wrCur l 91 t.args n).length + [(93 : Int)].length ≤ 140737488355328) := Lib.hid (by have := HCL.out; simp only [List.length_cons, List.length_nil]; omega)
            clear hz he
            go_wp2_with (at_builtin; refine append_lit (w0 := wr) B rfl (.tmp 148) (.tmp 149) 49 5 rfl Tryz.underlying49 infoU8 u0 (wrCur l 91 t.args n) [93] rfl ?hx ?hO ?hB ?hbs ?hl ?_; (case hx => first | rfl | (simp [Act.eval]; done)); (case hO => exact HSl.out.own); (case hB => exact Below.refl _ _); (case hbs => exact HSl.out.base); (case hl => exact HL1.out); intro v1 w5 ho hb hg; have HS5 := Lib.hid (HSl.out.app ho hb hg); have HK5 := Lib.hid ((Lib.OthersKept.refl tyU8 none wr).grown hg (own_kind HSl.out.own)); clear ho hb hg t0 t1 t2 t3 t4 t5; have t0 := HS5.out.tm.c0; have t1 := HS5.out.tm.c1; have t2 := HS5.out.tm.c2; have t3 := HS5.out.tm.c3; have t4 := HS5.out.tm.c4; have t5 := HS5.out.tm.c5)
            go_ret
            rw [HE.out]
            exact HS5.out.done
          · have dz : (z.kd != 6) = true := by rw [bne_iff_ne]; exact hz
            have he : l ++ R = (wrCur l 91 t.args n ++ [124] ++ txtT [] z) ++ [93] := by
              rw [HR2.out, if_neg hz]
              unfold wrCur
              simp
            have HE := Lib.hid he
            have HRZ2 := Lib.hid (HRZ.out hz)
            have HL1 : Hid ((wrCur l 91 t.args n).length + [(124 : Int)].length ≤ 140737488355328) := Lib.hid (by have := HCL.out; simp only [List.length_cons, List.length_nil]; omega)
            clear hz he
            have HIZ : Hid (∀ (v' : Value) (W : World), WrS w W B t (.slice A4 t.nums.length c4) (.slice (some ad5) (n + 1) c5) (wrCur l 91 t.args n ++ [124]) v' → Calls Tryz.prog 58 #[v', tmV z (.slice A4' z.nums.length c4') (.slice A5' z.args.length c5')] W (WrPost W B (wrCur l 91 t.args n ++ [124] ++ txtT [] z))) :=
              Lib.hid fun v' W h => HIH.out z HMZ.out A4' A5' c4' c5' _ v' W HTZ.out (HB.out.trans (h.below.mono hB0)) h.own h.base (HML.out z HMZ.out) (smL_mem (sm_args HSM.out) HMZ.out) (wfL_mem (wf_args HWF.out) HMZ.out) HRZ2.out
            unfold tmV at HIZ
            have HL9 : Hid ((wrCur l 91 t.args n ++ [124] ++ txtT [] z).length + [(93 : Int)].length ≤ 140737488355328) := Lib.hid (by have := HRZ2.out; simp only [List.length_append, List.length_cons, List.length_nil] at this ⊢; omega)
            obtain ⟨i0, hi0, hz0, hz1, hz2⟩ := info_parts infoU8
            obtain ⟨O, hOO⟩ : ∃ o : Obj, o = .cells #[.int .u8 124] 5 := ⟨_, rfl⟩
            have hbO : Below wr.heap.size wr (wr.alloc O).drew := (below_alloc (Below.refl _ _) O).drew
            have HSa : Hid (WrS w wr.drew B t (.slice A4 t.nums.length c4) (.slice (some ad5) (n + 1) c5) (wrCur l 91 t.args n) u0) := Lib.hid (HSl.out.step (Below.refl _ _).drew)
            have HSb : Hid (WrS w (wr.alloc O).drew B t (.slice A4 t.nums.length c4) (.slice (some ad5) (n + 1) c5) (wrCur l 91 t.args n) u0) := Lib.hid (HSl.out.step hbO)
            have HNW := Lib.hid (World.news_of_block (w := (wr.alloc O).drew) (B := wr.heap.size) (show (wr.alloc O).drew.heap[wr.heap.size]? = _ by rw [hOO]; exact heap_alloc_new wr _))
            have HZ9 : Hid ((wr.alloc O).drew.heap.size = wr.heap.size + 1) := Lib.hid (by show (wr.alloc O).heap.size = _; simp)
            have HON : Hid (∀ u ∈ [Value.int .u8 124], u.oneCell' = true) := Lib.hid (by intro u hu; rw [List.mem_singleton] at hu; subst hu; rfl)
            have HL63 : Hid ((wrCur l 91 t.args n).length + 1 ≤ maxLen) := Lib.hid (by unfold maxLen; have := HCL.out; omega)
            have HLBY : Hid (((wrCur l 91 t.args n).length + 1) * 1 ≤ 140737488355328) := Lib.hid (by have := HCL.out; omega)
            rw [hOO] at HSb HNW HZ9
            have HS : Hid (∀ W, (∃ l' v', WrS w W B t (.slice A4 t.nums.length c4) (.slice (some ad5) (n + 1) c5) l' v') → (W.cell? ⟨w.heap.size, 5, none⟩ = some (.slice (some ad5) (n + 1) c5) ∧ W.cell? (ad5.add (n * 6)) = some (.int .i64 z.kd) ∧ W.cell? ⟨(ad5.add (n * 6)).block, (ad5.add (n * 6)).off + 1, none⟩ = some (.int .i64 z.it) ∧ W.cell? ⟨(ad5.add (n * 6)).block, (ad5.add (n * 6)).off + 2, none⟩ = some (.string z.tx) ∧ W.cell? ⟨(ad5.add (n * 6)).block, (ad5.add (n * 6)).off + 3, none⟩ = some (.int .u32 z.cr) ∧ W.cell? ⟨(ad5.add (n * 6)).block, (ad5.add (n * 6)).off + 4, none⟩ = some (.slice A4' z.nums.length c4') ∧ W.cell? ⟨(ad5.add (n * 6)).block, (ad5.add (n * 6)).off + 5, none⟩ = some (.slice A5' z.args.length c5'))) :=
              Lib.hid fun W ⟨l', v', h⟩ => by
                have hb : Below w0.heap.size w0 W := HB.out.trans (h.below.mono hB0)
                obtain ⟨z0, z1, z2, z3, z4, z5⟩ := HZ.out
                exact ⟨h.tm.c5, (hb.cell (World.block_lt_of_cell? w0 _ z0)).trans z0, (hb.cell (World.block_lt_of_cell? w0 _ z1)).trans z1, (hb.cell (World.block_lt_of_cell? w0 _ z2)).trans z2, (hb.cell (World.block_lt_of_cell? w0 _ z3)).trans z3, (hb.cell (World.block_lt_of_cell? w0 _ z4)).trans z4, (hb.cell (World.block_lt_of_cell? w0 _ z5)).trans z5⟩
            clear hOO hbO
            go_upto_region 38 with (fail)
            go_region_held3 (fun W => W.cell? ⟨w.heap.size, 5, none⟩ = some (.slice (some ad5) (n + 1) c5) ∧ W.cell? (ad5.add (n * 6)) = some (.int .i64 z.kd) ∧ W.cell? ⟨(ad5.add (n * 6)).block, (ad5.add (n * 6)).off + 1, none⟩ = some (.int .i64 z.it) ∧ W.cell? ⟨(ad5.add (n * 6)).block, (ad5.add (n * 6)).off + 2, none⟩ = some (.string z.tx) ∧ W.cell? ⟨(ad5.add (n * 6)).block, (ad5.add (n * 6)).off + 3, none⟩ = some (.int .u32 z.cr) ∧ W.cell? ⟨(ad5.add (n * 6)).block, (ad5.add (n * 6)).off + 4, none⟩ = some (.slice A4' z.nums.length c4') ∧ W.cell? ⟨(ad5.add (n * 6)).block, (ad5.add (n * 6)).off + 5, none⟩ = some (.slice A5' z.args.length c5')) ((refine HS.out _ ?_; first | with_reducible exact ⟨_, _, HSl.out⟩ | with_reducible exact ⟨_, _, HSa.out⟩ | with_reducible exact ⟨_, _, HSb.out⟩ | with_reducible exact ⟨_, _, HS5.out⟩ | with_reducible exact ⟨_, _, HS9.out⟩))
              ((first
                | (go_simp; go_at_call 58; refine (HIZ.out _ _ HS5.out).mono ?_; rintro e w9 ⟨v9, rfl, h2, h3, h4⟩; have HS9 := Lib.hid (HS5.out.call h2 h3 h4); clear h2 h3 h4)
                | (refine step_append_lies _ (by rfl) (.tmp 139) (.tmp 140) 49 (by rfl) B 5 i0 (.int .u8 0) 1 1 Tryz.underlying49 hi0 hz0 hz1 hz2 rfl (by decide) u0 (wrCur l 91 t.args n).length (nums .u8 (wrCur l 91 t.args n)) (by rfl) HSb.out.own ⟨wr.heap.size, 0, none⟩ 1 1 [.int .u8 124] (by rfl) rfl HNW.out HON.out (by decide) HL63.out HLBY.out HSb.out.base (wr.heap.size + 1) HZ9.out ?_; intro g cap w5 hown hgrow _ _; have HS5 := Lib.hid (HSb.out.app (m := [124]) (own_one hown) ((Below.refl B _).grown hgrow HSb.out.base (own_base HSb.out.own)) hgrow); clear hown hgrow)))
            clear t0 t1 t2 t3 t4 t5 q0 q1 q2 q3 q4 q5
            have t0 := HS9.out.tm.c0
            have t1 := HS9.out.tm.c1
            have t2 := HS9.out.tm.c2
            have t3 := HS9.out.tm.c3
            have t4 := HS9.out.tm.c4
            have t5 := HS9.out.tm.c5
            go_wp2_with (at_builtin; refine append_lit (w0 := w9) B rfl (.tmp 148) (.tmp 149) 49 5 rfl Tryz.underlying49 infoU8 v9 (wrCur l 91 t.args n ++ [124] ++ txtT [] z) [93] rfl ?hx ?hO ?hB ?hbs ?hl ?_; (case hx => first | rfl | (simp [Act.eval]; done)); (case hO => exact HS9.out.own); (case hB => exact Below.refl _ _); (case hbs => exact HS9.out.base); (case hl => exact HL9.out); intro v1 w5 ho hb hg; have HS5 := Lib.hid (HS9.out.app ho hb hg); have HK5 := Lib.hid ((Lib.OthersKept.refl tyU8 none w9).grown hg (own_kind HS9.out.own)); clear ho hb hg t0 t1 t2 t3 t4 t5; have t0 := HS5.out.tm.c0; have t1 := HS5.out.tm.c1; have t2 := HS5.out.tm.c2; have t3 := HS5.out.tm.c3; have t4 := HS5.out.tm.c4; have t5 := HS5.out.tm.c5)
            go_ret
            rw [HE.out]
            exact HS5.out.done
end Go.Proofs.YtgapeacflkfmdaaGreatDoor
set_option linter.unusedSimpArgs false
namespace Go.Proofs.YtgapeacflkfmdaaGreatDoor
open Go.RowKit Go.Sort Go.Proofs.YtgapeacflkfmdaaGreatDoorW.PrintWords Tb

set_option maxRecDepth 100000 in
set_option maxHeartbeats 2000000 in
theorem ref_Print (t : Tm) (A4 A5 : Option Addr) (c4 c5 : Nat) (w : World) (hR : TmR w t A4 c4 A5 c5) (hsm : smT t = true) (hwf : wfT t = true) (hG : Glob w) :
    Calls Tryz.prog 29 #[tmV t (.slice A4 t.nums.length c4) (.slice A5 t.args.length c5)] w (StrR w (printT t)) := by
  have HT1 := Lib.hid (TmAt.new w t (.slice A4 t.nums.length c4) (.slice A5 t.args.length c5))
  have hB1 := below_alloc (Below.refl w.heap.size w) (.cells #[.int .i64 t.kd, .int .i64 t.it, .string t.tx, .int .u32 t.cr, .slice A4 t.nums.length c4, .slice A5 t.args.length c5] 27)
  obtain ⟨R, hr⟩ : ∃ R, R = printT t := ⟨_, rfl⟩
  rw [← hr]
  have HQ := Lib.hid hr
  clear hr
  have hne := fun (w : World) (a : Option Addr) (n c : Nat) => run_neq_slice_nil_any (P := Tryz.prog) w 32 83 a n c 0 0 Tryz.underlying32
  unfold tmV
  go_enter Tryz.func29, Tryz.ntmps29
  go_upto_region 1 with (fail)
  obtain ⟨w1, hw1⟩ : ∃ W, W = w.alloc (.cells #[.int .i64 t.kd, .int .i64 t.it, .string t.tx, .int .u32 t.cr, .slice A4 t.nums.length c4, .slice A5 t.args.length c5] 27) := ⟨_, rfl⟩
  rw [← hw1] at HT1 hB1
  rw [← hw1]
  clear hw1
  have HB1 := Lib.hid hB1
  have HCK := Lib.hid (ref02_Check t A4 A5 c4 c5 w1 (hR.below hB1) hsm)
  have HR := Lib.hid hR
  have HSM := Lib.hid hsm
  have HWF := Lib.hid hwf
  have HG := Lib.hid hG
  clear hR hsm hwf hG hB1
  unfold tmV at HCK
  obtain ⟨q0, q1, q2, q3, q4, q5, _, _, _, _, _, _⟩ := HT1.out
  go_wp2_with fail
  refine HCK.out.mono ?_
  rintro e w2 ⟨ve, rfl, hE, hB2⟩
  have HE := Lib.hid (hE.lower (base' := w.heap.size) HB1.out.size)
  have HT2 := Lib.hid (HT1.out.below hB2 HT1.out.lt)
  have HB2 := Lib.hid (trans_below HB1.out hB2)
  clear hE hB2 HCK q0 q1 q2 q3 q4 q5
  cases hc : chk t with
  | cons x r =>
    have HQ2 : Hid (R = (⟨#[]⟩, x :: r)) := Lib.hid (HQ.out.trans (by unfold printT; rw [if_neg (by rw [hc]; simp), hc]))
    rw [hc] at HE
    obtain ⟨g, c, rfl, _, _⟩ := HE.out.headT
    clear hc
    go_wp2_with fail
    go_ret2
    rw [HQ2.out]
    exact ⟨_, rfl, HE.out, HB2.out⟩
  | nil =>
    have HQ2 : Hid (R = (strOfNums (txtT [] t), [])) := Lib.hid (HQ.out.trans (by unfold printT; rw [if_pos hc]))
    rw [hc] at HE
    obtain rfl := HE.out.2 rfl
    have htl := chk_txt hc HWF.out
    have HW := Lib.hid (ref_text w HG.out w2.heap.size HB2.out.size t A4 A5 c4 c5 [] (.slice none 0 0) w2 HR.out HB2.out (Kd.own_of_R (Kd.R_nil (Kd.int .u8) tyU8 w2 w2.heap.size (fun _ => True))) (Nat.le_refl _) ⟨1, 0, 0, hc⟩ HSM.out HWF.out (by simp only [List.length_nil]; omega))
    rw [List.nil_append] at HW
    generalize txtT [] t = T at HQ2 HW
    unfold tmV at HW
    obtain ⟨q0, q1, q2, q3, q4, q5, _, _, _, _, _, _⟩ := HT2.out
    clear hc htl
    go_wp2_with fail
    refine HW.out.mono ?_
    rintro e w3 ⟨v3, rfl, ho, hB3, _⟩
    have hcv := own_string (P := Tryz.prog) (src := 49) (dst := 9) Tryz.underlying49 Tryz.underlying5 Tryz.underlying9 ho
    have HB3 := Lib.hid (trans_below HB2.out hB3)
    clear ho hB3 HW q0 q1 q2 q3 q4 q5
    go_wp2_with fail
    go_ret2
    rw [HQ2.out]
    exact ⟨_, rfl, LnIs.nil _ _, HB3.out⟩
end Go.Proofs.YtgapeacflkfmdaaGreatDoor
set_option linter.unusedSimpArgs false
namespace Go.Proofs.YtgapeacflkfmdaaGreatDoor
open Go.RowKit Go.Sort Go.Proofs.YtgapeacflkfmdaaGreatDoorW.PrintWords Tb

theorem print_len (t : Tm) : (printT t).2.length ≤ 2 := by
  unfold printT
  split
  · simp
  · exact chk_len t
set_option maxRecDepth 100000 in
set_option maxHeartbeats 4000000 in
theorem walk_TermPrints (t : Tm) (v : Value) (w : World) (hv : TmIs w t v) (hsm : smT t = true) (hwf : wfT t = true) (hG : Glob w) :
    Calls Tryz.prog 10 #[v] w (TruePost w) := by
  obtain ⟨A4, c4, A5, c5, rfl, hR⟩ := hv
  have HT1 := Lib.hid (TmAt.new w t (.slice A4 t.nums.length c4) (.slice A5 t.args.length c5))
  have hB1 := below_alloc (Below.refl w.heap.size w) (.cells #[.int .i64 t.kd, .int .i64 t.it, .string t.tx, .int .u32 t.cr, .slice A4 t.nums.length c4, .slice A5 t.args.length c5] 27)
  have HP1 := Lib.hid fun W (hW : Below w.heap.size w W) => term_Print t A4 A5 c4 c5 W (hR.below hW) hsm hwf (hG.below hW)
  have HP2 := Lib.hid fun W (hW : Below w.heap.size w W) => ref_Print t A4 A5 c4 c5 W (hR.below hW) hsm hwf (hG.below hW)
  have HG := Lib.hid fun W (hW : Below w.heap.size w W) => hG.below hW
  have HL := Lib.hid (print_len t)
  generalize printT t = R at HP1 HP2 HL
  obtain ⟨S, L⟩ := R
  clear hR hsm hG hwf
  unfold tmV at HP1 HP2 ⊢
  go_enter Tryz.func10, Tryz.ntmps10
  go_upto_region 1 with (fail)
  generalize w.alloc (.cells #[.int .i64 t.kd, .int .i64 t.it, .string t.tx, .int .u32 t.cr, .slice A4 t.nums.length c4, .slice A5 t.args.length c5] 27) = w1 at HT1 hB1 ⊢
  have HB1 := Lib.hid hB1
  clear hB1
  have a0 := HT1.out.c0
  have a1 := HT1.out.c1
  have a2 := HT1.out.c2
  have a3 := HT1.out.c3
  have a4 := HT1.out.c4
  have a5 := HT1.out.c5
  go_wp2_with fail
  refine (HP1.out _ HB1.out).mono ?_
  rintro e w2 ⟨ve, rfl, hE, hB⟩
  have HE2 := Lib.hid hE
  have HT2 := Lib.hid (HT1.out.below hB HT1.out.lt)
  have HB2 := Lib.hid (trans_below HB1.out hB)
  clear hE hB HT1 HB1
  clear a0 a1 a2 a3 a4 a5
  have a0 := HT2.out.c0
  have a1 := HT2.out.c1
  have a2 := HT2.out.c2
  have a3 := HT2.out.c3
  have a4 := HT2.out.c4
  have a5 := HT2.out.c5
  go_wp2_with fail
  refine (HP2.out _ HB2.out).mono ?_
  rintro e w3 ⟨vf, rfl, hF, hB⟩
  obtain ⟨A9, c9, rfl, _, hC9⟩ := hF.reads
  have HC9 := Lib.hid hC9
  have HE3 := Lib.hid (HE2.out.below hB)
  have HB3 := Lib.hid (trans_below HB2.out hB)
  clear hF hC9 hB HE2 HT2 HB2
  clear a0 a1 a2 a3 a4 a5
  have HRF := Lib.hid (refused_same (c := c9) HL.out HE3.out HC9.out (HG.out _ HB3.out))
  have hss : (S.toList == S.toList) = true := beq_self_eq_true _
  go_wp2_with fail
  refine HRF.out.mono ?_
  rintro e w4 ⟨rfl, hB⟩
  have HB4 := Lib.hid (trans_below HB3.out hB)
  clear hB
  go_wp2_with fail
  refine (awake_any _ (HG.out _ HB4.out)).mono ?_
  rintro e w5 ⟨rfl, hB⟩
  have HB5 := Lib.hid (trans_below HB4.out hB)
  clear hB
  go_wp2_with fail
  go_ret
  exact ⟨rfl, HB5.out⟩
end Go.Proofs.YtgapeacflkfmdaaGreatDoor
