/-
  Plain Lean: heddlelaw10.gap's text is blanks and comments; tokens with such gaps between them are scanned as just these tokens. The walk of LexBlanks.
-/
import Derived.Test.YtgapeacflkfmdaaGreatDoorG19
import Derived.Test.YtgapeacflkfmdaaGreatDoorKPGax1
import Derived.Lib.SmallJoins
namespace Go.Proofs.YtgapeacflkfmdaaGreatDoor
open Go.RowKit Go.Proofs.YtgapeacflkfmdaaGreatDoorW.PrintWords Go.Proofs.YtgapeacflkfmdaaGreatDoor.PGa

def gapPiece (c : Int) : List Int := if c % 4 = 3 then [37, c, 46, 39, 10] else [if c % 4 = 0 then 9 else if c % 4 = 1 then 10 else 32]
def gapL (s : ByteArray) : List Int := 32 :: ((bs s).take 20).flatMap gapPiece
theorem piece_len (c : Int) : (gapPiece c).length ≤ 5 := by
  unfold gapPiece
  split <;> simp
theorem gap_l0 (s : ByteArray) : ∀ (d i n : Nat) (acc : List Int), 20 - i = d → i ≤ s.size → i ≤ 20 → acc.length ≤ 1 + 5 * i → 2 * d + 2 ≤ n →
    heddlelaw10_gap.l0 n s acc (i : Int) = some (strOfNums (acc ++ (((bs s).take 20).drop i).flatMap gapPiece)) := by
  intro d
  induction d with
  | zero =>
    intro i n acc hd hi h20 hl hn
    obtain ⟨n, rfl⟩ : ∃ m, n = m + 2 := ⟨n - 2, by omega⟩
    have he : ((bs s).take 20).drop i = [] := List.drop_eq_nil_of_le (by simp; omega)
    have hd2 : decide ((i : Int) < 20) = false := decide_eq_false (by omega)
    simp only [heddlelaw10_gap.l0, heddlelaw10_gap.j1]
    rw [hd2, he]
    simp
  | succ d ih =>
    intro i n acc hd hi h20 hl hn
    obtain ⟨n, rfl⟩ : ∃ m, n = m + 2 := ⟨n - 2, by omega⟩
    by_cases hlt : i < s.size
    · have hd2 : decide ((i : Int) < 20) = true := decide_eq_true (by omega)
      have hr := bt_range s (i : Int)
      have ht : Int.tmod (bt s (i : Int)) 4 = bt s (i : Int) % 4 := Int.tmod_eq_emod_of_nonneg hr.1
      have hw : wrap64 ((i : Int) + 1) = ((i + 1 : Nat) : Int) := by rw [w64 (x := (i : Int) + 1) (by omega) (by omega)]; rfl
      have hdr : ((bs s).take 20).drop i = bt s (i : Int) :: ((bs s).take 20).drop (i + 1) := by
        rw [List.drop_eq_getElem_cons (by rw [List.length_take, bs_len]; omega), List.getElem_take, bs_get s i hlt]
      simp only [heddlelaw10_gap.l0, heddlelaw10_gap.j1]
      rw [if_pos (show (i : Int) < (s.size : Int) by omega), hd2, if_pos rfl, if_pos (by omega), if_pos (by omega), ht, hdr, List.flatMap_cons]
      by_cases h3 : bt s (i : Int) % 4 = 3
      · rw [if_pos h3, Option.bind_some, if_pos (by simp; omega), hw, ih (i + 1) n _ (by omega) (by omega) (by omega) (by simp; omega) (by omega)]
        rw [gapPiece, if_pos h3, List.append_assoc]
      · rw [if_neg h3, if_pos (by omega), if_pos (by omega), if_pos (by omega), hw, ih (i + 1) n _ (by omega) (by omega) (by omega) (by simp; omega) (by omega)]
        rw [gapPiece, if_neg h3, List.append_assoc]
        congr 3
        have h4 : bt s (i : Int) % 4 = 0 ∨ bt s (i : Int) % 4 = 1 ∨ bt s (i : Int) % 4 = 2 := by omega
        rcases h4 with h4 | h4 | h4 <;> rw [h4] <;> rfl
    · have he : ((bs s).take 20).drop i = [] := List.drop_eq_nil_of_le (by rw [List.length_take, bs_len]; omega)
      simp only [heddlelaw10_gap.l0, heddlelaw10_gap.j1]
      rw [if_neg (by omega), he]
      simp
theorem gap_any (s : ByteArray) (w : World) : Calls Tryz.prog 35 #[.string s] w fun e w' => e = .returned (.string (strOfNums (gapL s))) ∧ Below w.heap.size w w' := by
  refine heddlelaw10_gap.calls 42 s _ w ?_
  have := gap_l0 s 20 0 42 [32] rfl (Nat.zero_le _) (by omega) (by simp) (by omega)
  exact this

theorem skip_piece {u : ByteArray} {A R : List Int} {c : Int} (h : bs u = A ++ (gapPiece c ++ R)) : skipEnd u A.length = skipEnd u (A.length + (gapPiece c).length) := by
  unfold gapPiece at h ⊢
  by_cases h3 : c % 4 = 3
  · rw [if_pos h3] at h ⊢
    obtain ⟨a1, a2, _⟩ := at_list (A := A) (c := 37) (R := c :: 46 :: 39 :: 10 :: R) (by simpa using h)
    obtain ⟨b1, b2, _⟩ := at_list (A := A ++ [37]) (c := c) (R := 46 :: 39 :: 10 :: R) (by simpa using h)
    obtain ⟨c1, c2, _⟩ := at_list (A := A ++ [37, c]) (c := 46) (R := 39 :: 10 :: R) (by simpa using h)
    obtain ⟨d1, d2, _⟩ := at_list (A := A ++ [37, c, 46]) (c := 39) (R := 10 :: R) (by simpa using h)
    obtain ⟨e1, e2, _⟩ := at_list (A := A ++ [37, c, 46, 39]) (c := 10) (R := R) (by simpa using h)
    simp only [List.length_append, List.length_cons, List.length_nil] at b1 b2 c1 c2 d1 d2 e1 e2
    have hrun := runEnd_of (P := (· != 10)) (s := u) 4 A.length (by omega) (fun j hj => by
      match j, hj with
      | 0, _ => rw [Nat.add_zero, a2]; rfl
      | 1, _ => rw [b2]; simp; omega
      | 2, _ => rw [c2]; rfl
      | 3, _ => rw [d2]; rfl) (.inr (by rw [e2]; rfl))
    rw [← skipEnd_rem a1 a2, hrun, ← skipEnd_blank (k := A.length + 4) e1 (by rw [e2]; rfl)]
    rfl
  · rw [if_neg h3] at h ⊢
    obtain ⟨a1, a2, _⟩ := at_list (A := A) (R := R) (by simpa using h)
    rw [← skipEnd_blank a1 (by rw [a2]; split <;> (try split) <;> rfl)]
    rfl
theorem skip_pieces {u : ByteArray} {R : List Int} : ∀ (B A : List Int), bs u = A ++ (B.flatMap gapPiece ++ R) → skipEnd u A.length = skipEnd u (A.length + (B.flatMap gapPiece).length)
  | [], A, _ => by simp
  | c :: B, A, h => by
    rw [List.flatMap_cons, List.append_assoc] at h
    have h1 := skip_piece h
    have h2 := skip_pieces B (A ++ gapPiece c) (by rw [h, List.append_assoc])
    rw [List.length_append] at h2
    rw [h1, h2, List.flatMap_cons, List.length_append, Nat.add_assoc]
theorem skip_gap {u g : ByteArray} {A R : List Int} (h : bs u = A ++ (gapL g ++ R)) : skipEnd u A.length = skipEnd u (A.length + (gapL g).length) := by
  unfold gapL at h ⊢
  obtain ⟨a1, a2, _⟩ := at_list (A := A) (c := 32) (R := ((bs g).take 20).flatMap gapPiece ++ R) (by simpa using h)
  have h2 := skip_pieces ((bs g).take 20) (A ++ [32]) (R := R) (by rw [h]; simp)
  rw [List.length_append, List.length_singleton] at h2
  rw [← skipEnd_blank a1 (by rw [a2]; rfl), h2, List.length_cons]
  congr 1
  omega
theorem ag_bs {u x : ByteArray} {A R : List Int} (h : bs u = A ++ (bs x ++ R)) (hs : Soft u (A.length + x.size)) : Ag x 0 u A.length x.size := by
  have hsz : u.size = A.length + (x.size + R.length) := by rw [← bs_len, h, List.length_append, List.length_append, bs_len]
  refine ⟨by omega, by omega, fun j hj => ?_, hs⟩
  have h1 : (bs u)[A.length + j]? = (bs x)[j]? := by
    rw [h, List.getElem?_append_right (by omega), Nat.add_sub_cancel_left, List.getElem?_append_left (by rw [bs_len]; exact hj)]
  rw [List.getElem?_eq_getElem (by rw [bs_len]; omega), List.getElem?_eq_getElem (by rw [bs_len]; exact hj), bs_get u _ (by omega), bs_get x j hj] at h1
  rw [Nat.zero_add]
  exact Option.some.inj h1
/-- Gap i and token i's text. -/
def blankP (l : List Tk) (gs : List ByteArray) (i : Nat) : List Int := gapL (gs.getD i ⟨#[]⟩) ++ bs (wrTok (l.getD i zTk)).1
def blankTo (l : List Tk) (gs : List ByteArray) (i : Nat) : List Int := (List.range i).flatMap (blankP l gs)
theorem blankTo_succ (l : List Tk) (gs : List ByteArray) (i : Nat) : blankTo l gs (i + 1) = blankTo l gs i ++ blankP l gs i := by
  unfold blankTo
  rw [List.range_succ, List.flatMap_append]
  simp
theorem blankTo_split (l : List Tk) (gs : List ByteArray) : ∀ (d i : Nat), ∃ R, blankTo l gs (i + d) = blankTo l gs i ++ R ∧ (∀ x, (R ++ [10])[0]? = some x → softB x = true)
  | 0, i => ⟨[], by simp, fun x hx => by simp at hx; subst hx; rfl⟩
  | d + 1, i => by
    obtain ⟨R, hR, hx⟩ := blankTo_split l gs d i
    refine ⟨R ++ blankP l gs (i + d), by rw [← Nat.add_assoc, blankTo_succ, hR, List.append_assoc], fun x h => ?_⟩
    cases R with
    | nil =>
      unfold blankP gapL at h
      simp at h
      subst h
      rfl
    | cons y R =>
      simp at h
      exact hx x (by simpa using h)
theorem lay_blanks {u : ByteArray} {l : List Tk} {gs : List ByteArray} (hw : ∀ j, j < l.length → (wrTok (l.getD j zTk)).2 = []) (h : bs u = blankTo l gs l.length ++ [10]) :
    ∀ (d i : Nat), l.length - i = d → i ≤ l.length → Lay u (blankTo l gs i).length (l.drop i) := by
  intro d
  induction d with
  | zero =>
    intro i hd hi
    obtain rfl : i = l.length := by omega
    rw [List.drop_length]
    obtain ⟨a1, a2, _⟩ := at_list (A := blankTo l gs l.length) (c := 10) (R := []) h
    have hsz : u.size = (blankTo l gs l.length).length + 1 := by rw [← bs_len, h]; simp
    refine .nil ?_
    rw [← skipEnd_blank a1 (by rw [a2]; rfl), ← hsz]
    exact skipEnd_out (Nat.le_refl _)
  | succ d ih =>
    intro i hd hi
    have hlt : i < l.length := by omega
    have hL := ih (i + 1) (by omega) (by omega)
    have hwi := hw i hlt
    have hx : wrTok (l.getD i zTk) = ((wrTok (l.getD i zTk)).1, []) := by rw [← hwi]
    obtain ⟨R, hR, hsoft⟩ := blankTo_split l gs (l.length - (i + 1)) (i + 1)
    rw [show i + 1 + (l.length - (i + 1)) = l.length by omega, blankTo_succ] at hR
    rw [blankTo_succ] at hL
    unfold blankP at hR hL
    have h1 : bs u = blankTo l gs i ++ (gapL (gs.getD i ⟨#[]⟩) ++ (bs (wrTok (l.getD i zTk)).1 ++ (R ++ [10]))) := by rw [h, hR]; simp
    have h2 : bs u = (blankTo l gs i ++ gapL (gs.getD i ⟨#[]⟩)) ++ (bs (wrTok (l.getD i zTk)).1 ++ (R ++ [10])) := by rw [h1]; simp
    have hs : Soft u ((blankTo l gs i ++ gapL (gs.getD i ⟨#[]⟩)).length + (wrTok (l.getD i zTk)).1.size) := by
      obtain ⟨y, Y, hy⟩ : ∃ y Y, R ++ [10] = y :: Y := by
        cases R with
        | nil => exact ⟨_, _, rfl⟩
        | cons y R => exact ⟨_, _, rfl⟩
      have hys := hsoft y (by rw [hy]; rfl)
      obtain ⟨a1, a2, _⟩ := at_list (A := (blankTo l gs i ++ gapL (gs.getD i ⟨#[]⟩)) ++ bs (wrTok (l.getD i zTk)).1) (c := y) (R := Y) (by rw [h2, hy]; simp)
      rw [List.length_append, bs_len] at a2
      exact .inr (by rw [a2]; exact hys)
    have hA := ag_bs h2 hs
    have hst := ag_start hA hx
    have hgap := skip_gap h1
    rw [← List.length_append, hst] at hgap
    have hdrop : l.drop i = l.getD i zTk :: l.drop (i + 1) := by
      rw [List.drop_eq_getElem_cons hlt, List.getD_eq_getElem?_getD, List.getElem?_eq_getElem hlt]
      rfl
    rw [hdrop]
    refine .cons hgap hx hA ?_
    rw [← List.append_assoc, List.length_append, bs_len] at hL
    exact hL
/-- THE LAW LexBlanks. -/
theorem lex_blanks {l : List Tk} {gs : List ByteArray} (hw : ∀ j, j < l.length → (wrTok (l.getD j zTk)).2 = []) (hs : (blankTo l gs l.length).length + 1 ≤ 65536) (hb : ∀ c ∈ blankTo l gs l.length, 0 ≤ c ∧ c ≤ 255) :
    ∃ M, lexScan (strOfNums (blankTo l gs l.length) ++ (⟨#[10]⟩ : ByteArray)) = (M, []) ∧ sameTks false M l = true := by
  have hu : bs (strOfNums (blankTo l gs l.length) ++ (⟨#[10]⟩ : ByteArray)) = blankTo l gs l.length ++ [10] := by
    rw [bs_map, Joins.data_append, List.map_append, ← bs_map, bs_strOf hb]
    rfl
  have hL := lay_blanks hw hu l.length 0 (by omega) (Nat.zero_le _)
  rw [List.drop_zero] at hL
  obtain ⟨M, hT, hS⟩ := hL.scan
  refine ⟨M, tr_lexScan ?_ hT, hS⟩
  rw [← bs_len, hu]
  simp
  omega
theorem gapL_range (g : ByteArray) : ∀ c ∈ gapL g, 0 ≤ c ∧ c ≤ 255 := by
  intro c hc
  unfold gapL at hc
  simp only [List.mem_cons, List.mem_flatMap] at hc
  rcases hc with rfl | ⟨d, hd, hc⟩
  · omega
  · have hr := bs_range g d (List.mem_of_mem_take hd)
    unfold gapPiece at hc
    split at hc
    · simp at hc
      omega
    · simp at hc
      subst hc
      split
      · omega
      · split <;> omega
theorem blank_range (l : List Tk) (gs : List ByteArray) (i : Nat) : ∀ c ∈ blankTo l gs i, 0 ≤ c ∧ c ≤ 255 := by
  intro c hc
  unfold blankTo blankP at hc
  simp only [List.mem_flatMap, List.mem_append] at hc
  obtain ⟨j, _, hc | hc⟩ := hc
  · exact gapL_range _ c hc
  · exact bs_range _ c hc
end Go.Proofs.YtgapeacflkfmdaaGreatDoor
namespace Go.Proofs.YtgapeacflkfmdaaGreatDoor
open Go.RowKit Go.Proofs.YtgapeacflkfmdaaGreatDoorW.PrintWords

theorem strOf_app (a b : List Int) : strOfNums (a ++ b) = strOfNums a ++ strOfNums b := by
  have h : (strOfNums (a ++ b)).data = (strOfNums a ++ strOfNums b).data := by
    rw [ByteArray.data_append]
    simp [strOfNums]
  cases h1 : strOfNums (a ++ b)
  cases h2 : strOfNums a ++ strOfNums b
  rw [h1, h2] at h
  cases h
  rfl
theorem blank_str (l : List Tk) (gs : List ByteArray) (i : Nat) : strOfNums (blankTo l gs (i + 1)) = strOfNums (blankTo l gs i) ++ strOfNums (gapL (gs.getD i ⟨#[]⟩)) ++ (wrTok (l.getD i zTk)).1 := by
  rw [blankTo_succ]
  unfold blankP
  rw [strOf_app, strOf_app, strOf_bs, ← ByteArray.append_assoc]
/-- A row of strings, read. -/
def StrsAt (W : World) (B : Option Addr) (gs : List ByteArray) : Prop := ∀ i, i < gs.length → ∃ ad, B = some ad ∧ W.cell? (ad.add i) = some (.string (gs.getD i ⟨#[]⟩)) ∧ (gs.getD i ⟨#[]⟩).size ≤ 140737488351232
theorem StrsAt.below {W W' : World} {B : Option Addr} {gs : List ByteArray} (h : StrsAt W B gs) (hb : Below W.heap.size W W') : StrsAt W' B gs := by
  intro i hi
  obtain ⟨ad, e, h1, h2⟩ := h i hi
  exact ⟨ad, e, (hb.cell (World.block_lt_of_cell? W _ h1)).trans h1, h2⟩
def BlRel (w : World) (l : List Tk) (gs : List ByteArray) (gk : Nat) (vs vi : Value) (wl : World) : Prop :=
  ∃ i : Nat, vs = .string (strOfNums (blankTo l gs i)) ∧ vi = .int .i64 (i : Int) ∧ gk = l.length - i ∧ i ≤ l.length ∧ Below w.heap.size w wl ∧ ∀ j, j < i → (wrTok (l.getD j zTk)).2 = []
theorem gapL_len (g : ByteArray) : (gapL g).length ≤ 101 := by
  have h : ∀ B : List Int, (B.flatMap gapPiece).length ≤ 5 * B.length := by
    intro B
    induction B with
    | nil => simp
    | cons c B ih =>
      have := piece_len c
      rw [List.flatMap_cons, List.length_append, List.length_cons]
      omega
  have h1 := h ((bs g).take 20)
  have h2 : ((bs g).take 20).length ≤ 20 := List.length_take_le _ _
  unfold gapL
  rw [List.length_cons]
  omega
theorem blankTo_len {l : List Tk} {gs : List ByteArray} : ∀ {i : Nat}, (∀ j, j < i → (wrTok (l.getD j zTk)).2 = []) → (blankTo l gs i).length ≤ 2101 * i
  | 0, _ => by simp [blankTo]
  | i + 1, h => by
    have h1 := blankTo_len (l := l) (gs := gs) (i := i) (fun j hj => h j (by omega))
    have h2 := gapL_len (gs.getD i ⟨#[]⟩)
    have h3 := (wr_lim (h i (by omega))).1
    rw [blankTo_succ, List.length_append]
    unfold blankP
    rw [List.length_append, bs_len]
    omega
set_option maxRecDepth 100000 in
set_option maxHeartbeats 4000000 in
theorem walk_LexBlanks (l : List Tk) (A : Option Addr) (c : Nat) (gs : List ByteArray) (B : Option Addr) (k : Nat) (w : World) (hC : kTk.C w A l.length l) (hc : l.length ≤ c) (hok : TksOk l) (hsm : l.length ≤ 1048576) (hgs : StrsAt w B gs) (_ : gs.length ≤ 1048576) (hG : Glob w) :
    Calls Tryz.prog 12 #[.agg #[.slice A l.length c, .slice B gs.length k]] w (TruePost w) := by
  obtain ⟨w0, hw0⟩ : ∃ W, W = w.alloc (.cells #[.slice A l.length c, .slice B gs.length k] 59) := ⟨_, rfl⟩
  have hb0 : Below w.heap.size w w0 := by rw [hw0]; exact below_alloc (Below.refl _ _) _
  have f0 : w0.cell? ⟨w.heap.size, 0, none⟩ = some (.slice A l.length c) := by rw [hw0]; simp
  have f1 : w0.cell? ⟨w.heap.size, 1, none⟩ = some (.slice B gs.length k) := by rw [hw0]; simp
  have HB0 := Lib.hid hb0
  have HG0 := Lib.hid (hG.below hb0)
  have HC0 := Lib.hid (Kd.C_below hC hb0)
  have HS0 := Lib.hid (hgs.below hb0)
  have HF := Lib.hid (And.intro f0 f1)
  have HOK := Lib.hid hok
  have hne := fun (w : World) (a : Option Addr) (n c : Nat) => run_neq_slice_nil_any (P := Tryz.prog) w 32 83 a n c 0 0 Tryz.underlying32
  clear hb0 f0 f1 hG hC hgs hok
  go_enter Tryz.func12, Tryz.ntmps12
  go_wp2_with fail
  rw [← hw0]
  refine (awake_any _ HG0.out).mono ?_
  rintro e w1 ⟨rfl, hB1⟩
  have HG1 := Lib.hid (HG0.out.below hB1)
  have HC1 := Lib.hid (Kd.C_below HC0.out hB1)
  have HS1 := Lib.hid (HS0.out.below hB1)
  have HB1 := Lib.hid (trans_below HB0.out hB1)
  have HF1 := Lib.hid (And.intro ((hB1.cell (World.block_lt_of_cell? _ _ HF.out.1)).trans HF.out.1) ((hB1.cell (World.block_lt_of_cell? _ _ HF.out.2)).trans HF.out.2))
  clear hB1 HG0 HC0 HS0 HB0 HF hw0
  go_wp2_with fail
  go_loopg [3, 4] l.length (fun gk vs vi wl => BlRel w1 l gs gk vs vi wl)
  case atStart => exact ⟨0, rfl, rfl, by simp, Nat.zero_le _, Below.refl _ _, fun j hj => by omega⟩
  case round =>
    obtain ⟨i, rfl, rfl, hgk, hi, hBl, hg⟩ := hrel
    have HM := Lib.hid hgk
    have HGd := Lib.hid hg
    have f0 := (hBl.cell (World.block_lt_of_cell? _ _ HF1.out.1)).trans HF1.out.1
    have f1 := (hBl.cell (World.block_lt_of_cell? _ _ HF1.out.2)).trans HF1.out.2
    have HGl := Lib.hid (HG1.out.below hBl)
    have HBl := Lib.hid (trans_below HB1.out hBl)
    clear hgk hg
    by_cases hlt : i < l.length
    · have hCi := Kd.C_below HC1.out hBl
      obtain ⟨ad, rfl, q0, q1, q2, q3⟩ := atTk hCi (i : Int) (by omega) (by omega)
      rw [Int.toNat_natCast] at q0 q1 q2 q3
      have hw := HOK.out i hlt
      have HW := Lib.hid (lex_Write (l.getD i zTk) hw.1 hw.2.1 hw.2.2)
      have HW2 := Lib.hid (ref10_Write (l.getD i zTk) hw.1 hw.2.1 hw.2.2)
      have HT : rdTk l (i : Int) = l.getD i zTk := rfl
      rw [HT] at q0 q1 q2 q3
      obtain ⟨t, ht⟩ : ∃ t, t = l.getD i zTk := ⟨_, rfl⟩
      rw [← ht] at q0 q1 q2 q3 HW HW2
      have HT := Lib.hid ht
      have x0 : (i : Int) < (l.length : Int) := by omega
      have x1 : (0 : Int) ≤ (i : Int) := by omega
      have x2 : decide ((i : Int) < (l.length : Int)) = true := decide_eq_true x0
      have s1 : IntKind.i64.wrap ((i : Int) + 1) = ((i + 1 : Nat) : Int) := by rw [wrap_small _ (by omega) (by omega)]; rfl
      rcases hR : wrTok t with ⟨x, E⟩
      rw [hR] at HW HW2
      have HR := Lib.hid hR
      have HSl := Lib.hid (HS1.out.below hBl)
      clear hCi hw ht hR
      cases E with
      | cons y ys =>
        go_wp2_with fail
        refine (HW.out _ HGl.out).mono ?_
        rintro e w2 ⟨ev, rfl, hE, hB2⟩
        obtain ⟨be, u, rfl, _⟩ := hE
        have HG2 := Lib.hid (HGl.out.below hB2)
        have HB2 := Lib.hid (trans_below HBl.out hB2)
        have f0 := (hB2.cell (World.block_lt_of_cell? _ _ f0)).trans f0
        have q0 := (hB2.cell (World.block_lt_of_cell? _ _ q0)).trans q0
        have q1 := (hB2.cell (World.block_lt_of_cell? _ _ q1)).trans q1
        have q2 := (hB2.cell (World.block_lt_of_cell? _ _ q2)).trans q2
        have q3 := (hB2.cell (World.block_lt_of_cell? _ _ q3)).trans q3
        clear hB2
        go_wp2_with fail
        refine (HW2.out _ HG2.out).mono ?_
        rintro e w3 ⟨fv, rfl, hF, hB3⟩
        obtain ⟨A2, c2, rfl, hc2, hC2⟩ := hF.reads
        obtain ⟨ad2, rfl⟩ : ∃ ad2, A2 = some ad2 := by
          obtain ⟨ad2, h2, _⟩ := atLk hC2 0 (Int.le_refl _) (by simp)
          exact ⟨ad2, h2⟩
        have HB3 := Lib.hid (trans_below HB2.out hB3)
        clear hF hB3 hC2 hc2
        go_wp2_with fail
        go_ret
        exact ⟨rfl, HB3.out⟩
      | nil =>
        by_cases hgi : i < gs.length
        · obtain ⟨bd, rfl, hs0, hsz⟩ := HSl.out i hgi
          have HGP := Lib.hid (gap_any (gs.getD i ⟨#[]⟩))
          obtain ⟨g, hgg⟩ : ∃ g, g = gs.getD i ⟨#[]⟩ := ⟨_, rfl⟩
          rw [← hgg] at hs0 hsz HGP
          have HGG := Lib.hid hgg
          have z0 : (i : Int) < (gs.length : Int) := by omega
          have z1 : decide ((i : Int) < (gs.length : Int)) = true := decide_eq_true z0
          clear hgg
          have hb9 := blankTo_len (gs := gs) HGd.out
          obtain ⟨S, hS⟩ : ∃ S, S = strOfNums (blankTo l gs i) := ⟨_, rfl⟩
          rw [← hS]
          have hSs : S.size ≤ 2101 * 1048576 := by rw [hS, strOfNums_size]; omega
          have HSS := Lib.hid hS
          obtain ⟨G, hGs⟩ : ∃ G, G = strOfNums (gapL g) := ⟨_, rfl⟩
          have hGl : G.size ≤ 101 := by rw [hGs, strOfNums_size]; exact gapL_len _
          rw [← hGs] at HGP
          have HGS := Lib.hid hGs
          have hxl := (wr_lim (t := t) (by rw [HR.out])).1
          rw [HR.out] at hxl
          have hxs : x.size ≤ 2000 := hxl
          have v1 : S.size + G.size ≤ 9223372036854775807 := by omega
          have v2 : S.size + G.size + x.size ≤ 9223372036854775807 := by omega
          have v3 : (S ++ G).size + x.size ≤ 9223372036854775807 := by rw [ByteArray.size_append]; omega
          clear hb9 hS hGs hxl
          go_wp2_with fail
          refine (HW.out _ HGl.out).mono ?_
          rintro e w2 ⟨ev, rfl, hE, hB2⟩
          obtain rfl : ev = .nilIface := hE
          have HB2 := Lib.hid (trans_below hBl hB2)
          have f0 := (hB2.cell (World.block_lt_of_cell? _ _ f0)).trans f0
          have f1 := (hB2.cell (World.block_lt_of_cell? _ _ f1)).trans f1
          have hs0 := (hB2.cell (World.block_lt_of_cell? _ _ hs0)).trans hs0
          clear hB2
          go_wp2_with fail
          refine (HGP.out _).mono ?_
          rintro e w3 ⟨rfl, hB3⟩
          have HB3 := Lib.hid (trans_below HB2.out hB3)
          clear hB3
          go_wp2_with fail
          go_roundg (l.length - (i + 1))
          case measure => rw [HM.out]; omega
          case rel =>
            exact ⟨i + 1, by rw [blank_str, ← HT.out, HR.out, ← HGG.out, ← HSS.out, ← HGS.out], by go_num, rfl, by omega, HB3.out, fun j hj => by
              by_cases hji : j = i
              · rw [hji, ← HT.out, HR.out]
              · exact HGd.out j (by omega)⟩
        · have z0 : ¬ (i : Int) < (gs.length : Int) := by omega
          have z1 : decide ((i : Int) < (gs.length : Int)) = false := decide_eq_false z0
          have HGP := Lib.hid (gap_any ⟨#[]⟩)
          have HGG : Hid ((⟨#[]⟩ : ByteArray) = gs.getD i ⟨#[]⟩) := Lib.hid (by rw [List.getD_eq_getElem?_getD, List.getElem?_eq_none (by omega)]; rfl)
          have hb9 := blankTo_len (gs := gs) HGd.out
          obtain ⟨S, hS⟩ : ∃ S, S = strOfNums (blankTo l gs i) := ⟨_, rfl⟩
          rw [← hS]
          have hSs : S.size ≤ 2101 * 1048576 := by rw [hS, strOfNums_size]; omega
          have HSS := Lib.hid hS
          obtain ⟨G, hGs⟩ : ∃ G, G = strOfNums (gapL (⟨#[]⟩ : ByteArray)) := ⟨_, rfl⟩
          have hGl : G.size ≤ 101 := by rw [hGs, strOfNums_size]; exact gapL_len _
          rw [← hGs] at HGP
          have HGS := Lib.hid hGs
          have hxl := (wr_lim (t := t) (by rw [HR.out])).1
          rw [HR.out] at hxl
          have hxs : x.size ≤ 2000 := hxl
          have v1 : S.size + G.size ≤ 9223372036854775807 := by omega
          have v2 : S.size + G.size + x.size ≤ 9223372036854775807 := by omega
          have v3 : (S ++ G).size + x.size ≤ 9223372036854775807 := by rw [ByteArray.size_append]; omega
          clear hb9 hS hGs hxl
          go_wp2_with fail
          refine (HW.out _ HGl.out).mono ?_
          rintro e w2 ⟨ev, rfl, hE, hB2⟩
          obtain rfl : ev = .nilIface := hE
          have HB2 := Lib.hid (trans_below hBl hB2)
          have f0 := (hB2.cell (World.block_lt_of_cell? _ _ f0)).trans f0
          have f1 := (hB2.cell (World.block_lt_of_cell? _ _ f1)).trans f1
          clear hB2
          go_wp2_with fail
          refine (HGP.out _).mono ?_
          rintro e w3 ⟨rfl, hB3⟩
          have HB3 := Lib.hid (trans_below HB2.out hB3)
          clear hB3
          go_wp2_with fail
          go_roundg (l.length - (i + 1))
          case measure => rw [HM.out]; omega
          case rel =>
            exact ⟨i + 1, by rw [blank_str, ← HT.out, HR.out, ← HGG.out, ← HSS.out, ← HGS.out], by go_num, rfl, by omega, HB3.out, fun j hj => by
              by_cases hji : j = i
              · rw [hji, ← HT.out, HR.out]
              · exact HGd.out j (by omega)⟩
    · have hil : i = l.length := by omega
      subst hil
      have hd9 : decide ((l.length : Int) < (l.length : Int)) = false := decide_eq_false (by omega)
      have hbl := blankTo_len (gs := gs) HGd.out
      have hlaw := fun (hs : (blankTo l gs l.length).length + 1 ≤ 65536) => lex_blanks HGd.out hs (blank_range l gs l.length)
      have hsz : (strOfNums (blankTo l gs l.length)).size = (blankTo l gs l.length).length := strOfNums_size _
      rw [← hsz] at hlaw hbl
      obtain ⟨S, hS⟩ : ∃ S, S = strOfNums (blankTo l gs l.length) := ⟨_, rfl⟩
      rw [← hS] at hlaw hbl
      rw [← hS]
      have s2 : IntKind.i64.wrap ((S.size : Int) + 1) = (S.size : Int) + 1 := wrap_small _ (by omega) (by omega)
      clear hsz hS
      by_cases hbig : 65536 < S.size + 1
      · have d1 : decide ((S.size : Int) + 1 > 65536) = true := decide_eq_true (by omega)
        clear hlaw hbl hbig
        go_wp2_with fail
        go_ret
        exact ⟨rfl, HBl.out⟩
      · have d1 : decide ((S.size : Int) + 1 > 65536) = false := decide_eq_false (by omega)
        by_cases hcnt : 65536 < l.length
        · have d2 : decide ((l.length : Int) > 65536) = true := decide_eq_true (by omega)
          clear hlaw hbl hbig hcnt
          go_wp2_with fail
          go_ret
          exact ⟨rfl, HBl.out⟩
        · have d2 : decide ((l.length : Int) > 65536) = false := decide_eq_false (by omega)
          obtain ⟨M, hM, hSm⟩ := hlaw (by omega)
          have hS1 : (S ++ (⟨#[10]⟩ : ByteArray)).size = S.size + 1 := by rw [ByteArray.size_append]; rfl
          have HS := Lib.hid (lex_Scan (S ++ (⟨#[10]⟩ : ByteArray)) (by omega))
          rw [hM] at HS
          have HSm := Lib.hid hSm
          have HCl := Lib.hid (Kd.C_below HC1.out hBl)
          have v4 : S.size + 1 ≤ 9223372036854775807 := by omega
          have v5 : S.size + (⟨#[10]⟩ : ByteArray).size ≤ 9223372036854775807 := v4
          clear hlaw hbl hbig hcnt hM hSm hS1
          go_wp2_with fail
          refine (HS.out _ HGl.out).mono ?_
          rintro e w2 ⟨mv, fv, rfl, hM, hF, hB2⟩
          obtain rfl : fv = .nilIface := hF
          have HB2 := Lib.hid (trans_below HBl.out hB2)
          obtain ⟨A2, c2, rfl, hc2, hC2⟩ := Kd.R_reads hM
          have HC2 := Lib.hid hC2
          have HL2 := Lib.hid hc2
          have HC3 := Lib.hid (Kd.C_below HCl.out hB2)
          have f0 := (hB2.cell (World.block_lt_of_cell? _ _ f0)).trans f0
          clear hM hB2 hC2 hc2
          go_wp2_with fail
          refine (ref10_Same false M l A2 A c2 c _ HC2.out HL2.out HC3.out hc).mono ?_
          rw [HSm.out]
          rintro e w3 ⟨rfl, hD⟩
          have HB3 := Lib.hid (trans_below HB2.out hD.below)
          clear hD
          go_wp2_with fail
          go_ret
          exact ⟨rfl, HB3.out⟩
end Go.Proofs.YtgapeacflkfmdaaGreatDoor
