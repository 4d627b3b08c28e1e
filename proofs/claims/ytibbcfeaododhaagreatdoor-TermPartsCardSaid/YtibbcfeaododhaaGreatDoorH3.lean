/-
 api.Term as a kind of cells: a tree of rows; a term in a block of its own. term: faults, codes, the fields of a part; comparisons of numbers and texts. Names of nodes: heddleref01.Node, atom.Node. strings.Cut at one byte, atom.Node. term.empty, term.form. Plain Lean: the order of terms is one. Comparisons: texts, rows of numbers; the first that is not 0.
-/
import Derived.Test.YtibbcfeaododhaaGreatDoorH2
import Derived.Test.YtibbcfeaododhaaGreatDoorH1
import Derived.Lib.IndexLaws
import Derived.Deep.Cut
import Derived.Laws.Cover1
namespace Go.Proofs.YtibbcfeaododhaaGreatDoor
open Go.RowKit Go.Proofs.YtibbcfeaododhaaGreatDoorW.PrintWords
abbrev tyTm : Nat := 27
abbrev tyU32 : Nat := 23
theorem infoTm : (Tryz.prog.info? 27).map (fun i => (i.zero, i.size, i.bytes)) = some (some (.agg #[(.int .i64 0), (.int .i64 0), (.string ⟨#[]⟩), (.int .u32 0), (.slice none 0 0), (.slice none 0 0)]), 6, 88) := by kernel_rfl
theorem infoU32 : (Tryz.prog.info? 23).map (fun i => (i.zero, i.size, i.bytes)) = some (some (.int .u32 0), 1, 4) := by kernel_rfl
def kTmF (d : Kd Tm) : Kd Tm := Kd.iso (Kd.pair (Kd.int .i64) (Kd.pair (Kd.int .i64) (Kd.pair Kd.string (Kd.pair (Kd.int .u32) (Kd.pair (Kd.slice tyU32 (Kd.int .u32)) (Kd.slice tyTm d)))))) (fun x : Tm => (x.kd, x.it, x.tx, x.cr, x.nums, x.args))
theorem kTm_mono : Kd.Mono kTmF := Kd.mono_iso _ (Kd.mono_pair (Kd.mono_const _) (Kd.mono_pair (Kd.mono_const _) (Kd.mono_pair (Kd.mono_const _) (Kd.mono_pair (Kd.mono_const _) (Kd.mono_pair (Kd.mono_const _) (Kd.mono_slice tyTm Kd.mono_id))))))
theorem kTm_sub : Kd.Sub kTmF [tyU32, tyTm] := Kd.sub_iso _ (Kd.sub_pair (Kd.sub_const _ (by decide)) (Kd.sub_pair (Kd.sub_const _ (by decide)) (Kd.sub_pair (Kd.sub_const _ (by decide)) (Kd.sub_pair (Kd.sub_const _ (by decide)) (Kd.sub_pair (Kd.sub_const _ (by decide)) (Kd.sub_slice tyTm (by decide) Kd.sub_id))))))
theorem kTm_sz : ∀ n, (Kd.upto kTmF 6 [tyU32, tyTm] n).sz = 6 := Kd.upto_sz (fun _ => rfl)
def kTm : Kd Tm := Kd.fix kTmF 6 [tyU32, tyTm] kTm_sz (Kd.upto_E kTm_sub)
abbrev kU : Kd Int := Kd.int .u32
theorem kTm_open {w : World} {x : Tm} {cs : List Value} (h : kTm.K w x cs) : ∃ A4 c4 A5 c5, cs = [.int .i64 x.kd, .int .i64 x.it, .string x.tx, .int .u32 x.cr, .slice A4 x.nums.length c4, .slice A5 x.args.length c5] ∧ x.nums.length ≤ c4 ∧ kU.C w A4 x.nums.length x.nums ∧ x.args.length ≤ c5 ∧ kTm.C w A5 x.args.length x.args := by
 obtain ⟨n, h⟩ := h
 cases n with
 | zero => exact h.elim
 | succ n =>
  obtain ⟨_, _, rfl, rfl, ⟨_, _, rfl, rfl, ⟨_, _, rfl, rfl, ⟨_, _, rfl, rfl, ⟨_, _, rfl, ⟨A4, c4, rfl, l4, g4⟩, ⟨A5, c5, rfl, l5, g5⟩⟩⟩⟩⟩⟩ := h
  exact ⟨A4, c4, A5, c5, rfl, l4, g4, l5, Kd.fix_C g5⟩
theorem kTm_openM {w : World} {base : Nat} {ok : Nat → Prop} {x : Tm} {cs : List Value} (h : kTm.M w base ok x cs) : ∃ v4 v5, cs = [.int .i64 x.kd, .int .i64 x.it, .string x.tx, .int .u32 x.cr, v4, v5] ∧ kU.R tyU32 w base ok v4 x.nums ∧ kTm.R tyTm w base ok v5 x.args := by
 obtain ⟨n, h⟩ := h
 cases n with
 | zero => exact h.elim
 | succ n =>
  obtain ⟨_, _, rfl, rfl, ⟨_, _, rfl, rfl, ⟨_, _, rfl, rfl, ⟨_, _, rfl, rfl, ⟨_, _, rfl, ⟨v4, rfl, g4⟩, ⟨v5, rfl, g5⟩⟩⟩⟩⟩⟩ := h
  exact ⟨v4, v5, rfl, g4, Kd.fix_R g5⟩
theorem kTm_mk (w : World) (x : Tm) {A4 : Option Addr} {c4 : Nat} (l4 : x.nums.length ≤ c4) (g4 : kU.C w A4 x.nums.length x.nums) {A5 : Option Addr} {c5 : Nat} (l5 : x.args.length ≤ c5) (g5 : kTm.C w A5 x.args.length x.args) : kTm.K w x [.int .i64 x.kd, .int .i64 x.it, .string x.tx, .int .u32 x.cr, .slice A4 x.nums.length c4, .slice A5 x.args.length c5] := by
 obtain ⟨n5, q5⟩ := Kd.fix_C_back kTm_mono g5
 have r5 := Kd.upto_C_le kTm_mono kTm_sz (show n5 ≤ n5 by omega) q5
 exact ⟨n5 + 1, ⟨[.int .i64 x.kd], [.int .i64 x.it, .string x.tx, .int .u32 x.cr, .slice A4 x.nums.length c4, .slice A5 x.args.length c5], rfl, rfl, ⟨[.int .i64 x.it], [.string x.tx, .int .u32 x.cr, .slice A4 x.nums.length c4, .slice A5 x.args.length c5], rfl, rfl, ⟨[.string x.tx], [.int .u32 x.cr, .slice A4 x.nums.length c4, .slice A5 x.args.length c5], rfl, rfl, ⟨[.int .u32 x.cr], [.slice A4 x.nums.length c4, .slice A5 x.args.length c5], rfl, rfl, ⟨[.slice A4 x.nums.length c4], [.slice A5 x.args.length c5], rfl, ⟨A4, c4, rfl, l4, g4⟩, ⟨A5, c5, rfl, l5, r5⟩⟩⟩⟩⟩⟩⟩
theorem kTm_mkM (w : World) (base : Nat) (ok : Nat → Prop) (x : Tm) {v4 : Value} (g4 : kU.R tyU32 w base ok v4 x.nums) {v5 : Value} (g5 : kTm.R tyTm w base ok v5 x.args) : kTm.M w base ok x [.int .i64 x.kd, .int .i64 x.it, .string x.tx, .int .u32 x.cr, v4, v5] := by
 obtain ⟨n5, q5⟩ := Kd.fix_R_back kTm_mono g5
 have r5 := Kd.upto_R_le kTm_mono kTm_sz (show n5 ≤ n5 by omega) q5
 exact ⟨n5 + 1, ⟨[.int .i64 x.kd], [.int .i64 x.it, .string x.tx, .int .u32 x.cr, v4, v5], rfl, rfl, ⟨[.int .i64 x.it], [.string x.tx, .int .u32 x.cr, v4, v5], rfl, rfl, ⟨[.string x.tx], [.int .u32 x.cr, v4, v5], rfl, rfl, ⟨[.int .u32 x.cr], [v4, v5], rfl, rfl, ⟨[v4], [v5], rfl, ⟨v4, rfl, g4⟩, ⟨v5, rfl, r5⟩⟩⟩⟩⟩⟩⟩
/-- A term as a value. -/
def tmV (t : Tm) (v4 v5 : Value) : Value := .agg #[.int .i64 t.kd, .int .i64 t.it, .string t.tx, .int .u32 t.cr, v4, v5]
/-- What stands behind a term's two slices. -/
structure TmR (W : World) (t : Tm) (A4 : Option Addr) (c4 : Nat) (A5 : Option Addr) (c5 : Nat) : Prop where
 l4 : t.nums.length ≤ c4
 g4 : kU.C W A4 t.nums.length t.nums
 l5 : t.args.length ≤ c5
 g5 : kTm.C W A5 t.args.length t.args
theorem TmR.below {W W' : World} {t : Tm} {A4 A5 : Option Addr} {c4 c5 : Nat} (h : TmR W t A4 c4 A5 c5) (hb : Below W.heap.size W W') : TmR W' t A4 c4 A5 c5 := ⟨h.l4, Kd.C_below h.g4 hb, h.l5, Kd.C_below h.g5 hb⟩
/-- The value 'v' reads as the term 't'. -/
def TmIs (W : World) (t : Tm) (v : Value) : Prop := ∃ A4 c4 A5 c5, v = tmV t (.slice A4 t.nums.length c4) (.slice A5 t.args.length c5) ∧ TmR W t A4 c4 A5 c5
theorem TmIs.below {W W' : World} {t : Tm} {v : Value} (h : TmIs W t v) (hb : Below W.heap.size W W') : TmIs W' t v := by
 obtain ⟨A4, c4, A5, c5, e, h⟩ := h
 exact ⟨A4, c4, A5, c5, e, h.below hb⟩
theorem TmIs.ofK {W : World} {t : Tm} {cs : List Value} (h : kTm.K W t cs) : TmIs W t (.agg cs.toArray) := by
 obtain ⟨A4, c4, A5, c5, rfl, l4, g4, l5, g5⟩ := kTm_open h
 exact ⟨A4, c4, A5, c5, rfl, l4, g4, l5, g5⟩
/-- A term that is made. -/
def TmMade (W : World) (base : Nat) (t : Tm) (v : Value) : Prop := ∃ v4 v5, v = tmV t v4 v5 ∧ kU.R tyU32 W base (fun _ => True) v4 t.nums ∧ kTm.R tyTm W base (fun _ => True) v5 t.args
theorem TmMade.is {W : World} {base : Nat} {t : Tm} {v : Value} (h : TmMade W base t v) : TmIs W t v := by
 obtain ⟨v4, v5, rfl, h4, h5⟩ := h
 obtain ⟨A4, c4, rfl, l4, g4⟩ := Kd.R_reads h4
 obtain ⟨A5, c5, rfl, l5, g5⟩ := Kd.R_reads h5
 exact ⟨A4, c4, A5, c5, rfl, l4, g4, l5, g5⟩
theorem TmMade.below {W W' : World} {base : Nat} {t : Tm} {v : Value} (h : TmMade W base t v) (hb : Below W.heap.size W W') : TmMade W' base t v := by
 obtain ⟨v4, v5, e, h4, h5⟩ := h
 exact ⟨v4, v5, e, Kd.R_below h4 hb, Kd.R_below h5 hb⟩
theorem TmMade.lower {W : World} {base base' : Nat} {t : Tm} {v : Value} (h : TmMade W base t v) (hb : base' ≤ base) : TmMade W base' t v := by
 obtain ⟨v4, v5, e, h4, h5⟩ := h
 exact ⟨v4, v5, e, Kd.R_lower h4 hb, Kd.R_lower h5 hb⟩
/-- A term without numbers and parts. -/
theorem TmMade.flat (W : World) (base : Nat) (kd it : Int) (tx : ByteArray) (cr : Int) : TmMade W base ⟨kd, it, tx, cr, [], []⟩ (.agg #[.int .i64 kd, .int .i64 it, .string tx, .int .u32 cr, .slice none 0 0, .slice none 0 0]) := ⟨_, _, rfl, Kd.R_nil _ _ _ _ _, Kd.R_nil _ _ _ _ _⟩
def vZero : Value := .agg #[.int .i64 0, .int .i64 0, .string ⟨#[]⟩, .int .u32 0, .slice none 0 0, .slice none 0 0]
theorem TmMade.zero (W : World) (base : Nat) : TmMade W base zTm vZero := TmMade.flat W base 0 0 ⟨#[]⟩ 0
/-- An element of a row of terms. -/
theorem atTm {w : World} {A : Option Addr} {n : Nat} {xs : List Tm} (h : Kd.C kTm w A n xs) (i : Int) (h0 : 0 ≤ i) (h1 : i < n) : ∃ ad A4 c4 A5 c5, A = some ad ∧ w.cell? (ad.add (i.toNat * 6)) = some (.int .i64 (rdTm xs i).kd) ∧ w.cell? ⟨(ad.add (i.toNat * 6)).block, (ad.add (i.toNat * 6)).off + 1, none⟩ = some (.int .i64 (rdTm xs i).it) ∧
  w.cell? ⟨(ad.add (i.toNat * 6)).block, (ad.add (i.toNat * 6)).off + 2, none⟩ = some (.string (rdTm xs i).tx) ∧ w.cell? ⟨(ad.add (i.toNat * 6)).block, (ad.add (i.toNat * 6)).off + 3, none⟩ = some (.int .u32 (rdTm xs i).cr) ∧ w.cell? ⟨(ad.add (i.toNat * 6)).block, (ad.add (i.toNat * 6)).off + 4, none⟩ = some (.slice A4 (rdTm xs i).nums.length c4) ∧
  w.cell? ⟨(ad.add (i.toNat * 6)).block, (ad.add (i.toNat * 6)).off + 5, none⟩ = some (.slice A5 (rdTm xs i).args.length c5) ∧ TmR w (rdTm xs i) A4 c4 A5 c5 := by
 obtain ⟨ad, c, e, _, hK, hc0⟩ := Kd.C_get h zTm i h0 h1
 have hc : ∀ j u, c[j]? = some u → w.cell? (ad.add (i.toNat * 6 + j)) = some u := hc0
 obtain ⟨A4, c4, A5, c5, rfl, l4, g4, l5, g5⟩ := kTm_open hK
 exact ⟨ad, A4, c4, A5, c5, e, hc 0 _ rfl, by rw [← add_field _ _ 1 (by omega)]; exact hc 1 _ rfl, by rw [← add_field _ _ 2 (by omega)]; exact hc 2 _ rfl, by rw [← add_field _ _ 3 (by omega)]; exact hc 3 _ rfl, by rw [← add_field _ _ 4 (by omega)]; exact hc 4 _ rfl, by rw [← add_field _ _ 5 (by omega)]; exact hc 5 _ rfl, ⟨l4, g4, l5, g5⟩⟩
/-- A term in a block of its own, which may be written. -/
structure TmAt (W : World) (b : Nat) (t : Tm) (v4 v5 : Value) : Prop where
 c0 : W.cell? ⟨b, 0, none⟩ = some (.int .i64 t.kd)
 c1 : W.cell? ⟨b, 1, none⟩ = some (.int .i64 t.it)
 c2 : W.cell? ⟨b, 2, none⟩ = some (.string t.tx)
 c3 : W.cell? ⟨b, 3, none⟩ = some (.int .u32 t.cr)
 c4 : W.cell? ⟨b, 4, none⟩ = some v4
 c5 : W.cell? ⟨b, 5, none⟩ = some v5
 f0 : W.frozen? ⟨b, 0, none⟩ = false
 f1 : W.frozen? ⟨b, 1, none⟩ = false
 f2 : W.frozen? ⟨b, 2, none⟩ = false
 f3 : W.frozen? ⟨b, 3, none⟩ = false
 f4 : W.frozen? ⟨b, 4, none⟩ = false
 f5 : W.frozen? ⟨b, 5, none⟩ = false
theorem TmAt.lt {W : World} {b : Nat} {t : Tm} {v4 v5 : Value} (h : TmAt W b t v4 v5) : b < W.heap.size := World.block_lt_of_cell? W _ h.c0
theorem TmAt.below {W W' : World} {b n : Nat} {t : Tm} {v4 v5 : Value} (h : TmAt W b t v4 v5) (hb : Below n W W') (hn : b < n) : TmAt W' b t v4 v5 :=
 ⟨(hb.cell hn).trans h.c0, (hb.cell hn).trans h.c1, (hb.cell hn).trans h.c2, (hb.cell hn).trans h.c3, (hb.cell hn).trans h.c4, (hb.cell hn).trans h.c5,
  (hb.frozen hn).trans h.f0, (hb.frozen hn).trans h.f1, (hb.frozen hn).trans h.f2, (hb.frozen hn).trans h.f3, (hb.frozen hn).trans h.f4, (hb.frozen hn).trans h.f5⟩
theorem TmAt.new (w : World) (t : Tm) (v4 v5 : Value) : TmAt (w.alloc (.cells #[.int .i64 t.kd, .int .i64 t.it, .string t.tx, .int .u32 t.cr, v4, v5] 27)) w.heap.size t v4 v5 := by
 constructor <;> simp
/-! ### names, chains -/
/-- The number of a chain's outermost link. -/
def headCo : List Lk → Int
 | [] => 0
 | x :: _ => x.co
end Go.Proofs.YtibbcfeaododhaaGreatDoor
namespace Go.Proofs.YtibbcfeaododhaaGreatDoor
open Go.RowKit Go.Proofs.YtibbcfeaododhaaGreatDoorW.PrintWords
theorem term_fault (at_ code : Int) (u : Value) (w : World) (l : List Lk) (h : ErrIs w l u) :
  Calls Tryz.prog 24 #[.int .i64 at_, .int .i64 code, u] w (ErrPost w (⟨nTerm, at_, code⟩ :: l)) := by
 have H : Hid (ErrPost w (⟨nTerm, at_, code⟩ :: l) (.returned (.iface 92 (.pointer (some ⟨w.heap.size, 0, none⟩)))) (w.alloc (.cells #[.string ⟨#[116, 101, 114, 109]⟩, .int .i64 at_, .int .i64 code, u] 94))) :=
  Lib.hid ⟨_, rfl, errOf_new w ⟨nTerm, at_, code⟩ l u h, below_alloc (Below.refl _ _) _⟩
 have hs := h.shape
 clear h
 rcases hs with rfl | ⟨b, rfl⟩
 ·go_enter Tryz.func24, Tryz.ntmps24
  go_wp2_with fail
  go_ret
  exact H.out
 ·go_enter Tryz.func24, Tryz.ntmps24
  go_wp2_with fail
  go_ret
  exact H.out
theorem term_code (l : List Lk) (v : Value) (w : World) (h : ErrIs w l v) (hG : Glob w) :
  Calls Tryz.prog 102 #[v] w fun e w' => e = .returned (.int .i64 (headCo l)) ∧ Below w.heap.size w w' := by
 cases l with
 | nil =>
  obtain rfl : v = .nilIface := h
  clear hG
  go_enter Tryz.func102, Tryz.ntmps102
  go_wp2_with fail
  refine (as_nil _ _).mono ?_
  rintro e w1 ⟨rfl, rfl⟩
  go_wp2_with fail
  go_ret
  exact ⟨rfl, below_alloc (Below.refl _ _) _⟩
 | cons x r =>
  obtain ⟨b, u, rfl, h0, h1, h2, h3, h4⟩ := h
  have hlt := World.block_lt_of_cell? w _ h2
  simp only at hlt
  have HC := Lib.hid h2
  have HA := Lib.hid (as_in ⟨b, 0, none⟩ w.heap.size (.pointer none) (w.alloc (.cells #[.pointer none] 92)) (hG.below (below_alloc (Below.refl _ _) _)) (by simp) (by simp))
  clear h0 h1 h2 h3 h4 hG
  go_enter Tryz.func102, Tryz.ntmps102
  go_wp2_with fail
  refine HA.out.mono ?_
  rintro e w1 ⟨rfl, hp, hB, _⟩
  have HB : Hid (Below w.heap.size w w1) := Lib.hid ((below_alloc (Below.refl _ _) _).trans hB)
  have hc := (HB.out.cell hlt).trans HC.out
  clear hB
  go_wp2_with fail
  go_ret
  exact ⟨rfl, HB.out⟩
/-! ### comparisons -/
theorem cmp_kind (a b : Int) (w : World) : Calls Tryz.prog 67 #[.int .i64 a, .int .i64 b] w fun e w' => e = .returned (.int .i64 (cmpI a b)) ∧ w = w' := by
 unfold cmpI
 go_enter Tryz.func67, Tryz.ntmps67
 go_wp2
 all_goals go_ret
 all_goals refine ⟨ei ?_, rfl⟩
 all_goals (repeat' split) <;> first | rfl | (exfalso; simp_all; omega)
theorem cmp_i64 (a b : Int) (w : World) : Calls Tryz.prog 68 #[.int .i64 a, .int .i64 b] w fun e w' => e = .returned (.int .i64 (cmpI a b)) ∧ w = w' := by
 unfold cmpI
 go_enter Tryz.func68, Tryz.ntmps68
 go_wp2
 all_goals go_ret
 all_goals refine ⟨ei ?_, rfl⟩
 all_goals (repeat' split) <;> first | rfl | (exfalso; simp_all; omega)
theorem cmp_int (a b : Int) (w : World) : Calls Tryz.prog 73 #[.int .i64 a, .int .i64 b] w fun e w' => e = .returned (.int .i64 (cmpI a b)) ∧ w = w' := by
 unfold cmpI
 go_enter Tryz.func73, Tryz.ntmps73
 go_wp2
 all_goals go_ret
 all_goals refine ⟨ei ?_, rfl⟩
 all_goals (repeat' split) <;> first | rfl | (exfalso; simp_all; omega)
theorem cmp_u32 (a b : Int) (w : World) : Calls Tryz.prog 71 #[.int .u32 a, .int .u32 b] w fun e w' => e = .returned (.int .i64 (cmpI a b)) ∧ w = w' := by
 unfold cmpI
 go_enter Tryz.func71, Tryz.ntmps71
 go_wp2
 all_goals go_ret
 all_goals refine ⟨ei ?_, rfl⟩
 all_goals (repeat' split) <;> first | rfl | (exfalso; simp_all; omega)
end Go.Proofs.YtibbcfeaododhaaGreatDoor
namespace Go.Proofs.YtibbcfeaododhaaGreatDoor
open Go.RowKit Go.Proofs.YtibbcfeaododhaaGreatDoorW.PrintWords
/-! ### heddleref01.Node: plain -/
/-- The place of the last '@' and whether all is good. -/
def ndRun : List Int → Int → Int → Bool → Int × Bool
 | [], _, a, g => (a, g)
 | c :: l, i, a, g => if c = 64 then ndRun l (i + 1) i (g && decide (a < 0)) else ndRun l (i + 1) a (g && (isIn c || c == 45 || (c == 46 && decide (a ≥ 0))))
theorem nd_false : ∀ (l : List Int) (i a : Int), (ndRun l i a false).2 = false
 | [], _, _ => rfl
 | c :: l, i, a => by
  rw [ndRun]
  split
  ·rw [Bool.false_and]
   exact nd_false l _ _
  ·rw [Bool.false_and]
   exact nd_false l _ _
theorem nd_two : ∀ (l : List Int) (i a : Int), 0 ≤ a → ((ndRun l i a true).2 = l.all (fun c => inHost c && c != 64)) ∧ ((ndRun l i a true).2 = true → (ndRun l i a true).1 = a)
 | [], _, _, _ => ⟨rfl, fun _ => rfl⟩
 | c :: l, i, a, ha => by
  rw [ndRun, List.all_cons]
  by_cases c64 : c = 64
  ·rw [if_pos c64, decide_eq_false (by omega), Bool.and_false, nd_false]
   subst c64
   exact ⟨by simp, fun h => by cases h⟩
  ·rw [if_neg c64, decide_eq_true ha, Bool.true_and, Bool.and_true]
   have hb : (c != 64) = true := bne_iff_ne.2 c64
   rw [hb, Bool.and_true]
   cases hh : (isIn c || c == 45 || c == 46) with
   | true =>
    have := nd_two l (i + 1) a ha
    unfold inHost
    rw [hh, Bool.true_and]
    exact this
   | false =>
    unfold inHost
    rw [hh, nd_false, Bool.false_and]
    exact ⟨rfl, fun h => by cases h⟩
theorem nd_one : ∀ (l : List Int) (i : Int), 0 ≤ i → ((ndRun l i (-1) true).2 = true ∧ nodeLen l < l.length ↔ nodeLen l < l.length ∧ (l.take (nodeLen l)).all inName = true ∧ (l.drop (nodeLen l + 1)).all (fun c => inHost c && c != 64) = true) ∧
  ((ndRun l i (-1) true).2 = true → (ndRun l i (-1) true).1 = if nodeLen l < l.length then i + nodeLen l else -1)
 | [], _, _ => ⟨by simp [nodeLen, tw], fun _ => by simp [nodeLen, tw, ndRun]⟩
 | c :: l, i, hi => by
  rw [ndRun]
  by_cases c64 : c = 64
  ·have e : nodeLen (c :: l) = 0 := tw_no (by simp [c64])
   rw [if_pos c64, decide_eq_true (by decide), Bool.true_and, e]
   obtain ⟨h1, h2⟩ := nd_two l (i + 1) i hi
   rw [h1] at h2 ⊢
   refine ⟨by simp, fun h => ?_⟩
   rw [h2 h, if_pos (by simp)]
   simp
  ·have e : nodeLen (c :: l) = nodeLen l + 1 := tw_yes (by simp [c64])
   rw [if_neg c64, decide_eq_false (by decide), Bool.and_false, Bool.or_false, Bool.true_and, e]
   have hl : (c :: l).length = l.length + 1 := rfl
   rw [hl, List.take_succ_cons, List.drop_succ_cons, List.all_cons]
   have hlt : nodeLen l + 1 < l.length + 1 ↔ nodeLen l < l.length := by omega
   obtain ⟨h1, h2⟩ := nd_one l (i + 1) (by omega)
   cases hh : (isIn c || c == 45) with
   | true =>
    have hin : inName c = true := hh
    rw [hin, Bool.true_and]
    refine ⟨by rw [hlt]; exact h1, fun h => ?_⟩
    rw [h2 h]
    by_cases h3 : nodeLen l < l.length
    ·rw [if_pos h3, if_pos (by omega)]
     omega
    ·rw [if_neg h3, if_neg (by omega)]
   | false =>
    have hin : inName c = false := hh
    rw [hin, nd_false, Bool.false_and]
    exact ⟨by simp, fun h => by cases h⟩
def lenOk (s : ByteArray) : Bool := decide ((s.size : Int) ≥ 3) && decide ((s.size : Int) ≤ 64)
theorem nd_ok (s : ByteArray) : nodeOk s = ((ndRun (bs s) 0 (-1) (lenOk s)).2 && !decide ((ndRun (bs s) 0 (-1) (lenOk s)).1 < 1) && !((ndRun (bs s) 0 (-1) (lenOk s)).1 == (s.size : Int) - 1)) := by
 have hsz := bs_len s
 rw [Bool.eq_iff_iff]
 have hlen : lenOk s = true ↔ 3 ≤ s.size ∧ s.size ≤ 64 := by unfold lenOk; simp; omega
 unfold nodeOk nodeOkL
 rw [hsz]
 simp only [Bool.and_eq_true, decide_eq_true_eq, Bool.not_eq_true', decide_eq_false_iff_not, beq_eq_false_iff_ne]
 have hall : ∀ l : List Int, l.contains 64 = false ∧ l.all inHost = true ↔ l.all (fun c => inHost c && c != 64) = true := by
  intro l
  rw [List.contains_eq_any_beq, List.any_eq_false, List.all_eq_true, List.all_eq_true]
  constructor
  ·rintro ⟨h1, h2⟩ x hx
   rw [h2 x hx, Bool.true_and, bne_iff_ne]
   rintro rfl
   exact h1 _ hx (by simp)
  ·intro h
   refine ⟨fun x hx hh => ?_, fun x hx => ?_⟩
   ·have := h x hx
    simp only [Bool.and_eq_true, bne_iff_ne] at this
    exact this.2 (by simpa using (beq_iff_eq.1 hh).symm)
   ·have := h x hx
    simp only [Bool.and_eq_true] at this
    exact this.1
 cases hl : lenOk s with
 | false =>
  rw [nd_false]
  have hn : ¬ (3 ≤ s.size ∧ s.size ≤ 64) := fun h => by rw [hlen.2 h] at hl; cases hl
  constructor
  ·intro h
   exfalso
   omega
  ·intro h
   cases h.1.1
 | true =>
  obtain ⟨h3, h64⟩ := hlen.1 hl
  obtain ⟨h1, h2⟩ := nd_one (bs s) 0 (by omega)
  rw [hsz] at h1 h2
  constructor
  ·rintro ⟨⟨⟨⟨⟨⟨a1, a2⟩, a3⟩, a4⟩, a5⟩, a6⟩, a7⟩
   have hg := (h1.2 ⟨a1, a6, (hall _).1 ⟨a5, a7⟩⟩).1
   have hp := h2 hg
   rw [if_pos a1] at hp
   exact ⟨⟨hg, by omega⟩, by omega⟩
  ·rintro ⟨⟨hg, hp1⟩, hp2⟩
   have hp := h2 hg
   by_cases a1 : nodeLen (bs s) < s.size
   ·rw [if_pos a1] at hp
    obtain ⟨_, a6, a7⟩ := h1.1 ⟨hg, a1⟩
    obtain ⟨a5, a8⟩ := (hall _).2 a7
    exact ⟨⟨⟨⟨⟨⟨a1, by omega⟩, by omega⟩, h64⟩, a5⟩, a6⟩, a8⟩
   ·rw [if_neg a1] at hp
    omega
/-! ### heddleref01.Node: walked -/
def NodeR (w : World) (l : List Lk) (e : Ending) (w' : World) : Prop := ∃ (r1 r2 : ByteArray) (v : Value), e = .returned (.tuple #[.string r1, .string r2, v]) ∧ LnIs w' w.heap.size l v ∧ Below w.heap.size w w'
set_option maxRecDepth 100000 in
set_option maxHeartbeats 8000000 in
theorem ref01_Node (s : ByteArray) (hm : s.size ≤ 140737488351232) (w : World) :
  Calls Tryz.prog 96 #[.string s] w (NodeR w (nodeBad s)) := by
 have HNO := Lib.hid (nd_ok s)
 obtain ⟨R, hR⟩ : ∃ R, R = ndRun (bs s) 0 (-1) (lenOk s) := ⟨_, rfl⟩
 rw [← hR] at HNO
 have HR0 : Hid (ndRun ((bs s).drop 0) ((0 : Nat) : Int) (-1) (lenOk s) = R) := Lib.hid hR.symm
 clear hR
 by_cases h3 : (s.size : Int) ≥ 3
 ·have d3 : decide ((s.size : Int) ≥ 3) = true := decide_eq_true h3
  by_cases h64 : (s.size : Int) ≤ 64
  ·have d64 : decide ((s.size : Int) ≤ 64) = true := decide_eq_true h64
   have hl : lenOk s = true := by unfold lenOk; rw [d3, d64]; rfl
   rw [hl] at HR0
   clear hl
   go_enter Tryz.func96, Tryz.ntmps96
   go_wp2_with fail
   go_loopg [5, 6, 7] s.size (fun gk va vg vi wl => ∃ (k : Nat) (a : Int) (g : Bool), va = .int .i64 a ∧ vg = .bool g ∧ vi = .int .i64 (k : Int) ∧ gk = s.size - k ∧ k ≤ s.size ∧ -1 ≤ a ∧ a < k ∧ Hid (ndRun ((bs s).drop k) (k : Int) a g = R) ∧ wl = w)
   case atStart => exact ⟨0, -1, true, rfl, rfl, rfl, rfl, Nat.zero_le _, by omega, by omega, HR0, rfl⟩
   case round =>
    clear HR0
    obtain ⟨k, a, g, rfl, rfl, rfl, hgk, hk, ha0, ha1, HN, rfl⟩ := hrel
    have HK := Lib.hid hgk
    clear hgk
    by_cases hlt : k < s.size
    ·have hx0 : (0 : Int) ≤ (k : Int) := by omega
     have hx1 : (k : Int) < (s.size : Int) := by omega
     have hbk := btk s k
     have hr := bt_range s (k : Int)
     have hn := HN.out
     clear HN
     rw [bs_drop s k hlt] at hn
     simp only [ndRun] at hn
     generalize bt s (k : Int) = c at hbk hr hn
     have HI := Lib.hid (ref01_InWord c)
     by_cases c64 : c = 64
     ·rw [if_pos c64] at hn
      have d1 : (c == 64) = true := beq_iff_eq.2 c64
      have HN : Hid (ndRun ((bs s).drop (k + 1)) ((k + 1 : Nat) : Int) k (g && decide (a < 0)) = R) := Lib.hid hn
      clear hn c64
      cases g with
      | true =>
       rw [Bool.true_and] at HN
       by_cases hneg : a < 0
       ·rw [decide_eq_true hneg] at HN
        have d2 : decide (a < 0) = true := decide_eq_true hneg
        go_wp2_with fail
        go_roundg (s.size - (k + 1))
        case measure => rw [HK.out]; omega
        case rel => exact ⟨k + 1, k, true, rfl, rfl, by go_num, rfl, by omega, by omega, by omega, Lib.hid HN.out, rfl⟩
       ·rw [decide_eq_false hneg] at HN
        have d2 : decide (a < 0) = false := decide_eq_false hneg
        go_wp2_with fail
        go_roundg (s.size - (k + 1))
        case measure => rw [HK.out]; omega
        case rel => exact ⟨k + 1, k, false, rfl, rfl, by go_num, rfl, by omega, by omega, by omega, Lib.hid HN.out, rfl⟩
      | false =>
       rw [Bool.false_and] at HN
       go_wp2_with fail
       go_roundg (s.size - (k + 1))
       case measure => rw [HK.out]; omega
       case rel => exact ⟨k + 1, k, false, rfl, rfl, by go_num, rfl, by omega, by omega, by omega, Lib.hid HN.out, rfl⟩
     ·rw [if_neg c64] at hn
      have d1 : (c == 64) = false := beq_eq_false_iff_ne.2 c64
      have HN : Hid (ndRun ((bs s).drop (k + 1)) ((k + 1 : Nat) : Int) a (g && (isIn c || c == 45 || (c == 46 && decide (a ≥ 0)))) = R) := Lib.hid hn
      clear hn c64
      cases g with
      | false =>
       rw [Bool.false_and] at HN
       go_wp2_with fail
       go_roundg (s.size - (k + 1))
       case measure => rw [HK.out]; omega
       case rel => exact ⟨k + 1, a, false, rfl, rfl, by go_num, rfl, by omega, by omega, by omega, Lib.hid HN.out, rfl⟩
      | true =>
       rw [Bool.true_and] at HN
       cases hin : isIn c with
       | true =>
        rw [hin, Bool.true_or, Bool.true_or] at HN
        rw [hin] at HI
        clear hin
        go_wp2_with fail
        refine (HI.out _).mono ?_
        rintro e w' ⟨rfl, rfl⟩
        go_wp2_with fail
        go_roundg (s.size - (k + 1))
        case measure => rw [HK.out]; omega
        case rel => exact ⟨k + 1, a, true, rfl, rfl, by go_num, rfl, by omega, by omega, by omega, Lib.hid HN.out, rfl⟩
       | false =>
        rw [hin, Bool.false_or] at HN
        rw [hin] at HI
        clear hin
        by_cases c45 : c = 45
        ·have d2 : (c == 45) = true := beq_iff_eq.2 c45
         rw [d2, Bool.true_or] at HN
         clear c45
         go_wp2_with fail
         refine (HI.out _).mono ?_
         rintro e w' ⟨rfl, rfl⟩
         go_wp2_with fail
         go_roundg (s.size - (k + 1))
         case measure => rw [HK.out]; omega
         case rel => exact ⟨k + 1, a, true, rfl, rfl, by go_num, rfl, by omega, by omega, by omega, Lib.hid HN.out, rfl⟩
        ·have d2 : (c == 45) = false := beq_eq_false_iff_ne.2 c45
         rw [d2, Bool.false_or] at HN
         clear c45
         by_cases c46 : c = 46
         ·have d3 : (c == 46) = true := beq_iff_eq.2 c46
          rw [d3, Bool.true_and] at HN
          clear c46
          by_cases hge : a ≥ 0
          ·have d4 : decide (a ≥ 0) = true := decide_eq_true hge
           rw [d4] at HN
           go_wp2_with fail
           refine (HI.out _).mono ?_
           rintro e w' ⟨rfl, rfl⟩
           go_wp2_with fail
           go_roundg (s.size - (k + 1))
           case measure => rw [HK.out]; omega
           case rel => exact ⟨k + 1, a, true, rfl, rfl, by go_num, rfl, by omega, by omega, by omega, Lib.hid HN.out, rfl⟩
          ·have d4 : decide (a ≥ 0) = false := decide_eq_false hge
           rw [d4] at HN
           go_wp2_with fail
           refine (HI.out _).mono ?_
           rintro e w' ⟨rfl, rfl⟩
           go_wp2_with fail
           go_roundg (s.size - (k + 1))
           case measure => rw [HK.out]; omega
           case rel => exact ⟨k + 1, a, false, rfl, rfl, by go_num, rfl, by omega, by omega, by omega, Lib.hid HN.out, rfl⟩
         ·have d3 : (c == 46) = false := beq_eq_false_iff_ne.2 c46
          rw [d3, Bool.false_and] at HN
          clear c46
          go_wp2_with fail
          refine (HI.out _).mono ?_
          rintro e w' ⟨rfl, rfl⟩
          go_wp2_with fail
          go_roundg (s.size - (k + 1))
          case measure => rw [HK.out]; omega
          case rel => exact ⟨k + 1, a, false, rfl, rfl, by go_num, rfl, by omega, by omega, by omega, Lib.hid HN.out, rfl⟩
    ·have hks : k = s.size := by omega
     have hn := HN.out
     rw [bs_end s k (by omega)] at hn
     have hn : (a, g) = R := hn
     rw [← hn] at HNO
     clear hn HN
     have hno := HNO.out
     simp only at hno
     have d0 : decide ((k : Int) < (s.size : Int)) = false := decide_eq_false (by omega)
     cases hok : nodeOk s with
     | true =>
      rw [hok] at hno
      have HB : Hid (nodeBad s = []) := Lib.hid (by unfold nodeBad; rw [hok]; rfl)
      have hg : g = true ∧ ¬ a < 1 ∧ ¬ a = (s.size : Int) - 1 := by
       simpa [Bool.and_assoc] using hno.symm
      obtain ⟨rfl, h1, h2⟩ := hg
      have d1 : decide (a < 1) = false := decide_eq_false h1
      have d2 : (a == (s.size : Int) - 1) = false := beq_eq_false_iff_ne.2 h2
      have y0 : (0 : Int) ≤ a := by omega
      have y1 : a ≤ (s.size : Int) := by omega
      have y2 : (0 : Int) ≤ a + 1 := by omega
      have y3 : a + 1 ≤ (s.size : Int) := by omega
      clear hno h1 h2 hok HNO hks
      go_wp2_with fail
      go_quiet (fail)
      go_wp2_with fail
      go_ret3
      exact ⟨_, _, _, rfl, by rw [HB.out]; exact LnIs.nil _ _, by repeat (first | exact Below.refl _ _ | apply pw_below_drewN)⟩
     | false =>
      rw [hok] at hno
      have HB : Hid (nodeBad s = [⟨nAtom, 0, 24⟩]) := Lib.hid (by unfold nodeBad; rw [hok]; rfl)
      have hcase : g = false ∨ (g = true ∧ a < 1) ∨ (g = true ∧ ¬ a < 1 ∧ a = (s.size : Int) - 1) := by
       cases g with
       | false => exact .inl rfl
       | true =>
        by_cases h1 : a < 1
        ·exact .inr (.inl ⟨rfl, h1⟩)
        ·refine .inr (.inr ⟨rfl, h1, ?_⟩)
         by_cases h2 : a = (s.size : Int) - 1
         ·exact h2
         ·rw [decide_eq_false h1, beq_eq_false_iff_ne.2 h2] at hno
          cases hno
      clear hno hok HNO hks
      rcases hcase with rfl | ⟨rfl, h1⟩ | ⟨rfl, h1, h2⟩
      ·go_wp2_with fail
       refine (ref01_no _ _ _).mono ?_
       rintro e w1 ⟨v1, rfl, hL, hB⟩
       have HL := Lib.hid hL
       have HB1 := Lib.hid hB
       clear hL hB
       go_wp2_with fail
       go_ret3
       exact ⟨_, _, _, rfl, by rw [HB.out]; exact HL.out, HB1.out⟩
      ·have d1 : decide (a < 1) = true := decide_eq_true h1
       go_wp2_with fail
       refine (ref01_no _ _ _).mono ?_
       rintro e w1 ⟨v1, rfl, hL, hB⟩
       have HL := Lib.hid hL
       have HB1 := Lib.hid hB
       clear hL hB
       go_wp2_with fail
       go_ret3
       exact ⟨_, _, _, rfl, by rw [HB.out]; exact HL.out, HB1.out⟩
      ·have d1 : decide (a < 1) = false := decide_eq_false h1
       have d2 : (a == (s.size : Int) - 1) = true := beq_iff_eq.2 h2
       clear h2
       go_wp2_with fail
       refine (ref01_no _ _ _).mono ?_
       rintro e w1 ⟨v1, rfl, hL, hB⟩
       have HL := Lib.hid hL
       have HB1 := Lib.hid hB
       clear hL hB
       go_wp2_with fail
       go_ret3
       exact ⟨_, _, _, rfl, by rw [HB.out]; exact HL.out, HB1.out⟩
  ·have d64 : decide ((s.size : Int) ≤ 64) = false := decide_eq_false h64
   have hl : lenOk s = false := by unfold lenOk; rw [d3, d64]; rfl
   rw [hl] at HR0
   clear hl
   go_enter Tryz.func96, Tryz.ntmps96
   go_wp2_with fail
   go_loopg [5, 6, 7] s.size (fun gk va vg vi wl => ∃ (k : Nat) (a : Int) (g : Bool), va = .int .i64 a ∧ vg = .bool g ∧ vi = .int .i64 (k : Int) ∧ gk = s.size - k ∧ k ≤ s.size ∧ -1 ≤ a ∧ a < k ∧ Hid (ndRun ((bs s).drop k) (k : Int) a g = R) ∧ wl = w)
   case atStart => exact ⟨0, -1, false, rfl, rfl, rfl, rfl, Nat.zero_le _, by omega, by omega, HR0, rfl⟩
   case round =>
    clear HR0
    obtain ⟨k, a, g, rfl, rfl, rfl, hgk, hk, ha0, ha1, HN, rfl⟩ := hrel
    have HK := Lib.hid hgk
    clear hgk
    by_cases hlt : k < s.size
    ·have hx0 : (0 : Int) ≤ (k : Int) := by omega
     have hx1 : (k : Int) < (s.size : Int) := by omega
     have hbk := btk s k
     have hr := bt_range s (k : Int)
     have hn := HN.out
     clear HN
     rw [bs_drop s k hlt] at hn
     simp only [ndRun] at hn
     generalize bt s (k : Int) = c at hbk hr hn
     have HI := Lib.hid (ref01_InWord c)
     by_cases c64 : c = 64
     ·rw [if_pos c64] at hn
      have d1 : (c == 64) = true := beq_iff_eq.2 c64
      have HN : Hid (ndRun ((bs s).drop (k + 1)) ((k + 1 : Nat) : Int) k (g && decide (a < 0)) = R) := Lib.hid hn
      clear hn c64
      cases g with
      | true =>
       rw [Bool.true_and] at HN
       by_cases hneg : a < 0
       ·rw [decide_eq_true hneg] at HN
        have d2 : decide (a < 0) = true := decide_eq_true hneg
        go_wp2_with fail
        go_roundg (s.size - (k + 1))
        case measure => rw [HK.out]; omega
        case rel => exact ⟨k + 1, k, true, rfl, rfl, by go_num, rfl, by omega, by omega, by omega, Lib.hid HN.out, rfl⟩
       ·rw [decide_eq_false hneg] at HN
        have d2 : decide (a < 0) = false := decide_eq_false hneg
        go_wp2_with fail
        go_roundg (s.size - (k + 1))
        case measure => rw [HK.out]; omega
        case rel => exact ⟨k + 1, k, false, rfl, rfl, by go_num, rfl, by omega, by omega, by omega, Lib.hid HN.out, rfl⟩
      | false =>
       rw [Bool.false_and] at HN
       go_wp2_with fail
       go_roundg (s.size - (k + 1))
       case measure => rw [HK.out]; omega
       case rel => exact ⟨k + 1, k, false, rfl, rfl, by go_num, rfl, by omega, by omega, by omega, Lib.hid HN.out, rfl⟩
     ·rw [if_neg c64] at hn
      have d1 : (c == 64) = false := beq_eq_false_iff_ne.2 c64
      have HN : Hid (ndRun ((bs s).drop (k + 1)) ((k + 1 : Nat) : Int) a (g && (isIn c || c == 45 || (c == 46 && decide (a ≥ 0)))) = R) := Lib.hid hn
      clear hn c64
      cases g with
      | false =>
       rw [Bool.false_and] at HN
       go_wp2_with fail
       go_roundg (s.size - (k + 1))
       case measure => rw [HK.out]; omega
       case rel => exact ⟨k + 1, a, false, rfl, rfl, by go_num, rfl, by omega, by omega, by omega, Lib.hid HN.out, rfl⟩
      | true =>
       rw [Bool.true_and] at HN
       cases hin : isIn c with
       | true =>
        rw [hin, Bool.true_or, Bool.true_or] at HN
        rw [hin] at HI
        clear hin
        go_wp2_with fail
        refine (HI.out _).mono ?_
        rintro e w' ⟨rfl, rfl⟩
        go_wp2_with fail
        go_roundg (s.size - (k + 1))
        case measure => rw [HK.out]; omega
        case rel => exact ⟨k + 1, a, true, rfl, rfl, by go_num, rfl, by omega, by omega, by omega, Lib.hid HN.out, rfl⟩
       | false =>
        rw [hin, Bool.false_or] at HN
        rw [hin] at HI
        clear hin
        by_cases c45 : c = 45
        ·have d2 : (c == 45) = true := beq_iff_eq.2 c45
         rw [d2, Bool.true_or] at HN
         clear c45
         go_wp2_with fail
         refine (HI.out _).mono ?_
         rintro e w' ⟨rfl, rfl⟩
         go_wp2_with fail
         go_roundg (s.size - (k + 1))
         case measure => rw [HK.out]; omega
         case rel => exact ⟨k + 1, a, true, rfl, rfl, by go_num, rfl, by omega, by omega, by omega, Lib.hid HN.out, rfl⟩
        ·have d2 : (c == 45) = false := beq_eq_false_iff_ne.2 c45
         rw [d2, Bool.false_or] at HN
         clear c45
         by_cases c46 : c = 46
         ·have d3 : (c == 46) = true := beq_iff_eq.2 c46
          rw [d3, Bool.true_and] at HN
          clear c46
          by_cases hge : a ≥ 0
          ·have d4 : decide (a ≥ 0) = true := decide_eq_true hge
           rw [d4] at HN
           go_wp2_with fail
           refine (HI.out _).mono ?_
           rintro e w' ⟨rfl, rfl⟩
           go_wp2_with fail
           go_roundg (s.size - (k + 1))
           case measure => rw [HK.out]; omega
           case rel => exact ⟨k + 1, a, true, rfl, rfl, by go_num, rfl, by omega, by omega, by omega, Lib.hid HN.out, rfl⟩
          ·have d4 : decide (a ≥ 0) = false := decide_eq_false hge
           rw [d4] at HN
           go_wp2_with fail
           refine (HI.out _).mono ?_
           rintro e w' ⟨rfl, rfl⟩
           go_wp2_with fail
           go_roundg (s.size - (k + 1))
           case measure => rw [HK.out]; omega
           case rel => exact ⟨k + 1, a, false, rfl, rfl, by go_num, rfl, by omega, by omega, by omega, Lib.hid HN.out, rfl⟩
         ·have d3 : (c == 46) = false := beq_eq_false_iff_ne.2 c46
          rw [d3, Bool.false_and] at HN
          clear c46
          go_wp2_with fail
          refine (HI.out _).mono ?_
          rintro e w' ⟨rfl, rfl⟩
          go_wp2_with fail
          go_roundg (s.size - (k + 1))
          case measure => rw [HK.out]; omega
          case rel => exact ⟨k + 1, a, false, rfl, rfl, by go_num, rfl, by omega, by omega, by omega, Lib.hid HN.out, rfl⟩
    ·have hks : k = s.size := by omega
     have hn := HN.out
     rw [bs_end s k (by omega)] at hn
     have hn : (a, g) = R := hn
     rw [← hn] at HNO
     clear hn HN
     have hno := HNO.out
     simp only at hno
     have d0 : decide ((k : Int) < (s.size : Int)) = false := decide_eq_false (by omega)
     cases hok : nodeOk s with
     | true =>
      rw [hok] at hno
      have HB : Hid (nodeBad s = []) := Lib.hid (by unfold nodeBad; rw [hok]; rfl)
      have hg : g = true ∧ ¬ a < 1 ∧ ¬ a = (s.size : Int) - 1 := by
       simpa [Bool.and_assoc] using hno.symm
      obtain ⟨rfl, h1, h2⟩ := hg
      have d1 : decide (a < 1) = false := decide_eq_false h1
      have d2 : (a == (s.size : Int) - 1) = false := beq_eq_false_iff_ne.2 h2
      have y0 : (0 : Int) ≤ a := by omega
      have y1 : a ≤ (s.size : Int) := by omega
      have y2 : (0 : Int) ≤ a + 1 := by omega
      have y3 : a + 1 ≤ (s.size : Int) := by omega
      clear hno h1 h2 hok HNO hks
      go_wp2_with fail
      go_quiet (fail)
      go_wp2_with fail
      go_ret3
      exact ⟨_, _, _, rfl, by rw [HB.out]; exact LnIs.nil _ _, by repeat (first | exact Below.refl _ _ | apply pw_below_drewN)⟩
     | false =>
      rw [hok] at hno
      have HB : Hid (nodeBad s = [⟨nAtom, 0, 24⟩]) := Lib.hid (by unfold nodeBad; rw [hok]; rfl)
      have hcase : g = false ∨ (g = true ∧ a < 1) ∨ (g = true ∧ ¬ a < 1 ∧ a = (s.size : Int) - 1) := by
       cases g with
       | false => exact .inl rfl
       | true =>
        by_cases h1 : a < 1
        ·exact .inr (.inl ⟨rfl, h1⟩)
        ·refine .inr (.inr ⟨rfl, h1, ?_⟩)
         by_cases h2 : a = (s.size : Int) - 1
         ·exact h2
         ·rw [decide_eq_false h1, beq_eq_false_iff_ne.2 h2] at hno
          cases hno
      clear hno hok HNO hks
      rcases hcase with rfl | ⟨rfl, h1⟩ | ⟨rfl, h1, h2⟩
      ·go_wp2_with fail
       refine (ref01_no _ _ _).mono ?_
       rintro e w1 ⟨v1, rfl, hL, hB⟩
       have HL := Lib.hid hL
       have HB1 := Lib.hid hB
       clear hL hB
       go_wp2_with fail
       go_ret3
       exact ⟨_, _, _, rfl, by rw [HB.out]; exact HL.out, HB1.out⟩
      ·have d1 : decide (a < 1) = true := decide_eq_true h1
       go_wp2_with fail
       refine (ref01_no _ _ _).mono ?_
       rintro e w1 ⟨v1, rfl, hL, hB⟩
       have HL := Lib.hid hL
       have HB1 := Lib.hid hB
       clear hL hB
       go_wp2_with fail
       go_ret3
       exact ⟨_, _, _, rfl, by rw [HB.out]; exact HL.out, HB1.out⟩
      ·have d1 : decide (a < 1) = false := decide_eq_false h1
       have d2 : (a == (s.size : Int) - 1) = true := beq_iff_eq.2 h2
       clear h2
       go_wp2_with fail
       refine (ref01_no _ _ _).mono ?_
       rintro e w1 ⟨v1, rfl, hL, hB⟩
       have HL := Lib.hid hL
       have HB1 := Lib.hid hB
       clear hL hB
       go_wp2_with fail
       go_ret3
       exact ⟨_, _, _, rfl, by rw [HB.out]; exact HL.out, HB1.out⟩
 ·have d3 : decide ((s.size : Int) ≥ 3) = false := decide_eq_false h3
  have hl : lenOk s = false := by unfold lenOk; rw [d3]; rfl
  rw [hl] at HR0
  clear hl
  go_enter Tryz.func96, Tryz.ntmps96
  go_wp2_with fail
  go_loopg [5, 6, 7] s.size (fun gk va vg vi wl => ∃ (k : Nat) (a : Int) (g : Bool), va = .int .i64 a ∧ vg = .bool g ∧ vi = .int .i64 (k : Int) ∧ gk = s.size - k ∧ k ≤ s.size ∧ -1 ≤ a ∧ a < k ∧ Hid (ndRun ((bs s).drop k) (k : Int) a g = R) ∧ wl = w)
  case atStart => exact ⟨0, -1, false, rfl, rfl, rfl, rfl, Nat.zero_le _, by omega, by omega, HR0, rfl⟩
  case round =>
   clear HR0
   obtain ⟨k, a, g, rfl, rfl, rfl, hgk, hk, ha0, ha1, HN, rfl⟩ := hrel
   have HK := Lib.hid hgk
   clear hgk
   by_cases hlt : k < s.size
   ·have hx0 : (0 : Int) ≤ (k : Int) := by omega
    have hx1 : (k : Int) < (s.size : Int) := by omega
    have hbk := btk s k
    have hr := bt_range s (k : Int)
    have hn := HN.out
    clear HN
    rw [bs_drop s k hlt] at hn
    simp only [ndRun] at hn
    generalize bt s (k : Int) = c at hbk hr hn
    have HI := Lib.hid (ref01_InWord c)
    by_cases c64 : c = 64
    ·rw [if_pos c64] at hn
     have d1 : (c == 64) = true := beq_iff_eq.2 c64
     have HN : Hid (ndRun ((bs s).drop (k + 1)) ((k + 1 : Nat) : Int) k (g && decide (a < 0)) = R) := Lib.hid hn
     clear hn c64
     cases g with
     | true =>
      rw [Bool.true_and] at HN
      by_cases hneg : a < 0
      ·rw [decide_eq_true hneg] at HN
       have d2 : decide (a < 0) = true := decide_eq_true hneg
       go_wp2_with fail
       go_roundg (s.size - (k + 1))
       case measure => rw [HK.out]; omega
       case rel => exact ⟨k + 1, k, true, rfl, rfl, by go_num, rfl, by omega, by omega, by omega, Lib.hid HN.out, rfl⟩
      ·rw [decide_eq_false hneg] at HN
       have d2 : decide (a < 0) = false := decide_eq_false hneg
       go_wp2_with fail
       go_roundg (s.size - (k + 1))
       case measure => rw [HK.out]; omega
       case rel => exact ⟨k + 1, k, false, rfl, rfl, by go_num, rfl, by omega, by omega, by omega, Lib.hid HN.out, rfl⟩
     | false =>
      rw [Bool.false_and] at HN
      go_wp2_with fail
      go_roundg (s.size - (k + 1))
      case measure => rw [HK.out]; omega
      case rel => exact ⟨k + 1, k, false, rfl, rfl, by go_num, rfl, by omega, by omega, by omega, Lib.hid HN.out, rfl⟩
    ·rw [if_neg c64] at hn
     have d1 : (c == 64) = false := beq_eq_false_iff_ne.2 c64
     have HN : Hid (ndRun ((bs s).drop (k + 1)) ((k + 1 : Nat) : Int) a (g && (isIn c || c == 45 || (c == 46 && decide (a ≥ 0)))) = R) := Lib.hid hn
     clear hn c64
     cases g with
     | false =>
      rw [Bool.false_and] at HN
      go_wp2_with fail
      go_roundg (s.size - (k + 1))
      case measure => rw [HK.out]; omega
      case rel => exact ⟨k + 1, a, false, rfl, rfl, by go_num, rfl, by omega, by omega, by omega, Lib.hid HN.out, rfl⟩
     | true =>
      rw [Bool.true_and] at HN
      cases hin : isIn c with
      | true =>
       rw [hin, Bool.true_or, Bool.true_or] at HN
       rw [hin] at HI
       clear hin
       go_wp2_with fail
       refine (HI.out _).mono ?_
       rintro e w' ⟨rfl, rfl⟩
       go_wp2_with fail
       go_roundg (s.size - (k + 1))
       case measure => rw [HK.out]; omega
       case rel => exact ⟨k + 1, a, true, rfl, rfl, by go_num, rfl, by omega, by omega, by omega, Lib.hid HN.out, rfl⟩
      | false =>
       rw [hin, Bool.false_or] at HN
       rw [hin] at HI
       clear hin
       by_cases c45 : c = 45
       ·have d2 : (c == 45) = true := beq_iff_eq.2 c45
        rw [d2, Bool.true_or] at HN
        clear c45
        go_wp2_with fail
        refine (HI.out _).mono ?_
        rintro e w' ⟨rfl, rfl⟩
        go_wp2_with fail
        go_roundg (s.size - (k + 1))
        case measure => rw [HK.out]; omega
        case rel => exact ⟨k + 1, a, true, rfl, rfl, by go_num, rfl, by omega, by omega, by omega, Lib.hid HN.out, rfl⟩
       ·have d2 : (c == 45) = false := beq_eq_false_iff_ne.2 c45
        rw [d2, Bool.false_or] at HN
        clear c45
        by_cases c46 : c = 46
        ·have d3 : (c == 46) = true := beq_iff_eq.2 c46
         rw [d3, Bool.true_and] at HN
         clear c46
         by_cases hge : a ≥ 0
         ·have d4 : decide (a ≥ 0) = true := decide_eq_true hge
          rw [d4] at HN
          go_wp2_with fail
          refine (HI.out _).mono ?_
          rintro e w' ⟨rfl, rfl⟩
          go_wp2_with fail
          go_roundg (s.size - (k + 1))
          case measure => rw [HK.out]; omega
          case rel => exact ⟨k + 1, a, true, rfl, rfl, by go_num, rfl, by omega, by omega, by omega, Lib.hid HN.out, rfl⟩
         ·have d4 : decide (a ≥ 0) = false := decide_eq_false hge
          rw [d4] at HN
          go_wp2_with fail
          refine (HI.out _).mono ?_
          rintro e w' ⟨rfl, rfl⟩
          go_wp2_with fail
          go_roundg (s.size - (k + 1))
          case measure => rw [HK.out]; omega
          case rel => exact ⟨k + 1, a, false, rfl, rfl, by go_num, rfl, by omega, by omega, by omega, Lib.hid HN.out, rfl⟩
        ·have d3 : (c == 46) = false := beq_eq_false_iff_ne.2 c46
         rw [d3, Bool.false_and] at HN
         clear c46
         go_wp2_with fail
         refine (HI.out _).mono ?_
         rintro e w' ⟨rfl, rfl⟩
         go_wp2_with fail
         go_roundg (s.size - (k + 1))
         case measure => rw [HK.out]; omega
         case rel => exact ⟨k + 1, a, false, rfl, rfl, by go_num, rfl, by omega, by omega, by omega, Lib.hid HN.out, rfl⟩
   ·have hks : k = s.size := by omega
    have hn := HN.out
    rw [bs_end s k (by omega)] at hn
    have hn : (a, g) = R := hn
    rw [← hn] at HNO
    clear hn HN
    have hno := HNO.out
    simp only at hno
    have d0 : decide ((k : Int) < (s.size : Int)) = false := decide_eq_false (by omega)
    cases hok : nodeOk s with
    | true =>
     rw [hok] at hno
     have HB : Hid (nodeBad s = []) := Lib.hid (by unfold nodeBad; rw [hok]; rfl)
     have hg : g = true ∧ ¬ a < 1 ∧ ¬ a = (s.size : Int) - 1 := by
      simpa [Bool.and_assoc] using hno.symm
     obtain ⟨rfl, h1, h2⟩ := hg
     have d1 : decide (a < 1) = false := decide_eq_false h1
     have d2 : (a == (s.size : Int) - 1) = false := beq_eq_false_iff_ne.2 h2
     have y0 : (0 : Int) ≤ a := by omega
     have y1 : a ≤ (s.size : Int) := by omega
     have y2 : (0 : Int) ≤ a + 1 := by omega
     have y3 : a + 1 ≤ (s.size : Int) := by omega
     clear hno h1 h2 hok HNO hks
     go_wp2_with fail
     go_quiet (fail)
     go_wp2_with fail
     go_ret3
     exact ⟨_, _, _, rfl, by rw [HB.out]; exact LnIs.nil _ _, by repeat (first | exact Below.refl _ _ | apply pw_below_drewN)⟩
    | false =>
     rw [hok] at hno
     have HB : Hid (nodeBad s = [⟨nAtom, 0, 24⟩]) := Lib.hid (by unfold nodeBad; rw [hok]; rfl)
     have hcase : g = false ∨ (g = true ∧ a < 1) ∨ (g = true ∧ ¬ a < 1 ∧ a = (s.size : Int) - 1) := by
      cases g with
      | false => exact .inl rfl
      | true =>
       by_cases h1 : a < 1
       ·exact .inr (.inl ⟨rfl, h1⟩)
       ·refine .inr (.inr ⟨rfl, h1, ?_⟩)
        by_cases h2 : a = (s.size : Int) - 1
        ·exact h2
        ·rw [decide_eq_false h1, beq_eq_false_iff_ne.2 h2] at hno
         cases hno
     clear hno hok HNO hks
     rcases hcase with rfl | ⟨rfl, h1⟩ | ⟨rfl, h1, h2⟩
     ·go_wp2_with fail
      refine (ref01_no _ _ _).mono ?_
      rintro e w1 ⟨v1, rfl, hL, hB⟩
      have HL := Lib.hid hL
      have HB1 := Lib.hid hB
      clear hL hB
      go_wp2_with fail
      go_ret3
      exact ⟨_, _, _, rfl, by rw [HB.out]; exact HL.out, HB1.out⟩
     ·have d1 : decide (a < 1) = true := decide_eq_true h1
      go_wp2_with fail
      refine (ref01_no _ _ _).mono ?_
      rintro e w1 ⟨v1, rfl, hL, hB⟩
      have HL := Lib.hid hL
      have HB1 := Lib.hid hB
      clear hL hB
      go_wp2_with fail
      go_ret3
      exact ⟨_, _, _, rfl, by rw [HB.out]; exact HL.out, HB1.out⟩
     ·have d1 : decide (a < 1) = false := decide_eq_false h1
      have d2 : (a == (s.size : Int) - 1) = true := beq_iff_eq.2 h2
      clear h2
      go_wp2_with fail
      refine (ref01_no _ _ _).mono ?_
      rintro e w1 ⟨v1, rfl, hL, hB⟩
      have HL := Lib.hid hL
      have HB1 := Lib.hid hB
      clear hL hB
      go_wp2_with fail
      go_ret3
      exact ⟨_, _, _, rfl, by rw [HB.out]; exact HL.out, HB1.out⟩
end Go.Proofs.YtibbcfeaododhaaGreatDoor
namespace Go.Proofs.YtibbcfeaododhaaGreatDoor
open Go.RowKit Go.Proofs.YtibbcfeaododhaaGreatDoorW.PrintWords
/-! ### strings.Cut at a separator of one byte -/
theorem cut_one (s : ByteArray) (c : UInt8) (hm : s.size ≤ 140737488351232) (w : World) :
  Calls Tryz.prog 183 #[.string s, .string ⟨#[c]⟩] w fun e w' => (∃ k : Nat, Lib.indexByte s.data.toList c = (k : Int) ∧ k < s.size ∧ e = .returned (.tuple #[.string (s.extract 0 k), .string (s.extract (k + 1) s.size), .bool true]) ∨ Lib.indexByte s.data.toList c < 0 ∧ e = .returned (.tuple #[.string s, .string ⟨#[]⟩, .bool false])) ∧ Below w.heap.size w w' := by
 have HI := Lib.hid (Tryz.stringslite_Index_one s c)
 have hge := Lib.indexByte_ge s.data.toList c
 have hlt : ∀ k : Nat, Lib.indexByte s.data.toList c = (k : Int) → k < s.size := by
  intro k hk
  have := (Lib.indexByte_some hk).1
  rw [Lib.size_eq]
  exact (List.getElem?_eq_some_iff.1 this).1
 generalize Lib.indexByte s.data.toList c = I at HI hge hlt ⊢
 by_cases h0 : 0 ≤ I
 ·obtain ⟨k, rfl⟩ := Int.eq_ofNat_of_zero_le h0
  have hk := hlt k rfl
  clear hlt hge
  have d0 : decide ((k : Int) ≥ 0) = true := decide_eq_true h0
  have y1 : (k : Int) ≤ (s.size : Int) := by omega
  have y2 : (0 : Int) ≤ (k : Int) + 1 := by omega
  have y3 : (k : Int) + 1 ≤ (s.size : Int) := by omega
  go_enter Tryz.func183, Tryz.ntmps183
  go_wp2_with fail
  refine (HI.out _).mono ?_
  rintro e w1 ⟨rfl, rfl⟩
  go_wp2_with fail
  go_quiet (fail)
  go_wp2_with fail
  go_ret3
  exact ⟨⟨k, .inl ⟨rfl, hk, by simp⟩⟩, by repeat (first | exact Below.refl _ _ | apply pw_below_drewN)⟩
 ·have d0 : decide (I ≥ 0) = false := decide_eq_false h0
  clear hlt hge
  go_enter Tryz.func183, Tryz.ntmps183
  go_wp2_with fail
  refine (HI.out _).mono ?_
  rintro e w1 ⟨rfl, rfl⟩
  go_wp2_with fail
  go_ret3
  exact ⟨⟨0, .inr ⟨by omega, rfl⟩⟩, Below.refl _ _⟩
/-- A name's two parts, as they are cut. -/
def CutOk (s N H : ByteArray) (ok : Bool) : Prop :=
 N.size ≤ s.size ∧ H.size ≤ s.size ∧ nodeOk s = (ok && decide (0 < N.size) && decide (0 < H.size) && decide (s.size ≤ 64) && !decide (0 ≤ Lib.indexByte H.data.toList 64) && (bs N).all inName && (bs H).all inHost)
theorem index_len : ∀ (l : List UInt8), (Lib.indexByte l 64 = -1 ∧ nodeLen (l.map fun c => (c.toNat : Int)) = l.length) ∨ (Lib.indexByte l 64 = (nodeLen (l.map fun c => (c.toNat : Int)) : Nat) ∧ nodeLen (l.map fun c => (c.toNat : Int)) < l.length)
  | [] => .inl ⟨rfl, rfl⟩
  | b :: l => by
    by_cases hb : b = 64
    · right
      subst hb
      have e : nodeLen (((64 : UInt8) :: l).map fun c => (c.toNat : Int)) = 0 := tw_no (by decide)
      rw [e]
      exact ⟨rfl, by simp⟩
    · have h64 : ((b.toNat : Int) != 64) = true := by
        rw [bne_iff_ne]
        intro h
        exact hb (UInt8.toNat_inj.1 (by have : b.toNat = 64 := by omega
                                        rw [this]; rfl))
      have e : nodeLen ((b :: l).map fun c => (c.toNat : Int)) = nodeLen (l.map fun c => (c.toNat : Int)) + 1 := tw_yes h64
      have hbe : (b == 64) = false := beq_eq_false_iff_ne.2 hb
      rw [e, Lib.indexByte, hbe]
      simp only [Bool.false_eq_true, if_false]
      rcases index_len l with ⟨h1, h2⟩ | ⟨h1, h2⟩
      · left
        rw [h1]
        exact ⟨rfl, by simp [h2]⟩
      · right
        rw [h1, if_neg (by simp)]
        exact ⟨by simp, by simpa using h2⟩
theorem bs_data' (x : ByteArray) : bs x = x.data.toList.map fun c => (c.toNat : Int) := by
 apply List.ext_getElem
 ·rw [bs_len, List.length_map, Lib.size_eq]
 ·intro i h1 h2
  rw [bs_len] at h1
  rw [bs_get _ i h1, ← btk _ i h1, List.getElem_map]
  rfl
theorem bs_cut' (s : ByteArray) (a b : Nat) : bs (s.extract a b) = ((bs s).drop a).take (b - a) := by
 rw [bs_data', bs_data', ← List.map_drop, ← List.map_take]
 congr 1
 simp [List.extract_eq_take_drop]
theorem index_has (H : ByteArray) : decide (0 ≤ Lib.indexByte H.data.toList 64) = (bs H).contains 64 := by
 rw [bs_data', Bool.eq_iff_iff, decide_eq_true_eq, List.contains_iff_mem, List.mem_map]
 constructor
 ·intro h
  obtain ⟨o, ho⟩ := Int.eq_ofNat_of_zero_le h
  have := (Lib.indexByte_some ho).1
  exact ⟨64, List.mem_of_getElem? this, rfl⟩
 ·rintro ⟨c, hc, h⟩
  have : c = 64 := UInt8.toNat_inj.1 (show c.toNat = 64 by omega)
  subst this
  have hge := Lib.indexByte_ge H.data.toList 64
  by_cases h1 : Lib.indexByte H.data.toList 64 = -1
  ·obtain ⟨k, hk, he⟩ := List.getElem_of_mem hc
   exact absurd (by rw [List.getElem?_eq_getElem hk, he]) (Lib.indexByte_none h1 k)
  ·omega
theorem cutOk_some {s : ByteArray} {k : Nat} (h : Lib.indexByte s.data.toList 64 = (k : Int)) (hk : k < s.size) : CutOk s (s.extract 0 k) (s.extract (k + 1) s.size) true := by
 have hn : nodeLen (bs s) = k := by
  rw [bs_data']
  rcases index_len s.data.toList with ⟨h1, _⟩ | ⟨h1, _⟩
  ·omega
  ·omega
 have e1 : bs (s.extract 0 k) = (bs s).take k := by rw [bs_cut']; simp
 have e2 : bs (s.extract (k + 1) s.size) = (bs s).drop (k + 1) := by
  rw [bs_cut', List.take_of_length_le (by rw [List.length_drop, bs_len]; omega)]
 have s1 : (s.extract 0 k).size = k := by simp; omega
 have s2 : (s.extract (k + 1) s.size).size = s.size - (k + 1) := by simp
 refine ⟨by omega, by omega, ?_⟩
 rw [index_has, e1, e2, s1, s2]
 unfold nodeOk nodeOkL
 rw [hn, bs_len, Bool.eq_iff_iff]
 simp only [Bool.and_eq_true, decide_eq_true_eq, Bool.true_and]
 constructor
 ·rintro ⟨⟨⟨⟨⟨⟨a1, a2⟩, a3⟩, a4⟩, a5⟩, a6⟩, a7⟩
  exact ⟨⟨⟨⟨⟨a2, by omega⟩, a4⟩, a5⟩, a6⟩, a7⟩
 ·rintro ⟨⟨⟨⟨⟨a2, a3⟩, a4⟩, a5⟩, a6⟩, a7⟩
  exact ⟨⟨⟨⟨⟨⟨hk, a2⟩, by omega⟩, a4⟩, a5⟩, a6⟩, a7⟩
theorem cutOk_none {s : ByteArray} (h : Lib.indexByte s.data.toList 64 < 0) : CutOk s s ⟨#[]⟩ false := by
 refine ⟨Nat.le_refl _, Nat.zero_le _, ?_⟩
 have hn : ¬ nodeLen (bs s) < s.size := by
  rw [bs_data', Lib.size_eq]
  rcases index_len s.data.toList with ⟨h1, h2⟩ | ⟨h1, _⟩
  ·omega
  ·omega
 unfold nodeOk nodeOkL
 rw [bs_len]
 simp [hn]
theorem strings_Cut_at (s : ByteArray) (hm : s.size ≤ 140737488351232) (w : World) :
  Calls Tryz.prog 150 #[.string s, .string ⟨#[64]⟩] w fun e w' => (∃ N H ok, e = .returned (.tuple #[.string N, .string H, .bool ok]) ∧ CutOk s N H ok) ∧ Below w.heap.size w w' := by
 have HC := Lib.hid (cut_one s 64 hm)
 go_enter Tryz.func150, Tryz.ntmps150
 go_wp2_with fail
 refine (HC.out _).mono ?_
 rintro e w1 ⟨⟨k, h⟩, hB⟩
 have HB := Lib.hid hB
 clear hB
 rcases h with ⟨h1, h2, rfl⟩ | ⟨h1, rfl⟩
 ·have HO := Lib.hid (cutOk_some h1 h2)
  clear h1 h2
  go_wp2_with fail
  go_ret3
  exact ⟨⟨_, _, _, rfl, HO.out⟩, HB.out⟩
 ·have HO := Lib.hid (cutOk_none h1)
  clear h1
  go_wp2_with fail
  go_ret3
  exact ⟨⟨_, _, _, rfl, HO.out⟩, HB.out⟩
/-! ### atom.Node -/
def NodePost (w : World) (l : List Lk) (e : Ending) (w' : World) : Prop := ∃ (r1 r2 : ByteArray) (v : Value), e = .returned (.tuple #[.string r1, .string r2, v]) ∧ ErrIs w' l v ∧ Below w.heap.size w w'
def nodeHead (s N H : ByteArray) (ok : Bool) : Bool := ok && decide (0 < N.size) && decide (0 < H.size) && decide (s.size ≤ 64) && !decide (0 ≤ Lib.indexByte H.data.toList 64)
set_option maxRecDepth 100000 in
set_option maxHeartbeats 8000000 in
theorem atom_Node (s : ByteArray) (hm : s.size ≤ 140737488351232) (w : World) :
  Calls Tryz.prog 101 #[.string s] w (NodePost w (nodeBad s)) := by
 have HC := Lib.hid (strings_Cut_at s hm)
 obtain ⟨F2, hF2⟩ : ∃ F, F = nodeBad s := ⟨_, rfl⟩
 rw [← hF2]
 have HF2 := Lib.hid hF2
 clear hF2
 go_enter Tryz.func101, Tryz.ntmps101
 go_wp2_with fail
 refine (HC.out _).mono ?_
 rintro e w1 ⟨⟨N, H, ok, rfl, hO⟩, hB⟩
 have HO := Lib.hid hO
 have HB := Lib.hid hB
 have HCO := Lib.hid (Tryz.strings_Contains_one H 64)
 clear hO hB
 obtain ⟨g0, hg0⟩ : ∃ g, g = nodeHead s N H ok := ⟨_, rfl⟩
 have HG := Lib.hid hg0
 clear hg0
 go_upto_region 2 with (fail)
 go_cut [8] from 13 (fun v8 w' => v8 = .bool g0 ∧ w' = w1)
 case first =>
  cases ok with
  | false =>
   go_wp2_with fail
   go_meet
   case rel => exact ⟨by rw [HG.out]; unfold nodeHead; simp [Bool.false_and], rfl⟩
  | true =>
   by_cases hN : N.size = 0
   ·have hN1 := isEmpty_of hN
    have hz : Hid (decide (0 < N.size) = false) := Lib.hid (decide_eq_false (by omega))
    clear hN
    go_wp2_with fail
    go_meet
    case rel => exact ⟨by rw [HG.out]; unfold nodeHead; simp [hz.out], rfl⟩
   ·have hN1 := isEmpty_not hN
    have hz : Hid (decide (0 < N.size) = true) := Lib.hid (decide_eq_true (by omega))
    clear hN
    by_cases hH : H.size = 0
    ·have hH1 := isEmpty_of hH
     have hy : Hid (decide (0 < H.size) = false) := Lib.hid (decide_eq_false (by omega))
     clear hH
     go_wp2_with fail
     go_meet
     case rel => exact ⟨by rw [HG.out]; unfold nodeHead; simp [hy.out], rfl⟩
    ·have hH1 := isEmpty_not hH
     have hy : Hid (decide (0 < H.size) = true) := Lib.hid (decide_eq_true (by omega))
     clear hH
     by_cases hs : (s.size : Int) ≤ 64
     ·have d3 : decide ((s.size : Int) ≤ 64) = true := decide_eq_true hs
      have hx : Hid (decide (s.size ≤ 64) = true) := Lib.hid (decide_eq_true (by omega))
      clear hs
      go_wp2_with fail
      refine (HCO.out _).mono ?_
      rintro e w' ⟨rfl, rfl⟩
      go_wp2_with fail
      go_meet
      case rel => exact ⟨by rw [HG.out]; unfold nodeHead; rw [hz.out, hy.out, hx.out]; simp, rfl⟩
     ·have d3 : decide ((s.size : Int) ≤ 64) = false := decide_eq_false hs
      have hx : Hid (decide (s.size ≤ 64) = false) := Lib.hid (decide_eq_false (by omega))
      clear hs
      go_wp2_with fail
      go_meet
      case rel => exact ⟨by rw [HG.out]; unfold nodeHead; simp [hx.out], rfl⟩
 case rest =>
  obtain ⟨rfl, rfl⟩ := hcut
  have HFIN : Hid (nodeOk s = ((g0 && ((bs N).drop 0).all inName) && ((bs H).drop 0).all inHost)) := Lib.hid (by rw [HG.out, List.drop_zero, List.drop_zero]; exact HO.out.2.2)
  have hNs : N.size ≤ 140737488351232 := Nat.le_trans HO.out.1 hm
  have hHs : H.size ≤ 140737488351232 := Nat.le_trans HO.out.2.1 hm
  clear HG HO HCO
  obtain ⟨F1, hF1⟩ : ∃ F, F = (g0 && ((bs N).drop 0).all inName) := ⟨_, rfl⟩
  rw [← hF1] at HFIN
  have HS1 : Hid ((g0 && ((bs N).drop 0).all inName) = F1) := Lib.hid hF1.symm
  clear hF1
  have kb := fun W => print_bytes (P := Tryz.prog) 9 104 5 Tryz.underlying9 Tryz.underlying104 Tryz.underlying5 N W
  go_wp2_with fail
  clear kb
  have HBC := Lib.hid (bytes_cell wc 5 N)
  obtain ⟨w0, hw0⟩ : ∃ W, W = Lib.bytesWorld wc 5 N := ⟨_, rfl⟩
  have HB0 : Hid (Below w.heap.size w w0) := Lib.hid (by rw [hw0]; exact trans_below HB.out (Lib.bytesWorld_below wc 5 N))
  rw [← hw0] at HBC
  rw [← hw0]
  clear hw0
  generalize wc.heap.size = bb at HBC ⊢
  generalize grownCap _ _ _ _ = cp0
  clear HB
  go_loopg [8, 41] N.size (fun gk v8 vi wl => ∃ (k : Nat) (g : Bool), v8 = .bool g ∧ vi = .int .i64 (k : Int) ∧ gk = N.size - k ∧ k ≤ N.size ∧ Hid ((g && ((bs N).drop k).all inName) = F1) ∧ wl = w0)
  case atStart => exact ⟨0, g0, rfl, rfl, rfl, Nat.zero_le _, HS1, rfl⟩
  case round =>
   clear HS1
   obtain ⟨k, g, rfl, rfl, hgk, hk, HN, rfl⟩ := hrel
   have HK := Lib.hid hgk
   clear hgk
   by_cases hlt : k < N.size
   ·have hx0 : (0 : Int) ≤ (k : Int) := by omega
    have hx1 : (k : Int) < (N.size : Int) := by omega
    have hcell := HBC.out k hlt
    have hr := bt_range N (k : Int)
    have hn := HN.out
    clear HN
    rw [bs_drop N k hlt, List.all_cons] at hn
    generalize bt N (k : Int) = c at hcell hr hn
    have HI := Lib.hid (atom_kind c hr.1 hr.2)
    have HN := Lib.hid hn
    clear hn
    cases g with
    | false =>
     rw [Bool.false_and] at HN
     have HN : Hid ((false && ((bs N).drop (k + 1)).all inName) = F1) := Lib.hid HN.out
     go_wp2_with fail
     go_roundg (N.size - (k + 1))
     case measure => rw [HK.out]; omega
     case rel => exact ⟨k + 1, false, rfl, by go_num, rfl, by omega, Lib.hid HN.out, rfl⟩
    | true =>
     rw [Bool.true_and] at HN
     cases hin : isIn c with
     | true =>
      rw [show inName c = true by unfold inName; rw [hin]; rfl, Bool.true_and] at HN
      have HKD : Hid ((kindOf c != 0) = true) := Lib.hid (by rw [kindOf_in, hin])
      have hkd := HKD.out
      generalize kindOf c = kk at HI hkd
      go_wp2_with fail
      refine (HI.out _).mono ?_
      rintro e w' ⟨rfl, rfl⟩
      go_wp2_with fail
      go_roundg (N.size - (k + 1))
      case measure => rw [HK.out]; omega
      case rel => exact ⟨k + 1, true, rfl, by go_num, rfl, by omega, Lib.hid HN.out, rfl⟩
     | false =>
      have HKD : Hid ((kindOf c != 0) = false) := Lib.hid (by rw [kindOf_in, hin])
      by_cases c45 : c = 45
      ·have d2 : (c == 45) = true := beq_iff_eq.2 c45
       rw [show inName c = true by unfold inName; rw [hin, d2]; rfl, Bool.true_and] at HN
       clear hin c45
       have hkd := HKD.out
       generalize kindOf c = kk at HI hkd
       go_wp2_with fail
       refine (HI.out _).mono ?_
       rintro e w' ⟨rfl, rfl⟩
       go_wp2_with fail
       go_roundg (N.size - (k + 1))
       case measure => rw [HK.out]; omega
       case rel => exact ⟨k + 1, true, rfl, by go_num, rfl, by omega, Lib.hid HN.out, rfl⟩
      ·have d2 : (c == 45) = false := beq_eq_false_iff_ne.2 c45
       rw [show inName c = false by unfold inName; rw [hin, d2]; rfl, Bool.false_and] at HN
       clear hin c45
       have hkd := HKD.out
       generalize kindOf c = kk at HI hkd
       go_wp2_with fail
       refine (HI.out _).mono ?_
       rintro e w' ⟨rfl, rfl⟩
       go_wp2_with fail
       go_roundg (N.size - (k + 1))
       case measure => rw [HK.out]; omega
       case rel => exact ⟨k + 1, false, rfl, by go_num, rfl, by omega, Lib.hid HN.out, rfl⟩
   ·
    have HE1 : Hid (g = F1) := Lib.hid (by have h := HN.out; rw [bs_end N k (by omega), List.all_nil, Bool.and_true] at h; exact h)
    have HS2 : Hid ((g && ((bs H).drop 0).all inHost) = nodeOk s) := Lib.hid (by rw [HE1.out]; exact HFIN.out.symm)
    have d0 : decide (k < N.size) = false := decide_eq_false hlt
    clear HN HK HBC HE1 HFIN hk hlt
    obtain ⟨F3, hF3⟩ : ∃ F, F = nodeOk s := ⟨_, rfl⟩
    rw [← hF3] at HS2
    have HF3 := Lib.hid hF3
    clear hF3
    have kb := fun W => print_bytes (P := Tryz.prog) 9 104 5 Tryz.underlying9 Tryz.underlying104 Tryz.underlying5 H W
    go_wp2_with fail
    clear kb d0
    have HBC := Lib.hid (bytes_cell wr 5 H)
    obtain ⟨w5, hw5⟩ : ∃ W, W = Lib.bytesWorld wr 5 H := ⟨_, rfl⟩
    have HB5 : Hid (Below w.heap.size w w5) := Lib.hid (by rw [hw5]; exact trans_below HB0.out (Lib.bytesWorld_below wr 5 H))
    rw [← hw5] at HBC
    rw [← hw5]
    clear hw5
    generalize wr.heap.size = b2 at HBC ⊢
    generalize grownCap _ _ _ _ = cp1
    clear HB0
    go_loopg [8, 59] H.size (fun gk v8 vi wl => ∃ (k : Nat) (g : Bool), v8 = .bool g ∧ vi = .int .i64 (k : Int) ∧ gk = H.size - k ∧ k ≤ H.size ∧ Hid ((g && ((bs H).drop k).all inHost) = F3) ∧ wl = w5)
    case atStart => exact ⟨0, g, rfl, rfl, rfl, Nat.zero_le _, HS2, rfl⟩
    case round =>
     clear HS2
     obtain ⟨k, g, rfl, rfl, hgk, hk, HN, rfl⟩ := hrel
     have HK := Lib.hid hgk
     clear hgk
     by_cases hlt : k < H.size
     ·have hx0 : (0 : Int) ≤ (k : Int) := by omega
      have hx1 : (k : Int) < (H.size : Int) := by omega
      have hcell := HBC.out k hlt
      have hr := bt_range H (k : Int)
      have hn := HN.out
      clear HN
      rw [bs_drop H k hlt, List.all_cons] at hn
      generalize bt H (k : Int) = c at hcell hr hn
      have HI := Lib.hid (atom_kind c hr.1 hr.2)
      have HN := Lib.hid hn
      clear hn
      cases g with
      | false =>
       rw [Bool.false_and] at HN
       have HN : Hid ((false && ((bs H).drop (k + 1)).all inHost) = F3) := Lib.hid HN.out
       go_wp2_with fail
       go_roundg (H.size - (k + 1))
       case measure => rw [HK.out]; omega
       case rel => exact ⟨k + 1, false, rfl, by go_num, rfl, by omega, Lib.hid HN.out, rfl⟩
      | true =>
       rw [Bool.true_and] at HN
       cases hin : isIn c with
       | true =>
        rw [show inHost c = true by unfold inHost; rw [hin]; rfl, Bool.true_and] at HN
        have HKD : Hid ((kindOf c != 0) = true) := Lib.hid (by rw [kindOf_in, hin])
        have hkd := HKD.out
        generalize kindOf c = kk at HI hkd
        go_wp2_with fail
        refine (HI.out _).mono ?_
        rintro e w' ⟨rfl, rfl⟩
        go_wp2_with fail
        go_roundg (H.size - (k + 1))
        case measure => rw [HK.out]; omega
        case rel => exact ⟨k + 1, true, rfl, by go_num, rfl, by omega, Lib.hid HN.out, rfl⟩
       | false =>
        have HKD : Hid ((kindOf c != 0) = false) := Lib.hid (by rw [kindOf_in, hin])
        by_cases c45 : c = 45
        ·have d2 : (c == 45) = true := beq_iff_eq.2 c45
         rw [show inHost c = true by unfold inHost; rw [hin, d2]; rfl, Bool.true_and] at HN
         clear hin c45
         have hkd := HKD.out
         generalize kindOf c = kk at HI hkd
         go_wp2_with fail
         refine (HI.out _).mono ?_
         rintro e w' ⟨rfl, rfl⟩
         go_wp2_with fail
         go_roundg (H.size - (k + 1))
         case measure => rw [HK.out]; omega
         case rel => exact ⟨k + 1, true, rfl, by go_num, rfl, by omega, Lib.hid HN.out, rfl⟩
        ·have d2 : (c == 45) = false := beq_eq_false_iff_ne.2 c45
         by_cases c46 : c = 46
         ·have d3 : (c == 46) = true := beq_iff_eq.2 c46
          rw [show inHost c = true by unfold inHost; rw [hin, d2, d3]; rfl, Bool.true_and] at HN
          clear hin c45 c46
          have hkd := HKD.out
          generalize kindOf c = kk at HI hkd
          go_wp2_with fail
          refine (HI.out _).mono ?_
          rintro e w' ⟨rfl, rfl⟩
          go_wp2_with fail
          go_roundg (H.size - (k + 1))
          case measure => rw [HK.out]; omega
          case rel => exact ⟨k + 1, true, rfl, by go_num, rfl, by omega, Lib.hid HN.out, rfl⟩
         ·have d3 : (c == 46) = false := beq_eq_false_iff_ne.2 c46
          rw [show inHost c = false by unfold inHost; rw [hin, d2, d3]; rfl, Bool.false_and] at HN
          clear hin c45 c46
          have hkd := HKD.out
          generalize kindOf c = kk at HI hkd
          go_wp2_with fail
          refine (HI.out _).mono ?_
          rintro e w' ⟨rfl, rfl⟩
          go_wp2_with fail
          go_roundg (H.size - (k + 1))
          case measure => rw [HK.out]; omega
          case rel => exact ⟨k + 1, false, rfl, by go_num, rfl, by omega, Lib.hid HN.out, rfl⟩
     ·
      have hE : g = F3 := by have h := HN.out; rw [bs_end H k (by omega), List.all_nil, Bool.and_true] at h; exact h
      have d0 : decide (k < H.size) = false := decide_eq_false hlt
      clear HN HK HBC hk hlt
      cases hok : nodeOk s with
      | true =>
       have hb : F2 = [] := by rw [HF2.out]; unfold nodeBad; rw [hok]; rfl
       obtain rfl : g = true := by rw [hE, HF3.out, hok]
       have HBB := Lib.hid hb
       clear hb hE hok HF3 HF2
       go_wp2_with fail
       go_ret3
       exact ⟨_, _, _, rfl, by rw [HBB.out]; rfl, HB5.out⟩
      | false =>
       have hb : F2 = [⟨nAtom, 0, 24⟩] := by rw [HF2.out]; unfold nodeBad; rw [hok]; rfl
       obtain rfl : g = false := by rw [hE, HF3.out, hok]
       have HBB := Lib.hid hb
       clear hb hE hok HF3 HF2
       go_wp2_with fail
       refine (atom_refused _ _ _).mono ?_
       rintro e w6 ⟨v6, rfl, hE6, hB6⟩
       have HE6 := Lib.hid hE6
       have HB6 := Lib.hid (trans_below HB5.out hB6)
       clear hE6 hB6
       go_wp2_with fail
       go_ret3
       exact ⟨_, _, _, rfl, by rw [HBB.out]; exact HE6.out, HB6.out⟩
end Go.Proofs.YtibbcfeaododhaaGreatDoor
namespace Go.Proofs.YtibbcfeaododhaaGreatDoor
open Go.RowKit Go.Proofs.YtibbcfeaododhaaGreatDoorW.PrintWords
theorem tl_nil (s : ByteArray) : s.toList = [] ↔ s.size = 0 := by
 rw [Lib.toList_data, Lib.size_eq]
 exact List.length_eq_zero_iff.symm
set_option maxRecDepth 100000 in
set_option maxHeartbeats 2000000 in
theorem term_empty (t : Tm) (A4 A5 : Option Addr) (c4 c5 : Nat) (b1 b2 b3 : Bool) (w : World) :
  Calls Tryz.prog 164 #[tmV t (.slice A4 t.nums.length c4) (.slice A5 t.args.length c5), .bool b1, .bool b2, .bool b3] w fun e w' => e = .returned (.bool (emptyOk t b1 b2 b3)) ∧ Below w.heap.size w w' := by
 obtain ⟨kd, it, tx, cr, ns, us⟩ := t
 unfold tmV
 simp only
 go_enter Tryz.func164, Tryz.ntmps164
 go_wp2
 all_goals go_ret
 all_goals refine ⟨eb ?_, below_alloc (Below.refl _ _) _⟩
 all_goals simp only [emptyOk]
 all_goals simp_all [tl_nil]
 all_goals (rw [Bool.eq_iff_iff]; simp_all; done)
set_option maxRecDepth 100000 in
set_option maxHeartbeats 8000000 in
theorem term_form (t : Tm) (A4 A5 : Option Addr) (c4 c5 : Nat) (at_ : Int) (w : World) (hR : TmR w t A4 c4 A5 c5) (hm : t.tx.size ≤ 140737488351232) (hG : Glob w) :
  Calls Tryz.prog 120 #[tmV t (.slice A4 t.nums.length c4) (.slice A5 t.args.length c5), .int .i64 at_] w (ErrPost w (formBad t at_)) := by
 unfold tmV
 have HR := Lib.hid hR
 have HG := Lib.hid hG
 have HM := Lib.hid hm
 obtain ⟨F, hF⟩ : ∃ F, F = formBad t at_ := ⟨_, rfl⟩
 rw [← hF]
 have HF := Lib.hid hF
 obtain ⟨S, hS⟩ : ∃ S, S = shapeOk t := ⟨_, rfl⟩
 have HS := Lib.hid hS
 have hlen := hR.g5.2.1
 clear hR hG hm hF
 go_enter Tryz.func120, Tryz.ntmps120
 go_upto_block 0 with (fail)
 go_cut [5] from 7 (fun v5 w' => v5 = .bool S ∧ TmAt w' w.heap.size t (.slice A4 t.nums.length c4) (.slice A5 t.args.length c5) ∧ Below w.heap.size w w')
 case first =>
  unfold shapeOk at hS
  by_cases k1 : t.kd = 1
  ·have d1 : (t.kd == 1) = true := beq_iff_eq.2 k1
   rw [if_pos k1] at hS
   have HQ := Lib.hid hS
   clear hS k1
   go_wp2_with fail
   refine (term_empty t A4 A5 c4 c5 false false false _).mono ?_
   rintro e w1 ⟨rfl, hB⟩
   have HT := Lib.hid ((TmAt.new w t (.slice A4 t.nums.length c4) (.slice A5 t.args.length c5)).below hB (by simp))
   have HB := Lib.hid (trans_below (below_alloc (Below.refl _ _) _) hB)
   clear hB
   go_wp2_with fail
   go_meet
   case rel => exact ⟨by rw [HQ.out], HT.out, HB.out⟩
  ·have d1 : (t.kd == 1) = false := beq_eq_false_iff_ne.2 k1
   rw [if_neg k1] at hS
   clear k1
   by_cases k2 : t.kd = 2
   ·have d2 : (t.kd == 2) = true := beq_iff_eq.2 k2
    rw [if_pos k2] at hS
    have HQ := Lib.hid hS
    clear hS k2
    go_wp2_with fail
    refine (term_empty t A4 A5 c4 c5 true false false _).mono ?_
    rintro e w1 ⟨rfl, hB⟩
    have HT := Lib.hid ((TmAt.new w t (.slice A4 t.nums.length c4) (.slice A5 t.args.length c5)).below hB (by simp))
    have HB := Lib.hid (trans_below (below_alloc (Below.refl _ _) _) hB)
    clear hB
    go_wp2_with fail
    go_meet
    case rel => exact ⟨by rw [HQ.out], HT.out, HB.out⟩
   ·have d2 : (t.kd == 2) = false := beq_eq_false_iff_ne.2 k2
    rw [if_neg k2] at hS
    clear k2
    by_cases k3 : t.kd = 3
    ·have d3 : (t.kd == 3) = true := beq_iff_eq.2 k3
     rw [if_pos k3] at hS
     have HQ := Lib.hid hS
     clear hS k3
     go_wp2_with fail
     refine (term_empty t A4 A5 c4 c5 true true false _).mono ?_
     rintro e w1 ⟨rfl, hB⟩
     have HT := Lib.hid ((TmAt.new w t (.slice A4 t.nums.length c4) (.slice A5 t.args.length c5)).below hB (by simp))
     have HB := Lib.hid (trans_below (below_alloc (Below.refl _ _) _) hB)
     clear hB
     generalize hE : emptyOk t true true false = E at HQ
     clear hE
     cases E with
     | false =>
      rw [Bool.false_and] at HQ
      go_wp2_with fail
      go_meet
      case rel => exact ⟨by rw [HQ.out], HT.out, HB.out⟩
     | true =>
      rw [Bool.true_and] at HQ
      have r4 := HT.out.c4
      by_cases hn : t.nums.length = 3
      ·have dn : ((t.nums.length : Int) == 3) = true := beq_iff_eq.2 (by omega)
       rw [decide_eq_true hn] at HQ
       clear hn
       go_wp2_with fail
       go_meet
       case rel => exact ⟨by rw [HQ.out], HT.out, HB.out⟩
      ·have dn : ((t.nums.length : Int) == 3) = false := beq_eq_false_iff_ne.2 (by omega)
       rw [decide_eq_false hn] at HQ
       clear hn
       go_wp2_with fail
       go_meet
       case rel => exact ⟨by rw [HQ.out], HT.out, HB.out⟩
    ·have d3 : (t.kd == 3) = false := beq_eq_false_iff_ne.2 k3
     rw [if_neg k3] at hS
     clear k3
     by_cases k4 : t.kd = 4
     ·have d4 : (t.kd == 4) = true := beq_iff_eq.2 k4
      rw [if_pos k4] at hS
      have HQ := Lib.hid hS
      clear hS k4
      go_wp2_with fail
      refine (term_empty t A4 A5 c4 c5 true true false _).mono ?_
      rintro e w1 ⟨rfl, hB⟩
      have HT := Lib.hid ((TmAt.new w t (.slice A4 t.nums.length c4) (.slice A5 t.args.length c5)).below hB (by simp))
      have HB := Lib.hid (trans_below (below_alloc (Below.refl _ _) _) hB)
      clear hB
      generalize hE : emptyOk t true true false = E at HQ
      clear hE
      cases E with
      | false =>
       rw [Bool.false_and] at HQ
       go_wp2_with fail
       go_meet
       case rel => exact ⟨by rw [HQ.out], HT.out, HB.out⟩
      | true =>
       rw [Bool.true_and] at HQ
       have r4 := HT.out.c4
       by_cases hn : t.nums.length = 2
       ·have dn : ((t.nums.length : Int) == 2) = true := beq_iff_eq.2 (by omega)
        rw [decide_eq_true hn] at HQ
        clear hn
        go_wp2_with fail
        go_meet
        case rel => exact ⟨by rw [HQ.out], HT.out, HB.out⟩
       ·have dn : ((t.nums.length : Int) == 2) = false := beq_eq_false_iff_ne.2 (by omega)
        rw [decide_eq_false hn] at HQ
        clear hn
        go_wp2_with fail
        go_meet
        case rel => exact ⟨by rw [HQ.out], HT.out, HB.out⟩
     ·have d4 : (t.kd == 4) = false := beq_eq_false_iff_ne.2 k4
      rw [if_neg k4] at hS
      clear k4
      by_cases k5 : t.kd = 5
      ·have d5 : (t.kd == 5) = true := beq_iff_eq.2 k5
       rw [if_pos k5] at hS
       have HQ := Lib.hid hS
       clear hS k5
       go_wp2_with fail
       refine (term_empty t A4 A5 c4 c5 false false true _).mono ?_
       rintro e w1 ⟨rfl, hB⟩
       have HT := Lib.hid ((TmAt.new w t (.slice A4 t.nums.length c4) (.slice A5 t.args.length c5)).below hB (by simp))
       have HB := Lib.hid (trans_below (below_alloc (Below.refl _ _) _) hB)
       clear hB
       go_wp2_with fail
       go_meet
       case rel => exact ⟨by rw [HQ.out], HT.out, HB.out⟩
      ·have d5 : (t.kd == 5) = false := beq_eq_false_iff_ne.2 k5
       rw [if_neg k5] at hS
       clear k5
       by_cases k6 : t.kd = 6
       ·have d6 : (t.kd == 6) = true := beq_iff_eq.2 k6
        rw [if_pos k6] at hS
        have HQ := Lib.hid hS
        clear hS k6
        go_wp2_with fail
        refine (term_empty t A4 A5 c4 c5 false false false _).mono ?_
        rintro e w1 ⟨rfl, hB⟩
        have HT := Lib.hid ((TmAt.new w t (.slice A4 t.nums.length c4) (.slice A5 t.args.length c5)).below hB (by simp))
        have HB := Lib.hid (trans_below (below_alloc (Below.refl _ _) _) hB)
        clear hB
        go_wp2_with fail
        go_meet
        case rel => exact ⟨by rw [HQ.out], HT.out, HB.out⟩
       ·have d6 : (t.kd == 6) = false := beq_eq_false_iff_ne.2 k6
        rw [if_neg k6] at hS
        clear k6
        by_cases k7 : t.kd = 7
        ·have d7 : (t.kd == 7) = true := beq_iff_eq.2 k7
         rw [if_pos k7] at hS
         have HQ := Lib.hid hS
         clear hS k7
         go_wp2_with fail
         refine (term_empty t A4 A5 c4 c5 false false true _).mono ?_
         rintro e w1 ⟨rfl, hB⟩
         have HT := Lib.hid ((TmAt.new w t (.slice A4 t.nums.length c4) (.slice A5 t.args.length c5)).below hB (by simp))
         have HB := Lib.hid (trans_below (below_alloc (Below.refl _ _) _) hB)
         clear hB
         generalize hE : emptyOk t false false true = E at HQ
         clear hE
         cases E with
         | false =>
          rw [Bool.false_and, Bool.false_and] at HQ
          go_wp2_with fail
          go_meet
          case rel => exact ⟨by rw [HQ.out], HT.out, HB.out⟩
         | true =>
          rw [Bool.true_and] at HQ
          have r5 := HT.out.c5
          by_cases hn : (t.args.length : Int) ≥ 2
          ·have dn : decide ((t.args.length : Int) ≥ 2) = true := decide_eq_true hn
           rw [decide_eq_true (show 2 ≤ t.args.length by omega), Bool.true_and] at HQ
           obtain ⟨ad, A4', c4', A5', c5', rfl, a0, _⟩ := atTm (HR.out.below HB.out).g5 ((t.args.length : Int) - 1) (by omega) (by omega)
           have ek : ((t.args.length : Int) - 1).toNat = t.args.length - 1 := by omega
           have hlk : (rdTm t.args ((t.args.length : Int) - 1)).kd = lastKd t := rfl
           rw [hlk] at a0
           simp only [ek] at a0
           have y0 : (0 : Int) ≤ (t.args.length : Int) - 1 := by omega
           have y1 : (t.args.length : Int) - 1 < (t.args.length : Int) := by omega
           generalize lastKd t = K at a0 HQ
           clear ek hlk
           by_cases h7 : K = 7
           ·have d8 : (K != 7) = false := by simp [h7]
            rw [decide_eq_false (by simp [h7])] at HQ
            clear h7
            go_wp2_with fail
            go_meet
            case rel => exact ⟨by rw [HQ.out], HT.out, HB.out⟩
           ·have d8 : (K != 7) = true := by simp [h7]
            rw [decide_eq_true h7] at HQ
            clear h7
            go_wp2_with fail
            go_meet
            case rel => exact ⟨by rw [HQ.out], HT.out, HB.out⟩
          ·have dn : decide ((t.args.length : Int) ≥ 2) = false := decide_eq_false hn
           rw [decide_eq_false (show ¬ 2 ≤ t.args.length by omega), Bool.false_and] at HQ
           go_wp2_with fail
           go_meet
           case rel => exact ⟨by rw [HQ.out], HT.out, HB.out⟩
        ·have d7 : (t.kd == 7) = false := beq_eq_false_iff_ne.2 k7
         rw [if_neg k7] at hS
         have HQ := Lib.hid hS
         clear hS k7
         have HT := Lib.hid (TmAt.new w t (.slice A4 t.nums.length c4) (.slice A5 t.args.length c5))
         have HB := Lib.hid (below_alloc (Below.refl w.heap.size w) (.cells #[.int .i64 t.kd, .int .i64 t.it, .string t.tx, .int .u32 t.cr, .slice A4 t.nums.length c4, .slice A5 t.args.length c5] 27))
         go_wp2_with fail
         go_meet
         case rel => exact ⟨by rw [HQ.out], HT.out, HB.out⟩
 case rest =>
  obtain ⟨rfl, hT, hB⟩ := hcut
  have HT := Lib.hid hT
  have HB := Lib.hid hB
  have hf := HF.out
  unfold formBad at hf
  rw [← hS] at hf
  clear hT hB hS HF HS hlen
  cases S with
  | false =>
   rw [if_pos rfl] at hf
   have HQ := Lib.hid hf
   clear hf
   go_wp2_with fail
   refine (term_fault _ _ _ _ [] rfl).mono ?_
   rintro e w2 ⟨ve, rfl, hE, hB2⟩
   have HE2 := Lib.hid hE
   have HB2 := Lib.hid (trans_below HB.out hB2)
   clear hE hB2
   go_wp2_with fail
   go_ret
   exact ⟨_, rfl, by rw [HQ.out]; exact HE2.out, HB2.out⟩
  | true =>
   rw [if_neg (by simp)] at hf
   have r0 := HT.out.c0
   have r1 := HT.out.c1
   have r2 := HT.out.c2
   go_upto_block 1 with (fail)
   go_cut [6] from 7 (fun v6 w' => ∃ l2, ErrIs w' l2 v6 ∧ F = overTm at_ l2 ∧ Below w.heap.size w w')
   case first =>
    by_cases k1 : t.kd = 1
    ·have d1 : (t.kd == 1) = true := beq_iff_eq.2 k1
     rw [if_pos k1] at hf
     clear k1
     by_cases hlo : t.it < -576460752303423488
     ·have e1 : decide (t.it < -576460752303423488) = true := decide_eq_true hlo
      rw [if_pos (.inl hlo)] at hf
      have HQ := Lib.hid hf
      clear hf
      go_wp2_with fail
      refine (term_fault _ _ _ _ [] rfl).mono ?_
      rintro e w2 ⟨ve, rfl, hE, hB2⟩
      have HE2 := Lib.hid hE
      have HB2 := Lib.hid (trans_below HB.out hB2)
      clear hE hB2
      go_wp2_with fail
      go_ret
      exact ⟨_, rfl, by rw [HQ.out]; exact HE2.out, HB2.out⟩
     ·have e1 : decide (t.it < -576460752303423488) = false := decide_eq_false hlo
      by_cases hhi : t.it > 576460752303423487
      ·have e2 : decide (t.it > 576460752303423487) = true := decide_eq_true hhi
       rw [if_pos (.inr hhi)] at hf
       have HQ := Lib.hid hf
       clear hf
       go_wp2_with fail
       refine (term_fault _ _ _ _ [] rfl).mono ?_
       rintro e w2 ⟨ve, rfl, hE, hB2⟩
       have HE2 := Lib.hid hE
       have HB2 := Lib.hid (trans_below HB.out hB2)
       clear hE hB2
       go_wp2_with fail
       go_ret
       exact ⟨_, rfl, by rw [HQ.out]; exact HE2.out, HB2.out⟩
      ·have e2 : decide (t.it > 576460752303423487) = false := decide_eq_false hhi
       rw [if_neg (by omega)] at hf
       have HQ := Lib.hid hf
       clear hf
       go_wp2_with fail
       go_meet
       case rel => exact ⟨[], rfl, HQ.out, HB.out⟩
    ·have d1 : (t.kd == 1) = false := beq_eq_false_iff_ne.2 k1
     rw [if_neg k1] at hf
     clear k1
     by_cases k2 : t.kd = 2
     ·have d2 : (t.kd == 2) = true := beq_iff_eq.2 k2
      rw [if_pos k2] at hf
      have HQ := Lib.hid hf
      clear hf k2
      go_wp2_with fail
      refine (atom_Quote t.tx HM.out _ (HG.out.below HB.out)).mono ?_
      rintro e w2 ⟨ve, rfl, hE, hB2⟩
      have HE2 := Lib.hid hE
      have HB2 := Lib.hid (trans_below HB.out hB2)
      clear hE hB2
      go_wp2_with fail
      go_meet
      case rel => exact ⟨_, HE2.out, HQ.out, HB2.out⟩
     ·have d2 : (t.kd == 2) = false := beq_eq_false_iff_ne.2 k2
      rw [if_neg k2] at hf
      clear k2
      by_cases k3 : t.kd = 3
      ·have d3 : (t.kd == 3) = true := beq_iff_eq.2 k3
       rw [if_pos (.inl k3)] at hf
       have HQ := Lib.hid hf
       clear hf k3
       go_wp2_with fail
       refine (atom_Node t.tx HM.out _).mono ?_
       rintro e w2 ⟨q1, q2, ve, rfl, hE, hB2⟩
       have HE2 := Lib.hid hE
       have HB2 := Lib.hid (trans_below HB.out hB2)
       clear hE hB2
       go_wp2_with fail
       go_meet
       case rel => exact ⟨_, HE2.out, HQ.out, HB2.out⟩
      ·have d3 : (t.kd == 3) = false := beq_eq_false_iff_ne.2 k3
       by_cases k4 : t.kd = 4
       ·have d4 : (t.kd == 4) = true := beq_iff_eq.2 k4
        rw [if_pos (.inr k4)] at hf
        have HQ := Lib.hid hf
        clear hf k3 k4
        go_wp2_with fail
        refine (atom_Node t.tx HM.out _).mono ?_
        rintro e w2 ⟨q1, q2, ve, rfl, hE, hB2⟩
        have HE2 := Lib.hid hE
        have HB2 := Lib.hid (trans_below HB.out hB2)
        clear hE hB2
        go_wp2_with fail
        go_meet
        case rel => exact ⟨_, HE2.out, HQ.out, HB2.out⟩
       ·have d4 : (t.kd == 4) = false := beq_eq_false_iff_ne.2 k4
        rw [if_neg (by omega)] at hf
        have HQ := Lib.hid hf
        clear hf k3 k4
        go_wp2_with fail
        go_meet
        case rel => exact ⟨[], rfl, HQ.out, HB.out⟩
   case rest =>
    clear hf r0 r1 r2 HT HB
    obtain ⟨l2, hE, hQ, hB⟩ := hcut
    have HE := Lib.hid hE
    have HQ := Lib.hid hQ
    have HB := Lib.hid hB
    cases l2 with
    | nil =>
     obtain rfl : u6 = .nilIface := hE
     clear hQ hB
     go_wp2_with fail
     go_ret
     exact ⟨_, rfl, by rw [HQ.out]; rfl, HB.out⟩
    | cons x r =>
     obtain ⟨eb, u, rfl, _⟩ := hE
     clear hQ hB
     go_wp2_with fail
     refine (term_code (x :: r) _ _ HE.out (HG.out.below HB.out)).mono ?_
     rintro e w2 ⟨rfl, hB2⟩
     have HB2 := Lib.hid (trans_below HB.out hB2)
     have HE2 := Lib.hid (HE.out.below hB2)
     clear hB2
     go_wp2_with fail
     refine (term_fault _ _ _ _ (x :: r) HE2.out).mono ?_
     rintro e w3 ⟨ve, rfl, hE, hB3⟩
     have HE3 := Lib.hid hE
     have HB3 := Lib.hid (trans_below HB2.out hB3)
     clear hE hB3
     go_wp2_with fail
     go_ret
     exact ⟨_, rfl, by rw [HQ.out]; exact HE3.out, HB3.out⟩
end Go.Proofs.YtibbcfeaododhaaGreatDoor
namespace Go.Proofs.YtibbcfeaododhaaGreatDoor
open Go.RowKit Go.Proofs.YtibbcfeaododhaaGreatDoorW.PrintWords
/-! ### terms in form -/
mutual
def okT : Tm → Bool
 | ⟨kd, it, tx, cr, ns, us⟩ => shapeOk ⟨kd, it, tx, cr, ns, us⟩ && okL us
def okL : List Tm → Bool
 | [] => true
 | a :: us => okT a && okL us
end
theorem okT_eq (t : Tm) : okT t = (shapeOk t && okL t.args) := by
 cases t
 rw [okT]
theorem okL_mem : ∀ {l : List Tm} {a : Tm}, okL l = true → a ∈ l → okT a = true
 | b :: l, a, h, hm => by
  rw [okL, Bool.and_eq_true] at h
  rcases List.mem_cons.1 hm with rfl | hm
  ·exact h.1
  ·exact okL_mem h.2 hm
theorem meas_ok (t : Tm) : ∀ d n m, (measT t d n m).1 = [] → okT t = true := by
 induction t using Tm.ind with
 | h t ih =>
  intro d n m h
  rw [measT_eq] at h
  by_cases h1 : n = 4096
  ·rw [if_pos h1] at h
   cases h
  ·rw [if_neg h1] at h
   by_cases h2 : 256 < d
   ·rw [if_pos h2] at h
    cases h
   ·rw [if_neg h2] at h
    have hf : formBad t n = [] := by
     match he : formBad t n with
     | [] => rfl
     | x :: r => rw [he] at h; cases h
    rw [hf] at h
    have hs : shapeOk t = true := by
     cases hs : shapeOk t with
     | true => rfl
     | false => unfold formBad at hf; rw [if_pos hs] at hf; cases hf
    have hl : ∀ (l : List Tm), (∀ a ∈ l, a ∈ t.args) → ∀ d n m, (measL l d n m).1 = [] → okL l = true := by
     intro l
     induction l with
     | nil => intro _ _ _ _ _; rw [okL]
     | cons a l ihl =>
      intro hsub d n m h
      rw [measL] at h
      match he : measT a d n m with
      | ([], n', m') =>
       rw [he] at h
       rw [okL, ih a (hsub a (by simp)) d n m (by rw [he]), ihl (fun b hb => hsub b (by simp [hb])) _ _ _ h]
       rfl
      | (x :: r, n', m') =>
       rw [he] at h
       cases h
    rw [okT_eq, hs, hl t.args (fun _ h => h) _ _ _ h]
    rfl
theorem chk_ok {t : Tm} (h : chk t = []) : okT t = true := meas_ok t 1 0 0 h
/-! ### three numbers that go on from one another -/
theorem cmpI_zero {a b : Int} : cmpI a b = 0 ↔ a = b := by
 unfold cmpI
 repeat' split
 all_goals omega
theorem cmpL_eq (x y : Int) (xs ys : List Int) : cmpL (x :: xs) (y :: ys) = orI (cmpI x y) (cmpL xs ys) := by
 rw [cmpL]
 unfold orI cmpI
 repeat' split
 all_goals omega
/-! ### the order, its kind first -/
def ordK (a b : Tm) : Int :=
 if a.kd = 1 then cmpI a.it b.it
 else if a.kd = 2 then cmpS a.tx b.tx
 else if a.kd = 3 ∨ a.kd = 4 then orI (cmpS a.tx b.tx) (orI (cmpI a.cr b.cr) (cmpL a.nums b.nums))
 else if a.kd = 5 then orI (cmpI a.args.length b.args.length) (ordP a.args b.args)
 else if a.kd = 7 then ordL a.args b.args
 else 0
theorem ordT_orI (a b : Tm) : ordT a b = orI (cmpI a.kd b.kd) (ordK a b) := by
 rw [ordT_eq]
 by_cases h : a.kd = b.kd
 ·rw [if_neg (by simp [h])]
  unfold orI
  rw [if_pos (cmpI_zero.2 h)]
  rfl
 ·rw [if_pos h]
  unfold orI
  rw [if_neg (fun e => h (cmpI_zero.1 e))]
theorem shape_kd {t : Tm} (h : okT t = true) : 1 ≤ t.kd ∧ t.kd ≤ 7 := by
 rw [okT_eq, Bool.and_eq_true] at h
 have h := h.1
 unfold shapeOk at h
 repeat' split at h
 all_goals first | omega | cases h
theorem shape_list {t : Tm} (h : okT t = true) (hk : t.kd = 7) : 2 ≤ t.args.length ∧ lastKd t ≠ 7 := by
 rw [okT_eq, Bool.and_eq_true] at h
 have h := h.1
 unfold shapeOk at h
 rw [if_neg (by omega), if_neg (by omega), if_neg (by omega), if_neg (by omega), if_neg (by omega), if_neg (by omega), if_pos hk] at h
 simp only [Bool.and_eq_true, decide_eq_true_eq] at h
 exact ⟨h.1.2, h.2⟩
theorem ok_args {t : Tm} (h : okT t = true) : okL t.args = true := by
 rw [okT_eq, Bool.and_eq_true] at h
 exact h.2
/-- A list's elements and tail, some of them left behind. -/
def tailOk (l : List Tm) : Prop := l ≠ [] ∧ ∀ a, l.getLast? = some a → a.kd ≠ 7
theorem rdTm_last {l : List Tm} (h : l ≠ []) : l.getLast? = some (rdTm l ((l.length : Int) - 1)) := by
 have hp := List.length_pos_iff.2 h
 rw [List.getLast?_eq_getElem?]
 unfold rdTm
 rw [show ((l.length : Int) - 1).toNat = l.length - 1 by omega, List.getD_eq_getElem?_getD, List.getElem?_eq_getElem (by omega)]
 rfl
theorem tail_of {t : Tm} (h : okT t = true) (hk : t.kd = 7) : tailOk t.args := by
 obtain ⟨h1, h2⟩ := shape_list h hk
 have hne : t.args ≠ [] := fun e => by rw [e] at h1; simp at h1
 refine ⟨hne, fun a ha => ?_⟩
 rw [rdTm_last hne] at ha
 obtain rfl := Option.some.inj ha
 exact h2
theorem tailOk.one {a : Tm} (h : tailOk [a]) : a.kd ≠ 7 := h.2 a rfl
theorem tailOk.rest {a b : Tm} {l : List Tm} (h : tailOk (a :: b :: l)) : tailOk (b :: l) := ⟨by simp, fun x hx => h.2 x (by rw [List.getLast?_cons_cons]; exact hx)⟩
/-! ### antisymmetry, bounds, equality, transitivity -/
end Go.Proofs.YtibbcfeaododhaaGreatDoor
namespace Go.Proofs.YtibbcfeaododhaaGreatDoor
open Go.RowKit Go.Proofs.YtibbcfeaododhaaGreatDoorW.PrintWords
theorem isNaN_string (a : ByteArray) (w : World) : Calls Tryz.prog 123 #[.string a] w fun e w' => e = .returned (.bool false) ∧ w = w' := by
 go_enter Tryz.func123, Tryz.ntmps123
 go_wp2_with fail
 go_ret
 exact ⟨eb (by simp), rfl⟩
theorem less_cmp : ∀ (x y : List UInt8), cmpL (x.map fun c => (c.toNat : Int)) (y.map fun c => (c.toNat : Int)) = if Op.bytesLess x y then -1 else if !(Op.bytesLess x y || x == y) then 1 else 0
 | [], [] => rfl
 | [], _ :: _ => rfl
 | _ :: _, [] => rfl
 | a :: x, b :: y => by
  have h := less_cmp x y
  rw [List.map_cons, List.map_cons, cmpL, h, Op.bytesLess]
  have hlt : ((a.toNat : Int) < (b.toNat : Int)) ↔ a < b := by rw [UInt8.lt_iff_toNat_lt]; omega
  have hgt : ((b.toNat : Int) < (a.toNat : Int)) ↔ b < a := by rw [UInt8.lt_iff_toNat_lt]; omega
  by_cases h1 : a < b
  ·rw [if_pos (hlt.2 h1)]
   simp [h1]
  ·rw [if_neg (fun hh => h1 (hlt.1 hh))]
   by_cases h2 : b < a
   ·have hne : (a == b) = false := beq_eq_false_iff_ne.2 (fun e => by subst e; exact h1 h2)
    rw [if_pos (hgt.2 h2)]
    have hc : ((a :: x) == (b :: y)) = false := by rw [List.cons_beq_cons, hne]; rfl
    rw [hne, hc]
    simp [h1]
   ·have he : a = b := by
     rw [UInt8.lt_iff_toNat_lt] at h1 h2
     exact UInt8.toNat_inj.1 (by omega)
    subst he
    rw [if_neg (fun hh => h2 (hgt.1 hh))]
    have hc : ((a :: x) == (a :: y)) = (x == y) := by rw [List.cons_beq_cons]; simp
    rw [hc]
    simp [h1]
theorem cmp_string (a b : ByteArray) (w : World) : Calls Tryz.prog 69 #[.string a, .string b] w fun e w' => e = .returned (.int .i64 (cmpS a b)) ∧ w = w' := by
 have h := less_cmp a.data.toList b.data.toList
 rw [← bs_data', ← bs_data', ← Lib.toList_data, ← Lib.toList_data] at h
 have h : cmpS a b = _ := h
 generalize cmpS a b = C at h ⊢
 have H := Lib.hid h
 clear h
 go_enter Tryz.func69, Tryz.ntmps69
 go_wp2_with fail
 refine (isNaN_string _ _).mono ?_
 rintro e w' ⟨rfl, rfl⟩
 go_wp2_with fail
 refine (isNaN_string _ _).mono ?_
 rintro e w' ⟨rfl, rfl⟩
 go_wp2_with fail
 all_goals go_ret
 all_goals refine ⟨ei ?_, rfl⟩
 all_goals rw [H.out]
 all_goals clear H
 all_goals simp_all
/-! ### cmp.Or -/
theorem cmp_Or (l : List Int) (g n c : Nat) (w : World) (hl : l.length = n) (hn : n ≤ 8) (hc : ∀ j, j < n → w.cell? ⟨g, j, none⟩ = some (.int .i64 (l.getD j 0))) :
  Calls Tryz.prog 70 #[.slice (some ⟨g, 0, none⟩) n c] w fun e w' => e = .returned (.int .i64 (l.foldr orI 0)) ∧ w = w' := by
 subst hl
 obtain ⟨R, hR⟩ : ∃ R, R = l.foldr orI 0 := ⟨_, rfl⟩
 rw [← hR]
 have H0 : Hid ((l.drop 0).foldr orI 0 = R) := Lib.hid hR.symm
 have HC := Lib.hid hc
 clear hR hc
 go_enter Tryz.func70, Tryz.ntmps70
 go_wp2_with fail
 go_loopg [8] l.length (fun gk vi wl => ∃ k : Nat, vi = .int .i64 (k : Int) ∧ gk = l.length - k ∧ k ≤ l.length ∧ Hid ((l.drop k).foldr orI 0 = R) ∧ wl = w)
 case atStart => exact ⟨0, rfl, rfl, Nat.zero_le _, H0, rfl⟩
 case round =>
  clear H0
  obtain ⟨k, rfl, hgk, hk, HR, hw⟩ := hrel
  subst hw
  have HK := Lib.hid hgk
  clear hgk
  by_cases hlt : k < l.length
  ·have hcell := HC.out k hlt
   have hr := HR.out
   rw [List.drop_eq_getElem_cons hlt, List.foldr_cons] at hr
   have e : l.getD k 0 = l[k] := by rw [List.getD_eq_getElem?_getD, List.getElem?_eq_getElem hlt]; rfl
   rw [e] at hcell
   generalize l[k] = x at hr hcell
   have y0 : (0 : Int) ≤ (k : Int) := by omega
   have y1 : (k : Int) < (l.length : Int) := by omega
   clear e HR
   unfold orI at hr
   by_cases hx : x = 0
   ·have d1 : (x != 0) = false := by simp [hx]
    rw [if_pos hx] at hr
    have HR := Lib.hid hr
    clear hr hx
    go_wp2_with fail
    go_roundg (l.length - (k + 1))
    case measure => rw [HK.out]; omega
    case rel => exact ⟨k + 1, by go_num, rfl, by omega, Lib.hid HR.out, rfl⟩
   ·have d1 : (x != 0) = true := by simp [hx]
    rw [if_neg hx] at hr
    have HR := Lib.hid hr
    clear hr hx
    go_wp2_with fail
    go_ret
    exact ⟨ei HR.out, rfl⟩
  ·have d0 : decide (k < l.length) = false := decide_eq_false hlt
   have hr := HR.out
   rw [List.drop_eq_nil_of_le (by omega)] at hr
   have HQ := Lib.hid hr
   clear hr HR
   go_wp2_with fail
   go_ret
   exact ⟨ei HQ.out, rfl⟩
/-! ### slices.Compare of numbers -/
theorem numsAt_cell {w : World} {A : Option Addr} {l : List Int} (h : kU.C w A l.length l) (k : Nat) (hk : k < l.length) : ∃ ad, A = some ad ∧ w.cell? (ad.add k) = some (.int .u32 l[k]) := by
 have hr := Kd.reads_of_C (d := (0 : Int)) h
 obtain ⟨ad, rfl, hh⟩ := hr.2.2 (by omega)
 refine ⟨ad, rfl, ?_⟩
 rw [hh k hk, List.getD_eq_getElem?_getD, List.getElem?_eq_getElem hk]
 rfl
set_option maxRecDepth 100000 in
set_option maxHeartbeats 2000000 in
theorem slices_Compare (a b : List Int) (A B : Option Addr) (c d : Nat) (w : World) (hA : kU.C w A a.length a) (hB : kU.C w B b.length b) :
  Calls Tryz.prog 72 #[.slice A a.length c, .slice B b.length d] w fun e w' => e = .returned (.int .i64 (cmpL a b)) ∧ w = w' := by
 obtain ⟨R, hR⟩ : ∃ R, R = cmpL a b := ⟨_, rfl⟩
 rw [← hR]
 have H0 : Hid (cmpL (a.drop 0) (b.drop 0) = R) := Lib.hid hR.symm
 have HA := Lib.hid hA
 have HB := Lib.hid hB
 have hla := hA.2.1
 have hlb := hB.2.1
 clear hR hA hB
 go_enter Tryz.func72, Tryz.ntmps72
 go_wp2_with fail
 go_loopg [11] a.length (fun gk vi wl => ∃ k : Nat, vi = .int .i64 (k : Int) ∧ gk = a.length - k ∧ k ≤ a.length ∧ k ≤ b.length ∧ Hid (cmpL (a.drop k) (b.drop k) = R) ∧ wl = w)
 case atStart => exact ⟨0, rfl, rfl, Nat.zero_le _, Nat.zero_le _, H0, rfl⟩
 case round =>
  clear H0
  obtain ⟨k, rfl, hgk, hk, hkb, HR, hw⟩ := hrel
  subst hw
  have HK := Lib.hid hgk
  clear hgk
  by_cases hlt : k < a.length
  ·obtain ⟨ad, rfl, hca⟩ := numsAt_cell HA.out k hlt
   have y0 : (0 : Int) ≤ (k : Int) := by omega
   have y1 : (k : Int) < (a.length : Int) := by omega
   have hr := HR.out
   rw [List.drop_eq_getElem_cons hlt] at hr
   by_cases hlt2 : k < b.length
   ·obtain ⟨bd, rfl, hcb⟩ := numsAt_cell HB.out k hlt2
    have y2 : (k : Int) < (b.length : Int) := by omega
    have d1 : decide (k ≥ b.length) = false := decide_eq_false (by omega)
    rw [List.drop_eq_getElem_cons hlt2, cmpL_eq] at hr
    generalize a[k] = x at hr hca
    generalize b[k] = y at hr hcb
    have HCM := Lib.hid (cmp_u32 x y)
    generalize cmpI x y = z at hr HCM
    unfold orI at hr
    clear HR
    by_cases hz : z = 0
    ·have d2 : (z != 0) = false := by simp [hz]
     rw [if_pos hz] at hr
     have HR := Lib.hid hr
     clear hr hz
     go_wp2_with fail
     refine (HCM.out _).mono ?_
     rintro e w' ⟨rfl, rfl⟩
     go_wp2_with fail
     go_roundg (a.length - (k + 1))
     case measure => rw [HK.out]; omega
     case rel => exact ⟨k + 1, by go_num, rfl, by omega, by omega, Lib.hid HR.out, rfl⟩
    ·have d2 : (z != 0) = true := by simp [hz]
     rw [if_neg hz] at hr
     have HR := Lib.hid hr
     clear hr hz
     go_wp2_with fail
     refine (HCM.out _).mono ?_
     rintro e w' ⟨rfl, rfl⟩
     go_wp2_with fail
     go_ret
     exact ⟨ei HR.out, rfl⟩
   ·have d1 : decide (k ≥ b.length) = true := decide_eq_true (by omega)
    rw [List.drop_eq_nil_of_le (show b.length ≤ k by omega), cmpL] at hr
    have HQ := Lib.hid hr
    clear hr HR
    go_wp2_with fail
    go_ret
    exact ⟨ei HQ.out, rfl⟩
  ·have d0 : decide (k < a.length) = false := decide_eq_false hlt
   have hr := HR.out
   rw [List.drop_eq_nil_of_le (show a.length ≤ k by omega)] at hr
   by_cases hlt2 : k < b.length
   ·rw [List.drop_eq_getElem_cons hlt2, cmpL] at hr
    have d1 : decide (a.length < b.length) = true := decide_eq_true (by omega)
    have HQ := Lib.hid hr
    clear hr HR
    go_wp2_with fail
    go_ret
    exact ⟨ei HQ.out, rfl⟩
   ·rw [List.drop_eq_nil_of_le (show b.length ≤ k by omega), cmpL] at hr
    have d1 : decide (a.length < b.length) = false := decide_eq_false (by omega)
    have HQ := Lib.hid hr
    clear hr HR
    go_wp2_with fail
    go_ret
    exact ⟨ei HQ.out, rfl⟩
end Go.Proofs.YtibbcfeaododhaaGreatDoor
