/-
 term: quoted, write: a term's text behind a row of bytes. term.write, Print. heddlelaw02.awake. heddleref02: Check, Measure. The walk of TermKinds. heddleref02: rest. term.Split. Plain Lean: what was put together is parted again, and what was parted is put together again. No program here.
-/
import Derived.Test.YtibbcfeaododhaaGreatDoorH7
import Derived.Test.YtibbcfeaododhaaGreatDoorH4
import Derived.Lib.OthersKept
import Derived.Test.YtibbcfeaododhaaGreatDoorH6
import Derived.Deep.RegionHeld3
import Derived.Test.YtibbcfeaododhaaGreatDoorProg
import Derived.Below
import Derived.Deep.Draws
import Derived.Deep.AppendLies
import Derived.Maps.AppendAt
import Derived.OwnWalk
import Derived.Laws.BytesArg
import Derived.Laws.MakeOwn
import Derived.Laws.OwnMore
import Derived.Deep.OwnRows
import Derived.Tactics
import Derived.Lib.ConvBytes
import Derived.Laws.Slices
import Derived.WalkKit
import Derived.KernelRfl
import Derived.RowKit3
import Derived.Deep.LoopGhost
import Derived.Deep.QuietTactic
import Derived.BigQuiet
import Derived.WideLaws
import Derived.Deep.DeepCutAuto
import Derived.Deep.CutBlock
import Derived.Laws.Rows
import Derived.Lib.AppendStr
import Derived.ArgAppend
import Derived.Laws.IdiomCopy
import Derived.OrdersHeld
import Derived.Laws.BitsLemmas
import Derived.RowKit
import Derived.Test.YtibbcfeaododhaaGreatDoorJWWords
import Derived.Test.YtibbcfeaododhaaGreatDoorJWLast
import Derived.Test.YtibbcfeaododhaaGreatDoorJWTab
import Derived.Test.YtibbcfeaododhaaGreatDoorJWApart
import Derived.Test.YtibbcfeaododhaaGreatDoorJWEqStruct
import Derived.Test.YtibbcfeaododhaaGreatDoorJWRepsOne
import Derived.Test.YtibbcfeaododhaaGreatDoorJWGuard
import Derived.Test.YtibbcfeaododhaaGreatDoorJWMore
set_option linter.unusedSimpArgs false
namespace Go.Proofs.YtibbcfeaododhaaGreatDoor
open Go.RowKit Go.Sort Go.Proofs.YtibbcfeaododhaaGreatDoorW.PrintWords Tb
abbrev tyU8 : Nat := 5
/-- A row of bytes that reads 'l' is handed back; what lies below B, and what is no row of bytes, is as it was. -/
def WrPost (w : World) (B : Nat) (l : List Int) (e : Ending) (w' : World) : Prop :=
 ∃ v, e = .returned v ∧ w'.ownsRow B tyU8 1 v l.length (nums .u8 l) ∧ Below B w w' ∧ Lib.OthersKept tyU8 none w w'
theorem own_keep {w w' : World} {B e sz n : Nat} {v : Value} {xs : List Value} (h : w.ownsRow B e sz v n xs) (hb : Below w.heap.size w w') : w'.ownsRow B e sz v n xs :=
 h.kept (row := none) (grown_of_below hb none) (Classical.em _)
theorem own_kind {w : World} {B e sz n : Nat} {v : Value} {xs : List Value} (h : w.ownsRow B e sz v n xs) : ∀ g, v.ownBlock = some g → ∃ c fz, w.heap[g]? = some (.cells c e fz) := by
 intro g hg
 obtain ⟨c, hc⟩ := own_typed h g hg
 exact ⟨c, _, hc⟩
theorem othersBelow {w W W' : World} (h : Lib.OthersKept tyU8 none w W) (hb : Below W.heap.size W W') : Lib.OthersKept tyU8 none w W' :=
 h.grown (row := none) (grown_of_below hb none) (fun g hg => by cases hg)
theorem othersOf {W W' : World} (hb : Below W.heap.size W W') : Lib.OthersKept tyU8 none W W' := othersBelow (Lib.OthersKept.refl _ _ _) hb
/-- A row of another type stays. -/
theorem own_others {w w' : World} {B e sz n : Nat} {v : Value} {xs : List Value} (h : w.ownsRow B e sz v n xs) (he : e ≠ tyU8) (ho : Lib.OthersKept tyU8 none w w') : w'.ownsRow B e sz v n xs := by
 refine own_move h fun k hk => ?_
 obtain ⟨c, fz, hc⟩ := own_kind h k hk
 rw [hc]
 exact ho k _ hc (by simp) (fun c' fz' e' => by injection e' with _ e2; exact he e2)
/-- write's walk: the row 'v' reads 'l'; the term's box. -/
structure WrS (w W : World) (B : Nat) (t : Tm) (v4 v5 : Value) (l : List Int) (v : Value) : Prop where
 own : W.ownsRow B tyU8 1 v l.length (nums .u8 l)
 below : Below B w W
 others : Lib.OthersKept tyU8 none w W
 box : W.heap[w.heap.size]? = some (.cells #[.int .i64 t.kd, .int .i64 t.it, .string t.tx, .int .u32 t.cr, v4, v5] tyTm (0, 0))
 base : B ≤ W.heap.size
theorem WrS.tm {w W : World} {B : Nat} {t : Tm} {v4 v5 : Value} {l : List Int} {v : Value} (h : WrS w W B t v4 v5 l v) : TmAt W w.heap.size t v4 v5 := by
 have e := h.box
 constructor <;> simp [World.cell?, World.frozen?, e]
theorem WrS.start {w : World} {B : Nat} {l : List Int} {v : Value} (t : Tm) (v4 v5 : Value) (h : w.ownsRow B tyU8 1 v l.length (nums .u8 l)) (hB : B ≤ w.heap.size) :
  WrS w (w.alloc (.cells #[.int .i64 t.kd, .int .i64 t.it, .string t.tx, .int .u32 t.cr, v4, v5] 27)) B t v4 v5 l v :=
 ⟨h.alloc _, (Below.refl _ _).alloc hB _, (Lib.OthersKept.refl _ _ _).alloc _, heap_alloc_new w _, by simp; omega⟩
theorem WrS.app {w W w1 : World} {B : Nat} {t : Tm} {v4 v5 : Value} {l m : List Int} {v v1 : Value} (h : WrS w W B t v4 v5 l v) (ho : w1.ownsRow B tyU8 1 v1 (l ++ m).length (nums .u8 (l ++ m))) (hb : Below B W w1) (hg : W.grownBy w1 v.ownBlock) : WrS w w1 B t v4 v5 (l ++ m) v1 := by
 have hlt : w.heap.size < W.heap.size := (Array.getElem?_eq_some_iff.1 h.box).1
 refine ⟨ho, h.below.trans hb, h.others.grown hg (own_kind h.own), ?_, Nat.le_trans h.base hb.size⟩
 rw [hg.block _ hlt ?_]
 ·exact h.box
 ·intro hk
  obtain ⟨c, fz, hc⟩ := own_kind h.own _ hk.symm
  rw [h.box] at hc
  injection hc with hc
  injection hc with _ hc
  exact absurd hc (by decide)
theorem WrS.call {w W w1 : World} {B : Nat} {t : Tm} {v4 v5 : Value} {l m : List Int} {v v1 : Value} (h : WrS w W B t v4 v5 l v) (ho : w1.ownsRow B tyU8 1 v1 m.length (nums .u8 m)) (hb : Below B W w1) (hk : Lib.OthersKept tyU8 none W w1) : WrS w w1 B t v4 v5 m v1 :=
 ⟨ho, h.below.trans hb, h.others.trans hk, hk _ _ h.box (by simp) (fun c fz e => by injection e with _ e2; exact absurd e2 (by decide)), Nat.le_trans h.base hb.size⟩
theorem WrS.step {w W W' : World} {B : Nat} {t : Tm} {v4 v5 : Value} {l : List Int} {v : Value} (h : WrS w W B t v4 v5 l v) (hb : Below W.heap.size W W') : WrS w W' B t v4 v5 l v :=
 ⟨own_keep h.own hb, h.below.trans (hb.mono h.base), othersBelow h.others hb, (hb.block _ (Array.getElem?_eq_some_iff.1 h.box).1).trans h.box, Nat.le_trans h.base hb.size⟩
theorem WrS.done {w W : World} {B : Nat} {t : Tm} {v4 v5 : Value} {l : List Int} {v : Value} (h : WrS w W B t v4 v5 l v) : WrPost w B l (.returned v) W := ⟨v, rfl, h.own, h.below, h.others⟩
theorem drewN_below (W : World) (n : Nat) : Below W.heap.size W (W.drewN n) := by repeat (first | exact Below.refl _ _ | apply pw_below_drewN)
/-- What holds of the library's variables from here on. -/
def GlobB (w : World) (B : Nat) : Prop := ∀ W, Below B w W → Glob W
theorem GlobB.trans {w W : World} {B : Nat} (h : GlobB w B) (hb : Below B w W) : GlobB W B := fun W' h' => h W' (hb.trans h')
theorem GlobB.now {w : World} {B : Nat} (h : GlobB w B) : Glob w := h w (Below.refl _ _)
theorem GlobB.up {w0 w : World} {B : Nat} (h : Glob w0) (hb : Below w0.heap.size w0 w) (hB : w0.heap.size ≤ B) : GlobB w B := fun _ hW => h.below (hb.trans (hW.mono hB))
theorem nums_itoa (i : Int) : nums .u8 (itoaI i) = Lib.byteCells (Lib.itoa i) := by
 unfold nums itoaI Lib.byteCells
 rw [List.map_map]
 rfl
theorem nums_decL (u : Nat) : nums .u8 (decL u) = Lib.byteCells (Lib.decDigits u) := by
 unfold nums decL Lib.byteCells
 rw [List.map_map]
 rfl
theorem app_int {W : World} {B : Nat} {l : List Int} {v : Value} (i : Int) (h0 : -9223372036854775808 ≤ i) (h1 : i ≤ 9223372036854775807) (ho : W.ownsRow B tyU8 1 v l.length (nums .u8 l)) (hB : B ≤ W.heap.size) (hG : GlobB W B) (hl : l.length + 21 ≤ 140737488355328) :
  Calls Tryz.prog 117 #[v, .int .i64 i, .int .i64 10] W (WrPost W B (l ++ itoaI i)) := by
 refine (Tryz.strconv_AppendInt_10 B l.length i h0 h1 v _ W ho hB hl (fun W' hW => (hG W' hW).pw)).mono ?_
 rintro e w' ⟨v', rfl, h2, h3, h4⟩
 refine ⟨v', rfl, ?_, h3, h4⟩
 rw [nums_append, nums_itoa, List.length_append, itoaI, List.length_map]
 exact h2
theorem app_uint {W : World} {B : Nat} {l : List Int} {v : Value} (i : Int) (h0 : 0 ≤ i) (h1 : i ≤ 4294967295) (ho : W.ownsRow B tyU8 1 v l.length (nums .u8 l)) (hB : B ≤ W.heap.size) (hG : GlobB W B) (hl : l.length + 20 ≤ 140737488355328) :
  Calls Tryz.prog 119 #[v, .int .u64 i, .int .i64 10] W (WrPost W B (l ++ itoaI i)) := by
 obtain ⟨u, rfl⟩ := Int.eq_ofNat_of_zero_le h0
 have HC := Lib.hid (Tryz.internal_strconv_AppendUint_10 B l.length u (by omega) v _ W ho hB hl hG.now.pw)
 have hv : ∃ A c, v = .slice A l.length c := by
  obtain ⟨A, c, h, _⟩ := own_reads ho
  exact ⟨A, c, h⟩
 obtain ⟨A, c, rfl⟩ := hv
 clear ho hB hG hl h0 h1
 go_enter Tryz.func119, Tryz.ntmps119
 go_wp2_with fail
 refine HC.out.mono ?_
 rintro e w' ⟨v', rfl, h2, h3, h4⟩
 have H2 := Lib.hid h2
 have H3 := Lib.hid h3
 have H4 := Lib.hid h4
 clear h2 h3 h4 HC
 go_wp2_with fail
 go_ret
 refine ⟨v', rfl, ?_, H3.out, H4.out⟩
 have h2 := H2.out
 change w'.ownsRow B tyU8 1 v' _ _
 rw [itoa_nat, nums_append, nums_decL, List.length_append, decL, List.length_map]
 exact h2
set_option maxRecDepth 100000 in
theorem term_quoted {W : World} {B : Nat} {l : List Int} {v : Value} (s : ByteArray) (hm : s.size ≤ 140737488351232) (ho : W.ownsRow B tyU8 1 v l.length (nums .u8 l)) (hB : B ≤ W.heap.size) (hG : GlobB W B) (hl : l.length + 1022 ≤ 140737488355328) :
  Calls Tryz.prog 118 #[v, .string s] W (WrPost W B (l ++ bs (quoted s).1)) := by
 have HQ := Lib.hid (atom_Quote s hm W hG.now)
 have HO := Lib.hid ho
 have HSZ := Lib.hid (quoted_size s)
 generalize quoted s = q at HQ HSZ ⊢
 clear ho hG
 go_enter Tryz.func118, Tryz.ntmps118
 go_wp2_with fail
 refine HQ.out.mono ?_
 rintro e w1 ⟨ev, rfl, hE, hB1⟩
 have HO1 := Lib.hid (own_keep HO.out hB1)
 have HB1 := Lib.hid hB1
 have HHB : Hid (B ≤ w1.heap.size) := Lib.hid (Nat.le_trans hB hB1.size)
 have HB2 : Hid (Below B W w1) := Lib.hid (hB1.mono hB)
 have HL : Hid (l.length + q.1.size ≤ 140737488355328) := Lib.hid (by have := HSZ.out; omega)
 clear hE hB1 HQ
 go_wp2_with (at_builtin; refine print_append_str (w0 := W) B rfl (.tmp 12) (.tmp 13) 104 9 5 rfl Tryz.underlying104 Tryz.underlying9 infoU8 v l q.1 rfl rfl ?hO ?hB ?hbs ?hl ?_; (case hO => exact HO1.out); (case hB => exact HB2.out); (case hbs => exact HHB.out); (case hl => exact HL.out); intro v1 w5 ho hb hg; have HO5 := Lib.hid ho; have HB5 := Lib.hid hb; have HK5 := Lib.hid ((othersOf HB1.out).grown hg (own_kind HO1.out)); clear ho hb hg)
 go_ret
 exact ⟨v1, rfl, HO5.out, HB5.out, HK5.out⟩
end Go.Proofs.YtibbcfeaododhaaGreatDoor
set_option linter.unusedSimpArgs false
namespace Go.Proofs.YtibbcfeaododhaaGreatDoor
open Go.RowKit Go.Sort Go.Proofs.YtibbcfeaododhaaGreatDoorW.PrintWords Tb
theorem numsTxt_snoc {ns : List Int} {i : Nat} (h : i < ns.length) : numsTxt (ns.take (i + 1)) = numsTxt (ns.take i) ++ (46 :: itoaI ns[i]) := by
 unfold numsTxt
 rw [List.take_succ_eq_append_getElem h, List.flatMap_append]
 simp
theorem rd_get {ns : List Int} {i : Nat} (h : i < ns.length) : rd ns (i : Int) = ns[i] := by
 unfold rd
 rw [Int.toNat_natCast, List.getD_eq_getElem?_getD, List.getElem?_eq_getElem h]
 rfl
theorem numsTake_len (ns : List Int) (h : ∀ n ∈ ns, isU32 n) (i : Nat) : (numsTxt (ns.take i)).length ≤ 22 * ns.length := by
 have h1 := nums_len (ns.take i) (fun n hn => h n (List.mem_of_mem_take hn))
 have h2 : (ns.take i).length ≤ ns.length := by rw [List.length_take]; omega
 omega
/-- What stands ahead of the k-th part. -/
def wrPre (l : List Int) (o : Int) (ts : List Tm) (k : Nat) : List Int := l ++ o :: sepPre [44] ((ts.take k).map (txtT []))
def wrCur (l : List Int) (o : Int) (ts : List Tm) (k : Nat) : List Int := l ++ o :: sepBy [44] ((ts.take k).map (txtT []))
theorem wrPre_zero (l : List Int) (o : Int) (ts : List Tm) : wrPre l o ts 0 = wrCur l o ts 0 := by
 unfold wrPre wrCur sepPre
 rw [List.take_zero, List.map_nil, if_pos rfl]
 rfl
theorem wrPre_pos {l : List Int} {o : Int} {ts : List Tm} {k : Nat} (h0 : 0 < k) (h : k ≤ ts.length) : wrPre l o ts k = wrCur l o ts k ++ [44] := by
 unfold wrPre wrCur sepPre
 rw [if_neg (fun e => by have := congrArg List.length e; rw [List.length_map, List.length_take, List.length_nil] at this; omega)]
 simp
theorem wrCur_succ {l : List Int} {o : Int} {ts : List Tm} {k : Nat} (h : k < ts.length) : wrCur l o ts (k + 1) = wrPre l o ts k ++ txtT [] ts[k] := by
 unfold wrPre wrCur
 rw [List.take_succ_eq_append_getElem h, List.map_append, List.map_cons, List.map_nil, sepBy_snoc]
 simp
theorem wrPre_len {l : List Int} {o : Int} {ts : List Tm} {k n : Nat} (h : k < n) (hn : n ≤ ts.length) : (wrPre l o ts k).length + (txtT [] (ts[k]'(by omega))).length ≤ l.length + 1 + (sepBy [44] ((ts.take n).map (txtT []))).length := by
 have e : (ts.take n).map (txtT []) = (ts.take k).map (txtT []) ++ txtT [] (ts[k]'(by omega)) :: (((ts.take n).drop (k + 1)).map (txtT [])) := by
  have h1 : ts.take n = ts.take k ++ ts[k]'(by omega) :: (ts.take n).drop (k + 1) := by
   have h2 : (ts.take n).take k = ts.take k := by rw [List.take_take, Nat.min_eq_left (by omega)]
   have h3 : k < (ts.take n).length := by rw [List.length_take]; omega
   have h4 := List.take_append_drop k (ts.take n)
   rw [List.drop_eq_getElem_cons h3, h2] at h4
   rw [List.getElem_take] at h4
   exact h4.symm
  calc (ts.take n).map (txtT []) = (ts.take k ++ ts[k]'(by omega) :: (ts.take n).drop (k + 1)).map (txtT []) := by rw [← h1]
   _ = _ := by rw [List.map_append, List.map_cons]
 rw [e, sepBy_split]
 unfold wrPre
 simp only [List.length_append, List.length_cons]
 omega
theorem WrS.tmBox {W w1 : World} {B b n : Nat} {v : Value} {xs : List Value} {a : Tm} {v4 v5 : Value} (hb : W.heap[b]? = some (.cells #[.int .i64 a.kd, .int .i64 a.it, .string a.tx, .int .u32 a.cr, v4, v5] tyTm (0, 0))) (ho : W.ownsRow B tyU8 1 v n xs) (hg : W.grownBy w1 v.ownBlock) : w1.heap[b]? = some (.cells #[.int .i64 a.kd, .int .i64 a.it, .string a.tx, .int .u32 a.cr, v4, v5] tyTm (0, 0)) := by
 rw [hg.block _ (Array.getElem?_eq_some_iff.1 hb).1 ?_]
 ·exact hb
 ·intro hk
  obtain ⟨c, fz, hc⟩ := own_kind ho _ hk.symm
  rw [hb] at hc
  injection hc with hc
  injection hc with _ hc
  exact absurd hc (by decide)
theorem tmAt_of_box {W : World} {b : Nat} {a : Tm} {v4 v5 : Value} (e : W.heap[b]? = some (.cells #[.int .i64 a.kd, .int .i64 a.it, .string a.tx, .int .u32 a.cr, v4, v5] tyTm (0, 0))) : TmAt W b a v4 v5 := by
 constructor <;> simp [World.cell?, World.frozen?, e]
set_option maxRecDepth 100000 in
set_option maxHeartbeats 8000000 in
theorem term_write (w0 : World) (hG0 : Glob w0) (B : Nat) (hB0 : w0.heap.size ≤ B) (t : Tm) : ∀ (A4 A5 : Option Addr) (c4 c5 : Nat) (l : List Int) (v : Value) (w : World), TmR w0 t A4 c4 A5 c5 → Below w0.heap.size w0 w → w.ownsRow B tyU8 1 v l.length (nums .u8 l) → B ≤ w.heap.size →
  (∃ D n m, (measT t D n m).1 = []) → smT t = true → wfT t = true → l.length + (txtT [] t).length + 1300 ≤ 140737488355328 →
  Calls Tryz.prog 65 #[v, tmV t (.slice A4 t.nums.length c4) (.slice A5 t.args.length c5)] w (WrPost w B (l ++ txtT [] t)) := by
 induction t using Tm.ind with
 | h t ih =>
  intro A4 A5 c4 c5 l v w hR hB hO hBw hms hsm hwf hlen
  have HMS := Lib.hid hms
  obtain ⟨D9, n9, m9, hms⟩ := hms
  have hok := meas_ok t D9 n9 m9 hms
  obtain ⟨_, hf, hml, _, _⟩ := meas_parts hms
  have hit : t.kd = 1 → small64 t.it := fun hk => by have := form_int hf hk; unfold small64; omega
  have HML : Hid (∀ a ∈ t.args, ∃ D n m, (measT a D n m).1 = []) := Lib.hid fun a ha => by obtain ⟨n', m', h⟩ := measL_mem hml a ha; exact ⟨_, n', m', h⟩
  clear hms hf hml
  have HIH := Lib.hid ih
  have HR := Lib.hid hR
  have HB := Lib.hid hB
  have HG0 := Lib.hid hG0
  have HSM := Lib.hid hsm
  have HWF := Lib.hid hwf
  have HOK := Lib.hid hok
  have hkd := shape_kd hok
  obtain ⟨R, hR0⟩ : ∃ R, R = txtT [] t := ⟨_, rfl⟩
  rw [← hR0] at hlen
  rw [← hR0]
  rw [txtT_eq] at hR0
  have HS1 := Lib.hid (WrS.start t (.slice A4 t.nums.length c4) (.slice A5 t.args.length c5) hO hBw)
  have HGB : Hid (GlobB w B) := Lib.hid (GlobB.up hG0 hB hB0)
  have HOKV : Hid (∃ A c, v = .slice A l.length c) := by
   obtain ⟨A, c, h, _⟩ := own_reads hO
   exact Lib.hid ⟨A, c, h⟩
  clear ih hR hB hO hG0 hsm hwf hok
  unfold tmV
  go_enter Tryz.func65, Tryz.ntmps65
  go_upto_region 1 with (fail)
  obtain ⟨w1, hw1⟩ : ∃ W, W = w.alloc (.cells #[.int .i64 t.kd, .int .i64 t.it, .string t.tx, .int .u32 t.cr, .slice A4 t.nums.length c4, .slice A5 t.args.length c5] 27) := ⟨_, rfl⟩
  rw [← hw1] at HS1
  rw [← hw1]
  clear hw1
  have t0 := HS1.out.tm.c0
  have t1 := HS1.out.tm.c1
  have t2 := HS1.out.tm.c2
  have t3 := HS1.out.tm.c3
  have t4 := HS1.out.tm.c4
  have t5 := HS1.out.tm.c5
  rcases (show t.kd = 1 ∨ t.kd = 2 ∨ t.kd = 3 ∨ t.kd = 4 ∨ t.kd = 5 ∨ t.kd = 6 ∨ t.kd = 7 by omega) with hk | hk | hk | hk | hk | hk | hk
  ·have d1 : (t.kd == 1) = true := beq_iff_eq.2 hk
   rw [if_pos hk] at hR0
   have HQ := Lib.hid hR0
   have hi := hit hk
   have HC := Lib.hid (app_int t.it hi.1 hi.2 HS1.out.own HS1.out.base (HGB.out.trans HS1.out.below) (by omega))
   clear hR0 hit hk hkd hi
   go_wp2_with fail
   refine HC.out.mono ?_
   rintro e w2 ⟨v2, rfl, h2, h3, h4⟩
   have HS2 := Lib.hid (HS1.out.call h2 h3 h4)
   clear h2 h3 h4 HC t0 t1 t2 t3 t4 t5
   go_wp2_with fail
   go_ret
   rw [HQ.out]
   exact HS2.out.done
  ·have d1 : (t.kd == 1) = false := beq_eq_false_iff_ne.2 (by omega)
   have d2 : (t.kd == 2) = true := beq_iff_eq.2 hk
   rw [if_neg (by omega), if_pos hk] at hR0
   have HQ := Lib.hid hR0
   have hql : (bs (quoted t.tx).1).length ≤ 1022 := by rw [bs_len]; exact quoted_size _
   have HC := Lib.hid (term_quoted t.tx (sm_tx HSM.out) HS1.out.own HS1.out.base (HGB.out.trans HS1.out.below) (by omega))
   clear hR0 hit hk hkd hql
   go_wp2_with fail
   refine HC.out.mono ?_
   rintro e w2 ⟨v2, rfl, h2, h3, h4⟩
   have HS2 := Lib.hid (HS1.out.call h2 h3 h4)
   clear h2 h3 h4 HC t0 t1 t2 t3 t4 t5
   go_wp2_with fail
   go_ret
   rw [HQ.out]
   exact HS2.out.done
  ·have d1 : (t.kd == 1) = false := beq_eq_false_iff_ne.2 (by omega)
   have d2 : (t.kd == 2) = false := beq_eq_false_iff_ne.2 (by omega)
   have d3 : (t.kd == 3) = true := beq_iff_eq.2 hk
   rw [if_neg (by omega), if_neg (by omega), if_pos hk] at hR0
   have HQ := Lib.hid hR0
   have HN : Hid (t.nums.length ≤ 3) := Lib.hid (by have := shape_ref HOK.out hk; omega)
   have HL : Hid (l.length + 4 ≤ 140737488355328) := Lib.hid (by omega)
   clear hR0 hit hk hkd
   go_upto_region 10 with (at_builtin; refine print_append_str (w0 := w1) B rfl (.tmp 31) _ 104 9 5 rfl Tryz.underlying104 Tryz.underlying9 infoU8 v l ⟨#[35, 82, 101, 102]⟩ rfl rfl ?hO ?hB ?hbs ?hl ?_; (case hO => exact HS1.out.own); (case hB => exact Below.refl _ _); (case hbs => exact HS1.out.base); (case hl => exact HL.out); intro v3 w3 ho hb hg; have HS3 : Hid (WrS w w3 B t (.slice A4 t.nums.length c4) (.slice A5 t.args.length c5) (l ++ [35, 82, 101, 102]) v3) := Lib.hid (HS1.out.app ho hb hg); clear ho hb hg t0 t1 t2 t3 t4 t5; have t0 := HS3.out.tm.c0; have t1 := HS3.out.tm.c1; have t2 := HS3.out.tm.c2; have t3 := HS3.out.tm.c3; have t4 := HS3.out.tm.c4; have t5 := HS3.out.tm.c5)
   have HL1 : Hid (((l ++ [35, 82, 101, 102])).length + [(60 : Int)].length ≤ 140737488355328) := Lib.hid (by simp only [List.length_append, List.length_cons, List.length_nil]; omega)
   go_wp2_with (at_builtin; refine append_lit (w0 := w3) B rfl (.tmp 33) (.tmp 34) 104 5 rfl Tryz.underlying104 infoU8 v3 ((l ++ [35, 82, 101, 102])) [60] rfl ?hx ?hO ?hB ?hbs ?hl ?_; (case hx => first | rfl | (simp [Act.eval]; done)); (case hO => exact HS3.out.own); (case hB => exact Below.refl _ _); (case hbs => exact HS3.out.base); (case hl => exact HL1.out); intro v1 w5 ho hb hg; have HS5 := Lib.hid (HS3.out.app ho hb hg); have HK5 := Lib.hid ((Lib.OthersKept.refl tyU8 none w3).grown hg (own_kind HS3.out.own)); clear ho hb hg t0 t1 t2 t3 t4 t5; have t0 := HS5.out.tm.c0; have t1 := HS5.out.tm.c1; have t2 := HS5.out.tm.c2; have t3 := HS5.out.tm.c3; have t4 := HS5.out.tm.c4; have t5 := HS5.out.tm.c5)
   have hl6 : ((l ++ [35, 82, 101, 102]) ++ [60]).length + 1200 ≤ 140737488355328 := by simp only [List.length_append, List.length_cons, List.length_nil]; omega
   generalize hq6 : (l ++ [35, 82, 101, 102]) ++ [60] = l6 at HS5 hl6
   have HL6 := Lib.hid hq6
   clear hq6 HL1
   have HC := Lib.hid (term_quoted t.tx (sm_tx HSM.out) HS5.out.own HS5.out.base (HGB.out.trans HS5.out.below) (by omega))
   refine HC.out.mono ?_
   rintro e w6 ⟨v6, rfl, h2, h3, h4⟩
   have HS6 := Lib.hid (HS5.out.call h2 h3 h4)
   clear t0 t1 t2 t3 t4 t5
   clear h2 h3 h4 HC HS5
   have hl7 : (l6 ++ bs (quoted t.tx).1).length + 170 ≤ 140737488355328 := by have := quoted_size t.tx; rw [List.length_append, bs_len]; omega
   generalize hq7 : l6 ++ bs (quoted t.tx).1 = l7 at HS6 hl7
   have HL7 := Lib.hid hq7
   clear hq7
   have t0 := HS6.out.tm.c0
   have t1 := HS6.out.tm.c1
   have t2 := HS6.out.tm.c2
   have t3 := HS6.out.tm.c3
   have t4 := HS6.out.tm.c4
   have t5 := HS6.out.tm.c5
   obtain ⟨ns, hns⟩ : ∃ ns, ns = t.cr :: t.nums := ⟨_, rfl⟩
   have hu := wf_nums HWF.out
   rw [← hns] at hu
   have HNS := Lib.hid hns
   have HU := Lib.hid hu
   have hnl : ns.length = t.nums.length + 1 := by rw [hns, List.length_cons]
   have HNL := Lib.hid hnl
   have hn4 : t.nums.length ≤ 3 := HN.out
   clear hns hu hnl
   have hlt6 : w.heap.size < w6.heap.size := HS6.out.tm.lt
   have HBA := Lib.hid (below_alloc (Below.refl w6.heap.size w6) (.cells #[.int .u32 t.cr] tyU32))
   have HRD : Hid (ReadsInt (w6.alloc (.cells #[.int .u32 t.cr] tyU32)) .u32 A4 t.nums.length t.nums) := Lib.hid (Kd.reads_of_C (HR.out.below ((HB.out.trans (HS6.out.below.mono hB0)).trans (HBA.out.mono (Nat.le_trans hB0 HS6.out.base)))).g4)
   have HLZ : Hid (([t.cr].length + t.nums.length) * 4 ≤ 140737488355328) := Lib.hid (by have := HN.out; simp only [List.length_cons, List.length_nil]; omega)
   go_wp2_with (at_builtin; refine print_append_row (w0 := w6) w6.heap.size rfl (.tmp 42) (.tmp 44) 24 23 .u32 4 rfl Tryz.underlying24 infoU32 (by decide) (.slice (some ⟨w6.heap.size, 0, none⟩) 1 1) [t.cr] t.nums A4 t.nums.length c4 rfl rfl ?hO ?hR ?hB ?hbs ?hl ?_; (case hO => exact own_lit w6 w6.heap.size 23 .u32 [t.cr] (Nat.le_refl _) (by simp)); (case hR => exact HRD.out); (case hB => exact HBA.out); (case hbs => exact HBA.out.size); (case hl => exact HLZ.out); intro v8 w8 ho hb hg _; obtain ⟨g8, c8, rfl, hg8, hg9⟩ := ho.form (by simp); have HN8 : Hid (w8.ownsRow w6.heap.size tyU32 1 (.slice (some ⟨g8, 0, none⟩) (t.nums.length + 1) c8) (t.nums.length + 1) (nums .u32 ns)) := Lib.hid (by rw [HNS.out, show t.nums.length + 1 = ([t.cr] ++ t.nums).length by rw [List.length_append, List.length_singleton]; omega]; exact ho); have HS8 := Lib.hid (HS6.out.step hb); clear ho hb hg hg8 hg9)
   clear t0 t1 t2 t3 t4 t5
   clear HS6 HBA HRD HLZ
   go_loopg [0, 47] (t.nums.length + 1) (fun gk v0 vi wl => ∃ i : Nat, vi = .int .i64 (i : Int) ∧ gk = t.nums.length + 1 - i ∧ i ≤ t.nums.length + 1 ∧ Hid (WrS w wl B t (.slice A4 t.nums.length c4) (.slice A5 t.args.length c5) (l7 ++ numsTxt (ns.take i)) v0) ∧ Hid (wl.ownsRow w6.heap.size tyU32 1 (.slice (some ⟨g8, 0, none⟩) (t.nums.length + 1) c8) (t.nums.length + 1) (nums .u32 ns)))
   case atStart => exact ⟨0, rfl, rfl, Nat.zero_le _, by rw [show numsTxt (ns.take 0) = [] from rfl, List.append_nil]; exact HS8, HN8⟩
   case round =>
    clear HS8 HN8
    obtain ⟨i, rfl, hgk, hi, HSl, HNl⟩ := hrel
    have HK := Lib.hid hgk
    clear hgk
    have hli : (l7 ++ numsTxt (ns.take i)).length + 80 ≤ 140737488355328 := by
     have := numsTake_len ns HU.out i
     have := HNL.out
     rw [List.length_append]
     omega
    generalize hqi : l7 ++ numsTxt (ns.take i) = li at HSl hli
    have HLI := Lib.hid hqi
    clear hqi
    by_cases hlt0 : i < t.nums.length + 1
    ·have hlt : i < ns.length := by rw [HNL.out]; exact hlt0
     have hc := (own_at HNl.out (i : Int) (by omega) (by omega)).1
     rw [Int.toNat_natCast, rd_get hlt] at hc
     have HSX := Lib.hid (numsTxt_snoc hlt)
     have hx := HU.out ns[i] (List.getElem_mem hlt)
     generalize ns[i] = x at hc HSX hx
     have x0 := hx.1
     have x1 := hx.2
     have y0 : (0 : Int) ≤ (i : Int) := by omega
     have y1 : (i : Int) < (t.nums.length : Int) + 1 := by omega
     have HL1 : Hid (li.length + [(46 : Int)].length ≤ 140737488355328) := Lib.hid (by simp only [List.length_cons, List.length_nil]; omega)
     clear hx hlt hlt0
     have t0 := HSl.out.tm.c0
     have t1 := HSl.out.tm.c1
     have t2 := HSl.out.tm.c2
     have t3 := HSl.out.tm.c3
     have t4 := HSl.out.tm.c4
     have t5 := HSl.out.tm.c5
     go_wp2_with (at_builtin; refine append_lit (w0 := wr) B rfl (.tmp 51) (.tmp 52) 104 5 rfl Tryz.underlying104 infoU8 u0 (li) [46] rfl ?hx ?hO ?hB ?hbs ?hl ?_; (case hx => first | rfl | (simp [Act.eval]; done)); (case hO => exact HSl.out.own); (case hB => exact Below.refl _ _); (case hbs => exact HSl.out.base); (case hl => exact HL1.out); intro v1 w5 ho hb hg; have HS5 := Lib.hid (HSl.out.app ho hb hg); have HK5 := Lib.hid ((Lib.OthersKept.refl tyU8 none wr).grown hg (own_kind HSl.out.own)); clear ho hb hg t0 t1 t2 t3 t4 t5; have t0 := HS5.out.tm.c0; have t1 := HS5.out.tm.c1; have t2 := HS5.out.tm.c2; have t3 := HS5.out.tm.c3; have t4 := HS5.out.tm.c4; have t5 := HS5.out.tm.c5)
     have hl5 : (li ++ [46]).length + 40 ≤ 140737488355328 := by rw [List.length_append]; simp only [List.length_cons, List.length_nil]; omega
     have HC := Lib.hid (app_uint x x0 x1 HS5.out.own HS5.out.base (HGB.out.trans HS5.out.below) (by omega))
     have HN5 := Lib.hid (own_others HNl.out (by decide) HK5.out)
     clear t0 t1 t2 t3 t4 t5
     clear hc
     refine HC.out.mono ?_
     rintro e w9 ⟨v9, rfl, h2, h3, h4⟩
     have HS9 := Lib.hid (HS5.out.call h2 h3 h4)
     have HN9 := Lib.hid (own_others HN5.out (by decide) h4)
     clear h2 h3 h4 HC
     go_wp2_with fail
     go_roundg (t.nums.length + 1 - (i + 1))
     case measure => rw [HK.out]; omega
     case rel => exact ⟨i + 1, by go_num, rfl, by omega, by rw [HSX.out, ← List.append_assoc, HLI.out, show li ++ 46 :: itoaI x = (li ++ [46]) ++ itoaI x by simp]; exact HS9, HN9⟩
    ·have hie : ns.take i = ns := List.take_of_length_le (by rw [HNL.out]; omega)
     rw [hie] at HLI
     have d0 : decide ((i : Int) < (t.nums.length : Int) + 1) = false := decide_eq_false (by omega)
     have HL1 : Hid (li.length + [(62 : Int)].length ≤ 140737488355328) := Lib.hid (by simp only [List.length_cons, List.length_nil]; omega)
     clear hie hlt0
     have t0 := HSl.out.tm.c0
     have t1 := HSl.out.tm.c1
     have t2 := HSl.out.tm.c2
     have t3 := HSl.out.tm.c3
     have t4 := HSl.out.tm.c4
     have t5 := HSl.out.tm.c5
     go_wp2_with (at_builtin; refine append_lit (w0 := wr) B rfl (.tmp 59) (.tmp 60) 104 5 rfl Tryz.underlying104 infoU8 u0 (li) [62] rfl ?hx ?hO ?hB ?hbs ?hl ?_; (case hx => first | rfl | (simp [Act.eval]; done)); (case hO => exact HSl.out.own); (case hB => exact Below.refl _ _); (case hbs => exact HSl.out.base); (case hl => exact HL1.out); intro v1 w5 ho hb hg; have HS5 := Lib.hid (HSl.out.app ho hb hg); have HK5 := Lib.hid ((Lib.OthersKept.refl tyU8 none wr).grown hg (own_kind HSl.out.own)); clear ho hb hg t0 t1 t2 t3 t4 t5; have t0 := HS5.out.tm.c0; have t1 := HS5.out.tm.c1; have t2 := HS5.out.tm.c2; have t3 := HS5.out.tm.c3; have t4 := HS5.out.tm.c4; have t5 := HS5.out.tm.c5)
     go_ret
     have he : (l ++ [35, 82, 101, 102]) ++ farTxt t.tx (t.cr :: t.nums) = li ++ [62] := by
      rw [← HLI.out, ← HL7.out, ← HL6.out, HNS.out]
      unfold farTxt numsTxt
      simp
     have hl0 : l ++ R = (l ++ [35, 82, 101, 102]) ++ farTxt t.tx (t.cr :: t.nums) := by simp only [HQ.out, List.append_assoc, List.cons_append, List.nil_append]
     rw [hl0, he]
     exact HS5.out.done
  ·have d1 : (t.kd == 1) = false := beq_eq_false_iff_ne.2 (by omega)
   have d2 : (t.kd == 2) = false := beq_eq_false_iff_ne.2 (by omega)
   have d3 : (t.kd == 3) = false := beq_eq_false_iff_ne.2 (by omega)
   have d4 : (t.kd == 4) = true := beq_iff_eq.2 hk
   rw [if_neg (by omega), if_neg (by omega), if_neg (by omega), if_pos hk] at hR0
   have HQ := Lib.hid hR0
   have HN : Hid (t.nums.length ≤ 3) := Lib.hid (by have := shape_pid HOK.out hk; omega)
   clear hR0 hit hk hkd
   have HL1 : Hid ((l).length + [(60 : Int)].length ≤ 140737488355328) := Lib.hid (by simp only [List.length_append, List.length_cons, List.length_nil]; omega)
   go_wp2_with (at_builtin; refine append_lit (w0 := w1) B rfl (.tmp 33) (.tmp 34) 104 5 rfl Tryz.underlying104 infoU8 v (l) [60] rfl ?hx ?hO ?hB ?hbs ?hl ?_; (case hx => first | rfl | (simp [Act.eval]; done)); (case hO => exact HS1.out.own); (case hB => exact Below.refl _ _); (case hbs => exact HS1.out.base); (case hl => exact HL1.out); intro v1 w5 ho hb hg; have HS5 := Lib.hid (HS1.out.app ho hb hg); have HK5 := Lib.hid ((Lib.OthersKept.refl tyU8 none w1).grown hg (own_kind HS1.out.own)); clear ho hb hg t0 t1 t2 t3 t4 t5; have t0 := HS5.out.tm.c0; have t1 := HS5.out.tm.c1; have t2 := HS5.out.tm.c2; have t3 := HS5.out.tm.c3; have t4 := HS5.out.tm.c4; have t5 := HS5.out.tm.c5)
   have hl6 : (l ++ [60]).length + 1200 ≤ 140737488355328 := by simp only [List.length_append, List.length_cons, List.length_nil]; omega
   generalize hq6 : l ++ [60] = l6 at HS5 hl6
   have HL6 := Lib.hid hq6
   clear hq6 HL1
   have HC := Lib.hid (term_quoted t.tx (sm_tx HSM.out) HS5.out.own HS5.out.base (HGB.out.trans HS5.out.below) (by omega))
   refine HC.out.mono ?_
   rintro e w6 ⟨v6, rfl, h2, h3, h4⟩
   have HS6 := Lib.hid (HS5.out.call h2 h3 h4)
   clear t0 t1 t2 t3 t4 t5
   clear h2 h3 h4 HC HS5
   have hl7 : (l6 ++ bs (quoted t.tx).1).length + 170 ≤ 140737488355328 := by have := quoted_size t.tx; rw [List.length_append, bs_len]; omega
   generalize hq7 : l6 ++ bs (quoted t.tx).1 = l7 at HS6 hl7
   have HL7 := Lib.hid hq7
   clear hq7
   have t0 := HS6.out.tm.c0
   have t1 := HS6.out.tm.c1
   have t2 := HS6.out.tm.c2
   have t3 := HS6.out.tm.c3
   have t4 := HS6.out.tm.c4
   have t5 := HS6.out.tm.c5
   obtain ⟨ns, hns⟩ : ∃ ns, ns = t.cr :: t.nums := ⟨_, rfl⟩
   have hu := wf_nums HWF.out
   rw [← hns] at hu
   have HNS := Lib.hid hns
   have HU := Lib.hid hu
   have hnl : ns.length = t.nums.length + 1 := by rw [hns, List.length_cons]
   have HNL := Lib.hid hnl
   have hn4 : t.nums.length ≤ 3 := HN.out
   clear hns hu hnl
   have hlt6 : w.heap.size < w6.heap.size := HS6.out.tm.lt
   have HBA := Lib.hid (below_alloc (Below.refl w6.heap.size w6) (.cells #[.int .u32 t.cr] tyU32))
   have HRD : Hid (ReadsInt (w6.alloc (.cells #[.int .u32 t.cr] tyU32)) .u32 A4 t.nums.length t.nums) := Lib.hid (Kd.reads_of_C (HR.out.below ((HB.out.trans (HS6.out.below.mono hB0)).trans (HBA.out.mono (Nat.le_trans hB0 HS6.out.base)))).g4)
   have HLZ : Hid (([t.cr].length + t.nums.length) * 4 ≤ 140737488355328) := Lib.hid (by have := HN.out; simp only [List.length_cons, List.length_nil]; omega)
   go_wp2_with (at_builtin; refine print_append_row (w0 := w6) w6.heap.size rfl (.tmp 42) (.tmp 44) 24 23 .u32 4 rfl Tryz.underlying24 infoU32 (by decide) (.slice (some ⟨w6.heap.size, 0, none⟩) 1 1) [t.cr] t.nums A4 t.nums.length c4 rfl rfl ?hO ?hR ?hB ?hbs ?hl ?_; (case hO => exact own_lit w6 w6.heap.size 23 .u32 [t.cr] (Nat.le_refl _) (by simp)); (case hR => exact HRD.out); (case hB => exact HBA.out); (case hbs => exact HBA.out.size); (case hl => exact HLZ.out); intro v8 w8 ho hb hg _; obtain ⟨g8, c8, rfl, hg8, hg9⟩ := ho.form (by simp); have HN8 : Hid (w8.ownsRow w6.heap.size tyU32 1 (.slice (some ⟨g8, 0, none⟩) (t.nums.length + 1) c8) (t.nums.length + 1) (nums .u32 ns)) := Lib.hid (by rw [HNS.out, show t.nums.length + 1 = ([t.cr] ++ t.nums).length by rw [List.length_append, List.length_singleton]; omega]; exact ho); have HS8 := Lib.hid (HS6.out.step hb); clear ho hb hg hg8 hg9)
   clear t0 t1 t2 t3 t4 t5
   clear HS6 HBA HRD HLZ
   go_loopg [0, 47] (t.nums.length + 1) (fun gk v0 vi wl => ∃ i : Nat, vi = .int .i64 (i : Int) ∧ gk = t.nums.length + 1 - i ∧ i ≤ t.nums.length + 1 ∧ Hid (WrS w wl B t (.slice A4 t.nums.length c4) (.slice A5 t.args.length c5) (l7 ++ numsTxt (ns.take i)) v0) ∧ Hid (wl.ownsRow w6.heap.size tyU32 1 (.slice (some ⟨g8, 0, none⟩) (t.nums.length + 1) c8) (t.nums.length + 1) (nums .u32 ns)))
   case atStart => exact ⟨0, rfl, rfl, Nat.zero_le _, by rw [show numsTxt (ns.take 0) = [] from rfl, List.append_nil]; exact HS8, HN8⟩
   case round =>
    clear HS8 HN8
    obtain ⟨i, rfl, hgk, hi, HSl, HNl⟩ := hrel
    have HK := Lib.hid hgk
    clear hgk
    have hli : (l7 ++ numsTxt (ns.take i)).length + 80 ≤ 140737488355328 := by
     have := numsTake_len ns HU.out i
     have := HNL.out
     rw [List.length_append]
     omega
    generalize hqi : l7 ++ numsTxt (ns.take i) = li at HSl hli
    have HLI := Lib.hid hqi
    clear hqi
    by_cases hlt0 : i < t.nums.length + 1
    ·have hlt : i < ns.length := by rw [HNL.out]; exact hlt0
     have hc := (own_at HNl.out (i : Int) (by omega) (by omega)).1
     rw [Int.toNat_natCast, rd_get hlt] at hc
     have HSX := Lib.hid (numsTxt_snoc hlt)
     have hx := HU.out ns[i] (List.getElem_mem hlt)
     generalize ns[i] = x at hc HSX hx
     have x0 := hx.1
     have x1 := hx.2
     have y0 : (0 : Int) ≤ (i : Int) := by omega
     have y1 : (i : Int) < (t.nums.length : Int) + 1 := by omega
     have HL1 : Hid (li.length + [(46 : Int)].length ≤ 140737488355328) := Lib.hid (by simp only [List.length_cons, List.length_nil]; omega)
     clear hx hlt hlt0
     have t0 := HSl.out.tm.c0
     have t1 := HSl.out.tm.c1
     have t2 := HSl.out.tm.c2
     have t3 := HSl.out.tm.c3
     have t4 := HSl.out.tm.c4
     have t5 := HSl.out.tm.c5
     go_wp2_with (at_builtin; refine append_lit (w0 := wr) B rfl (.tmp 51) (.tmp 52) 104 5 rfl Tryz.underlying104 infoU8 u0 (li) [46] rfl ?hx ?hO ?hB ?hbs ?hl ?_; (case hx => first | rfl | (simp [Act.eval]; done)); (case hO => exact HSl.out.own); (case hB => exact Below.refl _ _); (case hbs => exact HSl.out.base); (case hl => exact HL1.out); intro v1 w5 ho hb hg; have HS5 := Lib.hid (HSl.out.app ho hb hg); have HK5 := Lib.hid ((Lib.OthersKept.refl tyU8 none wr).grown hg (own_kind HSl.out.own)); clear ho hb hg t0 t1 t2 t3 t4 t5; have t0 := HS5.out.tm.c0; have t1 := HS5.out.tm.c1; have t2 := HS5.out.tm.c2; have t3 := HS5.out.tm.c3; have t4 := HS5.out.tm.c4; have t5 := HS5.out.tm.c5)
     have hl5 : (li ++ [46]).length + 40 ≤ 140737488355328 := by rw [List.length_append]; simp only [List.length_cons, List.length_nil]; omega
     have HC := Lib.hid (app_uint x x0 x1 HS5.out.own HS5.out.base (HGB.out.trans HS5.out.below) (by omega))
     have HN5 := Lib.hid (own_others HNl.out (by decide) HK5.out)
     clear t0 t1 t2 t3 t4 t5
     clear hc
     refine HC.out.mono ?_
     rintro e w9 ⟨v9, rfl, h2, h3, h4⟩
     have HS9 := Lib.hid (HS5.out.call h2 h3 h4)
     have HN9 := Lib.hid (own_others HN5.out (by decide) h4)
     clear h2 h3 h4 HC
     go_wp2_with fail
     go_roundg (t.nums.length + 1 - (i + 1))
     case measure => rw [HK.out]; omega
     case rel => exact ⟨i + 1, by go_num, rfl, by omega, by rw [HSX.out, ← List.append_assoc, HLI.out, show li ++ 46 :: itoaI x = (li ++ [46]) ++ itoaI x by simp]; exact HS9, HN9⟩
    ·have hie : ns.take i = ns := List.take_of_length_le (by rw [HNL.out]; omega)
     rw [hie] at HLI
     have d0 : decide ((i : Int) < (t.nums.length : Int) + 1) = false := decide_eq_false (by omega)
     have HL1 : Hid (li.length + [(62 : Int)].length ≤ 140737488355328) := Lib.hid (by simp only [List.length_cons, List.length_nil]; omega)
     clear hie hlt0
     have t0 := HSl.out.tm.c0
     have t1 := HSl.out.tm.c1
     have t2 := HSl.out.tm.c2
     have t3 := HSl.out.tm.c3
     have t4 := HSl.out.tm.c4
     have t5 := HSl.out.tm.c5
     go_wp2_with (at_builtin; refine append_lit (w0 := wr) B rfl (.tmp 59) (.tmp 60) 104 5 rfl Tryz.underlying104 infoU8 u0 (li) [62] rfl ?hx ?hO ?hB ?hbs ?hl ?_; (case hx => first | rfl | (simp [Act.eval]; done)); (case hO => exact HSl.out.own); (case hB => exact Below.refl _ _); (case hbs => exact HSl.out.base); (case hl => exact HL1.out); intro v1 w5 ho hb hg; have HS5 := Lib.hid (HSl.out.app ho hb hg); have HK5 := Lib.hid ((Lib.OthersKept.refl tyU8 none wr).grown hg (own_kind HSl.out.own)); clear ho hb hg t0 t1 t2 t3 t4 t5; have t0 := HS5.out.tm.c0; have t1 := HS5.out.tm.c1; have t2 := HS5.out.tm.c2; have t3 := HS5.out.tm.c3; have t4 := HS5.out.tm.c4; have t5 := HS5.out.tm.c5)
     go_ret
     have he : l ++ farTxt t.tx (t.cr :: t.nums) = li ++ [62] := by
      rw [← HLI.out, ← HL7.out, ← HL6.out, HNS.out]
      unfold farTxt numsTxt
      simp
     have hl0 : l ++ R = l ++ farTxt t.tx (t.cr :: t.nums) := by simp only [HQ.out, List.append_assoc, List.cons_append, List.nil_append]
     rw [hl0, he]
     exact HS5.out.done
  ·have d1 : (t.kd == 1) = false := beq_eq_false_iff_ne.2 (by omega)
   have d2 : (t.kd == 2) = false := beq_eq_false_iff_ne.2 (by omega)
   have d3 : (t.kd == 3) = false := beq_eq_false_iff_ne.2 (by omega)
   have d4 : (t.kd == 4) = false := beq_eq_false_iff_ne.2 (by omega)
   have d6 : (t.kd == 6) = false := beq_eq_false_iff_ne.2 (by omega)
   have d7 : (t.kd == 7) = false := beq_eq_false_iff_ne.2 (by omega)
   rw [if_neg (by omega), if_neg (by omega), if_neg (by omega), if_neg (by omega), if_pos hk] at hR0
   have HQ := Lib.hid hR0
   clear hR0 hit hk hkd
   go_wp2_with fail
   go_quiet (fail)
   have HS2 := Lib.hid (HS1.out.step (drewN_below w1 nq))
   clear t0 t1 t2 t3 t4 t5
   generalize w1.drewN nq = w2 at HS2 ⊢
   have t0 := HS2.out.tm.c0
   have t1 := HS2.out.tm.c1
   have t2 := HS2.out.tm.c2
   have t3 := HS2.out.tm.c3
   have t4 := HS2.out.tm.c4
   have t5 := HS2.out.tm.c5
   have HL1 : Hid (l.length + [(123 : Int)].length ≤ 140737488355328) := Lib.hid (by simp only [List.length_cons, List.length_nil]; omega)
   go_wp2_with (at_builtin; refine append_lit (w0 := w2) B rfl (.tmp 76) (.tmp 79) 104 5 rfl Tryz.underlying104 infoU8 v (l) [123] rfl ?hx ?hO ?hB ?hbs ?hl ?_; (case hx => first | rfl | (simp [Act.eval]; done)); (case hO => exact HS2.out.own); (case hB => exact Below.refl _ _); (case hbs => exact HS2.out.base); (case hl => exact HL1.out); intro v1 w5 ho hb hg; have HS5 := Lib.hid (HS2.out.app ho hb hg); have HK5 := Lib.hid ((Lib.OthersKept.refl tyU8 none w2).grown hg (own_kind HS2.out.own)); clear ho hb hg t0 t1 t2 t3 t4 t5; have t0 := HS5.out.tm.c0; have t1 := HS5.out.tm.c1; have t2 := HS5.out.tm.c2; have t3 := HS5.out.tm.c3; have t4 := HS5.out.tm.c4; have t5 := HS5.out.tm.c5)
   have HNN : Hid (t.args.length = t.args.length) := Lib.hid rfl
   have HRL : Hid (l.length + 1 + (sepBy [44] ((t.args.take t.args.length).map (txtT []))).length + 1300 ≤ 140737488355328) := Lib.hid (by
    have := HQ.out
    rw [List.take_length]
    rw [this] at hlen
    simp only [List.nil_append, List.length_cons, List.length_append, List.length_nil] at hlen
    omega)
   clear HK5
   clear t0 t1 t2 t3 t4 t5
   have yN : t.args.length ≤ 9223372036854775807 := by have := HR.out.g5.2.1; have := HNN.out; omega
   go_loopg [0, 83] (t.args.length) (fun gk v0 vi wl => ∃ k : Nat, vi = .int .i64 (k : Int) ∧ gk = t.args.length - k ∧ k ≤ t.args.length ∧ Hid (WrS w wl B t (.slice A4 t.nums.length c4) (.slice A5 t.args.length c5) (wrCur l 123 t.args k) v0))
   case atStart => exact ⟨0, rfl, rfl, Nat.zero_le _, HS5⟩
   case round =>
    clear HS5
    obtain ⟨k, rfl, hgk, hk, HSl⟩ := hrel
    have HK := Lib.hid hgk
    clear hgk
    by_cases hlt : k < t.args.length
    ·have HBWl : Hid (Below w0.heap.size w0 wr) := Lib.hid (HB.out.trans (HSl.out.below.mono hB0))
     obtain ⟨ad, A4', c4', A5', c5', hA, q0, q1, q2, q3, q4, q5, hTR⟩ := atTm HR.out.g5 (k : Int) (by omega) (by have := HNN.out; omega)
     cases hA
     simp only [Int.toNat_natCast] at q0 q1 q2 q3 q4 q5
     replace q0 := (HBWl.out.cell (World.block_lt_of_cell? w0 _ q0)).trans q0
     replace q1 := (HBWl.out.cell (World.block_lt_of_cell? w0 _ q1)).trans q1
     replace q2 := (HBWl.out.cell (World.block_lt_of_cell? w0 _ q2)).trans q2
     replace q3 := (HBWl.out.cell (World.block_lt_of_cell? w0 _ q3)).trans q3
     replace q4 := (HBWl.out.cell (World.block_lt_of_cell? w0 _ q4)).trans q4
     replace q5 := (HBWl.out.cell (World.block_lt_of_cell? w0 _ q5)).trans q5
     have hlt2 : k < t.args.length := by have := HNN.out; omega
     obtain ⟨hge, hmem⟩ := rdTm_mem hlt2
     have hnx := wrCur_succ (l := l) (o := 123) hlt2
     have hpl := wrPre_len (l := l) (o := 123) (ts := t.args) (n := t.args.length) hlt (by have := HNN.out; omega)
     rw [← hge] at hnx hpl
     generalize rdTm t.args (k : Int) = a at q0 q1 q2 q3 q4 q5 hTR hmem hnx hpl
     have HNX := Lib.hid hnx
     have HPL : Hid ((wrPre l 123 t.args k).length + (txtT [] a).length + 1300 ≤ 140737488355328) := Lib.hid (by have := HRL.out; omega)
     have HTR := Lib.hid hTR
     have HMEM := Lib.hid hmem
     have y0 : (0 : Int) ≤ (k : Int) := by omega
     have y1 : (k : Int) < (t.args.length : Int) := by omega
     clear hTR hmem hge hnx hpl hlt2
     go_upto_region 27 with (fail)
     have hbx := heap_alloc_new wr (.cells #[.int .i64 a.kd, .int .i64 a.it, .string a.tx, .int .u32 a.cr, .slice A4' a.nums.length c4', .slice A5' a.args.length c5'] 27)
     have HS3 := Lib.hid (HSl.out.step (below_alloc (Below.refl wr.heap.size wr) (.cells #[.int .i64 a.kd, .int .i64 a.it, .string a.tx, .int .u32 a.cr, .slice A4' a.nums.length c4', .slice A5' a.args.length c5'] 27)))
     generalize wr.alloc (.cells #[.int .i64 a.kd, .int .i64 a.it, .string a.tx, .int .u32 a.cr, .slice A4' a.nums.length c4', .slice A5' a.args.length c5'] 27) = w3 at hbx HS3 ⊢
     have HBX := Lib.hid hbx
     clear hbx q0 q1 q2 q3 q4 q5 HSl HBWl
     by_cases h0 : k = 0
     ·have d0 : decide ((k : Int) > 0) = false := decide_eq_false (by omega)
      have d9 : decide (0 < k) = false := decide_eq_false (by omega)
      have HPE : Hid (wrPre l 123 t.args k = wrCur l 123 t.args k) := Lib.hid (by rw [h0]; exact wrPre_zero _ _ _)
      have HPL2 := HPL
      rw [HPE.out] at HPL2
      have HNX2 := HNX
      rw [HPE.out] at HNX2
      clear h0
      obtain ⟨q0, q1, q2, q3, q4, q5, _, _, _, _, _, _⟩ := tmAt_of_box HBX.out
      go_wp2_with fail
      refine (HIH.out a HMEM.out A4' A5' c4' c5' (wrCur l 123 t.args k) u0 _ HTR.out (HB.out.trans (HS3.out.below.mono hB0)) HS3.out.own HS3.out.base (HML.out a HMEM.out) (smL_mem (sm_args HSM.out) HMEM.out) (wfL_mem (wf_args HWF.out) HMEM.out) HPL2.out).mono ?_
      rintro e w9 ⟨v9, rfl, h2, h3, h4⟩
      have HS9 := Lib.hid (HS3.out.call h2 h3 h4)
      rw [← HNX2.out] at HS9
      clear h2 h3 h4 q0 q1 q2 q3 q4 q5
      go_wp2_with fail
      go_roundg (t.args.length - (k + 1))
      case measure => rw [HK.out]; omega
      case rel => exact ⟨k + 1, by go_num, rfl, by omega, HS9⟩
     ·have d0 : decide ((k : Int) > 0) = true := decide_eq_true (by omega)
      have d9 : decide (0 < k) = true := decide_eq_true (by omega)
      have hpe := wrPre_pos (l := l) (o := 123) (ts := t.args) (k := k) (by omega) (by have := HNN.out; omega)
      have HL1 : Hid ((wrCur l 123 t.args k).length + [(44 : Int)].length ≤ 140737488355328) := Lib.hid (by have := HPL.out; rw [hpe, List.length_append] at this; omega)
      have HPE := Lib.hid hpe
      clear hpe h0
      go_wp2_with (at_builtin; refine append_lit (w0 := w3) B rfl (.tmp 90) (.tmp 91) 104 5 rfl Tryz.underlying104 infoU8 u0 (wrCur l 123 t.args k) [44] rfl ?hx ?hO ?hB ?hbs ?hl ?_; (case hx => first | rfl | (simp [Act.eval]; done)); (case hO => exact HS3.out.own); (case hB => exact Below.refl _ _); (case hbs => exact HS3.out.base); (case hl => exact HL1.out); intro v1 w5 ho hb hg; have HS5 := Lib.hid (HS3.out.app ho hb hg); have hb5 := WrS.tmBox HBX.out HS3.out.own hg; clear ho hb hg; obtain ⟨q0, q1, q2, q3, q4, q5, _, _, _, _, _, _⟩ := tmAt_of_box hb5; clear hb5)
      rw [← HPE.out] at HS5
      refine (HIH.out a HMEM.out A4' A5' c4' c5' (wrPre l 123 t.args k) v1 _ HTR.out (HB.out.trans (HS5.out.below.mono hB0)) HS5.out.own HS5.out.base (HML.out a HMEM.out) (smL_mem (sm_args HSM.out) HMEM.out) (wfL_mem (wf_args HWF.out) HMEM.out) HPL.out).mono ?_
      rintro e w9 ⟨v9, rfl, h2, h3, h4⟩
      have HS9 := Lib.hid (HS5.out.call h2 h3 h4)
      rw [← HNX.out] at HS9
      clear h2 h3 h4 q0 q1 q2 q3 q4 q5
      go_wp2_with fail
      go_roundg (t.args.length - (k + 1))
      case measure => rw [HK.out]; omega
      case rel => exact ⟨k + 1, by go_num, rfl, by omega, HS9⟩
    ·obtain rfl : t.args.length = k := by omega
     have d0 : decide ((t.args.length : Int) < (t.args.length : Int)) = false := decide_eq_false (by omega)
     have t0 := HSl.out.tm.c0
     have t1 := HSl.out.tm.c1
     have t2 := HSl.out.tm.c2
     have t3 := HSl.out.tm.c3
     have t4 := HSl.out.tm.c4
     have t5 := HSl.out.tm.c5
     have HL1 : Hid ((wrCur l 123 t.args t.args.length).length + [(125 : Int)].length ≤ 140737488355328) := Lib.hid (by
      have := HRL.out
      unfold wrCur
      simp only [List.length_append, List.length_cons, List.length_nil]
      omega)
     go_wp2_with (at_builtin; refine append_lit (w0 := wr) B rfl (.tmp 125) (.tmp 128) 104 5 rfl Tryz.underlying104 infoU8 u0 (wrCur l 123 t.args t.args.length) [125] rfl ?hx ?hO ?hB ?hbs ?hl ?_; (case hx => first | rfl | (simp [Act.eval]; done)); (case hO => exact HSl.out.own); (case hB => exact Below.refl _ _); (case hbs => exact HSl.out.base); (case hl => exact HL1.out); intro v1 w5 ho hb hg; have HS5 := Lib.hid (HSl.out.app ho hb hg); have HK5 := Lib.hid ((Lib.OthersKept.refl tyU8 none wr).grown hg (own_kind HSl.out.own)); clear ho hb hg t0 t1 t2 t3 t4 t5; have t0 := HS5.out.tm.c0; have t1 := HS5.out.tm.c1; have t2 := HS5.out.tm.c2; have t3 := HS5.out.tm.c3; have t4 := HS5.out.tm.c4; have t5 := HS5.out.tm.c5)
     go_ret
     have he : l ++ R = wrCur l 123 t.args t.args.length ++ [125] := by
      rw [HQ.out]
      unfold wrCur
      rw [List.take_length]
      simp
     rw [he]
     exact HS5.out.done
  ·have d1 : (t.kd == 1) = false := beq_eq_false_iff_ne.2 (by omega)
   have d2 : (t.kd == 2) = false := beq_eq_false_iff_ne.2 (by omega)
   have d3 : (t.kd == 3) = false := beq_eq_false_iff_ne.2 (by omega)
   have d4 : (t.kd == 4) = false := beq_eq_false_iff_ne.2 (by omega)
   have d6 : (t.kd == 6) = true := beq_iff_eq.2 hk
   rw [if_neg (by omega), if_neg (by omega), if_neg (by omega), if_neg (by omega), if_neg (by omega), if_pos hk] at hR0
   have HQ : Hid (R = bytesOf ⟨#[91, 93]⟩) := Lib.hid hR0
   have HL : Hid (l.length + 2 ≤ 140737488355328) := Lib.hid (by omega)
   clear hR0 hit hk hkd
   go_wp2_with (at_builtin; refine print_append_str (w0 := w1) B rfl (.tmp 62) _ 104 9 5 rfl Tryz.underlying104 Tryz.underlying9 infoU8 v l ⟨#[91, 93]⟩ rfl rfl ?hO ?hB ?hbs ?hl ?_; (case hO => exact HS1.out.own); (case hB => exact Below.refl _ _); (case hbs => exact HS1.out.base); (case hl => exact HL.out); intro v1 w5 ho hb hg; have HS5 := Lib.hid (HS1.out.app ho hb hg); clear ho hb hg)
   go_ret
   rw [HQ.out]
   exact HS5.out.done
  ·have d1 : (t.kd == 1) = false := beq_eq_false_iff_ne.2 (by omega)
   have d2 : (t.kd == 2) = false := beq_eq_false_iff_ne.2 (by omega)
   have d3 : (t.kd == 3) = false := beq_eq_false_iff_ne.2 (by omega)
   have d4 : (t.kd == 4) = false := beq_eq_false_iff_ne.2 (by omega)
   have d6 : (t.kd == 6) = false := beq_eq_false_iff_ne.2 (by omega)
   have d7 : (t.kd == 7) = true := beq_iff_eq.2 hk
   rw [if_neg (by omega), if_neg (by omega), if_neg (by omega), if_neg (by omega), if_neg (by omega), if_neg (by omega)] at hR0
   have HQ := Lib.hid hR0
   have hs2 := (shape_list HOK.out hk).1
   clear hR0 hit hk hkd
   have hc5 := HR.out.l5
   obtain ⟨n, hn⟩ : ∃ n, t.args.length = n + 1 := ⟨t.args.length - 1, by omega⟩
   rw [hn] at hc5
   obtain ⟨ad5, rfl⟩ : ∃ ad, A5 = some ad := by obtain ⟨ad, e, _⟩ := HR.out.g5.2.2 (by omega); exact ⟨ad, e⟩
   simp only [hn] at HS1 t5 ⊢
   have HNN := Lib.hid hn
   have HS2 := Lib.hid hs2
   clear hn hs2
   go_wp2_with fail
   go_quiet (fail)
   replace HS1 := Lib.hid (HS1.out.step (drewN_below w1 nq))
   clear t0 t1 t2 t3 t4 t5
   generalize w1.drewN nq = w2 at HS1 ⊢
   have t0 := HS1.out.tm.c0
   have t1 := HS1.out.tm.c1
   have t2 := HS1.out.tm.c2
   have t3 := HS1.out.tm.c3
   have t4 := HS1.out.tm.c4
   have t5 := HS1.out.tm.c5
   have y0 : (0 : Int) ≤ (n : Int) := by omega
   have y1 : (n : Int) ≤ (c5 : Int) := by omega
   have y3 : (n : Int) ≤ 9223372036854775807 := by have := HR.out.g5.2.1; have := HNN.out; omega
   have y2 : wrap64 (n : Int) = (n : Int) := by unfold wrap64; omega
   go_wp2_with fail
   go_quiet (fail)
   replace HS1 := Lib.hid (HS1.out.step (drewN_below w2 nq))
   clear t0 t1 t2 t3 t4 t5
   clear y2
   generalize w2.drewN nq = w3 at HS1 ⊢
   have t0 := HS1.out.tm.c0
   have t1 := HS1.out.tm.c1
   have t2 := HS1.out.tm.c2
   have t3 := HS1.out.tm.c3
   have t4 := HS1.out.tm.c4
   have t5 := HS1.out.tm.c5
   have hae : t.args.map (txtT []) = (t.args.take n).map (txtT []) ++ [txtT [] (rdTm t.args (n : Int))] := by
    have h1 : n < t.args.length := by have := HNN.out; omega
    rw [(rdTm_mem h1).1]
    conv => lhs; rw [show t.args = t.args.take n ++ [t.args[n]] by
     have h2 := List.take_append_drop n t.args
     rw [List.drop_eq_getElem_cons h1, List.drop_eq_nil_of_le (by have := HNN.out; omega)] at h2
     exact h2.symm]
    rw [List.map_append]
    rfl
   have hlk : lastKd t = (rdTm t.args (n : Int)).kd := by
    unfold lastKd
    rw [HNN.out]
    congr 2
    omega
   have hR2 := HQ.out
   rw [hae, List.dropLast_concat, List.getLastD_concat, hlk] at hR2
   simp only [List.nil_append] at hR2
   obtain ⟨ad, A4', c4', A5', c5', hA, q0, q1, q2, q3, q4, q5, hTR⟩ := atTm HR.out.g5 (n : Int) (by omega) (by have := HNN.out; omega)
   cases hA
   simp only [Int.toNat_natCast] at q0 q1 q2 q3 q4 q5
   have hmem := (rdTm_mem (l := t.args) (k := n) (by have := HNN.out; omega)).2
   generalize rdTm t.args (n : Int) = z at q0 q1 q2 q3 q4 q5 hTR hmem hR2
   have HZ := Lib.hid (And.intro q0 (And.intro q1 (And.intro q2 (And.intro q3 (And.intro q4 q5)))))
   have HTZ := Lib.hid hTR
   have HMZ := Lib.hid hmem
   have HRL : Hid (l.length + 1 + (sepBy [44] ((t.args.take n).map (txtT []))).length + 1300 ≤ 140737488355328) := Lib.hid (by
    rw [hR2] at hlen
    simp only [List.length_cons, List.length_append, List.length_nil] at hlen
    omega)
   have HRZ : Hid (z.kd ≠ 6 → (wrCur l 91 t.args n ++ [124]).length + (txtT [] z).length + 1300 ≤ 140737488355328) := Lib.hid (fun hz => by
    rw [hR2, if_neg hz] at hlen
    unfold wrCur
    simp only [List.length_cons, List.length_append, List.length_nil] at hlen ⊢
    omega)
   have HR2 := Lib.hid hR2
   clear hae hlk hR2 hTR hmem q0 q1 q2 q3 q4 q5 HQ hlen
   have HL1 : Hid (l.length + [(91 : Int)].length ≤ 140737488355328) := Lib.hid (by have := HRL.out; simp only [List.length_cons, List.length_nil]; omega)
   go_wp2_with (at_builtin; refine append_lit (w0 := w3) B rfl (.tmp 76) (.tmp 79) 104 5 rfl Tryz.underlying104 infoU8 v (l) [91] rfl ?hx ?hO ?hB ?hbs ?hl ?_; (case hx => first | rfl | (simp [Act.eval]; done)); (case hO => exact HS1.out.own); (case hB => exact Below.refl _ _); (case hbs => exact HS1.out.base); (case hl => exact HL1.out); intro v1 w5 ho hb hg; have HS5 := Lib.hid (HS1.out.app ho hb hg); have HK5 := Lib.hid ((Lib.OthersKept.refl tyU8 none w3).grown hg (own_kind HS1.out.own)); clear ho hb hg t0 t1 t2 t3 t4 t5; have t0 := HS5.out.tm.c0; have t1 := HS5.out.tm.c1; have t2 := HS5.out.tm.c2; have t3 := HS5.out.tm.c3; have t4 := HS5.out.tm.c4; have t5 := HS5.out.tm.c5)
   clear HK5
   clear t0 t1 t2 t3 t4 t5
   have yN : n ≤ 9223372036854775807 := by have := HR.out.g5.2.1; have := HNN.out; omega
   go_loopg [0, 83] (n) (fun gk v0 vi wl => ∃ k : Nat, vi = .int .i64 (k : Int) ∧ gk = n - k ∧ k ≤ n ∧ Hid (WrS w wl B t (.slice A4 t.nums.length c4) (.slice (some ad5) (n + 1) c5) (wrCur l 91 t.args k) v0))
   case atStart => exact ⟨0, rfl, rfl, Nat.zero_le _, HS5⟩
   case round =>
    clear HS5
    obtain ⟨k, rfl, hgk, hk, HSl⟩ := hrel
    have HK := Lib.hid hgk
    clear hgk
    by_cases hlt : k < n
    ·have HBWl : Hid (Below w0.heap.size w0 wr) := Lib.hid (HB.out.trans (HSl.out.below.mono hB0))
     obtain ⟨ad, A4', c4', A5', c5', hA, q0, q1, q2, q3, q4, q5, hTR⟩ := atTm HR.out.g5 (k : Int) (by omega) (by have := HNN.out; omega)
     cases hA
     simp only [Int.toNat_natCast] at q0 q1 q2 q3 q4 q5
     replace q0 := (HBWl.out.cell (World.block_lt_of_cell? w0 _ q0)).trans q0
     replace q1 := (HBWl.out.cell (World.block_lt_of_cell? w0 _ q1)).trans q1
     replace q2 := (HBWl.out.cell (World.block_lt_of_cell? w0 _ q2)).trans q2
     replace q3 := (HBWl.out.cell (World.block_lt_of_cell? w0 _ q3)).trans q3
     replace q4 := (HBWl.out.cell (World.block_lt_of_cell? w0 _ q4)).trans q4
     replace q5 := (HBWl.out.cell (World.block_lt_of_cell? w0 _ q5)).trans q5
     have hlt2 : k < t.args.length := by have := HNN.out; omega
     obtain ⟨hge, hmem⟩ := rdTm_mem hlt2
     have hnx := wrCur_succ (l := l) (o := 91) hlt2
     have hpl := wrPre_len (l := l) (o := 91) (ts := t.args) (n := n) hlt (by have := HNN.out; omega)
     rw [← hge] at hnx hpl
     generalize rdTm t.args (k : Int) = a at q0 q1 q2 q3 q4 q5 hTR hmem hnx hpl
     have HNX := Lib.hid hnx
     have HPL : Hid ((wrPre l 91 t.args k).length + (txtT [] a).length + 1300 ≤ 140737488355328) := Lib.hid (by have := HRL.out; omega)
     have HTR := Lib.hid hTR
     have HMEM := Lib.hid hmem
     have y0 : (0 : Int) ≤ (k : Int) := by omega
     have y1 : (k : Int) < (n : Int) := by omega
     clear hTR hmem hge hnx hpl hlt2
     go_upto_region 27 with (fail)
     have hbx := heap_alloc_new wr (.cells #[.int .i64 a.kd, .int .i64 a.it, .string a.tx, .int .u32 a.cr, .slice A4' a.nums.length c4', .slice A5' a.args.length c5'] 27)
     have HS3 := Lib.hid (HSl.out.step (below_alloc (Below.refl wr.heap.size wr) (.cells #[.int .i64 a.kd, .int .i64 a.it, .string a.tx, .int .u32 a.cr, .slice A4' a.nums.length c4', .slice A5' a.args.length c5'] 27)))
     generalize wr.alloc (.cells #[.int .i64 a.kd, .int .i64 a.it, .string a.tx, .int .u32 a.cr, .slice A4' a.nums.length c4', .slice A5' a.args.length c5'] 27) = w3 at hbx HS3 ⊢
     have HBX := Lib.hid hbx
     clear hbx q0 q1 q2 q3 q4 q5 HSl HBWl
     by_cases h0 : k = 0
     ·have d0 : decide ((k : Int) > 0) = false := decide_eq_false (by omega)
      have d9 : decide (0 < k) = false := decide_eq_false (by omega)
      have HPE : Hid (wrPre l 91 t.args k = wrCur l 91 t.args k) := Lib.hid (by rw [h0]; exact wrPre_zero _ _ _)
      have HPL2 := HPL
      rw [HPE.out] at HPL2
      have HNX2 := HNX
      rw [HPE.out] at HNX2
      clear h0
      obtain ⟨q0, q1, q2, q3, q4, q5, _, _, _, _, _, _⟩ := tmAt_of_box HBX.out
      go_wp2_with fail
      refine (HIH.out a HMEM.out A4' A5' c4' c5' (wrCur l 91 t.args k) u0 _ HTR.out (HB.out.trans (HS3.out.below.mono hB0)) HS3.out.own HS3.out.base (HML.out a HMEM.out) (smL_mem (sm_args HSM.out) HMEM.out) (wfL_mem (wf_args HWF.out) HMEM.out) HPL2.out).mono ?_
      rintro e w9 ⟨v9, rfl, h2, h3, h4⟩
      have HS9 := Lib.hid (HS3.out.call h2 h3 h4)
      rw [← HNX2.out] at HS9
      clear h2 h3 h4 q0 q1 q2 q3 q4 q5
      go_wp2_with fail
      go_roundg (n - (k + 1))
      case measure => rw [HK.out]; omega
      case rel => exact ⟨k + 1, by go_num, rfl, by omega, HS9⟩
     ·have d0 : decide ((k : Int) > 0) = true := decide_eq_true (by omega)
      have d9 : decide (0 < k) = true := decide_eq_true (by omega)
      have hpe := wrPre_pos (l := l) (o := 91) (ts := t.args) (k := k) (by omega) (by have := HNN.out; omega)
      have HL1 : Hid ((wrCur l 91 t.args k).length + [(44 : Int)].length ≤ 140737488355328) := Lib.hid (by have := HPL.out; rw [hpe, List.length_append] at this; omega)
      have HPE := Lib.hid hpe
      clear hpe h0
      go_wp2_with (at_builtin; refine append_lit (w0 := w3) B rfl (.tmp 90) (.tmp 91) 104 5 rfl Tryz.underlying104 infoU8 u0 (wrCur l 91 t.args k) [44] rfl ?hx ?hO ?hB ?hbs ?hl ?_; (case hx => first | rfl | (simp [Act.eval]; done)); (case hO => exact HS3.out.own); (case hB => exact Below.refl _ _); (case hbs => exact HS3.out.base); (case hl => exact HL1.out); intro v1 w5 ho hb hg; have HS5 := Lib.hid (HS3.out.app ho hb hg); have hb5 := WrS.tmBox HBX.out HS3.out.own hg; clear ho hb hg; obtain ⟨q0, q1, q2, q3, q4, q5, _, _, _, _, _, _⟩ := tmAt_of_box hb5; clear hb5)
      rw [← HPE.out] at HS5
      refine (HIH.out a HMEM.out A4' A5' c4' c5' (wrPre l 91 t.args k) v1 _ HTR.out (HB.out.trans (HS5.out.below.mono hB0)) HS5.out.own HS5.out.base (HML.out a HMEM.out) (smL_mem (sm_args HSM.out) HMEM.out) (wfL_mem (wf_args HWF.out) HMEM.out) HPL.out).mono ?_
      rintro e w9 ⟨v9, rfl, h2, h3, h4⟩
      have HS9 := Lib.hid (HS5.out.call h2 h3 h4)
      rw [← HNX.out] at HS9
      clear h2 h3 h4 q0 q1 q2 q3 q4 q5
      go_wp2_with fail
      go_roundg (n - (k + 1))
      case measure => rw [HK.out]; omega
      case rel => exact ⟨k + 1, by go_num, rfl, by omega, HS9⟩
    ·obtain rfl : n = k := by omega
     have d0 : decide ((n : Int) < (n : Int)) = false := decide_eq_false (by omega)
     have t0 := HSl.out.tm.c0
     have t1 := HSl.out.tm.c1
     have t2 := HSl.out.tm.c2
     have t3 := HSl.out.tm.c3
     have t4 := HSl.out.tm.c4
     have t5 := HSl.out.tm.c5
     have HBWl : Hid (Below w0.heap.size w0 wr) := Lib.hid (HB.out.trans (HSl.out.below.mono hB0))
     obtain ⟨z0, z1, z2, z3, z4, z5⟩ := HZ.out
     have q0 := (HBWl.out.cell (World.block_lt_of_cell? w0 _ z0)).trans z0
     have q1 := (HBWl.out.cell (World.block_lt_of_cell? w0 _ z1)).trans z1
     have q2 := (HBWl.out.cell (World.block_lt_of_cell? w0 _ z2)).trans z2
     have q3 := (HBWl.out.cell (World.block_lt_of_cell? w0 _ z3)).trans z3
     have q4 := (HBWl.out.cell (World.block_lt_of_cell? w0 _ z4)).trans z4
     have q5 := (HBWl.out.cell (World.block_lt_of_cell? w0 _ z5)).trans z5
     clear z0 z1 z2 z3 z4 z5
     have y0 : (0 : Int) ≤ (n : Int) := by omega
     have y4 : (n : Int) < (n : Int) + 1 := by omega
     have y2 : wrap64 (n : Int) = (n : Int) := by unfold wrap64; omega
     have HCL : Hid ((wrCur l 91 t.args n).length + 1200 ≤ 140737488355328) := Lib.hid (by
      have := HRL.out
      unfold wrCur
      simp only [List.length_append, List.length_cons, List.length_nil]
      omega)
     by_cases hz : z.kd = 6
     ·have dz : (z.kd != 6) = false := by rw [hz]; rfl
      have he : l ++ R = wrCur l 91 t.args n ++ [93] := by
       rw [HR2.out, if_pos hz]
       unfold wrCur
       simp
      have HE := Lib.hid he
      have HL1 : Hid ((wrCur l 91 t.args n).length + [(93 : Int)].length ≤ 140737488355328) := Lib.hid (by have := HCL.out; simp only [List.length_cons, List.length_nil]; omega)
      clear hz he
      go_wp2_with (at_builtin; refine append_lit (w0 := wr) B rfl (.tmp 125) (.tmp 128) 104 5 rfl Tryz.underlying104 infoU8 u0 (wrCur l 91 t.args n) [93] rfl ?hx ?hO ?hB ?hbs ?hl ?_; (case hx => first | rfl | (simp [Act.eval]; done)); (case hO => exact HSl.out.own); (case hB => exact Below.refl _ _); (case hbs => exact HSl.out.base); (case hl => exact HL1.out); intro v1 w5 ho hb hg; have HS5 := Lib.hid (HSl.out.app ho hb hg); have HK5 := Lib.hid ((Lib.OthersKept.refl tyU8 none wr).grown hg (own_kind HSl.out.own)); clear ho hb hg t0 t1 t2 t3 t4 t5; have t0 := HS5.out.tm.c0; have t1 := HS5.out.tm.c1; have t2 := HS5.out.tm.c2; have t3 := HS5.out.tm.c3; have t4 := HS5.out.tm.c4; have t5 := HS5.out.tm.c5)
      go_ret
      rw [HE.out]
      exact HS5.out.done
     ·have dz : (z.kd != 6) = true := by rw [bne_iff_ne]; exact hz
      have he : l ++ R = (wrCur l 91 t.args n ++ [124] ++ txtT [] z) ++ [93] := by
       rw [HR2.out, if_neg hz]
       unfold wrCur
       simp
      have HE := Lib.hid he
      have HRZ2 := Lib.hid (HRZ.out hz)
      have HL1 : Hid ((wrCur l 91 t.args n).length + [(124 : Int)].length ≤ 140737488355328) := Lib.hid (by have := HCL.out; simp only [List.length_cons, List.length_nil]; omega)
      have hbz := HBWl
      clear hz he
      go_wp2_with (at_builtin; refine append_lit (w0 := wr) B rfl (.tmp 112) (.tmp 113) 104 5 rfl Tryz.underlying104 infoU8 u0 (wrCur l 91 t.args n) [124] rfl ?hx ?hO ?hB ?hbs ?hl ?_; (case hx => first | rfl | (simp [Act.eval]; done)); (case hO => exact HSl.out.own); (case hB => exact Below.refl _ _); (case hbs => exact HSl.out.base); (case hl => exact HL1.out); intro v1 w5 ho hb hg; have HS5 := Lib.hid (HSl.out.app ho hb hg); clear ho hb hg t0 t1 t2 t3 t4 t5 q0 q1 q2 q3 q4 q5; have HBW5 : Hid (Below w0.heap.size w0 w5) := Lib.hid (HB.out.trans (HS5.out.below.mono hB0)); have t5 := HS5.out.tm.c5; have q0 := (HBW5.out.cell (World.block_lt_of_cell? w0 _ HZ.out.1)).trans HZ.out.1; have q1 := (HBW5.out.cell (World.block_lt_of_cell? w0 _ HZ.out.2.1)).trans HZ.out.2.1; have q2 := (HBW5.out.cell (World.block_lt_of_cell? w0 _ HZ.out.2.2.1)).trans HZ.out.2.2.1; have q3 := (HBW5.out.cell (World.block_lt_of_cell? w0 _ HZ.out.2.2.2.1)).trans HZ.out.2.2.2.1; have q4 := (HBW5.out.cell (World.block_lt_of_cell? w0 _ HZ.out.2.2.2.2.1)).trans HZ.out.2.2.2.2.1; have q5 := (HBW5.out.cell (World.block_lt_of_cell? w0 _ HZ.out.2.2.2.2.2)).trans HZ.out.2.2.2.2.2)
      refine (HIH.out z HMZ.out A4' A5' c4' c5' (wrCur l 91 t.args n ++ [124]) v1 _ HTZ.out HBW5.out HS5.out.own HS5.out.base (HML.out z HMZ.out) (smL_mem (sm_args HSM.out) HMZ.out) (wfL_mem (wf_args HWF.out) HMZ.out) HRZ2.out).mono ?_
      rintro e w9 ⟨v9, rfl, h2, h3, h4⟩
      have HS9 := Lib.hid (HS5.out.call h2 h3 h4)
      have HL9 : Hid ((wrCur l 91 t.args n ++ [124] ++ txtT [] z).length + [(93 : Int)].length ≤ 140737488355328) := Lib.hid (by have := HRZ2.out; simp only [List.length_append, List.length_cons, List.length_nil] at this ⊢; omega)
      clear h2 h3 h4 q0 q1 q2 q3 q4 q5 t5 HS5
      have t0 := HS9.out.tm.c0
      have t1 := HS9.out.tm.c1
      have t2 := HS9.out.tm.c2
      have t3 := HS9.out.tm.c3
      have t4 := HS9.out.tm.c4
      have t5 := HS9.out.tm.c5
      go_wp2_with (at_builtin; refine append_lit (w0 := w9) B rfl (.tmp 125) (.tmp 128) 104 5 rfl Tryz.underlying104 infoU8 v9 (wrCur l 91 t.args n ++ [124] ++ txtT [] z) [93] rfl ?hx ?hO ?hB ?hbs ?hl ?_; (case hx => first | rfl | (simp [Act.eval]; done)); (case hO => exact HS9.out.own); (case hB => exact Below.refl _ _); (case hbs => exact HS9.out.base); (case hl => exact HL9.out); intro v1 w5 ho hb hg; have HS5 := Lib.hid (HS9.out.app ho hb hg); have HK5 := Lib.hid ((Lib.OthersKept.refl tyU8 none w9).grown hg (own_kind HS9.out.own)); clear ho hb hg t0 t1 t2 t3 t4 t5; have t0 := HS5.out.tm.c0; have t1 := HS5.out.tm.c1; have t2 := HS5.out.tm.c2; have t3 := HS5.out.tm.c3; have t4 := HS5.out.tm.c4; have t5 := HS5.out.tm.c5)
      go_ret
      rw [HE.out]
      exact HS5.out.done
set_option maxRecDepth 100000 in
set_option maxHeartbeats 2000000 in
theorem term_Print (t : Tm) (A4 A5 : Option Addr) (c4 c5 : Nat) (w : World) (hR : TmR w t A4 c4 A5 c5) (hsm : smT t = true) (hwf : wfT t = true) (hG : Glob w) :
  Calls Tryz.prog 37 #[tmV t (.slice A4 t.nums.length c4) (.slice A5 t.args.length c5)] w (StrPost w (printT t)) := by
 have HT1 := Lib.hid (TmAt.new w t (.slice A4 t.nums.length c4) (.slice A5 t.args.length c5))
 have hB1 := below_alloc (Below.refl w.heap.size w) (.cells #[.int .i64 t.kd, .int .i64 t.it, .string t.tx, .int .u32 t.cr, .slice A4 t.nums.length c4, .slice A5 t.args.length c5] 27)
 obtain ⟨R, hr⟩ : ∃ R, R = printT t := ⟨_, rfl⟩
 rw [← hr]
 have HQ := Lib.hid hr
 clear hr
 unfold tmV
 go_enter Tryz.func37, Tryz.ntmps37
 go_upto_region 1 with (fail)
 obtain ⟨w1, hw1⟩ : ∃ W, W = w.alloc (.cells #[.int .i64 t.kd, .int .i64 t.it, .string t.tx, .int .u32 t.cr, .slice A4 t.nums.length c4, .slice A5 t.args.length c5] 27) := ⟨_, rfl⟩
 rw [← hw1] at HT1 hB1
 rw [← hw1]
 clear hw1
 have HB1 := Lib.hid hB1
 have HCK := Lib.hid (term_Check t A4 A5 c4 c5 w1 (hR.below hB1) hsm (hG.below hB1))
 have HR := Lib.hid hR
 have HSM := Lib.hid hsm
 have HWF := Lib.hid hwf
 have HG := Lib.hid hG
 clear hR hsm hwf hG hB1
 unfold tmV at HCK
 obtain ⟨q0, q1, q2, q3, q4, q5, _, _, _, _, _, _⟩ := HT1.out
 go_wp2_with fail
 refine HCK.out.mono ?_
 rintro e w2 ⟨ve, rfl, hE, hB2⟩
 have HE := Lib.hid hE
 have HT2 := Lib.hid (HT1.out.below hB2 HT1.out.lt)
 have HB2 := Lib.hid (trans_below HB1.out hB2)
 clear hE hB2 HCK q0 q1 q2 q3 q4 q5
 cases hc : chk t with
 | cons x r =>
  have HQ2 : Hid (R = (⟨#[]⟩, x :: r)) := Lib.hid (HQ.out.trans (by unfold printT; rw [if_neg (by rw [hc]; simp), hc]))
  rw [hc] at HE
  obtain ⟨eb, u, rfl, _⟩ := HE.out
  clear hc
  go_wp2_with fail
  go_ret2
  rw [HQ2.out]
  exact ⟨_, rfl, HE.out, HB2.out⟩
 | nil =>
  have HQ2 : Hid (R = (strOfNums (txtT [] t), [])) := Lib.hid (HQ.out.trans (by unfold printT; rw [if_pos hc]))
  rw [hc] at HE
  obtain rfl : ve = .nilIface := HE.out
  have htl := chk_txt hc HWF.out
  have HW := Lib.hid (term_write w HG.out w2.heap.size HB2.out.size t A4 A5 c4 c5 [] (.slice none 0 0) w2 HR.out HB2.out (Kd.own_of_R (Kd.R_nil (Kd.int .u8) tyU8 w2 w2.heap.size (fun _ => True))) (Nat.le_refl _) ⟨1, 0, 0, hc⟩ HSM.out HWF.out (by simp only [List.length_nil]; omega))
  rw [List.nil_append] at HW
  generalize txtT [] t = T at HQ2 HW
  unfold tmV at HW
  obtain ⟨q0, q1, q2, q3, q4, q5, _, _, _, _, _, _⟩ := HT2.out
  clear hc htl
  go_wp2_with fail
  refine HW.out.mono ?_
  rintro e w3 ⟨v3, rfl, ho, hB3, _⟩
  have hcv := own_string (P := Tryz.prog) (src := 104) (dst := 9) Tryz.underlying104 Tryz.underlying5 Tryz.underlying9 ho
  have HB3 := Lib.hid (trans_below HB2.out hB3)
  clear ho hB3 HW q0 q1 q2 q3 q4 q5
  go_wp2_with fail
  go_ret2
  rw [HQ2.out]
  exact ⟨_, rfl, rfl, HB3.out⟩
end Go.Proofs.YtibbcfeaododhaaGreatDoor
set_option linter.unusedSimpArgs false
namespace Go.Proofs.YtibbcfeaododhaaGreatDoor
open Go.RowKit Go.Sort Go.Proofs.YtibbcfeaododhaaGreatDoorW.PrintWords
def sTa : ByteArray := ⟨#[123, 111, 107, 44, 32, 91, 49, 44, 32, 50, 32, 124, 32, 120, 93, 44, 32, 39, 65, 32, 98, 39, 44, 32, 60, 110, 64, 104, 46, 49, 46, 53, 46, 48, 62, 125]⟩
def sTp : ByteArray := ⟨#[123, 111, 107, 44, 91, 49, 44, 50, 124, 120, 93, 44, 39, 65, 32, 98, 39, 44, 60, 110, 64, 104, 46, 49, 46, 53, 46, 48, 62, 125]⟩
def sTb : ByteArray := ⟨#[91, 49, 44]⟩
theorem ta_read : (rdAll sTa).2 = [] := by decide +kernel
theorem ta_print : printT (rdAll sTa).1 = (sTp, []) := by decide +kernel
theorem ta_meas : measure (rdAll sTa).1 = ([], 8, 3) := by decide +kernel
theorem ta_comp : compareT (rdAll sTa).1 tmNil = -1 := by decide +kernel
theorem tb_read : (rdAll sTb).2 = [⟨nTerm, 3, 41⟩] := by decide +kernel
def TruePost (w : World) (e : Ending) (w' : World) : Prop := e = .returned (.bool true) ∧ Below w.heap.size w w'
theorem nil_is (W : World) : TmIs W tmNil (tmV tmNil (.slice none 0 0) (.slice none 0 0)) := (TmMade.flat W 0 6 0 ⟨#[]⟩ 0).is
set_option maxRecDepth 100000 in
set_option maxHeartbeats 4000000 in
theorem awake_any (w : World) (hG : Glob w) : Calls Tryz.prog 11 #[] w (TruePost w) := by
 have HG := Lib.hid hG
 clear hG
 have HR1 := Lib.hid (term_Read sTa (by decide))
 have HR2 := Lib.hid (term_Read sTb (by decide))
 have HIN := Lib.hid (rdAll_in sTa)
 have HF1 := Lib.hid ta_read
 have HF2 := Lib.hid ta_print
 have HF3 := Lib.hid ta_meas
 have HF4 := Lib.hid ta_comp
 have HF5 := Lib.hid tb_read
 generalize rdAll sTa = q at HR1 HIN HF1 HF2 HF3 HF4
 generalize rdAll sTb = q2 at HR2 HF5
 obtain ⟨t, l⟩ := q
 obtain ⟨t2, l2⟩ := q2
 obtain rfl : l = [] := HF1.out
 obtain rfl : l2 = _ := HF5.out
 go_enter Tryz.func11, Tryz.ntmps11
 go_wp2_with fail
 refine (HR1.out w HG.out).mono ?_
 rintro e w1 ⟨v, ev, rfl, hM, hE, hB1⟩
 obtain rfl : ev = .nilIface := hE
 obtain ⟨A4, c4, A5, c5, rfl, hT⟩ := hM.is
 have HT := Lib.hid hT
 have HB1 := Lib.hid hB1
 clear hM hT hB1
 unfold tmV
 go_upto_region 2 with (fail)
 have hta := TmAt.new w1 t (.slice A4 t.nums.length c4) (.slice A5 t.args.length c5)
 have hb := below_alloc (Below.refl w1.heap.size w1) (.cells #[.int .i64 t.kd, .int .i64 t.it, .string t.tx, .int .u32 t.cr, .slice A4 t.nums.length c4, .slice A5 t.args.length c5] 27)
 generalize w1.alloc (.cells #[.int .i64 t.kd, .int .i64 t.it, .string t.tx, .int .u32 t.cr, .slice A4 t.nums.length c4, .slice A5 t.args.length c5] 27) = w2 at hta hb ⊢
 have HA2 := Lib.hid hta
 have HB2 := Lib.hid (trans_below HB1.out hb)
 have HT2 := Lib.hid (HT.out.below hb)
 clear hta hb HB1 HT
 have HP := Lib.hid (term_Print t A4 A5 c4 c5 w2 HT2.out (inT_sm HIN.out) (inT_wf HIN.out) (HG.out.below HB2.out))
 rw [HF2.out] at HP
 unfold tmV sTp at HP
 obtain ⟨a0, a1, a2, a3, a4, a5, _, _, _, _, _, _⟩ := HA2.out
 go_wp2_with fail
 refine HP.out.mono ?_
 rintro e w3 ⟨ev, rfl, hE, hB⟩
 obtain rfl : ev = .nilIface := hE
 have HA3 := Lib.hid (HA2.out.below hB HA2.out.lt)
 have HB3 := Lib.hid (trans_below HB2.out hB)
 have HT3 := Lib.hid (HT2.out.below hB)
 clear hB a0 a1 a2 a3 a4 a5 HP HA2 HB2 HT2
 have HM := Lib.hid (term_Measure t A4 A5 c4 c5 w3 HT3.out (inT_sm HIN.out) (HG.out.below HB3.out))
 rw [HF3.out] at HM
 unfold tmV at HM
 obtain ⟨a0, a1, a2, a3, a4, a5, _, _, _, _, _, _⟩ := HA3.out
 go_wp2_with fail
 refine HM.out.mono ?_
 rintro e w4 ⟨ev, rfl, hE, hB⟩
 obtain rfl : ev = .nilIface := hE
 simp only [if_true]
 have HA4 := Lib.hid (HA3.out.below hB HA3.out.lt)
 have HB4 := Lib.hid (trans_below HB3.out hB)
 have HT4 := Lib.hid (HT3.out.below hB)
 clear hB a0 a1 a2 a3 a4 a5 HM HA3 HB3 HT3
 go_wp2_with fail
 refine (HR2.out w4 (HG.out.below HB4.out)).mono ?_
 rintro e w5 ⟨v, ev, rfl, hM, hE, hB5⟩
 have HE := Lib.hid hE
 obtain ⟨be, ue, rfl, _⟩ := hE
 obtain ⟨D4, d4, D5, d5, rfl, _⟩ := hM.is
 have HA5 := Lib.hid (HA4.out.below hB5 HA4.out.lt)
 have HB5 := Lib.hid (trans_below HB4.out hB5)
 have HT5 := Lib.hid (HT4.out.below hB5)
 clear hM hB5 HA4 HB4 HT4
 unfold tmV
 go_upto_region 5 with (fail)
 have hb := below_alloc (Below.refl w5.heap.size w5) (.cells #[.int .i64 t2.kd, .int .i64 t2.it, .string t2.tx, .int .u32 t2.cr, .slice D4 t2.nums.length d4, .slice D5 t2.args.length d5] 27)
 generalize w5.alloc (.cells #[.int .i64 t2.kd, .int .i64 t2.it, .string t2.tx, .int .u32 t2.cr, .slice D4 t2.nums.length d4, .slice D5 t2.args.length d5] 27) = w6 at hb ⊢
 have HA6 := Lib.hid (HA5.out.below hb HA5.out.lt)
 have HB6 := Lib.hid (trans_below HB5.out hb)
 have HT6 := Lib.hid (HT5.out.below hb)
 have HE6 := Lib.hid (HE.out.below hb)
 clear hb HA5 HB5 HT5 HE
 have HC := Lib.hid (term_Compare t tmNil (tmV t (.slice A4 t.nums.length c4) (.slice A5 t.args.length c5)) (tmV tmNil (.slice none 0 0) (.slice none 0 0)) w6 ⟨A4, c4, A5, c5, rfl, HT6.out⟩ (nil_is w6) (inT_sm HIN.out) rfl (HG.out.below HB6.out))
 rw [HF4.out] at HC
 unfold tmV at HC
 simp only [tmNil] at HC
 obtain ⟨a0, a1, a2, a3, a4, a5, _, _, _, _, _, _⟩ := HA6.out
 go_wp2_with fail
 refine HC.out.mono ?_
 rintro e w7 ⟨rfl, hB7⟩
 have HB7 := Lib.hid (trans_below HB6.out hB7)
 have HE7 := Lib.hid (HE6.out.below hB7)
 clear hB7 a0 a1 a2 a3 a4 a5 HC HA6 HT6 HE6 HB6
 go_wp2_with fail
 refine (mem_One _ _ _ _).mono ?_
 rintro e w8 ⟨v4, rfl, hL, hB8⟩
 obtain ⟨A9, c9, rfl, _, hC9⟩ := hL.reads
 have HC9 := Lib.hid hC9
 have HE8 := Lib.hid (HE7.out.below hB8)
 have HB8 := Lib.hid (trans_below HB7.out hB8)
 clear hL hC9 hB8
 go_wp2_with fail
 refine (Refused_in [⟨nTerm, 3, 41⟩] [⟨nTerm, 3, 41⟩] _ A9 c9 HE8.out (by decide) HC9.out (by decide) (HG.out.below HB8.out)).mono ?_
 rintro e w9 ⟨rfl, hB9⟩
 have HB9 := Lib.hid (trans_below HB8.out hB9)
 clear hB9
 rw [show refusedOf [⟨nTerm, 3, 41⟩] [⟨nTerm, 3, 41⟩] = true from by decide +kernel]
 go_wp2_with fail
 go_ret
 exact ⟨rfl, HB9.out⟩
end Go.Proofs.YtibbcfeaododhaaGreatDoor
namespace Go.Proofs.YtibbcfeaododhaaGreatDoor
open Go.RowKit Go.Proofs.YtibbcfeaododhaaGreatDoorW.PrintWords
theorem WrAt.new (w : World) : WrAt (w.alloc (.cells #[.int .i64 0, .int .i64 0, .slice none 0 0] 90)) w.heap.size 0 0 (.slice none 0 0) := by
 constructor <;> simp
set_option maxRecDepth 100000 in
set_option maxHeartbeats 2000000 in
theorem ref02_Check (t : Tm) (A4 A5 : Option Addr) (c4 c5 : Nat) (w : World) (hR : TmR w t A4 c4 A5 c5) (hsm : smT t = true) :
  Calls Tryz.prog 23 #[tmV t (.slice A4 t.nums.length c4) (.slice A5 t.args.length c5)] w (LnPost w (chk t)) := by
 obtain ⟨R, hr⟩ : ∃ R, R = measure t := ⟨_, rfl⟩
 unfold chk
 rw [← hr]
 have HQ := Lib.hid hr
 clear hr
 have HT1 := Lib.hid (TmAt.new w t (.slice A4 t.nums.length c4) (.slice A5 t.args.length c5))
 have hB1 := below_alloc (Below.refl w.heap.size w) (.cells #[.int .i64 t.kd, .int .i64 t.it, .string t.tx, .int .u32 t.cr, .slice A4 t.nums.length c4, .slice A5 t.args.length c5] 27)
 unfold tmV
 go_enter Tryz.func23, Tryz.ntmps23
 go_upto_region 1 with (fail)
 obtain ⟨w1, hw1⟩ : ∃ W, W = w.alloc (.cells #[.int .i64 t.kd, .int .i64 t.it, .string t.tx, .int .u32 t.cr, .slice A4 t.nums.length c4, .slice A5 t.args.length c5] 27) := ⟨_, rfl⟩
 rw [← hw1] at HT1 hB1
 rw [← hw1]
 clear hw1
 have hB2 := below_alloc (Below.refl w1.heap.size w1) (.cells #[.int .i64 0, .int .i64 0, .slice none 0 0] 90)
 have hW2 := WrAt.new w1
 have hT2 := HT1.out.below hB2 HT1.out.lt
 have hsz2 : w.heap.size < w1.heap.size := HT1.out.lt
 go_upto_region 2 with (fail)
 obtain ⟨w2, hw2⟩ : ∃ W, W = w1.alloc (.cells #[.int .i64 0, .int .i64 0, .slice none 0 0] 90) := ⟨_, rfl⟩
 rw [← hw2] at hB2 hW2 hT2
 rw [← hw2]
 clear hw2
 have HB2 : Hid (Below w.heap.size w w2) := Lib.hid (trans_below hB1 hB2)
 have HW := Lib.hid (ref02_part w w1.heap.size (Nat.le_of_lt hsz2) t A4 A5 c4 c5 1 0 0 w2 hR HB2.out hW2 hsm (by decide) (by decide) (by decide) (by decide) (by decide) (by decide))
 have t0 := hT2.c0
 have t1 := hT2.c1
 have t2 := hT2.c2
 have t3 := hT2.c3
 have t4 := hT2.c4
 have t5 := hT2.c5
 have hlt2 := hW2.lt
 clear hR hsm HT1 hB1 hB2 hW2 hT2
 go_wp2_with fail
 refine HW.out.mono ?_
 rintro e w3 ⟨rfl, hG3, n, m, vb, hW3, hL3, hnm⟩
 have HB3 : Hid (Below w.heap.size w w3) := Lib.hid (HB2.out.trans (belowOf hG3 (by omega) (by omega)))
 rw [show measT t 1 0 0 = R from HQ.out.symm] at hL3 hnm
 clear HQ hG3 t0 t1 t2 t3 t4 t5 HW
 have q0 := hW3.c0
 have q1 := hW3.c1
 have q2 := hW3.c2
 have HL3 := Lib.hid (hL3.lower (base' := w.heap.size) (by omega))
 obtain ⟨l, n', m'⟩ := R
 cases l with
 | cons x r =>
  obtain ⟨g, c, rfl, _, _⟩ := hL3.headT
  clear hL3 hnm hW3
  go_wp2_with fail
  go_ret
  exact ⟨_, rfl, HL3.out, HB3.out⟩
 | nil =>
  obtain rfl := hL3.2 rfl
  clear hL3 hnm hW3
  go_wp2_with fail
  go_ret
  exact ⟨_, rfl, LnIs.nil _ _, HB3.out⟩
end Go.Proofs.YtibbcfeaododhaaGreatDoor
set_option linter.unusedSimpArgs false
namespace Go.Proofs.YtibbcfeaododhaaGreatDoor
open Go.RowKit Go.Sort Go.Proofs.YtibbcfeaododhaaGreatDoorW.PrintWords
/-- The reference's chain as a value: nil where there is no fault. -/
theorem LnIs.shape {W : World} {base : Nat} {l : List Lk} {v : Value} (h : LnIs W base l v) : (l = [] ∧ v = .slice none 0 0) ∨ (l ≠ [] ∧ ∃ (g n c : Nat), v = .slice (some ⟨g, 0, none⟩) n c) := by
 cases l with
 | nil => exact .inl ⟨rfl, h.2 rfl⟩
 | cons x r => obtain ⟨g, c, e, _⟩ := h.headT; exact .inr ⟨by simp, g, _, c, e⟩
end Go.Proofs.YtibbcfeaododhaaGreatDoor
set_option linter.unusedSimpArgs false
namespace Go.Proofs.YtibbcfeaododhaaGreatDoor
open Go.RowKit Go.Sort Go.Proofs.YtibbcfeaododhaaGreatDoorW.PrintWords
theorem leftT_two {l : List Tm} (h : l.length = 2) : leftT (l.drop 1) = rdTm l 1 := by
 match l, h with
 | [a, b], _ => rfl
theorem leftT_more {l : List Tm} (h : 2 < l.length) : leftT (l.drop 1) = ⟨7, 0, ⟨#[]⟩, 0, [], l.drop 1⟩ := by
 unfold leftT
 rw [if_neg (by rw [List.length_drop]; omega)]
end Go.Proofs.YtibbcfeaododhaaGreatDoor
set_option linter.unusedSimpArgs false
set_option linter.unusedVariables false
namespace Go.Proofs.YtibbcfeaododhaaGreatDoor
open Go.RowKit Go.Sort Go.Proofs.YtibbcfeaododhaaGreatDoorW.PrintWords
/-- term.Split. -/
def splitT (t : Tm) : Tm × Tm × Bool := if t.kd = 7 ∧ 2 ≤ t.args.length then (rdTm t.args 0, leftT (t.args.drop 1), true) else (zTm, zTm, false)
def SplitE (w : World) (R : Tm × Tm × Bool) (e : Ending) (w' : World) : Prop := ∃ v u, e = .returned (.tuple #[v, u, .bool R.2.2]) ∧ TmIs w' R.1 v ∧ TmIs w' R.2.1 u ∧ Below w.heap.size w w'
theorem resTm3 {f : Func} {p q r : Tmp} (hr : f.results = #[.cell p 27, .cell q 27, .tmp r]) (tmps : Array Value) (W : World) (b c : Nat) (x y : Tm) (v4 v5 u4 u5 : Value) (hp : tmps.getD p undef = .pointer (some ⟨b, 0, none⟩)) (hq : tmps.getD q undef = .pointer (some ⟨c, 0, none⟩)) (hx : TmAt W b x v4 v5) (hy : TmAt W c y u4 u5) :
  (results f tmps).run Tryz.prog W = .ok (.tuple #[tmV x v4 v5, tmV y u4 u5, tmps.getD r undef]) W := by
 have hp' : tmps[p]?.getD undef = .pointer (some ⟨b, 0, none⟩) := by simpa using hp
 have hq' : tmps[q]?.getD undef = .pointer (some ⟨c, 0, none⟩) := by simpa using hq
 obtain ⟨c0, c1, c2, c3, c4, c5, _, _, _, _, _, _⟩ := hx
 obtain ⟨d0, d1, d2, d3, d4, d5, _, _, _, _, _, _⟩ := hy
 simp [results, hr, hp', hq', asAddr, go_sem, c0, c1, c2, c3, c4, c5, d0, d1, d2, d3, d4, d5, tmV]
theorem TmAt.apart {W : World} {b c : Nat} {x : Tm} {v4 v5 : Value} (h : TmAt W b x v4 v5) (hn : b ≠ c) (y : Tm) (u4 u5 : Value) : TmAt (put6 W c y u4 u5) b x v4 v5 := by
 obtain ⟨c0, c1, c2, c3, c4, c5, f0, f1, f2, f3, f4, f5⟩ := h
 constructor <;> simp [World.cell?_setCell_other, World.frozen?_setCell, *]
/-- Split's walk: its three boxes. -/
structure SpF (w W : World) (t : Tm) (v4 v5 : Value) : Prop where
 bl : Below w.heap.size w W
 ta : TmAt W w.heap.size t v4 v5
 b1 : W.heap[w.heap.size + 1]? = some (.cells #[.int .i64 0, .int .i64 0, .string ⟨#[]⟩, .int .u32 0, .slice none 0 0, .slice none 0 0] tyTm (0, 0))
 b2 : W.heap[w.heap.size + 2]? = some (.cells #[.int .i64 0, .int .i64 0, .string ⟨#[]⟩, .int .u32 0, .slice none 0 0, .slice none 0 0] tyTm (0, 0))
theorem SpF.lt {w W : World} {t : Tm} {v4 v5 : Value} (x : SpF w W t v4 v5) : w.heap.size + 2 < W.heap.size := (Array.getElem?_eq_some_iff.1 x.b2).1
theorem SpF.t1 {w W : World} {t : Tm} {v4 v5 : Value} (x : SpF w W t v4 v5) : TmAt W (w.heap.size + 1) zTm vNone vNone := tmAt_box (a := zTm) x.b1
theorem SpF.t2 {w W : World} {t : Tm} {v4 v5 : Value} (x : SpF w W t v4 v5) : TmAt W (w.heap.size + 2) zTm vNone vNone := tmAt_box (a := zTm) x.b2
theorem SpF.below {w W W' : World} {t : Tm} {v4 v5 : Value} (x : SpF w W t v4 v5) (hb : Below W.heap.size W W') : SpF w W' t v4 v5 :=
 have hl := x.lt
 ⟨x.bl.trans (hb.mono x.bl.size), x.ta.below hb (by omega), (hb.block _ (by omega)).trans x.b1, (hb.block _ hl).trans x.b2⟩
theorem split_boxes (w : World) (t : Tm) (t4 t5 : Value) : ∃ w3, w3 = ((w.alloc (.cells #[.int .i64 t.kd, .int .i64 t.it, .string t.tx, .int .u32 t.cr, t4, t5] 27)).alloc (.cells #[.int .i64 0, .int .i64 0, .string ⟨#[]⟩, .int .u32 0, .slice none 0 0, .slice none 0 0] 27)).alloc (.cells #[.int .i64 0, .int .i64 0, .string ⟨#[]⟩, .int .u32 0, .slice none 0 0, .slice none 0 0] 27) ∧ SpF w w3 t t4 t5 := by
 have h1 := TmAt.new w t t4 t5
 have hb1 := below_alloc (Below.refl w.heap.size w) (.cells #[.int .i64 t.kd, .int .i64 t.it, .string t.tx, .int .u32 t.cr, t4, t5] 27)
 have s1 : (w.alloc (.cells #[.int .i64 t.kd, .int .i64 t.it, .string t.tx, .int .u32 t.cr, t4, t5] 27)).heap.size = w.heap.size + 1 := by simp
 generalize w.alloc (.cells #[.int .i64 t.kd, .int .i64 t.it, .string t.tx, .int .u32 t.cr, t4, t5] 27) = w1 at h1 hb1 s1 ⊢
 have h2 := heap_alloc_new w1 (.cells #[.int .i64 0, .int .i64 0, .string ⟨#[]⟩, .int .u32 0, .slice none 0 0, .slice none 0 0] 27)
 have hb2 := below_alloc (Below.refl w1.heap.size w1) (.cells #[.int .i64 0, .int .i64 0, .string ⟨#[]⟩, .int .u32 0, .slice none 0 0, .slice none 0 0] 27)
 have s2 : (w1.alloc (.cells #[.int .i64 0, .int .i64 0, .string ⟨#[]⟩, .int .u32 0, .slice none 0 0, .slice none 0 0] 27)).heap.size = w1.heap.size + 1 := by simp
 generalize w1.alloc (.cells #[.int .i64 0, .int .i64 0, .string ⟨#[]⟩, .int .u32 0, .slice none 0 0, .slice none 0 0] 27) = w2 at h2 hb2 s2 ⊢
 have h3 := heap_alloc_new w2 (.cells #[.int .i64 0, .int .i64 0, .string ⟨#[]⟩, .int .u32 0, .slice none 0 0, .slice none 0 0] 27)
 have hb3 := below_alloc (Below.refl w2.heap.size w2) (.cells #[.int .i64 0, .int .i64 0, .string ⟨#[]⟩, .int .u32 0, .slice none 0 0, .slice none 0 0] 27)
 generalize w2.alloc (.cells #[.int .i64 0, .int .i64 0, .string ⟨#[]⟩, .int .u32 0, .slice none 0 0, .slice none 0 0] 27) = w3 at h3 hb3 ⊢
 rw [s1] at h2 s2
 rw [s2] at h3
 exact ⟨w3, rfl, trans_below (trans_below hb1 hb2) hb3, (h1.below hb2 h1.lt).below hb3 (by omega), (hb3.block _ (by omega)).trans h2, h3⟩
theorem SpF.no {w W : World} {t : Tm} {v4 v5 : Value} (x : SpF w W t v4 v5) : SplitE w (zTm, zTm, false) (.returned (.tuple #[tmV zTm vNone vNone, tmV zTm vNone vNone, .bool false])) (put6 (put6 W (w.heap.size + 1) zTm vNone vNone) (w.heap.size + 2) zTm vNone vNone) := by
 have h1 := x.bl.trans (below_of_grown (grown_put6 W (w.heap.size + 1) zTm vNone vNone) (by omega) x.bl.size)
 exact ⟨_, _, rfl, (TmMade.zero _ w.heap.size).is, (TmMade.zero _ w.heap.size).is, h1.trans (below_of_grown (grown_put6 _ (w.heap.size + 2) zTm vNone vNone) (by omega) h1.size)⟩
theorem spRow {W : World} {base : Nat} {l : List Tm} {A : Option Addr} {c : Nat} (h : kTm.R tyTm W base (fun _ => True) (.slice A l.length c) l) (i : Int) (h0 : 0 ≤ i) (h1 : i < l.length) : ∃ ad E4 e4 E5 e5, A = some ad ∧ W.cell? (ad.add (i.toNat * 6)) = some (.int .i64 (rdTm l i).kd) ∧ W.cell? ⟨(ad.add (i.toNat * 6)).block, (ad.add (i.toNat * 6)).off + 1, none⟩ = some (.int .i64 (rdTm l i).it) ∧
  W.cell? ⟨(ad.add (i.toNat * 6)).block, (ad.add (i.toNat * 6)).off + 2, none⟩ = some (.string (rdTm l i).tx) ∧ W.cell? ⟨(ad.add (i.toNat * 6)).block, (ad.add (i.toNat * 6)).off + 3, none⟩ = some (.int .u32 (rdTm l i).cr) ∧ W.cell? ⟨(ad.add (i.toNat * 6)).block, (ad.add (i.toNat * 6)).off + 4, none⟩ = some (.slice E4 (rdTm l i).nums.length e4) ∧
  W.cell? ⟨(ad.add (i.toNat * 6)).block, (ad.add (i.toNat * 6)).off + 5, none⟩ = some (.slice E5 (rdTm l i).args.length e5) ∧ kU.R tyU32 W base (fun _ => True) (.slice E4 (rdTm l i).nums.length e4) (rdTm l i).nums ∧ kTm.R tyTm W base (fun _ => True) (.slice E5 (rdTm l i).args.length e5) (rdTm l i).args := by
 obtain ⟨ad, c', e, _, hM, hc0⟩ := (tm_rows h).get_ zTm i h0 h1
 have hc : ∀ j u, c'[j]? = some u → W.cell? (ad.add (i.toNat * 6 + j)) = some u := hc0
 obtain ⟨v4, v5, rfl, g4, g5⟩ := kTm_openM hM
 obtain ⟨E4, e4, rfl⟩ := Kd.R_slice g4
 obtain ⟨E5, e5, rfl⟩ := Kd.R_slice g5
 exact ⟨ad, E4, e4, E5, e5, e, hc 0 _ rfl, by rw [← add_field _ _ 1 (by omega)]; exact hc 1 _ rfl, by rw [← add_field _ _ 2 (by omega)]; exact hc 2 _ rfl, by rw [← add_field _ _ 3 (by omega)]; exact hc 3 _ rfl, by rw [← add_field _ _ 4 (by omega)]; exact hc 4 _ rfl, by rw [← add_field _ _ 5 (by omega)]; exact hc 5 _ rfl, g4, g5⟩
abbrev twoW (w W : World) (a b : Tm) (a4 a5 b4 b5 : Value) : World := (put6 (put6 W (w.heap.size + 1) a a4 a5) (w.heap.size + 2) b b4 b5).drew
theorem two_R {w W : World} {a b : Tm} {a4 a5 b4 b5 : Value} {α : Type} {d : Kd α} {e : Nat} {v : Value} {xs : List α} (h : d.R e W (w.heap.size + 3) (fun _ => True) v xs) : d.R e (twoW w W a b a4 a5 b4 b5) (w.heap.size + 3) (fun _ => True) v xs :=
 Kd.R_drew (R_offs (R_offs h (grown_put6 W (w.heap.size + 1) a a4 a5) (by omega)) (grown_put6 _ (w.heap.size + 2) b b4 b5) (by omega))
theorem two_is {w W : World} {a b x : Tm} {a4 a5 b4 b5 x4 x5 : Value} (h4 : kU.R tyU32 W (w.heap.size + 3) (fun _ => True) x4 x.nums) (h5 : kTm.R tyTm W (w.heap.size + 3) (fun _ => True) x5 x.args) : TmIs (twoW w W a b a4 a5 b4 b5) x (tmV x x4 x5) :=
 TmMade.is ⟨_, _, rfl, two_R h4, two_R h5⟩
theorem SpF.two {w W : World} {t : Tm} {v4 v5 : Value} (x : SpF w W t v4 v5) (a b : Tm) (a4 a5 b4 b5 : Value) : TmAt (twoW w W a b a4 a5 b4 b5) (w.heap.size + 1) a a4 a5 ∧ TmAt (twoW w W a b a4 a5 b4 b5) (w.heap.size + 2) b b4 b5 ∧ Below w.heap.size w (twoW w W a b a4 a5 b4 b5) := by
 have h1 := x.bl.trans (below_of_grown (grown_put6 W (w.heap.size + 1) a a4 a5) (by omega) x.bl.size)
 have h2 := h1.trans (below_of_grown (grown_put6 _ (w.heap.size + 2) b b4 b5) (by omega) h1.size)
 have ha := (x.t1.put a a4 a5).apart (c := w.heap.size + 2) (by omega) b b4 b5
 have hb := (x.t2.apart (c := w.heap.size + 1) (by omega) a a4 a5).put b b4 b5
 exact ⟨ha.below (below_drew (Below.refl _ _)) ha.lt, hb.below (below_drew (Below.refl _ _)) hb.lt, below_drew h2⟩
set_option maxRecDepth 100000 in
set_option maxHeartbeats 4000000 in
theorem term_Split (t : Tm) (A4 A5 : Option Addr) (c4 c5 : Nat) (w : World) (hT : TmR w t A4 c4 A5 c5) (hg : bgT t = true) :
  Calls Tryz.prog 22 #[tmV t (.slice A4 t.nums.length c4) (.slice A5 t.args.length c5)] w (SplitE w (splitT t)) := by
 obtain ⟨w1, hw1, hF⟩ := split_boxes w t (.slice A4 t.nums.length c4) (.slice A5 t.args.length c5)
 have HF := Lib.hid hF
 obtain ⟨R, hR⟩ : ∃ R, R = splitT t := ⟨_, rfl⟩
 rw [← hR]
 have HP := Lib.hid fun W (hW : Below w.heap.size w W) => term_Copy t A4 A5 c4 c5 W (hT.below hW) hg
 clear hF hT hg
 unfold tmV at HP ⊢
 go_enter Tryz.func22, Tryz.ntmps22
 go_upto_region 1 with (fail)
 rw [← hw1]
 clear hw1
 obtain ⟨q0, q1, q2, q3, q4, q5, _, _, _, _, _, _⟩ := HF.out.ta
 by_cases hk : t.kd = 7
 ·have d7 : (t.kd != 7) = false := by rw [hk]; rfl
  by_cases hl : 2 ≤ t.args.length
  ·have dl : decide ((t.args.length : Int) < 2) = false := decide_eq_false (by omega)
   have HR : Hid (R = (rdTm t.args 0, leftT (t.args.drop 1), true)) := Lib.hid (by rw [hR]; unfold splitT; rw [if_pos ⟨hk, hl⟩])
   have HL2 := Lib.hid hl
   clear hk hR hl
   go_wp2_with fail
   refine (HP.out w1 HF.out.bl).mono ?_
   rintro e w2 ⟨v, rfl, hM, hB⟩
   obtain ⟨v4, v5, rfl, hM4, hM5⟩ := hM
   obtain ⟨Y4, y4, rfl⟩ := Kd.R_slice hM4
   obtain ⟨Y5, y5, rfl⟩ := Kd.R_slice hM5
   have HF2 := Lib.hid (HF.out.below hB)
   have HM5 := Lib.hid (Kd.R_lower hM5 HF.out.lt)
   clear hM4 hM5 hB q0 q1 q2 q3 q4 q5 HF HP
   unfold tmV
   go_upto_region 4 with (fail)
   have hb := below_alloc (Below.refl w2.heap.size w2) (.cells #[.int .i64 t.kd, .int .i64 t.it, .string t.tx, .int .u32 t.cr, .slice Y4 t.nums.length y4, .slice Y5 t.args.length y5] 27)
   have hta := TmAt.new w2 t (.slice Y4 t.nums.length y4) (.slice Y5 t.args.length y5)
   generalize w2.alloc (.cells #[.int .i64 t.kd, .int .i64 t.it, .string t.tx, .int .u32 t.cr, .slice Y4 t.nums.length y4, .slice Y5 t.args.length y5] 27) = w5 at hb hta ⊢
   have HF5 := Lib.hid (HF2.out.below hb)
   have HO := Lib.hid (Kd.R_below HM5.out hb)
   have hg3 : w.heap.size + 3 ≤ w2.heap.size := HF2.out.lt
   generalize w2.heap.size = g at hta hg3 ⊢
   have t5 := hta.c5
   clear hb hta HF2 HM5
   have hl := HL2.out
   obtain ⟨r0, r1, r2, r3, r4, r5, g0, g1, g2, g3, g4, g5⟩ := HF5.out.t1
   obtain ⟨s0, s1, s2, s3, s4, s5, m0, m1, m2, m3, m4, m5⟩ := HF5.out.t2
   simp only [zTm] at r0 r1 r2 r3 r4 r5 s0 s1 s2 s3 s4 s5
   obtain ⟨ad, E4, e4, E5, e5, rfl, x0, x1, x2, x3, x4, x5, hX4, hX5⟩ := spRow HO.out 0 (by decide) (by omega)
   have ha3 : w.heap.size + 3 ≤ ad.block := ((Kd.R_bound HO.out).1 ad.block (by simp [Value.ownBlock])).2.1
   have j1 : ¬ g = w.heap.size + 1 := by omega
   have j2 : ¬ g = w.heap.size + 2 := by omega
   have j3 : ¬ ad.block = w.heap.size + 1 := by omega
   have j4 : ¬ ad.block = w.heap.size + 2 := by omega
   have ez : ad.add 0 = ad := by simp [Addr.add]
   simp only [Int.toNat_zero, Nat.zero_mul, ez] at x0 x1 x2 x3 x4 x5
   clear ez
   by_cases he : t.args.length = 2
   ·have d1 : ((t.args.length : Int) == 2) = true := beq_iff_eq.2 (by omega)
    obtain ⟨ad', G4, k4, G5, k5, e', z0, z1, z2, z3, z4, z5, hZ4, hZ5⟩ := spRow HO.out 1 (by decide) (by omega)
    cases e'
    have e6 : ad.add 6 = ⟨ad.block, ad.off + 6, none⟩ := by simp [Addr.add]
    simp only [show (1 : Int).toNat = 1 from rfl, Nat.one_mul, e6] at z0 z1 z2 z3 z4 z5
    clear e6
    have HR2 : Hid (R = (rdTm t.args 0, rdTm t.args 1, true)) := Lib.hid (by rw [HR.out, leftT_two he])
    generalize rdTm t.args 0 = x at x0 x1 x2 x3 x4 x5 hX4 hX5 HR2
    generalize rdTm t.args 1 = z at z0 z1 z2 z3 z4 z5 hZ4 hZ5 HR2
    have HX := Lib.hid (And.intro hX4 hX5)
    have HZ := Lib.hid (And.intro hZ4 hZ5)
    have b0 : (0 : Int) < (t.args.length : Int) := by omega
    have b1 : (1 : Int) < (t.args.length : Int) := by omega
    have b2 : 0 < t.args.length := by omega
    have b3 : 1 < t.args.length := by omega
    clear hX4 hX5 hZ4 hZ5 he hl HR
    go_upto_region 5 with (fail)
    go_region
    go_wp2
    obtain ⟨hx, hz, hB⟩ := HF5.out.two x z (.slice E4 x.nums.length e4) (.slice E5 x.args.length e5) (.slice G4 z.nums.length k4) (.slice G5 z.args.length k5)
    refine bodyPost_ret (resTm3 rfl _ _ (w.heap.size + 1) (w.heap.size + 2) x z _ _ _ _ (by rfl) (by rfl) hx hz) rfl ?_
    rw [HR2.out]
    exact ⟨_, _, rfl, two_is HX.out.1 HX.out.2, two_is HZ.out.1 HZ.out.2, hB⟩
   ·have d1 : ((t.args.length : Int) == 2) = false := beq_eq_false_iff_ne.2 (by omega)
    have HR2 : Hid (R = (rdTm t.args 0, ⟨7, 0, ⟨#[]⟩, 0, [], t.args.drop 1⟩, true)) := Lib.hid (by rw [HR.out, leftT_more (by omega)])
    generalize rdTm t.args 0 = x at x0 x1 x2 x3 x4 x5 hX4 hX5 HR2
    have HX := Lib.hid (And.intro hX4 hX5)
    obtain ⟨_, _, e', hl5, _⟩ := Kd.R_reads HO.out
    cases e'
    have b0 : (0 : Int) < (t.args.length : Int) := by omega
    have b2 : 0 < t.args.length := by omega
    have b1 : (1 : Int) ≤ (t.args.length : Int) := by omega
    have b3 : (t.args.length : Int) ≤ (y5 : Int) := by omega
    have b4 : (1 : Int) ≤ (y5 : Int) := by omega
    have b5 : ¬ y5 = 1 := by omega
    have HC5 : Hid (TmIs (twoW w w5 x ⟨7, 0, ⟨#[]⟩, 0, [], t.args.drop 1⟩ (.slice E4 x.nums.length e4) (.slice E5 x.args.length e5) vNone (.slice (some ⟨ad.block, ad.off + 6, none⟩) (t.args.length - 1) (y5 - 1))) ⟨7, 0, ⟨#[]⟩, 0, [], t.args.drop 1⟩ (tmV ⟨7, 0, ⟨#[]⟩, 0, [], t.args.drop 1⟩ vNone (.slice (some ⟨ad.block, ad.off + 6, none⟩) (t.args.length - 1) (y5 - 1)))) := by
     obtain ⟨A', c', e', l', hC⟩ := Kd.R_reads (two_R (a := x) (b := ⟨7, 0, ⟨#[]⟩, 0, [], t.args.drop 1⟩) (a4 := .slice E4 x.nums.length e4) (a5 := .slice E5 x.args.length e5) (b4 := vNone) (b5 := .slice (some ⟨ad.block, ad.off + 6, none⟩) (t.args.length - 1) (y5 - 1)) HO.out)
     cases e'
     have h := Kd.C_drop hC (show 1 ≤ t.args.length by omega) l'
     rw [if_neg b5] at h
     have e6 : ad.add 6 = ⟨ad.block, ad.off + 6, none⟩ := by simp [Addr.add]
     refine Lib.hid ⟨none, 0, some ⟨ad.block, ad.off + 6, none⟩, y5 - 1, by rw [List.length_drop]; rfl, Nat.le_refl _, ⟨rfl, by simp, fun h => absurd h (Nat.lt_irrefl 0)⟩, by simp only [List.length_drop]; omega, ?_⟩
     rw [← e6]
     exact h
    have HB5 := Lib.hid (HF5.out.two x ⟨7, 0, ⟨#[]⟩, 0, [], t.args.drop 1⟩ (.slice E4 x.nums.length e4) (.slice E5 x.args.length e5) vNone (.slice (some ⟨ad.block, ad.off + 6, none⟩) (t.args.length - 1) (y5 - 1)))
    clear hX4 hX5 he hl HR hl5
    go_upto_region 6 with (fail)
    go_region
    generalize t.args.drop 1 = LD at HC5 HB5 HR2
    generalize t.args.length - 1 = nD at HC5 HB5 ⊢
    generalize y5 - 1 = yD at HC5 HB5 ⊢
    generalize x.nums.length = nX at HX HC5 HB5 ⊢
    generalize x.args.length = nY at HX HC5 HB5 ⊢
    go_wp2
    refine bodyPost_ret (resTm3 rfl _ _ (w.heap.size + 1) (w.heap.size + 2) x ⟨7, 0, ⟨#[]⟩, 0, [], LD⟩ (.slice E4 nX e4) (.slice E5 nY e5) vNone (.slice (some ⟨ad.block, ad.off + 6, none⟩) nD yD) (by rfl) (by rfl) HB5.out.1 HB5.out.2.1) rfl ?_
    rw [HR2.out]
    exact ⟨_, _, rfl, two_is (a := x) (b := ⟨7, 0, ⟨#[]⟩, 0, [], LD⟩) (a4 := .slice E4 nX e4) (a5 := .slice E5 nY e5) (b4 := vNone) (b5 := .slice (some ⟨ad.block, ad.off + 6, none⟩) nD yD) HX.out.1 HX.out.2, HC5.out, HB5.out.2.2⟩
  ·have dl : decide ((t.args.length : Int) < 2) = true := decide_eq_true (by omega)
   have HR : Hid (R = (zTm, zTm, false)) := Lib.hid (by rw [hR]; unfold splitT; rw [if_neg (fun h => hl h.2)])
   clear hk hR hl
   obtain ⟨r0, r1, r2, r3, r4, r5, g0, g1, g2, g3, g4, g5⟩ := HF.out.t1
   obtain ⟨s0, s1, s2, s3, s4, s5, y0, y1, y2, y3, y4, y5⟩ := HF.out.t2
   simp only [zTm] at r0 r1 r2 r3 r4 r5 s0 s1 s2 s3 s4 s5
   go_wp2_with fail
   refine bodyPost_ret (resTm3 rfl _ _ (w.heap.size + 1) (w.heap.size + 2) zTm zTm _ _ _ _ (by rfl) (by rfl) ((HF.out.t1.put zTm _ _).apart (by omega) zTm _ _) ((HF.out.t2.apart (by omega) zTm _ _).put zTm _ _)) rfl ?_
   rw [HR.out]
   exact HF.out.no
 ·have d7 : (t.kd != 7) = true := by rw [bne_iff_ne]; exact hk
  have HR : Hid (R = (zTm, zTm, false)) := Lib.hid (by rw [hR]; unfold splitT; rw [if_neg (fun h => hk h.1)])
  clear hk hR
  obtain ⟨r0, r1, r2, r3, r4, r5, g0, g1, g2, g3, g4, g5⟩ := HF.out.t1
  obtain ⟨s0, s1, s2, s3, s4, s5, y0, y1, y2, y3, y4, y5⟩ := HF.out.t2
  simp only [zTm] at r0 r1 r2 r3 r4 r5 s0 s1 s2 s3 s4 s5
  go_wp2_with fail
  refine bodyPost_ret (resTm3 rfl _ _ (w.heap.size + 1) (w.heap.size + 2) zTm zTm _ _ _ _ (by rfl) (by rfl) ((HF.out.t1.put zTm _ _).apart (by omega) zTm _ _) ((HF.out.t2.apart (by omega) zTm _ _).put zTm _ _)) rfl ?_
  rw [HR.out]
  exact HF.out.no
end Go.Proofs.YtibbcfeaododhaaGreatDoor
set_option linter.unusedSimpArgs false
namespace Go.Proofs.YtibbcfeaododhaaGreatDoor
open Go.RowKit Go.Proofs.YtibbcfeaododhaaGreatDoorW.PrintWords
theorem formBad_any {t : Tm} {n n' : Int} (h : formBad t n = []) : formBad t n' = [] := by
 have ov : ∀ l : List Lk, overTm n l = [] → overTm n' l = [] := by
  intro l hl
  cases l with
  | nil => rfl
  | cons x r => cases hl
 unfold formBad at h ⊢
 by_cases c0 : shapeOk t = false
 ·rw [if_pos c0] at h
  cases h
 ·rw [if_neg c0] at h ⊢
  by_cases c1 : t.kd = 1
  ·rw [if_pos c1] at h ⊢
   split at h
   ·cases h
   ·rename_i hr
    rw [if_neg hr]
  ·rw [if_neg c1] at h ⊢
   by_cases c2 : t.kd = 2
   ·rw [if_pos c2] at h ⊢
    exact ov _ h
   ·rw [if_neg c2] at h ⊢
    by_cases c3 : t.kd = 3 ∨ t.kd = 4
    ·rw [if_pos c3] at h ⊢
     exact ov _ h
    ·rw [if_neg c3]
theorem formBad_shape {t : Tm} {n : Int} (h : formBad t n = []) : shapeOk t = true := by
 unfold formBad at h
 by_cases c0 : shapeOk t = false
 ·rw [if_pos c0] at h
  cases h
 ·simpa using c0
/-- Such a depth and such counts may be met. -/
structure Fits (d n m : Int) : Prop where
 d0 : 0 ≤ d
 n0 : 0 ≤ n
 n1 : n ≤ 4096
 m0 : 0 ≤ m
 m1 : m ≤ 256
theorem measL_cons {a : Tm} {l : List Tm} {d n m : Int} : (measL (a :: l) d n m).1 = [] ↔ (measT a d n m).1 = [] ∧ (measL l d (measT a d n m).2.1 (measT a d n m).2.2).1 = [] := by
 rw [measL]
 rcases measT a d n m with ⟨_ | ⟨x, r⟩, n1, m1⟩ <;> simp
theorem Fits.next {a : Tm} {d n m : Int} (hf : Fits d n m) (h : (measT a d n m).1 = []) : Fits d (measT a d n m).2.1 (measT a d n m).2.2 ∧ n ≤ (measT a d n m).2.1 := by
 have h1 := meas_range a d n m hf.n0 hf.n1 hf.m0 hf.m1 hf.d0 h
 have h2 := meas_cnt a d n m h
 exact ⟨⟨hf.d0, h1.1, h1.2.1, h1.2.2.1, h1.2.2.2⟩, by omega⟩
theorem measL_less {l : List Tm} (ih : ∀ a ∈ l, ∀ d n m d' n' m', Fits d n m → d' ≤ d → n' ≤ n → (measT a d n m).1 = [] → (measT a d' n' m').1 = []) :
  ∀ d n m d' n' m', Fits d n m → d' ≤ d → n' ≤ n → (measL l d n m).1 = [] → (measL l d' n' m').1 = [] := by
 induction l with
 | nil => intro d n m d' n' m' _ _ _ _; rw [measL]
 | cons a l ihl =>
  intro d n m d' n' m' hf hd hn h
  rw [measL_cons] at h ⊢
  have h1 := ih a (by simp) d n m d' n' m' hf hd hn h.1
  refine ⟨h1, ihl (fun b hb => ih b (by simp [hb])) d _ _ d' _ _ (hf.next h.1).1 hd ?_ h.2⟩
  have e1 := meas_cnt a d n m h.1
  have e2 := meas_cnt a d' n' m' h1
  omega
/-- What is fault-free stays so at less depth and behind fewer parts. -/
theorem meas_less (t : Tm) : ∀ d n m d' n' m', Fits d n m → d' ≤ d → n' ≤ n → (measT t d n m).1 = [] → (measT t d' n' m').1 = [] := by
 induction t using Tm.ind with
 | h t ih =>
  intro d n m d' n' m' hf hd hn h
  obtain ⟨h1, h2, h3, _, h5⟩ := meas_parts h
  have h6 := hf.n1
  have h7 := hf.d0
  have h8 := hf.n0
  have h9 := hf.m0
  have h10 := hf.m1
  rw [measT_eq, if_neg (by omega), if_neg (by omega), formBad_any h2]
  exact measL_less ih _ _ _ _ _ _ ⟨by omega, by omega, by omega, by omega, by omega⟩ (by omega) (by omega) h3
theorem measL_part : ∀ {l : List Tm} {d n m : Int}, Fits d n m → (measL l d n m).1 = [] → 1 ≤ d → ∀ a ∈ l, chk a = []
 | [], _, _, _, _, _, _, a, ha => by cases ha
 | b :: l, d, n, m, hf, h, hd, a, ha => by
  rw [measL_cons] at h
  rcases List.mem_cons.1 ha with rfl | ha
  ·exact meas_less a d n m 1 0 0 hf hd hf.n0 h.1
  ·exact measL_part (hf.next h.1).1 h.2 hd a ha
theorem fits_start : Fits (1 + 1) (0 + 1) (max 0 1) := ⟨by decide, by decide, by decide, by decide, by decide⟩
theorem chk_part {t : Tm} (h : chk t = []) {a : Tm} (ha : a ∈ t.args) : chk a = [] := by
 obtain ⟨_, _, h3, _, _⟩ := meas_parts (t := t) (d := 1) (n := 0) (m := 0) h
 exact measL_part fits_start h3 (by decide) a ha
theorem list_form {t : Tm} (h : shapeOk t = true) (hk : t.kd = 7) : t = ⟨7, 0, ⟨#[]⟩, 0, [], t.args⟩ ∧ 2 ≤ t.args.length ∧ lastKd t ≠ 7 := by
 unfold shapeOk at h
 rw [if_neg (by omega), if_neg (by omega), if_neg (by omega), if_neg (by omega), if_neg (by omega), if_neg (by omega), if_pos hk] at h
 unfold emptyOk at h
 simp only [Bool.false_or, Bool.true_or, Bool.and_true, Bool.and_eq_true, decide_eq_true_eq, Bool.or_eq_true] at h
 obtain ⟨⟨⟨⟨h1, h2, h3⟩, h4⟩, h5⟩, h6⟩ := h
 refine ⟨?_, h5, h6⟩
 have h7 : t.it = 0 := h4.resolve_left (by omega)
 have h8 : t.tx = ⟨#[]⟩ := ByteArray.ext (Array.eq_empty_of_size_eq_zero h1)
 have h9 : t.nums = [] := List.length_eq_zero_iff.1 h2
 cases t
 simp only at hk h3 h7 h8 h9
 subst hk h3 h7 h8 h9
 rfl
theorem chk_list {t : Tm} (h : chk t = []) (hk : t.kd = 7) : t = ⟨7, 0, ⟨#[]⟩, 0, [], t.args⟩ ∧ 2 ≤ t.args.length ∧ lastKd t ≠ 7 :=
 list_form (formBad_shape (meas_parts (t := t) (d := 1) (n := 0) (m := 0) h).2.1) hk
/-- Put together and parted. -/
theorem split_join {h t : Tm} (ht : chk t = []) : splitT (joinT [h] t) = (h, t, true) := by
 unfold joinT
 by_cases hk : t.kd = 7
 ·obtain ⟨e, h2, _⟩ := chk_list ht hk
  rw [if_pos hk]
  unfold splitT
  rw [if_pos ⟨rfl, by simp only [List.length_append, List.length_cons]; omega⟩]
  have hd : ([h] ++ t.args).drop 1 = t.args := rfl
  simp only [hd]
  unfold leftT
  rw [if_neg (by omega), ← e]
  rfl
 ·rw [if_neg hk]
  unfold splitT
  rw [if_pos ⟨rfl, by simp⟩]
  rfl
theorem splitT_yes {t : Tm} (hk : t.kd = 7) (h2 : 2 ≤ t.args.length) : splitT t = (rdTm t.args 0, leftT (t.args.drop 1), true) := by
 unfold splitT
 rw [if_pos ⟨hk, h2⟩]
theorem last_drop {x : Tm} {l : List Tm} (h : 1 ≤ l.length) : rdTm (x :: l) (((x :: l).length : Int) - 1) = rdTm l ((l.length : Int) - 1) := by
 unfold rdTm
 have e : ((((x :: l).length : Nat) : Int) - 1).toNat = ((l.length : Int) - 1).toNat + 1 := by
  rw [List.length_cons]
  omega
 rw [e, List.getD_cons_succ]
/-- Parted and put together. -/
theorem cons_split {t : Tm} (h : chk t = []) (hk : t.kd = 7) : consT (rdTm t.args 0) (leftT (t.args.drop 1)) = (t, []) := by
 obtain ⟨e, h2, h3⟩ := chk_list h hk
 obtain ⟨_, _, hL, _, _⟩ := meas_parts (t := t) (d := 1) (n := 0) (m := 0) h
 have hp := fun a ha => chk_part h (a := a) ha
 unfold lastKd at h3
 generalize t.args = l at *
 subst e
 match l, h2 with
 | x :: y :: r, _ =>
  have hx : chk x = [] := hp x (by simp)
  have e0 : rdTm (x :: y :: r) 0 = x := rfl
  have hd : (x :: y :: r).drop 1 = y :: r := rfl
  rw [e0, hd]
  have hy : chk (leftT (y :: r)) = [] ∧ joinT [x] (leftT (y :: r)) = ⟨7, 0, ⟨#[]⟩, 0, [], x :: y :: r⟩ := by
   unfold leftT
   by_cases hr : (y :: r).length = 1
   ·rw [if_pos hr]
    have hr0 : r = [] := by simpa using hr
    subst hr0
    have e1 : rdTm [y] 0 = y := rfl
    rw [e1]
    have hk7 : y.kd ≠ 7 := h3
    refine ⟨hp y (by simp), ?_⟩
    unfold joinT
    rw [if_neg hk7]
    rfl
   ·rw [if_neg hr]
    refine ⟨?_, ?_⟩
    ·rw [last_drop (by simp)] at h3
     have hlen : 2 ≤ (y :: r).length := by
      have : 1 ≤ (y :: r).length := by simp
      omega
     have hs : shapeOk ⟨7, 0, ⟨#[]⟩, 0, [], y :: r⟩ = true := by
      unfold shapeOk emptyOk lastKd
      simp only [show (7 : Int) ≠ 1 by decide, show (7 : Int) ≠ 2 by decide, show (7 : Int) ≠ 3 by decide, show (7 : Int) ≠ 4 by decide, show (7 : Int) ≠ 5 by decide, show (7 : Int) ≠ 6 by decide, if_false, if_true]
      simp only [decide_eq_true hlen, decide_eq_true h3]
      rfl
     have hf : formBad ⟨7, 0, ⟨#[]⟩, 0, [], y :: r⟩ 0 = [] := by
      unfold formBad
      rw [if_neg (by rw [hs]; decide)]
      rfl
     have hm : chk ⟨7, 0, ⟨#[]⟩, 0, [], y :: r⟩ = (measL (y :: r) (1 + 1) (0 + 1) (max 0 1)).1 := by
      unfold chk measure
      rw [measT_eq, if_neg (by decide), if_neg (by decide), hf]
     rw [hm]
     rw [measL_cons] at hL
     have hn := fits_start.next hL.1
     exact measL_less (fun a _ => meas_less a) _ _ _ _ _ _ hn.1 (Int.le_refl _) hn.2 hL.2
    ·unfold joinT
     rw [if_pos rfl]
     rfl
  unfold consT
  rw [hx, hy.1, hy.2, h]
  simp
theorem len_cnt : ∀ l : List Tm, l.length ≤ cntL l
 | [] => Nat.zero_le _
 | a :: l => by
  have h1 := len_cnt l
  have h2 := cntT_eq a
  rw [cntL, List.length_cons]
  omega
/-- What is put together is of a size that a machine can hold. -/
theorem bg_join {h t : Tm} (hh : bgT h = true) (ht : bgT t = true) (hj : chk (joinT [h] t) = []) : bgT (joinT [h] t) = true := by
 have h1 := chk_cnt hj
 rw [cntT_eq] at h1
 have h2 := len_cnt (joinT [h] t).args
 rw [bgT_eq, Bool.and_eq_true, Bool.and_eq_true, decide_eq_true_eq, decide_eq_true_eq]
 refine ⟨⟨by unfold joinT; simp, by omega⟩, bgL_of fun a ha => ?_⟩
 unfold joinT at ha
 simp only at ha
 split at ha
 ·rcases List.mem_append.1 ha with ha | ha
  ·rw [List.mem_singleton] at ha
   exact ha ▸ hh
  ·exact bg_args ht ha
 ·rcases List.mem_append.1 ha with ha | ha
  ·rw [List.mem_singleton] at ha
   exact ha ▸ hh
  ·rw [List.mem_singleton] at ha
   exact ha ▸ ht
theorem smL_all : ∀ {l : List Tm}, (∀ a ∈ l, smT a = true) → smL l = true
 | [], _ => by rw [smL]
 | a :: l, h => by
  rw [smL, Bool.and_eq_true]
  exact ⟨h a (by simp), smL_all fun b hb => h b (by simp [hb])⟩
theorem rdTm_all {P : Tm → Prop} (hz : P zTm) {l : List Tm} (hl : ∀ a ∈ l, P a) (i : Int) : P (rdTm l i) := by
 unfold rdTm
 rw [List.getD_eq_getElem?_getD]
 cases hg : l[i.toNat]? with
 | none => exact hz
 | some a => exact hl a (List.mem_of_getElem? hg)
theorem leftT_all {P : Tm → Prop} (hz : P zTm) {l : List Tm} (hl : ∀ a ∈ l, P a) (hw : P ⟨7, 0, ⟨#[]⟩, 0, [], l⟩) : P (leftT l) := by
 unfold leftT
 split
 ·exact rdTm_all hz hl 0
 ·exact hw
theorem sm_zero : smT zTm = true := by decide
theorem bg_zero : bgT zTm = true := by decide
/-- A term's two parts. -/
theorem parts_of (t : Tm) (st : smT t = true) (gt : bgT t = true) : ∃ x y o, splitT t = (x, y, o) ∧ smT x = true ∧ smT y = true ∧ bgT x = true ∧ bgT y = true ∧ (o = true → chk t = [] → consT x y = (t, [])) := by
 by_cases c : t.kd = 7 ∧ 2 ≤ t.args.length
 ·have ha : ∀ a ∈ t.args, smT a = true := fun a ha => smL_mem (sm_args st) ha
  have hb : ∀ a ∈ t.args, bgT a = true := fun a ha => bg_args gt ha
  have ha' : ∀ a ∈ t.args.drop 1, smT a = true := fun a hm => ha a (List.mem_of_mem_drop hm)
  have hb' : ∀ a ∈ t.args.drop 1, bgT a = true := fun a hm => hb a (List.mem_of_mem_drop hm)
  have hl := bg_len gt
  refine ⟨_, _, _, splitT_yes c.1 c.2, rdTm_all (P := fun a => smT a = true) sm_zero ha 0, leftT_all (P := fun a => smT a = true) sm_zero ha' ?_, rdTm_all (P := fun a => bgT a = true) bg_zero hb 0, leftT_all (P := fun a => bgT a = true) bg_zero hb' ?_, fun _ hc => cons_split hc c.1⟩
  ·rw [smT_eq, Bool.and_eq_true]
   exact ⟨decide_eq_true (show (0 : Nat) ≤ 140737488351232 by omega), smL_all ha'⟩
  ·rw [bgT_eq, Bool.and_eq_true, Bool.and_eq_true, decide_eq_true_eq, decide_eq_true_eq]
   exact ⟨⟨by simp, by simp only [List.length_drop]; omega⟩, bgL_of hb'⟩
 ·refine ⟨zTm, zTm, false, ?_, sm_zero, sm_zero, bg_zero, bg_zero, fun h => by cases h⟩
  unfold splitT
  rw [if_neg c]
/-- What is put together: a fault, or a list that is parted again. -/
theorem cons_cases (h t : Tm) (gh : bgT h = true) (gt : bgT t = true) : (∃ J, consT h t = (J, []) ∧ splitT J = (h, t, true) ∧ bgT J = true) ∨ ∃ l, l ≠ [] ∧ consT h t = (zTm, l) := by
 unfold consT
 by_cases h1 : chk h = []
 ·rw [if_neg (by simp [h1])]
  by_cases h2 : chk t = []
  ·rw [if_neg (by simp [h2])]
   by_cases h3 : chk (joinT [h] t) = []
   ·rw [if_neg (by simp [h3])]
    exact .inl ⟨_, rfl, split_join h2, bg_join gh gt h3⟩
   ·rw [if_pos h3]
    exact .inr ⟨_, h3, rfl⟩
  ·rw [if_pos h2]
   exact .inr ⟨_, h2, rfl⟩
 ·rw [if_pos h1]
  exact .inr ⟨_, h1, rfl⟩
end Go.Proofs.YtibbcfeaododhaaGreatDoor
