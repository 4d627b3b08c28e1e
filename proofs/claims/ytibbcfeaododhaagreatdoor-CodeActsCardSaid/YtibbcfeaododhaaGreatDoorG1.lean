/-
 Errors as chains of api.Fault: what a value of type error says (ErrIs), errors.Is at a number, heddlemem.Chain. The kinds of heddlemem.Link and api.Token as rows of cells; a chain of links as a slice (nil where it is empty). code.Acts, code.Act: the built-ins that are a node's business; slices.IndexFunc of built-ins. slices.DeleteFunc of built-ins; code.Acts, code.Act. code.Acts, code.Act and the reference's are the same; the first half of CodeActs. bif.All: some list of built-ins. What CodeActs' row lays: the library's variables in the world (Asc), a world that meets the list, the step from a walk's end to a row's post. Contracts of the small functions on one byte: lex, heddleref10, heddleref01, atom. Plain Lean: a text's bytes as numbers; runs of bytes of a sort; blanks and comments. No program here. UTF-8: the place of the first code point that is none: atom.strange, heddleref01.UTF. Reserved words; runs of word bytes; plain atoms: atom.reserved, atom.word, atom.plain, lex.isReserved, heddleref01.Reserved, heddleref01.plain. atom.Quote, atom.Valid of a plain word. code.checker on the one program that 'alive' makes: form, function, forms. code.checker: function, forms, on the one program that 'alive' makes.
-/
import Derived.Test.YtibbcfeaododhaaGreatDoorProg
import Derived.WalkKit
import Derived.WalkSpells
import Derived.LaidEql
import Derived.Stop.Asserts
import Derived.RowKitTokens
import Derived.Lib.IfaceEq
import Derived.Lib.Hide
import Derived.Below
import Derived.Deep.LoopGhost
import Derived.Test.YtibbcfeaododhaaGreatDoorKWWords
import Derived.Lib.AppendIntMem
import Derived.Test.YtibbcfeaododhaaGreatDoorKShelf
import Derived.StillTailTactics
import Derived.Deep.QuietTactic
import Derived.BigQuiet
import Derived.Outline
import Derived.Deep.RegionHeld3
import Derived.Deep.AppendLies
import Derived.Lib.Strings
import Derived.Test.YtibbcfeaododhaaGreatDoorKWEqStruct
import Derived.Test.YtibbcfeaododhaaGreatDoorKPCax0
import Derived.Test.YtibbcfeaododhaaGreatDoorKPCax1
import Derived.Test.YtibbcfeaododhaaGreatDoorKPCax2
import Derived.Test.YtibbcfeaododhaaGreatDoorKPCax3
import Derived.Test.YtibbcfeaododhaaGreatDoorKPCax4
import Derived.Test.YtibbcfeaododhaaGreatDoorKPCax5
import Derived.Test.YtibbcfeaododhaaGreatDoorCards
import Derived.Test.YtibbcfeaododhaaGreatDoorTie
import Derived.ProofKit
import Derived.OpenShut
import Derived.Deep.DeepHandedRow
import Derived.Deep.DeepWitnessRowRef
import Derived.Lib.LaidTab
import Derived.Lib.LaidU8T
import Derived.PinnedBridge
import Derived.LaidHandle
import Derived.LaidSub
import Derived.Lay
import Derived.Shelf.Vars
import Derived.Lib.OthersKept
import Derived.Lib.TrimU
import Derived.Lib.RuneCountTail
import Derived.Deep.Draws
import Derived.Maps.AppendAt
import Derived.OwnWalk
import Derived.Laws.BytesArg
import Derived.Laws.MakeOwn
import Derived.Laws.OwnMore
import Derived.Deep.OwnRows
import Derived.Tactics
import Derived.Lib.ConvBytes
import Derived.Laws.Slices
import Derived.KernelRfl
import Derived.RowKit3
import Derived.WideLaws
import Derived.Deep.DeepCutAuto
import Derived.Deep.CutBlock
import Derived.Laws.Rows
import Derived.Lib.AppendStr
import Derived.ArgAppend
import Derived.Laws.IdiomCopy
import Derived.OrdersHeld
import Derived.Laws.BitsLemmas
import Derived.RowKit
import Derived.Test.YtibbcfeaododhaaGreatDoorKWLast
import Derived.Test.YtibbcfeaododhaaGreatDoorKWApart
import Derived.Test.YtibbcfeaododhaaGreatDoorKWShare
import Derived.Test.YtibbcfeaododhaaGreatDoorKWN
import Derived.Test.YtibbcfeaododhaaGreatDoorKWRepsOne
import Derived.Test.YtibbcfeaododhaaGreatDoorKWNEv
import Derived.Test.YtibbcfeaododhaaGreatDoorKWMore
import Derived.Lib.IndexMore
import Derived.LoopN
import Derived.Handy
namespace Go.Proofs.YtibbcfeaododhaaGreatDoor
open Go.RowKit Go.Extern.Stop Go.Stop Go.Extern
/-- One Fault of a chain. -/
structure Lk where
 ly : ByteArray
 pl : Int
 co : Int
instance : DecidableEq Lk := fun a b => if h : a.ly = b.ly ∧ a.pl = b.pl ∧ a.co = b.co then isTrue (by cases a; cases b; simp_all) else isFalse (by intro e; subst e; exact h ⟨rfl, rfl, rfl⟩)
/-! ### errors.Is at a number -/
theorem Is_nil {W : World} (c : Int) :
  Calls Tryz.prog 36 #[.nilIface, .iface 53 (.int .i64 c)] W fun e w' => e = .returned (.bool false) ∧ W = w' := by
 have hn := fun W => run_eql_iface_nil_left (P := Tryz.prog) W 53 (.int .i64 c) Tryz.underlying29
 go_enter Tryz.func36, Tryz.ntmps36
 go_wp2_with fail
 go_ret
 exact ⟨rfl, rfl⟩
end Go.Proofs.YtibbcfeaododhaaGreatDoor
namespace Go.Proofs.YtibbcfeaododhaaGreatDoor
open Go.RowKit Go.Proofs.YtibbcfeaododhaaGreatDoorW.PrintWords
/-- One token. -/
structure Tk where
 kd : Int
 tx : ByteArray
 nm : Int
 at_ : Int
instance : DecidableEq Tk := fun a b => if h : a.kd = b.kd ∧ a.tx = b.tx ∧ a.nm = b.nm ∧ a.at_ = b.at_ then isTrue (by cases a; cases b; simp_all) else isFalse (by intro e; subst e; exact h ⟨rfl, rfl, rfl, rfl⟩)
theorem trans_below {w w1 w2 : World} (h : Below w.heap.size w w1) (k : Below w1.heap.size w1 w2) : Below w.heap.size w w2 := below_then h h.size k
end Go.Proofs.YtibbcfeaododhaaGreatDoor
set_option linter.unusedSimpArgs false
set_option linter.unusedVariables false
namespace Go.Proofs.YtibbcfeaododhaaGreatDoor
open Go.RowKit Go.Sort Go.Proofs.YtibbcfeaododhaaGreatDoorW.PrintWords
theorem below_grownC {W W' : World} {b n : Nat} (h : W.grownBy W' (some b)) (hn : n ≤ b) (hs : n ≤ W.heap.size) : Below n W W' := ⟨h.os, h.tape, h.output, h.size, fun i hi => h.block i (by omega) (by simp; omega)⟩
abbrev Bf := PCa.S44
abbrev kBf : Kd Bf := PCa.k44
abbrev bfV (x : Bf) : Value := .agg #[.string x.f0, .int .i64 x.f1, .int .i64 x.f2, .bool x.f3]
/-- Where the first is of which p holds; -1: none. -/
def idxOf (p : Bf → Bool) (xs : List Bf) : Int := match xs.findIdx? p with
 | some i => (i : Int)
 | none => -1
theorem idxOf_hit {p : Bf → Bool} {xs : List Bf} {k : Nat} (hk : k < xs.length) (ht : p xs[k] = true) (ha : ∀ j (h : j < k), p (xs[j]'(by omega)) = false) : idxOf p xs = k := by
 unfold idxOf
 rw [List.findIdx?_eq_some_iff_getElem.2 ⟨hk, ht, fun j hj => by rw [ha j hj]; decide⟩]
theorem idxOf_miss {p : Bf → Bool} {xs : List Bf} (ha : ∀ j (h : j < xs.length), p (xs[j]) = false) : idxOf p xs = -1 := by
 unfold idxOf
 rw [List.findIdx?_eq_none_iff.2 fun x hx => by obtain ⟨i, hi, rfl⟩ := List.mem_iff_getElem.1 hx; exact ha i hi]
theorem rdBf_at {l : List Bf} {k : Nat} (h : k < l.length) : PCa.rd_T44 l (k : Int) = l[k] := by
 unfold PCa.rd_T44
 rw [Int.toNat_natCast, List.getD_eq_getElem?_getD, List.getElem?_eq_getElem h]
 rfl
/-- What a predicate on built-ins answers. -/
def PredB (g : Nat) (lb : Array Value) (p : Bf → Bool) (w : World) : Prop := ∀ (W : World) (x : Bf), Below w.heap.size w W → Calls Tryz.prog g (#[bfV x] ++ lb) W fun e w' => e = .returned (.bool (p x)) ∧ Below W.heap.size W w'
set_option maxHeartbeats 2000000 in
set_option maxRecDepth 100000 in
theorem bif_IndexFunc (p : Bf → Bool) (g : Nat) (lb : Array Value) (eg : ∀ args w, (callFunc g args).run Tryz.prog w = .ok (.enter g args) w) (xs : List Bf) (A : Option Addr) (c : Nat) (w : World)
  (hp : PredB g lb p w) (hC : kBf.C w A xs.length xs) :
  Calls Tryz.prog 45 #[.slice A xs.length c, .func (.func g) #[] lb] w fun e w' => e = .returned (.int .i64 (idxOf p xs)) ∧ Below w.heap.size w w' := by
 have HP := Lib.hid hp
 have HC := Lib.hid hC
 have HML : Hid (xs.length ≤ 9223372036854775807) := Lib.hid hC.2.1
 clear hp hC
 go_enter Tryz.func45, Tryz.ntmps45
 go_wp2
 go_loopg [5, 8] xs.length (fun gg _ s8 wr => ∃ kk : Nat, kk ≤ xs.length ∧ xs.length - kk ≤ gg ∧ s8 = .int .i64 kk ∧ Hid (Below w.heap.size w wr) ∧ Hid (∀ j (h : j < kk) (h' : j < xs.length), p xs[j] = false))
 case atStart => exact ⟨0, Nat.zero_le _, by omega, rfl, Lib.hid (Below.refl _ w), Lib.hid fun j hj => absurd hj (Nat.not_lt_zero _)⟩
 case round =>
  obtain ⟨kk, hkk, hg, rfl, BW, HA⟩ := hrel
  have HG := Lib.hid hg
  clear hg
  by_cases hlt : kk < xs.length
  ·have y0 : (0 : Int) ≤ (kk : Int) := by omega
   have y1 : (kk : Int) < (xs.length : Int) := by omega
   obtain ⟨ad, hA, q0, q1, q2, q3⟩ := PCa.at_T44 HC.out (kk : Int) y0 y1
   cases hA
   simp only [Int.toNat_natCast] at q0 q1 q2 q3
   rw [rdBf_at hlt] at q0 q1 q2 q3
   have hbl := BW.out
   replace q0 := (hbl.cell (World.block_lt_of_cell? w _ q0)).trans q0
   replace q1 := (hbl.cell (World.block_lt_of_cell? w _ q1)).trans q1
   replace q2 := (hbl.cell (World.block_lt_of_cell? w _ q2)).trans q2
   replace q3 := (hbl.cell (World.block_lt_of_cell? w _ q3)).trans q3
   have hcall := HP.out wr xs[kk] BW.out
   have hml := HML.out
   have HX : Hid (∃ y, y = xs[kk]) := Lib.hid ⟨_, rfl⟩
   obtain ⟨y, hy⟩ := HX.out
   rw [← hy] at q0 q1 q2 q3 hcall
   have HY := Lib.hid hy
   clear hy hbl HX
   cases hq : p y with
   | true =>
    rw [hq] at hcall
    go_wp2_with (go_at_fn g; refine hcall.mono ?_; rintro e w' ⟨rfl, hb'⟩)
    go_ret
    refine ⟨?_, trans_below BW.out hb'⟩
    rw [idxOf_hit hlt (by rw [← HY.out]; exact hq) (fun j hj => HA.out j hj (by omega))]
    rfl
   | false =>
    rw [hq] at hcall
    go_wp2_with (go_at_fn g; refine hcall.mono ?_; rintro e w' ⟨rfl, hb'⟩)
    go_roundg (xs.length - (kk + 1))
    case measure => have := HG.out; omega
    case rel =>
     refine ⟨kk + 1, by omega, Nat.le_refl _, by go_num, Lib.hid (trans_below BW.out hb'), Lib.hid fun j hj hj' => ?_⟩
     by_cases e : j = kk
     ·subst e
      rw [← HY.out]; exact hq
     ·exact HA.out j (by omega) hj'
  ·have y1 : ¬ (kk : Int) < (xs.length : Int) := by omega
   go_wp2
   go_ret
   refine ⟨?_, BW.out⟩
   rw [idxOf_miss (fun j hj => HA.out j (by omega) hj)]
   rfl
def notAct (x : Bf) : Bool := x.f2 != 3 && x.f2 != 4
set_option maxRecDepth 100000 in
theorem code_Acts1 (x : Bf) (W : World) : Calls Tryz.prog 44 #[bfV x] W fun e w' => e = .returned (.bool (notAct x)) ∧ Below W.heap.size W w' := by
 obtain ⟨R, hR⟩ : ∃ R, R = notAct x := ⟨_, rfl⟩
 rw [← hR]
 have c2 : (W.alloc (.cells #[.string x.f0, .int .i64 x.f1, .int .i64 x.f2, .bool x.f3] 44)).cell? ⟨W.heap.size, 2, none⟩ = some (.int .i64 x.f2) := by simp
 have HB := Lib.hid (below_alloc (Below.refl W.heap.size W) (.cells #[.string x.f0, .int .i64 x.f1, .int .i64 x.f2, .bool x.f3] 44))
 unfold notAct at hR
 go_enter Tryz.func44, Tryz.ntmps44
 go_upto_region 1 with (fail)
 generalize W.alloc (.cells #[.string x.f0, .int .i64 x.f1, .int .i64 x.f2, .bool x.f3] 44) = w1 at c2 HB ⊢
 cases d3 : (x.f2 != 3) with
 | true =>
  rw [d3, Bool.true_and] at hR
  go_wp2_with fail
  go_ret
  exact ⟨by rw [hR]; rfl, HB.out⟩
 | false =>
  rw [d3, Bool.false_and] at hR
  go_wp2_with fail
  go_ret
  exact ⟨by rw [hR]; rfl, HB.out⟩
/-! ### slices.DeleteFunc of built-ins -/
abbrev tyBf : TypeId := 44
abbrev zBf : Bf := PCa.z44
abbrev bfC (x : Bf) : List Value := [.string x.f0, .int .i64 x.f1, .int .i64 x.f2, .bool x.f3]
theorem setCells_app (g : Nat) : ∀ (xs ys : List Value) (o : Nat) (W : World), W.setCells g o (xs ++ ys) = (W.setCells g o xs).setCells g (o + xs.length) ys
 | [], ys, o, W => rfl
 | x :: xs, ys, o, W => by
  have h := setCells_app g xs ys (o + 1) (W.setCell ⟨g, o, none⟩ x)
  have e : o + 1 + xs.length = o + (x :: xs).length := by rw [List.length_cons]; omega
  rw [e] at h
  exact h
theorem R_bfSet {W : World} {base g n cap : Nat} {ok : Nat → Prop} {ys : List Bf} (h : kBf.R tyBf W base ok (.slice (some ⟨g, 0, none⟩) n cap) ys) (i : Nat) (hi : i < n) (x : Bf) :
  kBf.R tyBf (W.setCells g (i * 4) (bfC x)) base ok (.slice (some ⟨g, 0, none⟩) n cap) (ys.set i x) ∧ W.grownBy (W.setCells g (i * 4) (bfC x)) (some g) := by
 obtain ⟨c, hc, _, hcc, _⟩ := Kd.R_elem h zBf (i : Int) (by omega) (by omega)
 have h2 := Kd.R_seg (j := 0) (seg := bfC x) (x' := x) (okp := fun _ => False) h (i : Int) (by omega) (by omega) hc hcc (show 0 + 4 ≤ 4 by decide) (by
  have e : (c.take 0 ++ bfC x ++ c.drop (0 + (bfC x).length)) = bfC x := by
   rw [List.drop_of_length_le (by rw [hc]; exact (show 4 ≤ 0 + 4 by decide))]
   simp
  rw [e]
  exact PCa.k44_mkM _ _ _ x) (fun _ hk => hk.elim)
 exact h2
theorem R_bfZero {base g n cap : Nat} {ok : Nat → Prop} : ∀ (m i : Nat) (W : World) (ys : List Bf), ys.length = n → i + m = n → kBf.R tyBf W base ok (.slice (some ⟨g, 0, none⟩) n cap) ys →
  kBf.R tyBf (W.setCells g (i * 4) (List.replicate m (bfC zBf)).flatten) base ok (.slice (some ⟨g, 0, none⟩) i cap) (ys.take i) ∧ W.grownBy (W.setCells g (i * 4) (List.replicate m (bfC zBf)).flatten) (some g)
 | 0, i, W, ys, hl, hi, h => by
  have e : i = n := by omega
  subst e
  refine ⟨Kd.R_take h (by omega), World.grownBy.refl _ _⟩
 | m + 1, i, W, ys, hl, hi, h => by
  have h1 := R_bfSet h i (by omega) zBf
  have h2 := R_bfZero m (i + 1) _ (ys.set i zBf) (by rw [List.length_set]; exact hl) (by omega) h1.1
  rw [List.replicate_succ, List.flatten_cons, setCells_app]
  have e : i * 4 + (bfC zBf).length = (i + 1) * 4 := by
   have : (bfC zBf).length = 4 := rfl
   omega
  rw [e]
  refine ⟨?_, h1.2.trans h2.2⟩
  have h3 := Kd.R_take (m := i) h2.1 (by rw [List.length_take, List.length_set]; omega)
  rw [List.take_take, Nat.min_eq_left (by omega)] at h3
  have e2 : (ys.set i zBf).take i = ys.take i := List.take_set_of_le (Nat.le_refl i)
  rw [e2] at h3
  exact h3
theorem zeroBf (w : World) : (zeroValue tyBf).run Tryz.prog w = .ok (.agg #[.string ⟨#[]⟩, .int .i64 0, .int .i64 0, .bool false]) w := by kernel_rfl
theorem run_clear_bf (w : World) (ty : TypeId) (b o n c : Nat) (hn : 0 < n) (zs : List Value) (hz : (Builtin.zeroCells (Value.agg #[.string ⟨#[]⟩, .int .i64 0, .int .i64 0, .bool false]).cells n).toList = zs) (h1 : ∀ v ∈ zs, v.oneCell' = true)
  (hc : ∀ j, j < zs.length → (w.cell? ⟨b, o + j, none⟩).isSome = true) (hf : ∀ j, j < zs.length → w.frozen? ⟨b, o + j, none⟩ = false) :
  (Builtin.clear_ #[40] ty #[.slice (some ⟨b, o, none⟩) n c]).run Tryz.prog w = .ok (.tuple #[]) (w.setCells b o zs) := by
 have hst := run_storeCells_cells (P := Tryz.prog) b o zs 0 w (by simpa using hc) (by simpa using hf) h1
 simp only [Nat.add_zero] at hst
 obtain ⟨m, rfl⟩ : ∃ m, n = m + 1 := ⟨n - 1, by omega⟩
 simp [Builtin.clear_, run_underlying Tryz.underlying40, zeroBf, hz, hst]
end Go.Proofs.YtibbcfeaododhaaGreatDoor
set_option linter.unusedSimpArgs false
set_option linter.unusedVariables false
namespace Go.Proofs.YtibbcfeaododhaaGreatDoor
open Go.RowKit Go.Sort Go.Proofs.YtibbcfeaododhaaGreatDoorW.PrintWords
/-- DeleteFunc's state: so many are kept, so far it has looked. -/
structure DelInv (p : Bf → Bool) (xs ys : List Bf) (i j : Nat) : Prop where
 len : ys.length = xs.length
 lt : i < j
 le : j ≤ xs.length
 kept : ys.take i = (xs.take j).filter (fun x => !p x)
 rest : ys.drop j = xs.drop j
theorem DelInv.start {p : Bf → Bool} {x : Bf} {r : List Bf} (h : p x = true) : DelInv p (x :: r) (x :: r) 0 1 := ⟨rfl, by omega, by simp, by simp [h], rfl⟩
theorem DelInv.two {p : Bf → Bool} {xs ys : List Bf} {i j : Nat} (h : DelInv p xs ys i j) (hj : j < xs.length) : ys[j]'(by rw [h.len]; exact hj) = xs[j] ∧ ys.drop (j + 1) = xs.drop (j + 1) := by
 have h1 := h.rest
 rw [List.drop_eq_getElem_cons hj, List.drop_eq_getElem_cons (by rw [h.len]; exact hj)] at h1
 injection h1 with h2 h3
 exact ⟨h2, h3⟩
theorem DelInv.skip {p : Bf → Bool} {xs ys : List Bf} {i j : Nat} (h : DelInv p xs ys i j) (hj : j < xs.length) (hp : p xs[j] = true) : DelInv p xs ys i (j + 1) := by
 refine ⟨h.len, by have := h.lt; omega, hj, ?_, (h.two hj).2⟩
 rw [List.take_succ_eq_append_getElem hj, List.filter_append, h.kept]
 simp [hp]
theorem DelInv.keep {p : Bf → Bool} {xs ys : List Bf} {i j : Nat} (h : DelInv p xs ys i j) (hj : j < xs.length) (hp : p xs[j] = false) : DelInv p xs (ys.set i xs[j]) (i + 1) (j + 1) := by
 have hi : i < ys.length := by have := h.lt; have := h.len; omega
 refine ⟨by rw [List.length_set]; exact h.len, by have := h.lt; omega, hj, ?_, ?_⟩
 ·rw [List.take_succ_eq_append_getElem (by rw [List.length_set]; exact hi), List.take_set_of_le (Nat.le_refl i), List.getElem_set_self, List.take_succ_eq_append_getElem hj, List.filter_append, h.kept]
  simp [hp]
 ·rw [List.drop_set_of_lt (by have := h.lt; omega)]
  exact (h.two hj).2
theorem bf_at {W : World} {base g n cap : Nat} {ok : Nat → Prop} {ys : List Bf} (h : kBf.R tyBf W base ok (.slice (some ⟨g, 0, none⟩) n cap) ys) (k : Nat) (hk : k < n) (hk' : k < ys.length) :
  W.cell? ⟨g, k * 4, none⟩ = some (.string ys[k].f0) ∧ W.cell? ⟨g, k * 4 + 1, none⟩ = some (.int .i64 ys[k].f1) ∧ W.cell? ⟨g, k * 4 + 2, none⟩ = some (.int .i64 ys[k].f2) ∧ W.cell? ⟨g, k * 4 + 3, none⟩ = some (.bool ys[k].f3) ∧
   W.frozen? ⟨g, k * 4, none⟩ = false ∧ W.frozen? ⟨g, k * 4 + 1, none⟩ = false ∧ W.frozen? ⟨g, k * 4 + 2, none⟩ = false ∧ W.frozen? ⟨g, k * 4 + 3, none⟩ = false := by
 obtain ⟨c, _, hM, hcc, hf⟩ := Kd.R_elem h zBf (k : Int) (by omega) (by omega)
 rw [Int.toNat_natCast, List.getD_eq_getElem?_getD, List.getElem?_eq_getElem hk'] at hM
 obtain rfl := PCa.k44_openM hM
 have hc : ∀ j u, [Value.string ys[k].f0, .int .i64 ys[k].f1, .int .i64 ys[k].f2, .bool ys[k].f3][j]? = some u → W.cell? ⟨g, k * 4 + j, none⟩ = some u := hcc
 have hz : ∀ j, W.frozen? ⟨g, k * 4 + j, none⟩ = false := hf
 exact ⟨hc 0 _ rfl, hc 1 _ rfl, hc 2 _ rfl, hc 3 _ rfl, hz 0, hz 1, hz 2, hz 3⟩
theorem zero_list (z : Array Value) (a b c d : Value) (h0 : z[0]! = a) (h1 : z[1]! = b) (h2 : z[2]! = c) (h3 : z[3]! = d) : ∀ (n : Nat), (List.range (n * 4)).map (fun i => z[i % 4]!) = (List.replicate n [a, b, c, d]).flatten
 | 0 => rfl
 | n + 1 => by
  have ih := zero_list z a b c d h0 h1 h2 h3 n
  rw [List.replicate_succ', List.flatten_append, ← ih, show (n + 1) * 4 = n * 4 + 1 + 1 + 1 + 1 by omega, List.range_succ, List.range_succ, List.range_succ, List.range_succ]
  simp only [List.map_append, List.map_cons, List.map_nil, List.append_assoc, List.flatten_cons, List.flatten_nil, List.append_nil, List.cons_append, List.nil_append]
  rw [show n * 4 % 4 = 0 by omega, show (n * 4 + 1) % 4 = 1 by omega, show (n * 4 + 1 + 1) % 4 = 2 by omega, show (n * 4 + 1 + 1 + 1) % 4 = 3 by omega, h0, h1, h2, h3]
theorem zero_cells (n : Nat) : (Builtin.zeroCells (Value.agg #[.string ⟨#[]⟩, .int .i64 0, .int .i64 0, .bool false]).cells n).toList = (List.replicate n (bfC zBf)).flatten := by
 have h := zero_list #[.string ⟨#[]⟩, .int .i64 0, .int .i64 0, .bool false] _ _ _ _ rfl rfl rfl rfl n
 have e : (Value.agg #[.string ⟨#[]⟩, .int .i64 0, .int .i64 0, .bool false]).cells = #[.string ⟨#[]⟩, .int .i64 0, .int .i64 0, .bool false] := by simp [Value.cells]
 rw [e]
 unfold Builtin.zeroCells
 rw [Array.toList_map, Array.toList_range]
 exact h
set_option maxHeartbeats 4000000 in
set_option maxRecDepth 100000 in
theorem bif_DeleteFunc (p : Bf → Bool) (g : Nat) (lb : Array Value) (eg : ∀ args w, (callFunc g args).run Tryz.prog w = .ok (.enter g args) w) (x0 : Bf) (r : List Bf) (h0 : p x0 = true) (gb cap : Nat) (w0 w : World) (base : Nat) (ok : Nat → Prop)
  (hp : ∀ (W : World) (x : Bf), Calls Tryz.prog g (#[bfV x] ++ lb) W fun e w' => e = .returned (.bool (p x)) ∧ Below W.heap.size W w')
  (hB : Below base w0 w) (hbw : base ≤ w0.heap.size) (hbase : base ≤ gb) (hR : kBf.R tyBf w base ok (.slice (some ⟨gb, 0, none⟩) (x0 :: r).length cap) (x0 :: r)) :
  Calls Tryz.prog 42 #[.slice (some ⟨gb, 0, none⟩) (x0 :: r).length cap, .func (.func g) #[] lb] w fun e w' => e = .returned (.slice (some ⟨gb, 0, none⟩) ((x0 :: r).filter fun x => !p x).length cap) ∧
   kBf.R tyBf w' base ok (.slice (some ⟨gb, 0, none⟩) ((x0 :: r).filter fun x => !p x).length cap) ((x0 :: r).filter fun x => !p x) ∧ Below base w0 w' := by
 obtain ⟨_, _, e, hcap, hC⟩ := Kd.R_reads hR
 cases e
 have hcm : (x0 :: r).length ≤ 9223372036854775807 := hC.2.1
 have hidx : idxOf p (x0 :: r) = 0 := idxOf_hit (k := 0) (by simp) h0 (fun j hj => absurd hj (Nat.not_lt_zero _))
 have HI := Lib.hid (bif_IndexFunc p g lb eg (x0 :: r) (some ⟨gb, 0, none⟩) cap w (fun W x _ => hp W x) hC)
 rw [hidx] at HI
 have hD : DelInv p (x0 :: r) (x0 :: r) 0 1 := DelInv.start h0
 have HP := Lib.hid hp
 have HR := Lib.hid hR
 have HB := Lib.hid hB
 have HBS := Lib.hid hbw
 have HBase := Lib.hid hbase
 have HD := Lib.hid hD
 have HCM := Lib.hid hcm
 have HCAP := Lib.hid hcap
 clear hp hR hB hbw hbase hD hC hidx h0 hcm hcap
 generalize (x0 :: r) = xs at *
 go_enter Tryz.func42, Tryz.ntmps42
 go_wp2_with fail
 refine HI.out.mono ?_
 rintro e w1 ⟨rfl, hb⟩
 have HR1 := Lib.hid (Kd.R_below HR.out hb)
 have HB1 := Lib.hid (HB.out.trans (hb.mono (Nat.le_trans HBS.out HB.out.size)))
 clear HI HR HB hb
 go_wp2
 go_loopg [5, 6] xs.length (fun gg s5 s6 wl => ∃ (i j : Nat) (ys : List Bf), s5 = .int .i64 i ∧ s6 = .int .i64 j ∧ xs.length - j ≤ gg ∧ Hid (DelInv p xs ys i j) ∧ Hid (kBf.R tyBf wl base ok (.slice (some ⟨gb, 0, none⟩) xs.length cap) ys) ∧ Hid (Below base w0 wl))
 case atStart => exact ⟨0, 1, xs, rfl, rfl, by have := HD.out.le; omega, HD, HR1, HB1⟩
 case round =>
  obtain ⟨i, j, ys, rfl, rfl, hg, HV, HW, HBW⟩ := hrel
  have HG := Lib.hid hg
  have hml := HCM.out
  have hle := HV.out.le
  have hlt := HV.out.lt
  clear hg HD HR1 HB1
  by_cases hj : j < xs.length
  ·have y0 : (0 : Int) ≤ (j : Int) := by omega
   have y1 : (j : Int) < (xs.length : Int) := by omega
   have y2 : (i : Int) < (xs.length : Int) := by omega
   have hjy : j < ys.length := by rw [HV.out.len]; exact hj
   obtain ⟨q0, q1, q2, q3, _, _, _, _⟩ := bf_at HW.out j hj hjy
   rw [(HV.out.two hj).1] at q0 q1 q2 q3
   have HX : Hid (∃ y, y = xs[j]) := Lib.hid ⟨_, rfl⟩
   obtain ⟨y, hy⟩ := HX.out
   rw [← hy] at q0 q1 q2 q3
   have HY := Lib.hid hy
   clear hy HX hjy
   go_upto_region 8 with (fail)
   have e0 : (wr.alloc (.cells #[.string y.f0, .int .i64 y.f1, .int .i64 y.f2, .bool y.f3] 44)).cell? ⟨wr.heap.size, 0, none⟩ = some (.string y.f0) := by simp
   have e1 : (wr.alloc (.cells #[.string y.f0, .int .i64 y.f1, .int .i64 y.f2, .bool y.f3] 44)).cell? ⟨wr.heap.size, 1, none⟩ = some (.int .i64 y.f1) := by simp
   have e2 : (wr.alloc (.cells #[.string y.f0, .int .i64 y.f1, .int .i64 y.f2, .bool y.f3] 44)).cell? ⟨wr.heap.size, 2, none⟩ = some (.int .i64 y.f2) := by simp
   have e3 : (wr.alloc (.cells #[.string y.f0, .int .i64 y.f1, .int .i64 y.f2, .bool y.f3] 44)).cell? ⟨wr.heap.size, 3, none⟩ = some (.bool y.f3) := by simp
   have hb := below_alloc (Below.refl wr.heap.size wr) (.cells #[.string y.f0, .int .i64 y.f1, .int .i64 y.f2, .bool y.f3] 44)
   generalize wr.alloc (.cells #[.string y.f0, .int .i64 y.f1, .int .i64 y.f2, .bool y.f3] 44) = w2 at hb e0 e1 e2 e3 ⊢
   have HW2 := Lib.hid (Kd.R_below HW.out hb)
   have HBW2 := Lib.hid (HBW.out.trans (hb.mono (Nat.le_trans HBS.out HBW.out.size)))
   have hcall := HP.out w2 y
   have hl0 := World.block_lt_of_cell? w2 _ e0
   clear q0 q1 q2 q3 hb HW HBW
   cases hq : p y with
   | true =>
    rw [hq] at hcall
    go_wp2_with (go_at_fn g; refine hcall.mono ?_; rintro e w3 ⟨rfl, hb3⟩)
    go_roundg (xs.length - (j + 1))
    case measure => have := HG.out; omega
    case rel => exact ⟨i, j + 1, ys, rfl, by go_num, Nat.le_refl _, Lib.hid (HV.out.skip hj (by rw [← HY.out]; exact hq)), Lib.hid (Kd.R_below HW2.out hb3), Lib.hid (HBW2.out.trans (hb3.mono (Nat.le_trans HBS.out HBW2.out.size)))⟩
   | false =>
    rw [hq] at hcall
    go_upto_region 9 with (go_at_fn g; refine hcall.mono ?_; rintro e w3 ⟨rfl, hb3⟩)
    replace e0 := (hb3.cell hl0).trans e0
    replace e1 := (hb3.cell hl0).trans e1
    replace e2 := (hb3.cell hl0).trans e2
    replace e3 := (hb3.cell hl0).trans e3
    have HW3 := Lib.hid (Kd.R_below HW2.out hb3)
    have HBW3 := Lib.hid (HBW2.out.trans (hb3.mono (Nat.le_trans HBS.out HBW2.out.size)))
    clear HW2 HBW2 hb3 hl0
    have hiy : i < ys.length := by rw [HV.out.len]; omega
    obtain ⟨z0, z1, z2, z3, f0, f1, f2, f3⟩ := bf_at HW3.out i (by omega) hiy
    go_wp2
    go_roundg (xs.length - (j + 1))
    case measure => have := HG.out; omega
    case rel =>
     have hS := R_bfSet HW3.out i (by omega) y
     have hV := HV.out.keep hj (by rw [← HY.out]; exact hq)
     rw [← HY.out] at hV
     exact ⟨i + 1, j + 1, ys.set i y, by go_num, by go_num, Nat.le_refl _, Lib.hid hV, Lib.hid hS.1, Lib.hid (HBW3.out.trans (below_grownC hS.2 HBase.out (Nat.le_trans HBS.out HBW3.out.size)))⟩
  ·have hje : j = xs.length := by omega
   have y1 : ¬ (j : Int) < (xs.length : Int) := by omega
   have y2 : (i : Int) ≤ (xs.length : Int) := by omega
   have y3 : (i : Int) ≤ (cap : Int) := by have := HCAP.out; omega
   have y4 : (xs.length : Int) ≤ (cap : Int) := by have := HCAP.out; omega
   have y5 : (0 : Int) ≤ (i : Int) := by omega
   go_upto_region 11 with (fail)
   have hil : (List.replicate (xs.length - i) (bfC zBf)).flatten.length = (xs.length - i) * 4 := by simp
   have hfl : ∀ q, q < (List.replicate (xs.length - i) (bfC zBf)).flatten.length → (wr.cell? ⟨gb, i * 4 + q, none⟩).isSome = true ∧ wr.frozen? ⟨gb, i * 4 + q, none⟩ = false := by
    intro q hq
    rw [hil] at hq
    have hk : i + q / 4 < xs.length := by omega
    obtain ⟨z0, z1, z2, z3, f0, f1, f2, f3⟩ := bf_at HW.out (i + q / 4) hk (by rw [HV.out.len]; exact hk)
    have h4 : q % 4 = 0 ∨ q % 4 = 1 ∨ q % 4 = 2 ∨ q % 4 = 3 := by omega
    rcases h4 with h4 | h4 | h4 | h4
    ·rw [show i * 4 + q = (i + q / 4) * 4 by omega, z0]
     exact ⟨rfl, f0⟩
    ·rw [show i * 4 + q = (i + q / 4) * 4 + 1 by omega, z1]
     exact ⟨rfl, f1⟩
    ·rw [show i * 4 + q = (i + q / 4) * 4 + 2 by omega, z2]
     exact ⟨rfl, f2⟩
    ·rw [show i * 4 + q = (i + q / 4) * 4 + 3 by omega, z3]
     exact ⟨rfl, f3⟩
   have hcl := fun ty => run_clear_bf wr ty gb (i * 4) (xs.length - i) (cap - i) (by omega) _ (zero_cells (xs.length - i)) (fun v hv => by
    obtain ⟨l, hl, hv⟩ := List.mem_flatten.1 hv
    rw [List.eq_of_mem_replicate hl] at hv
    simp only [bfC, List.mem_cons, List.not_mem_nil, or_false] at hv
    rcases hv with rfl | rfl | rfl | rfl <;> rfl) (fun q hq => (hfl q hq).1) (fun q hq => (hfl q hq).2)
   have hS := Lib.hid (R_bfZero (xs.length - i) i wr ys HV.out.len (by omega) HW.out)
   rw [HV.out.kept, hje, List.take_of_length_le (Nat.le_refl _)] at hS
   have HLN : Hid (i = (xs.filter fun x => !p x).length) := Lib.hid (by
    have h1 := HV.out.kept
    rw [hje, List.take_of_length_le (Nat.le_refl _)] at h1
    rw [← h1, List.length_take, HV.out.len]
    omega)
   clear hil hfl
   go_wp2
   go_ret
   have h9 := HLN.out
   subst h9
   exact ⟨rfl, hS.out.1, HBW.out.trans (below_grownC hS.out.2 HBase.out (Nat.le_trans HBS.out HBW.out.size))⟩
end Go.Proofs.YtibbcfeaododhaaGreatDoor
set_option linter.unusedSimpArgs false
set_option linter.unusedVariables false
namespace Go.Proofs.YtibbcfeaododhaaGreatDoor
open Go.RowKit Go.Sort Go.Proofs.YtibbcfeaododhaaGreatDoorW.PrintWords Go.Proofs.YtibbcfeaododhaaGreatDoorW.PrintLast Go.Proofs.YtibbcfeaododhaaGreatDoorW.PrintMore
def bifsL : List Bf := (PCa.api_Bifs.f).getD []
def actsL : List Bf := bifsL.filter fun x => !notAct x
theorem bifs_some : PCa.api_Bifs.f = some bifsL := rfl
theorem refActs_some : PCa.heddleref15_Acts.f 60 = some actsL := by kernel_rfl
theorem bifs_cons : ∃ x0 r, bifsL = x0 :: r ∧ notAct x0 = true := ⟨_, _, rfl, rfl⟩
/-- A slice of built-ins that is one's own. -/
def BfPost (w : World) (l : List Bf) (e : Ending) (w' : World) : Prop := ∃ v, e = .returned v ∧ kBf.R tyBf w' w.heap.size (fun _ => True) v l ∧ Below w.heap.size w w'
theorem code_Acts (w : World) : Calls Tryz.prog 16 #[] w (BfPost w actsL) := by
 obtain ⟨x0, r, hx, h0⟩ := bifs_cons
 have hA : actsL = (x0 :: r).filter fun x => !notAct x := by
  unfold actsL
  rw [hx]
 rw [hA]
 have HBI := Lib.hid fun W => PCa.api_Bifs.calls (x0 :: r) W (hx ▸ bifs_some)
 have HDF := Lib.hid fun gb cap w1 => bif_DeleteFunc notAct 44 #[] (enters_of Tryz.func44 (by kernel_rfl) rfl) x0 r h0 gb cap w w1 w.heap.size (fun _ => True) (fun W x => code_Acts1 x W)
 have HL : Hid (0 < (x0 :: r).length) := Lib.hid (by simp)
 clear hA hx h0
 generalize (x0 :: r) = xs at *
 go_enter Tryz.func16, Tryz.ntmps16
 go_wp2_with fail
 refine (HBI.out w).mono ?_
 rintro e w1 ⟨v, rfl, hR, hB⟩
 obtain ⟨gb, cap, rfl, hg, _, _⟩ := Kd.R_form hR HL.out
 have HD := Lib.hid (HDF.out gb cap w1 hB (Nat.le_refl _) hg hR)
 clear hR hB HDF HBI hg
 go_wp2_with fail
 refine HD.out.mono ?_
 rintro e w2 ⟨rfl, hR, hB⟩
 go_wp2
 go_ret
 exact ⟨_, rfl, hR, hB⟩
/-- Is this the one of a name and a number of arguments? -/
def isAct (nm : ByteArray) (ar : Int) (x : Bf) : Bool := x.f0.toList == nm.toList && x.f1 == ar
theorem code_Act1 (nm : ByteArray) (ar : Int) (b0 b1 : Nat) (w : World) (h0 : w.cell? ⟨b0, 0, none⟩ = some (.string nm)) (h1 : w.cell? ⟨b1, 0, none⟩ = some (.int .i64 ar)) : PredB 46 #[.pointer (some ⟨b0, 0, none⟩), .pointer (some ⟨b1, 0, none⟩)] (isAct nm ar) w := by
 intro W x hb
 replace h0 := (hb.cell (World.block_lt_of_cell? w _ h0)).trans h0
 replace h1 := (hb.cell (World.block_lt_of_cell? w _ h1)).trans h1
 have l0 := World.block_lt_of_cell? W _ h0
 have l1 := World.block_lt_of_cell? W _ h1
 clear hb
 obtain ⟨R, hR⟩ : ∃ R, R = isAct nm ar x := ⟨_, rfl⟩
 rw [← hR]
 unfold isAct at hR
 have c0 : (W.alloc (.cells #[.string x.f0, .int .i64 x.f1, .int .i64 x.f2, .bool x.f3] 44)).cell? ⟨W.heap.size, 0, none⟩ = some (.string x.f0) := by simp
 have c1 : (W.alloc (.cells #[.string x.f0, .int .i64 x.f1, .int .i64 x.f2, .bool x.f3] 44)).cell? ⟨W.heap.size, 1, none⟩ = some (.int .i64 x.f1) := by simp
 have hB := below_alloc (Below.refl W.heap.size W) (.cells #[.string x.f0, .int .i64 x.f1, .int .i64 x.f2, .bool x.f3] 44)
 replace h0 := (hB.cell l0).trans h0
 replace h1 := (hB.cell l1).trans h1
 have HB := Lib.hid hB
 clear hB
 go_enter Tryz.func46, Tryz.ntmps46
 go_upto_region 1 with (fail)
 generalize W.alloc (.cells #[.string x.f0, .int .i64 x.f1, .int .i64 x.f2, .bool x.f3] 44) = w1 at h0 h1 c0 c1 HB ⊢
 cases d0 : (x.f0.toList == nm.toList) with
 | true =>
  rw [d0, Bool.true_and] at hR
  have e0 : x.f0.toList = nm.toList := eq_of_beq d0
  go_wp2_with fail
  go_ret
  exact ⟨rfl, HB.out⟩
 | false =>
  rw [d0, Bool.false_and] at hR
  have e0 : ¬ x.f0.toList = nm.toList := fun e => by rw [e] at d0; simp at d0
  go_wp2_with fail
  go_ret
  exact ⟨rfl, HB.out⟩
attribute [local go_sem] max2_int min2_int max_two min_two in
set_option maxRecDepth 100000 in
theorem code_Act (nm : ByteArray) (ar : Int) (w : World) : Calls Tryz.prog 18 #[.string nm, .int .i64 ar] w fun e w' => e = .returned (.tuple #[.int .i64 (if idxOf (isAct nm ar) actsL < 0 then 0 else idxOf (isAct nm ar) actsL), .bool (decide (0 ≤ idxOf (isAct nm ar) actsL))]) ∧ Below w.heap.size w w' := by
 have b0 : ((w.alloc (.cells #[.string nm] 9)).alloc (.cells #[.int .i64 ar] 3)).cell? ⟨w.heap.size, 0, none⟩ = some (.string nm) := by
  rw [Lib.cell?_alloc_some _ (show (w.alloc (.cells #[.string nm] 9)).cell? ⟨w.heap.size, 0, none⟩ = some (.string nm) by simp)]
 have b1 : ((w.alloc (.cells #[.string nm] 9)).alloc (.cells #[.int .i64 ar] 3)).cell? ⟨w.heap.size + 1, 0, none⟩ = some (.int .i64 ar) := by simp
 have hB := below_alloc (below_alloc (Below.refl w.heap.size w) (.cells #[.string nm] 9)) (.cells #[.int .i64 ar] 3)
 have HB := Lib.hid hB
 clear hB
 have hbig : -1 ≤ idxOf (isAct nm ar) actsL ∧ idxOf (isAct nm ar) actsL ≤ 100 := by
  unfold idxOf
  cases h : List.findIdx? (isAct nm ar) actsL with
  | none => simp
  | some i =>
   have h1 := (List.findIdx?_eq_some_iff_getElem.1 h).1
   have h2 : actsL.length = 17 := by kernel_rfl
   simp only
   omega
 have HIX := Lib.hid fun (c : Nat) (A : Option Addr) (W : World) (hp : PredB 46 #[.pointer (some ⟨w.heap.size, 0, none⟩), .pointer (some ⟨w.heap.size + 1, 0, none⟩)] (isAct nm ar) W) (hC : kBf.C W A actsL.length actsL) => bif_IndexFunc (isAct nm ar) 46 #[.pointer (some ⟨w.heap.size, 0, none⟩), .pointer (some ⟨w.heap.size + 1, 0, none⟩)] (enters_of Tryz.func46 (by kernel_rfl) rfl) actsL A c W hp hC
 have HBig := Lib.hid hbig
 clear hbig
 generalize idxOf (isAct nm ar) actsL = q at *
 go_enter Tryz.func18, Tryz.ntmps18
 go_upto_region 1 with (fail)
 generalize (w.alloc (.cells #[.string nm] 9)).alloc (.cells #[.int .i64 ar] 3) = w1 at b0 b1 HB ⊢
 have l0 := World.block_lt_of_cell? w1 _ b0
 have l1 := World.block_lt_of_cell? w1 _ b1
 go_wp2_with fail
 refine (code_Acts w1).mono ?_
 rintro e w2 ⟨v, rfl, hR, hb⟩
 replace b0 := (hb.cell l0).trans b0
 replace b1 := (hb.cell l1).trans b1
 obtain ⟨A, c, rfl, hle, hC⟩ := Kd.R_reads hR
 have HIX2 := Lib.hid (HIX.out c A w2 (code_Act1 nm ar _ _ w2 b0 b1) hC)
 have HB2 := Lib.hid (HB.out.trans (hb.mono HB.out.size))
 clear hR hC hle b0 b1 HIX HB hb
 go_wp2_with fail
 refine HIX2.out.mono ?_
 rintro e w3 ⟨rfl, hb⟩
 have HB3 := Lib.hid (HB2.out.trans (hb.mono HB2.out.size))
 clear hb HB2 HIX2
 have hq := HBig.out
 go_wp2 <;> (go_ret2; exact ⟨rfl, HB3.out⟩)
end Go.Proofs.YtibbcfeaododhaaGreatDoor
set_option linter.unusedSimpArgs false
set_option linter.unusedVariables false
namespace Go.Proofs.YtibbcfeaododhaaGreatDoor
open Go.RowKit Go.Sort Go.Proofs.YtibbcfeaododhaaGreatDoorW.PrintWords Go.Proofs.YtibbcfeaododhaaGreatDoorW.PrintLast Go.Proofs.YtibbcfeaododhaaGreatDoorW.PrintMore
/-- What CodeActs needs of the library's variables. -/
def Asc (W : World) : Prop := Lib.TabIs Tryz.prog W "strings.asciiSpace" .u8 Lib.asciiSpaceTab
theorem Asc.below {W W' : World} (h : Asc W) (hb : Below W.heap.size W W') : Asc W' := Lib.tabBelow_of_tabIs h W' hb
/-- Some list of built-ins, one's own. -/
def SomeBf (w : World) (n : Nat) (e : Ending) (w' : World) : Prop := ∃ v l, e = .returned v ∧ l.length ≤ n ∧ kBf.R tyBf w' w.heap.size (fun _ => True) v l ∧ Below w.heap.size w w'
abbrev strV (l : List (List UInt8)) : Array Value := (l.map fun x => Value.string ⟨x.toArray⟩).toArray
/-- Fields of an ASCII text: strings in a new block. -/
def FieldsPost (w : World) (l : List (List UInt8)) (e : Ending) (w' : World) : Prop := e = .returned (.slice (some ⟨w.heap.size, 0, none⟩) l.length l.length) ∧ Below w.heap.size w w' ∧ w'.heap[w.heap.size]? = some (.cells (strV l) 9 (0, 0))
theorem fields_ascii (s : ByteArray) (hs : s.size < 4294967281) (ha : s.data.toList.all (fun b => decide (b.toNat < 128)) = true) (w : World) (hA : Asc w) : Calls Tryz.prog 79 #[.string s] w (FieldsPost w (Lib.fields s.data.toList)) := by
 refine (Tryz.strings_Fields s w hs (fun j b hb => of_decide_eq_true (List.all_eq_true.1 ha b (List.mem_of_getElem? hb))) hA).mono ?_
 rintro e w' ⟨rfl, rfl⟩
 exact ⟨rfl, below_alloc (Below.refl _ _) _, heap_alloc_new _ _⟩
theorem strV_at {W : World} {b : Nat} {l : List (List UInt8)} (h : W.heap[b]? = some (.cells (strV l) 9 (0, 0))) (i : Nat) (hi : i < l.length) : W.cell? ⟨b, i, none⟩ = some (.string ⟨(l[i]).toArray⟩) := by
 rw [cell_of_row W b _ _ _ _ h]
 simp [hi]
theorem strV_app {W W' : World} {base b : Nat} {ok : Nat → Prop} {v : Value} {xs : List Bf} {arr : Array Value} (hR : kBf.R tyBf W base ok v xs) (h : W.heap[b]? = some (.cells arr 9 (0, 0))) (hg : W.grownBy W' v.ownBlock) : W'.heap[b]? = some (.cells arr 9 (0, 0)) := by
 refine (hg.block b (Array.getElem?_eq_some_iff.1 h).1 (fun e => ?_)).trans h
 obtain ⟨c, hc⟩ := Kd.R_typed hR b e.symm
 rw [h] at hc
 injection hc with hc
 injection hc with _ hc
 exact absurd hc (by decide)
abbrev sOps1 : ByteArray := ⟨#[43, 32, 45, 32, 110, 111, 116]⟩
abbrev sOps2 : ByteArray := ⟨#[43, 32, 45, 32, 42, 32, 100, 105, 118, 32, 114, 101, 109, 32, 97, 110, 100, 32, 111, 114, 32, 120, 111, 114, 32, 43, 43, 32, 45, 45, 32, 61, 61, 32, 47, 61, 32, 61, 60, 32, 60, 32, 62, 61, 32, 62, 32, 61, 58, 61, 32, 61, 47, 61]⟩
set_option maxRecDepth 100000 in
set_option maxHeartbeats 4000000 in
theorem bif_operators (w : World) (hA : Asc w) : Calls Tryz.prog 133 #[] w (SomeBf w 40) := by
 have HF1 := Lib.hid fun W h => fields_ascii sOps1 (by decide) (by decide +kernel) W h
 have HF2 := Lib.hid fun W h => fields_ascii sOps2 (by decide) (by decide +kernel) W h
 have HL1 : Hid ((Lib.fields sOps1.data.toList).length ≤ 10) := Lib.hid (by decide +kernel)
 have HL2 : Hid ((Lib.fields sOps2.data.toList).length ≤ 30) := Lib.hid (by decide +kernel)
 generalize Lib.fields sOps1.data.toList = l1 at HF1 HL1
 generalize Lib.fields sOps2.data.toList = l2 at HF2 HL2
 have HA := Lib.hid hA
 clear hA
 go_enter Tryz.func133, Tryz.ntmps133
 go_wp2_with fail
 refine (HF1.out w HA.out).mono ?_
 rintro e w1 ⟨rfl, hB, hS⟩
 have HB := Lib.hid hB
 have HS := Lib.hid hS
 clear hB hS HF1
 go_wp2_with fail
 go_loopg [1, 3, 8] l1.length (fun gg v1 s3 s8 wl => ∃ (i : Nat) (l : List Bf), s8 = .int .i64 i ∧ i ≤ l1.length ∧ l1.length - i ≤ gg ∧ l.length = i ∧ Hid (kBf.R tyBf wl w.heap.size (fun _ => True) v1 l) ∧ Hid (Below w.heap.size w wl) ∧ Hid (wl.heap[w.heap.size]? = some (.cells (strV l1) 9 (0, 0))))
 case atStart => exact ⟨0, [], rfl, Nat.zero_le _, by omega, rfl, Lib.hid (Kd.R_nil _ _ _ _ _), HB, HS⟩
 case round =>
  obtain ⟨i, l, rfl, hi, hg, hl, HR, HBL, HSL⟩ := hrel
  have HG := Lib.hid hg
  have HLI := Lib.hid hl
  clear hg hl HB HS
  by_cases hlt : i < l1.length
  ·have y0 : (0 : Int) ≤ (i : Int) := by omega
   have y1 : (i : Int) < (l1.length : Int) := by omega
   have q0 := strV_at HSL.out i hlt
   have h3 := HL1.out
   have HN : Hid ((l.length + 1) * 40 ≤ 140737488355328) := Lib.hid (by have := HLI.out; omega)
   generalize (⟨(l1[i]).toArray⟩ : ByteArray) = x at q0
   go_wp2_with (at_builtin; refine Kd.R_append kBf (w0 := w) w.heap.size rfl (.tmp 12) (.tmp 15) 40 44 (.agg #[.string ⟨#[]⟩, .int .i64 0, .int .i64 0, .bool false]) 40 rfl Tryz.underlying40 PCa.info44 rfl (by decide) (by decide) u1 l (⟨x, 1, 1, true⟩ : Bf) (bfC (⟨x, 1, 1, true⟩ : Bf)) (fun _ => True) (fun _ => False) ?hs ?hx ?hp ?hok ?hfr ?hO ?hB ?hbs ?hl ?_; (case hs => rfl); (case hx => first | rfl | (simp [Act.eval]; done)); (case hp => exact PCa.k44_mkM _ _ _ (⟨x, 1, 1, true⟩ : Bf)); (case hok => exact fun j hj => hj.elim); (case hfr => exact fun _ _ => trivial); (case hO => exact HR.out); (case hB => exact HBL.out); (case hbs => exact HBL.out.size); (case hl => exact HN.out); intro v1 w7 ho hb hg hat; have HO7 := Lib.hid ho; have HB7 := Lib.hid hb; have HS7 := Lib.hid (strV_app HR.out HSL.out hg); clear ho hb hg hat)
   go_roundg (l1.length - (i + 1))
   case measure => have := HG.out; omega
   case rel => exact ⟨i + 1, l ++ [(⟨x, 1, 1, true⟩ : Bf)], by go_num, hlt, Nat.le_refl _, by rw [List.length_append, HLI.out]; rfl, HO7, HB7, HS7⟩
  ·have y1 : ¬ (i : Int) < (l1.length : Int) := by omega
   have HLL : Hid (l.length ≤ 10) := Lib.hid (by have := HLI.out; have := HL1.out; omega)
   have HA2 := Lib.hid (HA.out.below HBL.out)
   clear HSL HLI HG HL1 hi
   go_wp2_with fail
   refine (HF2.out wr HA2.out).mono ?_
   rintro e w3 ⟨rfl, hB, hS⟩
   have HR3 := Lib.hid (Kd.R_below HR.out hB)
   have HB3 := Lib.hid (trans_below HBL.out hB)
   have HS3 := Lib.hid hS
   clear hB hS HF2 HR HBL HA HA2
   go_wp2_with fail
   go_loopg [1, 5, 20] l2.length (fun gg v1 s5 s20 wl => ∃ (j : Nat) (m : List Bf), s20 = .int .i64 j ∧ j ≤ l2.length ∧ l2.length - j ≤ gg ∧ m.length = l.length + j ∧ Hid (kBf.R tyBf wl w.heap.size (fun _ => True) v1 m) ∧ Hid (Below w.heap.size w wl) ∧ Hid (wl.heap[wr.heap.size]? = some (.cells (strV l2) 9 (0, 0))))
   case atStart => exact ⟨0, l, rfl, Nat.zero_le _, by omega, rfl, HR3, HB3, HS3⟩
   case round =>
    obtain ⟨j, m, rfl, hj, hg, hl, HR, HBL, HSL⟩ := hrel
    have HG := Lib.hid hg
    have HLI := Lib.hid hl
    clear hg hl HR3 HB3 HS3
    by_cases hlt2 : j < l2.length
    ·have z0 : (0 : Int) ≤ (j : Int) := by omega
     have z1 : (j : Int) < (l2.length : Int) := by omega
     have q0 := strV_at HSL.out j hlt2
     have h3 := HL2.out
     have HN : Hid ((m.length + 1) * 40 ≤ 140737488355328) := Lib.hid (by have := HLI.out; have := HLL.out; omega)
     generalize (⟨(l2[j]).toArray⟩ : ByteArray) = x at q0
     by_cases e1 : x.toList = [43, 43]
     ·have d1 : (x.toList == [43, 43]) = true := beq_iff_eq.2 e1
      go_wp2_with (at_builtin; refine Kd.R_append kBf (w0 := w) w.heap.size rfl (.tmp 24) (.tmp 33) 40 44 (.agg #[.string ⟨#[]⟩, .int .i64 0, .int .i64 0, .bool false]) 40 rfl Tryz.underlying40 PCa.info44 rfl (by decide) (by decide) u1 m (⟨x, 2, 1, false⟩ : Bf) (bfC (⟨x, 2, 1, false⟩ : Bf)) (fun _ => True) (fun _ => False) ?hs ?hx ?hp ?hok ?hfr ?hO ?hB ?hbs ?hl ?_; (case hs => rfl); (case hx => first | rfl | (simp [Act.eval]; done)); (case hp => exact PCa.k44_mkM _ _ _ (⟨x, 2, 1, false⟩ : Bf)); (case hok => exact fun j hj => hj.elim); (case hfr => exact fun _ _ => trivial); (case hO => exact HR.out); (case hB => exact HBL.out); (case hbs => exact HBL.out.size); (case hl => exact HN.out); intro v1 w7 ho hb hg hat; have HO7 := Lib.hid ho; have HB7 := Lib.hid hb; have HS7 := Lib.hid (strV_app HR.out HSL.out hg); clear ho hb hg hat)
      go_roundg (l2.length - (j + 1))
      case measure => have := HG.out; omega
      case rel => exact ⟨j + 1, m ++ [(⟨x, 2, 1, false⟩ : Bf)], by go_num, hlt2, Nat.le_refl _, by rw [List.length_append, HLI.out]; rfl, HO7, HB7, HS7⟩
     ·have d1 : (x.toList == [43, 43]) = false := beq_eq_false_iff_ne.2 e1
      by_cases e2 : x.toList = [45, 45]
      ·have d2 : (x.toList == [45, 45]) = true := beq_iff_eq.2 e2
       go_wp2_with (at_builtin; refine Kd.R_append kBf (w0 := w) w.heap.size rfl (.tmp 24) (.tmp 33) 40 44 (.agg #[.string ⟨#[]⟩, .int .i64 0, .int .i64 0, .bool false]) 40 rfl Tryz.underlying40 PCa.info44 rfl (by decide) (by decide) u1 m (⟨x, 2, 1, false⟩ : Bf) (bfC (⟨x, 2, 1, false⟩ : Bf)) (fun _ => True) (fun _ => False) ?hs ?hx ?hp ?hok ?hfr ?hO ?hB ?hbs ?hl ?_; (case hs => rfl); (case hx => first | rfl | (simp [Act.eval]; done)); (case hp => exact PCa.k44_mkM _ _ _ (⟨x, 2, 1, false⟩ : Bf)); (case hok => exact fun j hj => hj.elim); (case hfr => exact fun _ _ => trivial); (case hO => exact HR.out); (case hB => exact HBL.out); (case hbs => exact HBL.out.size); (case hl => exact HN.out); intro v1 w7 ho hb hg hat; have HO7 := Lib.hid ho; have HB7 := Lib.hid hb; have HS7 := Lib.hid (strV_app HR.out HSL.out hg); clear ho hb hg hat)
       go_roundg (l2.length - (j + 1))
       case measure => have := HG.out; omega
       case rel => exact ⟨j + 1, m ++ [(⟨x, 2, 1, false⟩ : Bf)], by go_num, hlt2, Nat.le_refl _, by rw [List.length_append, HLI.out]; rfl, HO7, HB7, HS7⟩
      ·have d2 : (x.toList == [45, 45]) = false := beq_eq_false_iff_ne.2 e2
       go_wp2_with (at_builtin; refine Kd.R_append kBf (w0 := w) w.heap.size rfl (.tmp 24) (.tmp 33) 40 44 (.agg #[.string ⟨#[]⟩, .int .i64 0, .int .i64 0, .bool false]) 40 rfl Tryz.underlying40 PCa.info44 rfl (by decide) (by decide) u1 m (⟨x, 2, 1, true⟩ : Bf) (bfC (⟨x, 2, 1, true⟩ : Bf)) (fun _ => True) (fun _ => False) ?hs ?hx ?hp ?hok ?hfr ?hO ?hB ?hbs ?hl ?_; (case hs => rfl); (case hx => first | rfl | (simp [Act.eval]; done)); (case hp => exact PCa.k44_mkM _ _ _ (⟨x, 2, 1, true⟩ : Bf)); (case hok => exact fun j hj => hj.elim); (case hfr => exact fun _ _ => trivial); (case hO => exact HR.out); (case hB => exact HBL.out); (case hbs => exact HBL.out.size); (case hl => exact HN.out); intro v1 w7 ho hb hg hat; have HO7 := Lib.hid ho; have HB7 := Lib.hid hb; have HS7 := Lib.hid (strV_app HR.out HSL.out hg); clear ho hb hg hat)
       go_roundg (l2.length - (j + 1))
       case measure => have := HG.out; omega
       case rel => exact ⟨j + 1, m ++ [(⟨x, 2, 1, true⟩ : Bf)], by go_num, hlt2, Nat.le_refl _, by rw [List.length_append, HLI.out]; rfl, HO7, HB7, HS7⟩
    ·have z1 : ¬ (j : Int) < (l2.length : Int) := by omega
     have HM : Hid (m.length ≤ 40) := Lib.hid (by have := HLI.out; have := HLL.out; have := HL2.out; omega)
     clear HSL HG HLI HLL HL2
     go_wp2
     go_ret
     exact ⟨_, m, rfl, HM.out, HR.out, HBL.out⟩
theorem R_away {W W' : World} {base base' gb n cap : Nat} {v : Value} {l xs : List Bf} (hR : kBf.R tyBf W base (fun k => k ≠ gb) v l) (h : kBf.R tyBf W base' (fun k => k = gb) (.slice (some ⟨gb, 0, none⟩) n cap) xs) (hg : W.grownBy W' v.ownBlock) : kBf.R tyBf W' base' (fun k => k = gb) (.slice (some ⟨gb, 0, none⟩) n cap) xs :=
 Kd.R_grown h hg (fun k hk e => by subst hk; exact hR.1 k e.symm rfl)
set_option maxRecDepth 100000 in
set_option maxHeartbeats 4000000 in
theorem bif_All (w : World) (hA : Asc w) : Calls Tryz.prog 85 #[] w (SomeBf w 100) := by
 have HO := Lib.hid (bif_operators w hA)
 have HBI := Lib.hid fun W => PCa.api_Bifs.calls bifsL W bifs_some
 have HBL : Hid (0 < bifsL.length ∧ bifsL.length ≤ 50) := Lib.hid (by
  have h : bifsL.length = 43 := by kernel_rfl
  omega)
 clear hA
 generalize bifsL = xs at *
 go_enter Tryz.func85, Tryz.ntmps85
 go_wp2_with fail
 refine HO.out.mono ?_
 rintro e w1 ⟨v, l, rfl, hl, hR, hB⟩
 have HL := Lib.hid hl
 have HR := Lib.hid hR
 have HB := Lib.hid hB
 clear hl hR hB HO
 go_wp2_with fail
 refine (HBI.out w1).mono ?_
 rintro e w2 ⟨u, rfl, hU, hB⟩
 obtain ⟨gb, cap, rfl, hgb, hgl, _⟩ := Kd.R_form hU HBL.out.1
 have hU2 : kBf.R tyBf w2 w1.heap.size (fun k => k = gb) (.slice (some ⟨gb, 0, none⟩) xs.length cap) xs := Kd.R_mono (Kd.R_tight rfl hU) (fun k hk => by simpa [Value.ownBlock] using hk)
 have hR2 : kBf.R tyBf w2 w.heap.size (fun k => k ≠ gb) v l := Kd.R_mono (Kd.R_below (Kd.R_bound HR.out) hB) (fun k hk => by have := hk.2; omega)
 have HU := Lib.hid hU2
 have HV := Lib.hid hR2
 have HB2 := Lib.hid (trans_below HB.out hB)
 have HGL := Lib.hid hgl
 clear hU hU2 hR2 hB HR HB HBI hgb hgl
 go_wp2_with fail
 go_loopg [1, 3, 7] xs.length (fun gg v1 s3 s7 wl => ∃ (i : Nat) (m : List Bf), s7 = .int .i64 i ∧ i ≤ xs.length ∧ xs.length - i ≤ gg ∧ m.length ≤ 40 + i ∧ Hid (kBf.R tyBf wl w.heap.size (fun k => k ≠ gb) v1 m) ∧ Hid (Below w.heap.size w wl) ∧ Hid (gb < wl.heap.size) ∧ Hid (kBf.R tyBf wl w1.heap.size (fun k => k = gb) (.slice (some ⟨gb, 0, none⟩) xs.length cap) xs))
 case atStart => exact ⟨0, l, rfl, Nat.zero_le _, by omega, HL.out, HV, HB2, HGL, HU⟩
 case round =>
  obtain ⟨i, m, rfl, hi, hg, hm, HR, HBW, HGW, HUW⟩ := hrel
  have HG := Lib.hid hg
  have HM := Lib.hid hm
  clear hg hm HU HV HB2 HGL
  by_cases hlt : i < xs.length
  ·have y0 : (0 : Int) ≤ (i : Int) := by omega
   have y1 : (i : Int) < (xs.length : Int) := by omega
   have hxl := HBL.out
   obtain ⟨q0, q1, q2, q3, _, _, _, _⟩ := bf_at HUW.out i hlt hlt
   generalize xs[i] = y at q0 q1 q2 q3
   go_upto_region 5 with (fail)
   have e0 : (wr.alloc (.cells #[.string y.f0, .int .i64 y.f1, .int .i64 y.f2, .bool y.f3] 44)).cell? ⟨wr.heap.size, 0, none⟩ = some (.string y.f0) := by simp
   have e1 : (wr.alloc (.cells #[.string y.f0, .int .i64 y.f1, .int .i64 y.f2, .bool y.f3] 44)).cell? ⟨wr.heap.size, 1, none⟩ = some (.int .i64 y.f1) := by simp
   have e2 : (wr.alloc (.cells #[.string y.f0, .int .i64 y.f1, .int .i64 y.f2, .bool y.f3] 44)).cell? ⟨wr.heap.size, 2, none⟩ = some (.int .i64 y.f2) := by simp
   have e3 : (wr.alloc (.cells #[.string y.f0, .int .i64 y.f1, .int .i64 y.f2, .bool y.f3] 44)).cell? ⟨wr.heap.size, 3, none⟩ = some (.bool y.f3) := by simp
   have hb := below_alloc (Below.refl wr.heap.size wr) (.cells #[.string y.f0, .int .i64 y.f1, .int .i64 y.f2, .bool y.f3] 44)
   generalize wr.alloc (.cells #[.string y.f0, .int .i64 y.f1, .int .i64 y.f2, .bool y.f3] 44) = w5 at hb e0 e1 e2 e3 ⊢
   have HR5 := Lib.hid (Kd.R_below HR.out hb)
   have HB5 := Lib.hid (trans_below HBW.out hb)
   have HU5 := Lib.hid (Kd.R_below HUW.out hb)
   have HG5 : Hid (gb < w5.heap.size) := Lib.hid (Nat.lt_of_lt_of_le HGW.out hb.size)
   have HN : Hid ((m.length + 1) * 40 ≤ 140737488355328) := Lib.hid (by have := HM.out; omega)
   clear q0 q1 q2 q3 hb HR HBW HUW HGW
   by_cases hk : y.f2 = 1
   ·have d1 : (y.f2 == 1) = true := beq_iff_eq.2 hk
    have HK := Lib.hid hk
    clear hk
    go_wp2_with (at_builtin; refine Kd.R_append kBf (w0 := w) w.heap.size rfl (.tmp 14) (.tmp 16) 40 44 (.agg #[.string ⟨#[]⟩, .int .i64 0, .int .i64 0, .bool false]) 40 rfl Tryz.underlying40 PCa.info44 rfl (by decide) (by decide) u1 m y (bfC y) (fun k => k ≠ gb) (fun _ => False) ?hs ?hx ?hp ?hok ?hfr ?hO ?hB ?hbs ?hl ?_; (case hs => rfl); (case hx => first | rfl | (simp [Act.eval]; done)); (case hp => exact PCa.k44_mkM _ _ _ y); (case hok => exact fun j hj => hj.elim); (case hfr => exact fun k hk => by have := HG5.out; omega); (case hO => exact HR5.out); (case hB => exact HB5.out); (case hbs => exact HB5.out.size); (case hl => exact HN.out); intro v1 w7 ho hb hg hat; have HO7 := Lib.hid ho; have HB7 := Lib.hid hb; have HG7 : Hid (gb < w7.heap.size) := Lib.hid (Nat.lt_of_lt_of_le HG5.out hg.size); have HU7 := Lib.hid (R_away HR5.out HU5.out hg); clear ho hb hg hat)
    go_roundg (xs.length - (i + 1))
    case measure => have := HG.out; omega
    case rel => exact ⟨i + 1, m ++ [y], by go_num, hlt, Nat.le_refl _, by rw [List.length_append]; have := HM.out; simp only [List.length_cons, List.length_nil]; omega, HO7, HB7, HG7, HU7⟩
   ·have d1 : (y.f2 == 1) = false := beq_eq_false_iff_ne.2 hk
    clear hk
    go_wp2_with fail
    go_roundg (xs.length - (i + 1))
    case measure => have := HG.out; omega
    case rel => exact ⟨i + 1, m, by go_num, hlt, Nat.le_refl _, by have := HM.out; omega, HR5, HB5, HG5, HU5⟩
  ·have y1 : ¬ (i : Int) < (xs.length : Int) := by omega
   have HM2 : Hid (m.length ≤ 100) := Lib.hid (by have := HM.out; have := HBL.out; omega)
   clear HM HG HBL HUW HGW hi
   go_wp2
   go_ret
   exact ⟨_, m, rfl, HM2.out, Kd.R_mono HR.out (fun _ _ => trivial), HBW.out⟩
end Go.Proofs.YtibbcfeaododhaaGreatDoor
namespace Go.Proofs.YtibbcfeaododhaaGreatDoor
open Go.Lib Go.ChangeShapes Go.WideShapes Go.ChangeAt Go.RowKit Go.Proofs.YtibbcfeaododhaaGreatDoorW.PrintWords
theorem own : ownKnob Tryz.prog.godebug = none := by kernel_rfl
abbrev laidL : List (String × DataW Unit) := Rows.codeActsRow.laid
theorem gAs : Tryz.prog.globalNamed "strings.asciiSpace" = some 1 := by kernel_rfl
theorem yAs : (Tryz.prog.globals[1]?).map (·.type) = some 203 := by kernel_rfl
/-- WHAT THE ROW's LIST GIVES. -/
theorem asc_of {W : World} (h : laidMetH Tryz.prog laidL W) : Asc W := by
 obtain ⟨hd, hh⟩ := laidMetH_iff.1 h
 have at_ : ∀ (i : Nat) (x : String × DataW Unit), laidL[i]? = some x → x.2.handleName?.isNone = true → VarReads Tryz.prog W x.1 x.2 := fun i x hi hx => laidMet.reads hd (List.mem_filter.2 ⟨List.mem_iff_getElem?.2 ⟨i, hi⟩, hx⟩)
 have has := at_ 6 ("strings.asciiSpace", Rows.laid_strings_asciiSpace) rfl (by kernel_rfl)
 obtain ⟨g', t', cs, fuel, p, hg', ht', hv, hr⟩ := has
 obtain rfl := Option.some.inj (gAs.symm.trans hg')
 obtain rfl := Option.some.inj (yAs.symm.trans ht')
 have e : (Rows.laid_strings_asciiSpace : DataW Unit) = tabData .u8 Lib.asciiSpaceTab := by kernel_rfl
 rw [e] at hr
 unfold Asc Lib.TabIs
 rw [hv, ← cells_of_tab Tryz.underlying203 Tryz.underlying5 (by kernel_rfl) (by kernel_rfl) hr]
/-- A world that meets the list: the settled one; the error type's handle in its cell; the data laid. -/
noncomputable def baseWorld (os : Os) : World :=
 let w0 := World.holding Tryz.prog os ⟨#[], #[], []⟩
 { w0 with heap := w0.heap.modify 0 fun
   | .cells _ t frozen => .cells #[.iface 185 (.agg #[.pointer (some ⟨12, 29, none⟩)])] t frozen
   | o => o }
def laidD : List (String × DataW Unit) := laidL.filter fun x => x.2.handleName?.isNone
noncomputable def laidWorld (os : Os) : World := (baseWorld os).layVars Tryz.prog laidD
set_option maxRecDepth 100000 in
theorem laid_met (os : Os) (args : Array Value) : laidMetH Tryz.prog laidL ((laidWorld os).forCall (fun _ _ => 0) ⟨#[], args, []⟩).memory := by
 refine laidMetH_of_parts ?_ (by kernel_rfl)
 have e1 : (laidD.filter fun x => (laidD.map (·.1)).contains x.1) = laidD := List.filter_eq_self.2 fun x hx => List.contains_iff_mem.2 (List.mem_map.2 ⟨x, hx, rfl⟩)
 have e2 : (laidD.filter fun x => !(laidD.map (·.1)).contains x.1) = [] := List.filter_eq_nil_iff.2 fun x hx => by rw [List.contains_iff_mem.2 (List.mem_map.2 ⟨x, hx, rfl⟩)]; simp
 have h : laidMet Tryz.prog laidD (laidWorld os) := laidMet_layVars (w0 := baseWorld os) (laidD.map (·.1)) [] (by rw [e1]; rfl) (by rw [e1]; kernel_rfl) (by rw [e1]; kernel_rfl) (by rw [e2]; exact LaidIn.none)
 exact h.of_heap (by simp [World.memory, World.forCall, Input.heap])
set_option maxRecDepth 100000 in
theorem laid_shaped (os : Os) (args : Array Value) : ((laidWorld os).forCall (fun _ _ => 0) ⟨#[], args, []⟩).Shaped Tryz.prog := World.shaped_of_ZipB (by kernel_rfl) (by kernel_rfl)
theorem laid_os (os : Os) : (laidWorld os).os = os := World.layVars_os _ _ _
section
variable {H : Type} {enc : TypeId × Value → H} {P : Program}
/-- A row's last step where 'Below' is known of the world. -/
theorem post_of_below {f : Func} {s : ChangeSpec} {apart fresh handsOn again : Bool} {W W' : World} {args : Array Value} {v : Value} {ds gs : List (DataW H)} {before pa pv : List MemPlace}
  (hW : DataW.Whole enc P f.params.toList s.vars apart W args.toList ds gs before)
  (hres : ∀ (b : Nat) (sp : Nat → Bool) (hd : Bool), DataW.TrodAll enc P W' b sp hd f.resultTypes.toList (v.resultList f.resultTypes.size) (s.fn H (ds ++ gs)).results [])
  (hargs : ∀ sp : Nat → Bool, (∀ p ∈ before, sp p.block = true) → DataW.TrodAll enc P W' 0 sp true f.params.toList args.toList (s.fn H (ds ++ gs)).args pa)
  (hvars : ∀ sp : Nat → Bool, (∀ p ∈ before, sp p.block = true) → DataW.TrodVars enc P W' sp s.vars (s.fn H (ds ++ gs)).vars pv)
  (hps : before = pa ++ pv) (hb : Below W.heap.size W W')
  (hok : ∀ (j : Nat) (t : TypeId) (r : Value), f.resultTypes[j]? = some t → (v.resultList f.resultTypes.size)[j]? = some r → Value.okWide P W' .any 0 t r) :
  s.post enc P f apart fresh handsOn again W args v W' := by
 have hlt : ∀ p ∈ before, p.block < W.heap.size := fun p hp => hW.lt p hp
 have hold : ∀ p ∈ before, (fun b => decide (b < W.heap.size)) p.block = true := fun p hp => by simpa using hlt p hp
 refine ⟨ds, gs, before, [], pa, pv, hW, hres _ _ _, hargs _ hold, hvars _ hold, World.keptBut_mono (fun p hp => ⟨hp, ?_⟩) (hb.frame (· ∈ before)), fun _ => ?_⟩
 ·rw [hps, List.mem_append] at hp
  exact Or.inr hp
 ·obtain ⟨_, _, _, _, _, hz, hn⟩ := hW
  refine ⟨hok, _, _, ([] ++ pa) ++ pv, ⟨[] ++ pa, pv, trodAll_append (hargs _ (fun _ _ => rfl)) (hres _ _ _), hvars _ (fun _ _ => rfl), rfl, ?_, ?_⟩, ?_⟩
  ·intro b off hp
   have hin : MemPlace.cell b off ∈ before := by rw [hps]; simpa using hp
   rw [hb.frozen (hlt _ hin)]
   exact hz b off hin
  ·intro ha
   have := hn ha
   rw [hps] at this
   simpa using this
  ·intro p hp _
   rw [hps]
   simpa using hp
end
theorem laidOut : laidOutB Tryz.prog = true := by kernel_rfl
end Go.Proofs.YtibbcfeaododhaaGreatDoor
namespace Go.Proofs.YtibbcfeaododhaaGreatDoor
open Go.RowKit
def isDigit (c : Int) : Bool := decide (48 ≤ c) && decide (c ≤ 57)
def isSmall (c : Int) : Bool := decide (97 ≤ c) && decide (c ≤ 122)
def isCapital (c : Int) : Bool := decide (65 ≤ c) && decide (c ≤ 90)
def isIn (c : Int) : Bool := isSmall c || isCapital c || isDigit c || c == 95 || c == 64
/-- What a byte is for atoms: 1 small, 2 great, 3 digit, 4 under, 0 other. -/
def kindOf (c : Int) : Int := if isSmall c then 1 else if isCapital c then 2 else if isDigit c then 3 else if c == 95 || c == 64 then 4 else 0
theorem ei {k : IntKind} {a b : Int} (h : a = b) : Ending.returned (.int k a) = Ending.returned (.int k b) := by rw [h]
theorem atom_kind (c : Int) (h0 : 0 ≤ c) (h1 : c ≤ 255) (w : World) : Calls Tryz.prog 152 #[.int .u8 c] w fun e w' => e = .returned (.int .i64 (kindOf c)) ∧ w = w' := by
 unfold kindOf isSmall isCapital isDigit
 go_enter Tryz.func152, Tryz.ntmps152
 go_wp2
 all_goals go_ret
 all_goals refine ⟨ei ?_, rfl⟩
 all_goals try (simp_all; done)
 all_goals first | omega | (simp only [Bool.and_eq_true, decide_eq_true_eq]; (repeat' split) <;> omega) | (repeat' split) <;> simp_all <;> omega
end Go.Proofs.YtibbcfeaododhaaGreatDoor
namespace Go.Proofs.YtibbcfeaododhaaGreatDoor
open Go.RowKit Go.Proofs.YtibbcfeaododhaaGreatDoorW.PrintWords
/-- A text's bytes. -/
abbrev bs (s : ByteArray) : List Int := bytesOf s
theorem bs_len (s : ByteArray) : (bs s).length = s.size := bytesOf_length s
theorem btk (s : ByteArray) (k : Nat) : ∀ h : k < s.size, ((s[k]'h).toNat : Int) = bt s (k : Int) := by
 simpa using bt_at s (k : Int)
theorem bs_get (s : ByteArray) (k : Nat) (h : k < s.size) : (bs s)[k]'(by rw [bs_len]; exact h) = bt s (k : Int) := by
 rw [← btk s k h]
 unfold bs bytesOf
 simp
 rfl
theorem bs_drop (s : ByteArray) (k : Nat) (h : k < s.size) : (bs s).drop k = bt s (k : Int) :: (bs s).drop (k + 1) := by
 rw [List.drop_eq_getElem_cons (by rw [bs_len]; exact h), bs_get s k h]
theorem bs_end (s : ByteArray) (k : Nat) (h : s.size ≤ k) : (bs s).drop k = [] := List.drop_eq_nil_of_le (by rw [bs_len]; exact h)
theorem toList_nil {s : ByteArray} (h : s.size = 0) : s.toList = [] := by
 rw [Lib.toList_data]
 exact List.eq_nil_of_length_eq_zero (by have := Lib.size_eq s; omega)
theorem isEmpty_of {s : ByteArray} (h : s.size = 0) : s.toList.isEmpty = true := by rw [toList_nil h]; rfl
theorem isEmpty_not {s : ByteArray} (h : s.size ≠ 0) : s.toList.isEmpty = false := by
 rw [List.isEmpty_eq_false_iff]
 intro he
 rw [Lib.toList_data] at he
 have := Lib.size_eq s
 rw [he] at this
 exact h this
/-- How many bytes of a sort stand ahead. -/
def tw (p : Int → Bool) (l : List Int) : Nat := (l.takeWhile p).length
theorem tw_nil (p : Int → Bool) : tw p [] = 0 := rfl
theorem tw_yes {p : Int → Bool} {c : Int} {l : List Int} (h : p c = true) : tw p (c :: l) = tw p l + 1 := by simp [tw, h]
theorem tw_no {p : Int → Bool} {c : Int} {l : List Int} (h : p c = false) : tw p (c :: l) = 0 := by simp [tw, h]
/-- Where the run ends that begins at k. -/
def runEnd (p : Int → Bool) (s : ByteArray) (k : Nat) : Nat := k + tw p ((bs s).drop k)
theorem runEnd_yes {p : Int → Bool} {s : ByteArray} {k : Nat} (h : k < s.size) (hp : p (bt s (k : Int)) = true) : runEnd p s (k + 1) = runEnd p s k := by
 unfold runEnd
 rw [bs_drop s k h, tw_yes hp]
 omega
theorem runEnd_no {p : Int → Bool} {s : ByteArray} {k : Nat} (h : k < s.size) (hp : p (bt s (k : Int)) = false) : runEnd p s k = k := by
 unfold runEnd
 rw [bs_drop s k h, tw_no hp]
 rfl
theorem runEnd_out {p : Int → Bool} {s : ByteArray} {k : Nat} (h : s.size ≤ k) : runEnd p s k = k := by
 unfold runEnd
 rw [bs_end s k h, tw_nil]
 rfl
end Go.Proofs.YtibbcfeaododhaaGreatDoor
namespace Go.Proofs.YtibbcfeaododhaaGreatDoor
open Go.RowKit Go.Proofs.YtibbcfeaododhaaGreatDoorW.PrintWords
def IntPost (w : World) (n : Int) (e : Ending) (w' : World) : Prop := e = .returned (.int .i64 n) ∧ Below w.heap.size w w'
end Go.Proofs.YtibbcfeaododhaaGreatDoor
namespace Go.Proofs.YtibbcfeaododhaaGreatDoor
open Go.RowKit Go.Proofs.YtibbcfeaododhaaGreatDoorW.PrintWords
def resList : List (List UInt8) := [[97, 102, 116, 101, 114], [97, 110, 100], [97, 110, 100, 97, 108, 115, 111], [98, 101, 103, 105, 110], [99, 97, 115, 101], [99, 97, 116, 99, 104], [100, 105, 118], [101, 110, 100], [102, 117, 110], [105, 102], [110, 111, 116], [111, 102], [111, 114], [111, 114, 101, 108, 115, 101], [114, 101, 99, 101, 105, 118, 101], [114, 101, 109], [116, 114, 121], [119, 104, 101, 110], [120, 111, 114]]
def isRes (s : ByteArray) : Bool := resList.contains s.data.toList
theorem isRes_no {s : ByteArray} (h : isRes s = false) (r : List UInt8) (hr : r ∈ resList) : (s.toList == r) = false := by
 rw [Lib.toList_data, beq_eq_false_iff_ne]
 rintro rfl
 unfold isRes at h
 rw [List.contains_eq_mem, decide_eq_false_iff_not] at h
 exact h hr
theorem isRes_yes {s : ByteArray} (h : isRes s = true) : ∃ r, r ∈ resList ∧ s = ⟨r.toArray⟩ := by
 unfold isRes at h
 rw [List.contains_eq_mem, decide_eq_true_eq] at h
 exact ⟨_, h, by simp⟩
theorem atom_reserved_0 (w : World) : Calls Tryz.prog 157 #[.string ⟨#[97, 102, 116, 101, 114]⟩] w fun e w' => e = .returned (.bool true) ∧ w = w' := by
 go_enter Tryz.func157, Tryz.ntmps157
 go_wp2_with fail
 go_ret
 exact ⟨rfl, rfl⟩
theorem atom_reserved_1 (w : World) : Calls Tryz.prog 157 #[.string ⟨#[97, 110, 100]⟩] w fun e w' => e = .returned (.bool true) ∧ w = w' := by
 go_enter Tryz.func157, Tryz.ntmps157
 go_wp2_with fail
 go_ret
 exact ⟨rfl, rfl⟩
theorem atom_reserved_2 (w : World) : Calls Tryz.prog 157 #[.string ⟨#[97, 110, 100, 97, 108, 115, 111]⟩] w fun e w' => e = .returned (.bool true) ∧ w = w' := by
 go_enter Tryz.func157, Tryz.ntmps157
 go_wp2_with fail
 go_ret
 exact ⟨rfl, rfl⟩
theorem atom_reserved_3 (w : World) : Calls Tryz.prog 157 #[.string ⟨#[98, 101, 103, 105, 110]⟩] w fun e w' => e = .returned (.bool true) ∧ w = w' := by
 go_enter Tryz.func157, Tryz.ntmps157
 go_wp2_with fail
 go_ret
 exact ⟨rfl, rfl⟩
theorem atom_reserved_4 (w : World) : Calls Tryz.prog 157 #[.string ⟨#[99, 97, 115, 101]⟩] w fun e w' => e = .returned (.bool true) ∧ w = w' := by
 go_enter Tryz.func157, Tryz.ntmps157
 go_wp2_with fail
 go_ret
 exact ⟨rfl, rfl⟩
theorem atom_reserved_5 (w : World) : Calls Tryz.prog 157 #[.string ⟨#[99, 97, 116, 99, 104]⟩] w fun e w' => e = .returned (.bool true) ∧ w = w' := by
 go_enter Tryz.func157, Tryz.ntmps157
 go_wp2_with fail
 go_ret
 exact ⟨rfl, rfl⟩
theorem atom_reserved_6 (w : World) : Calls Tryz.prog 157 #[.string ⟨#[100, 105, 118]⟩] w fun e w' => e = .returned (.bool true) ∧ w = w' := by
 go_enter Tryz.func157, Tryz.ntmps157
 go_wp2_with fail
 go_ret
 exact ⟨rfl, rfl⟩
theorem atom_reserved_7 (w : World) : Calls Tryz.prog 157 #[.string ⟨#[101, 110, 100]⟩] w fun e w' => e = .returned (.bool true) ∧ w = w' := by
 go_enter Tryz.func157, Tryz.ntmps157
 go_wp2_with fail
 go_ret
 exact ⟨rfl, rfl⟩
theorem atom_reserved_8 (w : World) : Calls Tryz.prog 157 #[.string ⟨#[102, 117, 110]⟩] w fun e w' => e = .returned (.bool true) ∧ w = w' := by
 go_enter Tryz.func157, Tryz.ntmps157
 go_wp2_with fail
 go_ret
 exact ⟨rfl, rfl⟩
theorem atom_reserved_9 (w : World) : Calls Tryz.prog 157 #[.string ⟨#[105, 102]⟩] w fun e w' => e = .returned (.bool true) ∧ w = w' := by
 go_enter Tryz.func157, Tryz.ntmps157
 go_wp2_with fail
 go_ret
 exact ⟨rfl, rfl⟩
theorem atom_reserved_10 (w : World) : Calls Tryz.prog 157 #[.string ⟨#[110, 111, 116]⟩] w fun e w' => e = .returned (.bool true) ∧ w = w' := by
 go_enter Tryz.func157, Tryz.ntmps157
 go_wp2_with fail
 go_ret
 exact ⟨rfl, rfl⟩
theorem atom_reserved_11 (w : World) : Calls Tryz.prog 157 #[.string ⟨#[111, 102]⟩] w fun e w' => e = .returned (.bool true) ∧ w = w' := by
 go_enter Tryz.func157, Tryz.ntmps157
 go_wp2_with fail
 go_ret
 exact ⟨rfl, rfl⟩
theorem atom_reserved_12 (w : World) : Calls Tryz.prog 157 #[.string ⟨#[111, 114]⟩] w fun e w' => e = .returned (.bool true) ∧ w = w' := by
 go_enter Tryz.func157, Tryz.ntmps157
 go_wp2_with fail
 go_ret
 exact ⟨rfl, rfl⟩
theorem atom_reserved_13 (w : World) : Calls Tryz.prog 157 #[.string ⟨#[111, 114, 101, 108, 115, 101]⟩] w fun e w' => e = .returned (.bool true) ∧ w = w' := by
 go_enter Tryz.func157, Tryz.ntmps157
 go_wp2_with fail
 go_ret
 exact ⟨rfl, rfl⟩
theorem atom_reserved_14 (w : World) : Calls Tryz.prog 157 #[.string ⟨#[114, 101, 99, 101, 105, 118, 101]⟩] w fun e w' => e = .returned (.bool true) ∧ w = w' := by
 go_enter Tryz.func157, Tryz.ntmps157
 go_wp2_with fail
 go_ret
 exact ⟨rfl, rfl⟩
theorem atom_reserved_15 (w : World) : Calls Tryz.prog 157 #[.string ⟨#[114, 101, 109]⟩] w fun e w' => e = .returned (.bool true) ∧ w = w' := by
 go_enter Tryz.func157, Tryz.ntmps157
 go_wp2_with fail
 go_ret
 exact ⟨rfl, rfl⟩
theorem atom_reserved_16 (w : World) : Calls Tryz.prog 157 #[.string ⟨#[116, 114, 121]⟩] w fun e w' => e = .returned (.bool true) ∧ w = w' := by
 go_enter Tryz.func157, Tryz.ntmps157
 go_wp2_with fail
 go_ret
 exact ⟨rfl, rfl⟩
theorem atom_reserved_17 (w : World) : Calls Tryz.prog 157 #[.string ⟨#[119, 104, 101, 110]⟩] w fun e w' => e = .returned (.bool true) ∧ w = w' := by
 go_enter Tryz.func157, Tryz.ntmps157
 go_wp2_with fail
 go_ret
 exact ⟨rfl, rfl⟩
theorem atom_reserved_18 (w : World) : Calls Tryz.prog 157 #[.string ⟨#[120, 111, 114]⟩] w fun e w' => e = .returned (.bool true) ∧ w = w' := by
 go_enter Tryz.func157, Tryz.ntmps157
 go_wp2_with fail
 go_ret
 exact ⟨rfl, rfl⟩
theorem atom_reserved (s : ByteArray) (w : World) : Calls Tryz.prog 157 #[.string s] w fun e w' => e = .returned (.bool (isRes s)) ∧ w = w' := by
 cases h : isRes s with
 | true =>
  obtain ⟨r, hr, rfl⟩ := isRes_yes h
  clear h
  simp only [resList, List.mem_cons, List.mem_nil_iff, or_false] at hr
  rcases hr with rfl | rfl | rfl | rfl | rfl | rfl | rfl | rfl | rfl | rfl | rfl | rfl | rfl | rfl | rfl | rfl | rfl | rfl | rfl
  ·exact atom_reserved_0 w
  ·exact atom_reserved_1 w
  ·exact atom_reserved_2 w
  ·exact atom_reserved_3 w
  ·exact atom_reserved_4 w
  ·exact atom_reserved_5 w
  ·exact atom_reserved_6 w
  ·exact atom_reserved_7 w
  ·exact atom_reserved_8 w
  ·exact atom_reserved_9 w
  ·exact atom_reserved_10 w
  ·exact atom_reserved_11 w
  ·exact atom_reserved_12 w
  ·exact atom_reserved_13 w
  ·exact atom_reserved_14 w
  ·exact atom_reserved_15 w
  ·exact atom_reserved_16 w
  ·exact atom_reserved_17 w
  ·exact atom_reserved_18 w
 | false =>
  have r0 := isRes_no h [97, 102, 116, 101, 114] (by decide)
  have r1 := isRes_no h [97, 110, 100] (by decide)
  have r2 := isRes_no h [97, 110, 100, 97, 108, 115, 111] (by decide)
  have r3 := isRes_no h [98, 101, 103, 105, 110] (by decide)
  have r4 := isRes_no h [99, 97, 115, 101] (by decide)
  have r5 := isRes_no h [99, 97, 116, 99, 104] (by decide)
  have r6 := isRes_no h [100, 105, 118] (by decide)
  have r7 := isRes_no h [101, 110, 100] (by decide)
  have r8 := isRes_no h [102, 117, 110] (by decide)
  have r9 := isRes_no h [105, 102] (by decide)
  have r10 := isRes_no h [110, 111, 116] (by decide)
  have r11 := isRes_no h [111, 102] (by decide)
  have r12 := isRes_no h [111, 114] (by decide)
  have r13 := isRes_no h [111, 114, 101, 108, 115, 101] (by decide)
  have r14 := isRes_no h [114, 101, 99, 101, 105, 118, 101] (by decide)
  have r15 := isRes_no h [114, 101, 109] (by decide)
  have r16 := isRes_no h [116, 114, 121] (by decide)
  have r17 := isRes_no h [119, 104, 101, 110] (by decide)
  have r18 := isRes_no h [120, 111, 114] (by decide)
  clear h
  go_enter Tryz.func157, Tryz.ntmps157
  go_wp2_with fail
  go_ret
  exact ⟨rfl, rfl⟩
/-! ### heddleref01.Reserved, by its printed function -/
/-! ### plain atoms -/
theorem kindOf_in (c : Int) : (kindOf c != 0) = isIn c := by
 unfold kindOf isIn
 cases isSmall c <;> cases isCapital c <;> cases isDigit c <;> simp
 by_cases h1 : c = 95 <;> by_cases h2 : c = 64 <;> simp [h1, h2]
set_option maxRecDepth 100000 in
theorem atom_word (s : ByteArray) (k0 : Nat) (h0 : k0 ≤ s.size) (hm : s.size ≤ 140737488351232) (w : World) :
  Calls Tryz.prog 156 #[.string s, .int .i64 (k0 : Int)] w fun e w' => e = .returned (.int .i64 (runEnd isIn s k0 : Nat)) ∧ w = w' := by
 go_enter Tryz.func156, Tryz.ntmps156
 go_wp2_with fail
 go_loop [1] (fun i => ∃ k : Nat, i = .int .i64 (k : Int) ∧ k ≤ s.size ∧ Hid (runEnd isIn s k = runEnd isIn s k0)) (fun i => s.size - (intOf i).toNat)
 case atStart => exact ⟨k0, rfl, h0, rfl⟩
 case round =>
  obtain ⟨k, rfl, hk, HR⟩ := hrel
  by_cases hlt : k < s.size
  ·have hb := btk s k
   have hr := bt_range s (k : Int)
   by_cases hp : isIn (bt s (k : Int)) = true
   ·have HN : Hid (runEnd isIn s (k + 1) = runEnd isIn s k0) := Lib.hid ((runEnd_yes hlt hp).trans HR.out)
    have hkd : (kindOf (bt s (k : Int)) != 0) = true := by rw [kindOf_in]; exact hp
    clear hp
    go_wp2_with fail
    refine (atom_kind _ hr.1 hr.2 _).mono ?_
    rintro e w' ⟨rfl, rfl⟩
    go_wp2_with fail
    go_round
    case rel => exact ⟨k + 1, by go_num, by omega, HN.out⟩
    case measure => simp [intOf]; omega
   ·have hp' : isIn (bt s (k : Int)) = false := by simpa using hp
    have HN : Hid (runEnd isIn s k0 = k) := Lib.hid (HR.out.symm.trans (runEnd_no hlt hp'))
    have hkd : (kindOf (bt s (k : Int)) != 0) = false := by rw [kindOf_in]; exact hp'
    clear hp hp'
    go_wp2_with fail
    refine (atom_kind _ hr.1 hr.2 _).mono ?_
    rintro e w' ⟨rfl, rfl⟩
    go_wp2_with fail
    go_ret
    exact ⟨by rw [HN.out]; rfl, rfl⟩
  ·have HN : Hid (runEnd isIn s k0 = k) := Lib.hid (HR.out.symm.trans (runEnd_out (by omega)))
   go_wp2_with fail
   go_ret
   exact ⟨by rw [HN.out]; rfl, rfl⟩
/-- Does an atom stand without quotes? -/
def isPlain (s : ByteArray) : Bool := decide (0 < s.size) && isSmall (bt s 0) && decide (runEnd isIn s 0 = s.size) && !isRes s
set_option maxRecDepth 100000 in
theorem atom_plain (s : ByteArray) (hm : s.size ≤ 140737488351232) (w : World) :
  Calls Tryz.prog 167 #[.string s] w fun e w' => e = .returned (.bool (isPlain s)) ∧ w = w' := by
 by_cases h0 : s.size = 0
 ·have hl : s.toList.isEmpty = true := isEmpty_of h0
  have HE : Hid (isPlain s = false) := Lib.hid (by unfold isPlain; simp [h0])
  clear h0
  go_enter Tryz.func167, Tryz.ntmps167
  go_wp2_with fail
  go_ret
  exact ⟨by rw [HE.out]; rfl, rfl⟩
 ·have hpos : 0 < s.size := by omega
  have hl : s.toList.isEmpty = false := isEmpty_not h0
  have hb : ∀ h : 0 < s.size, ((s[0]'h).toNat : Int) = bt s 0 := btk s 0
  have hr := bt_range s 0
  have hk0 : (kindOf (bt s 0) == 1) = isSmall (bt s 0) := by
   unfold kindOf
   cases isSmall (bt s 0) <;> simp
   split
   ·simp
   ·split
    ·simp
    ·split <;> simp
  clear h0
  cases h1 : isSmall (bt s 0) with
  | false =>
   have HE : Hid (isPlain s = false) := Lib.hid (by unfold isPlain; simp [h1])
   rw [h1] at hk0
   clear h1
   go_enter Tryz.func167, Tryz.ntmps167
   go_wp2_with fail
   refine (atom_kind _ hr.1 hr.2 _).mono ?_
   rintro e w' ⟨rfl, rfl⟩
   go_wp2_with fail
   go_ret
   exact ⟨by rw [HE.out]; rfl, rfl⟩
  | true =>
   rw [h1] at hk0
   by_cases h2 : runEnd isIn s 0 = s.size
   ·have e2 : ((runEnd isIn s 0 : Nat) : Int) = (s.size : Int) := by rw [h2]
    have e3 : (((runEnd isIn s 0 : Nat) : Int) == (s.size : Int)) = true := by simp [h2]
    have HE : Hid (isPlain s = !isRes s) := Lib.hid (by unfold isPlain; simp [h1, h2, hpos])
    clear h1 h2 e2
    go_enter Tryz.func167, Tryz.ntmps167
    go_wp2_with fail
    refine (atom_kind _ hr.1 hr.2 _).mono ?_
    rintro e w' ⟨rfl, rfl⟩
    go_wp2_with fail
    refine (atom_word s 0 (Nat.zero_le _) hm _).mono ?_
    rintro e w' ⟨rfl, rfl⟩
    go_wp2_with fail
    refine (atom_reserved s _).mono ?_
    rintro e w' ⟨rfl, rfl⟩
    go_wp2_with fail
    go_ret
    exact ⟨by rw [HE.out]; rfl, rfl⟩
   ·have e3 : (((runEnd isIn s 0 : Nat) : Int) == (s.size : Int)) = false := by simp; omega
    have HE : Hid (isPlain s = false) := Lib.hid (by unfold isPlain; simp [h2])
    clear h1 h2
    go_enter Tryz.func167, Tryz.ntmps167
    go_wp2_with fail
    refine (atom_kind _ hr.1 hr.2 _).mono ?_
    rintro e w' ⟨rfl, rfl⟩
    go_wp2_with fail
    refine (atom_word s 0 (Nat.zero_le _) hm _).mono ?_
    rintro e w' ⟨rfl, rfl⟩
    go_wp2_with fail
    go_ret
    exact ⟨by rw [HE.out]; rfl, rfl⟩
/-! ### lex.isReserved -/
end Go.Proofs.YtibbcfeaododhaaGreatDoor
set_option linter.unusedSimpArgs false
set_option linter.unusedVariables false
namespace Go.Proofs.YtibbcfeaododhaaGreatDoor
open Go.RowKit Go.Sort Go.Proofs.YtibbcfeaododhaaGreatDoorW.PrintWords
/-- No character of it is the sign of a fault. -/
def Fine (s : ByteArray) : Prop := ∀ pos, pos < s.size → (Utf8.decode s pos).1 ≠ 65533
set_option maxRecDepth 100000 in
set_option maxHeartbeats 1000000 in
theorem strange_fine (s : ByteArray) (hs : Fine s) (w : World) :
  Calls Tryz.prog 166 #[.string s] w (IntPost w (-1)) := by
 have HS := Lib.hid hs
 clear hs
 go_enter Tryz.func166, Tryz.ntmps166
 go_wp2_with fail
 go_loopg [] s.size (fun gk wl => ∃ pos : Nat, gk = s.size - pos ∧ wl.heap[w.heap.size]? = some (.stringIter s pos) ∧ Hid (Below w.heap.size w wl))
 case atStart => exact ⟨0, rfl, heap_alloc_new w _, below_alloc (Below.refl _ _) _⟩
 case round =>
  obtain ⟨pos, hgk, hit, HB⟩ := hrel
  have HK := Lib.hid hgk
  clear hgk
  by_cases hlt : pos < s.size
  ·have hnx := fun ty => Lib.run_next_any_at (P := Tryz.prog) wr w.heap.size s pos ty hit hlt
   have hw1 := Lib.width_pos s pos
   have HB2 : Hid (Below w.heap.size w (wr.iterAt w.heap.size s (pos + (Utf8.decode s pos).2))) := Lib.hid (Lib.below_iterAt HB.out (Nat.le_refl _) _ _)
   have HI2 : Hid ((wr.iterAt w.heap.size s (pos + (Utf8.decode s pos).2)).heap[w.heap.size]? = some (.stringIter s (pos + (Utf8.decode s pos).2))) := Lib.hid (Lib.iterAt_heap wr _ s pos _ hit)
   have hd := HS.out pos hlt
   have hcb : (((Utf8.decode s pos).1 : Int) == 65533) = false := beq_eq_false_iff_ne.2 (by omega)
   clear hd hit
   go_wp2_with fail
   go_roundg (s.size - (pos + (Utf8.decode s pos).2))
   case measure => rw [HK.out]; omega
   case rel => exact ⟨_, rfl, HI2.out, HB2⟩
  ·have hnx := fun ty => Lib.run_next_end_at (P := Tryz.prog) wr w.heap.size s pos ty hit hlt
   clear hit
   go_wp2_with fail
   go_ret
   exact ⟨rfl, HB.out⟩
/-- What a plain word is quoted as. -/
def QuotePost (w : World) (s : ByteArray) (e : Ending) (w' : World) : Prop := e = .returned (.tuple #[.string s, .nilIface]) ∧ Below w.heap.size w w'
set_option maxRecDepth 100000 in
theorem quote_fine (s : ByteArray) (hs : Fine s) (hl : s.size ≤ 255) (hp : isPlain s = true) (w : World) : Calls Tryz.prog 130 #[.string s] w (QuotePost w s) := by
 have HST := Lib.hid (strange_fine s hs w)
 have HPL := Lib.hid fun W => atom_plain s (by omega) W
 have HP := Lib.hid hp
 have hd : decide ((s.size : Int) > 255) = false := decide_eq_false (by omega)
 clear hs hp
 go_enter Tryz.func130, Tryz.ntmps130
 go_wp2_with fail
 refine HST.out.mono ?_
 rintro e w1 ⟨rfl, hB⟩
 have HB := Lib.hid hB
 clear hB
 go_wp2_with fail
 refine (HPL.out w1).mono ?_
 rintro e w2 ⟨rfl, rfl⟩
 rw [HP.out]
 go_wp2_with fail
 go_ret2
 exact ⟨rfl, HB.out⟩
theorem valid_fine (s : ByteArray) (hs : Fine s) (hl : s.size ≤ 255) (hp : isPlain s = true) (w : World) : Calls Tryz.prog 136 #[.string s] w fun e w' => e = .returned (.bool true) ∧ Below w.heap.size w w' := by
 have HQ := Lib.hid (quote_fine s hs hl hp w)
 clear hs hl hp
 go_enter Tryz.func136, Tryz.ntmps136
 go_wp2_with fail
 refine HQ.out.mono ?_
 rintro e w1 ⟨rfl, hB⟩
 have HB := Lib.hid hB
 clear hB HQ
 go_wp2_with fail
 refine (Is_nil _).mono ?_
 rintro e w2 ⟨rfl, rfl⟩
 go_wp2_with fail
 refine (Is_nil _).mono ?_
 rintro e w3 ⟨rfl, rfl⟩
 go_wp2_with fail
 go_ret
 exact ⟨rfl, HB.out⟩
theorem fine_one (c : UInt8) (h : (Utf8.decode ⟨#[c]⟩ 0).1 ≠ 65533) : Fine ⟨#[c]⟩ := by
 intro pos hp
 have : pos < 1 := hp
 obtain rfl : pos = 0 := by omega
 exact h
abbrev sM : ByteArray := ⟨#[109]⟩
abbrev sF : ByteArray := ⟨#[102]⟩
theorem fineM : Fine sM := fine_one _ (by decide +kernel)
theorem fineF : Fine sF := fine_one _ (by decide +kernel)
theorem plainM : isPlain sM = true := by decide +kernel
theorem plainF : isPlain sF = true := by decide +kernel
end Go.Proofs.YtibbcfeaododhaaGreatDoor
set_option linter.unusedSimpArgs false
set_option linter.unusedVariables false
namespace Go.Proofs.YtibbcfeaododhaaGreatDoor
open Go.RowKit Go.Sort Go.Proofs.YtibbcfeaododhaaGreatDoorW.PrintWords Go.Proofs.YtibbcfeaododhaaGreatDoorW.PrintLast Go.Proofs.YtibbcfeaododhaaGreatDoorW.PrintMore
abbrev Ins := PCa.S132
abbrev Fn1 := PCa.S135
abbrev Md1 := PCa.S128
abbrev Tm1 := PCa.S27
def insL : List Ins := [⟨2, 0, 0⟩, ⟨13, 0, 0⟩]
def fun0 : Fn1 := ⟨sF, 1, 1, insL⟩
def mod0 : Md1 := ⟨sM, [0], [fun0]⟩
theorem one_some : PCa.heddlelaw15_one.f = some ([], [mod0]) := rfl
/-- The checker's state at block g: the program, and what it has at hand. -/
abbrev Ck (w0 W : World) (g : Nat) (bl al : List Bf) (nm : ByteArray) (ex : List Int) (fs : List Fn1) (fn : ByteArray) (fa fl : Int) (fc : List Ins) (at_ : Int) : Prop := PCa.IsS139 w0 W g [] [mod0] bl al nm ex fs fn fa fl fc at_
theorem below_01 (w : World) : Calls Tryz.prog 84 #[.int .i64 0, .int .i64 1] w fun e w' => e = .returned (.bool true) ∧ w = w' := by
 go_enter Tryz.func84, Tryz.ntmps84
 go_wp2
 go_ret
 exact ⟨rfl, rfl⟩
theorem operands_2 (w : World) : Calls Tryz.prog 169 #[.int .i64 2] w fun e w' => e = .returned (.int .i64 1) ∧ w = w' := by
 go_enter Tryz.func169, Tryz.ntmps169
 go_wp2
 go_ret
 exact ⟨rfl, rfl⟩
theorem operands_13 (w : World) : Calls Tryz.prog 169 #[.int .i64 13] w fun e w' => e = .returned (.int .i64 0) ∧ w = w' := by
 go_enter Tryz.func169, Tryz.ntmps169
 go_wp2
 go_ret
 exact ⟨rfl, rfl⟩
section
variable {w0 : World} {g : Nat} {bl al : List Bf} {nm : ByteArray} {ex : List Int} {fs : List Fn1} {fn : ByteArray} {fa fl at_ : Int}
set_option maxRecDepth 100000 in
set_option maxHeartbeats 2000000 in
theorem form_load (w : World) (h : Ck w0 w g bl al nm ex fs fn fa 1 insL at_) : Calls Tryz.prog 173 #[.pointer (some ⟨g, 0, none⟩), .agg #[.int .i64 2, .int .i64 0, .int .i64 0]] w fun e w' => e = .returned (.bool true) ∧ Below w.heap.size w w' := by
 have HI := Lib.hid h
 clear h
 go_enter Tryz.func173, Tryz.ntmps173
 go_upto_region 1 with (fail)
 have b0 : (w.alloc (.cells #[.int .i64 2, .int .i64 0, .int .i64 0] 132)).cell? ⟨w.heap.size, 0, none⟩ = some (.int .i64 2) := by simp
 have b1 : (w.alloc (.cells #[.int .i64 2, .int .i64 0, .int .i64 0] 132)).cell? ⟨w.heap.size, 1, none⟩ = some (.int .i64 0) := by simp
 have b2 : (w.alloc (.cells #[.int .i64 2, .int .i64 0, .int .i64 0] 132)).cell? ⟨w.heap.size, 2, none⟩ = some (.int .i64 0) := by simp
 have hb := below_alloc (Below.refl w.heap.size w) (.cells #[.int .i64 2, .int .i64 0, .int .i64 0] 132)
 generalize w.alloc (.cells #[.int .i64 2, .int .i64 0, .int .i64 0] 132) = w1 at b0 b1 b2 hb ⊢
 have HB := Lib.hid hb
 have HI1 := Lib.hid (HI.out.below hb)
 clear hb HI
 go_wp2_with fail
 refine (operands_2 _).mono ?_
 rintro e w2 ⟨rfl, rfl⟩
 go_wp2_with fail
 refine (operands_2 _).mono ?_
 rintro e w2 ⟨rfl, rfl⟩
 obtain ⟨A0, c0, A1, c1, A2, c2, A3, c3, A5, c5, A6, c6, A10, c10, hgb, hgw, hs0, hs1, hs2, hs3, hs5, hs6, hs10⟩ := HI1.out
 have k0 := PCa.cellS139_0 hgb
 have k1 := PCa.cellS139_1 hgb
 have k2 := PCa.cellS139_2 hgb
 have k3 := PCa.cellS139_3 hgb
 have k4 := PCa.cellS139_4 hgb
 have k5 := PCa.cellS139_5 hgb
 have k6 := PCa.cellS139_6 hgb
 have k7 := PCa.cellS139_7 hgb
 have k8 := PCa.cellS139_8 hgb
 have k9 := PCa.cellS139_9 hgb
 have k10 := PCa.cellS139_10 hgb
 have k11 := PCa.cellS139_11 hgb
 have f4 := blk_frozen hgb 4
 have f5 := blk_frozen hgb 5
 have f6 := blk_frozen hgb 6
 have f7 := blk_frozen hgb 7
 have f8 := blk_frozen hgb 8
 have f9 := blk_frozen hgb 9
 have f10 := blk_frozen hgb 10
 have f11 := blk_frozen hgb 11
 go_wp2_with fail
 go_quiet (fail)
 go_wp2_with fail
 clear k0 k1 k2 k3 k4 k5 k6 k7 k8 k9 k10 k11 f4 f5 f6 f7 f8 f9 f10 f11 hgb hgw hs0 hs1 hs2 hs3 hs5 hs6 hs10
 have hq := pw_below_drewN (Below.refl w1.heap.size w1) nq
 have HI2 := Lib.hid (HI1.out.below hq)
 have HB2 := Lib.hid (trans_below HB.out hq)
 have b1' := (hq.cell (World.block_lt_of_cell? w1 _ b1)).trans b1
 clear b0 b1 b2 HI1 HB
 generalize w1.drewN nq = w2 at hq HI2 HB2 b1' ⊢
 clear hq
 obtain ⟨A0, c0, A1, c1, A2, c2, A3, c3, A5, c5, A6, c6, A10, c10, hgb, hgw, hs0, hs1, hs2, hs3, hs5, hs6, hs10⟩ := HI2.out
 have k0 := PCa.cellS139_0 hgb
 have k1 := PCa.cellS139_1 hgb
 have k2 := PCa.cellS139_2 hgb
 have k3 := PCa.cellS139_3 hgb
 have k4 := PCa.cellS139_4 hgb
 have k5 := PCa.cellS139_5 hgb
 have k6 := PCa.cellS139_6 hgb
 have k7 := PCa.cellS139_7 hgb
 have k8 := PCa.cellS139_8 hgb
 have k9 := PCa.cellS139_9 hgb
 have k10 := PCa.cellS139_10 hgb
 have k11 := PCa.cellS139_11 hgb
 have f4 := blk_frozen hgb 4
 have f5 := blk_frozen hgb 5
 have f6 := blk_frozen hgb 6
 have f7 := blk_frozen hgb 7
 have f8 := blk_frozen hgb 8
 have f9 := blk_frozen hgb 9
 have f10 := blk_frozen hgb 10
 have f11 := blk_frozen hgb 11
 go_wp2_with fail
 go_quiet ((go_at_call 84; exact (below_01 _).mono fun e w9 h => ⟨h.1, _, h.2.symm⟩))
 go_wp2
 go_ret
 exact ⟨rfl, trans_below HB2.out (pw_below_drewN (Below.refl _ _) _)⟩
set_option maxRecDepth 100000 in
set_option maxHeartbeats 2000000 in
theorem form_ret (w : World) (h : Ck w0 w g bl al nm ex fs fn fa fl insL at_) : Calls Tryz.prog 173 #[.pointer (some ⟨g, 0, none⟩), .agg #[.int .i64 13, .int .i64 0, .int .i64 0]] w fun e w' => e = .returned (.bool true) ∧ Below w.heap.size w w' := by
 have HI := Lib.hid h
 clear h
 go_enter Tryz.func173, Tryz.ntmps173
 go_upto_region 1 with (fail)
 have b0 : (w.alloc (.cells #[.int .i64 13, .int .i64 0, .int .i64 0] 132)).cell? ⟨w.heap.size, 0, none⟩ = some (.int .i64 13) := by simp
 have b1 : (w.alloc (.cells #[.int .i64 13, .int .i64 0, .int .i64 0] 132)).cell? ⟨w.heap.size, 1, none⟩ = some (.int .i64 0) := by simp
 have b2 : (w.alloc (.cells #[.int .i64 13, .int .i64 0, .int .i64 0] 132)).cell? ⟨w.heap.size, 2, none⟩ = some (.int .i64 0) := by simp
 have hb := below_alloc (Below.refl w.heap.size w) (.cells #[.int .i64 13, .int .i64 0, .int .i64 0] 132)
 generalize w.alloc (.cells #[.int .i64 13, .int .i64 0, .int .i64 0] 132) = w1 at b0 b1 b2 hb ⊢
 have HB := Lib.hid hb
 have HI1 := Lib.hid (HI.out.below hb)
 clear hb HI
 go_wp2_with fail
 refine (operands_13 _).mono ?_
 rintro e w2 ⟨rfl, rfl⟩
 go_wp2_with fail
 refine (operands_13 _).mono ?_
 rintro e w2 ⟨rfl, rfl⟩
 obtain ⟨A0, c0, A1, c1, A2, c2, A3, c3, A5, c5, A6, c6, A10, c10, hgb, hgw, hs0, hs1, hs2, hs3, hs5, hs6, hs10⟩ := HI1.out
 have k0 := PCa.cellS139_0 hgb
 have k1 := PCa.cellS139_1 hgb
 have k2 := PCa.cellS139_2 hgb
 have k3 := PCa.cellS139_3 hgb
 have k4 := PCa.cellS139_4 hgb
 have k5 := PCa.cellS139_5 hgb
 have k6 := PCa.cellS139_6 hgb
 have k7 := PCa.cellS139_7 hgb
 have k8 := PCa.cellS139_8 hgb
 have k9 := PCa.cellS139_9 hgb
 have k10 := PCa.cellS139_10 hgb
 have k11 := PCa.cellS139_11 hgb
 have f4 := blk_frozen hgb 4
 have f5 := blk_frozen hgb 5
 have f6 := blk_frozen hgb 6
 have f7 := blk_frozen hgb 7
 have f8 := blk_frozen hgb 8
 have f9 := blk_frozen hgb 9
 have f10 := blk_frozen hgb 10
 have f11 := blk_frozen hgb 11
 go_wp2_with fail
 go_quiet (fail)
 go_wp2_with fail
 go_ret
 exact ⟨rfl, trans_below HB.out (pw_below_drewN (Below.refl _ _) _)⟩
end
theorem grownC_set (W : World) (g o : Nat) (v : Value) : W.grownBy (W.setCell ⟨g, o, none⟩ v) (some g) := ⟨rfl, rfl, rfl, by simp, fun k hk hne => Below.heap_setCell W ⟨g, o, none⟩ v k (fun e => hne (by rw [e]))⟩
theorem contFun_none (A : Option Addr) (c : Nat) (fv : Value) (w : World) : Calls Tryz.prog 171 #[.slice A 0 c, fv] w fun e w' => e = .returned (.bool false) ∧ w = w' := by
 have HI : Hid (Calls Tryz.prog 195 #[.slice A 0 c, fv] w fun e w' => e = .returned (.int .i64 (-1)) ∧ w = w') := Lib.hid (by
  go_enter Tryz.func195, Tryz.ntmps195
  go_wp2
  go_rounds 1
  go_ret
  exact ⟨rfl, rfl⟩)
 go_enter Tryz.func171, Tryz.ntmps171
 go_wp2_with fail
 refine HI.out.mono ?_
 rintro e w' ⟨rfl, rfl⟩
 go_wp2
 go_ret
 exact ⟨rfl, rfl⟩
theorem contMod_none (A : Option Addr) (c : Nat) (fv : Value) (w : World) : Calls Tryz.prog 137 #[.slice A 0 c, fv] w fun e w' => e = .returned (.bool false) ∧ w = w' := by
 have HI : Hid (Calls Tryz.prog 170 #[.slice A 0 c, fv] w fun e w' => e = .returned (.int .i64 (-1)) ∧ w = w') := Lib.hid (by
  go_enter Tryz.func170, Tryz.ntmps170
  go_wp2
  go_rounds 1
  go_ret
  exact ⟨rfl, rfl⟩)
 go_enter Tryz.func137, Tryz.ntmps137
 go_wp2_with fail
 refine HI.out.mono ?_
 rintro e w' ⟨rfl, rfl⟩
 go_wp2
 go_ret
 exact ⟨rfl, rfl⟩
abbrev kIns : Kd Ins := PCa.k132
abbrev kFun : Kd Fn1 := PCa.k135
abbrev kMod : Kd Md1 := PCa.k128
section
variable {w0 W : World} {g : Nat} {bl al : List Bf} {nm : ByteArray} {ex : List Int} {fs : List Fn1} {fn : ByteArray} {fa fl at_ : Int} {fc : List Ins}
theorem Ck.set10 (h : Ck w0 W g bl al nm ex fs fn fa fl fc at_) {B : Option Addr} {d : Nat} {l : List Ins} (hC : kIns.C w0 B l.length l) : Ck w0 (W.setCell ⟨g, 10, none⟩ (.slice B l.length d)) g bl al nm ex fs fn fa fl l at_ := by
 obtain ⟨A0, c0, A1, c1, A2, c2, A3, c3, A5, c5, A6, c6, A10, c10, hb, hg, hr0, hr1, hr2, hr3, hr5, hr6, hr10⟩ := h
 exact ⟨A0, c0, A1, c1, A2, c2, A3, c3, A5, c5, A6, c6, B, d, by simpa using blk_set hb 10 (.slice B l.length d), hg, hr0, hr1, hr2, hr3, hr5, hr6, hC⟩
theorem Ck.set5 (h : Ck w0 W g bl al nm ex fs fn fa fl fc at_) {B : Option Addr} {d : Nat} {l : List Int} (hC : Kd.C (Kd.int .i64) w0 B l.length l) : Ck w0 (W.setCell ⟨g, 5, none⟩ (.slice B l.length d)) g bl al nm l fs fn fa fl fc at_ := by
 obtain ⟨A0, c0, A1, c1, A2, c2, A3, c3, A5, c5, A6, c6, A10, c10, hb, hg, hr0, hr1, hr2, hr3, hr5, hr6, hr10⟩ := h
 exact ⟨A0, c0, A1, c1, A2, c2, A3, c3, B, d, A6, c6, A10, c10, by simpa using blk_set hb 5 (.slice B l.length d), hg, hr0, hr1, hr2, hr3, hC, hr6, hr10⟩
theorem Ck.set6 (h : Ck w0 W g bl al nm ex fs fn fa fl fc at_) {B : Option Addr} {d : Nat} {l : List Fn1} (hC : kFun.C w0 B l.length l) : Ck w0 (W.setCell ⟨g, 6, none⟩ (.slice B l.length d)) g bl al nm ex l fn fa fl fc at_ := by
 obtain ⟨A0, c0, A1, c1, A2, c2, A3, c3, A5, c5, A6, c6, A10, c10, hb, hg, hr0, hr1, hr2, hr3, hr5, hr6, hr10⟩ := h
 exact ⟨A0, c0, A1, c1, A2, c2, A3, c3, A5, c5, B, d, A10, c10, by simpa using blk_set hb 6 (.slice B l.length d), hg, hr0, hr1, hr2, hr3, hr5, hC, hr10⟩
/-- x.fun = f. -/
theorem Ck.setFun (h : Ck w0 W g bl al nm ex fs fn fa fl fc at_) {B : Option Addr} {d : Nat} {l : List Ins} (hC : kIns.C w0 B l.length l) (n : ByteArray) (a b : Int) :
  Ck w0 ((((W.setCell ⟨g, 7, none⟩ (.string n)).setCell ⟨g, 8, none⟩ (.int .i64 a)).setCell ⟨g, 9, none⟩ (.int .i64 b)).setCell ⟨g, 10, none⟩ (.slice B l.length d)) g bl al nm ex fs n a b l at_ ∧
   W.grownBy ((((W.setCell ⟨g, 7, none⟩ (.string n)).setCell ⟨g, 8, none⟩ (.int .i64 a)).setCell ⟨g, 9, none⟩ (.int .i64 b)).setCell ⟨g, 10, none⟩ (.slice B l.length d)) (some g) :=
 ⟨Ck.set10 (PCa.IsS139.set_9 (PCa.IsS139.set_8 (PCa.IsS139.set_7 h n) a) b) hC, (((grownC_set _ _ _ _).trans (grownC_set _ _ _ _)).trans (grownC_set _ _ _ _)).trans (grownC_set _ _ _ _)⟩
/-- x.mod = m. -/
theorem Ck.setMod (h : Ck w0 W g bl al nm ex fs fn fa fl fc at_) {B B' : Option Addr} {d d' : Nat} {l : List Int} {l' : List Fn1} (hC : Kd.C (Kd.int .i64) w0 B l.length l) (hC' : kFun.C w0 B' l'.length l') (n : ByteArray) :
  Ck w0 (((W.setCell ⟨g, 4, none⟩ (.string n)).setCell ⟨g, 5, none⟩ (.slice B l.length d)).setCell ⟨g, 6, none⟩ (.slice B' l'.length d')) g bl al n l l' fn fa fl fc at_ ∧
   W.grownBy (((W.setCell ⟨g, 4, none⟩ (.string n)).setCell ⟨g, 5, none⟩ (.slice B l.length d)).setCell ⟨g, 6, none⟩ (.slice B' l'.length d')) (some g) :=
 ⟨Ck.set6 (Ck.set5 (PCa.IsS139.set_4 h n) hC) hC', ((grownC_set _ _ _ _).trans (grownC_set _ _ _ _)).trans (grownC_set _ _ _ _)⟩
end
end Go.Proofs.YtibbcfeaododhaaGreatDoor
set_option linter.unusedSimpArgs false
set_option linter.unusedVariables false
namespace Go.Proofs.YtibbcfeaododhaaGreatDoor
open Go.RowKit Go.Sort Go.Proofs.YtibbcfeaododhaaGreatDoorW.PrintWords Go.Proofs.YtibbcfeaododhaaGreatDoorW.PrintLast Go.Proofs.YtibbcfeaododhaaGreatDoorW.PrintMore
/-- A checker's step: no fault, the state as told, nothing else turned. -/
def CkPost (w0 w : World) (g : Nat) (S : World → Prop) (e : Ending) (w' : World) : Prop := e = .returned .nilIface ∧ S w' ∧ w.grownBy w' (some g)
theorem insL_at {W : World} {B : Option Addr} (h : kIns.C W B insL.length insL) : ∃ ad, B = some ad ∧ W.cell? ad = some (.int .i64 2) ∧ W.cell? ⟨ad.block, ad.off + 1, none⟩ = some (.int .i64 0) ∧ W.cell? ⟨ad.block, ad.off + 2, none⟩ = some (.int .i64 0) ∧
  W.cell? ⟨ad.block, ad.off + 3, none⟩ = some (.int .i64 13) ∧ W.cell? ⟨ad.block, ad.off + 3 + 1, none⟩ = some (.int .i64 0) ∧ W.cell? ⟨ad.block, ad.off + 3 + 2, none⟩ = some (.int .i64 0) := by
 obtain ⟨ad, rfl, a0, a1, a2⟩ := PCa.at_T132 h 0 (by decide) (by decide)
 obtain ⟨ad', e, b0, b1, b2⟩ := PCa.at_T132 h 1 (by decide) (by decide)
 cases e
 have ez : ad.add 0 = ad := by simp [Addr.add]
 simp only [Int.toNat_zero, Nat.zero_mul, ez] at a0 a1 a2
 have e3 : ad.add 3 = ⟨ad.block, ad.off + 3, none⟩ := by simp [Addr.add]
 simp only [show (1 : Int).toNat = 1 from rfl, Nat.one_mul, e3] at b0 b1 b2
 exact ⟨ad, rfl, a0, a1, a2, b0, b1, b2⟩
theorem cell_g {W W' : World} {g : Nat} {p : Addr} {v : Value} (hg : W.grownBy W' (some g)) (hne : ¬ p.block = g) (h : W.cell? p = some v) : W'.cell? p = some v := by
 have hb := hg.block p.block (World.block_lt_of_cell? W _ h) (fun e => hne (Option.some.inj e))
 rw [← h]
 simp only [World.cell?, hb]
theorem cell_b {W W' : World} {p : Addr} {v : Value} (hb : Below W.heap.size W W') (h : W.cell? p = some v) : W'.cell? p = some v := (hb.cell (World.block_lt_of_cell? W _ h)).trans h
theorem _root_.Go.RowKit.Below.grownBy {W W' : World} {r : Option Nat} (h : Below W.heap.size W W') : W.grownBy W' r := ⟨h.os, h.tape, h.output, h.size, fun k hk _ => h.block k hk⟩
section
variable {w0 : World} {g : Nat} {bl al : List Bf} {nm : ByteArray} {ex : List Int} {fs : List Fn1} {fn : ByteArray} {fa fl at_ : Int} {fc : List Ins}
set_option maxRecDepth 100000 in
set_option maxHeartbeats 4000000 in
theorem chk_function (w : World) (h : Ck w0 w g bl al nm ex [fun0] fn fa fl fc at_) (hw : Below w0.heap.size w0 w) (B : Option Addr) (d : Nat) (hC : kIns.C w0 B insL.length insL) :
  Calls Tryz.prog 139 #[.pointer (some ⟨g, 0, none⟩), .int .i64 0, .agg #[.string sF, .int .i64 1, .int .i64 1, .slice B insL.length d]] w (CkPost w0 w g (fun W => Ck w0 W g bl al nm ex [fun0] sF 1 1 insL at_)) := by
 have HI := Lib.hid h
 have HW := Lib.hid hw
 have HC := Lib.hid hC
 have HV := Lib.hid fun W => valid_fine sF fineF (by decide) plainF W
 have HLen : Hid (insL.length = 2) := Lib.hid rfl
 have b0 : (w.alloc (.cells #[.string sF, .int .i64 1, .int .i64 1, .slice B insL.length d] 135)).cell? ⟨w.heap.size, 0, none⟩ = some (.string sF) := by simp
 have b1 : (w.alloc (.cells #[.string sF, .int .i64 1, .int .i64 1, .slice B insL.length d] 135)).cell? ⟨w.heap.size, 1, none⟩ = some (.int .i64 1) := by simp
 have b2 : (w.alloc (.cells #[.string sF, .int .i64 1, .int .i64 1, .slice B insL.length d] 135)).cell? ⟨w.heap.size, 2, none⟩ = some (.int .i64 1) := by simp
 have b3 : (w.alloc (.cells #[.string sF, .int .i64 1, .int .i64 1, .slice B insL.length d] 135)).cell? ⟨w.heap.size, 3, none⟩ = some (.slice B insL.length d) := by simp
 have hb := below_alloc (Below.refl w.heap.size w) (.cells #[.string sF, .int .i64 1, .int .i64 1, .slice B insL.length d] 135)
 clear h hw hC
 generalize hs : sF = s at *
 go_enter Tryz.func139, Tryz.ntmps139
 go_upto_region 1 with (fail)
 generalize w.alloc (.cells #[.string s, .int .i64 1, .int .i64 1, .slice B insL.length d] 135) = w1 at b0 b1 b2 b3 hb ⊢
 have HI1 := Lib.hid (HI.out.below hb)
 have HB1 := Lib.hid hb
 have hgl : g < w.heap.size := HI.out.lt
 have hne : ¬ w.heap.size = g := by omega
 obtain ⟨A0, c0, A1, c1, A2, c2, A3, c3, A5, c5, A6, c6, A10, c10, hgb, hgw, hs0, hs1, hs2, hs3, hs5, hs6, hs10⟩ := HI1.out
 have k0 := PCa.cellS139_0 hgb
 have k1 := PCa.cellS139_1 hgb
 have k2 := PCa.cellS139_2 hgb
 have k3 := PCa.cellS139_3 hgb
 have k4 := PCa.cellS139_4 hgb
 have k5 := PCa.cellS139_5 hgb
 have k6 := PCa.cellS139_6 hgb
 have k7 := PCa.cellS139_7 hgb
 have k8 := PCa.cellS139_8 hgb
 have k9 := PCa.cellS139_9 hgb
 have k10 := PCa.cellS139_10 hgb
 have k11 := PCa.cellS139_11 hgb
 have f4 := blk_frozen hgb 4
 have f5 := blk_frozen hgb 5
 have f6 := blk_frozen hgb 6
 have f7 := blk_frozen hgb 7
 have f8 := blk_frozen hgb 8
 have f9 := blk_frozen hgb 9
 have f10 := blk_frozen hgb 10
 have f11 := blk_frozen hgb 11
 go_upto_region 2 with (fail)
 obtain ⟨hI2, hG2⟩ := Ck.setFun HI1.out (d := d) HC.out s 1 1
 generalize (((w1.setCell ⟨g, 7, none⟩ (.string s)).setCell ⟨g, 8, none⟩ (.int .i64 1)).setCell ⟨g, 9, none⟩ (.int .i64 1)).setCell ⟨g, 10, none⟩ (.slice B insL.length d) = w2 at hI2 hG2 ⊢
 replace b0 := cell_g hG2 hne b0
 replace b1 := cell_g hG2 hne b1
 replace b2 := cell_g hG2 hne b2
 replace b3 := cell_g hG2 hne b3
 have HI2 := Lib.hid hI2
 have HG2 := Lib.hid ((hb.grownBy).trans hG2)
 clear k0 k1 k2 k3 k4 k5 k6 k7 k8 k9 k10 k11 f4 f5 f6 f7 f8 f9 f10 f11 hgb hgw hs0 hs1 hs2 hs3 hs5 hs6 hs10
 clear HI1 HB1 hb hI2 hG2
 go_wp2_with fail
 refine (HV.out w2).mono ?_
 rintro e w3 ⟨rfl, hb⟩
 replace b0 := cell_b hb b0
 replace b1 := cell_b hb b1
 replace b2 := cell_b hb b2
 replace b3 := cell_b hb b3
 have HI3 := Lib.hid (HI2.out.below hb)
 have HG3 := Lib.hid (HG2.out.trans (hb.grownBy))
 clear hb HI2 HG2 HV
 obtain ⟨A0, c0, A1, c1, A2, c2, A3, c3, A5, c5, A6, c6, A10, c10, hgb, hgw, hs0, hs1, hs2, hs3, hs5, hs6, hs10⟩ := HI3.out
 have k0 := PCa.cellS139_0 hgb
 have k1 := PCa.cellS139_1 hgb
 have k2 := PCa.cellS139_2 hgb
 have k3 := PCa.cellS139_3 hgb
 have k4 := PCa.cellS139_4 hgb
 have k5 := PCa.cellS139_5 hgb
 have k6 := PCa.cellS139_6 hgb
 have k7 := PCa.cellS139_7 hgb
 have k8 := PCa.cellS139_8 hgb
 have k9 := PCa.cellS139_9 hgb
 have k10 := PCa.cellS139_10 hgb
 have k11 := PCa.cellS139_11 hgb
 have f4 := blk_frozen hgb 4
 have f5 := blk_frozen hgb 5
 have f6 := blk_frozen hgb 6
 have f7 := blk_frozen hgb 7
 have f8 := blk_frozen hgb 8
 have f9 := blk_frozen hgb 9
 have f10 := blk_frozen hgb 10
 have f11 := blk_frozen hgb 11
 go_wp2_with fail
 refine (contFun_none _ _ _ _).mono ?_
 rintro e w4 ⟨rfl, rfl⟩
 have hl2 := HLen.out
 go_wp2_with fail
 have hW3 := HW.out.trans (below_grownC HG3.out HI3.out.ge HW.out.size)
 obtain ⟨ad, rfl, a0, a1, a2, a3, a4, a5⟩ := insL_at (Kd.C_below HC.out hW3)
 clear HC HW hW3
 clear k0 k1 k2 k3 k4 k5 k6 k7 k8 k9 k10 k11 f4 f5 f6 f7 f8 f9 f10 f11 hgb hgw hs0 hs1 hs2 hs3 hs5 hs6 hs10
 refine wp_loop_rounds 3 ?_
 rw [rounds_succ]
 go_upto_region 13 with (fail)
 have e0 : (w3.alloc (.cells #[.int .i64 2, .int .i64 0, .int .i64 0] 132)).cell? ⟨w3.heap.size, 0, none⟩ = some (.int .i64 2) := by simp
 have e1 : (w3.alloc (.cells #[.int .i64 2, .int .i64 0, .int .i64 0] 132)).cell? ⟨w3.heap.size, 1, none⟩ = some (.int .i64 0) := by simp
 have e2 : (w3.alloc (.cells #[.int .i64 2, .int .i64 0, .int .i64 0] 132)).cell? ⟨w3.heap.size, 2, none⟩ = some (.int .i64 0) := by simp
 have hb := below_alloc (Below.refl w3.heap.size w3) (.cells #[.int .i64 2, .int .i64 0, .int .i64 0] 132)
 generalize w3.alloc (.cells #[.int .i64 2, .int .i64 0, .int .i64 0] 132) = w4 at e0 e1 e2 hb ⊢
 replace a0 := cell_b hb a0
 replace a1 := cell_b hb a1
 replace a2 := cell_b hb a2
 replace a3 := cell_b hb a3
 replace a4 := cell_b hb a4
 replace a5 := cell_b hb a5
 have HI4 := Lib.hid (HI3.out.below hb)
 have HG4 := Lib.hid (HG3.out.trans hb.grownBy)
 clear hb HI3 HG3
 go_wp2_with fail
 refine (form_load _ HI4.out).mono ?_
 rintro e w5 ⟨rfl, hb⟩
 replace a0 := cell_b hb a0
 replace a1 := cell_b hb a1
 replace a2 := cell_b hb a2
 replace a3 := cell_b hb a3
 replace a4 := cell_b hb a4
 replace a5 := cell_b hb a5
 have HI5 := Lib.hid (HI4.out.below hb)
 have HG5 := Lib.hid (HG4.out.trans hb.grownBy)
 clear hb HI4 HG4 e0 e1 e2
 go_wp2_with fail
 rw [rounds_succ]
 go_upto_region 13 with (fail)
 have e0 : (w5.alloc (.cells #[.int .i64 13, .int .i64 0, .int .i64 0] 132)).cell? ⟨w5.heap.size, 0, none⟩ = some (.int .i64 13) := by simp
 have e1 : (w5.alloc (.cells #[.int .i64 13, .int .i64 0, .int .i64 0] 132)).cell? ⟨w5.heap.size, 1, none⟩ = some (.int .i64 0) := by simp
 have e2 : (w5.alloc (.cells #[.int .i64 13, .int .i64 0, .int .i64 0] 132)).cell? ⟨w5.heap.size, 2, none⟩ = some (.int .i64 0) := by simp
 have hb := below_alloc (Below.refl w5.heap.size w5) (.cells #[.int .i64 13, .int .i64 0, .int .i64 0] 132)
 generalize w5.alloc (.cells #[.int .i64 13, .int .i64 0, .int .i64 0] 132) = w6 at e0 e1 e2 hb ⊢
 replace a0 := cell_b hb a0
 replace a1 := cell_b hb a1
 replace a2 := cell_b hb a2
 replace a3 := cell_b hb a3
 replace a4 := cell_b hb a4
 replace a5 := cell_b hb a5
 have HI6 := Lib.hid (HI5.out.below hb)
 have HG6 := Lib.hid (HG5.out.trans hb.grownBy)
 clear hb HI5 HG5
 go_wp2_with fail
 refine (form_ret _ HI6.out).mono ?_
 rintro e w7 ⟨rfl, hb⟩
 replace a0 := cell_b hb a0
 replace a1 := cell_b hb a1
 replace a2 := cell_b hb a2
 replace a3 := cell_b hb a3
 replace a4 := cell_b hb a4
 replace a5 := cell_b hb a5
 have HI7 := Lib.hid (HI6.out.below hb)
 have HG7 := Lib.hid (HG6.out.trans hb.grownBy)
 clear hb HI6 HG6 e0 e1 e2
 go_wp2_with fail
 rw [rounds_succ]
 go_wp2_with fail
 go_ret
 exact ⟨rfl, HI7.out, HG7.out⟩
end
end Go.Proofs.YtibbcfeaododhaaGreatDoor
